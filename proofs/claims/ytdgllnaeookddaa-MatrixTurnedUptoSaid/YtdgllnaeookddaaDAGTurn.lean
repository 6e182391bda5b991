/- A matrix's axes and their values turned round: the same picks, but for the order. With no program in sight. -/
import Derived.Test.YtdgllnaeookddaaDAGSame
namespace Go.Proofs.Ytdgllnaeookddaa.Q
open Go.RowKit Go.Proofs.YtdgllnaeookddaaW.PrintWords Go.Proofs.YtdgllnaeookddaaW.PrintLast Go.Proofs.YtdgllnaeookddaaW.PrintMore
set_option linter.unusedVariables false
set_option linter.unusedSimpArgs false
/-- One value of each axis. -/
def OfAx : AX → List SV → Prop
  | [], [] => True
  | a :: r, v :: s => (v.f0 = a.f0 ∧ v.f1 ∈ a.f1) ∧ OfAx r s
  | _, _ => False
theorem ofAx_snoc : ∀ {A : AX} {p : List SV} {a : S46} {v : SV}, OfAx A p → v.f0 = a.f0 → v.f1 ∈ a.f1 → OfAx (A ++ [a]) (p ++ [v])
  | [], [], a, v, _, h0, h1 => ⟨⟨h0, h1⟩, trivial⟩
  | [], _ :: _, a, v, h, _, _ => h.elim
  | _ :: _, [], a, v, h, _, _ => h.elim
  | b :: r, u :: s, a, v, h, h0, h1 => ⟨h.1, ofAx_snoc h.2 h0 h1⟩
def turnA (axes : AX) : AX := axes.reverse.map fun a => ⟨a.f0, a.f1.reverse⟩
theorem turnA_cons (a : S46) (r : AX) : turnA (a :: r) = turnA r ++ [⟨a.f0, a.f1.reverse⟩] := by simp [turnA]
theorem turnA_len (axes : AX) : (turnA axes).length = axes.length := by simp [turnA]
theorem turnA_turnA (axes : AX) : turnA (turnA axes) = axes := by
  unfold turnA
  rw [← List.map_reverse, List.reverse_reverse, List.map_map]
  conv => rhs; rw [← List.map_id axes]
  apply List.map_congr_left
  intro a _
  simp
theorem ofAx_turn : ∀ {A : AX} {p : List SV}, OfAx A p → OfAx (turnA A) p.reverse
  | [], [], _ => trivial
  | [], _ :: _, h => h.elim
  | _ :: _, [], h => h.elim
  | a :: r, v :: s, h => by
    rw [turnA_cons, List.reverse_cons]
    exact ofAx_snoc (ofAx_turn h.2) h.1.1 (by simpa using h.1.2)
theorem ofAx_turn' {A : AX} {p : List SV} : OfAx (turnA A) p.reverse ↔ OfAx A p := by
  refine ⟨fun h => ?_, ofAx_turn⟩
  have := ofAx_turn h
  rwa [turnA_turnA, List.reverse_reverse] at this
theorem ofAx_pickOf : ∀ (axes : AX) (ds : List Nat), ds.length = axes.length → (∀ k (h : k < axes.length), ds.getD k 0 < axes[k].f1.length) → OfAx axes (pickOf axes ds)
  | [], [], _, _ => trivial
  | [], d :: ds, h, _ => by simp at h
  | a :: r, [], h, _ => by simp at h
  | a :: r, d :: ds, h, hd => by
    have ih := ofAx_pickOf r ds (by simpa using h) (fun k hk => hd (k + 1) (Nat.succ_lt_succ hk))
    have h0 : d < a.f1.length := hd 0 (Nat.succ_pos _)
    refine ⟨⟨rfl, ?_⟩, ih⟩
    show a.f1.getD d ByteArray.empty ∈ a.f1
    rw [List.getD_eq_getElem?_getD, List.getElem?_eq_getElem h0]
    exact List.getElem_mem h0
theorem ofAx_digits : ∀ {axes : AX} {p : List SV}, OfAx axes p → ∃ ds : List Nat, ds.length = axes.length ∧ (∀ k (h : k < axes.length), ds.getD k 0 < axes[k].f1.length) ∧ pickOf axes ds = p
  | [], [], _ => ⟨[], rfl, fun k h => absurd h (Nat.not_lt_zero _), rfl⟩
  | [], _ :: _, h => h.elim
  | _ :: _, [], h => h.elim
  | a :: r, v :: s, h => by
    obtain ⟨ds, h1, h2, h3⟩ := ofAx_digits h.2
    obtain ⟨d, hd, he⟩ := List.getElem_of_mem h.1.2
    refine ⟨d :: ds, by simp [h1], fun k hk => ?_, ?_⟩
    · rcases k with _ | k
      · exact hd
      · exact h2 k (by simpa using hk)
    · show (⟨a.f0, a.f1.getD d ByteArray.empty⟩ : SV) :: pickOf r ds = v :: s
      rw [h3, List.getD_eq_getElem?_getD, List.getElem?_eq_getElem hd, Option.getD_some, he, ← h.1.1]
theorem dig_all : ∀ (ls ds : List Nat), ds.length = ls.length → (∀ k, k < ls.length → ds.getD k 0 < ls.getD k 0) → ∃ n, n < prodL ls ∧ digitsR ls n = ds
  | [], [], _, _ => ⟨0, by decide, rfl⟩
  | [], d :: ds, h, _ => by simp at h
  | k :: r, [], h, _ => by simp at h
  | k :: r, d :: ds, h, hd => by
    obtain ⟨n, hn, he⟩ := dig_all r ds (by simpa using h) (fun j hj => by simpa using hd (j + 1) (by simpa using hj))
    have h0 : d < k := by simpa using hd 0 (by simp)
    have hr : ∀ x ∈ r, 0 < x := by
      intro x hx
      obtain ⟨j, hj, rfl⟩ := List.getElem_of_mem hx
      have := hd (j + 1) (by simpa using hj)
      have e : (k :: r).getD (j + 1) 0 = r[j] := by simp [hj]
      rw [e] at this
      omega
    have hp := prodL_pos hr
    refine ⟨d * prodL r + n, ?_, ?_⟩
    · show d * prodL r + n < k * prodL r
      have : (d + 1) * prodL r ≤ k * prodL r := Nat.mul_le_mul_right _ h0
      rw [Nat.succ_mul] at this
      omega
    · unfold digitsR
      rw [dig_add r d n hr, he, Nat.mul_comm d, Nat.mul_add_div hp, Nat.div_eq_of_lt hn, Nat.add_zero, Nat.mod_eq_of_lt h0]
theorem mem_all {axes : AX} (h0 : axes.length ≠ 0) (p : List SV) : p ∈ allPicks axes ↔ OfAx axes p := by
  have hlen : ∀ n, (digitsR (lens axes) n).length = axes.length := fun n => by rw [digitsR_length, lens_length]
  have e2 : ∀ k (hk : k < axes.length), (lens axes).getD k 0 = axes[k].f1.length := fun k hk => by simp [lens, hk]
  constructor
  · intro h
    rw [allPicks_eq] at h
    obtain ⟨n, hn, rfl⟩ := List.mem_map.1 h
    rw [List.mem_range] at hn
    have hlb : leftB axes = true := by rw [many_pos]; simp; omega
    have hpos := (leftB_pos hlb).2
    refine ofAx_pickOf axes _ (hlen n) fun k hk => ?_
    have := digits_lt hpos n k (by rw [lens_length]; exact hk)
    rwa [e2 k hk] at this
  · intro h
    obtain ⟨ds, h1, h2, rfl⟩ := ofAx_digits h
    obtain ⟨n, hn, he⟩ := dig_all (lens axes) ds (by rw [lens_length]; exact h1) (fun k hk => by rw [lens_length] at hk; rw [e2 k hk]; exact h2 k hk)
    unfold allPicks
    rw [if_neg h0]
    exact List.mem_map.2 ⟨n, List.mem_range.2 hn, by rw [he]⟩
theorem all_nodup {axes : AX} {inc exc : List (List SV)} (h : checkI axes inc exc = 0) : (allPicks axes).Nodup :=
  (picks_apart h).imp fun {a b} hab e => by
    subst e
    have h1 : holdsB a a = true := List.all_eq_true.2 fun v hv => List.any_eq_true.2 ⟨v, hv, eqV_iff.2 ⟨rfl, rfl⟩⟩
    rw [hab rfl] at h1
    cases h1
theorem any_reverse {α : Type} (f : α → Bool) (l : List α) : l.reverse.any f = l.any f := by
  rw [Bool.eq_iff_iff, List.any_eq_true, List.any_eq_true]
  simp only [List.mem_reverse]
theorem hit_reverse (exc : List (List SV)) (p : List SV) : hitB exc p.reverse = hitB exc p := by
  unfold hitB holdsB
  simp only [any_reverse]
theorem kept_mem {axes : AX} (h0 : axes.length ≠ 0) (exc : List (List SV)) (p : List SV) : p ∈ keptP (turnA axes) exc ↔ p.reverse ∈ keptP axes exc := by
  unfold keptP
  rw [List.mem_filter, List.mem_filter, mem_all h0, mem_all (by rw [turnA_len]; exact h0), hit_reverse]
  have := ofAx_turn' (A := axes) (p := p.reverse)
  rw [List.reverse_reverse] at this
  rw [this]
theorem dup_reverse (l : List ByteArray) : dupB l.reverse = dupB l := by
  induction l with
  | nil => rfl
  | cons x r ih =>
    rw [List.reverse_cons, dupB_snoc, ih, dupB, Bool.or_comm]
    congr 1
    rw [Bool.eq_iff_iff, memB_iff, memB_iff, List.mem_reverse]
theorem names_reverse (l : List ByteArray) : namesI l.reverse = namesI l := by
  unfold namesI
  rw [dup_reverse, List.all_reverse]
theorem filter_map_const {α : Type} (f : α → Bool) (c : Int) (l : List α) : (l.filter f).map (fun _ => c) = List.replicate (l.filter f).length c := by
  induction l.filter f with
  | nil => rfl
  | cons x r ih => simp [ih, List.replicate_succ]
theorem dupL_turn (axes : AX) : dupL (turnA axes) = dupL axes := by
  unfold dupL
  rw [filter_map_const, filter_map_const]
  congr 1
  unfold turnA
  rw [List.filter_map, List.length_map]
  have e : ((fun a : S46 => dupB a.f1) ∘ fun a : S46 => (⟨a.f0, a.f1.reverse⟩ : S46)) = fun a => dupB a.f1 := by
    funext a
    exact dup_reverse a.f1
  rw [e, List.filter_reverse, List.length_reverse]
theorem check_turn (axes : AX) (inc exc : List (List SV)) : checkI (turnA axes) inc exc = checkI axes inc exc := by
  unfold checkI
  rw [turnA_len, dupL_turn]
  have e : checkL (turnA axes) inc exc = checkL axes inc exc := by
    unfold checkL
    congr 1
    rw [show (turnA axes).map (·.f0) = (axes.map (·.f0)).reverse by simp [turnA], names_reverse]
  rw [e]
theorem prodL_snoc (l : List Nat) (x : Nat) : prodL (l ++ [x]) = prodL l * x := by
  induction l with
  | nil => simp [prodL]
  | cons k r ih => rw [List.cons_append, prodL, ih, prodL, Nat.mul_assoc]
theorem prodL_reverse (l : List Nat) : prodL l.reverse = prodL l := by
  induction l with
  | nil => rfl
  | cons k r ih => rw [List.reverse_cons, prodL_snoc, ih, prodL, Nat.mul_comm]
theorem lens_turn (axes : AX) : lens (turnA axes) = (lens axes).reverse := by simp [lens, turnA]
theorem count_turn (axes : AX) (inc exc : List (List SV)) : countI (turnA axes) inc exc = countI axes inc exc := by
  unfold countI
  rw [check_turn, turnA_len, lens_turn, prodL_reverse]
/-- What the two Builds answer: the same count and fault, and each pick of the one stands in the other, the other way round. -/
structure TurnedB (P Q : List (List SV) × Int × Int) : Prop where
  code : Q.2.2 = P.2.2
  count : Q.2.1 = P.2.1
  len : Q.1.length = P.1.length
  there : ∀ p ∈ P.1, p.reverse ∈ Q.1
  names : ∀ p ∈ P.1, (p.map (·.f0)).Nodup
theorem build_turned (axes : AX) (exc : List (List SV)) : TurnedB (buildP axes [] exc) (buildP (turnA axes) [] exc) := by
  unfold buildP
  rw [check_turn, count_turn, turnA_len]
  by_cases hz : checkI axes [] exc = 0
  · rw [if_pos hz, if_pos hz]
    by_cases hb : 256 < countI axes [] exc
    · rw [if_pos hb, if_pos hb]
      exact ⟨rfl, rfl, rfl, (fun p hp => by cases hp), (fun p hp => by cases hp)⟩
    · rw [if_neg hb, if_neg hb]
      by_cases h0 : axes.length = 0 ∧ ([] : List (List SV)).length = 0
      · rw [if_pos h0, if_pos h0]
        refine ⟨rfl, rfl, rfl, fun p hp => ?_, fun p hp => ?_⟩
        · obtain rfl : p = [] := by simpa using hp
          simp
        · obtain rfl : p = [] := by simpa using hp
          exact List.nodup_nil
      · rw [if_neg h0, if_neg h0]
        have hn : axes.length ≠ 0 := fun e => h0 ⟨e, rfl⟩
        have hin : ∀ p ∈ keptP axes exc, p.reverse ∈ keptP (turnA axes) exc := fun p hp => by rw [kept_mem hn, List.reverse_reverse]; exact hp
        refine ⟨rfl, rfl, ?_, hin, fun p hp => ?_⟩
        · show (keptP (turnA axes) exc).length = (keptP axes exc).length
          have hz2 : checkI (turnA axes) [] exc = 0 := by rw [check_turn]; exact hz
          have n1 : (keptP axes exc).Nodup := (all_nodup hz).filter _
          have n2 : (keptP (turnA axes) exc).Nodup := (all_nodup hz2).filter _
          have n3 : ((keptP axes exc).map List.reverse).Nodup := by
            refine List.pairwise_map.2 (n1.imp fun {a b} hab e => hab ?_)
            have := congrArg List.reverse e
            simpa using this
          have hp : ((keptP axes exc).map List.reverse).Perm (keptP (turnA axes) exc) := by
            refine (List.perm_ext_iff_of_nodup n3 n2).2 fun p => ?_
            rw [kept_mem hn, List.mem_map]
            constructor
            · rintro ⟨q, hq, rfl⟩
              rw [List.reverse_reverse]
              exact hq
            · intro h
              exact ⟨p.reverse, h, List.reverse_reverse p⟩
          rw [← hp.length_eq, List.length_map]
        · obtain ⟨h8, hd, hi⟩ := fine_of hz
          exact nodup_of_dup _ (kept_uniq h8 hd exc p hp).1
  · rw [if_neg hz, if_neg hz]
    exact ⟨rfl, rfl, rfl, (fun p hp => by cases hp), (fun p hp => by cases hp)⟩
theorem over_reverse {p : List SV} (hn : (p.map (·.f0)).Nodup) : Ov.overB [p.reverse] = Ov.overB [p] := by
  have hr : (p.reverse.map (·.f0)).Nodup := by rw [List.map_reverse]; exact (List.reverse_perm _).nodup_iff.2 hn
  have e1 : Ov.overL [p].flatten = p := by
    show ([p].flatten).foldl Ov.setV [] = p
    rw [show [p].flatten = p by simp, fold_id p [] (by simpa using hn)]
    rfl
  have e2 : Ov.overL [p.reverse].flatten = p.reverse := by
    show ([p.reverse].flatten).foldl Ov.setV [] = p.reverse
    rw [show [p.reverse].flatten = p.reverse by simp, fold_id p.reverse [] (by simpa using hr)]
    rfl
  unfold Ov.overB
  rw [e1, e2]
  exact Ov.sort_unique ((Ov.sort_perm _).trans (List.reverse_perm p)) (Ov.sort_sorted hr) hn
end Go.Proofs.Ytdgllnaeookddaa.Q
