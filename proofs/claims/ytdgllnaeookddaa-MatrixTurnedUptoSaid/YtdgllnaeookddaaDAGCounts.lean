/- No two of a matrix' picks say the same; how many there are. With no program in sight. -/
import Derived.Test.YtdgllnaeookddaaDAGBuildsAt
import Derived.Test.YtdgllnaeookddaaDAGOver
namespace Go.Proofs.Ytdgllnaeookddaa.Q
open Go.RowKit Go.Proofs.YtdgllnaeookddaaW.PrintWords Go.Proofs.YtdgllnaeookddaaW.PrintLast Go.Proofs.YtdgllnaeookddaaW.PrintMore
set_option linter.unusedVariables false
set_option linter.unusedSimpArgs false
theorem nodup_of_dup : ∀ l : List ByteArray, dupB l = false → l.Nodup
  | [], _ => List.nodup_nil
  | s :: r, h => by
    unfold dupB at h
    rw [Bool.or_eq_false_iff] at h
    refine List.nodup_cons.2 ⟨fun hm => ?_, nodup_of_dup r h.2⟩
    rw [(memB_iff s r).2 hm] at h
    cases h.1
theorem dig_add : ∀ (r : List Nat) (m n : Nat), (∀ k ∈ r, 0 < k) → digitsR r (m * prodL r + n) = digitsR r n
  | [], m, n, _ => rfl
  | k :: r, m, n, h => by
    have hr : ∀ x ∈ r, 0 < x := fun x hx => h x (by simp [hx])
    have hp := prodL_pos hr
    have e : m * prodL (k :: r) + n = (m * k) * prodL r + n := by rw [show prodL (k :: r) = k * prodL r from rfl, Nat.mul_assoc]
    rw [e]
    unfold digitsR
    rw [dig_add r (m * k) n hr]
    congr 1
    rw [Nat.mul_comm (m * k), Nat.mul_add_div hp, Nat.mul_comm m k, Nat.mul_add_mod]
theorem dig_inj : ∀ (ls : List Nat) (n m : Nat), (∀ k ∈ ls, 0 < k) → n < prodL ls → m < prodL ls → digitsR ls n = digitsR ls m → n = m
  | [], n, m, _, hn, hm, _ => by
    have : prodL [] = 1 := rfl
    omega
  | k :: r, n, m, h, hn, hm, he => by
    have hr : ∀ x ∈ r, 0 < x := fun x hx => h x (List.mem_cons_of_mem _ hx)
    have hP := prodL_pos hr
    have ep : prodL (k :: r) = k * prodL r := rfl
    rw [ep] at hn hm
    unfold digitsR at he
    injection he with h1 h2
    have hn1 : n / prodL r < k := (Nat.div_lt_iff_lt_mul hP).2 hn
    have hm1 : m / prodL r < k := (Nat.div_lt_iff_lt_mul hP).2 hm
    rw [Nat.mod_eq_of_lt hn1, Nat.mod_eq_of_lt hm1] at h1
    have hmod : ∀ x, digitsR r x = digitsR r (x % prodL r) := fun x => by
      have h := dig_add r (x / prodL r) (x % prodL r) hr
      rwa [show x / prodL r * prodL r + x % prodL r = x by rw [Nat.mul_comm]; exact Nat.div_add_mod ..] at h
    rw [hmod n, hmod m] at h2
    have h3 := dig_inj r _ _ hr (Nat.mod_lt _ hP) (Nat.mod_lt _ hP) h2
    have e1 := Nat.div_add_mod n (prodL r)
    have e2 := Nat.div_add_mod m (prodL r)
    rw [h1, h3] at e1
    omega
theorem pick_elem (axes : AX) (ds : List Nat) (hd : ds.length = axes.length) (k : Nat) (hk : k < axes.length) : (pickOf axes ds)[k]'(by rw [pickOf_length _ _ hd]; exact hk) = (⟨axes[k].f0, axes[k].f1.getD (ds[k]'(by omega)) ByteArray.empty⟩ : SV) := by
  unfold pickOf
  rw [List.getElem_zipWith]
theorem eqV_iff {a b : SV} : eqV a b = true ↔ a.f0 = b.f0 ∧ a.f1 = b.f1 := by
  unfold eqV
  rw [Bool.and_eq_true, beq_iff_eq, beq_iff_eq, toList_eq_iff, toList_eq_iff]
theorem nodup_at {l : List ByteArray} (h : l.Nodup) {i j : Nat} (hi : i < l.length) (hj : j < l.length) (e : l[i] = l[j]) : i = j := by
  have hp := List.pairwise_iff_getElem.1 h
  rcases Nat.lt_trichotomy i j with h1 | h1 | h1
  · exact absurd e (hp i j hi hj h1)
  · exact h1
  · exact absurd e.symm (hp j i hj hi h1)
theorem pick_holds {axes : AX} {ds es : List Nat} (hn : (axes.map (·.f0)).Nodup) (hv : ∀ a ∈ axes, a.f1.Nodup) (hd : ds.length = axes.length) (he : es.length = axes.length)
    (hdl : ∀ k (h : k < axes.length), ds.getD k 0 < axes[k].f1.length) (hel : ∀ k (h : k < axes.length), es.getD k 0 < axes[k].f1.length) (h : holdsB (pickOf axes es) (pickOf axes ds) = true) : es = ds := by
  apply List.ext_getElem (by omega)
  intro k h1 h2
  have hk : k < axes.length := by omega
  have hm := List.all_eq_true.1 h _ (List.getElem_mem (show k < (pickOf axes es).length by rw [pickOf_length _ _ he]; exact hk))
  obtain ⟨u, hu, hq⟩ := List.any_eq_true.1 hm
  obtain ⟨j, hj, rfl⟩ := List.getElem_of_mem hu
  have hj' : j < axes.length := by rw [pickOf_length _ _ hd] at hj; exact hj
  rw [pick_elem axes es he k hk, pick_elem axes ds hd j hj'] at hq
  obtain ⟨q1, q2⟩ := eqV_iff.1 hq
  have hkj : k = j := nodup_at hn (by simpa using hk) (by simpa using hj') (by simpa using q1)
  subst hkj
  have a1 := hel k hk
  have a2 := hdl k hk
  rw [List.getD_eq_getElem?_getD, List.getElem?_eq_getElem h1, Option.getD_some] at a1
  rw [List.getD_eq_getElem?_getD, List.getElem?_eq_getElem h2, Option.getD_some] at a2
  have q2 : axes[k].f1.getD es[k] ByteArray.empty = axes[k].f1.getD ds[k] ByteArray.empty := q2
  rw [List.getD_eq_getElem?_getD, List.getD_eq_getElem?_getD, List.getElem?_eq_getElem a1, List.getElem?_eq_getElem a2] at q2
  exact nodup_at (hv _ (List.getElem_mem hk)) a1 a2 q2
/-- A later pick does not hold an earlier one of its length. -/
def Apart (p q : List SV) : Prop := p.length = q.length → holdsB q p = false
theorem fine_vals {axes : AX} {inc exc : List (List SV)} (h : checkI axes inc exc = 0) : ∀ a ∈ axes, a.f1.Nodup := by
  rw [check_same] at h
  unfold checkR at h
  split at h
  · omega
  · split at h
    · unfold lastI at h
      split at h
      · omega
      · rename_i hb
        simp only [Bool.or_eq_true, not_or, Bool.not_eq_true] at hb
        intro a ha
        refine nodup_of_dup _ ?_
        cases hd : dupB a.f1 with
        | false => rfl
        | true =>
          have : dupAx axes = true := List.any_eq_true.2 ⟨a, ha, hd⟩
          rw [hb.1.2] at this
          cases this
    · omega
theorem picks_apart {axes : AX} {inc exc : List (List SV)} (h : checkI axes inc exc = 0) : (allPicks axes).Pairwise Apart := by
  obtain ⟨_, hd, _⟩ := fine_of h
  have hn := nodup_of_dup _ hd
  have hv := fine_vals h
  rw [allPicks_eq]
  refine List.pairwise_map.2 ?_
  refine List.pairwise_iff_getElem.2 fun i j hi hj hij _ => ?_
  rw [List.length_range] at hi hj
  rw [List.getElem_range, List.getElem_range]
  have hlb : leftB axes = true := by rw [many_pos]; simp; omega
  have hpos := (leftB_pos hlb).2
  have hmany : many axes = prodL (lens axes) := by unfold many; rw [if_pos hlb]
  have hlen : ∀ n, (digitsR (lens axes) n).length = axes.length := fun n => by rw [digitsR_length, lens_length]
  have hlt : ∀ n k (hk : k < axes.length), (digitsR (lens axes) n).getD k 0 < axes[k].f1.length := fun n k hk => by
    have := digits_lt hpos n k (by rw [lens_length]; exact hk)
    have e2 : (lens axes).getD k 0 = axes[k].f1.length := by simp [lens, hk]
    rwa [e2] at this
  cases hh : holdsB (pickOf axes (digitsR (lens axes) j)) (pickOf axes (digitsR (lens axes) i)) with
  | false => rfl
  | true =>
    have e := pick_holds hn hv (hlen i) (hlen j) (hlt i) (hlt j) hh
    have := dig_inj (lens axes) j i hpos (by rw [← hmany]; exact hj) (by rw [← hmany]; exact hi) e
    omega
theorem setV_app (v : SV) : ∀ l : List SV, v.f0 ∉ l.map (·.f0) → Ov.setV l v = l ++ [v]
  | [], _ => rfl
  | x :: r, h => by
    rw [List.map_cons, List.mem_cons, not_or] at h
    unfold Ov.setV
    rw [if_neg h.1, setV_app v r h.2]
    rfl
theorem fold_id : ∀ (vs acc : List SV), ((acc ++ vs).map (·.f0)).Nodup → vs.foldl Ov.setV acc = acc ++ vs
  | [], acc, _ => by simp
  | v :: vs, acc, h => by
    have hv : v.f0 ∉ acc.map (·.f0) := fun hm => by
      rw [List.map_append, List.nodup_append] at h
      exact h.2.2 _ hm _ (by rw [List.map_cons]; exact List.mem_cons_self ..) rfl
    rw [List.foldl_cons, setV_app v acc hv, fold_id vs (acc ++ [v]) (by rw [List.append_assoc]; exact h), List.append_assoc]
    rfl
end Go.Proofs.Ytdgllnaeookddaa.Q
