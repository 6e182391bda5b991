/- What the matrix package's holds, hit, times and Count tell, with no program in sight. -/
import Derived.Test.YtdgllnaeookddaaDAGCheck
import Derived.Test.YtdgllnaeookddaaDAQ2
import Derived.Test.YtdgllnaeookddaaDAQ3
namespace Go.Proofs.Ytdgllnaeookddaa.Q
open Go.RowKit Go.Proofs.YtdgllnaeookddaaW.PrintWords Go.Proofs.YtdgllnaeookddaaW.PrintLast Go.Proofs.YtdgllnaeookddaaW.PrintMore
set_option linter.unusedVariables false
set_option linter.unusedSimpArgs false
def eqV (a b : SV) : Bool := a.f0.toList == b.f0.toList && (a.f1.toList == b.f1.toList)
def holdsB (x pick : List SV) : Bool := x.all fun v => pick.any fun u => eqV v u
def hitB (exc : List (List SV)) (pick : List SV) : Bool := exc.any fun x => holdsB x pick
def most : Nat := 1048576
def countI (axes : AX) (inc exc : List (List SV)) : Int :=
  if checkI axes inc exc = 0 then (if axes.length = 0 ∧ inc.length = 0 then 1 else ((min ((if axes.length = 0 then 0 else min (prodL (lens axes)) most) + inc.length) most : Nat) : Int)) else 0
theorem holds_l1 (x pick : List SV) (hn : pick.length ≤ 9223372036854775807) (xl xi : Int) (v : SV) (b' : Bool) (hK : ∀ b : Bool, b = pick.any (fun u => eqV v u) → Ev (fun k => if b = true then matrix_holds.l0 k pick x xl (wrap64 (xi + 1)) else some false) b') :
    ∀ (d i : Nat) (f : Bool), i + d = pick.length → f = (pick.take i).any (fun u => eqV v u) → Ev (fun k => matrix_holds.l1 k pick f x xl xi pick (pick.length : Int) (i : Int) v.f0 v.f1) b'
  | 0, i, f, h, hf => by
    refine Ev.step (fun k => by rw [matrix_holds.l1, if_neg (by omega)]) ?_
    exact hK f (by rw [hf, List.take_of_length_le (by omega)])
  | d + 1, i, f, h, hf => by
    have hi : i < pick.length := by omega
    refine Ev.step (fun k => by rw [matrix_holds.l1, if_pos (by omega), if_pos (by omega), if_pos (by omega), wrap_succ (n := pick.length) (by omega) (by omega) (by omega)]) ?_
    have e : (pick.take (i + 1)).any (fun u => eqV v u) = ((pick.take i).any (fun u => eqV v u) || eqV v pick[i]) := by rw [List.take_succ_eq_append_getElem hi, List.any_append]; simp
    rw [rd_var pick i hi]
    cases f with
    | true =>
      refine Ev.congr (fun k => by rw [if_pos rfl]) ?_
      exact holds_l1 x pick hn xl xi v b' hK d (i + 1) true (by omega) (by rw [e, ← hf]; rfl)
    | false =>
      refine Ev.congr (fun k => by rw [if_neg (by decide)]) ?_
      exact holds_l1 x pick hn xl xi v b' hK d (i + 1) _ (by omega) (by rw [e, ← hf]; rfl)
theorem holds_l0 (x pick : List SV) (hn : pick.length ≤ 9223372036854775807) (hx : x.length ≤ 9223372036854775807) : ∀ (d i : Nat), i + d = x.length → Ev (fun k => matrix_holds.l0 k pick x (x.length : Int) (i : Int)) (holdsB (x.drop i) pick)
  | 0, i, h => by
    refine Ev.step (fun k => by rw [matrix_holds.l0, if_neg (by omega)]) ?_
    rw [List.drop_eq_nil_of_le (by omega)]
    exact Ev.now _
  | d + 1, i, h => by
    have hi : i < x.length := by omega
    refine Ev.step (fun k => by rw [matrix_holds.l0, if_pos (by omega), if_pos (by omega), if_pos (by omega)]) ?_
    rw [rd_var x i hi]
    refine holds_l1 x pick hn _ _ x[i] _ (fun b hb => ?_) pick.length 0 false (by omega) (by simp)
    rw [List.drop_eq_getElem_cons hi]
    have e : holdsB (x[i] :: x.drop (i + 1)) pick = (b && holdsB (x.drop (i + 1)) pick) := by rw [hb]; rfl
    rw [e]
    cases b with
    | true =>
      refine Ev.congr (fun k => by rw [if_pos rfl, wrap_succ (n := x.length) (by omega) (by omega) (by omega)]) ?_
      exact holds_l0 x pick hn hx d (i + 1) (by omega)
    | false => exact Ev.now _
theorem holds_ev (x pick : List SV) (hn : pick.length ≤ 9223372036854775807) (hx : x.length ≤ 9223372036854775807) : Ev (fun k => matrix_holds.f k x pick) (holdsB x pick) := holds_l0 x pick hn hx x.length 0 (by omega)
theorem rd_row (l : List (List SV)) (i : Nat) (h : i < l.length) : rd_L6 l (i : Int) = l[i] := by simp [rd_L6, h]
theorem hit_l0 (exc : List (List SV)) (pick : List SV) (hn : pick.length ≤ 9223372036854775807) (hx : exc.length ≤ 9223372036854775807) (hxs : ∀ x, x ∈ exc → x.length ≤ 9223372036854775807) : ∀ (d i : Nat), i + d = exc.length → Ev (fun k => matrix_hit.l0 k pick exc (exc.length : Int) (i : Int)) (hitB (exc.drop i) pick)
  | 0, i, h => by
    refine Ev.step (fun k => by rw [matrix_hit.l0, if_neg (by omega)]) ?_
    rw [List.drop_eq_nil_of_le (by omega)]
    exact Ev.now _
  | d + 1, i, h => by
    have hi : i < exc.length := by omega
    refine Ev.step (fun k => by rw [matrix_hit.l0, if_pos (by omega), if_pos (by omega), if_pos (by omega)]) ?_
    rw [rd_row exc i hi]
    refine Ev.bind (holds_ev exc[i] pick hn (hxs _ (List.getElem_mem hi))) ?_
    rw [List.drop_eq_getElem_cons hi]
    have e : hitB (exc[i] :: exc.drop (i + 1)) pick = (holdsB exc[i] pick || hitB (exc.drop (i + 1)) pick) := rfl
    rw [e]
    cases holdsB exc[i] pick with
    | true => exact Ev.now _
    | false =>
      refine Ev.congr (fun k => by rw [if_neg (by decide), wrap_succ (n := exc.length) (by omega) (by omega) (by omega)]) ?_
      exact hit_l0 exc pick hn hx hxs d (i + 1) (by omega)
theorem hit_ev (axes : AX) (inc exc : List (List SV)) (pick : List SV) (hn : pick.length ≤ 9223372036854775807) (hx : exc.length ≤ 9223372036854775807) (hxs : ∀ x, x ∈ exc → x.length ≤ 9223372036854775807) : Ev (fun k => matrix_hit.f k axes inc exc pick) (hitB exc pick) := hit_l0 exc pick hn hx hxs exc.length 0 (by omega)
theorem times_ev (a b : Nat) (ha : a ≤ most) : Ev (fun k => matrix_times_int.f k (a : Int) (b : Int) 1048576) ((min (a * b) most : Nat) : Int) := by
  unfold most at ha ⊢
  unfold matrix_times_int.f
  by_cases h0 : a = 0
  · subst h0
    refine Ev.congr (fun k => by rw [if_pos (by rfl)]) ?_
    refine Ev.step (fun k => by rw [matrix_times_int.j0, if_pos rfl]) ?_
    simpa using Ev.now (0 : Int)
  · refine Ev.congr (fun k => by rw [if_neg (by omega)]) ?_
    by_cases hb : b = 0
    · subst hb
      refine Ev.step (fun k => by rw [matrix_times_int.j0, if_pos (by simp)]) ?_
      simpa using Ev.now (0 : Int)
    · have hq : Int.tdiv 1048576 (b : Int) = ((1048576 / b : Nat) : Int) := by
        rw [Int.tdiv_eq_ediv_of_nonneg (by omega)]
        rfl
      have hle : 1048576 / b ≤ 1048576 := Nat.div_le_self _ _
      have hw : wrap64 ((1048576 / b : Nat) : Int) = ((1048576 / b : Nat) : Int) := by
        generalize 1048576 / b = q at hle
        unfold wrap64
        omega
      refine Ev.step (fun k => by rw [matrix_times_int.j0, if_neg (by simp; omega), if_neg (by omega), hq, hw]) ?_
      by_cases hg : 1048576 / b < a
      · refine Ev.congr (fun k => by rw [if_pos (by omega)]) ?_
        have h1 : 1048576 < a * b := (Nat.div_lt_iff_lt_mul (by omega)).1 hg
        rw [Nat.min_eq_right (by omega)]
        exact Ev.now _
      · refine Ev.congr (fun k => by rw [if_neg (by omega)]) ?_
        have h1 : a * b ≤ 1048576 := (Nat.le_div_iff_mul_le (by omega)).1 (by omega)
        have h2 : wrap64 ((a : Int) * (b : Int)) = ((a * b : Nat) : Int) := by
          rw [← Int.natCast_mul]
          unfold wrap64
          omega
        have h3 : mn ((a * b : Nat) : Int) 1048576 = ((a * b : Nat) : Int) := by unfold mn; rw [if_neg (by omega)]
        rw [Nat.min_eq_left h1, h2, h3]
        exact Ev.now _
theorem min_times (x y P : Nat) : min (min x y * P) y = min (x * P) y := by
  rcases Nat.le_total x y with h | h
  · rw [Nat.min_eq_left h]
  · rw [Nat.min_eq_right h]
    rcases Nat.eq_zero_or_pos P with h0 | h0
    · rw [h0]; simp
    · have h1 : y ≤ y * P := Nat.le_mul_of_pos_right _ h0
      have h2 : x * 1 ≤ x * P := Nat.mul_le_mul_left _ h0
      rw [Nat.min_eq_right h1, Nat.min_eq_right (by omega)]
theorem count_l0 (axes : AX) (inc exc : List (List SV)) (ha : axes.length ≤ 5864062014805) (hi : inc.length ≤ 5864062014805) : ∀ (d i n : Nat), i + d = axes.length → n ≤ most →
    Ev (fun k => matrix_Count.l0 k (n : Int) axes (axes.length : Int) (i : Int) axes inc exc) ((min (min (n * prodL (lens (axes.drop i))) most + inc.length) most : Nat) : Int)
  | 0, i, n, h, hn => by
    refine Ev.step (fun k => by rw [matrix_Count.l0, if_neg (by omega)]) ?_
    rw [List.drop_eq_nil_of_le (by omega)]
    have e1 : min (n * prodL (lens [])) most = n := by
      rw [show prodL (lens []) = 1 from rfl, Nat.mul_one, Nat.min_eq_left hn]
    unfold most at *
    have e2 : wrap64 ((n : Int) + (inc.length : Int)) = ((n + inc.length : Nat) : Int) := by unfold wrap64; omega
    have e3 : mn ((n + inc.length : Nat) : Int) 1048576 = ((min (n + inc.length) 1048576 : Nat) : Int) := by unfold mn; split <;> omega
    rw [e1, e2, e3]
    exact Ev.now _
  | d + 1, i, n, h, hn => by
    have hlt : i < axes.length := by omega
    refine Ev.step (fun k => by rw [matrix_Count.l0, if_pos (by omega), if_pos (by omega), if_pos (by omega), wrap_succ (n := axes.length) (by omega) (by omega) (by omega)]) ?_
    rw [rd_axis axes i hlt]
    refine Ev.bind (times_ev n axes[i].f1.length hn) ?_
    have ih := count_l0 axes inc exc ha hi d (i + 1) (min (n * axes[i].f1.length) most) (by omega) (Nat.min_le_right _ _)
    rw [min_times] at ih
    rw [List.drop_eq_getElem_cons hlt]
    have e : prodL (lens (axes[i] :: axes.drop (i + 1))) = axes[i].f1.length * prodL (lens (axes.drop (i + 1))) := rfl
    rw [e, ← Nat.mul_assoc]
    exact ih
theorem count_ev (axes : AX) (inc exc : List (List SV)) (hs : smallB axes inc exc = true) : Ev (fun k => matrix_Count.f k axes inc exc) (countI axes inc exc) := by
  have hs' := hs
  simp only [smallB, Bool.and_eq_true, decide_eq_true_eq, List.all_eq_true] at hs'
  obtain ⟨⟨⟨h0, h1⟩, h2⟩, h3⟩ := hs'
  unfold matrix_Count.f countI
  have hc : matrix_Check.f axes inc exc = some (checkI axes inc exc) := if_pos hs
  rw [hc]
  refine Ev.congr (fun k => by rw [Option.bind_some]) ?_
  by_cases hz : checkI axes inc exc = 0
  · refine Ev.congr (fun k => by rw [if_pos hz]) ?_
    rw [if_pos hz]
    unfold matrix_bare.f
    by_cases hl : axes.length = 0
    · refine Ev.congr (fun k => by rw [if_pos (show (axes.length : Int) = 0 by omega), Option.bind_some]) ?_
      by_cases hi : inc.length = 0
      · rw [if_pos ⟨hl, hi⟩]
        refine Ev.congr (fun k => by rw [if_pos (by simp [hi])]) ?_
        exact Ev.now _
      · rw [if_neg (fun h => hi h.2), if_pos hl]
        refine Ev.congr (fun k => by rw [if_neg (by simp; intro h; simp [h] at hi), if_neg (by omega)]) ?_
        refine Ev.step (fun k => by rw [matrix_Count.j0]) ?_
        have := count_l0 axes inc exc h0 h1 axes.length 0 0 (by omega) (by decide)
        simpa using this
    · refine Ev.congr (fun k => by rw [if_neg (show ¬ (axes.length : Int) = 0 by omega), Option.bind_some, if_neg (by decide), if_pos (by omega)]) ?_
      rw [if_neg (fun h => hl h.1), if_neg hl]
      refine Ev.step (fun k => by rw [matrix_Count.j0]) ?_
      have := count_l0 axes inc exc h0 h1 axes.length 0 1 (by omega) (by decide)
      simpa using this
  · refine Ev.congr (fun k => by rw [if_neg hz]) ?_
    rw [if_neg hz]
    exact Ev.now _
end Go.Proofs.Ytdgllnaeookddaa.Q
