/- What the laws' copies and comparisons tell of equal data: the contracts of CopyMatrix, SamePicks and SameMatrix. -/
import Derived.Test.YtdgllnaeookddaaCAGRefP
import Derived.Test.YtdgllnaeookddaaCAGLend
import Derived.Test.YtdgllnaeookddaaCAQ9
import Derived.Test.YtdgllnaeookddaaCAQ0
import Derived.Test.YtdgllnaeookddaaCAQ8
import Derived.Test.YtdgllnaeookddaaCAQ10
import Derived.Test.YtdgllnaeookddaaCAGSpoil
import Derived.Test.YtdgllnaeookddaaCAQ3
namespace Go.Proofs.Ytdgllnaeookddaa.Q
open Go.RowKit Go.Proofs.YtdgllnaeookddaaW.PrintWords Go.Proofs.YtdgllnaeookddaaW.PrintLast Go.Proofs.YtdgllnaeookddaaW.PrintMore
set_option linter.unusedVariables false
set_option linter.unusedSimpArgs false
theorem cp_l0 (l : List (List SV)) (hn : l.length ≤ 1048576) (hl : ∀ x, x ∈ l → x.length ≤ 1048576) : ∀ (d i : Nat), i + d = l.length → Ev (fun k => shuttlelaw0_CopyPicks.l0 k l (l.take i) (i : Int)) l
  | 0, i, h => by
    refine Ev.step (fun k => by rw [shuttlelaw0_CopyPicks.l0, if_neg (by omega)]) ?_
    rw [List.take_of_length_le (by omega)]
    exact Ev.now _
  | d + 1, i, h => by
    have hi : i < l.length := by omega
    refine Ev.step (fun k => by rw [shuttlelaw0_CopyPicks.l0, if_pos (by omega), if_pos (by omega), rd_row l i hi, copyVars_f _ (Nat.le_trans (hl _ (List.getElem_mem hi)) (by omega)), Option.bind_some, if_pos (by rw [List.length_take]; omega), wrap_succ (n := l.length) (by omega) (by omega) (by omega)]) ?_
    have ih := cp_l0 l hn hl d (i + 1) (by omega)
    rw [List.take_succ_eq_append_getElem hi] at ih
    exact ih
theorem cp_ev (l : List (List SV)) (hn : l.length ≤ 1048576) (hl : ∀ x, x ∈ l → x.length ≤ 1048576) : Ev (fun k => shuttlelaw0_CopyPicks.f k l) l := by
  have := cp_l0 l hn hl l.length 0 (by omega)
  exact this
theorem cm_l0 (axes : AX) (inc exc i2 e2 : List (List SV)) (ht : Tiny axes inc exc) : ∀ (d i : Nat), i + d = axes.length → Ev (fun k => shuttlelaw0_CopyMatrix.l0 k (i : Int) axes inc exc (axes.take i) i2 e2) (axes, i2, e2)
  | 0, i, h => by
    refine Ev.step (fun k => by rw [shuttlelaw0_CopyMatrix.l0, if_neg (by omega)]) ?_
    rw [List.take_of_length_le (by omega)]
    exact Ev.now _
  | d + 1, i, h => by
    have hi : i < axes.length := by omega
    have n0 := ht.n0
    have hl := ht.l0 _ (List.getElem_mem hi)
    have hc : shuttlelaw0_CopyTexts.f axes[i].f1 = some axes[i].f1 := by
      unfold shuttlelaw0_CopyTexts.f
      have : axes[i].f1.length < 8796093022208 := by omega
      simp [this]
    refine Ev.step (fun k => by rw [shuttlelaw0_CopyMatrix.l0, if_pos (by omega), if_pos (by omega), rd_axis axes i hi, hc, Option.bind_some, if_pos (by rw [List.length_take]; omega), wrap_succ (n := axes.length) (by omega) (by omega) (by omega)]) ?_
    have ih := cm_l0 axes inc exc i2 e2 ht d (i + 1) (by omega)
    rw [List.take_succ_eq_append_getElem hi] at ih
    exact ih
theorem cm_ev (axes : AX) (inc exc : List (List SV)) (ht : Tiny axes inc exc) : Ev (fun k => shuttlelaw0_CopyMatrix.f k axes inc exc) (axes, inc, exc) := by
  unfold shuttlelaw0_CopyMatrix.f
  refine Ev.bind (cp_ev inc ht.n1 ht.l1) ?_
  refine Ev.bind (cp_ev exc ht.n2 ht.l2) ?_
  exact cm_l0 axes inc exc inc exc ht axes.length 0 (by omega)
end Go.Proofs.Ytdgllnaeookddaa.Q
namespace Go.Proofs.Ytdgllnaeookddaa.Q
open Go.RowKit Go.Proofs.YtdgllnaeookddaaW.PrintWords Go.Proofs.YtdgllnaeookddaaW.PrintLast Go.Proofs.YtdgllnaeookddaaW.PrintMore
set_option linter.unusedVariables false
set_option linter.unusedSimpArgs false
structure MC (w : World) (A0 A1 A2 : Option Addr) (c0 c1 c2 : Nat) (axes : AX) (inc exc : List (List SV)) : Prop where
  r0 : Kd.C k46 w A0 axes.length axes
  h0 : axes.length ≤ c0
  r1 : Kd.C (Kd.slice 51 k51) w A1 inc.length inc
  h1 : inc.length ≤ c1
  r2 : Kd.C (Kd.slice 51 k51) w A2 exc.length exc
  h2 : exc.length ≤ c2
theorem tiny_small {axes : AX} {inc exc : List (List SV)} (ht : Tiny axes inc exc) : smallB axes inc exc = true := by
  simp only [smallB, Bool.and_eq_true, decide_eq_true_eq, List.all_eq_true]
  refine ⟨⟨⟨Nat.le_trans ht.n0 (by omega), Nat.le_trans ht.n1 (by omega)⟩, Nat.le_trans ht.n2 (by omega)⟩, fun x hx => ?_⟩
  rcases List.mem_append.1 hx with h | h
  · exact Nat.le_trans (ht.l1 x h) (by omega)
  · exact Nat.le_trans (ht.l2 x h) (by omega)
def Few (l : List (List SV)) : Prop := l.length ≤ 1048576 ∧ ∀ p, p ∈ l → p.length ≤ 1048576
theorem few_build {axes : AX} {inc exc : List (List SV)} (ht : Tiny axes inc exc) : Few (buildP axes inc exc).1 := by
  unfold buildP
  split
  · rename_i hz
    split
    · exact ⟨Nat.zero_le _, fun p hp => by cases hp⟩
    · rename_i hbig
      split
      · exact ⟨by decide, fun p hp => by rw [List.mem_singleton.1 hp]; exact Nat.zero_le _⟩
      · rename_i hb0
        obtain ⟨h8, hd, hi⟩ := fine_of hz
        obtain ⟨hm, hil⟩ := many_small hz hbig hb0
        have hkl : (keptP axes exc).length ≤ 256 := by
          unfold keptP
          refine Nat.le_trans (List.length_filter_le _ _) ?_
          rw [allPicks_length]
          exact hm
        refine ⟨Nat.le_trans (addInc_len inc _) (by omega), fun p hp => ?_⟩
        rcases addInc_mem _ _ p hp with h | h
        · exact (kept_uniq h8 hd exc p h).2
        · exact ht.l1 p h
  · exact ⟨Nat.zero_le _, fun p hp => by cases hp⟩
end Go.Proofs.Ytdgllnaeookddaa.Q
