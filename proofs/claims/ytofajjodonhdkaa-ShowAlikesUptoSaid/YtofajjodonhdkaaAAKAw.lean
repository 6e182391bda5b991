/- The last word of chapter 5's statements, and Alike of the document. -/
import Derived.Test.YtofajjodonhdkaaAAQ8
import Derived.Test.YtofajjodonhdkaaAAKLend
namespace Go.Proofs.Ytofajjodonhdkaa.Q
open Go.RowKit Go.Proofs.YtofajjodonhdkaaW.PrintWords Go.Proofs.YtofajjodonhdkaaW.PrintLast Go.Proofs.YtofajjodonhdkaaW.PrintMore
set_option linter.unusedVariables false
set_option linter.unusedSimpArgs false
set_option maxRecDepth 100000 in
theorem awake_f : shuttlelaw5_awake.f = some true := by kernel_rfl
theorem awake_any (w : World) (hgm : GM w) : Calls Try.prog 11 #[] w fun e w' => e = .returned (.bool true) ∧ Below w.heap.size w w' := by
  refine (shuttlelaw5_awake.calls true w hgm awake_f).mono ?_
  rintro e w' ⟨rfl, hb⟩
  exact ⟨rfl, hb⟩
theorem like_l0 (a b : List SN) (hl : a.length = b.length) (hn : a.length ≤ 9223372036854775807) : ∀ (d i : Nat), i + d = a.length → Ev (fun k => shuttlelaw0_Alike.l0 k a b (i : Int)) (alikeB (a.drop i) (b.drop i))
  | 0, i, h => by
    rw [List.drop_of_length_le (by omega), List.drop_of_length_le (by omega)]
    refine Ev.step (fun k => by rw [shuttlelaw0_Alike.l0, if_neg (by omega)]) ?_
    exact Ev.now _
  | d + 1, i, h => by
    rw [alike_drop a b i (by omega) (by omega)]
    refine Ev.step (fun k => by rw [shuttlelaw0_Alike.l0, if_pos (by omega), if_pos (by omega), if_pos (by omega)]) ?_
    have ih := like_l0 a b hl hn d (i + 1) (by omega)
    unfold likeN nd
    generalize alikeB (a.drop (i + 1)) (b.drop (i + 1)) = R at ih ⊢
    by_cases e0 : (rd_T31 a (i : Int)).f0 = (rd_T31 b (i : Int)).f0
    · by_cases e1 : (rd_T31 a (i : Int)).f1 = (rd_T31 b (i : Int)).f1
      · by_cases e2 : (rd_T31 a (i : Int)).f2.toList = (rd_T31 b (i : Int)).f2.toList
        · by_cases e3 : (rd_T31 a (i : Int)).f3.toList = (rd_T31 b (i : Int)).f3.toList
          · refine Ev.congr (fun k => by rw [if_pos e0, if_pos e1, if_pos e2, if_pos e3, wrap_up (n := a.length) (by omega) (by omega) (by omega)]) ?_
            rw [decide_eq_true e0, decide_eq_true e1, e2, e3]
            simpa using ih
          · refine Ev.congr (fun k => by rw [if_pos e0, if_pos e1, if_pos e2, if_neg e3]) ?_
            rw [show ((rd_T31 a (i : Int)).f3.toList == (rd_T31 b (i : Int)).f3.toList) = false from beq_eq_false_iff_ne.2 e3]
            simpa using Ev.now _
        · refine Ev.congr (fun k => by rw [if_pos e0, if_pos e1, if_neg e2]) ?_
          rw [show ((rd_T31 a (i : Int)).f2.toList == (rd_T31 b (i : Int)).f2.toList) = false from beq_eq_false_iff_ne.2 e2]
          simpa using Ev.now _
      · refine Ev.congr (fun k => by rw [if_pos e0, if_neg e1]) ?_
        rw [decide_eq_false e1]
        simpa using Ev.now _
    · refine Ev.congr (fun k => by rw [if_neg e0]) ?_
      rw [decide_eq_false e0]
      simpa using Ev.now _
theorem like_ev (a b : List SN) (hn : a.length ≤ 9223372036854775807) : Ev (fun k => shuttlelaw0_Alike.f k a b) (alikeB a b) := by
  unfold shuttlelaw0_Alike.f
  by_cases hl : a.length = b.length
  · refine Ev.congr (fun k => by rw [if_pos (by omega)]) ?_
    exact like_l0 a b hl hn a.length 0 (by omega)
  · refine Ev.congr (fun k => by rw [if_neg (by omega)]) ?_
    rw [alike_len a b hl]
    exact Ev.now _
end Go.Proofs.Ytofajjodonhdkaa.Q
