/- A list that is lent with two more behind it, and whether it was kept: the contracts of LendVars and KeptVars. -/
import Derived.Test.YtdgllnaeookddaaDAGCheck
import Derived.Test.YtdgllnaeookddaaDAQ8
import Derived.Test.YtdgllnaeookddaaDAQ10
namespace Go.Proofs.Ytdgllnaeookddaa.Q
open Go.RowKit Go.Proofs.YtdgllnaeookddaaW.PrintWords Go.Proofs.YtdgllnaeookddaaW.PrintLast Go.Proofs.YtdgllnaeookddaaW.PrintMore
set_option linter.unusedVariables false
set_option linter.unusedSimpArgs false
theorem copyVars_f (l : List SV) (h : l.length ≤ 4398046511000) : shuttlelaw0_CopyVars.f l = some l := by
  unfold shuttlelaw0_CopyVars.f
  have : l.length < 4398046511104 := by omega
  simp [this]
theorem same_l0 (l : List SV) (hn : l.length ≤ 9223372036854775807) : ∀ (d i : Nat), i + d = l.length → Ev (fun k => shuttlelaw0_SameVars.l0 k l l (i : Int)) true
  | 0, i, h => by
    refine Ev.step (fun k => by rw [shuttlelaw0_SameVars.l0, if_neg (by omega)]) ?_
    exact Ev.now _
  | d + 1, i, h => by
    refine Ev.step (fun k => by rw [shuttlelaw0_SameVars.l0, if_pos (by omega), if_pos (by omega), if_pos (by omega), if_neg (by simp), wrap_succ (n := l.length) (by omega) (by omega) (by omega)]) ?_
    exact same_l0 l hn d (i + 1) (by omega)
theorem same_ev (l : List SV) (hn : l.length ≤ 9223372036854775807) : Ev (fun k => shuttlelaw0_SameVars.f k l l) true := by
  unfold shuttlelaw0_SameVars.f
  refine Ev.congr (fun k => by rw [if_pos rfl]) ?_
  exact same_l0 l hn l.length 0 (by omega)
end Go.Proofs.Ytdgllnaeookddaa.Q
