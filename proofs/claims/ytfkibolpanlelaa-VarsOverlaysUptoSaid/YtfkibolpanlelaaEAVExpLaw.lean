/- The walk of statement VarsExpands. -/
import Derived.Test.YtfkibolpanlelaaEAVRefE
import Derived.Test.YtfkibolpanlelaaEAVLend
import Derived.Test.YtfkibolpanlelaaEAVOpen
namespace Go.Proofs.Ytfkibolpanlelaa.Q
open Go Go.RowKit Go.Shelf Go.Proofs.YtfkibolpanlelaaW.PrintWords Go.Proofs.YtfkibolpanlelaaW.PrintLast Go.Proofs.YtfkibolpanlelaaW.PrintMore Go.Proofs.Ytfkibolpanlelaa.SMap
set_option linter.unusedVariables false
set_option linter.unusedSimpArgs false
theorem awake_at (w : World) (hgm : GM w) : Calls Try.prog 19 #[] w fun e w' => e = .returned (.bool true) ∧ Below w.heap.size w w' := by
  obtain ⟨k, hk⟩ := awake_ev.rounds
  exact shuttlelaw10_awake.calls k true w hgm hk
end Go.Proofs.Ytfkibolpanlelaa.Q
