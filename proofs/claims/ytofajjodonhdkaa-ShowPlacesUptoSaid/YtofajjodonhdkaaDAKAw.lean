/- The last word of chapter 5's statements, and Alike of the document. -/
import Derived.Test.YtofajjodonhdkaaDAQ8
import Derived.Test.YtofajjodonhdkaaDAKLend
namespace Go.Proofs.Ytofajjodonhdkaa.Q
open Go.RowKit Go.Proofs.YtofajjodonhdkaaW.PrintWords Go.Proofs.YtofajjodonhdkaaW.PrintLast Go.Proofs.YtofajjodonhdkaaW.PrintMore
set_option linter.unusedVariables false
set_option linter.unusedSimpArgs false
set_option maxRecDepth 100000 in
theorem awake_f : shuttlelaw5_awake.f = some true := by kernel_rfl
end Go.Proofs.Ytofajjodonhdkaa.Q
