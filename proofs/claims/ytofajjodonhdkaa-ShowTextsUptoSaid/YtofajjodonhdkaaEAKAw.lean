/- The last word of chapter 5's statements, and Alike of the document. -/
import Derived.Test.YtofajjodonhdkaaEAQ8
import Derived.Test.YtofajjodonhdkaaEAKLend
namespace Go.Proofs.Ytofajjodonhdkaa.Q
open Go.RowKit Go.Proofs.YtofajjodonhdkaaW.PrintWords Go.Proofs.YtofajjodonhdkaaW.PrintLast Go.Proofs.YtofajjodonhdkaaW.PrintMore
set_option linter.unusedVariables false
set_option linter.unusedSimpArgs false
set_option maxRecDepth 100000 in
theorem awake_f : shuttlelaw5_awake.f = some true := by kernel_rfl
theorem awake_any (w : World) (hgm : GM w) : Calls Try.prog 11 #[] w fun e w' => e = .returned (.bool true) ∧ Below w.heap.size w w' := by
  refine (shuttlelaw5_awake.calls true w hgm awake_f).mono ?_
  rintro e w' ⟨rfl, hb⟩
  exact ⟨rfl, hb⟩
end Go.Proofs.Ytofajjodonhdkaa.Q
