/- A list of nodes that is lent with two more behind it, and whether it was kept: the contracts of LendNodes and KeptNodes. -/
import Derived.Test.YtofajjodonhdkaaDAKOf
import Derived.Test.YtofajjodonhdkaaDAQ7
namespace Go.Proofs.Ytofajjodonhdkaa.Q
open Go.RowKit Go.Proofs.YtofajjodonhdkaaW.PrintWords Go.Proofs.YtofajjodonhdkaaW.PrintLast Go.Proofs.YtofajjodonhdkaaW.PrintMore
set_option linter.unusedVariables false
set_option linter.unusedSimpArgs false
theorem copyNodes_f (l : List SN) (h : l.length ≤ 1599289640000) : shuttlelaw0_CopyNodes.f l = some l := by
  unfold shuttlelaw0_CopyNodes.f
  have : l.length < 1599289640401 := by omega
  simp [this]
end Go.Proofs.Ytofajjodonhdkaa.Q
