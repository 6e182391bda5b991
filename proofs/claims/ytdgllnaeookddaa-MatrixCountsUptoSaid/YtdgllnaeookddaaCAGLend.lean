/- A list that is lent with two more behind it, and whether it was kept: the contracts of LendVars and KeptVars. -/
import Derived.Test.YtdgllnaeookddaaCAGCheck
import Derived.Test.YtdgllnaeookddaaCAQ8
import Derived.Test.YtdgllnaeookddaaCAQ10
namespace Go.Proofs.Ytdgllnaeookddaa.Q
open Go.RowKit Go.Proofs.YtdgllnaeookddaaW.PrintWords Go.Proofs.YtdgllnaeookddaaW.PrintLast Go.Proofs.YtdgllnaeookddaaW.PrintMore
set_option linter.unusedVariables false
set_option linter.unusedSimpArgs false
theorem copyVars_f (l : List SV) (h : l.length ≤ 4398046511000) : shuttlelaw0_CopyVars.f l = some l := by
  unfold shuttlelaw0_CopyVars.f
  have : l.length < 4398046511104 := by omega
  simp [this]
end Go.Proofs.Ytdgllnaeookddaa.Q
