/- What the small functions of the laws over variables come to, in plain words. -/
import Derived.Test.YtfkibolpanlelaaEAVAw
import Derived.Test.YtfkibolpanlelaaEAQ0
import Derived.Test.YtfkibolpanlelaaEAQ3
import Derived.Test.YtfkibolpanlelaaEAQ4
import Derived.Test.YtfkibolpanlelaaEAVGiv
namespace Go.Proofs.Ytfkibolpanlelaa.Q
open Go Go.RowKit Go.Shelf Go.Proofs.YtfkibolpanlelaaW.PrintWords Go.Proofs.YtfkibolpanlelaaW.PrintLast Go.Proofs.YtfkibolpanlelaaW.PrintMore Go.Proofs.Ytfkibolpanlelaa.SMap
set_option linter.unusedVariables false
set_option linter.unusedSimpArgs false
theorem wrap_up {i : Nat} (h : i < 9223372036854775807) : wrap64 ((i : Int) + 1) = ((i + 1 : Nat) : Int) := by unfold wrap64; omega
theorem copy_ev (l : List SV) (h : l.length < 4398046511104) : shuttlelaw0_CopyVars.f l = some l := by
  unfold shuttlelaw0_CopyVars.f
  show (if ([] : List SV).length + l.length < 4398046511104 then some ([] ++ l) else none) = _
  rw [if_pos (by simpa using h), List.nil_append]
theorem nums_size (l : List Int) : (strOfNums l).size = l.length := by
  unfold strOfNums ByteArray.size
  simp
end Go.Proofs.Ytfkibolpanlelaa.Q
