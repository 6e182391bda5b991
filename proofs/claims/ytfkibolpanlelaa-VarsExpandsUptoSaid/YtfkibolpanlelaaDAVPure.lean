/- What the small functions of the laws over variables come to, in plain words. -/
import Derived.Test.YtfkibolpanlelaaDAVAw
import Derived.Test.YtfkibolpanlelaaDAQ0
import Derived.Test.YtfkibolpanlelaaDAQ3
import Derived.Test.YtfkibolpanlelaaDAQ4
import Derived.Test.YtfkibolpanlelaaDAVGiv
namespace Go.Proofs.Ytfkibolpanlelaa.Q
open Go Go.RowKit Go.Shelf Go.Proofs.YtfkibolpanlelaaW.PrintWords Go.Proofs.YtfkibolpanlelaaW.PrintLast Go.Proofs.YtfkibolpanlelaaW.PrintMore Go.Proofs.Ytfkibolpanlelaa.SMap
set_option linter.unusedVariables false
set_option linter.unusedSimpArgs false
theorem wrap_up {i : Nat} (h : i < 9223372036854775807) : wrap64 ((i : Int) + 1) = ((i + 1 : Nat) : Int) := by unfold wrap64; omega
theorem copy_ev (l : List SV) (h : l.length < 4398046511104) : shuttlelaw0_CopyVars.f l = some l := by
  unfold shuttlelaw0_CopyVars.f
  show (if ([] : List SV).length + l.length < 4398046511104 then some ([] ++ l) else none) = _
  rw [if_pos (by simpa using h), List.nil_append]
theorem exp_ev (t : ByteArray) (l : List SV) (ht : t.size ≤ 1073741824) (h : smallV l = true) : vars_Expand.f t l = some (expandP t l) := by
  unfold vars_Expand.f
  rw [if_pos ⟨ht, h⟩]
theorem smallV_of {l : List SV} (h : ∀ v ∈ l, v.f1.size ≤ 1073741824) : smallV l = true := List.all_eq_true.2 fun v hv => decide_eq_true (h v hv)
theorem bt_of (s : ByteArray) (i : Nat) : bt s (i : Int) = (bytesOf s).getD i 0 := by
  rw [← rd_bytesOf]
  rfl
theorem from_list (s : ByteArray) (i : Nat) : (fromB s i).data.toList = s.data.toList.drop i := by
  unfold fromB
  rw [ByteArray.data_extract, Array.toList_extract]
  show (List.drop i s.data.toList).take (s.size - i) = _
  rw [List.take_of_length_le]
  rw [List.length_drop, data_length]
  exact Nat.le_refl _
theorem nums_size (l : List Int) : (strOfNums l).size = l.length := by
  unfold strOfNums ByteArray.size
  simp
end Go.Proofs.Ytfkibolpanlelaa.Q
