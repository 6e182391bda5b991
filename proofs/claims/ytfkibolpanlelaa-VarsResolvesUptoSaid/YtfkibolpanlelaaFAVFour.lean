/- What the laws over any variables share: alike lists, doubled dollars. -/
import Derived.Test.YtfkibolpanlelaaFAVTheC
import Derived.Test.YtfkibolpanlelaaFAQ0
namespace Go.Proofs.Ytfkibolpanlelaa.Q
open Go Go.RowKit Go.Shelf Go.Proofs.YtfkibolpanlelaaW.PrintWords Go.Proofs.YtfkibolpanlelaaW.PrintLast Go.Proofs.YtfkibolpanlelaaW.PrintMore Go.Proofs.Ytfkibolpanlelaa.SMap
set_option linter.unusedVariables false
set_option linter.unusedSimpArgs false
theorem bt_u (s : ByteArray) (i : Nat) (c : UInt8) (h : s.data.toList[i]? = some c) : bt s (i : Int) = (c.toNat : Int) := by
  rw [bt_of, bytesOf, List.getD_eq_getElem?_getD, List.getElem?_map, h]
  rfl
theorem u36 (c : UInt8) : (c.toNat : Int) = 36 ↔ c = 36 := by
  constructor
  · intro h
    have : c.toNat = 36 := by omega
    exact UInt8.toNat_inj.1 (by rw [this]; rfl)
  · rintro rfl; rfl
end Go.Proofs.Ytfkibolpanlelaa.Q
