/- A chain of references, worked out from its end. -/
import Derived.Test.YtfkibolpanlelaaBAVChain
namespace Go.Proofs.Ytfkibolpanlelaa.Q
open Go Go.RowKit Go.Shelf Go.Proofs.YtfkibolpanlelaaW.PrintWords Go.Proofs.YtfkibolpanlelaaW.PrintLast Go.Proofs.YtfkibolpanlelaaW.PrintMore Go.Proofs.Ytfkibolpanlelaa.SMap
set_option linter.unusedVariables false
set_option linter.unusedSimpArgs false
theorem nums_bytes (s : ByteArray) : strOfNums (bytesOf s) = s := by
  have hid : ((fun n : Int => UInt8.ofNat n.toNat) ∘ fun b : UInt8 => (b.toNat : Int)) = id := by
    funext b
    simp
  apply ByteArray.ext
  simp [strOfNums, bytesOf, hid]
theorem nums_append (a b : List Int) : strOfNums (a ++ b) = strOfNums a ++ strOfNums b := by
  apply ByteArray.ext
  simp [strOfNums, ByteArray.data_append]
def nmsOk : Bool := (List.range 26).all fun i => (List.range 26).all fun j => decide (i = j) || !decide (nmJ i = nmJ j)
theorem nms_ok : nmsOk = true := by kernel_rfl
theorem nm_ne {i j : Nat} (hi : i < 26) (hj : j < 26) (h : i ≠ j) : nmJ i ≠ nmJ j := by
  have h1 := List.all_eq_true.1 nms_ok i (List.mem_range.2 hi)
  have h2 := List.all_eq_true.1 h1 j (List.mem_range.2 hj)
  rw [Bool.or_eq_true] at h2
  rcases h2 with h2 | h2
  · exact absurd (of_decide_eq_true h2) h
  · rw [Bool.not_eq_true'] at h2
    exact of_decide_eq_false h2
end Go.Proofs.Ytfkibolpanlelaa.Q
