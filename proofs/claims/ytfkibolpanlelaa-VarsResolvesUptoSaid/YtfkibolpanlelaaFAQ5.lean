-- Printed for this seat by gprint.py (the kit's printer over contracts proved by hand).
import Derived.Test.YtfkibolpanlelaaFAQ0
import Derived.Test.YtfkibolpanlelaaFAQ2
namespace Go.Proofs.Ytfkibolpanlelaa.Q
open Go.RowKit Go.Proofs.YtfkibolpanlelaaW.PrintWords Go.Proofs.YtfkibolpanlelaaW.PrintLast Go.Proofs.YtfkibolpanlelaaW.PrintMore
attribute [local go_sem] max2_int min2_int max_two min_two max_three min_three max_four min_four   -- for this text's walks alone
theorem bl_swap : ∀ a b : List UInt8, (!(Op.bytesLess a b || a == b)) = Op.bytesLess b a
  | [], [] => rfl
  | _ :: _, [] => rfl
  | [], _ :: _ => rfl
  | a :: x, b :: y => by
    have ih := bl_swap x y
    show (!((decide (a < b) || (a == b && Op.bytesLess x y)) || (a == b && x == y))) = (decide (b < a) || (b == a && Op.bytesLess y x))
    rw [← ih]
    by_cases h1 : a = b
    · subst h1
      simp [UInt8.lt_irrefl]
    · have h2 : (a == b) = false := beq_eq_false_iff_ne.2 h1
      have h3 : (b == a) = false := beq_eq_false_iff_ne.2 (fun e => h1 e.symm)
      rw [h2, h3, Bool.false_and, Bool.false_and, Bool.or_false, Bool.or_false, Bool.false_and, Bool.or_false]
      have h4 : a.toNat ≠ b.toNat := fun e => h1 (UInt8.toNat_inj.1 e)
      rw [Bool.eq_iff_iff]
      simp only [Bool.not_eq_true', decide_eq_false_iff_not, decide_eq_true_eq, UInt8.lt_iff_toNat_lt]
      omega
theorem gtr_less (t : TypeId) (a b : ByteArray) : binOp .gtr t (.string a) (.string b) = pure (.bool (Op.bytesLess b.toList a.toList)) := by rw [← bl_swap]; simp [binOp, Op.stringOp]
attribute [local go_sem] gtr_less
set_option linter.unusedVariables false
set_option linter.unusedSimpArgs false
-- NOT PRINTED: function 5 (shuttlelaw10_VarsOverlays)
end Go.Proofs.Ytfkibolpanlelaa.Q
