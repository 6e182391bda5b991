-- Printed for this seat by gprint.py (the kit's printer over contracts proved by hand).
import Derived.Test.YtfkibolpanlelaaBAQ0
import Derived.Test.YtfkibolpanlelaaBAQ3
import Derived.Test.YtfkibolpanlelaaBAQ4
import Derived.Test.YtfkibolpanlelaaBAVGiv
namespace Go.Proofs.Ytfkibolpanlelaa.Q
open Go.RowKit Go.Proofs.YtfkibolpanlelaaW.PrintWords Go.Proofs.YtfkibolpanlelaaW.PrintLast Go.Proofs.YtfkibolpanlelaaW.PrintMore
attribute [local go_sem] max2_int min2_int max_two min_two max_three min_three max_four min_four   -- for this text's walks alone
set_option linter.unusedVariables false
set_option linter.unusedSimpArgs false
def shuttlelaw0_Low.f (a0 : Int) : Option (Int) := some (Go.bits .and .i64 a0 9223372036854775807)
set_option maxHeartbeats 8000000 in
set_option maxRecDepth 100000 in
theorem shuttlelaw0_Low.calls (a0 : Int) (r : Int) (w : World) (h : shuttlelaw0_Low.f a0 = some r) :
    Calls Try.prog 27 #[.int .i64 a0] w fun e w' => e = .returned (.int .i64 r) ∧ Drawn0 w w' := by
  have H : (some (Go.bits .and .i64 a0 9223372036854775807)) = some r := h
  clear h
  obtain rfl := Option.some.inj H
  go_enter Try.func27, Try.ntmps27
  go_wp2
  go_ret
  exact ⟨by first | rfl | (simp; done) | (simp [*]; done), by repeat (first | exact Drawn0.refl _ | apply Drawn0.step)⟩
end Go.Proofs.Ytfkibolpanlelaa.Q
