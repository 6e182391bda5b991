/- Is in the printer's form. -/
import Derived.Test.YtofajjodonhdkaaDAKIs
namespace Go.Proofs.Ytofajjodonhdkaa.Q
open Go Go.RowKit Go.Shelf Go.Proofs.YtofajjodonhdkaaW.PrintWords Go.Proofs.YtofajjodonhdkaaW.PrintLast Go.Proofs.YtofajjodonhdkaaW.PrintMore
set_option linter.unusedVariables false
def tree_Is.f (l0 : List SN) : Option Bool := if l0.length ≤ 1048576 then some (isP l0) else none
theorem tree_Is.calls (A0 : Option Addr) (c0 : Nat) (l0 : List SN) (r : Bool) (w : World) (hr0 : Kd.C k31 w A0 l0.length l0) (hc0 : l0.length ≤ c0) (h : tree_Is.f l0 = some r) :
    Calls Try.prog 15 #[.slice A0 l0.length c0] w fun e w' => e = .returned (.bool r) ∧ Below w.heap.size w w' := by
  unfold tree_Is.f at h
  split at h
  case isTrue hl =>
    injection h with h
    subst h
    exact is_any A0 c0 l0 w hr0 hc0 hl
  case isFalse => cases h
end Go.Proofs.Ytofajjodonhdkaa.Q
