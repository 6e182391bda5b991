/- The contract of vars.Overlay in the printer's form. -/
import Derived.Test.YtdgllnaeookddaaDAOvOver
import Derived.Test.YtdgllnaeookddaaDAOvSortW
namespace Go.Proofs.Ytdgllnaeookddaa.Q
open Go Go.RowKit Go.Shelf Go.Proofs.YtdgllnaeookddaaW.PrintWords Go.Proofs.YtdgllnaeookddaaW.PrintLast Go.Proofs.YtdgllnaeookddaaW.PrintMore Go.Proofs.Ytdgllnaeookddaa.SMap
set_option linter.unusedVariables false
def vars_Overlay.f (l0 : List (List S51)) : Option (List S51) := Ov.vars_Overlay.f l0
theorem vars_Overlay.calls (A0 : Option Addr) (c0 : Nat) (l0 : List (List S51)) (r : List S51) (w : World) (hr0 : Kd.C (Kd.slice 51 k51) w A0 l0.length l0) (hc0 : l0.length ≤ c0) (h : vars_Overlay.f l0 = some r) :
    Calls Try.prog 28 #[.slice A0 l0.length c0] w fun e w' => ∃ v0_ : Value, e = .returned v0_ ∧ Kd.R k51 51 w' w.heap.size (fun _ => True) v0_ r ∧ Below w.heap.size w w' := by
  unfold vars_Overlay.f Ov.vars_Overlay.f at h
  split at h
  case isFalse => cases h
  case isTrue hs =>
    obtain rfl := Option.some.inj h
    exact Ov.over_any Ov.sort_any A0 c0 l0 w hr0 (of_decide_eq_true hs)
end Go.Proofs.Ytdgllnaeookddaa.Q
