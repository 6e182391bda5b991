/- The contracts of package vars in the printer's form. -/
import Derived.Test.YtfkibolpanlelaaFAVRes
import Derived.Test.YtfkibolpanlelaaFAVSortW
namespace Go.Proofs.Ytfkibolpanlelaa.Q
open Go Go.RowKit Go.Shelf Go.Proofs.YtfkibolpanlelaaW.PrintWords Go.Proofs.YtfkibolpanlelaaW.PrintLast Go.Proofs.YtfkibolpanlelaaW.PrintMore Go.Proofs.Ytfkibolpanlelaa.SMap
set_option linter.unusedVariables false
set_option linter.unusedSimpArgs false
theorem vars_Overlay.calls (A0 : Option Addr) (c0 : Nat) (l0 : List (List S41)) (r : List S41) (w : World) (hr0 : Kd.C (Kd.slice 41 k41) w A0 l0.length l0) (hc0 : l0.length ≤ c0) (h : vars_Overlay.f l0 = some r) :
    Calls Try.prog 25 #[.slice A0 l0.length c0] w fun e w' => ∃ v0_ : Value, e = .returned v0_ ∧ Kd.R k41 41 w' w.heap.size (fun _ => True) v0_ r ∧ Below w.heap.size w w' := by
  unfold vars_Overlay.f at h
  split at h
  case isFalse => cases h
  case isTrue hs =>
    obtain rfl := Option.some.inj h
    exact over_any sort_any A0 c0 l0 w hr0 (of_decide_eq_true hs)
def smallV (vs : List S41) : Bool := vs.all fun v => decide (v.f1.size ≤ 1073741824)
theorem smallV_iff {vs : List S41} (h : smallV vs = true) : ∀ v ∈ vs, v.f1.size ≤ 1073741824 := fun v hv => by
  have := List.all_eq_true.1 h v hv
  simpa using this
def vars_Resolve.f (l0 : List S41) : Option (List S41 × Int × Int) := if smallV l0 = true then some (resolveP l0) else none
theorem vars_Resolve.calls (A0 : Option Addr) (c0 : Nat) (l0 : List S41) (r1 : List S41) (r2 : Int) (r3 : Int) (w : World) (hr0 : Kd.C k41 w A0 l0.length l0) (hc0 : l0.length ≤ c0) (hgm : GM w) (h : vars_Resolve.f l0 = some (r1, r2, r3)) :
    Calls Try.prog 14 #[.slice A0 l0.length c0] w fun e w' => ∃ v0_ : Value, e = .returned (.tuple #[v0_, .int .i64 r2, .int .i64 r3]) ∧ Kd.R k41 41 w' w.heap.size (fun _ => True) v0_ r1 ∧ Below w.heap.size w w' := by
  unfold vars_Resolve.f at h
  split at h
  case isFalse => cases h
  case isTrue hs =>
    have e := Option.some.inj h
    have := resolve_any A0 c0 l0 w hr0 (smallV_iff hs) hgm
    rw [e] at this
    exact this
def vars_Expand.f (a0 : ByteArray) (l1 : List S41) : Option (ByteArray × Int × Int) := if a0.size ≤ 1073741824 ∧ smallV l1 = true then some (expandP a0 l1) else none
theorem vars_Expand.calls (a0 : ByteArray) (A1 : Option Addr) (c1 : Nat) (l1 : List S41) (r1 : ByteArray) (r2 : Int) (r3 : Int) (w : World) (hr1 : Kd.C k41 w A1 l1.length l1) (hc1 : l1.length ≤ c1) (hgm : GM w) (h : vars_Expand.f a0 l1 = some (r1, r2, r3)) :
    Calls Try.prog 21 #[.string a0, .slice A1 l1.length c1] w fun e w' => e = .returned (.tuple #[.string r1, .int .i64 r2, .int .i64 r3]) ∧ Below w.heap.size w w' := by
  unfold vars_Expand.f at h
  split at h
  case isFalse => cases h
  case isTrue hs =>
    have e := Option.some.inj h
    have := expand_any w.heap.size rfl a0 A1 c1 l1 hr1 hc1 hs.1 (smallV_iff hs.2) hgm
    rw [e] at this
    exact this
end Go.Proofs.Ytfkibolpanlelaa.Q
