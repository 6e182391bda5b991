/- strings.Contains at this seat, and what the calls ask of the world: bytealg.MaxLen's cell holds a number. -/
import Derived.Test.YtofajjodonhdkaaEAQ0
import Derived.Test.YtofajjodonhdkaaEAGShelf
namespace Go.Proofs.Ytofajjodonhdkaa.Q
open Go Go.RowKit Go.Shelf Go.Proofs.YtofajjodonhdkaaW.PrintWords
/-- The library's own variable bytealg.MaxLen holds some number. -/
def GM (w : World) : Prop := ∃ m : Int, w.cell? ⟨0, 0, none⟩ = some (.int .i64 m)
theorem GM.below {w w' : World} (h : GM w) (hb : Below w.heap.size w w') : GM w' := by
  obtain ⟨m, hm⟩ := h
  exact ⟨m, pw_cell_below hb hm⟩
theorem GM.drawn {w w' : World} (h : GM w) (hd : Drawn0 w w') : GM w' := h.below hd.below
def strings_Contains.f (a0 a1 : ByteArray) : Option Bool := if a0.size < 4294967281 then some (Lib.contains a0.data.toList a1.data.toList) else none
theorem strings_Contains.calls (a0 a1 : ByteArray) (r : Bool) (w : World) (hgm : GM w) (h : strings_Contains.f a0 a1 = some r) :
    Calls Try.prog 61 #[.string a0, .string a1] w fun e w' => e = .returned (.bool r) ∧ Drawn0 w w' := by
  unfold strings_Contains.f at h
  split at h
  case isFalse => cases h
  case isTrue hs =>
    obtain rfl := Option.some.inj h
    obtain ⟨m, hm⟩ := hgm
    exact (Try.strings_Contains a0 a1 m w hs hm).mono fun e w' ⟨he, hd⟩ => ⟨he, hd ▸ Drawn0.refl _⟩
end Go.Proofs.Ytofajjodonhdkaa.Q
