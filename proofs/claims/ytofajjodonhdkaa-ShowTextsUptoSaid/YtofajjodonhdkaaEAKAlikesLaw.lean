/- The walk of statement ShowAlikes. -/
import Derived.Test.YtofajjodonhdkaaEAKAw
import Derived.Test.YtofajjodonhdkaaEAKKept
import Derived.Test.YtofajjodonhdkaaEAKOpen
namespace Go.Proofs.Ytofajjodonhdkaa.Q
open Go Go.RowKit Go.Shelf Go.Proofs.YtofajjodonhdkaaW.PrintWords Go.Proofs.YtofajjodonhdkaaW.PrintLast Go.Proofs.YtofajjodonhdkaaW.PrintMore
set_option linter.unusedVariables false
set_option linter.unusedSimpArgs false
theorem own_okN {α : Type} {d : Kd α} {w : World} {e base n c g : Nat} {ok : Nat → Prop} {xs : List α} (h : d.R e w base ok (.slice (some ⟨g, 0, none⟩) n c) xs) : ok g :=
  h.1 g (by simp [Value.ownBlock])
/-- A list of the call's own, in a block between two numbers. -/
def OwnN (w : World) (lo hi : Nat) (v : Value) (xs : List SN) : Prop := Kd.R k31 31 w lo (fun k => lo ≤ k ∧ k < hi) v xs
theorem OwnN.of_R {w : World} {base : Nat} {v : Value} {xs : List SN} (h : Kd.R k31 31 w base (fun _ => True) v xs) : OwnN w base w.heap.size v xs := Kd.R_mono (Kd.R_bound h) (fun k hk => ⟨hk.2.1, hk.2.2.1⟩)
theorem OwnN.below {w w' : World} {lo hi : Nat} {v : Value} {xs : List SN} (h : OwnN w lo hi v xs) (hb : Below w.heap.size w w') : OwnN w' lo hi v xs := Kd.R_below h hb
theorem OwnN.C {w : World} {lo hi n c : Nat} {A : Option Addr} {xs : List SN} (h : OwnN w lo hi (.slice A n c) xs) : Kd.C k31 w A xs.length xs := (Kd.R_reads' h).2.2
theorem OwnN.cap {w : World} {lo hi n c : Nat} {A : Option Addr} {xs : List SN} (h : OwnN w lo hi (.slice A n c) xs) : n ≤ c := (Kd.R_reads' h).2.1
theorem OwnN.at_g {w : World} {lo hi n c g : Nat} {xs : List SN} (h : OwnN w lo hi (.slice (some ⟨g, 0, none⟩) n c) xs) : lo ≤ g ∧ g < hi := own_okN h
theorem OwnN.front {w : World} {lo hi m c g : Nat} {xs : List SN} (h : OwnN w lo hi (.slice (some ⟨g, 0, none⟩) m c) (xs ++ [spN, spN])) : Kd.C k31 w (some ⟨g, 0, none⟩) xs.length xs := by
  have := Kd.C_take (xs := xs ++ [spN, spN]) (m := xs.length) h.C (by simp)
  rw [List.take_left' rfl] at this
  exact this
end Go.Proofs.Ytofajjodonhdkaa.Q
