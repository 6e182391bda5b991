/- What the laws' spoilers of lists, picks and matrices write to: nothing but their arguments' own blocks. -/
import Derived.Test.YtdgllnaeookddaaDAGLend
namespace Go.Proofs.Ytdgllnaeookddaa.Q
open Go.RowKit Go.Proofs.YtdgllnaeookddaaW.PrintWords Go.Proofs.YtdgllnaeookddaaW.PrintLast Go.Proofs.YtdgllnaeookddaaW.PrintMore
set_option linter.unusedVariables false
set_option linter.unusedSimpArgs false
/-- Each row of cells stays one, of its type and its length; and nothing but memory turns. -/
structure TK (w w' : World) : Prop where
  b : Below 0 w w'
  row : ∀ (g : Nat) (t : TypeId) (cells : Array Value), w.heap[g]? = some (.cells cells t (0, 0)) → ∃ cells' : Array Value, w'.heap[g]? = some (.cells cells' t (0, 0)) ∧ cells'.size = cells.size
theorem TK.refl (w : World) : TK w w := ⟨Below.refl _ _, fun g t cells h => ⟨cells, h, rfl⟩⟩
theorem TK.trans {a b c : World} (h : TK a b) (k : TK b c) : TK a c := ⟨h.b.trans k.b, fun g t cells hg => by
  obtain ⟨c1, h1, h2⟩ := h.row g t cells hg
  obtain ⟨c2, h3, h4⟩ := k.row g t c1 h1
  exact ⟨c2, h3, h4.trans h2⟩⟩
end Go.Proofs.Ytdgllnaeookddaa.Q
