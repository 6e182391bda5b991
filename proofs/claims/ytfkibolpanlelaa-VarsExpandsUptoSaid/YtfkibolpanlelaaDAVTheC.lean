/- Where values say what their texts say, working out finds them, in any order. -/
import Derived.Test.YtfkibolpanlelaaDAVTheS
namespace Go.Proofs.Ytfkibolpanlelaa.Q
open Go Go.RowKit Go.Shelf Go.Proofs.YtfkibolpanlelaaW.PrintWords Go.Proofs.YtfkibolpanlelaaW.PrintLast Go.Proofs.YtfkibolpanlelaaW.PrintMore Go.Proofs.Ytfkibolpanlelaa.SMap
set_option linter.unusedVariables false
set_option linter.unusedSimpArgs false
def Grow (V : VM) (a b : DN) : Prop := Pres a b ∧ ∀ s y, getDn b s = some y → getDn a s = some y ∨ (y.under = false ∧ V s = some y)
theorem Grow.trans {V : VM} {a b c : DN} (h : Grow V a b) (k : Grow V b c) : Grow V a c := ⟨h.1.trans k.1, fun s y hy => (k.2 s y hy).elim (fun h1 => h.2 s y h1) .inr⟩
end Go.Proofs.Ytfkibolpanlelaa.Q
