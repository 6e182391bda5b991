/- What is worked out says what its texts say. -/
import Derived.Test.YtfkibolpanlelaaEAVThe
namespace Go.Proofs.Ytfkibolpanlelaa.Q
open Go Go.RowKit Go.Shelf Go.Proofs.YtfkibolpanlelaaW.PrintWords Go.Proofs.YtfkibolpanlelaaW.PrintLast Go.Proofs.YtfkibolpanlelaaW.PrintMore Go.Proofs.Ytfkibolpanlelaa.SMap
set_option linter.unusedVariables false
set_option linter.unusedSimpArgs false
def Inv (raw : List SV) (dn : DN) : Prop := ∀ s x, getDn dn s = some x → x.under = false → ∃ v bs, findV raw s = some v ∧ x.text = strOfNums bs ∧ ∀ V, Le (getDn dn) V → piecesOf kF (kG raw V) v.f1 ([], 0) = .ok (bs, x.depth)
def Pres (a b : DN) : Prop := ∀ s y, getDn a s = some y → getDn b s = some y
def New (a b : DN) : Prop := ∀ s y, getDn b s = some y → getDn a s = some y ∨ y.under = false
theorem New.trans {a b c : DN} (h : New a b) (k : New b c) : New a c := fun s y hy => (k s y hy).elim (fun h1 => h s y h1) .inr
theorem Pres.trans {a b c : DN} (h : Pres a b) (k : Pres b c) : Pres a c := fun s y hy => k s y (h s y hy)
theorem Le.trans {a b c : VM} (h : Le a b) (k : Le b c) : Le a c := fun s y hy hu => k s y (h s y hy hu) hu
end Go.Proofs.Ytfkibolpanlelaa.Q
