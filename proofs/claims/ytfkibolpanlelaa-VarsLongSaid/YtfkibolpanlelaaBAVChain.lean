/- A chain of references, link by link. -/
import Derived.Test.YtfkibolpanlelaaBAVPlain
import Derived.KernelRfl
namespace Go.Proofs.Ytfkibolpanlelaa.Q
open Go Go.RowKit Go.Shelf Go.Proofs.YtfkibolpanlelaaW.PrintWords Go.Proofs.YtfkibolpanlelaaW.PrintLast Go.Proofs.YtfkibolpanlelaaW.PrintMore Go.Proofs.Ytfkibolpanlelaa.SMap
set_option linter.unusedVariables false
set_option linter.unusedSimpArgs false
/-- The name of link j, and its text: a reference to the next one in pointed brackets. -/
def nmJ (j : Nat) : ByteArray := ⟨#[(65 + j).toUInt8]⟩
end Go.Proofs.Ytfkibolpanlelaa.Q
