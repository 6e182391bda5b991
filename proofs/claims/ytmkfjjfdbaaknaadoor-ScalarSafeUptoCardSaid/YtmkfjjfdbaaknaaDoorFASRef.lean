/- The document's reading of a line's text comes to what the program's Read comes to: over lists of bytes. -/
import Derived.Test.YtmkfjjfdbaaknaaDoorFASRun
import Derived.Test.YtmkfjjfdbaaknaaDoorFAQ6
namespace Go.Proofs.YtmkfjjfdbaaknaaDoor.Q
open Go Go.RowKit Go.Proofs.YtmkfjjfdbaaknaaDoorW.PrintWords Go.Proofs.YtmkfjjfdbaaknaaDoorW.PrintLast Go.Proofs.YtmkfjjfdbaaknaaDoorW.PrintMore
set_option linter.unusedVariables false
set_option linter.unusedSimpArgs false
theorem allFrom_bt (p : Int → Bool) (s : ByteArray) (i : Nat) (h : i < s.size) : allFrom p s i = (p (bt s (i : Int)) && allFrom p s (i + 1)) := by
  rw [allFrom_step p s i h, ← bt_at s (i : Int) h]
  rfl
end Go.Proofs.YtmkfjjfdbaaknaaDoor.Q
