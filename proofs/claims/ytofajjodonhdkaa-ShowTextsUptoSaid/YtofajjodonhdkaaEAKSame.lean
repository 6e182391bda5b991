/- Trees that are alike are written alike. -/
import Derived.Test.YtofajjodonhdkaaEAKShow
import Derived.Test.YtofajjodonhdkaaEAKFlat
import Derived.Test.YtofajjodonhdkaaEAKAlike
import Derived.Test.YtofajjodonhdkaaEAKAw
import Derived.Test.YtofajjodonhdkaaEAKOpen
namespace Go.Proofs.Ytofajjodonhdkaa.Q
open Go Go.RowKit Go.Shelf Go.Proofs.YtofajjodonhdkaaW.PrintWords Go.Proofs.YtofajjodonhdkaaW.PrintLast Go.Proofs.YtofajjodonhdkaaW.PrintMore
set_option linter.unusedVariables false
set_option linter.unusedSimpArgs false
theorem tiny_of {t : List SN} (h : (t.map bN).sum ≤ 1048576) : tinyT t = true := by
  unfold tinyT
  simp only [Bool.and_eq_true, decide_eq_true_eq, List.all_eq_true]
  refine ⟨Nat.le_trans (nodes_len t) h, fun x hx => ?_⟩
  have := nodes_mem t x hx
  have e : bN x = x.f2.size + x.f3.size + 1 := rfl
  omega
end Go.Proofs.Ytofajjodonhdkaa.Q
