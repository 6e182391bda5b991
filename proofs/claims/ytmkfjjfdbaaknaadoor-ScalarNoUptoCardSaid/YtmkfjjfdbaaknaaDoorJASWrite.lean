/- Quoted texts are written, over lists of bytes; plain texts; names: no program in sight. -/
import Derived.Test.YtmkfjjfdbaaknaaDoorJASAw
namespace Go.Proofs.YtmkfjjfdbaaknaaDoor.Q
open Go Go.RowKit Go.Proofs.YtmkfjjfdbaaknaaDoorW.PrintWords Go.Proofs.YtmkfjjfdbaaknaaDoorW.PrintLast Go.Proofs.YtmkfjjfdbaaknaaDoorW.PrintMore
set_option linter.unusedVariables false
set_option linter.unusedSimpArgs false
def numsU (L : List UInt8) : List Int := L.map fun b => (b.toNat : Int)
theorem str_numsU (l : List UInt8) : strOfNums (numsU l) = mkB l := by
  unfold strOfNums numsU mkB
  congr 2
  rw [List.map_map]
  conv => rhs; rw [← List.map_id l]
  apply List.map_congr_left
  intro b _
  simp
section
variable (L : List UInt8) (hL : L.length ≤ 1073741824)
include hL
end
end Go.Proofs.YtmkfjjfdbaaknaaDoor.Q
