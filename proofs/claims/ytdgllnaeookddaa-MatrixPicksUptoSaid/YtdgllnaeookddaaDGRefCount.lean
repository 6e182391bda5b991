-- Printed for this seat by gprint.py (the kit's printer over contracts proved by hand).
import Derived.Test.YtdgllnaeookddaaDQ0
import Derived.Test.YtdgllnaeookddaaDQ5
namespace Go.Proofs.Ytdgllnaeookddaa.Q
open Go.RowKit Go.Proofs.YtdgllnaeookddaaW.PrintWords Go.Proofs.YtdgllnaeookddaaW.PrintLast Go.Proofs.YtdgllnaeookddaaW.PrintMore
attribute [local go_sem] max2_int min2_int max_two min_two max_three min_three max_four min_four   -- for this text's walks alone
set_option linter.unusedVariables false
set_option linter.unusedSimpArgs false
mutual
def shuttleref13_Count.j0 : Nat → Bool → List (S46) → List (List (S51)) → List (List (S51)) → Option (Int)
  | 0, _, _, _, _ => none
  | k + 1, x18, x154000, x154001, x154002 => if x18 = true then (some 1) else (if (x154000.length : Int) > 0 then (shuttleref13_Count.j1 k 1 x154000 x154001 x154002) else (shuttleref13_Count.j1 k 0 x154000 x154001 x154002))
def shuttleref13_Count.j1 : Nat → Int → List (S46) → List (List (S51)) → List (List (S51)) → Option (Int)
  | 0, _, _, _, _ => none
  | k + 1, x3, x154000, x154001, x154002 => shuttleref13_Count.l0 k x3 false 0 x154000 x154001 x154002
def shuttleref13_Count.l0 : Nat → Int → Bool → Int → List (S46) → List (List (S51)) → List (List (S51)) → Option (Int)
  | 0, _, _, _, _, _, _ => none
  | k + 1, x3, x4, x5, x154000, x154001, x154002 => if x5 < (x154000.length : Int) then (if x4 = true then (if 0 ≤ x5 then (shuttleref13_Count.l0 k (mn (wrap64 (x3 * (mn (((rd_T46 x154000 x5).f1).length : Int) 1048576))) 1048576) true (wrap64 (x5 + 1)) x154000 x154001 x154002) else (none)) else (if 0 ≤ x5 then (shuttleref13_Count.l0 k (mn (wrap64 (x3 * (mn (((rd_T46 x154000 x5).f1).length : Int) 1048576))) 1048576) ((((rd_T46 x154000 x5).f1).length : Int) == 0) (wrap64 (x5 + 1)) x154000 x154001 x154002) else (none))) else (if x4 = true then (some (mn (wrap64 (0 + (x154001.length : Int))) 1048576)) else (some (mn (wrap64 (x3 + (x154001.length : Int))) 1048576)))
end
def shuttleref13_Count.f (k : Nat) (l0_0 : List (S46)) (l0_1 : List (List (S51))) (l0_2 : List (List (S51))) : Option (Int) := (shuttleref13_Check.f k l0_0 l0_1 l0_2).bind fun t154 => (if t154 = 0 then (if (l0_0.length : Int) = 0 then (shuttleref13_Count.j0 k ((l0_1.length : Int) == 0) l0_0 l0_1 l0_2) else (shuttleref13_Count.j0 k false l0_0 l0_1 l0_2)) else (some 0))
end Go.Proofs.Ytdgllnaeookddaa.Q
