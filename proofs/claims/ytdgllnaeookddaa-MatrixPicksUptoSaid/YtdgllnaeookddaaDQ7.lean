-- Printed for this seat by gprint.py (the kit's printer over contracts proved by hand).
import Derived.Test.YtdgllnaeookddaaDQ0
import Derived.Test.YtdgllnaeookddaaDQ5
import Derived.Test.YtdgllnaeookddaaDQ6
import Derived.Test.YtdgllnaeookddaaDGRefCount
namespace Go.Proofs.Ytdgllnaeookddaa.Q
open Go.RowKit Go.Proofs.YtdgllnaeookddaaW.PrintWords Go.Proofs.YtdgllnaeookddaaW.PrintLast Go.Proofs.YtdgllnaeookddaaW.PrintMore
attribute [local go_sem] max2_int min2_int max_two min_two max_three min_three max_four min_four   -- for this text's walks alone
set_option linter.unusedVariables false
set_option linter.unusedSimpArgs false
mutual
def shuttleref13_Build.j0 : Nat → Int → Bool → List (S46) → List (List (S51)) → List (List (S51)) → Option ((List (List (S51))) × Int × Int)
  | 0, _, _, _, _, _ => none
  | k + 1, x6, x33, x168000, x168001, x168002 => if x33 = true then (some ((([[]] : List (List (S51)))), 1, 0)) else (shuttleref13_Build.l0 k x6 ([] : List (List (S51))) 0 x168000 x168001 x168002)
def shuttleref13_Build.l0 : Nat → Int → List (List (S51)) → Int → List (S46) → List (List (S51)) → List (List (S51)) → Option ((List (List (S51))) × Int × Int)
  | 0, _, _, _, _, _, _ => none
  | k + 1, x6, x7, x8, x168000, x168001, x168002 => if x8 < (wrap64 (x6 - (x168001.length : Int))) then ((shuttleref13_pick.f k x168000 x8).bind fun t173 => (shuttleref13_Build.l1 k x6 x7 x8 t173 false 0 x168000 x168001 x168002)) else (shuttleref13_Build.l2 k x6 x7 0 x168000 x168001 x168002)
def shuttleref13_Build.l1 : Nat → Int → List (List (S51)) → Int → List (S51) → Bool → Int → List (S46) → List (List (S51)) → List (List (S51)) → Option ((List (List (S51))) × Int × Int)
  | 0, _, _, _, _, _, _, _, _, _ => none
  | k + 1, x6, x7, x8, x9, x10, x11, x168000, x168001, x168002 => if x11 < (x168002.length : Int) then (if x10 = true then (shuttleref13_Build.l1 k x6 x7 x8 x9 true (wrap64 (x11 + 1)) x168000 x168001 x168002) else (if 0 ≤ x11 then ((shuttleref13_Hits.f k (rd_L6 x168002 x11) x9).bind fun t177 => (shuttleref13_Build.l1 k x6 x7 x8 x9 t177 (wrap64 (x11 + 1)) x168000 x168001 x168002)) else (none))) else (if x10 = true then (shuttleref13_Build.l0 k x6 x7 (wrap64 (x8 + 1)) x168000 x168001 x168002) else (if x7.length < 5864062014805 then (shuttleref13_Build.l0 k x6 (x7 ++ [x9]) (wrap64 (x8 + 1)) x168000 x168001 x168002) else (none)))
def shuttleref13_Build.l2 : Nat → Int → List (List (S51)) → Int → List (S46) → List (List (S51)) → List (List (S51)) → Option ((List (List (S51))) × Int × Int)
  | 0, _, _, _, _, _, _ => none
  | k + 1, x6, x7, x12, x168000, x168001, x168002 => if x12 < (x168001.length : Int) then (shuttleref13_Build.l3 k x6 x7 x12 false 0 x168000 x168001 x168002) else (some (x7, x6, 0))
def shuttleref13_Build.l3 : Nat → Int → List (List (S51)) → Int → Bool → Int → List (S46) → List (List (S51)) → List (List (S51)) → Option ((List (List (S51))) × Int × Int)
  | 0, _, _, _, _, _, _, _, _ => none
  | k + 1, x6, x7, x12, x13, x14, x168000, x168001, x168002 => if x14 < (x7.length : Int) then (if x13 = true then (shuttleref13_Build.l3 k x6 x7 x12 true (wrap64 (x14 + 1)) x168000 x168001 x168002) else (if 0 ≤ x14 then (if 0 ≤ x12 then (if x12 < (x168001.length : Int) then (if ((rd_L6 x7 x14).length : Int) = ((rd_L6 x168001 x12).length : Int) then ((shuttleref13_Hits.f k (rd_L6 x168001 x12) (rd_L6 x7 x14)).bind fun t185 => (shuttleref13_Build.l3 k x6 x7 x12 t185 (wrap64 (x14 + 1)) x168000 x168001 x168002)) else (shuttleref13_Build.l3 k x6 x7 x12 false (wrap64 (x14 + 1)) x168000 x168001 x168002)) else (none)) else (none)) else (none))) else (if x13 = true then (shuttleref13_Build.l2 k x6 x7 (wrap64 (x12 + 1)) x168000 x168001 x168002) else ((some (([] : List (S51)) : List (S51))).bind fun y186 => (if 0 ≤ x12 then (if x12 < (x168001.length : Int) then (if y186.length + (rd_L6 x168001 x12).length < 4398046511104 then (if x7.length < 5864062014805 then (shuttleref13_Build.l2 k x6 (x7 ++ [(y186 ++ (rd_L6 x168001 x12))]) (wrap64 (x12 + 1)) x168000 x168001 x168002) else (none)) else (none)) else (none)) else (none))))
end
def shuttleref13_Build.f (k : Nat) (l0_0 : List (S46)) (l0_1 : List (List (S51))) (l0_2 : List (List (S51))) : Option ((List (List (S51))) × Int × Int) := (shuttleref13_Check.f k l0_0 l0_1 l0_2).bind fun t168 => (if t168 = 0 then ((shuttleref13_Count.f k l0_0 l0_1 l0_2).bind fun t169 => (if t169 > 256 then (some (([] : List (List (S51))), 0, 132)) else (if (l0_0.length : Int) = 0 then (shuttleref13_Build.j0 k t169 ((l0_1.length : Int) == 0) l0_0 l0_1 l0_2) else (shuttleref13_Build.j0 k t169 false l0_0 l0_1 l0_2)))) else (some (([] : List (List (S51))), 0, t168)))
end Go.Proofs.Ytdgllnaeookddaa.Q
