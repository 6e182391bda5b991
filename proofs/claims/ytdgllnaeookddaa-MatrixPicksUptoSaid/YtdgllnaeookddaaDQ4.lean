-- Printed for this seat by gprint.py (the kit's printer over contracts proved by hand).
import Derived.Test.YtdgllnaeookddaaDQ0
import Derived.Test.YtdgllnaeookddaaDQ3
namespace Go.Proofs.Ytdgllnaeookddaa.Q
open Go.RowKit Go.Proofs.YtdgllnaeookddaaW.PrintWords Go.Proofs.YtdgllnaeookddaaW.PrintLast Go.Proofs.YtdgllnaeookddaaW.PrintMore
attribute [local go_sem] max2_int min2_int max_two min_two max_three min_three max_four min_four   -- for this text's walks alone
set_option linter.unusedVariables false
set_option linter.unusedSimpArgs false
mutual
def shuttleref13_entries.l0 : Nat → List (List (S51)) → Int → Option (Bool)
  | 0, _, _ => none
  | k + 1, x0, x3 => if x3 < (x0.length : Int) then (if 0 ≤ x3 then (if ((rd_L6 x0 x3).length : Int) = 0 then (some false) else (shuttleref13_entries.l1 k x0 x3 0)) else (none)) else (some true)
def shuttleref13_entries.l1 : Nat → List (List (S51)) → Int → Int → Option (Bool)
  | 0, _, _, _ => none
  | k + 1, x0, x3, x4 => if 0 ≤ x3 then (if x3 < (x0.length : Int) then (if x4 < ((rd_L6 x0 x3).length : Int) then (if 0 ≤ x4 then ((shuttleref2_VarName.f k ((rd_T51 (rd_L6 x0 x3) x4).f0)).bind fun t126 => (if t126 = true then (shuttleref13_entries.l1 k x0 x3 (wrap64 (x4 + 1))) else (some false))) else (none)) else (shuttleref13_entries.l0 k x0 (wrap64 (x3 + 1)))) else (none)) else (none)
end
def shuttleref13_entries.f (k : Nat) (l0 : List (List (S51))) : Option (Bool) := shuttleref13_entries.l0 k l0 0
def shuttleref10_Index.l0 : Nat → List (S51) → ByteArray → Int → Option (Int)
  | 0, _, _, _ => none
  | k + 1, x0, x1, x5 => if x5 < (x0.length : Int) then (if 0 ≤ x5 then (if ((rd_T51 x0 x5).f0).toList = x1.toList then (some x5) else (shuttleref10_Index.l0 k x0 x1 (wrap64 (x5 + 1)))) else (none)) else (some (-1))
def shuttleref10_Index.f (k : Nat) (l0 : List (S51)) (a1 : ByteArray) : Option (Int) := shuttleref10_Index.l0 k l0 a1 0
mutual
def shuttleref13_twice.l0 : Nat → List (List (S51)) → Int → Option (Bool)
  | 0, _, _ => none
  | k + 1, x0, x3 => if x3 < (x0.length : Int) then (shuttleref13_twice.l1 k x0 x3 0) else (some false)
def shuttleref13_twice.l1 : Nat → List (List (S51)) → Int → Int → Option (Bool)
  | 0, _, _, _ => none
  | k + 1, x0, x3, x4 => if 0 ≤ x3 then (if x3 < (x0.length : Int) then (if x4 < ((rd_L6 x0 x3).length : Int) then (if 0 ≤ x4 then (if x4 ≤ ((rd_L6 x0 x3).length : Int) then ((shuttleref10_Index.f k ((rd_L6 x0 x3).take (x4 : Int).toNat) ((rd_T51 (rd_L6 x0 x3) x4).f0)).bind fun t136 => (if t136 ≥ 0 then (some true) else (shuttleref13_twice.l1 k x0 x3 (wrap64 (x4 + 1))))) else (none)) else (none)) else (shuttleref13_twice.l0 k x0 (wrap64 (x3 + 1)))) else (none)) else (none)
end
def shuttleref13_twice.f (k : Nat) (l0 : List (List (S51))) : Option (Bool) := shuttleref13_twice.l0 k l0 0
end Go.Proofs.Ytdgllnaeookddaa.Q
