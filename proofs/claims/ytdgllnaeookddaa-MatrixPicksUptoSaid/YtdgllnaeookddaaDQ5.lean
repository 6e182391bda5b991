-- Printed for this seat by gprint.py (the kit's printer over contracts proved by hand).
import Derived.Test.YtdgllnaeookddaaDQ0
import Derived.Test.YtdgllnaeookddaaDQ3
import Derived.Test.YtdgllnaeookddaaDQ4
namespace Go.Proofs.Ytdgllnaeookddaa.Q
open Go.RowKit Go.Proofs.YtdgllnaeookddaaW.PrintWords Go.Proofs.YtdgllnaeookddaaW.PrintLast Go.Proofs.YtdgllnaeookddaaW.PrintMore
attribute [local go_sem] max2_int min2_int max_two min_two max_three min_three max_four min_four   -- for this text's walks alone
set_option linter.unusedVariables false
set_option linter.unusedSimpArgs false
mutual
def shuttleref13_again.l0 : Nat → List ByteArray → Int → Option (Bool)
  | 0, _, _ => none
  | k + 1, x0, x3 => if x3 < (x0.length : Int) then (shuttleref13_again.l1 k x0 x3 0) else (some false)
def shuttleref13_again.l1 : Nat → List ByteArray → Int → Int → Option (Bool)
  | 0, _, _, _ => none
  | k + 1, x0, x3, x4 => if x4 < x3 then (if 0 ≤ x3 then (if x3 < (x0.length : Int) then (if 0 ≤ x4 then (if x4 < (x0.length : Int) then (if (rdOf ByteArray.empty x0 x3).toList = (rdOf ByteArray.empty x0 x4).toList then (some true) else (shuttleref13_again.l1 k x0 x3 (wrap64 (x4 + 1)))) else (none)) else (none)) else (none)) else (none)) else (shuttleref13_again.l0 k x0 (wrap64 (x3 + 1)))
end
def shuttleref13_again.f (k : Nat) (l0 : List ByteArray) : Option (Bool) := shuttleref13_again.l0 k l0 0
mutual
def shuttleref13_Check.j0 : Nat → Bool → List (S46) → List (List (S51)) → List (List (S51)) → Option (Int)
  | 0, _, _, _, _ => none
  | k + 1, x21, x140000, x140001, x140002 => if x21 = true then (some 130) else ((shuttleref13_twice.f k x140001).bind fun t142 => (if t142 = true then (shuttleref13_Check.j1 k ([] : List ByteArray) true x140000 x140001 x140002) else ((shuttleref13_twice.f k x140002).bind fun t143 => (shuttleref13_Check.j1 k ([] : List ByteArray) t143 x140000 x140001 x140002))))
def shuttleref13_Check.j1 : Nat → List ByteArray → Bool → List (S46) → List (List (S51)) → List (List (S51)) → Option (Int)
  | 0, _, _, _, _, _ => none
  | k + 1, x3, x4, x140000, x140001, x140002 => shuttleref13_Check.l0 k x3 x4 0 x140000 x140001 x140002
def shuttleref13_Check.l0 : Nat → List ByteArray → Bool → Int → List (S46) → List (List (S51)) → List (List (S51)) → Option (Int)
  | 0, _, _, _, _, _, _ => none
  | k + 1, x3, x4, x5, x140000, x140001, x140002 => if x5 < (x140000.length : Int) then (if 0 ≤ x5 then ((shuttleref2_VarName.f k ((rd_T46 x140000 x5).f0)).bind fun t146 => (if t146 = true then (if x3.length < 8796093022208 then ((some (x3 ++ [(rd_T46 x140000 x5).f0] : List ByteArray)).bind fun y148 => (if x4 = true then (shuttleref13_Check.l0 k y148 true (wrap64 (x5 + 1)) x140000 x140001 x140002) else ((shuttleref13_again.f k ((rd_T46 x140000 x5).f1)).bind fun t152 => (shuttleref13_Check.l0 k y148 t152 (wrap64 (x5 + 1)) x140000 x140001 x140002)))) else (none)) else (some 130))) else (none)) else (if x4 = true then (some 131) else ((shuttleref13_again.f k x3).bind fun t144 => (if t144 = true then (some 131) else (some 0))))
end
def shuttleref13_Check.f (k : Nat) (l0_0 : List (S46)) (l0_1 : List (List (S51))) (l0_2 : List (List (S51))) : Option (Int) := if (l0_0.length : Int) > 8 then (shuttleref13_Check.j0 k true l0_0 l0_1 l0_2) else ((shuttleref13_entries.f k l0_1).bind fun t140 => (if t140 = true then ((shuttleref13_entries.f k l0_2).bind fun t141 => (shuttleref13_Check.j0 k (!t141) l0_0 l0_1 l0_2)) else (shuttleref13_Check.j0 k true l0_0 l0_1 l0_2)))
end Go.Proofs.Ytdgllnaeookddaa.Q
