-- Printed for this seat by gprint.py (the kit's printer over contracts proved by hand).
import Derived.Test.YtmkfjjfdbaaknaaDoorJAQ0
namespace Go.Proofs.YtmkfjjfdbaaknaaDoor.Q
open Go.RowKit Go.Proofs.YtmkfjjfdbaaknaaDoorW.PrintWords Go.Proofs.YtmkfjjfdbaaknaaDoorW.PrintLast Go.Proofs.YtmkfjjfdbaaknaaDoorW.PrintMore
attribute [local go_sem] max2_int min2_int max_two min_two max_three min_three max_four min_four   -- for this text's walks alone
set_option linter.unusedVariables false
set_option linter.unusedSimpArgs false
def shuttleref2_wordByte.f (a0 : Int) : Option (Bool) := if a0 ≥ 65 then (if a0 ≤ 90 then (some true) else (if a0 ≥ 97 then (if a0 ≤ 122 then (some true) else (if a0 ≥ 48 then (if a0 ≤ 57 then (some true) else (some (a0 == 95))) else (some (a0 == 95)))) else (if a0 ≥ 48 then (if a0 ≤ 57 then (some true) else (some (a0 == 95))) else (some (a0 == 95))))) else (if a0 ≥ 97 then (if a0 ≤ 122 then (some true) else (if a0 ≥ 48 then (if a0 ≤ 57 then (some true) else (some (a0 == 95))) else (some (a0 == 95)))) else (if a0 ≥ 48 then (if a0 ≤ 57 then (some true) else (some (a0 == 95))) else (some (a0 == 95))))
def shuttleref2_nameByte.f (a0 : Int) : Option (Bool) := (shuttleref2_wordByte.f a0).bind fun t113 => (if t113 = true then (some true) else (if a0 = 46 then (some true) else (some (a0 == 45))))
mutual
def shuttleref2_Name.j0 : Nat → ByteArray → Bool → Option (Bool)
  | 0, _, _ => none
  | k + 1, x0, x16 => if x16 = true then (some false) else (shuttleref2_Name.l0 k x0 0)
def shuttleref2_Name.l0 : Nat → ByteArray → Int → Option (Bool)
  | 0, _, _ => none
  | k + 1, x0, x3 => if x3 < (x0.size : Int) then (if 0 ≤ x3 then ((shuttleref2_nameByte.f (bt x0 x3)).bind fun t114 => (if t114 = true then (shuttleref2_Name.l0 k x0 (wrap64 (x3 + 1))) else (some false))) else (none)) else (some true)
end
def shuttleref2_Name.f (k : Nat) (a0 : ByteArray) : Option (Bool) := if (a0.size : Int) < 1 then (shuttleref2_Name.j0 k a0 true) else (if (a0.size : Int) > 64 then (shuttleref2_Name.j0 k a0 true) else (if 0 < (a0.size : Int) then (shuttleref2_Name.j0 k a0 ((bt a0 0) == 45)) else (none)))
def shuttleref2_digit.j0 : Nat → Int → Bool → Option (Int)
  | 0, _, _ => none
  | k + 1, x0, x8 => if x8 = true then (some (wrap64 ((wrap64 (x0)) - 48))) else (if x0 ≥ 97 then (if x0 ≤ 102 then (some (wrap64 ((wrap64 ((wrap64 (x0)) - 97)) + 10))) else (some (-1))) else (some (-1)))
def shuttleref2_digit.f (k : Nat) (a0 : Int) : Option (Int) := if a0 ≥ 48 then (shuttleref2_digit.j0 k a0 (decide (a0 ≤ 57))) else (shuttleref2_digit.j0 k a0 false)
end Go.Proofs.YtmkfjjfdbaaknaaDoor.Q
