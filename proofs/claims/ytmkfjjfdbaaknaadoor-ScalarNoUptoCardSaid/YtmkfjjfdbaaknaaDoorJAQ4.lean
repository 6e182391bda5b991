-- Printed for this seat by gprint.py (the kit's printer over contracts proved by hand).
import Derived.Test.YtmkfjjfdbaaknaaDoorJAQ0
import Derived.Test.YtmkfjjfdbaaknaaDoorJAQ3
namespace Go.Proofs.YtmkfjjfdbaaknaaDoor.Q
open Go.RowKit Go.Proofs.YtmkfjjfdbaaknaaDoorW.PrintWords Go.Proofs.YtmkfjjfdbaaknaaDoorW.PrintLast Go.Proofs.YtmkfjjfdbaaknaaDoorW.PrintMore
attribute [local go_sem] max2_int min2_int max_two min_two max_three min_three max_four min_four   -- for this text's walks alone
set_option linter.unusedVariables false
set_option linter.unusedSimpArgs false
mutual
def shuttleref2_escape.j0 : Nat → ByteArray → Int → Int → Bool → Option (Int × Int × Bool)
  | 0, _, _, _, _ => none
  | k + 1, x0, x1, x13, x14 => if x14 = true then (if 0 ≤ x1 then (if x1 < (x0.size : Int) then (some (bt x0 x1, wrap64 (x1 + 1), true)) else (none)) else (none)) else (if x13 = 110 then (some (10, wrap64 (x1 + 1), true)) else (if x13 = 120 then (if (wrap64 (x1 + 2)) < (x0.size : Int) then (if 0 ≤ (wrap64 (x1 + 1)) then (if (wrap64 (x1 + 1)) < (x0.size : Int) then ((shuttleref2_digit.f k (bt x0 (wrap64 (x1 + 1)))).bind fun t115 => (if t115 ≥ 0 then (if 0 ≤ (wrap64 (x1 + 2)) then ((shuttleref2_digit.f k (bt x0 (wrap64 (x1 + 2)))).bind fun t116 => (shuttleref2_escape.j1 k x0 x1 (decide (t116 ≥ 0)))) else (none)) else (shuttleref2_escape.j1 k x0 x1 false))) else (none)) else (none)) else (shuttleref2_escape.j1 k x0 x1 false)) else (some (0, 0, false))))
def shuttleref2_escape.j1 : Nat → ByteArray → Int → Bool → Option (Int × Int × Bool)
  | 0, _, _, _ => none
  | k + 1, x0, x1, x48 => if x48 = true then (if 0 ≤ (wrap64 (x1 + 1)) then (if (wrap64 (x1 + 1)) < (x0.size : Int) then ((shuttleref2_digit.f k (bt x0 (wrap64 (x1 + 1)))).bind fun t117 => (if 0 ≤ (wrap64 (x1 + 2)) then (if (wrap64 (x1 + 2)) < (x0.size : Int) then ((shuttleref2_digit.f k (bt x0 (wrap64 (x1 + 2)))).bind fun t118 => (some ((wrap64 ((wrap64 (16 * t117)) + t118)) % 256, wrap64 (x1 + 3), true))) else (none)) else (none))) else (none)) else (none)) else (some (0, 0, false))
end
def shuttleref2_escape.f (k : Nat) (a0 : ByteArray) (a1 : Int) : Option (Int × Int × Bool) := if a1 ≥ (a0.size : Int) then (some (0, 0, false)) else (if 0 ≤ a1 then (if a1 < (a0.size : Int) then (if (bt a0 a1) = 34 then (shuttleref2_escape.j0 k a0 a1 (bt a0 a1) ((bt a0 a1) == 34)) else (shuttleref2_escape.j0 k a0 a1 (bt a0 a1) ((bt a0 a1) == 92))) else (none)) else (none))
def shuttleref2_Quoted.l0 : Nat → ByteArray → List Int → Int → Option (ByteArray × Int × Bool)
  | 0, _, _, _ => none
  | k + 1, x0, x7, x8 => if x8 < (x0.size : Int) then (if 0 ≤ x8 then (if (bt x0 x8) = 34 then (some (strOfNums x7, wrap64 (x8 + 1), true)) else (if (bt x0 x8) = 92 then ((shuttleref2_escape.f k x0 (wrap64 (x8 + 1))).bind fun bt119 => (if bt119.2.2 = true then (if x7.length < 140737488355328 then (shuttleref2_Quoted.l0 k x0 (x7 ++ [bt119.1]) bt119.2.1) else (none)) else (some ((⟨#[]⟩ : ByteArray), x8, false)))) else (if x7.length < 140737488355328 then (shuttleref2_Quoted.l0 k x0 (x7 ++ [bt x0 x8]) (wrap64 (x8 + 1))) else (none)))) else (none)) else (some ((⟨#[]⟩ : ByteArray), (x0.size : Int), false))
def shuttleref2_Quoted.f (k : Nat) (a0 : ByteArray) (a1 : Int) : Option (ByteArray × Int × Bool) := shuttleref2_Quoted.l0 k a0 ([] : List Int) (wrap64 (a1 + 1))
def shuttleref2_skip.l0 : Nat → ByteArray → Int → Option (Int)
  | 0, _, _ => none
  | k + 1, x0, x1 => if x1 < (x0.size : Int) then (if 0 ≤ x1 then (if (bt x0 x1) = 32 then (shuttleref2_skip.l0 k x0 (wrap64 (x1 + 1))) else (some x1)) else (none)) else (some x1)
def shuttleref2_skip.f (k : Nat) (a0 : ByteArray) (a1 : Int) : Option (Int) := shuttleref2_skip.l0 k a0 a1
end Go.Proofs.YtmkfjjfdbaaknaaDoor.Q
