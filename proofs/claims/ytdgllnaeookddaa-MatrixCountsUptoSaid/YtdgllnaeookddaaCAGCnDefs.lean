-- Printed for this seat by gprint.py (the kit's printer over contracts proved by hand).
import Derived.Test.YtdgllnaeookddaaCAQ0
import Derived.Test.YtdgllnaeookddaaCAQ2
import Derived.Test.YtdgllnaeookddaaCAQ9
import Derived.Test.YtdgllnaeookddaaCAQ10
import Derived.Test.YtdgllnaeookddaaCAGAwake
import Derived.Test.YtdgllnaeookddaaCAGBuild
import Derived.Test.YtdgllnaeookddaaCAGOver
namespace Go.Proofs.Ytdgllnaeookddaa.Q
open Go.RowKit Go.Proofs.YtdgllnaeookddaaW.PrintWords Go.Proofs.YtdgllnaeookddaaW.PrintLast Go.Proofs.YtdgllnaeookddaaW.PrintMore
attribute [local go_sem] max2_int min2_int max_two min_two max_three min_three max_four min_four   -- for this text's walks alone
set_option linter.unusedVariables false
set_option linter.unusedSimpArgs false
mutual
def shuttlelaw13_MatrixCounts.j0 : Nat → List (List (S51)) → Bool → Option (Bool)
  | 0, _, _ => none
  | k + 1, x4, x69 => if x69 = true then (some false) else (shuttlelaw13_MatrixCounts.l0 k x4 0)
def shuttlelaw13_MatrixCounts.l0 : Nat → List (List (S51)) → Int → Option (Bool)
  | 0, _, _ => none
  | k + 1, x4, x7 => if x7 < (x4.length : Int) then (shuttlelaw13_MatrixCounts.l1 k x4 x7 0) else ((shuttlelaw13_awake.f).bind fun t186 => (some t186))
def shuttlelaw13_MatrixCounts.l1 : Nat → List (List (S51)) → Int → Int → Option (Bool)
  | 0, _, _, _ => none
  | k + 1, x4, x7, x8 => if x8 < x7 then (if 0 ≤ x7 then (if x7 < (x4.length : Int) then (if 0 ≤ x8 then (if x8 < (x4.length : Int) then (if ((rd_L6 x4 x7).length : Int) = ((rd_L6 x4 x8).length : Int) then ((vars_Overlay.f (([rd_L6 x4 x7] : List (List (S51))))).bind fun t193 => ((vars_Overlay.f (([rd_L6 x4 x8] : List (List (S51))))).bind fun t200 => ((shuttlelaw0_SameVars.f k t193 t200).bind fun t203 => (if t203 = true then (some false) else (shuttlelaw13_MatrixCounts.l1 k x4 x7 (wrap64 (x8 + 1))))))) else (shuttlelaw13_MatrixCounts.l1 k x4 x7 (wrap64 (x8 + 1)))) else (none)) else (none)) else (none)) else (none)) else (shuttlelaw13_MatrixCounts.l0 k x4 (wrap64 (x7 + 1)))
end
def shuttlelaw13_MatrixCounts.f (k : Nat) (l0_0 : List (S46)) (l0_1 : List (List (S51))) (l0_2 : List (List (S51))) : Option (Bool) := (shuttlelaw0_CopyMatrix.f k l0_0 l0_1 l0_2).bind fun bt160 => ((matrix_Count.f k bt160.1 bt160.2.1 bt160.2.2).bind fun t169 => ((shuttlelaw0_CopyMatrix.f k l0_0 l0_1 l0_2).bind fun bt170 => ((matrix_Build.f bt170.1 bt170.2.1 bt170.2.2).bind fun bt179 => (if bt179.2.2 = 0 then (if t169 > 256 then (shuttlelaw13_MatrixCounts.j0 k bt179.1 true) else (if bt179.2.1 = t169 then (if (bt179.1.length : Int) > t169 then (shuttlelaw13_MatrixCounts.j0 k bt179.1 true) else (if (l0_2.length : Int) = 0 then (if (l0_1.length : Int) = 0 then (shuttlelaw13_MatrixCounts.j0 k bt179.1 ((bt179.1.length : Int) != t169)) else (shuttlelaw13_MatrixCounts.j0 k bt179.1 false)) else (shuttlelaw13_MatrixCounts.j0 k bt179.1 false))) else (shuttlelaw13_MatrixCounts.j0 k bt179.1 true))) else (if (bt179.1.length : Int) = 0 then (if bt179.2.1 = 0 then (if bt179.2.2 = 132 then (if t169 > 256 then ((shuttlelaw13_awake.f).bind fun t184 => (some t184)) else (some false)) else ((shuttlelaw13_awake.f).bind fun t185 => (some t185))) else (some false)) else (some false))))))
def shuttlelaw13_MatrixCounts.T13 : Bool × List (List Nat × List Nat) := (true, [([], []), ([], []), ([0, 1], [0, 1]), ([2], [2]), ([3], [3]), ([], []), ([], []), ([5, 6], [5, 6]), ([7], [7]), ([8], [8]), ([4, 9], [4, 9]), ([10], [10]), ([11], [11]), ([11], [11]), ([12, 13, 11], [11, 12, 13]), ([14, 11], [11, 14]), ([15, 11], [11, 15]), ([16, 11, 11], [11, 16]), ([11], [11]), ([11], [11]), ([18, 19, 11], [11, 18, 19]), ([20, 11], [11, 20]), ([21, 11], [11, 21]), ([22, 17, 11], [11, 22]), ([17, 23, 23, 11], [11, 17, 23]), ([11, 24], [11, 24])])
def shuttlelaw13_MatrixCounts.B13 : List Nat := [0, 0, 3, 7, 15, 0, 0, 96, 224, 480, 1023, 2047, 4095, 4095, 16383, 32767, 65535, 131071, 4095, 4095, 790527, 1839103, 3936255, 8388607, 16777215, 33554431]
theorem shuttlelaw13_MatrixCounts.tab13 : rtab .any (opsOf Try.f7 13) = shuttlelaw13_MatrixCounts.T13 := by kernel_rfl
theorem shuttlelaw13_MatrixCounts.bits13 : waitsOk shuttlelaw13_MatrixCounts.T13.2 shuttlelaw13_MatrixCounts.B13 = true := by kernel_rfl
end Go.Proofs.Ytdgllnaeookddaa.Q
