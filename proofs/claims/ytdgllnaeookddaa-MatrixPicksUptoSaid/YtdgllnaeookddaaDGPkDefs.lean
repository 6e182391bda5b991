-- Printed for this seat by gprint.py (the kit's printer over contracts proved by hand).
import Derived.Test.YtdgllnaeookddaaDQ0
import Derived.Test.YtdgllnaeookddaaDQ9
import Derived.Test.YtdgllnaeookddaaDQ12
import Derived.Test.YtdgllnaeookddaaDGAwake
import Derived.Test.YtdgllnaeookddaaDGBuild
namespace Go.Proofs.Ytdgllnaeookddaa.Q
open Go.RowKit Go.Proofs.YtdgllnaeookddaaW.PrintWords Go.Proofs.YtdgllnaeookddaaW.PrintLast Go.Proofs.YtdgllnaeookddaaW.PrintMore
attribute [local go_sem] max2_int min2_int max_two min_two max_three min_three max_four min_four   -- for this text's walks alone
set_option linter.unusedVariables false
set_option linter.unusedSimpArgs false
mutual
def shuttlelaw13_MatrixPicks.l0 : Nat → List Int → List (List (S51)) → Int → List (S46) → List (List (S51)) → List (List (S51)) → Option (Bool)
  | 0, _, _, _, _, _, _ => none
  | k + 1, x1, x5, x8, x166000, x166001, x166002 => if x8 < (x5.length : Int) then (if 0 ≤ x8 then (shuttlelaw13_MatrixPicks.l1 k x1 x5 x8 (((rd_L6 x5 x8).length : Int) == (x166000.length : Int)) 0 x166000 x166001 x166002) else (none)) else (shuttlelaw13_MatrixPicks.l5 k x1 x5 ([] : List (S51)) 0 x166000 x166001 x166002)
def shuttlelaw13_MatrixPicks.l1 : Nat → List Int → List (List (S51)) → Int → Bool → Int → List (S46) → List (List (S51)) → List (List (S51)) → Option (Bool)
  | 0, _, _, _, _, _, _, _, _ => none
  | k + 1, x1, x5, x8, x9, x10, x166000, x166001, x166002 => if x9 = true then (if 0 ≤ x8 then (if x8 < (x5.length : Int) then (shuttlelaw13_MatrixPicks.j2 k x1 x5 x8 x9 x10 (decide (x10 < ((rd_L6 x5 x8).length : Int))) x166000 x166001 x166002) else (none)) else (none)) else (shuttlelaw13_MatrixPicks.j2 k x1 x5 x8 x9 x10 false x166000 x166001 x166002)
def shuttlelaw13_MatrixPicks.j2 : Nat → List Int → List (List (S51)) → Int → Bool → Int → Bool → List (S46) → List (List (S51)) → List (List (S51)) → Option (Bool)
  | 0, _, _, _, _, _, _, _, _, _ => none
  | k + 1, x1, x5, x8, x9, x10, x55, x166000, x166001, x166002 => if x55 = true then (shuttlelaw13_MatrixPicks.l2 k x1 x5 x8 x10 false 0 x166000 x166001 x166002) else (shuttlelaw13_MatrixPicks.l3 k x1 x5 x8 x9 0 x166000 x166001 x166002)
def shuttlelaw13_MatrixPicks.l2 : Nat → List Int → List (List (S51)) → Int → Int → Bool → Int → List (S46) → List (List (S51)) → List (List (S51)) → Option (Bool)
  | 0, _, _, _, _, _, _, _, _, _ => none
  | k + 1, x1, x5, x8, x10, x11, x12, x166000, x166001, x166002 => if 0 ≤ x10 then (if x10 < (x166000.length : Int) then (if x12 < (((rd_T46 x166000 x10).f1).length : Int) then (if x11 = true then (shuttlelaw13_MatrixPicks.l2 k x1 x5 x8 x10 true (wrap64 (x12 + 1)) x166000 x166001 x166002) else (if 0 ≤ x12 then (if 0 ≤ x8 then (if x8 < (x5.length : Int) then (if x10 < ((rd_L6 x5 x8).length : Int) then (shuttlelaw13_MatrixPicks.l2 k x1 x5 x8 x10 ((rdOf ByteArray.empty ((rd_T46 x166000 x10).f1) x12).toList == ((rd_T51 (rd_L6 x5 x8) x10).f1).toList) (wrap64 (x12 + 1)) x166000 x166001 x166002) else (none)) else (none)) else (none)) else (none))) else (if 0 ≤ x8 then (if x8 < (x5.length : Int) then (if x10 < ((rd_L6 x5 x8).length : Int) then (if ((rd_T51 (rd_L6 x5 x8) x10).f0).toList = ((rd_T46 x166000 x10).f0).toList then (shuttlelaw13_MatrixPicks.l1 k x1 x5 x8 x11 (wrap64 (x10 + 1)) x166000 x166001 x166002) else (shuttlelaw13_MatrixPicks.l1 k x1 x5 x8 false (wrap64 (x10 + 1)) x166000 x166001 x166002)) else (none)) else (none)) else (none))) else (none)) else (none)
def shuttlelaw13_MatrixPicks.l3 : Nat → List Int → List (List (S51)) → Int → Bool → Int → List (S46) → List (List (S51)) → List (List (S51)) → Option (Bool)
  | 0, _, _, _, _, _, _, _, _ => none
  | k + 1, x1, x5, x8, x9, x13, x166000, x166001, x166002 => if x13 < (x166002.length : Int) then (if x9 = true then (if 0 ≤ x13 then (if 0 ≤ x8 then (if x8 < (x5.length : Int) then ((shuttlelaw13_hits.f k (rd_L6 x166002 x13) (rd_L6 x5 x8)).bind fun t193 => (shuttlelaw13_MatrixPicks.l3 k x1 x5 x8 (!t193) (wrap64 (x13 + 1)) x166000 x166001 x166002)) else (none)) else (none)) else (none)) else (shuttlelaw13_MatrixPicks.l3 k x1 x5 x8 false (wrap64 (x13 + 1)) x166000 x166001 x166002)) else (shuttlelaw13_MatrixPicks.l4 k x1 x5 x8 x9 0 x166000 x166001 x166002)
def shuttlelaw13_MatrixPicks.l4 : Nat → List Int → List (List (S51)) → Int → Bool → Int → List (S46) → List (List (S51)) → List (List (S51)) → Option (Bool)
  | 0, _, _, _, _, _, _, _, _ => none
  | k + 1, x1, x5, x8, x9, x14, x166000, x166001, x166002 => if x14 < (x166001.length : Int) then (if x9 = true then (shuttlelaw13_MatrixPicks.l4 k x1 x5 x8 true (wrap64 (x14 + 1)) x166000 x166001 x166002) else (if 0 ≤ x14 then (if 0 ≤ x8 then (if x8 < (x5.length : Int) then ((shuttlelaw0_SameVars.f k (rd_L6 x166001 x14) (rd_L6 x5 x8)).bind fun t196 => (shuttlelaw13_MatrixPicks.l4 k x1 x5 x8 t196 (wrap64 (x14 + 1)) x166000 x166001 x166002)) else (none)) else (none)) else (none))) else (if x9 = true then (shuttlelaw13_MatrixPicks.l0 k x1 x5 (wrap64 (x8 + 1)) x166000 x166001 x166002) else (some false))
def shuttlelaw13_MatrixPicks.l5 : Nat → List Int → List (List (S51)) → List (S51) → Int → List (S46) → List (List (S51)) → List (List (S51)) → Option (Bool)
  | 0, _, _, _, _, _, _, _ => none
  | k + 1, x1, x5, x15, x16, x166000, x166001, x166002 => if x16 < (x166000.length : Int) then (if 0 ≤ x16 then (if (((rd_T46 x166000 x16).f1).length : Int) = 0 then (shuttlelaw13_MatrixPicks.j7 k x1 x5 x15 x16 true x166000 x166001 x166002) else (shuttlelaw13_MatrixPicks.j7 k x1 x5 x15 x16 (decide (x16 ≥ (x1.length : Int))) x166000 x166001 x166002)) else (none)) else (if (x15.length : Int) = 0 then ((shuttlelaw13_awake.f).bind fun t208 => (some t208)) else (shuttlelaw13_MatrixPicks.l6 k x5 x15 false false 0 x166000 x166001 x166002))
def shuttlelaw13_MatrixPicks.j7 : Nat → List Int → List (List (S51)) → List (S51) → Int → Bool → List (S46) → List (List (S51)) → List (List (S51)) → Option (Bool)
  | 0, _, _, _, _, _, _, _, _ => none
  | k + 1, x1, x5, x15, x16, x171, x166000, x166001, x166002 => if x171 = true then ((shuttlelaw13_awake.f).bind fun t198 => (some t198)) else (if 0 ≤ x16 then (if x16 < (x166000.length : Int) then (if x16 < (x1.length : Int) then ((shuttlelaw0_Low.f (rd x1 x16)).bind fun t202 => (if (((rd_T46 x166000 x16).f1).length : Int) = 0 then (none) else (if 0 ≤ (Int.tmod t202 (((rd_T46 x166000 x16).f1).length : Int)) then (if (Int.tmod t202 (((rd_T46 x166000 x16).f1).length : Int)) < (((rd_T46 x166000 x16).f1).length : Int) then (if x15.length < 4398046511104 then (shuttlelaw13_MatrixPicks.l5 k x1 x5 (x15 ++ [(⟨(rd_T46 x166000 x16).f0, rdOf ByteArray.empty ((rd_T46 x166000 x16).f1) (Int.tmod t202 (((rd_T46 x166000 x16).f1).length : Int))⟩ : S51)]) (wrap64 (x16 + 1)) x166000 x166001 x166002) else (none)) else (none)) else (none)))) else (none)) else (none)) else (none))
def shuttlelaw13_MatrixPicks.l6 : Nat → List (List (S51)) → List (S51) → Bool → Bool → Int → List (S46) → List (List (S51)) → List (List (S51)) → Option (Bool)
  | 0, _, _, _, _, _, _, _, _ => none
  | k + 1, x5, x15, x17, x18, x19, x166000, x166001, x166002 => if x19 < (x166002.length : Int) then (if x17 = true then (shuttlelaw13_MatrixPicks.l6 k x5 x15 true x18 (wrap64 (x19 + 1)) x166000 x166001 x166002) else (if 0 ≤ x19 then ((shuttlelaw13_hits.f k (rd_L6 x166002 x19) x15).bind fun t210 => (shuttlelaw13_MatrixPicks.l6 k x5 x15 t210 x18 (wrap64 (x19 + 1)) x166000 x166001 x166002)) else (none))) else (shuttlelaw13_MatrixPicks.l7 k x5 x15 x17 x18 0)
def shuttlelaw13_MatrixPicks.l7 : Nat → List (List (S51)) → List (S51) → Bool → Bool → Int → Option (Bool)
  | 0, _, _, _, _, _ => none
  | k + 1, x5, x15, x17, x18, x20 => if x20 < (x5.length : Int) then (if x18 = true then (shuttlelaw13_MatrixPicks.l7 k x5 x15 x17 true (wrap64 (x20 + 1))) else (if 0 ≤ x20 then ((shuttlelaw0_SameVars.f k (rd_L6 x5 x20) x15).bind fun t212 => (shuttlelaw13_MatrixPicks.l7 k x5 x15 x17 t212 (wrap64 (x20 + 1)))) else (none))) else (if x17 = true then ((shuttlelaw13_awake.f).bind fun t213 => (some t213)) else (if x18 = true then ((shuttlelaw13_awake.f).bind fun t214 => (some t214)) else (some false)))
end
def shuttlelaw13_MatrixPicks.f (k : Nat) (l0_0 : List (S46)) (l0_1 : List (List (S51))) (l0_2 : List (List (S51))) (l1 : List Int) : Option (Bool) := (shuttlelaw0_CopyMatrix.f k l0_0 l0_1 l0_2).bind fun bt166 => ((matrix_Build.f bt166.1 bt166.2.1 bt166.2.2).bind fun bt175 => (if bt175.2.2 = 0 then (shuttlelaw13_MatrixPicks.l0 k l1 bt175.1 0 l0_0 l0_1 l0_2) else ((shuttlelaw13_awake.f).bind fun t180 => (some t180))))
def shuttlelaw13_MatrixPicks.T7 : Bool × List (List Nat × List Nat) := (true, [([], []), ([], []), ([0, 1], [0, 1]), ([2], [2]), ([3], [3]), ([], []), ([5], [5]), ([6], [6]), ([4, 7], [4, 7]), ([8, 0, 1, 2, 3, 4, 5, 6, 7, 8], [8])])
def shuttlelaw13_MatrixPicks.B7 : List Nat := [0, 0, 3, 7, 15, 0, 32, 96, 255, 511]
theorem shuttlelaw13_MatrixPicks.tab7 : rtab .any (opsOf Try.f6 7) = shuttlelaw13_MatrixPicks.T7 := by kernel_rfl
theorem shuttlelaw13_MatrixPicks.bits7 : waitsOk shuttlelaw13_MatrixPicks.T7.2 shuttlelaw13_MatrixPicks.B7 = true := by kernel_rfl
def shuttlelaw13_MatrixPicks.T15 : Bool × List (List Nat × List Nat) := (true, [([], []), ([0], [0]), ([1], [1]), ([2, 1], [1, 2]), ([1], [1]), ([3, 4, 1], [1, 3, 4]), ([5, 1], [1, 5]), ([6, 1], [1, 6]), ([1], [1]), ([7, 8, 1], [1, 7, 8]), ([9, 1], [1, 9]), ([1], [1]), ([1], [1]), ([11, 12, 1], [1, 11, 12]), ([13, 1], [1, 13]), ([1], [1]), ([14, 15, 1], [1, 14, 15]), ([16, 1], [1, 16]), ([17, 1], [1, 17]), ([10, 18, 1], [1, 10, 18]), ([1, 19], [1, 19]), ([20, 1, 0, 1, 2, 3, 4, 5, 6, 7, 8, 9, 10, 11, 12, 13, 14, 15, 16, 17, 18, 19, 20], [0, 20])])
def shuttlelaw13_MatrixPicks.B15 : List Nat := [0, 1, 3, 7, 3, 31, 63, 127, 3, 511, 1023, 3, 3, 6147, 14339, 3, 63491, 129027, 260099, 524287, 1048575, 2097151]
theorem shuttlelaw13_MatrixPicks.tab15 : rtab .any (opsOf Try.f6 15) = shuttlelaw13_MatrixPicks.T15 := by kernel_rfl
theorem shuttlelaw13_MatrixPicks.bits15 : waitsOk shuttlelaw13_MatrixPicks.T15.2 shuttlelaw13_MatrixPicks.B15 = true := by kernel_rfl
def shuttlelaw13_MatrixPicks.T16 : Bool × List (List Nat × List Nat) := (true, [([], []), ([], []), ([0, 1], [0, 1]), ([2], [2]), ([], []), ([3, 4], [3, 4]), ([5], [5]), ([6], [6]), ([], []), ([8], [8]), ([], []), ([9, 10], [9, 10]), ([11], [11]), ([12], [12]), ([7, 13], [7, 13]), ([14], [14]), ([15], [15]), ([15, 16], [15, 16]), ([17, 15, 0, 1, 2, 3, 4, 5, 6, 7, 8, 9, 10, 11, 12, 13, 14, 15, 16, 17], [17])])
def shuttlelaw13_MatrixPicks.B16 : List Nat := [0, 0, 3, 7, 0, 31, 63, 127, 0, 256, 0, 1792, 3840, 7936, 16383, 32767, 65535, 131071, 262143]
theorem shuttlelaw13_MatrixPicks.tab16 : rtab .any (opsOf Try.f6 16) = shuttlelaw13_MatrixPicks.T16 := by kernel_rfl
theorem shuttlelaw13_MatrixPicks.bits16 : waitsOk shuttlelaw13_MatrixPicks.T16.2 shuttlelaw13_MatrixPicks.B16 = true := by kernel_rfl
def shuttlelaw13_MatrixPicks.T20 : Bool × List (List Nat × List Nat) := (true, [([], []), ([0], [0]), ([1], [1]), ([2, 1], [1, 2]), ([1], [1]), ([3, 4, 1], [1, 3, 4]), ([5, 1], [1, 5]), ([1], [1]), ([1], [1]), ([7, 8, 1], [1, 7, 8]), ([9, 1], [1, 9]), ([6, 10, 1, 1], [1, 6, 10]), ([11, 1], [1, 11]), ([1, 12], [1, 12]), ([13, 11, 0, 1, 2, 3, 4, 5, 6, 7, 8, 9, 10, 11, 12, 13], [0, 13])])
def shuttlelaw13_MatrixPicks.B20 : List Nat := [0, 1, 3, 7, 3, 31, 63, 3, 3, 387, 899, 2047, 4095, 8191, 16383]
theorem shuttlelaw13_MatrixPicks.tab20 : rtab .any (opsOf Try.f6 20) = shuttlelaw13_MatrixPicks.T20 := by kernel_rfl
theorem shuttlelaw13_MatrixPicks.bits20 : waitsOk shuttlelaw13_MatrixPicks.T20.2 shuttlelaw13_MatrixPicks.B20 = true := by kernel_rfl
def shuttlelaw13_MatrixPicks.T24 : Bool × List (List Nat × List Nat) := (true, [([], []), ([0], [0]), ([1], [1]), ([2, 1], [1, 2]), ([1], [1]), ([3, 4, 1], [1, 3, 4]), ([5, 1], [1, 5]), ([1], [1]), ([1], [1]), ([7, 8, 1], [1, 7, 8]), ([9, 1], [1, 9]), ([6, 10, 1, 1], [1, 6, 10]), ([1, 11], [1, 11]), ([12, 11, 0, 1, 2, 3, 4, 5, 6, 7, 8, 9, 10, 11, 12], [0, 12])])
def shuttlelaw13_MatrixPicks.B24 : List Nat := [0, 1, 3, 7, 3, 31, 63, 3, 3, 387, 899, 2047, 4095, 8191]
theorem shuttlelaw13_MatrixPicks.tab24 : rtab .any (opsOf Try.f6 24) = shuttlelaw13_MatrixPicks.T24 := by kernel_rfl
theorem shuttlelaw13_MatrixPicks.bits24 : waitsOk shuttlelaw13_MatrixPicks.T24.2 shuttlelaw13_MatrixPicks.B24 = true := by kernel_rfl
def shuttlelaw13_MatrixPicks.T33 : Bool × List (List Nat × List Nat) := (true, [([], []), ([], []), ([1], [1]), ([], []), ([2, 3], [2, 3]), ([4], [4]), ([5], [5]), ([], []), ([7], [7]), ([], []), ([8, 9], [8, 9]), ([10], [10]), ([11], [11]), ([], []), ([], []), ([13, 14], [13, 14]), ([15], [15]), ([16], [16]), ([], []), ([18], [18]), ([], []), ([19, 20], [19, 20]), ([21], [21]), ([22], [22]), ([23], [23]), ([17, 24], [17, 24]), ([12, 25], [12, 25]), ([26], [26]), ([6, 27], [6, 27]), ([28], [28]), ([0, 29, 17], [0, 29]), ([30, 30, 0, 1, 2, 3, 4, 5, 6, 7, 8, 9, 10, 11, 12, 13, 14, 15, 16, 17, 18, 19, 20, 21, 22, 23, 24, 25, 26, 27, 28, 29, 30], [0, 30])])
def shuttlelaw13_MatrixPicks.B33 : List Nat := [0, 0, 2, 0, 14, 30, 62, 0, 128, 0, 896, 1920, 3968, 0, 0, 24576, 57344, 122880, 0, 262144, 0, 1835008, 3932160, 8126464, 16515072, 33546240, 67108736, 134217600, 268435454, 536870910, 1073741823, 2147483647]
theorem shuttlelaw13_MatrixPicks.tab33 : rtab .any (opsOf Try.f6 33) = shuttlelaw13_MatrixPicks.T33 := by kernel_rfl
theorem shuttlelaw13_MatrixPicks.bits33 : waitsOk shuttlelaw13_MatrixPicks.T33.2 shuttlelaw13_MatrixPicks.B33 = true := by kernel_rfl
end Go.Proofs.Ytdgllnaeookddaa.Q
