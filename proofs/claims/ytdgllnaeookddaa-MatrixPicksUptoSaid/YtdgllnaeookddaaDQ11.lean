-- Printed for this seat by gprint.py (the kit's printer over contracts proved by hand).
import Derived.Test.YtdgllnaeookddaaDQ0
import Derived.Test.YtdgllnaeookddaaDQ8
import Derived.Test.YtdgllnaeookddaaDQ10
namespace Go.Proofs.Ytdgllnaeookddaa.Q
open Go.RowKit Go.Proofs.YtdgllnaeookddaaW.PrintWords Go.Proofs.YtdgllnaeookddaaW.PrintLast Go.Proofs.YtdgllnaeookddaaW.PrintMore
attribute [local go_sem] max2_int min2_int max_two min_two max_three min_three max_four min_four   -- for this text's walks alone
set_option linter.unusedVariables false
set_option linter.unusedSimpArgs false
mutual
def shuttlelaw0_SameMatrix.j0 : Nat → Bool → List (S46) → List (List (S51)) → List (List (S51)) → List (S46) → List (List (S51)) → List (List (S51)) → Option (Bool)
  | 0, _, _, _, _, _, _, _ => none
  | k + 1, x28, x240000, x240001, x240002, x241000, x241001, x241002 => if x28 = true then (some false) else (shuttlelaw0_SameMatrix.l0 k 0 x240000 x240001 x240002 x241000 x241001 x241002)
def shuttlelaw0_SameMatrix.l0 : Nat → Int → List (S46) → List (List (S51)) → List (List (S51)) → List (S46) → List (List (S51)) → List (List (S51)) → Option (Bool)
  | 0, _, _, _, _, _, _, _ => none
  | k + 1, x5, x240000, x240001, x240002, x241000, x241001, x241002 => if x5 < (x240000.length : Int) then (if 0 ≤ x5 then (if x5 < (x241000.length : Int) then (if ((rd_T46 x240000 x5).f0).toList = ((rd_T46 x241000 x5).f0).toList then ((shuttlelaw0_SameTexts.f k ((rd_T46 x240000 x5).f1) ((rd_T46 x241000 x5).f1)).bind fun t247 => (if t247 = true then (shuttlelaw0_SameMatrix.l0 k (wrap64 (x5 + 1)) x240000 x240001 x240002 x241000 x241001 x241002) else (some false))) else (some false)) else (none)) else (none)) else (some true)
end
def shuttlelaw0_SameMatrix.f (k : Nat) (l0_0 : List (S46)) (l0_1 : List (List (S51))) (l0_2 : List (List (S51))) (l1_0 : List (S46)) (l1_1 : List (List (S51))) (l1_2 : List (List (S51))) : Option (Bool) := if (l0_0.length : Int) = (l1_0.length : Int) then ((shuttlelaw0_SamePicks.f k l0_1 l1_1).bind fun t241 => (if t241 = true then ((shuttlelaw0_SamePicks.f k l0_2 l1_2).bind fun t242 => (shuttlelaw0_SameMatrix.j0 k (!t242) l0_0 l0_1 l0_2 l1_0 l1_1 l1_2)) else (shuttlelaw0_SameMatrix.j0 k true l0_0 l0_1 l0_2 l1_0 l1_1 l1_2))) else (shuttlelaw0_SameMatrix.j0 k true l0_0 l0_1 l0_2 l1_0 l1_1 l1_2)
-- NOT PRINTED: function 19 (shuttlelaw0_SpoilVars)
-- NOT PRINTED: function 47 (shuttlelaw0_SpoilPicks)
-- NOT PRINTED: function 48 (shuttlelaw0_SpoilTexts)
-- NOT PRINTED: function 18 (shuttlelaw0_SpoilMatrix)
-- GIVEN: function 21 (shuttlelaw13_awake): its contract stands in another text
-- NOT PRINTED: function 3 (shuttlelaw13_MatrixBuilds)
def shuttlelaw0_LendVars.f (l0 : List (S51)) : Option ((List (S51))) := (shuttlelaw0_CopyVars.f l0).bind fun t287 => ((some (([(⟨(⟨#[115, 112, 111, 105, 108, 116]⟩ : ByteArray), (⟨#[115, 112, 111, 105, 108, 116]⟩ : ByteArray)⟩ : S51), (⟨(⟨#[115, 112, 111, 105, 108, 116]⟩ : ByteArray), (⟨#[115, 112, 111, 105, 108, 116]⟩ : ByteArray)⟩ : S51)] : List (S51)) : List (S51))).bind fun y290 => (if t287.length + y290.length < 4398046511104 then ((some (t287 ++ y290 : List (S51))).bind fun y293 => (if 0 ≤ (l0.length : Int) then (if (l0.length : Int) ≤ (y293.length : Int) then (some (y293.take ((l0.length : Int) : Int).toNat)) else (none)) else (none))) else (none)))
-- GIVEN: function 23 (matrix_Name): its contract stands in another text
-- NOT PRINTED: function 24 (shuttlelaw0_KeptVars)
-- GIVEN: function 25 (shuttleref13_Name): its contract stands in another text
-- NOT PRINTED: function 4 (shuttlelaw13_MatrixNames)
def shuttlelaw0_Low.f (a0 : Int) : Option (Int) := some (Go.bits .and .i64 a0 9223372036854775807)
set_option maxHeartbeats 8000000 in
set_option maxRecDepth 100000 in
theorem shuttlelaw0_Low.calls (a0 : Int) (r : Int) (w : World) (h : shuttlelaw0_Low.f a0 = some r) :
    Calls Try.prog 26 #[.int .i64 a0] w fun e w' => e = .returned (.int .i64 r) ∧ Drawn0 w w' := by
  have H : (some (Go.bits .and .i64 a0 9223372036854775807)) = some r := h
  clear h
  obtain rfl := Option.some.inj H
  go_enter Try.func26, Try.ntmps26
  go_wp2
  go_ret
  exact ⟨by first | rfl | (simp; done) | (simp [*]; done), by repeat (first | exact Drawn0.refl _ | apply Drawn0.step)⟩
end Go.Proofs.Ytdgllnaeookddaa.Q
