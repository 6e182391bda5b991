-- Printed for this seat by gprint.py (the kit's printer over contracts proved by hand).
import Derived.Test.YtdgllnaeookddaaDQ0
import Derived.Test.YtdgllnaeookddaaDQ4
namespace Go.Proofs.Ytdgllnaeookddaa.Q
open Go.RowKit Go.Proofs.YtdgllnaeookddaaW.PrintWords Go.Proofs.YtdgllnaeookddaaW.PrintLast Go.Proofs.YtdgllnaeookddaaW.PrintMore
attribute [local go_sem] max2_int min2_int max_two min_two max_three min_three max_four min_four   -- for this text's walks alone
set_option linter.unusedVariables false
set_option linter.unusedSimpArgs false
def shuttleref13_pick.l0 : Nat → List (S46) → Int → List (S51) → Int → Option ((List (S51)))
  | 0, _, _, _, _ => none
  | k + 1, x0, x1, x5, x6 => if x6 ≥ 0 then (if 0 ≤ x6 then (if x6 < (x0.length : Int) then (if (((rd_T46 x0 x6).f1).length : Int) = 0 then (none) else (if 0 ≤ (Int.tmod x1 (((rd_T46 x0 x6).f1).length : Int)) then (if (Int.tmod x1 (((rd_T46 x0 x6).f1).length : Int)) < (((rd_T46 x0 x6).f1).length : Int) then (if x6 < (x5.length : Int) then (shuttleref13_pick.l0 k x0 (wrap64 (Int.tdiv x1 (((rd_T46 x0 x6).f1).length : Int))) (x5.set (x6 : Int).toNat (⟨(rd_T46 x0 x6).f0, rdOf ByteArray.empty ((rd_T46 x0 x6).f1) (Int.tmod x1 (((rd_T46 x0 x6).f1).length : Int))⟩ : S51)) (wrap64 (x6 - 1))) else (none)) else (none)) else (none))) else (none)) else (none)) else (some x5)
def shuttleref13_pick.f (k : Nat) (l0 : List (S46)) (a1 : Int) : Option ((List (S51))) := if 0 ≤ (l0.length : Int) then (if ((l0.length : Int) : Int).toNat ≤ 8796093022208 then (shuttleref13_pick.l0 k l0 a1 (List.replicate ((l0.length : Int) : Int).toNat z51) (wrap64 ((l0.length : Int) - 1))) else (none)) else (none)
def shuttleref10_Get.f (k : Nat) (l0 : List (S51)) (a1 : ByteArray) : Option (ByteArray × Bool) := (shuttleref10_Index.f k l0 a1).bind fun t161 => (if t161 ≥ 0 then (if 0 ≤ t161 then (if t161 < (l0.length : Int) then (some ((rd_T51 l0 t161).f1, true)) else (none)) else (none)) else (some ((⟨#[]⟩ : ByteArray), false)))
def shuttleref13_Hits.l0 : Nat → List (S51) → List (S51) → Int → Option (Bool)
  | 0, _, _, _ => none
  | k + 1, x0, x1, x5 => if x5 < (x0.length : Int) then (if 0 ≤ x5 then ((shuttleref10_Get.f k x1 ((rd_T51 x0 x5).f0)).bind fun bt164 => (if bt164.2 = true then (if bt164.1.toList = ((rd_T51 x0 x5).f1).toList then (shuttleref13_Hits.l0 k x0 x1 (wrap64 (x5 + 1))) else (some false)) else (some false))) else (none)) else (some true)
def shuttleref13_Hits.f (k : Nat) (l0 : List (S51)) (l1 : List (S51)) : Option (Bool) := shuttleref13_Hits.l0 k l0 l1 0
end Go.Proofs.Ytdgllnaeookddaa.Q
