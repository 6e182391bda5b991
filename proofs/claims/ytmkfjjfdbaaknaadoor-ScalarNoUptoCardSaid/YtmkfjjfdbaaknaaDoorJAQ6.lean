-- Printed for this seat by gprint.py (the kit's printer over contracts proved by hand).
import Derived.Test.YtmkfjjfdbaaknaaDoorJAQ0
import Derived.Test.YtmkfjjfdbaaknaaDoorJAQ3
import Derived.Test.YtmkfjjfdbaaknaaDoorJAQ4
import Derived.Test.YtmkfjjfdbaaknaaDoorJAQ5
namespace Go.Proofs.YtmkfjjfdbaaknaaDoor.Q
open Go.RowKit Go.Proofs.YtmkfjjfdbaaknaaDoorW.PrintWords Go.Proofs.YtmkfjjfdbaaknaaDoorW.PrintLast Go.Proofs.YtmkfjjfdbaaknaaDoorW.PrintMore
attribute [local go_sem] max2_int min2_int max_two min_two max_three min_three max_four min_four   -- for this text's walks alone
set_option linter.unusedVariables false
set_option linter.unusedSimpArgs false
mutual
def shuttleref2_Read.j0 : Nat → ByteArray → Bool → Option (Int × ByteArray × Bool × ByteArray × Int × Int × Int × Int × Int)
  | 0, _, _ => none
  | k + 1, x0, x26 => if x26 = true then ((shuttleref2_value.f k x0 1 2 (⟨#[]⟩ : ByteArray) false (⟨#[]⟩ : ByteArray) 0 1 0).bind fun bt136 => (some (bt136.1, bt136.2.1, bt136.2.2.1, bt136.2.2.2.1, bt136.2.2.2.2.1, bt136.2.2.2.2.2.1, bt136.2.2.2.2.2.2.1, bt136.2.2.2.2.2.2.2.1, bt136.2.2.2.2.2.2.2.2))) else (if (x0.size : Int) > 0 then (if 0 < (x0.size : Int) then (shuttleref2_Read.j1 k x0 0 ((bt x0 0) == 34) 1 (⟨#[]⟩ : ByteArray) false (⟨#[]⟩ : ByteArray) 0 1 0) else (none)) else (shuttleref2_Read.j1 k x0 0 false 1 (⟨#[]⟩ : ByteArray) false (⟨#[]⟩ : ByteArray) 0 1 0))
def shuttleref2_Read.j1 : Nat → ByteArray → Int → Bool → Int → ByteArray → Bool → ByteArray → Int → Int → Int → Option (Int × ByteArray × Bool × ByteArray × Int × Int × Int × Int × Int)
  | 0, _, _, _, _, _, _, _, _, _, _ => none
  | k + 1, x0, x6, x41, x146000, x146001, x146002, x146003, x146004, x146005, x146006 => if x41 = true then ((shuttleref2_Quoted.f k x0 0).bind fun bt146 => (if bt146.2.2 = true then (if (bt146.1.size : Int) > 64 then (some (0, (⟨#[]⟩ : ByteArray), false, (⟨#[]⟩ : ByteArray), 0, 0, 0, 1, 20)) else (shuttleref2_Read.j3 k x0 bt146.2.1 x146000 bt146.1 x146002 x146003 x146004 x146005 x146006)) else (some (0, (⟨#[]⟩ : ByteArray), false, (⟨#[]⟩ : ByteArray), 0, 0, 0, wrap64 (bt146.2.1 + 1), 21)))) else (shuttleref2_Read.l0 k x0 x6 x146000 x146001 x146002 x146003 x146004 x146005 x146006)
def shuttleref2_Read.j3 : Nat → ByteArray → Int → Int → ByteArray → Bool → ByteArray → Int → Int → Int → Option (Int × ByteArray × Bool × ByteArray × Int × Int × Int × Int × Int)
  | 0, _, _, _, _, _, _, _, _, _ => none
  | k + 1, x0, x6, x146000, x146001, x146002, x146003, x146004, x146005, x146006 => if x6 = (x0.size : Int) then (shuttleref2_Read.j4 k x0 x6 true x146000 x146001 x146002 x146003 x146004 x146005 x146006) else (if 0 ≤ x6 then (if x6 < (x0.size : Int) then (shuttleref2_Read.j4 k x0 x6 ((bt x0 x6) != 58) x146000 x146001 x146002 x146003 x146004 x146005 x146006) else (none)) else (none))
def shuttleref2_Read.j4 : Nat → ByteArray → Int → Bool → Int → ByteArray → Bool → ByteArray → Int → Int → Int → Option (Int × ByteArray × Bool × ByteArray × Int × Int × Int × Int × Int)
  | 0, _, _, _, _, _, _, _, _, _, _ => none
  | k + 1, x0, x6, x91, x146000, x146001, x146002, x146003, x146004, x146005, x146006 => if x91 = true then (some (0, (⟨#[]⟩ : ByteArray), false, (⟨#[]⟩ : ByteArray), 0, 0, 0, wrap64 (x6 + 1), 20)) else (if (wrap64 (x6 + 1)) < (x0.size : Int) then (if 0 ≤ (wrap64 (x6 + 1)) then (if (bt x0 (wrap64 (x6 + 1))) = 32 then ((shuttleref2_value.f k x0 (wrap64 (x6 + 1)) x146000 x146001 x146002 x146003 x146004 x146005 x146006).bind fun bt152 => (some (bt152.1, bt152.2.1, bt152.2.2.1, bt152.2.2.2.1, bt152.2.2.2.2.1, bt152.2.2.2.2.2.1, bt152.2.2.2.2.2.2.1, bt152.2.2.2.2.2.2.2.1, bt152.2.2.2.2.2.2.2.2))) else (some (0, (⟨#[]⟩ : ByteArray), false, (⟨#[]⟩ : ByteArray), 0, 0, 0, wrap64 (x6 + 2), 20))) else (none)) else ((shuttleref2_value.f k x0 (wrap64 (x6 + 1)) x146000 x146001 x146002 x146003 x146004 x146005 x146006).bind fun bt161 => (some (bt161.1, bt161.2.1, bt161.2.2.1, bt161.2.2.2.1, bt161.2.2.2.2.1, bt161.2.2.2.2.2.1, bt161.2.2.2.2.2.2.1, bt161.2.2.2.2.2.2.2.1, bt161.2.2.2.2.2.2.2.2))))
def shuttleref2_Read.l0 : Nat → ByteArray → Int → Int → ByteArray → Bool → ByteArray → Int → Int → Int → Option (Int × ByteArray × Bool × ByteArray × Int × Int × Int × Int × Int)
  | 0, _, _, _, _, _, _, _, _, _ => none
  | k + 1, x0, x6, x146000, x146001, x146002, x146003, x146004, x146005, x146006 => if x6 < (x0.size : Int) then (if 0 ≤ x6 then ((shuttleref2_nameByte.f (bt x0 x6)).bind fun t149 => (if t149 = true then (shuttleref2_Read.l0 k x0 (wrap64 (x6 + 1)) x146000 x146001 x146002 x146003 x146004 x146005 x146006) else (if x6 ≤ (x0.size : Int) then ((shuttleref2_Name.f k (x0.extract 0 (x6 : Int).toNat)).bind fun t150 => (if t150 = true then (shuttleref2_Read.j3 k x0 x6 x146000 (x0.extract 0 (x6 : Int).toNat) x146002 x146003 x146004 x146005 x146006) else (some (0, (⟨#[]⟩ : ByteArray), false, (⟨#[]⟩ : ByteArray), 0, 0, 0, 1, 20)))) else (none)))) else (none)) else (if 0 ≤ x6 then (if x6 ≤ (x0.size : Int) then ((shuttleref2_Name.f k (x0.extract 0 (x6 : Int).toNat)).bind fun t151 => (if t151 = true then (shuttleref2_Read.j3 k x0 x6 x146000 (x0.extract 0 (x6 : Int).toNat) x146002 x146003 x146004 x146005 x146006) else (some (0, (⟨#[]⟩ : ByteArray), false, (⟨#[]⟩ : ByteArray), 0, 0, 0, 1, 20)))) else (none)) else (none))
end
def shuttleref2_Read.f (k : Nat) (a0 : ByteArray) : Option (Int × ByteArray × Bool × ByteArray × Int × Int × Int × Int × Int) := if a0.toList = ([45] : List UInt8) then (shuttleref2_Read.j0 k a0 true) else (if (a0.size : Int) > 1 then (if 0 < (a0.size : Int) then (if (bt a0 0) = 45 then (if 1 < (a0.size : Int) then (shuttleref2_Read.j0 k a0 ((bt a0 1) == 32)) else (none)) else (shuttleref2_Read.j0 k a0 false)) else (none)) else (shuttleref2_Read.j0 k a0 false))
end Go.Proofs.YtmkfjjfdbaaknaaDoor.Q
