/- The document's value and Read come to what the program's come to. -/
import Derived.Test.YtmkfjjfdbaaknaaDoorJASRun
import Derived.Test.YtmkfjjfdbaaknaaDoorJAQ6
import Derived.Lib.IndexMore
namespace Go.Proofs.YtmkfjjfdbaaknaaDoor.Q
open Go Go.RowKit Go.Proofs.YtmkfjjfdbaaknaaDoorW.PrintWords Go.Proofs.YtmkfjjfdbaaknaaDoorW.PrintLast Go.Proofs.YtmkfjjfdbaaknaaDoorW.PrintMore
set_option linter.unusedVariables false
set_option linter.unusedSimpArgs false
theorem u32 (c : UInt8) : (c.toNat : Int) = 32 ↔ c = 32 := by
  constructor
  · intro h
    exact UInt8.toNat_inj.1 (by rw [show (32 : UInt8).toNat = 32 from rfl]; omega)
  · intro h
    subst h
    rfl
section
variable (L : List UInt8) (hL : L.length ≤ 1073741824) (a : Nat) (c0 : Int) (c1 : ByteArray) (c2 : Bool) (c3 : ByteArray) (c4 c5 c6 : Int) (r : Int × ByteArray × Bool × ByteArray × Int × Int × Int × Int × Int)
include hL
end
def tup9 (r : RP) : Int × ByteArray × Bool × ByteArray × Int × Int × Int × Int × Int := (r.2.2.f0, r.2.2.f1, r.2.2.f2, r.2.2.f3, r.2.2.f4, r.2.2.f5, r.2.2.f6, r.2.1, r.1)
/-- A value, from a place on, as an answer: where it gives up nothing comes out. -/
def finR (v : RP) : RP := if v.1 = 0 then (0, 0, v.2.2) else (v.1, v.2.1, zCT)
theorem finR_ok (c : CT) : finR (0, 0, c) = (0, 0, c) := if_pos rfl
def valR (s : ByteArray) (i : Nat) (c : CT) : RP := finR (valueP s i (qOf s i) c)
theorem mkB_cut (L : List UInt8) (i j : Nat) (hj : i + j ≤ L.length) : (mkB L).extract i (i + j) = mkB ((L.drop i).take j) := by
  apply ByteArray.ext
  apply Array.toList_inj.1
  rw [ByteArray.data_extract]
  show ((L.toArray).extract i (i + j)).toList = (L.drop i).take j
  simp
/-- What a head comes to in the end. -/
def endP (s : ByteArray) (h : HP) : RP := if h.1 = 0 then valR s (gapOf s h.2.2.1) h.2.2.2 else (h.1, h.2.1, zCT)
theorem readP_end (s : ByteArray) : readP s = endP s (headP s (qOf s 0)) := rfl
theorem endP_err (s : ByteArray) (w j : Int) (n : Nat) (c : CT) (h : w ≠ 0) : endP s (w, j, n, c) = (w, j, zCT) := if_neg h
theorem endP_ok (s : ByteArray) (n : Nat) (c : CT) : endP s (0, 0, n, c) = valR s (gapOf s n) c := if_pos rfl
theorem pref_34 (s : ByteArray) : prefB s ⟨#[34]⟩ = (decide (0 < s.size) && decide (bt s 0 = 34)) := by
  obtain ⟨L, rfl⟩ : ∃ L, s = mkB L := ⟨s.data.toList, rfl⟩
  cases L with
  | nil => rfl
  | cons c r =>
    have h0 : bt (mkB (c :: r)) 0 = (c.toNat : Int) := bt_mk _ 0 c rfl
    rw [h0, mkB_size, decide_eq_true (show 0 < (c :: r).length by simp), Bool.true_and]
    have e : prefB (mkB (c :: r)) ⟨#[34]⟩ = ((34 == c) && true) := by
      cases r <;> rfl
    rw [e, Bool.and_true, Bool.eq_iff_iff, beq_iff_eq, decide_eq_true_eq]
    constructor
    · intro h
      subst h
      rfl
    · intro h
      exact UInt8.toNat_inj.1 (by rw [show (34 : UInt8).toNat = 34 from rfl]; omega)
end Go.Proofs.YtmkfjjfdbaaknaaDoor.Q
