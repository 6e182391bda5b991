/- The document's value and Read come to what the program's come to. -/
import Derived.Test.YtmkfjjfdbaaknaaDoorFASRef
import Derived.Lib.IndexMore
namespace Go.Proofs.YtmkfjjfdbaaknaaDoor.Q
open Go Go.RowKit Go.Proofs.YtmkfjjfdbaaknaaDoorW.PrintWords Go.Proofs.YtmkfjjfdbaaknaaDoorW.PrintLast Go.Proofs.YtmkfjjfdbaaknaaDoorW.PrintMore
set_option linter.unusedVariables false
set_option linter.unusedSimpArgs false
/-- The place of the first blank with a remark's sign behind it; else the end. -/
def hashN : List UInt8 → Nat
  | [] => 0
  | c :: r => if c = 32 ∧ r.head? = some 35 then 0 else hashN r + 1
theorem hashN_le : ∀ l, hashN l ≤ l.length
  | [] => Nat.le_refl _
  | c :: r => by
    unfold hashN
    split
    · omega
    · have := hashN_le r
      rw [List.length_cons]
      omega
theorem pre2 (c : UInt8) (r : List UInt8) : ([32, 35] : List UInt8).isPrefixOf (c :: r) = true ↔ c = 32 ∧ r.head? = some 35 := by
  have e : ([32, 35] : List UInt8).isPrefixOf (c :: r) = ((32 == c) && ([35] : List UInt8).isPrefixOf r) := rfl
  rw [e, Bool.and_eq_true, beq_iff_eq]
  cases r with
  | nil =>
    constructor
    · intro h
      cases h.2
    · intro h
      cases h.2
  | cons d r =>
    have e2 : ([35] : List UInt8).isPrefixOf (d :: r) = ((35 == d) && true) := by
      cases r <;> rfl
    rw [e2, Bool.and_true, beq_iff_eq]
    constructor
    · rintro ⟨h1, h2⟩
      exact ⟨h1.symm, by rw [← h2]; rfl⟩
    · rintro ⟨h1, h2⟩
      exact ⟨h1.symm, (Option.some.inj h2).symm⟩
theorem index_hash : ∀ l : List UInt8, Lib.index l [32, 35] = if hashN l < l.length then (hashN l : Int) else -1
  | [] => rfl
  | c :: r => by
    unfold Lib.index hashN
    by_cases h : c = 32 ∧ r.head? = some 35
    · rw [if_pos ((pre2 c r).2 h), if_pos h, if_pos (by simp)]
      rfl
    · rw [if_neg (fun h2 => h ((pre2 c r).1 h2)), if_neg h, index_hash r]
      have := hashN_le r
      by_cases h2 : hashN r < r.length
      · rw [if_pos h2, if_neg (show ¬ (((hashN r : Nat) : Int) == -1) = true by rw [beq_iff_eq]; omega), if_pos (by rw [List.length_cons]; omega)]
        rfl
      · rw [if_neg h2, if_pos (show ((-1 : Int) == -1) = true by decide), if_neg (by rw [List.length_cons]; omega)]
theorem cut_hash (l : List UInt8) : (Lib.cut l [32, 35]).1 = l.take (hashN l) := by
  unfold Lib.cut
  rw [index_hash]
  have := hashN_le l
  by_cases h : hashN l < l.length
  · rw [if_pos h, if_pos (by omega)]
    rfl
  · rw [if_neg h, if_neg (by decide)]
    rw [List.take_of_length_le (by omega)]
theorem trimR_blank (l : List UInt8) : Lib.trimRightB (l ++ [32]) 32 = Lib.trimRightB l 32 := by
  unfold Lib.trimRightB
  rw [List.reverse_append]
  rfl
theorem trimR_other (l : List UInt8) (c : UInt8) (h : c ≠ 32) : Lib.trimRightB (l ++ [c]) 32 = l ++ [c] := by
  unfold Lib.trimRightB
  rw [List.reverse_append, List.reverse_singleton, List.singleton_append, List.dropWhile_cons, if_neg (by simpa using h)]
  simp
theorem u32 (c : UInt8) : (c.toNat : Int) = 32 ↔ c = 32 := by
  constructor
  · intro h
    exact UInt8.toNat_inj.1 (by rw [show (32 : UInt8).toNat = 32 from rfl]; omega)
  · intro h
    subst h
    rfl
theorem u35 (c : UInt8) : (c.toNat : Int) = 35 ↔ c = 35 := by
  constructor
  · intro h
    exact UInt8.toNat_inj.1 (by rw [show (35 : UInt8).toNat = 35 from rfl]; omega)
  · intro h
    subst h
    rfl
section
variable (L : List UInt8) (hL : L.length ≤ 1073741824) (a : Nat) (c0 : Int) (c1 : ByteArray) (c2 : Bool) (c3 : ByteArray) (c4 c5 c6 : Int) (r : Int × ByteArray × Bool × ByteArray × Int × Int × Int × Int × Int)
include hL
end
def tup9 (r : RP) : Int × ByteArray × Bool × ByteArray × Int × Int × Int × Int × Int := (r.2.2.f0, r.2.2.f1, r.2.2.f2, r.2.2.f3, r.2.2.f4, r.2.2.f5, r.2.2.f6, r.2.1, r.1)
/-- A value, from a place on, as an answer: where it gives up nothing comes out. -/
def finR (v : RP) : RP := if v.1 = 0 then (0, 0, v.2.2) else (v.1, v.2.1, zCT)
theorem finR_ok (c : CT) : finR (0, 0, c) = (0, 0, c) := if_pos rfl
def valR (s : ByteArray) (i : Nat) (c : CT) : RP := finR (valueP s i (qOf s i) c)
theorem mkB_cut (L : List UInt8) (i j : Nat) (hj : i + j ≤ L.length) : (mkB L).extract i (i + j) = mkB ((L.drop i).take j) := by
  apply ByteArray.ext
  apply Array.toList_inj.1
  rw [ByteArray.data_extract]
  show ((L.toArray).extract i (i + j)).toList = (L.drop i).take j
  simp
theorem trimR_le (l : List UInt8) : (Lib.trimRightB l 32).length ≤ l.length := by
  unfold Lib.trimRightB
  rw [List.length_reverse]
  have := (List.dropWhile_suffix (l := l.reverse) (fun x => x == 32)).length_le
  simpa using this
/-- What stands behind a quoted value: g is the place behind the blanks. -/
def tailP (s : ByteArray) (g j i : Nat) (says : ByteArray) (c : CT) : RP := if g < s.size ∧ (bt s (g : Int) ≠ 35 ∨ g = j) then (22, (g : Int) + 1, c) else (0, 0, { c with f2 := true, f6 := (i : Int) + 1, f3 := says })
/-- What a head comes to in the end. -/
def endP (s : ByteArray) (h : HP) : RP := if h.1 = 0 then valR s (gapOf s h.2.2.1) h.2.2.2 else (h.1, h.2.1, zCT)
theorem readP_end (s : ByteArray) : readP s = endP s (headP s (qOf s 0)) := rfl
theorem endP_ok (s : ByteArray) (n : Nat) (c : CT) : endP s (0, 0, n, c) = valR s (gapOf s n) c := if_pos rfl
theorem pref_34 (s : ByteArray) : prefB s ⟨#[34]⟩ = (decide (0 < s.size) && decide (bt s 0 = 34)) := by
  obtain ⟨L, rfl⟩ : ∃ L, s = mkB L := ⟨s.data.toList, rfl⟩
  cases L with
  | nil => rfl
  | cons c r =>
    have h0 : bt (mkB (c :: r)) 0 = (c.toNat : Int) := bt_mk _ 0 c rfl
    rw [h0, mkB_size, decide_eq_true (show 0 < (c :: r).length by simp), Bool.true_and]
    have e : prefB (mkB (c :: r)) ⟨#[34]⟩ = ((34 == c) && true) := by
      cases r <;> rfl
    rw [e, Bool.and_true, Bool.eq_iff_iff, beq_iff_eq, decide_eq_true_eq]
    constructor
    · intro h
      subst h
      rfl
    · intro h
      exact UInt8.toNat_inj.1 (by rw [show (34 : UInt8).toNat = 34 from rfl]; omega)
end Go.Proofs.YtmkfjjfdbaaknaaDoor.Q
