/- The document's value and Read come to what the program's come to. -/
import Derived.Test.YtmkfjjfdbaaknaaDoorDASRef
import Derived.Lib.IndexMore
namespace Go.Proofs.YtmkfjjfdbaaknaaDoor.Q
open Go Go.RowKit Go.Proofs.YtmkfjjfdbaaknaaDoorW.PrintWords Go.Proofs.YtmkfjjfdbaaknaaDoorW.PrintLast Go.Proofs.YtmkfjjfdbaaknaaDoorW.PrintMore
set_option linter.unusedVariables false
set_option linter.unusedSimpArgs false
/-- The place of the first blank with a remark's sign behind it; else the end. -/
def hashN : List UInt8 → Nat
  | [] => 0
  | c :: r => if c = 32 ∧ r.head? = some 35 then 0 else hashN r + 1
theorem hashN_le : ∀ l, hashN l ≤ l.length
  | [] => Nat.le_refl _
  | c :: r => by
    unfold hashN
    split
    · omega
    · have := hashN_le r
      rw [List.length_cons]
      omega
theorem pre2 (c : UInt8) (r : List UInt8) : ([32, 35] : List UInt8).isPrefixOf (c :: r) = true ↔ c = 32 ∧ r.head? = some 35 := by
  have e : ([32, 35] : List UInt8).isPrefixOf (c :: r) = ((32 == c) && ([35] : List UInt8).isPrefixOf r) := rfl
  rw [e, Bool.and_eq_true, beq_iff_eq]
  cases r with
  | nil =>
    constructor
    · intro h
      cases h.2
    · intro h
      cases h.2
  | cons d r =>
    have e2 : ([35] : List UInt8).isPrefixOf (d :: r) = ((35 == d) && true) := by
      cases r <;> rfl
    rw [e2, Bool.and_true, beq_iff_eq]
    constructor
    · rintro ⟨h1, h2⟩
      exact ⟨h1.symm, by rw [← h2]; rfl⟩
    · rintro ⟨h1, h2⟩
      exact ⟨h1.symm, (Option.some.inj h2).symm⟩
theorem index_hash : ∀ l : List UInt8, Lib.index l [32, 35] = if hashN l < l.length then (hashN l : Int) else -1
  | [] => rfl
  | c :: r => by
    unfold Lib.index hashN
    by_cases h : c = 32 ∧ r.head? = some 35
    · rw [if_pos ((pre2 c r).2 h), if_pos h, if_pos (by simp)]
      rfl
    · rw [if_neg (fun h2 => h ((pre2 c r).1 h2)), if_neg h, index_hash r]
      have := hashN_le r
      by_cases h2 : hashN r < r.length
      · rw [if_pos h2, if_neg (show ¬ (((hashN r : Nat) : Int) == -1) = true by rw [beq_iff_eq]; omega), if_pos (by rw [List.length_cons]; omega)]
        rfl
      · rw [if_neg h2, if_pos (show ((-1 : Int) == -1) = true by decide), if_neg (by rw [List.length_cons]; omega)]
theorem u32 (c : UInt8) : (c.toNat : Int) = 32 ↔ c = 32 := by
  constructor
  · intro h
    exact UInt8.toNat_inj.1 (by rw [show (32 : UInt8).toNat = 32 from rfl]; omega)
  · intro h
    subst h
    rfl
theorem u35 (c : UInt8) : (c.toNat : Int) = 35 ↔ c = 35 := by
  constructor
  · intro h
    exact UInt8.toNat_inj.1 (by rw [show (35 : UInt8).toNat = 35 from rfl]; omega)
  · intro h
    subst h
    rfl
section
variable (L : List UInt8) (hL : L.length ≤ 1073741824) (a : Nat) (c0 : Int) (c1 : ByteArray) (c2 : Bool) (c3 : ByteArray) (c4 c5 c6 : Int) (r : Int × ByteArray × Bool × ByteArray × Int × Int × Int × Int × Int)
include hL
end
end Go.Proofs.YtmkfjjfdbaaknaaDoor.Q
