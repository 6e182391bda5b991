/- Low's answer is no number below 0; a byte as a number. -/
import Derived.Test.YthddjlkgnmbomaaDoorTPure
import Derived.Test.YthddjlkgnmbomaaDoorQ5
namespace Go.Proofs.YthddjlkgnmbomaaDoor.Q
open Go Go.RowKit Go.Proofs.YthddjlkgnmbomaaDoorW.PrintWords Go.Proofs.YthddjlkgnmbomaaDoorW.PrintLast
theorem low_nat (x : Int) : ∃ m : Nat, shuttlelaw0_Low.f x = some (m : Int) := by
  refine ⟨(BitVec.ofInt 64 x &&& BitVec.ofInt 64 9223372036854775807).toNat, ?_⟩
  have h : (BitVec.ofInt 64 x &&& BitVec.ofInt 64 9223372036854775807).toNat ≤ 9223372036854775807 := by
    rw [BitVec.toNat_and]
    exact Nat.and_le_right
  unfold shuttlelaw0_Low.f
  congr 1
  show IntKind.wrap .i64 (((BitVec.ofInt 64 x &&& BitVec.ofInt 64 9223372036854775807).toNat : Nat) : Int) = _
  generalize (BitVec.ofInt 64 x &&& BitVec.ofInt 64 9223372036854775807).toNat = m at h
  rw [IntKind.wrap_i64]
  omega
theorem u8_of (a : Int) (h0 : 0 ≤ a) (h1 : a < 256) : ∃ c : UInt8, a = (c.toNat : Int) := ⟨UInt8.ofNat a.toNat, by
  rw [UInt8.toNat_ofNat_of_lt' (by show a.toNat < 256; omega)]
  omega⟩
theorem u8_wf (a : Int) (h : (Lit.int .u8 a).wf = true) : ∃ c : UInt8, a = (c.toNat : Int) := by
  have h0 : IntKind.u8.min = 0 := rfl
  have h1 : IntKind.u8.max = 255 := rfl
  simp [Lit.wf] at h
  exact u8_of a (by omega) (by omega)
theorem mkB_app (a b : List UInt8) : mkB a ++ mkB b = mkB (a ++ b) := by
  apply ByteArray.ext
  rw [ByteArray.data_append]
  simp [mkB]
theorem numb_app : ∀ (a b : List ByteArray) (k : Nat), numb k (a ++ b) = numb k a ++ numb (k + a.length) b
  | [], b, k => by simp [numb]
  | x :: a, b, k => by
    rw [List.cons_append, numb, numb, numb_app a b (k + 1), List.length_cons, show k + 1 + a.length = k + (a.length + 1) from by omega]
    rfl
theorem linesU_head (P : List UInt8) (h : ∀ c ∈ P, c ≠ 10) (hP : P ≠ []) (B : List UInt8) : ∃ R more, linesU (P ++ B) = (P ++ R) :: more := by
  induction P with
  | nil => exact absurd rfl hP
  | cons c P ih =>
    rw [List.cons_append, linesU, if_neg (h c (List.mem_cons_self ..))]
    by_cases h0 : P = []
    · subst h0
      rw [List.nil_append]
      cases linesU B with
      | nil => exact ⟨[], [], rfl⟩
      | cons l ls => exact ⟨l, ls, rfl⟩
    · obtain ⟨R, more, e⟩ := ih (fun d hd => h d (List.mem_cons_of_mem _ hd)) h0
      rw [e]
      exact ⟨R, more, rfl⟩
end Go.Proofs.YthddjlkgnmbomaaDoor.Q
