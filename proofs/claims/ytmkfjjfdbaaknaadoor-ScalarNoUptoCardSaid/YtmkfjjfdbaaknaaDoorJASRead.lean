/- What the methods of package scalar's reader do to the reader. -/
import Derived.Test.YtmkfjjfdbaaknaaDoorJASName
import Derived.Test.YtmkfjjfdbaaknaaDoorJASLib
import Derived.Test.YtmkfjjfdbaaknaaDoorJAQ2
import Derived.Defers
import Derived.Recover
import Derived.Laws.Pointers
import Derived.Scope
import Derived.WalkLawsBesides
import Derived.Deep.LoopGhost
import Derived.WalkMore
namespace Go.Proofs.YtmkfjjfdbaaknaaDoor.Q
open Go Go.RowKit Go.Shelf Go.Proofs.YtmkfjjfdbaaknaaDoorW.PrintWords Go.Proofs.YtmkfjjfdbaaknaaDoorW.PrintLast Go.Proofs.YtmkfjjfdbaaknaaDoorW.PrintMore
set_option linter.unusedVariables false
set_option linter.unusedSimpArgs false
set_option linter.unusedSectionVars false
abbrev CT := S23
/-- What is kept but for one block. -/
structure KB (B : Nat) (w w' : World) : Prop where
  os : w'.os = w.os
  tape : w'.tape = w.tape
  output : w'.output = w.output
  size : w.heap.size ≤ w'.heap.size
  block : ∀ k, k < w.heap.size → k ≠ B → w'.heap[k]? = w.heap[k]?
theorem KB.refl (B : Nat) (w : World) : KB B w w := ⟨rfl, rfl, rfl, Nat.le_refl _, fun _ _ _ => rfl⟩
theorem KB.trans {B : Nat} {a b c : World} (h : KB B a b) (k : KB B b c) : KB B a c := ⟨k.os.trans h.os, k.tape.trans h.tape, k.output.trans h.output, Nat.le_trans h.size k.size, fun i hi hB => (k.block i (Nat.lt_of_lt_of_le hi h.size) hB).trans (h.block i hi hB)⟩
theorem KB.of_below {B : Nat} {w w' : World} (h : Below w.heap.size w w') : KB B w w' := ⟨h.os, h.tape, h.output, h.size, fun k hk _ => h.block k hk⟩
theorem KB.set (B : Nat) (w : World) (i : Nat) (v : Value) : KB B w (w.setCell ⟨B, i, none⟩ v) := ⟨rfl, rfl, rfl, by simp [World.setCell], fun k _ hB => Below.heap_setCell w ⟨B, i, none⟩ v k hB⟩
theorem KB.setCell {B : Nat} {w w' : World} (h : KB B w w') (i : Nat) (v : Value) : KB B w (w'.setCell ⟨B, i, none⟩ v) := h.trans (KB.set B w' i v)
theorem KB.drewN (B : Nat) (w : World) (m : Nat) : KB B w (w.drewN m) := ⟨rfl, rfl, rfl, Nat.le_refl _, fun _ _ _ => rfl⟩
/-- The reader. -/
def Rd (w : World) (B : Nat) (s : ByteArray) (i : Int) (c : CT) : Prop := w.heap[B]? = some (.cells #[.string s, .int .i64 i, .int .i64 c.f0, .string c.f1, .bool c.f2, .string c.f3, .int .i64 c.f4, .int .i64 c.f5, .int .i64 c.f6] 39 (0, 0))
section
variable {w w' : World} {B : Nat} {s : ByteArray} {i : Int} {c : CT}
theorem Rd.below (h : Rd w B s i c) (hb : Below w.heap.size w w') : Rd w' B s i c := (hb.block B (blk_lt h)).trans h
theorem Rd.drewN (h : Rd w B s i c) (m : Nat) : Rd (w.drewN m) B s i c := h
theorem Rd.setAt (h : Rd w B s i c) (j : Int) : Rd (w.setCell ⟨B, 1, none⟩ (.int .i64 j)) B s j c := blk_put h 1 _ rfl
theorem Rd.c0 (h : Rd w B s i c) : w.cell? ⟨B, 0, none⟩ = some (.string s) := blk_cell h 0
theorem Rd.c1 (h : Rd w B s i c) : w.cell? ⟨B, 1, none⟩ = some (.int .i64 i) := blk_cell h 1
end
theorem end_any {w : World} {B : Nat} {s : ByteArray} {i : Int} {c : CT} (h : Rd w B s i c) (j : Int) : Calls Tryd.prog 45 #[.pointer (some ⟨B, 0, none⟩), .int .i64 j] w fun e w' => e = .returned (.bool (decide ((s.size : Int) ≤ j))) ∧ w' = w := by
  have h0 := h.c0
  go_enter Tryd.func45, Tryd.ntmps45
  go_wp2
  go_ret
  exact ⟨by first | rfl | simp, rfl⟩
def blankB (s : ByteArray) (j : Int) : Bool := decide (j < (s.size : Int)) && decide (bt s j = 32)
theorem blank_any {w : World} {B : Nat} {s : ByteArray} {i : Int} {c : CT} (h : Rd w B s i c) (j : Int) (hj : 0 ≤ j) : Calls Tryd.prog 46 #[.pointer (some ⟨B, 0, none⟩), .int .i64 j] w fun e w' => e = .returned (.bool (blankB s j)) ∧ w' = w := by
  have h0 := h.c0
  by_cases hlt : j < (s.size : Int)
  · have hz : j.toNat < s.size := by omega
    have hb := Aside0.mk (bt_at s j hz)
    have h1 : (decide (j < (s.size : Int))) = true := decide_eq_true hlt
    have HR := Aside0.mk (show blankB s j = decide (bt s j = 32) by unfold blankB; rw [h1, Bool.true_and])
    by_cases h32 : (s[j.toNat].toNat : Int) = 32
    · go_enter Tryd.func46, Tryd.ntmps46
      go_wp2
      go_ret
      exact ⟨ret_bool (by rw [HR.out, ← hb.out]; simp [h32]), rfl⟩
    · go_enter Tryd.func46, Tryd.ntmps46
      go_wp2
      go_ret
      exact ⟨ret_bool (by rw [HR.out, ← hb.out]; simp [h32]), rfl⟩
  · have h1 : (decide (j < (s.size : Int))) = false := decide_eq_false hlt
    have HR := Aside0.mk (show blankB s j = false by unfold blankB; rw [h1, Bool.false_and])
    go_enter Tryd.func46, Tryd.ntmps46
    go_wp2
    go_ret
    exact ⟨ret_bool (by rw [HR.out]), rfl⟩
def stopV (why j : Int) : List PanicEntry := [{ v := .iface 41 (.agg #[.int .i64 why, .int .i64 j]), recovered := false }]
theorem fail_any (p : Value) (why j : Int) (w : World) : Calls Tryd.prog 44 #[p, .int .i64 why, .int .i64 j] w fun e w' => e = .panicked (stopV why (wrap64 (j + 1))) ∧ w' = w := by
  go_enter Tryd.func44, Tryd.ntmps44
  go_wp2
  exact ⟨rfl, rfl, rfl⟩
def gapN (s : ByteArray) : Nat → Nat → Nat
  | 0, i => i
  | d + 1, i => if blankB s (i : Int) = true then gapN s d (i + 1) else i
def gapOf (s : ByteArray) (i : Nat) : Nat := gapN s (s.size - i) i
theorem gapOf_step (s : ByteArray) (i : Nat) (h : blankB s (i : Int) = true) : gapOf s i = gapOf s (i + 1) ∧ i < s.size := by
  have hlt : i < s.size := by
    unfold blankB at h
    rw [Bool.and_eq_true, decide_eq_true_eq] at h
    omega
  refine ⟨?_, hlt⟩
  unfold gapOf
  obtain ⟨d, hd⟩ : ∃ d, s.size - i = d + 1 := ⟨s.size - i - 1, by omega⟩
  rw [hd, gapN, if_pos h, show s.size - (i + 1) = d from by omega]
theorem gapOf_end (s : ByteArray) (i : Nat) (h : blankB s (i : Int) = false) : gapOf s i = i := by
  unfold gapOf
  cases s.size - i with
  | zero => rfl
  | succ d => rw [gapN, if_neg (by rw [h]; decide)]
def GapRel (w0 : World) (B : Nat) (s : ByteArray) (c : CT) (n g : Nat) (wr : World) : Prop := ∃ k : Nat, k ≤ s.size ∧ s.size - k ≤ g ∧ gapOf s k = n ∧ Rd wr B s (k : Int) c ∧ KB B w0 wr
set_option maxHeartbeats 1000000 in
theorem gap_any {w : World} {B : Nat} {s : ByteArray} {c : CT} (i : Nat) (h : Rd w B s (i : Int) c) (hi : i ≤ s.size) (hs : s.size ≤ 1073741824) : Calls Tryd.prog 32 #[.pointer (some ⟨B, 0, none⟩)] w fun e w' => e = .returned (.tuple #[]) ∧ Rd w' B s (gapOf s i : Int) c ∧ KB B w w' := by
  have HR0 := Aside0.mk h
  clear h
  go_enter Tryd.func32, Tryd.ntmps32
  go_wp2
  go_loopg [] (s.size - i) (fun g wr => GapRel w B s c (gapOf s i) g wr)
  case atStart => exact ⟨i, hi, Nat.le_refl _, rfl, HR0.out, KB.refl _ _⟩
  case round =>
    obtain ⟨k, hk, hg, hn, hr, hkb⟩ := hrel
    have HR := Aside0.mk hr
    have HKB := Aside0.mk hkb
    have HN := Aside0.mk hn
    have h1 := hr.c1
    clear hr hkb hn
    cases hb : blankB s (k : Int) with
    | true =>
      have hst := gapOf_step s k hb
      have hf := blk_frozen HR.out 1
      go_wp2_with (go_at_call 46; refine (blank_any HR.out (k : Int) (by omega)).mono ?_; rintro e w2 ⟨rfl, rfl⟩; rw [hb])
      go_roundg (s.size - (k + 1))
      case measure => omega
      case rel => exact ⟨k + 1, by omega, Nat.le_refl _, hst.1.symm.trans HN.out, HR.out.setAt ((k : Int) + 1), HKB.out.setCell _ _⟩
    | false =>
      have hst := gapOf_end s k hb
      go_wp2_with (go_at_call 46; refine (blank_any HR.out (k : Int) (by omega)).mono ?_; rintro e w2 ⟨rfl, rfl⟩; rw [hb])
      go_end0
      exact ⟨rfl, by rw [← HN.out, hst]; exact HR.out, HKB.out⟩
end Go.Proofs.YtmkfjjfdbaaknaaDoor.Q
