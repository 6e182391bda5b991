/- Bytes that a closure gathers in a box: what the closures and long of package vars do to it. -/
import Derived.Test.YtfkibolpanlelaaFAVPieces
import Derived.Test.YtfkibolpanlelaaFAQ0
namespace Go.Proofs.Ytfkibolpanlelaa.Q
open Go Go.RowKit Go.Shelf Go.Proofs.YtfkibolpanlelaaW.PrintWords Go.Proofs.YtfkibolpanlelaaW.PrintLast Go.Proofs.YtfkibolpanlelaaW.PrintMore
set_option linter.unusedVariables false
set_option linter.unusedSimpArgs false
/-- Of the blocks below base only those of S have changed. -/
structure Ch (base : Nat) (S : Nat → Prop) (w w' : World) : Prop where
  os : w'.os = w.os
  tape : w'.tape = w.tape
  output : w'.output = w.output
  size : w.heap.size ≤ w'.heap.size
  block : ∀ k, k < base → ¬ S k → w'.heap[k]? = w.heap[k]?
theorem Ch.trans {base : Nat} {S : Nat → Prop} {a b c : World} (h : Ch base S a b) (k : Ch base S b c) : Ch base S a c := ⟨k.os.trans h.os, k.tape.trans h.tape, k.output.trans h.output, Nat.le_trans h.size k.size, fun i hi hs => (k.block i hi hs).trans (h.block i hi hs)⟩
theorem Ch.mono {base base' : Nat} {S S' : Nat → Prop} {a b : World} (h : Ch base S a b) (hb : base' ≤ base) (hS : ∀ k, k < base' → S k → S' k) : Ch base' S' a b := ⟨h.os, h.tape, h.output, h.size, fun i hi hs => h.block i (by omega) (fun e => hs (hS i hi e))⟩
theorem Ch.grown {base : Nat} {S : Nat → Prop} {w w' : World} {row : Option Nat} (h : w.grownBy w' row) (hb : base ≤ w.heap.size) (hr : ∀ k, row = some k → base ≤ k ∨ S k) : Ch base S w w' :=
  ⟨h.os, h.tape, h.output, h.size, fun k hk hs => h.block k (by omega) (fun e => by rcases hr k e.symm with h | h; omega; exact hs h)⟩
theorem Ch.below {base : Nat} {S : Nat → Prop} {w w' : World} (h : Below w.heap.size w w') (hb : base ≤ w.heap.size) : Ch base S w w' := ⟨h.os, h.tape, h.output, h.size, fun k hk _ => h.block k (by omega)⟩
theorem Ch.set {base : Nat} {S : Nat → Prop} (w : World) (p : Addr) (v : Value) (hS : base ≤ p.block ∨ S p.block) : Ch base S w (w.setCell p v) :=
  ⟨rfl, rfl, rfl, by simp [World.setCell], fun k hk hs => Below.heap_setCell w p v k (by rintro rfl; rcases hS with h | h; omega; exact hs h)⟩
theorem Ch.drewN {base : Nat} {S : Nat → Prop} (w : World) (n : Nat) : Ch base S w (w.drewN n) := ⟨rfl, rfl, rfl, Nat.le_refl _, fun _ _ _ => rfl⟩
theorem put1 {w : World} {g : Nat} {t : TypeId} {u : Value} (h : w.heap[g]? = some (.cells #[u] t (0, 0))) (v : Value) : (w.setCell ⟨g, 0, none⟩ v).heap[g]? = some (.cells #[v] t (0, 0)) := by
  have := blk_set h 0 v
  exact this
/-- The box at block B holds bytes of the call's own. -/
def Bx (w : World) (B base : Nat) (st : List Int) : Prop := ∃ v, w.heap[B]? = some (.cells #[v] 46 (0, 0)) ∧ Kd.R (Kd.int .u8) 5 w base (fun _ => True) v st
theorem Bx.drewN {w : World} {B base : Nat} {st : List Int} (h : Bx w B base st) (n : Nat) : Bx (w.drewN n) B base st := by
  obtain ⟨v, h1, h2⟩ := h
  exact ⟨v, h1, Kd.R_move h2 (fun _ _ => rfl)⟩
theorem long_any (A : Option Addr) (n : Nat) (c : Nat) (i : Int) (w : World) :
    Calls Try.prog 38 #[.slice A n c, .int .i64 i] w fun e w' => w' = w ∧ (if 4096 < n then e = .panicked (stopV 104 i) else e = .returned (.tuple #[])) := by
  by_cases h : 4096 < n
  · simp only [if_pos h]
    have h' : (4096 : Int) < (n : Int) := by omega
    go_enter Try.func38, Try.ntmps38
    go_wp2
    first | exact ⟨rfl, rfl, rfl⟩ | exact ⟨rfl, rfl⟩
  · simp only [if_neg h]
    have h' : ¬ (4096 : Int) < (n : Int) := by omega
    go_enter Try.func38, Try.ntmps38
    go_wp2
    first | go_end0 | refine bodyPost_ret (results_none rfl _ _ _) rfl ?_
    exact ⟨rfl, rfl⟩
/-- How a closure that gathers ends. -/
def Gath (B base : Nat) (w : World) (i : Int) (out : List Int) (e : Ending) (w' : World) : Prop :=
  Ch base (fun k => k = B) w w' ∧ if 4096 < out.length then e = .panicked (stopV 104 i) else e = .returned (.tuple #[]) ∧ Bx w' B base out
set_option maxHeartbeats 2000000 in
set_option maxRecDepth 100000 in
theorem says_any (B base : Nat) (st : List Int) (c i : Int) (w : World) (hB : B < base) (hb : base ≤ w.heap.size) (hx : Bx w B base st) (hst : st.length ≤ 4096) :
    Calls Try.prog 37 #[.int .u8 c, .int .i64 i, .pointer (some ⟨B, 0, none⟩)] w (Gath B base w i (st ++ [c])) := by
  obtain ⟨v, hbx, hr⟩ := hx
  have b0 : w.cell? ⟨B, 0, none⟩ = some v := blk_cell hbx 0
  have bf := blk_frozen hbx 0
  have HR := Aside0.mk hr
  have HBX := Aside0.mk hbx
  clear hr hbx
  obtain ⟨A, cc, rfl⟩ := Kd.R_slice HR.out
  go_enter Try.func37, Try.ntmps37
  have hl1 : (st ++ [c]).length = st.length + 1 := by simp
  by_cases hlong : 4096 < st.length + 1
  all_goals
    go_wp2_with (first
      | (at_builtin; refine Kd.R_append (Kd.int .u8) (w0 := w) base rfl (.tmp 5) (.tmp 7) 46 5 (.int .u8 0) 1 rfl Try.underlying46 info5 rfl (by decide) (by omega) (.slice A st.length cc) st c [.int .u8 c] (fun _ => True) (fun _ => False) rfl (by first | (go_simp; done) | (go_simp; rfl)) rfl (fun _ h => h.elim) (fun _ _ => trivial) HR.out ((Below.refl _ _).mono hb) hb (by omega) ?_; intro v1 w1 ho1 hb1 hg1 hat1; obtain ⟨A1, c1, e1⟩ := Kd.R_slice ho1; rw [hl1] at e1; subst e1; have hbb : w1.heap[B]? = some (.cells #[.slice A st.length cc] 46 (0, 0)) := (hg1.block B (by omega) (fun e => by have := Kd.R_base HR.out B e.symm; omega)).trans HBX.out; have b1 : w1.cell? ⟨B, 0, none⟩ = some _ := blk_cell hbb 0; have bf1 := blk_frozen hbb 0; have HBB := Aside0.mk hbb; have HO1 := Aside0.mk ho1; have HG1 := Aside0.mk hg1; clear hbb ho1 hb1 hg1 hat1 b0 bf)
      | (go_at_call 38; refine (long_any _ _ _ _ _).mono ?_; rintro e w' ⟨rfl, he⟩; first | (rw [if_pos hlong] at he; subst he) | (rw [if_neg hlong] at he; subst he)))
  all_goals
    have HCH := Aside0.mk (show Ch base (fun k => k = B) w (w1.setCell ⟨B, 0, none⟩ (.slice A1 (st.length + 1) c1)) from (Ch.grown HG1.out hb (fun k e => .inl (Kd.R_base HR.out k e))).trans (Ch.set w1 ⟨B, 0, none⟩ _ (.inr rfl)))
  · refine ⟨rfl, HCH.out, ?_⟩
    rw [if_pos (by rw [hl1]; exact hlong)]
  · first | go_end0 | refine bodyPost_ret (results_none rfl _ _ _) rfl ?_
    refine ⟨HCH.out, ?_⟩
    rw [if_neg (by rw [hl1]; exact hlong)]
    exact ⟨rfl, _, put1 HBB.out _, Kd.R_mono (Kd.R_far (p := ⟨B, 0, none⟩) (Kd.R_bound HO1.out) (fun k hk => by have := hk.2.1; show k ≠ B; omega) _) (fun _ _ => trivial)⟩
set_option maxHeartbeats 2000000 in
set_option maxRecDepth 100000 in
theorem saysW_any (B base : Nat) (st : List Int) (c i : Int) (w : World) (hB : B < base) (hb : base ≤ w.heap.size) (hx : Bx w B base st) (hst : st.length ≤ 4096) :
    Calls Try.prog 55 #[.int .u8 c, .int .i64 i, .pointer (some ⟨B, 0, none⟩)] w (Gath B base w i (st ++ [c])) := by
  obtain ⟨v, hbx, hr⟩ := hx
  have b0 : w.cell? ⟨B, 0, none⟩ = some v := blk_cell hbx 0
  have bf := blk_frozen hbx 0
  have HR := Aside0.mk hr
  have HBX := Aside0.mk hbx
  clear hr hbx
  obtain ⟨A, cc, rfl⟩ := Kd.R_slice HR.out
  go_enter Try.func55, Try.ntmps55
  have hl1 : (st ++ [c]).length = st.length + 1 := by simp
  by_cases hlong : 4096 < st.length + 1
  all_goals
    go_wp2_with (first
      | (at_builtin; refine Kd.R_append (Kd.int .u8) (w0 := w) base rfl (.tmp 5) (.tmp 7) 46 5 (.int .u8 0) 1 rfl Try.underlying46 info5 rfl (by decide) (by omega) (.slice A st.length cc) st c [.int .u8 c] (fun _ => True) (fun _ => False) rfl (by first | (go_simp; done) | (go_simp; rfl)) rfl (fun _ h => h.elim) (fun _ _ => trivial) HR.out ((Below.refl _ _).mono hb) hb (by omega) ?_; intro v1 w1 ho1 hb1 hg1 hat1; obtain ⟨A1, c1, e1⟩ := Kd.R_slice ho1; rw [hl1] at e1; subst e1; have hbb : w1.heap[B]? = some (.cells #[.slice A st.length cc] 46 (0, 0)) := (hg1.block B (by omega) (fun e => by have := Kd.R_base HR.out B e.symm; omega)).trans HBX.out; have b1 : w1.cell? ⟨B, 0, none⟩ = some _ := blk_cell hbb 0; have bf1 := blk_frozen hbb 0; have HBB := Aside0.mk hbb; have HO1 := Aside0.mk ho1; have HG1 := Aside0.mk hg1; clear hbb ho1 hb1 hg1 hat1 b0 bf)
      | (go_at_call 38; refine (long_any _ _ _ _ _).mono ?_; rintro e w' ⟨rfl, he⟩; first | (rw [if_pos hlong] at he; subst he) | (rw [if_neg hlong] at he; subst he)))
  all_goals
    have HCH := Aside0.mk (show Ch base (fun k => k = B) w (w1.setCell ⟨B, 0, none⟩ (.slice A1 (st.length + 1) c1)) from (Ch.grown HG1.out hb (fun k e => .inl (Kd.R_base HR.out k e))).trans (Ch.set w1 ⟨B, 0, none⟩ _ (.inr rfl)))
  · refine ⟨rfl, HCH.out, ?_⟩
    rw [if_pos (by rw [hl1]; exact hlong)]
  · first | go_end0 | refine bodyPost_ret (results_none rfl _ _ _) rfl ?_
    refine ⟨HCH.out, ?_⟩
    rw [if_neg (by rw [hl1]; exact hlong)]
    exact ⟨rfl, _, put1 HBB.out _, Kd.R_mono (Kd.R_far (p := ⟨B, 0, none⟩) (Kd.R_bound HO1.out) (fun k hk => by have := hk.2.1; show k ≠ B; omega) _) (fun _ _ => trivial)⟩
end Go.Proofs.Ytfkibolpanlelaa.Q
