/- What the deferred catch of package vars does. -/
import Derived.Test.YtfkibolpanlelaaFAVBytes
import Derived.Recover
import Derived.Defers
namespace Go.Proofs.Ytfkibolpanlelaa.Q
open Go Go.RowKit Go.Shelf Go.Proofs.YtfkibolpanlelaaW.PrintWords Go.Proofs.YtfkibolpanlelaaW.PrintLast Go.Proofs.YtfkibolpanlelaaW.PrintMore
set_option linter.unusedVariables false
set_option linter.unusedSimpArgs false
set_option linter.unusedSectionVars false
theorem as_stop (v : Value) (w : World) : (Instr.typeAssert (.iface 76 v) 20 76 true).run Try.prog w = .ok (.tuple #[v, .bool true]) w := by kernel_rfl
theorem not_run (x : Bool) (w : World) : (Op.unary .not (.bool x)).run Try.prog w = .ok (.bool (!x)) w := rfl
theorem catch_idle (p q : Addr) (w : World) :
    CallsD Try.prog 35 #[.pointer (some p), .pointer (some q)] .returning w fun e u' w' => e = .returned (.tuple #[]) ∧ u' = .returning ∧ w' = w := by
  refine callsD_of_wpS Try.func35 rfl fun c₀ cs hu => ?_
  apply wpS_seq
  apply wpS_region
  simp [wpOpsS, go_sem, recoverD, hu, Try.ntmps35, Exit.thenS]
  refine wpS_of_wp ?_
  have HU := Aside0.mk hu
  clear hu
  simp only [List.size_toArray, List.length_cons, List.length_nil, Nat.reduceAdd, Nat.reduceSub, Array.replicate_succ, Array.replicate_zero, List.push_toArray, List.append_toArray, List.nil_append, List.cons_append, List.setIfInBounds_toArray, List.set_cons_zero, List.set_cons_succ]
  go_wp2
  exact ⟨rfl, .returning, by cases c₀; cases HU.out; rfl, _, results_none rfl _ _ _, rfl, rfl, rfl⟩
theorem keep1 {w : World} {g p : Nat} {o : Array Value} {T : Nat} (h : w.heap[g]? = some (.cells o T (0, 0))) (hgp : g ≠ p) (v : Value) (k : Nat) : (w.setCell ⟨p, 0, none⟩ v).cell? ⟨g, k, none⟩ = o[k]? :=
  blk_cell (blk_far h (p := ⟨p, 0, none⟩) hgp v) k
/-- What the deferred call leaves: where and why. -/
structure Caught (p q : Nat) (why col : Int) (w w' : World) : Prop where
  os : w'.os = w.os
  tape : w'.tape = w.tape
  output : w'.output = w.output
  size : w.heap.size ≤ w'.heap.size
  col : w'.heap[p]? = some (.cells #[.int .i64 col] 3 (0, 0))
  why : w'.heap[q]? = some (.cells #[.int .i64 why] 23 (0, 0))
  block : ∀ k, k < w.heap.size → k ≠ p → k ≠ q → w'.heap[k]? = w.heap[k]?
set_option maxHeartbeats 2000000 in
set_option maxRecDepth 100000 in
theorem catch_panicking (p q : Nat) (why col : Int) (w : World) (hp : w.heap[p]? = some (.cells #[.int .i64 0] 3 (0, 0))) (hq : w.heap[q]? = some (.cells #[.int .i64 0] 23 (0, 0))) (hpq : p ≠ q) :
    CallsD Try.prog 35 #[.pointer (some ⟨p, 0, none⟩), .pointer (some ⟨q, 0, none⟩)] (.panicking (stopV why col)) w fun e u' w' => e = .returned (.tuple #[]) ∧ u' = .panicking [{ v := .iface 76 (.agg #[.int .i64 why, .int .i64 col]), recovered := true }] ∧ Caught p q why col w w' := by
  have HP := Aside0.mk hp
  have HQ := Aside0.mk hq
  clear hp hq
  refine callsD_of_wpS Try.func35 rfl fun c₀ cs hu => ?_
  apply wpS_seq
  apply wpS_region
  simp [wpOpsS, go_sem, recoverD, hu, stopV, Try.ntmps35, Exit.thenS]
  refine wpS_of_wp ?_
  have HU := Aside0.mk hu
  have hta := as_stop
  have hnot := not_run
  clear hu
  simp only [List.size_toArray, List.length_cons, List.length_nil, Nat.reduceAdd, Nat.reduceSub, Array.replicate_succ, Array.replicate_zero, List.push_toArray, List.append_toArray, List.nil_append, List.cons_append, List.setIfInBounds_toArray, List.set_cons_zero, List.set_cons_succ]
  go_wp2
  have hN := blk_new w (.cells #[.int .i64 why, .int .i64 col] 76)
  have HB1 := Aside0.mk (below_alloc (Below.refl w.heap.size w) (.cells #[.int .i64 why, .int .i64 col] 76))
  have hlp := blk_lt HP.out
  have hlq := blk_lt HQ.out
  obtain ⟨g, hg⟩ : ∃ g, g = w.heap.size := ⟨_, rfl⟩
  have hgp : g ≠ p := by omega
  have hgq : g ≠ q := by omega
  rw [← hg] at hN ⊢
  generalize w.alloc (.cells #[.int .i64 why, .int .i64 col] 76) = w1 at hN HB1 ⊢
  have HN := Aside0.mk hN
  have HP1 := Aside0.mk ((HB1.out.block p hlp).trans HP.out)
  have HQ1 := Aside0.mk ((HB1.out.block q hlq).trans HQ.out)
  have HG := Aside0.mk hg
  clear hg
  have g0 : w1.cell? ⟨g, 0, none⟩ = some (.int .i64 why) := blk_cell hN 0
  have g1 : w1.cell? ⟨g, 1, none⟩ = some (.int .i64 col) := blk_cell hN 1
  have m0 : w1.cell? ⟨p, 0, none⟩ = some (.int .i64 0) := blk_cell HP1.out 0
  have f0 := blk_frozen HP1.out 0
  clear hN hta hnot
  refine start_ (n := 10) (S := fun w' => w'.cell? ⟨g, 0, none⟩ = some (.int .i64 why) ∧ w'.cell? ⟨g, 1, none⟩ = some (.int .i64 col)) (ds := [9]) #[false, false, false, false, false, false, false, false, false, false] (by kernel_rfl) rfl rfl ⟨g0, g1⟩ (fun hHeld => ?_)
  refine pure_ (i := 0) (N := some 18) (v := ?_) (a' := ?_) #[true, false, false, false, false, false, false, false, false, false] rfl rfl (by kernel_rfl) (fun _ _ _ h => h) (Or.inl ⟨by rfl, ?_⟩) ?_ ?_
  rotate_left
  · intro w'
    go_simp
    with_reducible rfl
  rotate_left
  · simp only [Act.put, List.setIfInBounds_toArray, List.set_cons_zero, List.set_cons_succ, i64_w, i32_w]
    rfl
  refine pure_ (i := 1) (N := some 19) (v := ?_) (a' := ?_) #[true, true, false, false, false, false, false, false, false, false] rfl rfl (by kernel_rfl) (fun _ _ _ h => h) (Or.inl ⟨by rfl, ?_⟩) ?_ ?_
  rotate_left
  · intro w'
    go_simp
    with_reducible rfl
  rotate_left
  · simp only [Act.put, List.setIfInBounds_toArray, List.set_cons_zero, List.set_cons_succ, i64_w, i32_w]
    rfl
  refine pure_ (i := 2) (N := some 20) (v := ?_) (a' := ?_) #[true, true, true, false, false, false, false, false, false, false] rfl rfl (by kernel_rfl) (fun _ _ _ h => h) (Or.inl ⟨by rfl, ?_⟩) ?_ ?_
  rotate_left
  · intro w'
    go_simp
    with_reducible rfl
  rotate_left
  · simp only [Act.put, List.setIfInBounds_toArray, List.set_cons_zero, List.set_cons_succ, i64_w, i32_w]
    rfl
  refine pure_ (i := 4) (N := some 22) (v := ?_) (a' := ?_) #[true, true, true, false, true, false, false, false, false, false] rfl rfl (by kernel_rfl) (fun _ _ _ h => h) (Or.inl ⟨by rfl, ?_⟩) ?_ ?_
  rotate_left
  · intro w'
    go_simp
    with_reducible rfl
  rotate_left
  · simp only [Act.put, List.setIfInBounds_toArray, List.set_cons_zero, List.set_cons_succ, i64_w, i32_w]
    rfl
  refine take_ (i := 3) (N := some 21) (v := ?_) (a' := ?_) #[true, true, true, true, true, false, false, false, false, false] rfl rfl (by kernel_rfl) (fun _ _ _ h => h) (Or.inl ⟨by rfl, ?_⟩) hHeld ?_ ?_
  rotate_left
  · rintro w' ⟨s0, s1⟩
    go_simp
    with_reducible rfl
  rotate_left
  · simp only [Act.put, List.setIfInBounds_toArray, List.set_cons_zero, List.set_cons_succ, i64_w, i32_w]
    rfl
  refine pure_ (i := 6) (N := some 24) (v := ?_) (a' := ?_) #[true, true, true, true, true, false, true, false, false, false] rfl rfl (by kernel_rfl) (fun _ _ _ h => h) (Or.inl ⟨by rfl, ?_⟩) ?_ ?_
  rotate_left
  · intro w'
    go_simp
    with_reducible rfl
  rotate_left
  · simp only [Act.put, List.setIfInBounds_toArray, List.set_cons_zero, List.set_cons_succ, i64_w, i32_w]
    rfl
  refine take_ (i := 5) (N := some 23) (v := ?_) (a' := ?_) #[true, true, true, true, true, true, true, false, false, false] rfl rfl (by kernel_rfl) (fun _ _ _ h => h) (Or.inl ⟨by rfl, ?_⟩) hHeld ?_ ?_
  rotate_left
  · rintro w' ⟨s0, s1⟩
    go_simp
    with_reducible rfl
  rotate_left
  · simp only [Act.put, List.setIfInBounds_toArray, List.set_cons_zero, List.set_cons_succ, i64_w, i32_w]
    rfl
  refine one_ (i := 7) (N := none) #[true, true, true, true, true, true, true, true, false, false] rfl rfl (by kernel_rfl) (by decide) (fun K hK => ?_)
  refine skip_ (w1 := ?_) (by rfl) rfl ?_ ?_
  rotate_left
  · go_simp
    rfl
  refine hK.out _ _ ⟨keep1 HN.out hgp _ 0, keep1 HN.out hgp _ 1⟩ (fun hHeld => ?_)
  clear hK K
  refine pure_ (i := 8) (N := some 25) (v := ?_) (a' := ?_) #[true, true, true, true, true, true, true, true, true, false] rfl rfl (by kernel_rfl) (fun _ _ _ h => h) (Or.inl ⟨by rfl, ?_⟩) ?_ ?_
  rotate_left
  · intro w'
    go_simp
    with_reducible rfl
  rotate_left
  · simp only [Act.put, List.setIfInBounds_toArray, List.set_cons_zero, List.set_cons_succ, i64_w, i32_w]
    rfl
  have HR6 := Aside0.mk (show (w1.setCell ⟨p, 0, none⟩ (.int .i64 col)).heap[q]? = some (.cells #[.int .i64 0] 23 (0, 0)) from blk_far HQ1.out (p := ⟨p, 0, none⟩) (Ne.symm hpq) _)
  have l0 := (blk_cell HR6.out 0).trans rfl
  have lf := blk_frozen HR6.out 0
  clear m0 f0
  refine last_ (i := 9) (N := none) #[true, true, true, true, true, true, true, true, true, true] rfl rfl (by kernel_rfl) (by decide) (fun K hK => ?_)
  refine skip_ (w1 := ?_) (by rfl) rfl ?_ ?_
  rotate_left
  · go_simp
    rfl
  refine hK.out _ _ ?_
  clear hK K
  refine done_ (by kernel_rfl) ?_
  have HC : Caught p q why col w ((w1.setCell ⟨p, 0, none⟩ (.int .i64 col)).setCell ⟨q, 0, none⟩ (.int .i64 why)) := {
    os := HB1.out.os
    tape := HB1.out.tape
    output := HB1.out.output
    size := by have := HB1.out.size; simpa [World.setCell] using this
    col := blk_far (put1 HP1.out _) (p := ⟨q, 0, none⟩) hpq _
    why := put1 HR6.out _
    block := fun k hk h1 h2 => by
      rw [Below.heap_setCell _ ⟨q, 0, none⟩ _ k h2, Below.heap_setCell _ ⟨p, 0, none⟩ _ k h1]
      exact HB1.out.block k hk }
  exact ⟨rfl, _, by cases c₀; cases HU.out; rfl, _, results_none rfl _ _ _, rfl, rfl, ⟨HC.os, HC.tape, HC.output, HC.size, HC.col, HC.why, HC.block⟩⟩
end Go.Proofs.Ytfkibolpanlelaa.Q
