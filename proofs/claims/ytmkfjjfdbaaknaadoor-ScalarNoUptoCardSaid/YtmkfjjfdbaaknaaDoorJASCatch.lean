/- What Read's deferred closure does. -/
import Derived.Test.YtmkfjjfdbaaknaaDoorJASRead
namespace Go.Proofs.YtmkfjjfdbaaknaaDoor.Q
open Go Go.RowKit Go.Shelf Go.Proofs.YtmkfjjfdbaaknaaDoorW.PrintWords Go.Proofs.YtmkfjjfdbaaknaaDoorW.PrintLast Go.Proofs.YtmkfjjfdbaaknaaDoorW.PrintMore
set_option linter.unusedVariables false
set_option linter.unusedSimpArgs false
set_option linter.unusedSectionVars false
theorem as_stop (v : Value) (w : World) : (Instr.typeAssert (.iface 41 v) 20 41 true).run Tryd.prog w = .ok (.tuple #[v, .bool true]) w := by kernel_rfl
theorem not_run (x : Bool) (w : World) : (Op.unary .not (.bool x)).run Tryd.prog w = .ok (.bool (!x)) w := rfl
theorem catch_idle (p q r : Addr) (w : World) :
    CallsD Tryd.prog 30 #[.pointer (some p), .pointer (some q), .pointer (some r)] .returning w fun e u' w' => e = .returned (.tuple #[]) ∧ u' = .returning ∧ w' = w := by
  refine callsD_of_wpS Tryd.func30 rfl fun c₀ cs hu => ?_
  apply wpS_seq
  apply wpS_region
  simp [wpOpsS, go_sem, recoverD, hu, Tryd.ntmps30, Exit.thenS]
  refine wpS_of_wp ?_
  have HU := Aside0.mk hu
  clear hu
  simp only [List.size_toArray, List.length_cons, List.length_nil, Nat.reduceAdd, Nat.reduceSub, Array.replicate_succ, Array.replicate_zero, List.push_toArray, List.append_toArray, List.nil_append, List.cons_append, List.setIfInBounds_toArray, List.set_cons_zero, List.set_cons_succ]
  go_wp2
  exact ⟨rfl, .returning, by cases c₀; cases HU.out; rfl, _, results_none rfl _ _ _, rfl, rfl, rfl⟩
def zC : Array Value := #[.int .i64 0, .string ⟨#[]⟩, .bool false, .string ⟨#[]⟩, .int .i64 0, .int .i64 0, .int .i64 0]
theorem keep1 {w : World} {g p : Nat} {o : Array Value} {T : Nat} (h : w.heap[g]? = some (.cells o T (0, 0))) (hgp : g ≠ p) (v : Value) (k : Nat) : (w.setCell ⟨p, 0, none⟩ v).cell? ⟨g, k, none⟩ = o[k]? :=
  blk_cell (((KB.set p w 0 v).block g (blk_lt h) hgp).trans h) k
theorem kb7 (w : World) (p : Nat) (a b c d e f x : Value) : KB p w ((((((((w.setCell ⟨p, 0, none⟩ a).setCell ⟨p, 1, none⟩ b).setCell ⟨p, 2, none⟩ c).setCell ⟨p, 3, none⟩ d).setCell ⟨p, 4, none⟩ e).setCell ⟨p, 5, none⟩ f).setCell ⟨p, 6, none⟩ x).drew) :=
  ((((((((KB.set p w 0 a).setCell 1 b).setCell 2 c).setCell 3 d).setCell 4 e).setCell 5 f).setCell 6 x)).trans (KB.drewN p _ 1)
theorem keep7 {w : World} {g p : Nat} {o : Array Value} {T : Nat} (h : w.heap[g]? = some (.cells o T (0, 0))) (hgp : g ≠ p) (a b c d e f x : Value) (k : Nat) :
    (((((((w.setCell ⟨p, 0, none⟩ a).setCell ⟨p, 1, none⟩ b).setCell ⟨p, 2, none⟩ c).setCell ⟨p, 3, none⟩ d).setCell ⟨p, 4, none⟩ e).setCell ⟨p, 5, none⟩ f).setCell ⟨p, 6, none⟩ x).drew.cell? ⟨g, k, none⟩ = o[k]? :=
  blk_cell (((kb7 w p a b c d e f x).block g (blk_lt h) hgp).trans h) k
theorem fresh1 {w : World} {p : Nat} (h : w.heap[p]? = some (.cells zC 23 (0, 0))) (i : Nat) (v : Value) (e : zC.setIfInBounds i v = zC) : (w.setCell ⟨p, i, none⟩ v).heap[p]? = some (.cells zC 23 (0, 0)) := blk_put h i v e
theorem fresh7 {w : World} {p : Nat} (h : w.heap[p]? = some (.cells zC 23 (0, 0))) :
    (((((((w.setCell ⟨p, 0, none⟩ (.int .i64 0)).setCell ⟨p, 1, none⟩ (.string ⟨#[]⟩)).setCell ⟨p, 2, none⟩ (.bool false)).setCell ⟨p, 3, none⟩ (.string ⟨#[]⟩)).setCell ⟨p, 4, none⟩ (.int .i64 0)).setCell ⟨p, 5, none⟩ (.int .i64 0)).setCell ⟨p, 6, none⟩ (.int .i64 0)).drew.heap[p]? = some (.cells zC 23 (0, 0)) :=
  blk_drew (fresh1 (fresh1 (fresh1 (fresh1 (fresh1 (fresh1 (fresh1 h 0 _ rfl) 1 _ rfl) 2 _ rfl) 3 _ rfl) 4 _ rfl) 5 _ rfl) 6 _ rfl)
/-- What the deferred closure leaves: the content empty, where and why. -/
structure Caught (p q r : Nat) (why col : Int) (w w' : World) : Prop where
  os : w'.os = w.os
  tape : w'.tape = w.tape
  output : w'.output = w.output
  size : w.heap.size ≤ w'.heap.size
  out : w'.heap[p]? = some (.cells zC 23 (0, 0))
  col : w'.heap[q]? = some (.cells #[.int .i64 col] 3 (0, 0))
  why : w'.heap[r]? = some (.cells #[.int .i64 why] 24 (0, 0))
  block : ∀ k, k < w.heap.size → k ≠ p → k ≠ q → k ≠ r → w'.heap[k]? = w.heap[k]?
set_option maxHeartbeats 2000000 in
set_option maxRecDepth 100000 in
theorem catch_panicking (p q r : Nat) (why col : Int) (w : World) (hp : w.heap[p]? = some (.cells zC 23 (0, 0))) (hq : w.heap[q]? = some (.cells #[.int .i64 0] 3 (0, 0))) (hr : w.heap[r]? = some (.cells #[.int .i64 0] 24 (0, 0))) (hpq : p ≠ q) (hpr : p ≠ r) (hqr : q ≠ r) :
    CallsD Tryd.prog 30 #[.pointer (some ⟨p, 0, none⟩), .pointer (some ⟨q, 0, none⟩), .pointer (some ⟨r, 0, none⟩)] (.panicking (stopV why col)) w fun e u' w' => e = .returned (.tuple #[]) ∧ u' = .panicking [{ v := .iface 41 (.agg #[.int .i64 why, .int .i64 col]), recovered := true }] ∧ Caught p q r why col w w' := by
  have HP := Aside0.mk hp
  have HQ := Aside0.mk hq
  have HR := Aside0.mk hr
  clear hp hq hr
  refine callsD_of_wpS Tryd.func30 rfl fun c₀ cs hu => ?_
  apply wpS_seq
  apply wpS_region
  simp [wpOpsS, go_sem, recoverD, hu, stopV, Tryd.ntmps30, Exit.thenS]
  refine wpS_of_wp ?_
  have HU := Aside0.mk hu
  have hta := as_stop
  have hnot := not_run
  clear hu
  simp only [List.size_toArray, List.length_cons, List.length_nil, Nat.reduceAdd, Nat.reduceSub, Array.replicate_succ, Array.replicate_zero, List.push_toArray, List.append_toArray, List.nil_append, List.cons_append, List.setIfInBounds_toArray, List.set_cons_zero, List.set_cons_succ]
  go_wp2
  have hN := blk_new w (.cells #[.int .i64 why, .int .i64 col] 41)
  have HB1 := Aside0.mk (below_alloc (Below.refl w.heap.size w) (.cells #[.int .i64 why, .int .i64 col] 41))
  have hlp := blk_lt HP.out
  have hlq := blk_lt HQ.out
  have hlr := blk_lt HR.out
  obtain ⟨g, hg⟩ : ∃ g, g = w.heap.size := ⟨_, rfl⟩
  have hgp : g ≠ p := by omega
  have hgq : g ≠ q := by omega
  have hgr : g ≠ r := by omega
  rw [← hg] at hN ⊢
  generalize w.alloc (.cells #[.int .i64 why, .int .i64 col] 41) = w1 at hN HB1 ⊢
  have HN := Aside0.mk hN
  have HP1 := Aside0.mk ((HB1.out.block p hlp).trans HP.out)
  have HQ1 := Aside0.mk ((HB1.out.block q hlq).trans HQ.out)
  have HR1 := Aside0.mk ((HB1.out.block r hlr).trans HR.out)
  have hls := blk_lt hN
  have HG := Aside0.mk hg
  clear hg
  have g0 : w1.cell? ⟨g, 0, none⟩ = some (.int .i64 why) := blk_cell hN 0
  have g1 : w1.cell? ⟨g, 1, none⟩ = some (.int .i64 col) := blk_cell hN 1
  have m0 : w1.cell? ⟨p, 0, none⟩ = some (.int .i64 0) := blk_cell HP1.out 0
  have m1 : w1.cell? ⟨p, 1, none⟩ = some (.string ⟨#[]⟩) := blk_cell HP1.out 1
  have m2 : w1.cell? ⟨p, 2, none⟩ = some (.bool false) := blk_cell HP1.out 2
  have m3 : w1.cell? ⟨p, 3, none⟩ = some (.string ⟨#[]⟩) := blk_cell HP1.out 3
  have m4 : w1.cell? ⟨p, 4, none⟩ = some (.int .i64 0) := blk_cell HP1.out 4
  have m5 : w1.cell? ⟨p, 5, none⟩ = some (.int .i64 0) := blk_cell HP1.out 5
  have m6 : w1.cell? ⟨p, 6, none⟩ = some (.int .i64 0) := blk_cell HP1.out 6
  have f0 := blk_frozen HP1.out 0
  have f1 := blk_frozen HP1.out 1
  have f2 := blk_frozen HP1.out 2
  have f3 := blk_frozen HP1.out 3
  have f4 := blk_frozen HP1.out 4
  have f5 := blk_frozen HP1.out 5
  have f6 := blk_frozen HP1.out 6
  clear hN hta hnot
  refine start_ (n := 8) (S := fun w' => w'.cell? ⟨g, 0, none⟩ = some (.int .i64 why) ∧ w'.cell? ⟨g, 1, none⟩ = some (.int .i64 col)) (ds := [7]) #[false, false, false, false, false, false, false, false] (by kernel_rfl) rfl rfl ⟨g0, g1⟩ (fun hHeld => ?_)
  refine pure_ (i := 0) (N := some 17) (v := ?_) (a' := ?_) #[true, false, false, false, false, false, false, false] rfl rfl (by kernel_rfl) (fun _ _ _ h => h) (Or.inl ⟨by rfl, ?_⟩) ?_ ?_
  rotate_left
  · intro w'
    go_simp
    with_reducible rfl
  rotate_left
  · simp only [Act.put, List.setIfInBounds_toArray, List.set_cons_zero, List.set_cons_succ, i64_w, i32_w]
    rfl
  refine pure_ (i := 1) (N := some 18) (v := ?_) (a' := ?_) #[true, true, false, false, false, false, false, false] rfl rfl (by kernel_rfl) (fun _ _ _ h => h) (Or.inl ⟨by rfl, ?_⟩) ?_ ?_
  rotate_left
  · intro w'
    go_simp
    with_reducible rfl
  rotate_left
  · simp only [Act.put, List.setIfInBounds_toArray, List.set_cons_zero, List.set_cons_succ, i64_w, i32_w]
    rfl
  refine pure_ (i := 3) (N := some 20) (v := ?_) (a' := ?_) #[true, true, false, true, false, false, false, false] rfl rfl (by kernel_rfl) (fun _ _ _ h => h) (Or.inl ⟨by rfl, ?_⟩) ?_ ?_
  rotate_left
  · intro w'
    go_simp
    with_reducible rfl
  rotate_left
  · simp only [Act.put, List.setIfInBounds_toArray, List.set_cons_zero, List.set_cons_succ, i64_w, i32_w]
    rfl
  refine take_ (i := 2) (N := some 19) (v := ?_) (a' := ?_) #[true, true, true, true, false, false, false, false] rfl rfl (by kernel_rfl) (fun _ _ _ h => h) (Or.inl ⟨by rfl, ?_⟩) hHeld ?_ ?_
  rotate_left
  · rintro w' ⟨s0, s1⟩
    go_simp
    with_reducible rfl
  rotate_left
  · simp only [Act.put, List.setIfInBounds_toArray, List.set_cons_zero, List.set_cons_succ, i64_w, i32_w]
    rfl
  refine take_ (i := 4) (N := some 21) (v := ?_) (a' := ?_) #[true, true, true, true, true, false, false, false] rfl rfl (by kernel_rfl) (fun _ _ _ h => h) (Or.inl ⟨by rfl, ?_⟩) hHeld ?_ ?_
  rotate_left
  · rintro w' ⟨s0, s1⟩
    go_simp
    with_reducible rfl
  rotate_left
  · simp only [Act.put, List.setIfInBounds_toArray, List.set_cons_zero, List.set_cons_succ, i64_w, i32_w]
    rfl
  refine one_ (i := 5) (N := none) #[true, true, true, true, true, true, false, false] rfl rfl (by kernel_rfl) (by decide) (fun K hK => ?_)
  refine skip_ (w1 := ?_) (by rfl) rfl ?_ ?_
  rotate_left
  · go_simp
    rfl
  refine hK.out _ _ ⟨keep7 HN.out hgp _ _ _ _ _ _ _ 0, keep7 HN.out hgp _ _ _ _ _ _ _ 1⟩ (fun hHeld => ?_)
  clear hK K
  have hW5 := kb7 w1 p (.int .i64 0) (.string ⟨#[]⟩) (.bool false) (.string ⟨#[]⟩) (.int .i64 0) (.int .i64 0) (.int .i64 0)
  have hP5 := fresh7 HP1.out
  generalize (((((((w1.setCell ⟨p, 0, none⟩ (.int .i64 0)).setCell ⟨p, 1, none⟩ (.string ⟨#[]⟩)).setCell ⟨p, 2, none⟩ (.bool false)).setCell ⟨p, 3, none⟩ (.string ⟨#[]⟩)).setCell ⟨p, 4, none⟩ (.int .i64 0)).setCell ⟨p, 5, none⟩ (.int .i64 0)).setCell ⟨p, 6, none⟩ (.int .i64 0)).drew = w5 at hW5 hP5 hHeld ⊢
  have HW5 := Aside0.mk hW5
  have HP5 := Aside0.mk hP5
  have HN5 := Aside0.mk ((hW5.block g hls hgp).trans HN.out)
  have HQ5 := Aside0.mk ((hW5.block q (by have := HB1.out.size; omega) (Ne.symm hpq)).trans HQ1.out)
  have HR5 := Aside0.mk ((hW5.block r (by have := HB1.out.size; omega) (Ne.symm hpr)).trans HR1.out)
  have n0 := (blk_cell HQ5.out 0).trans rfl
  have nf := blk_frozen HQ5.out 0
  clear hW5 hP5 m0 m1 m2 m3 m4 m5 m6 f0 f1 f2 f3 f4 f5 f6 g0 g1
  refine one_ (i := 6) (N := none) #[true, true, true, true, true, true, true, false] rfl rfl (by kernel_rfl) (by decide) (fun K hK => ?_)
  refine skip_ (w1 := ?_) (by rfl) rfl ?_ ?_
  rotate_left
  · go_simp
    rfl
  refine hK.out _ _ ⟨keep1 HN5.out hgq _ 0, keep1 HN5.out hgq _ 1⟩ (fun hHeld => ?_)
  clear hK K
  have HR6 := Aside0.mk (((KB.set q w5 0 (.int .i64 col)).block r (blk_lt HR5.out) (Ne.symm hqr)).trans HR5.out)
  have l0 := (blk_cell HR6.out 0).trans rfl
  have lf := blk_frozen HR6.out 0
  clear n0 nf
  refine last_ (i := 7) (N := none) #[true, true, true, true, true, true, true, true] rfl rfl (by kernel_rfl) (by decide) (fun K hK => ?_)
  refine skip_ (w1 := ?_) (by rfl) rfl ?_ ?_
  rotate_left
  · go_simp
    rfl
  refine hK.out _ _ ?_
  clear hK K
  refine done_ (by kernel_rfl) ?_
  have hkq := KB.set q w5 0 (.int .i64 col)
  have hkr := KB.set r (w5.setCell ⟨q, 0, none⟩ (.int .i64 col)) 0 (.int .i64 why)
  have hs1 := HB1.out.size
  have hs5 := HW5.out.size
  have hsq := hkq.size
  have hsr := hkr.size
  have HC : Caught p q r why col w ((w5.setCell ⟨q, 0, none⟩ (.int .i64 col)).setCell ⟨r, 0, none⟩ (.int .i64 why)) := {
    os := hkr.os.trans (hkq.os.trans (HW5.out.os.trans HB1.out.os))
    tape := hkr.tape.trans (hkq.tape.trans (HW5.out.tape.trans HB1.out.tape))
    output := hkr.output.trans (hkq.output.trans (HW5.out.output.trans HB1.out.output))
    size := by omega
    out := (hkr.block p (by omega) hpr).trans ((hkq.block p (by omega) hpq).trans HP5.out)
    col := (hkr.block q (by omega) hqr).trans (blk_put HQ5.out 0 _ rfl)
    why := blk_put HR6.out 0 _ rfl
    block := fun k hk h1 h2 h3 => (hkr.block k (by omega) h3).trans ((hkq.block k (by omega) h2).trans ((HW5.out.block k (by omega) h1).trans (HB1.out.block k hk))) }
  exact ⟨rfl, _, by cases c₀; cases HU.out; rfl, _, results_none rfl _ _ _, rfl, rfl, HC⟩
end Go.Proofs.YtmkfjjfdbaaknaaDoor.Q
