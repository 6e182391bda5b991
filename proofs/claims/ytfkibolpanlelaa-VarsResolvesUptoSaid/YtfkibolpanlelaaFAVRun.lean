/- What Expand of package vars does. -/
import Derived.Test.YtfkibolpanlelaaFAVExp
import Derived.Test.YtfkibolpanlelaaFAVCatch
namespace Go.Proofs.Ytfkibolpanlelaa.Q
open Go Go.RowKit Go.Shelf Go.Proofs.YtfkibolpanlelaaW.PrintWords Go.Proofs.YtfkibolpanlelaaW.PrintLast Go.Proofs.YtfkibolpanlelaaW.PrintMore
set_option linter.unusedVariables false
set_option linter.unusedSimpArgs false
set_option linter.unusedSectionVars false
def gathF (st : List Int) (c : Int) (i : Nat) : Except Er (List Int) := if 4096 < (st ++ [c]).length then .error (104, (i : Int)) else .ok (st ++ [c])
def refF (vs : List SVx) (st : List Int) (nm : ByteArray) (i : Nat) : Except Er (List Int) := match getV vs nm with
  | none => .error (102, (i : Int))
  | some v => if 4096 < (st ++ bytesOf v).length then .error (104, (i : Int)) else .ok (st ++ bytesOf v)
abbrev XR := ByteArray × Int × Int
def expandOf : Except Er (List Int) → XR
  | .ok st => (strOfNums st, 0, 0)
  | .error x => (⟨#[]⟩, x.2, x.1)
/-- What Expand answers. -/
def expandP (s : ByteArray) (vs : List SVx) : XR := expandOf (piecesOf gathF (refF vs) s [])
structure XBad (n : Nat) (w0 w : World) : Prop where
  below : Below n w0 w
  pl : w.heap[n + 1]? = some (.cells #[.int .i64 0] 3 (0, 0))
  er : w.heap[n + 1 + 1]? = some (.cells #[.int .i64 0] 23 (0, 0))
structure XInv (n : Nat) (w0 : World) (A : Option Addr) (c : Nat) (vs : List SVx) (st : List Int) (w : World) : Prop where
  bad : XBad n w0 w
  size : n + 1 + 1 + 1 + 1 ≤ w.heap.size
  vsb : w.heap[n]? = some (.cells #[.slice A vs.length c] 22 (0, 0))
  bx : Bx w (n + 1 + 1 + 1) (n + 1 + 1 + 1 + 1) st
  len : st.length ≤ 4096
theorem XBad.ch {n : Nat} {w0 w w' : World} (h : XBad n w0 w) (hc : Ch (n + 1 + 1 + 1 + 1) (fun k => k = n + 1 + 1 + 1) w w') : XBad n w0 w' where
  below := h.below.trans ⟨hc.os, hc.tape, hc.output, Nat.le_trans (by have := blk_lt h.er; omega) hc.size, fun k hk => hc.block k (by omega) (by omega)⟩
  pl := (hc.block _ (by omega) (by omega)).trans h.pl
  er := (hc.block _ (by omega) (by omega)).trans h.er
theorem XInv.ch {n : Nat} {w0 w w' : World} {A : Option Addr} {c : Nat} {vs : List SVx} {st st' : List Int} (h : XInv n w0 A c vs st w) (hc : Ch (n + 1 + 1 + 1 + 1) (fun k => k = n + 1 + 1 + 1) w w') (hb : Bx w' (n + 1 + 1 + 1) (n + 1 + 1 + 1 + 1) st') (hl : st'.length ≤ 4096) : XInv n w0 A c vs st' w' where
  bad := h.bad.ch hc
  size := Nat.le_trans h.size hc.size
  vsb := (hc.block _ (by omega) (by omega)).trans h.vsb
  bx := hb
  len := hl
theorem exp_results {tmps : Array Value} {n : Nat} (w : World) (s : ByteArray) (col why : Int) (h4 : tmps[4]? = some (.string s)) (h5 : tmps[5]? = some (.pointer (some ⟨n + 1, 0, none⟩))) (h6 : tmps[6]? = some (.pointer (some ⟨n + 1 + 1, 0, none⟩)))
    (hc : w.heap[n + 1]? = some (.cells #[.int .i64 col] 3 (0, 0))) (he : w.heap[n + 1 + 1]? = some (.cells #[.int .i64 why] 23 (0, 0))) :
    (results Try.f21 tmps).run Try.prog w = .ok (.tuple #[.string s, .int .i64 col, .int .i64 why]) w := by
  have g4 : tmps[4]?.getD undef = .string s := by rw [h4]; rfl
  have g5 : tmps[5]?.getD undef = .pointer (some ⟨n + 1, 0, none⟩) := by rw [h5]; rfl
  have g6 : tmps[6]?.getD undef = .pointer (some ⟨n + 1 + 1, 0, none⟩) := by rw [h6]; rfl
  have c3 : w.cell? ⟨n + 1, 0, none⟩ = some (.int .i64 col) := blk_cell hc 0
  have c4 : w.cell? ⟨n + 1 + 1, 0, none⟩ = some (.int .i64 why) := blk_cell he 0
  simp [results, Try.results21, g4, g5, g6, asAddr, go_sem, c3, c4]
def ExpPost (n : Nat) (w0 : World) (r : XR) (e : Ending) (w' : World) : Prop := e = .returned (.tuple #[.string r.1, .int .i64 r.2.1, .int .i64 r.2.2]) ∧ Below n w0 w'
theorem door_panic {tmps : Array Value} {n : Nat} {w0 w1 : World} {x : Er} (hr : XBad n w0 w1) (h4 : tmps[4]? = some (.string ⟨#[]⟩)) (h5 : tmps[5]? = some (.pointer (some ⟨n + 1, 0, none⟩))) (h6 : tmps[6]? = some (.pointer (some ⟨n + 1 + 1, 0, none⟩))) :
    Leaves Try.prog Try.f21 tmps (ExpPost n w0 (expandOf (.error x))) [{ target := Target.fn (.func 35) #[], args := #[.pointer (some ⟨n + 1, 0, none⟩), .pointer (some ⟨n + 1 + 1, 0, none⟩)] }] (.panicking (stopV x.1 x.2)) w1 := by
  refine leaves_cons (f := 35) (args := #[.pointer (some ⟨n + 1, 0, none⟩), .pointer (some ⟨n + 1 + 1, 0, none⟩)]) (by simp) (by simp [go_sem]) ?_
  refine (catch_panicking (n + 1) (n + 1 + 1) x.1 x.2 w1 hr.pl hr.er (by omega)).mono ?_
  rintro e u' w'' ⟨rfl, rfl, hc⟩
  have hb : Below n w1 w'' := ⟨hc.os, hc.tape, hc.output, Nat.le_trans (by have := blk_lt hr.er; omega) hc.size, fun k hk => hc.block k (by have := blk_lt hr.er; omega) (by omega) (by omega)⟩
  exact ⟨_, exp_results w'' ⟨#[]⟩ x.2 x.1 h4 h5 h6 hc.col hc.why, rfl, hr.below.trans hb⟩
theorem door_return {tmps : Array Value} {n : Nat} {w0 w1 : World} {s : ByteArray} (hb : Below n w0 w1) (h4 : tmps[4]? = some (.string s)) (h5 : tmps[5]? = some (.pointer (some ⟨n + 1, 0, none⟩))) (h6 : tmps[6]? = some (.pointer (some ⟨n + 1 + 1, 0, none⟩)))
    (hc : w1.heap[n + 1]? = some (.cells #[.int .i64 0] 3 (0, 0))) (he : w1.heap[n + 1 + 1]? = some (.cells #[.int .i64 0] 23 (0, 0))) :
    Leaves Try.prog Try.f21 tmps (ExpPost n w0 (s, 0, 0)) [{ target := Target.fn (.func 35) #[], args := #[.pointer (some ⟨n + 1, 0, none⟩), .pointer (some ⟨n + 1 + 1, 0, none⟩)] }] .returning w1 := by
  refine leaves_cons (f := 35) (args := #[.pointer (some ⟨n + 1, 0, none⟩), .pointer (some ⟨n + 1 + 1, 0, none⟩)]) (by simp) (by simp [go_sem]) ?_
  refine (catch_idle ⟨n + 1, 0, none⟩ ⟨n + 1 + 1, 0, none⟩ w1).mono ?_
  rintro e u' w'' ⟨rfl, rfl, rfl⟩
  exact ⟨_, exp_results w'' s 0 0 h4 h5 h6 hc he, rfl, hb⟩
theorem eg37 : ∀ args w, (callFunc 37 args).run Try.prog w = .ok (.enter 37 args) w := enters_of Try.func37 (by kernel_rfl) rfl
theorem eg39 : ∀ args w, (callFunc 39 args).run Try.prog w = .ok (.enter 39 args) w := enters_of Try.func39 (by kernel_rfl) rfl
theorem at_new (w : World) (o : Obj) {n : Nat} (h : n = w.heap.size) : (w.alloc o).heap[n]? = some o := by subst h; exact blk_new w o
theorem exp_start (w : World) (A : Option Addr) (c : Nat) (vs : List SVx) : XInv w.heap.size w A c vs [] ((((w.alloc (.cells #[.slice A vs.length c] 22)).alloc (.cells #[.int .i64 0] 3)).alloc (.cells #[.int .i64 0] 23)).alloc (.cells #[.slice none 0 0] 46)) where
  bad := {
    below := below_alloc (below_alloc (below_alloc (below_alloc (Below.refl _ _) _) _) _) _
    pl := blk_alloc (blk_alloc (at_new _ _ (by simp)) _) _
    er := blk_alloc (at_new _ _ (by simp)) _ }
  size := by simp
  vsb := blk_alloc (blk_alloc (blk_alloc (at_new w _ rfl) _) _) _
  bx := ⟨_, at_new _ _ (by simp), Kd.R_nil _ _ _ _ _⟩
  len := Nat.zero_le _
set_option maxHeartbeats 2000000 in
set_option maxRecDepth 100000 in
theorem expand_any {w : World} (n : Nat) (hn : n = w.heap.size) (s : ByteArray) (A : Option Addr) (c : Nat) (vs : List SVx) (hC : Kd.C k41 w A vs.length vs) (hc : vs.length ≤ c) (hs : s.size ≤ 1073741824) (hsz : ∀ v ∈ vs, v.f1.size ≤ 1073741824) (hgm : GM w) :
    Calls Try.prog 21 #[.string s, .slice A vs.length c] w (ExpPost n w (expandP s vs)) := by
  have hmf : ∀ (fn : Fn) (first cap : Array Value) (w : World), (Instr.makeFunc fn first cap).run Try.prog w = .ok (.func fn first cap) w := fun _ _ _ _ => rfl
  have HI0 := Aside0.mk (exp_start w A c vs)
  rw [← hn] at HI0
  have HGMB := Aside0.mk (fun w' : World => fun h : Below n w w' => GM.below hgm (by rw [← hn]; exact h))
  have HCB := Aside0.mk (fun w' : World => fun h : Below n w w' => Kd.C_below hC (by rw [← hn]; exact h))
  have HSZ := Aside0.mk hsz
  clear hgm hC hsz
  have HPC := Aside0.mk (fun (w' : World) (hi : XInv n w A c vs [] w') => pieces_any (σ := List Int) (XInv n w A c vs) (XBad n w)
    (fun st w1 m h => ⟨⟨h.bad.below.trans ⟨rfl, rfl, rfl, Nat.le_refl _, fun _ _ => rfl⟩, h.bad.pl, h.bad.er⟩, h.size, h.vsb, h.bx.drewN m, h.len⟩)
    (fun st w1 h => HGMB.out w1 h.bad.below) (fun st w1 h => h.bad)
    gathF (refF vs) 37 39 #[.pointer (some ⟨n + 1 + 1 + 1, 0, none⟩)] #[.pointer (some ⟨n, 0, none⟩), .pointer (some ⟨n + 1 + 1 + 1, 0, none⟩)] s hs eg37 eg39
    (fun st cc i w1 h0 h1 hi h => (says_any (n + 1 + 1 + 1) (n + 1 + 1 + 1 + 1) st cc (i : Int) w1 (by omega) h.size h.bx h.len).mono fun e w2 ⟨hch, hp⟩ => by
      unfold gathF
      split
      · rename_i hl
        rw [if_pos hl] at hp
        exact ⟨hp, h.bad.ch hch⟩
      · rename_i hl
        rw [if_neg hl] at hp
        exact ⟨hp.1, h.ch hch hp.2 (by omega)⟩)
    (fun st i w1 hi h => (refsE_any n (n + 1 + 1 + 1) (n + 1 + 1 + 1 + 1) A c vs st (nameAt s i) (i : Int) w1 (by omega) h.size h.bx h.len h.vsb (HCB.out w1 h.bad.below) hc HSZ.out).mono fun e w2 ⟨hch, hp⟩ => by
      unfold refF
      cases hg : getV vs (nameAt s i) with
      | none =>
        rw [hg] at hp
        exact ⟨hp, h.bad.ch hch⟩
      | some val =>
        rw [hg] at hp
        by_cases hl : 4096 < (st ++ bytesOf val).length
        · simp only [if_pos hl] at hp ⊢
          exact ⟨hp, h.bad.ch hch⟩
        · simp only [if_neg hl] at hp ⊢
          exact ⟨hp.1, h.ch hch hp.2 (by omega)⟩)
    [] w' hi)
  unfold expandP
  obtain ⟨R, hR⟩ : ∃ R, R = piecesOf gathF (refF vs) s [] := ⟨_, rfl⟩
  rw [← hR] at HPC ⊢
  clear hR
  subst hn
  rcases R with x | st
  · go_enter_defers Try.func21, Try.ntmps21
    go_wp2_with (go_at_call 36; go_loud (refine (HPC.out _ HI0.out).mono ?_); rintro e w1 ⟨rfl, hb⟩; have HB := Aside0.mk hb; clear hb)
    exact door_panic (x := x) HB.out rfl rfl rfl
  · go_enter_defers Try.func21, Try.ntmps21
    go_wp2_with (go_at_call 36; refine (HPC.out _ HI0.out).mono ?_; rintro e w1 ⟨rfl, hi⟩; have HI := Aside0.mk hi; obtain ⟨v, hv, hr⟩ := hi.bx; obtain ⟨A1, c1, e1⟩ := Kd.R_slice hr; subst e1; have b0 : w1.cell? ⟨w.heap.size + 1 + 1 + 1, 0, none⟩ = some (.slice A1 st.length c1) := blk_cell hv 0; have HRD := Aside0.mk (Kd.R_reads' hr).2.2; have hcv1 := Kd.C_string (src := 46) (dst := 9) (c := c1) Try.underlying46 Try.underlying5 Try.underlying9 HRD.out; have p0 : w1.cell? ⟨w.heap.size + 1, 0, none⟩ = some (.int .i64 0) := blk_cell hi.bad.pl 0; have pf := blk_frozen hi.bad.pl 0; have e0 : w1.cell? ⟨w.heap.size + 1 + 1, 0, none⟩ = some (.int .i64 0) := blk_cell hi.bad.er 0; have ef := blk_frozen hi.bad.er 0; clear hi hv hr)
    refine door_return ?_ rfl rfl rfl ?_ ?_
    · exact (HI.out.bad.below.setCell (by show w.heap.size ≤ w.heap.size + 1; omega) _).setCell (by show w.heap.size ≤ w.heap.size + 1 + 1; omega) _
    · exact blk_far (put1 HI.out.bad.pl _) (p := ⟨w.heap.size + 1 + 1, 0, none⟩) (by show w.heap.size + 1 ≠ w.heap.size + 1 + 1; omega) _
    · exact put1 (blk_far HI.out.bad.er (p := ⟨w.heap.size + 1, 0, none⟩) (by show w.heap.size + 1 + 1 ≠ w.heap.size + 1; omega) _) _
end Go.Proofs.Ytfkibolpanlelaa.Q
