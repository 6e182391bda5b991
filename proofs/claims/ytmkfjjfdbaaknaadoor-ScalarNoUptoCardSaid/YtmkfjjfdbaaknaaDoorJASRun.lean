/- What Read of package scalar does: the three steps, and what the deferred closure leaves. -/
import Derived.Test.YtmkfjjfdbaaknaaDoorJASHead
import Derived.Test.YtmkfjjfdbaaknaaDoorJASCatch
import Derived.Test.YtmkfjjfdbaaknaaDoorJASPure
namespace Go.Proofs.YtmkfjjfdbaaknaaDoor.Q
open Go Go.RowKit Go.Shelf Go.Proofs.YtmkfjjfdbaaknaaDoorW.PrintWords Go.Proofs.YtmkfjjfdbaaknaaDoorW.PrintLast Go.Proofs.YtmkfjjfdbaaknaaDoorW.PrintMore
set_option linter.unusedVariables false
set_option linter.unusedSimpArgs false
set_option linter.unusedSectionVars false
def qOf (s : ByteArray) (i : Nat) : ByteArray × Int × Bool := if i < s.size then quotedQ s i else (⟨#[]⟩, 0, false)
theorem qOf_ev (s : ByteArray) (i : Nat) (hs : s.size ≤ 1073741824) (hi : i < s.size) : ∃ k, quote_Read.f k (s.extract i s.size) = some (qOf s i) := by
  unfold qOf
  rw [if_pos hi]
  exact (quotedQ_ev s i hi hs).rounds
theorem qOf_range (s : ByteArray) (i : Nat) (hi : i ≤ s.size) : 0 ≤ (qOf s i).2.1 ∧ (i : Int) + (qOf s i).2.1 ≤ s.size := by
  unfold qOf
  split
  · exact quotedQ_range s i ‹_›
  · exact ⟨Int.le_refl 0, by show (i : Int) + 0 ≤ _; omega⟩
def zCT : CT := ⟨0, ⟨#[]⟩, false, ⟨#[]⟩, 0, 0, 0⟩
def readP (s : ByteArray) : RP :=
  if (headP s (qOf s 0)).1 = 0 then
    if (valueP s (gapOf s (headP s (qOf s 0)).2.2.1) (qOf s (gapOf s (headP s (qOf s 0)).2.2.1)) (headP s (qOf s 0)).2.2.2).1 = 0 then
      (0, 0, (valueP s (gapOf s (headP s (qOf s 0)).2.2.1) (qOf s (gapOf s (headP s (qOf s 0)).2.2.1)) (headP s (qOf s 0)).2.2.2).2.2)
    else ((valueP s (gapOf s (headP s (qOf s 0)).2.2.1) (qOf s (gapOf s (headP s (qOf s 0)).2.2.1)) (headP s (qOf s 0)).2.2.2).1, (valueP s (gapOf s (headP s (qOf s 0)).2.2.1) (qOf s (gapOf s (headP s (qOf s 0)).2.2.1)) (headP s (qOf s 0)).2.2.2).2.1, zCT)
  else ((headP s (qOf s 0)).1, (headP s (qOf s 0)).2.1, zCT)
theorem prefB_size (s : ByteArray) (l : List UInt8) (h : prefB s ⟨l.toArray⟩ = true) : l.length ≤ s.size := by
  have h1 : l.isPrefixOf s.data.toList = true := h
  exact (List.isPrefixOf_iff_prefix.1 h1).length_le
theorem bt_in (s : ByteArray) (i : Nat) (c : Int) (hc : c ≠ 0) (h : bt s (i : Int) = c) : i < s.size := by
  unfold bt at h
  split at h
  · rename_i hi
    omega
  · exact absurd h.symm hc
theorem colonP_le (s key : ByteArray) (a : Nat) (h : (colonP s key a).1 = 0) : (colonP s key a).2.2.1 ≤ s.size := by
  unfold colonP at h ⊢
  split at h
  · cases h
  · rename_i h1
    split at h
    · cases h
    · rename_i h2
      rw [if_neg h1, if_neg h2]
      show a + 1 ≤ s.size
      omega
theorem headP_le (s : ByteArray) (q : ByteArray × Int × Bool) (h : (headP s q).1 = 0) : (headP s q).2.2.1 ≤ s.size := by
  unfold headP at h ⊢
  by_cases h1 : ((s.toList == [45]) || prefB s ⟨#[45, 32]⟩) = true
  · rw [if_pos h1]
    show 1 ≤ s.size
    rw [Bool.or_eq_true] at h1
    rcases h1 with h1 | h1
    · have := congrArg List.length (beq_iff_eq.1 h1)
      rw [ByteArray.toList_eq, data_length] at this
      simp at this
      omega
    · have := prefB_size s [45, 32] h1
      simp at this
      omega
  · rw [if_neg h1] at h ⊢
    split at h
    · rename_i h2
      rw [if_pos h2]
      split at h
      · rename_i h3
        rw [if_pos h3]
        split at h
        · cases h
        · rename_i h4
          rw [if_neg h4]
          exact colonP_le _ _ _ h
      · cases h
    · rename_i h2
      rw [if_neg h2]
      split at h
      · rename_i h3
        rw [if_pos h3]
        exact colonP_le _ _ _ h
      · cases h
def fsA (n : Nat) : Array Value := #[.func (.func 31) #[.pointer (some ⟨n + 1 + 1 + 1, 0, none⟩)] #[], .func (.func 32) #[.pointer (some ⟨n + 1 + 1 + 1, 0, none⟩)] #[], .func (.func 33) #[.pointer (some ⟨n + 1 + 1 + 1, 0, none⟩)] #[]]
structure Rst (n : Nat) (w0 w : World) : Prop where
  below : Below n w0 w
  out : w.heap[n]? = some (.cells zC 23 (0, 0))
  col : w.heap[n + 1]? = some (.cells #[.int .i64 0] 3 (0, 0))
  why : w.heap[n + 1 + 1]? = some (.cells #[.int .i64 0] 24 (0, 0))
  fs : w.heap[n + 1 + 1 + 1 + 1]? = some (.cells (fsA n) 1 (0, 0))
theorem KB.toBelow {B n : Nat} {w w' : World} (h : KB B w w') (hn : n ≤ B) (hw : n ≤ w.heap.size) : Below n w w' := ⟨h.os, h.tape, h.output, h.size, fun k hk => h.block k (by omega) (by omega)⟩
theorem Rst.kb {n : Nat} {w0 w w' : World} (h : Rst n w0 w) (hk : KB (n + 1 + 1 + 1) w w') : Rst n w0 w' where
  below := h.below.trans (hk.toBelow (by omega) (by have := blk_lt h.out; omega))
  out := (hk.block _ (blk_lt h.out) (by omega)).trans h.out
  col := (hk.block _ (blk_lt h.col) (by omega)).trans h.col
  why := (hk.block _ (blk_lt h.why) (by omega)).trans h.why
  fs := (hk.block _ (blk_lt h.fs) (by omega)).trans h.fs
def Stage (n : Nat) (s : ByteArray) (w : World) : Nat → Prop
  | 0 => Rd w (n + 1 + 1 + 1) s 0 zCT
  | 1 => (headP s (qOf s 0)).1 = 0 ∧ Rd w (n + 1 + 1 + 1) s ((headP s (qOf s 0)).2.2.1 : Int) (headP s (qOf s 0)).2.2.2
  | 2 => (headP s (qOf s 0)).1 = 0 ∧ Rd w (n + 1 + 1 + 1) s (gapOf s (headP s (qOf s 0)).2.2.1 : Int) (headP s (qOf s 0)).2.2.2
  | _ => readP s = (0, 0, (readP s).2.2) ∧ ∃ j, Rd w (n + 1 + 1 + 1) s j (readP s).2.2
def RunRel (n : Nat) (w0 : World) (s : ByteArray) (g : Nat) (i : Value) (w : World) : Prop := Rst n w0 w ∧
  ((i = .int .i64 0 ∧ 3 ≤ g ∧ Stage n s w 0) ∨ (i = .int .i64 1 ∧ 2 ≤ g ∧ Stage n s w 1) ∨ (i = .int .i64 2 ∧ 1 ≤ g ∧ Stage n s w 2) ∨ (i = .int .i64 3 ∧ Stage n s w 3))
theorem read_results {tmps : Array Value} {n : Nat} (w : World) (c : CT) (col why : Int) (h2 : tmps[2]? = some (.pointer (some ⟨n, 0, none⟩))) (h3 : tmps[3]? = some (.pointer (some ⟨n + 1, 0, none⟩))) (h4 : tmps[4]? = some (.pointer (some ⟨n + 1 + 1, 0, none⟩)))
    (ho : w.heap[n]? = some (.cells #[.int .i64 c.f0, .string c.f1, .bool c.f2, .string c.f3, .int .i64 c.f4, .int .i64 c.f5, .int .i64 c.f6] 23 (0, 0))) (hc : w.heap[n + 1]? = some (.cells #[.int .i64 col] 3 (0, 0))) (he : w.heap[n + 1 + 1]? = some (.cells #[.int .i64 why] 24 (0, 0))) :
    (results Tryd.f11 tmps).run Tryd.prog w = .ok (.tuple #[.agg #[.int .i64 c.f0, .string c.f1, .bool c.f2, .string c.f3, .int .i64 c.f4, .int .i64 c.f5, .int .i64 c.f6], .int .i64 col, .int .i64 why]) w := by
  have g2 : tmps[2]?.getD undef = .pointer (some ⟨n, 0, none⟩) := by rw [h2]; rfl
  have g3 : tmps[3]?.getD undef = .pointer (some ⟨n + 1, 0, none⟩) := by rw [h3]; rfl
  have g4 : tmps[4]?.getD undef = .pointer (some ⟨n + 1 + 1, 0, none⟩) := by rw [h4]; rfl
  have c3 : w.cell? ⟨n + 1, 0, none⟩ = some (.int .i64 col) := blk_cell hc 0
  have c4 : w.cell? ⟨n + 1 + 1, 0, none⟩ = some (.int .i64 why) := blk_cell he 0
  have o0 : w.cell? ⟨n, 0, none⟩ = some (.int .i64 c.f0) := blk_cell ho 0
  have o1 : w.cell? ⟨n, 1, none⟩ = some (.string c.f1) := blk_cell ho 1
  have o2 : w.cell? ⟨n, 2, none⟩ = some (.bool c.f2) := blk_cell ho 2
  have o3 : w.cell? ⟨n, 3, none⟩ = some (.string c.f3) := blk_cell ho 3
  have o4 : w.cell? ⟨n, 4, none⟩ = some (.int .i64 c.f4) := blk_cell ho 4
  have o5 : w.cell? ⟨n, 5, none⟩ = some (.int .i64 c.f5) := blk_cell ho 5
  have o6 : w.cell? ⟨n, 6, none⟩ = some (.int .i64 c.f6) := blk_cell ho 6
  simp [results, Tryd.results11, g2, g3, g4, asAddr, go_sem, c3, c4, o0, o1, o2, o3, o4, o5, o6]
def ReadPost (n : Nat) (w0 : World) (r : RP) (e : Ending) (w' : World) : Prop :=
  e = .returned (.tuple #[.agg #[.int .i64 r.2.2.f0, .string r.2.2.f1, .bool r.2.2.f2, .string r.2.2.f3, .int .i64 r.2.2.f4, .int .i64 r.2.2.f5, .int .i64 r.2.2.f6], .int .i64 r.2.1, .int .i64 r.1]) ∧ Below n w0 w'
theorem door_panic {tmps : Array Value} {n : Nat} {w0 w1 : World} {r : RP} (hr : Rst n w0 w1) (hz : r.2.2 = zCT) (h2 : tmps[2]? = some (.pointer (some ⟨n, 0, none⟩))) (h3 : tmps[3]? = some (.pointer (some ⟨n + 1, 0, none⟩))) (h4 : tmps[4]? = some (.pointer (some ⟨n + 1 + 1, 0, none⟩))) :
    Leaves Tryd.prog Tryd.f11 tmps (ReadPost n w0 r) [{ target := Target.fn (.func 30) #[.pointer (some ⟨n, 0, none⟩), .pointer (some ⟨n + 1, 0, none⟩), .pointer (some ⟨n + 1 + 1, 0, none⟩)], args := #[] }] (.panicking (stopV r.1 r.2.1)) w1 := by
  refine leaves_cons (f := 30) (args := #[.pointer (some ⟨n, 0, none⟩), .pointer (some ⟨n + 1, 0, none⟩), .pointer (some ⟨n + 1 + 1, 0, none⟩)]) (by simp) (by simp [go_sem]) ?_
  refine (catch_panicking n (n + 1) (n + 1 + 1) r.1 r.2.1 w1 hr.out hr.col hr.why (by omega) (by omega) (by omega)).mono ?_
  rintro e u' w'' ⟨rfl, rfl, hc⟩
  have hb : Below n w1 w'' := ⟨hc.os, hc.tape, hc.output, hc.size, fun k hk => hc.block k (by have := blk_lt hr.out; omega) (by omega) (by omega) (by omega)⟩
  refine ⟨_, read_results w'' zCT r.2.1 r.1 h2 h3 h4 hc.out hc.col hc.why, ?_, hr.below.trans hb⟩
  rw [hz]
theorem door_return {tmps : Array Value} {n : Nat} {w0 w1 : World} {r : RP} (hb : Below n w0 w1) (h2 : tmps[2]? = some (.pointer (some ⟨n, 0, none⟩))) (h3 : tmps[3]? = some (.pointer (some ⟨n + 1, 0, none⟩))) (h4 : tmps[4]? = some (.pointer (some ⟨n + 1 + 1, 0, none⟩)))
    (ho : w1.heap[n]? = some (.cells #[.int .i64 r.2.2.f0, .string r.2.2.f1, .bool r.2.2.f2, .string r.2.2.f3, .int .i64 r.2.2.f4, .int .i64 r.2.2.f5, .int .i64 r.2.2.f6] 23 (0, 0))) (hc : w1.heap[n + 1]? = some (.cells #[.int .i64 r.2.1] 3 (0, 0))) (he : w1.heap[n + 1 + 1]? = some (.cells #[.int .i64 r.1] 24 (0, 0))) :
    Leaves Tryd.prog Tryd.f11 tmps (ReadPost n w0 r) [{ target := Target.fn (.func 30) #[.pointer (some ⟨n, 0, none⟩), .pointer (some ⟨n + 1, 0, none⟩), .pointer (some ⟨n + 1 + 1, 0, none⟩)], args := #[] }] .returning w1 := by
  refine leaves_cons (f := 30) (args := #[.pointer (some ⟨n, 0, none⟩), .pointer (some ⟨n + 1, 0, none⟩), .pointer (some ⟨n + 1 + 1, 0, none⟩)]) (by simp) (by simp [go_sem]) ?_
  refine (catch_idle ⟨n, 0, none⟩ ⟨n + 1, 0, none⟩ ⟨n + 1 + 1, 0, none⟩ w1).mono ?_
  rintro e u' w'' ⟨rfl, rfl, rfl⟩
  exact ⟨_, read_results w'' r.2.2 r.2.1 r.1 h2 h3 h4 ho hc he, rfl, hb⟩
theorem at_new (w : World) (o : Obj) {n : Nat} (h : n = w.heap.size) : (w.alloc o).heap[n]? = some o := by subst h; exact blk_new w o
theorem rst_start (w : World) (s : ByteArray) : Rst w.heap.size w (((((w.alloc (.cells zC 23)).alloc (.cells #[.int .i64 0] 3)).alloc (.cells #[.int .i64 0] 24)).alloc (.cells #[.string s, .int .i64 0, .int .i64 0, .string ⟨#[]⟩, .bool false, .string ⟨#[]⟩, .int .i64 0, .int .i64 0, .int .i64 0] 39)).alloc (.cells (fsA w.heap.size) 1)) := by
  have z : ∀ (w : World) (o : Obj), (w.alloc o).heap.size = w.heap.size + 1 := fun w o => by simp
  refine ⟨below_alloc (below_alloc (below_alloc (below_alloc (below_alloc (Below.refl _ _) _) _) _) _) _, ?_, ?_, ?_, ?_⟩
  · exact blk_alloc (blk_alloc (blk_alloc (blk_alloc (at_new w _ rfl) _) _) _) _
  · exact blk_alloc (blk_alloc (blk_alloc (at_new _ _ (by rw [z])) _) _) _
  · exact blk_alloc (blk_alloc (at_new _ _ (by rw [z, z])) _) _
  · exact at_new _ _ (by rw [z, z, z, z])
theorem stage_start (w : World) (s : ByteArray) : Stage w.heap.size s (((((w.alloc (.cells zC 23)).alloc (.cells #[.int .i64 0] 3)).alloc (.cells #[.int .i64 0] 24)).alloc (.cells #[.string s, .int .i64 0, .int .i64 0, .string ⟨#[]⟩, .bool false, .string ⟨#[]⟩, .int .i64 0, .int .i64 0, .int .i64 0] 39)).alloc (.cells (fsA w.heap.size) 1)) 0 := by
  have z : ∀ (w : World) (o : Obj), (w.alloc o).heap.size = w.heap.size + 1 := fun w o => by simp
  unfold Stage Rd
  exact blk_alloc (at_new _ _ (by rw [z, z, z])) _
set_option maxHeartbeats 4000000 in
set_option maxRecDepth 100000 in
theorem read_any {w : World} (n : Nat) (hn : n = w.heap.size) (s : ByteArray) (hs : s.size ≤ 1073741824) (hgm : GM w) :
    Calls Tryd.prog 11 #[.string s] w (ReadPost n w (readP s)) := by
  have hmf : ∀ (fn : Fn) (first cap : Array Value) (w : World), (Instr.makeFunc fn first cap).run Tryd.prog w = .ok (.func fn first cap) w := fun _ _ _ _ => rfl
  have HGM := Aside0.mk hgm
  clear hgm
  go_enter_defers Tryd.func11, Tryd.ntmps11
  go_wp2
  have hR := rst_start w s
  have hS := stage_start w s
  have HRS := Aside0.mk hR
  have HST := Aside0.mk hS
  clear hR hS
  have HGMB := Aside0.mk (fun w' : World => fun h : Below n w w' => GM.below HGM.out (by rw [← hn]; exact h))
  rw [← hn] at HRS HST ⊢
  clear hn
  go_loopg [20] 3 (fun g i wr => RunRel n w s g i wr)
  case atStart => exact ⟨HRS.out, .inl ⟨rfl, Nat.le_refl _, HST.out⟩⟩
  case round =>
    clear HRS HST
    obtain ⟨hrs, hrel⟩ := hrel
    have HRS := Aside0.mk hrs
    rcases hrel with ⟨rfl, hg, hst⟩ | ⟨rfl, hg, hst⟩ | ⟨rfl, hg, hst⟩ | ⟨rfl, hst⟩
    · have HR := Aside0.mk (show Rd wr (n + 1 + 1 + 1) s 0 zCT from hst)
      have hc : wr.cell? ⟨n + 1 + 1 + 1 + 1, 0, none⟩ = some (.func (.func 31) #[.pointer (some ⟨n + 1 + 1 + 1, 0, none⟩)] #[]) := blk_cell hrs.fs 0
      have hq1 := qOf_range s 0 (Nat.zero_le _)
      clear hrs hst
      by_cases hz : (headP s (qOf s 0)).1 = 0
      · have HZ := Aside0.mk hz
        clear hz
        go_wp2_with (go_at_call 31; refine (head_any HR.out hs (qOf s 0) (fun h => qOf_ev s 0 hs (prefB_size s [34] h)) hq1.1 (by have := hq1.2; omega)).mono ?_; rintro e w' ⟨hk, hp⟩; rw [if_pos HZ.out] at hp; obtain ⟨rfl, hr⟩ := hp; have HK := Aside0.mk hk; have HR' := Aside0.mk hr; clear hk hr)
        go_roundg (gk - 1)
        case measure => omega
        case rel => exact ⟨HRS.out.kb HK.out, .inr (.inl ⟨rfl, by omega, HZ.out, HR'.out⟩)⟩
      · have HZ := Aside0.mk hz
        clear hz
        go_wp2_with (go_at_call 31; refine (head_any HR.out hs (qOf s 0) (fun h => qOf_ev s 0 hs (prefB_size s [34] h)) hq1.1 (by have := hq1.2; omega)).mono ?_; rintro e w' ⟨hk, hp⟩; rw [if_neg HZ.out] at hp; subst hp; have HK := Aside0.mk hk; clear hk)
        have hres : readP s = ((headP s (qOf s 0)).1, (headP s (qOf s 0)).2.1, zCT) := if_neg HZ.out
        rw [hres]
        exact door_panic (r := ((headP s (qOf s 0)).1, (headP s (qOf s 0)).2.1, zCT)) (HRS.out.kb HK.out) rfl rfl rfl rfl
    · have hh := hst.1
      have HR := Aside0.mk hst.2
      have hc : wr.cell? ⟨n + 1 + 1 + 1 + 1, 1, none⟩ = some (.func (.func 32) #[.pointer (some ⟨n + 1 + 1 + 1, 0, none⟩)] #[]) := blk_cell hrs.fs 1
      have HH := Aside0.mk hh
      clear hrs hst hh
      go_wp2_with (go_at_call 32; refine (gap_any (headP s (qOf s 0)).2.2.1 HR.out (headP_le s _ HH.out) hs).mono ?_; rintro e w' ⟨rfl, hr, hk⟩; have HK := Aside0.mk hk; have HR' := Aside0.mk hr; clear hk hr)
      go_roundg (gk - 1)
      case measure => omega
      case rel => exact ⟨HRS.out.kb HK.out, .inr (.inr (.inl ⟨rfl, by omega, HH.out, HR'.out⟩))⟩
    · have hh := hst.1
      have HR := Aside0.mk hst.2
      have hc : wr.cell? ⟨n + 1 + 1 + 1 + 1, 2, none⟩ = some (.func (.func 33) #[.pointer (some ⟨n + 1 + 1 + 1, 0, none⟩)] #[]) := blk_cell hrs.fs 2
      have HH := Aside0.mk hh
      have hle := gapOf_le s _ (headP_le s _ hh)
      obtain ⟨g, hg2⟩ : ∃ g, g = gapOf s (headP s (qOf s 0)).2.2.1 := ⟨_, rfl⟩
      obtain ⟨c, hc2⟩ : ∃ c, c = (headP s (qOf s 0)).2.2.2 := ⟨_, rfl⟩
      obtain ⟨v, hv⟩ : ∃ v, v = valueP s g (qOf s g) c := ⟨_, rfl⟩
      have hres : readP s = if v.1 = 0 then (0, 0, v.2.2) else (v.1, v.2.1, zCT) := by
        rw [hv, hg2, hc2]
        exact if_pos hh
      have HRES := Aside0.mk hres
      have hq1 := qOf_range s g (by rw [hg2]; exact hle)
      rw [← hg2, ← hc2] at HR
      rw [← hg2] at hle
      have hgmb := HGMB.out
      have HGW := Aside0.mk (fun w' : World => fun h : KB (n + 1 + 1 + 1) wr w' => hgmb w' (HRS.out.kb h).below)
      have HLE := Aside0.mk hle
      have HV := Aside0.mk hv
      clear hrs hst hh hg2 hc2 hres hgmb hv HH
      by_cases hz : v.1 = 0
      · have HZ := Aside0.mk hz
        clear hz
        go_wp2_with (go_at_call 33; refine (value_any g HR.out HLE.out hs HGW.out (qOf s g) (fun h => qOf_ev s g hs (bt_in s g 34 (by decide) h)) hq1.1 hq1.2).mono ?_; rw [← HV.out]; rintro e w' ⟨hk, hp⟩; rw [if_pos HZ.out] at hp; obtain ⟨rfl, hr⟩ := hp; have HK := Aside0.mk hk; have HR' := Aside0.mk hr; clear hk hr)
        go_roundg (gk - 1)
        case measure => omega
        case rel => exact ⟨HRS.out.kb HK.out, .inr (.inr (.inr ⟨rfl, by rw [HRES.out, if_pos HZ.out], by rw [HRES.out, if_pos HZ.out]; exact HR'.out⟩))⟩
      · have HZ := Aside0.mk hz
        clear hz
        go_wp2_with (go_at_call 33; refine (value_any g HR.out HLE.out hs HGW.out (qOf s g) (fun h => qOf_ev s g hs (bt_in s g 34 (by decide) h)) hq1.1 hq1.2).mono ?_; rw [← HV.out]; rintro e w' ⟨hk, hp⟩; rw [if_neg HZ.out] at hp; subst hp; have HK := Aside0.mk hk; clear hk)
        rw [HRES.out, if_neg HZ.out]
        exact door_panic (r := (v.1, v.2.1, zCT)) (HRS.out.kb HK.out) rfl rfl rfl rfl
    · have hr := hst.2
      have HE := Aside0.mk hst.1
      clear hst
      obtain ⟨c, hc⟩ : ∃ c, c = (readP s).2.2 := ⟨_, rfl⟩
      rw [← hc] at HE hr
      clear hc
      obtain ⟨j, hj⟩ := hr
      have HR := Aside0.mk hj
      have r2 : wr.cell? ⟨n + 1 + 1 + 1, 2, none⟩ = some (.int .i64 c.f0) := blk_cell hj 2
      have r3 : wr.cell? ⟨n + 1 + 1 + 1, 3, none⟩ = some (.string c.f1) := blk_cell hj 3
      have r4 : wr.cell? ⟨n + 1 + 1 + 1, 4, none⟩ = some (.bool c.f2) := blk_cell hj 4
      have r5 : wr.cell? ⟨n + 1 + 1 + 1, 5, none⟩ = some (.string c.f3) := blk_cell hj 5
      have r6 : wr.cell? ⟨n + 1 + 1 + 1, 6, none⟩ = some (.int .i64 c.f4) := blk_cell hj 6
      have r7 : wr.cell? ⟨n + 1 + 1 + 1, 7, none⟩ = some (.int .i64 c.f5) := blk_cell hj 7
      have r8 : wr.cell? ⟨n + 1 + 1 + 1, 8, none⟩ = some (.int .i64 c.f6) := blk_cell hj 8
      have m0 : wr.cell? ⟨n, 0, none⟩ = some (.int .i64 0) := blk_cell hrs.out 0
      have m1 : wr.cell? ⟨n, 1, none⟩ = some (.string ⟨#[]⟩) := blk_cell hrs.out 1
      have m2 : wr.cell? ⟨n, 2, none⟩ = some (.bool false) := blk_cell hrs.out 2
      have m3 : wr.cell? ⟨n, 3, none⟩ = some (.string ⟨#[]⟩) := blk_cell hrs.out 3
      have m4 : wr.cell? ⟨n, 4, none⟩ = some (.int .i64 0) := blk_cell hrs.out 4
      have m5 : wr.cell? ⟨n, 5, none⟩ = some (.int .i64 0) := blk_cell hrs.out 5
      have m6 : wr.cell? ⟨n, 6, none⟩ = some (.int .i64 0) := blk_cell hrs.out 6
      have f0 := blk_frozen hrs.out 0
      have f1 := blk_frozen hrs.out 1
      have f2 := blk_frozen hrs.out 2
      have f3 := blk_frozen hrs.out 3
      have f4 := blk_frozen hrs.out 4
      have f5 := blk_frozen hrs.out 5
      have f6 := blk_frozen hrs.out 6
      have g0 : wr.cell? ⟨n + 1, 0, none⟩ = some (.int .i64 0) := blk_cell hrs.col 0
      have g1 : wr.cell? ⟨n + 1 + 1, 0, none⟩ = some (.int .i64 0) := blk_cell hrs.why 0
      have gf0 := blk_frozen hrs.col 0
      have gf1 := blk_frozen hrs.why 0
      clear hj hrs
      go_wp2
      rw [HE.out]
      refine door_return (r := (0, 0, c)) ?_ rfl rfl rfl ?_ ?_ ?_
      · exact (((((((((HRS.out.below.setCell (by show n ≤ n; omega) _).setCell (by show n ≤ n; omega) _).setCell (by show n ≤ n; omega) _).setCell (by show n ≤ n; omega) _).setCell (by show n ≤ n; omega) _).setCell (by show n ≤ n; omega) _).setCell (by show n ≤ n; omega) _).setCell (by show n ≤ n + 1; omega) _).setCell (by show n ≤ n + 1 + 1; omega) _)
      · exact blk_far (blk_far (blk_put (blk_put (blk_put (blk_put (blk_put (blk_put (blk_put HRS.out.out 0 _ rfl) 1 _ rfl) 2 _ rfl) 3 _ rfl) 4 _ rfl) 5 _ rfl) 6 _ rfl) (by show n ≠ n + 1; omega) _) (by show n ≠ n + 1 + 1; omega) _
      · exact blk_far (blk_put (blk_far (blk_far (blk_far (blk_far (blk_far (blk_far (blk_far HRS.out.col (by show n + 1 ≠ n; omega) _) (by show n + 1 ≠ n; omega) _) (by show n + 1 ≠ n; omega) _) (by show n + 1 ≠ n; omega) _) (by show n + 1 ≠ n; omega) _) (by show n + 1 ≠ n; omega) _) (by show n + 1 ≠ n; omega) _) 0 _ rfl) (by show n + 1 ≠ n + 1 + 1; omega) _
      · exact blk_put (blk_far (blk_far (blk_far (blk_far (blk_far (blk_far (blk_far (blk_far HRS.out.why (by show n + 1 + 1 ≠ n; omega) _) (by show n + 1 + 1 ≠ n; omega) _) (by show n + 1 + 1 ≠ n; omega) _) (by show n + 1 + 1 ≠ n; omega) _) (by show n + 1 + 1 ≠ n; omega) _) (by show n + 1 + 1 ≠ n; omega) _) (by show n + 1 + 1 ≠ n; omega) _) (by show n + 1 + 1 ≠ n + 1; omega) _) 0 _ rfl
end Go.Proofs.YtmkfjjfdbaaknaaDoor.Q
