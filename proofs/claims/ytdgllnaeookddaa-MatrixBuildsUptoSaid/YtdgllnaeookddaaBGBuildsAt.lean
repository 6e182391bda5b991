/- What the laws' copies and comparisons tell of equal data: the contracts of CopyMatrix, SamePicks and SameMatrix. -/
import Derived.Test.YtdgllnaeookddaaBGRefP
import Derived.Test.YtdgllnaeookddaaBGLend
import Derived.Test.YtdgllnaeookddaaBQ9
import Derived.Test.YtdgllnaeookddaaBQ11
import Derived.Test.YtdgllnaeookddaaBGSpoil
import Derived.Test.YtdgllnaeookddaaBGRefCount
namespace Go.Proofs.Ytdgllnaeookddaa.Q
open Go.RowKit Go.Proofs.YtdgllnaeookddaaW.PrintWords Go.Proofs.YtdgllnaeookddaaW.PrintLast Go.Proofs.YtdgllnaeookddaaW.PrintMore
set_option linter.unusedVariables false
set_option linter.unusedSimpArgs false
theorem cp_l0 (l : List (List SV)) (hn : l.length ≤ 1048576) (hl : ∀ x, x ∈ l → x.length ≤ 1048576) : ∀ (d i : Nat), i + d = l.length → Ev (fun k => shuttlelaw0_CopyPicks.l0 k l (l.take i) (i : Int)) l
  | 0, i, h => by
    refine Ev.step (fun k => by rw [shuttlelaw0_CopyPicks.l0, if_neg (by omega)]) ?_
    rw [List.take_of_length_le (by omega)]
    exact Ev.now _
  | d + 1, i, h => by
    have hi : i < l.length := by omega
    refine Ev.step (fun k => by rw [shuttlelaw0_CopyPicks.l0, if_pos (by omega), if_pos (by omega), rd_row l i hi, copyVars_f _ (Nat.le_trans (hl _ (List.getElem_mem hi)) (by omega)), Option.bind_some, if_pos (by rw [List.length_take]; omega), wrap_succ (n := l.length) (by omega) (by omega) (by omega)]) ?_
    have ih := cp_l0 l hn hl d (i + 1) (by omega)
    rw [List.take_succ_eq_append_getElem hi] at ih
    exact ih
theorem cp_ev (l : List (List SV)) (hn : l.length ≤ 1048576) (hl : ∀ x, x ∈ l → x.length ≤ 1048576) : Ev (fun k => shuttlelaw0_CopyPicks.f k l) l := by
  have := cp_l0 l hn hl l.length 0 (by omega)
  exact this
theorem cm_l0 (axes : AX) (inc exc i2 e2 : List (List SV)) (ht : Tiny axes inc exc) : ∀ (d i : Nat), i + d = axes.length → Ev (fun k => shuttlelaw0_CopyMatrix.l0 k (i : Int) axes inc exc (axes.take i) i2 e2) (axes, i2, e2)
  | 0, i, h => by
    refine Ev.step (fun k => by rw [shuttlelaw0_CopyMatrix.l0, if_neg (by omega)]) ?_
    rw [List.take_of_length_le (by omega)]
    exact Ev.now _
  | d + 1, i, h => by
    have hi : i < axes.length := by omega
    have n0 := ht.n0
    have hl := ht.l0 _ (List.getElem_mem hi)
    have hc : shuttlelaw0_CopyTexts.f axes[i].f1 = some axes[i].f1 := by
      unfold shuttlelaw0_CopyTexts.f
      have : axes[i].f1.length < 8796093022208 := by omega
      simp [this]
    refine Ev.step (fun k => by rw [shuttlelaw0_CopyMatrix.l0, if_pos (by omega), if_pos (by omega), rd_axis axes i hi, hc, Option.bind_some, if_pos (by rw [List.length_take]; omega), wrap_succ (n := axes.length) (by omega) (by omega) (by omega)]) ?_
    have ih := cm_l0 axes inc exc i2 e2 ht d (i + 1) (by omega)
    rw [List.take_succ_eq_append_getElem hi] at ih
    exact ih
theorem cm_ev (axes : AX) (inc exc : List (List SV)) (ht : Tiny axes inc exc) : Ev (fun k => shuttlelaw0_CopyMatrix.f k axes inc exc) (axes, inc, exc) := by
  unfold shuttlelaw0_CopyMatrix.f
  refine Ev.bind (cp_ev inc ht.n1 ht.l1) ?_
  refine Ev.bind (cp_ev exc ht.n2 ht.l2) ?_
  exact cm_l0 axes inc exc inc exc ht axes.length 0 (by omega)
theorem sp_l0 (l : List (List SV)) (hn : l.length ≤ 1048576) (hl : ∀ x, x ∈ l → x.length ≤ 1048576) : ∀ (d i : Nat), i + d = l.length → Ev (fun k => shuttlelaw0_SamePicks.l0 k l l (i : Int)) true
  | 0, i, h => by
    refine Ev.step (fun k => by rw [shuttlelaw0_SamePicks.l0, if_neg (by omega)]) ?_
    exact Ev.now _
  | d + 1, i, h => by
    have hi : i < l.length := by omega
    refine Ev.step (fun k => by rw [shuttlelaw0_SamePicks.l0, if_pos (by omega), if_pos (by omega), if_pos (by omega), rd_row l i hi, wrap_succ (n := l.length) (by omega) (by omega) (by omega)]) ?_
    refine Ev.bind (same_ev l[i] (Nat.le_trans (hl _ (List.getElem_mem hi)) (by omega))) ?_
    exact Ev.congr (fun k => by rw [if_pos rfl]; rfl) (sp_l0 l hn hl d (i + 1) (by omega))
theorem sp_ev (l : List (List SV)) (hn : l.length ≤ 1048576) (hl : ∀ x, x ∈ l → x.length ≤ 1048576) : Ev (fun k => shuttlelaw0_SamePicks.f k l l) true := by
  unfold shuttlelaw0_SamePicks.f
  refine Ev.congr (fun k => by rw [if_pos rfl]) ?_
  exact sp_l0 l hn hl l.length 0 (by omega)
theorem st_l0 (l : List ByteArray) (hn : l.length ≤ 1048576) : ∀ (d i : Nat), i + d = l.length → Ev (fun k => shuttlelaw0_SameTexts.l0 k l l (i : Int)) true
  | 0, i, h => by
    refine Ev.step (fun k => by rw [shuttlelaw0_SameTexts.l0, if_neg (by omega)]) ?_
    exact Ev.now _
  | d + 1, i, h => by
    refine Ev.step (fun k => by rw [shuttlelaw0_SameTexts.l0, if_pos (by omega), if_pos (by omega), if_pos (by omega), if_pos rfl, wrap_succ (n := l.length) (by omega) (by omega) (by omega)]) ?_
    exact st_l0 l hn d (i + 1) (by omega)
theorem st_ev (l : List ByteArray) (hn : l.length ≤ 1048576) : Ev (fun k => shuttlelaw0_SameTexts.f k l l) true := by
  unfold shuttlelaw0_SameTexts.f
  refine Ev.congr (fun k => by rw [if_pos rfl]) ?_
  exact st_l0 l hn l.length 0 (by omega)
theorem sm_l0 (axes : AX) (inc exc : List (List SV)) (ht : Tiny axes inc exc) : ∀ (d i : Nat), i + d = axes.length → Ev (fun k => shuttlelaw0_SameMatrix.l0 k (i : Int) axes inc exc axes inc exc) true
  | 0, i, h => by
    refine Ev.step (fun k => by rw [shuttlelaw0_SameMatrix.l0, if_neg (by omega)]) ?_
    exact Ev.now _
  | d + 1, i, h => by
    have hi : i < axes.length := by omega
    have n0 := ht.n0
    refine Ev.step (fun k => by rw [shuttlelaw0_SameMatrix.l0, if_pos (by omega), if_pos (by omega), if_pos (by omega), if_pos rfl, rd_axis axes i hi, wrap_succ (n := axes.length) (by omega) (by omega) (by omega)]) ?_
    refine Ev.bind (st_ev axes[i].f1 (ht.l0 _ (List.getElem_mem hi))) ?_
    exact Ev.congr (fun k => by rw [if_pos rfl]; rfl) (sm_l0 axes inc exc ht d (i + 1) (by omega))
theorem sm_ev (axes : AX) (inc exc : List (List SV)) (ht : Tiny axes inc exc) : Ev (fun k => shuttlelaw0_SameMatrix.f k axes inc exc axes inc exc) true := by
  unfold shuttlelaw0_SameMatrix.f
  refine Ev.congr (fun k => by rw [if_pos rfl]) ?_
  refine Ev.bind (sp_ev inc ht.n1 ht.l1) ?_
  refine Ev.congr (fun k => by rw [if_pos rfl]) ?_
  refine Ev.bind (sp_ev exc ht.n2 ht.l2) ?_
  refine Ev.step (fun k => by rw [shuttlelaw0_SameMatrix.j0, if_neg (by decide)]) ?_
  exact sm_l0 axes inc exc ht axes.length 0 (by omega)
theorem samePicks_at (A0 A1 : Option Addr) (c0 c1 m m1 : Nat) (l : List (List SV)) (w : World) (h0 : Kd.C (Kd.slice 51 k51) w A0 m l) (hc0 : m ≤ c0) (h1 : Kd.C (Kd.slice 51 k51) w A1 m1 l) (hc1 : m1 ≤ c1) (hn : l.length ≤ 1048576) (hl : ∀ x, x ∈ l → x.length ≤ 1048576) :
    Calls Try.prog 17 #[.slice A0 m c0, .slice A1 m1 c1] w fun e w' => e = .returned (.bool true) ∧ Below w.heap.size w w' := by
  obtain rfl : l.length = m := h0.1
  obtain rfl : l.length = m1 := h1.1
  obtain ⟨k, hk⟩ := (sp_ev l hn hl).rounds
  refine (shuttlelaw0_SamePicks.calls k A0 c0 l A1 c1 l true w h0 hc0 h1 hc1 hk).mono ?_
  rintro e w' ⟨rfl, hd⟩
  exact ⟨rfl, hd.below⟩
end Go.Proofs.Ytdgllnaeookddaa.Q
namespace Go.Proofs.Ytdgllnaeookddaa.Q
open Go.RowKit Go.Proofs.YtdgllnaeookddaaW.PrintWords Go.Proofs.YtdgllnaeookddaaW.PrintLast Go.Proofs.YtdgllnaeookddaaW.PrintMore
set_option linter.unusedVariables false
set_option linter.unusedSimpArgs false
structure MC (w : World) (A0 A1 A2 : Option Addr) (c0 c1 c2 : Nat) (axes : AX) (inc exc : List (List SV)) : Prop where
  r0 : Kd.C k46 w A0 axes.length axes
  h0 : axes.length ≤ c0
  r1 : Kd.C (Kd.slice 51 k51) w A1 inc.length inc
  h1 : inc.length ≤ c1
  r2 : Kd.C (Kd.slice 51 k51) w A2 exc.length exc
  h2 : exc.length ≤ c2
/-- A list of picks that a call made: its blocks lie from base on, ahead of hi. -/
structure PM (w : World) (base hi : Nat) (A : Option Addr) (c : Nat) (l : List (List SV)) : Prop where
  own : Kd.S (Kd.slice 51 k51) 36 w base (fun k => k < hi) (.slice A l.length c) l
/-- A copy of a matrix that a call made. -/
structure XM (w : World) (base : Nat) (A0 A1 A2 : Option Addr) (c0 c1 c2 : Nat) (axes : AX) (inc exc : List (List SV)) : Prop where
  s0 : Kd.S k46 46 w base (fun _ => True) (.slice A0 axes.length c0) axes
  s1 : Kd.S (Kd.slice 51 k51) 36 w base (fun k_ => some k_ ≠ (Value.slice A2 exc.length c2).ownBlock) (.slice A1 inc.length c1) inc
  s2 : Kd.S (Kd.slice 51 k51) 36 w base (fun k_ => some k_ ≠ (Value.slice A1 inc.length c1).ownBlock) (.slice A2 exc.length c2) exc
section
variable {w w' : World} {A A0 A1 A2 : Option Addr} {base hi c c0 c1 c2 : Nat} {axes : AX} {inc exc l : List (List SV)}
theorem MC.below (h : MC w A0 A1 A2 c0 c1 c2 axes inc exc) (hb : Below w.heap.size w w') : MC w' A0 A1 A2 c0 c1 c2 axes inc exc := ⟨Kd.C_below h.r0 hb, h.h0, Kd.C_below h.r1 hb, h.h1, Kd.C_below h.r2 hb, h.h2⟩
theorem MC.alloc (h : MC w A0 A1 A2 c0 c1 c2 axes inc exc) (o : Obj) : MC (w.alloc o) A0 A1 A2 c0 c1 c2 axes inc exc := h.below (below_alloc (Below.refl _ _) o)
theorem PM.below (h : PM w base hi A c l) (hb : Below w.heap.size w w') : PM w' base hi A c l := ⟨Kd.S_below h.own hb⟩
theorem PM.reads (h : PM w base hi A c l) : Kd.C (Kd.slice 51 k51) w A l.length l ∧ l.length ≤ c := ⟨(Kd.S_reads' h.own).2.2, (Kd.S_reads' h.own).2.1⟩
theorem XM.below (h : XM w base A0 A1 A2 c0 c1 c2 axes inc exc) (hb : Below w.heap.size w w') : XM w' base A0 A1 A2 c0 c1 c2 axes inc exc := ⟨Kd.S_below h.s0 hb, Kd.S_below h.s1 hb, Kd.S_below h.s2 hb⟩
theorem XM.mc (h : XM w base A0 A1 A2 c0 c1 c2 axes inc exc) : MC w A0 A1 A2 c0 c1 c2 axes inc exc :=
  ⟨(Kd.S_reads' h.s0).2.2, (Kd.S_reads' h.s0).2.1, (Kd.S_reads' h.s1).2.2, (Kd.S_reads' h.s1).2.1, (Kd.S_reads' h.s2).2.2, (Kd.S_reads' h.s2).2.1⟩
/-- Picks stay over what writes to none of their blocks. -/
theorem PM.kept (h : PM w base hi A c l) {S : Nat → Prop} (hk : Kept w w' S) (hS : ∀ k, S k → k < base ∨ hi ≤ k) : PM w' base hi A c l := by
  refine ⟨Kd.S_mono (Kd.S_kept (Kd.S_bound h.own) hk (fun k hk2 hs => ?_)) (fun _ h2 => h2.1)⟩
  have := hk2.1
  have := hk2.2.1
  rcases hS k hs with h | h <;> omega
/-- The picks one by one: each lies in blocks of its own (f), none of which is the list's block (g). -/
theorem PM.opened (h : PM w base hi A c l) : ∃ (f : Nat → Nat) (g : Nat), ∀ (j : Nat) (p : List SV), l[j]? = some p → A = some ⟨g, 0, none⟩ ∧ ∃ (B : Option Addr) (b : Nat), w.cell? ⟨g, j, none⟩ = some (.slice B p.length b) ∧ Kd.R k51 51 w base (fun k => (k < hi ∧ k ≠ g) ∧ f k = j) (.slice B p.length b) p := by
  rcases Nat.eq_zero_or_pos l.length with h0 | h0
  · obtain rfl := List.length_eq_zero_iff.1 h0
    exact ⟨fun _ => 0, 0, fun j p hj => by simp at hj⟩
  · obtain ⟨f, g, hA, _, _, _, _, _, hM⟩ := S_opened h.own h0
    refine ⟨f, g, fun j p hj => ⟨hA, ?_⟩⟩
    obtain ⟨cs, ⟨v, rfl, hR⟩, hc⟩ := hM j p hj
    obtain ⟨B, b, rfl, _, _⟩ := Kd.R_reads hR
    have h1 := hc 0 _ rfl
    exact ⟨B, b, by simpa [Kd.slice] using h1, hR⟩
end
theorem tiny_small {axes : AX} {inc exc : List (List SV)} (ht : Tiny axes inc exc) : smallB axes inc exc = true := by
  simp only [smallB, Bool.and_eq_true, decide_eq_true_eq, List.all_eq_true]
  refine ⟨⟨⟨Nat.le_trans ht.n0 (by omega), Nat.le_trans ht.n1 (by omega)⟩, Nat.le_trans ht.n2 (by omega)⟩, fun x hx => ?_⟩
  rcases List.mem_append.1 hx with h | h
  · exact Nat.le_trans (ht.l1 x h) (by omega)
  · exact Nat.le_trans (ht.l2 x h) (by omega)
def Few (l : List (List SV)) : Prop := l.length ≤ 1048576 ∧ ∀ p, p ∈ l → p.length ≤ 1048576
theorem few_build {axes : AX} {inc exc : List (List SV)} (ht : Tiny axes inc exc) : Few (buildP axes inc exc).1 := by
  unfold buildP
  split
  · rename_i hz
    split
    · exact ⟨Nat.zero_le _, fun p hp => by cases hp⟩
    · rename_i hbig
      split
      · exact ⟨by decide, fun p hp => by rw [List.mem_singleton.1 hp]; exact Nat.zero_le _⟩
      · rename_i hb0
        obtain ⟨h8, hd, hi⟩ := fine_of hz
        obtain ⟨hm, hil⟩ := many_small hz hbig hb0
        have hkl : (keptP axes exc).length ≤ 256 := by
          unfold keptP
          refine Nat.le_trans (List.length_filter_le _ _) ?_
          rw [allPicks_length]
          exact hm
        refine ⟨Nat.le_trans (addInc_len inc _) (by omega), fun p hp => ?_⟩
        rcases addInc_mem _ _ p hp with h | h
        · exact (kept_uniq h8 hd exc p h).2
        · exact ht.l1 p h
  · exact ⟨Nat.zero_le _, fun p hp => by cases hp⟩
section
variable {w : World} {A0 A1 A2 : Option Addr} {c0 c1 c2 : Nat} {axes : AX} {inc exc want : List (List SV)} {built code : Int}
theorem m_refBuild_at (h : MC w A0 A1 A2 c0 c1 c2 axes inc exc) (ht : Tiny axes inc exc) (hr : buildP axes inc exc = (want, built, code)) :
    Calls Try.prog 9 #[.agg #[.slice A0 axes.length c0, .slice A1 inc.length c1, .slice A2 exc.length c2]] w fun e w' => ∃ A c, e = .returned (.tuple #[.slice A want.length c, .int .i64 built, .int .i64 code]) ∧ PM w' w.heap.size w'.heap.size A c want ∧ Below w.heap.size w w' := by
  obtain ⟨k, hk⟩ := (bd_ev axes inc exc ht).rounds
  rw [hr] at hk
  refine (shuttleref13_Build.calls k A0 c0 axes A1 c1 inc A2 c2 exc want built code w h.r0 h.h0 h.r1 h.h1 h.r2 h.h2 hk).mono ?_
  rintro e w' ⟨v, rfl, hs, hb⟩
  obtain ⟨A, c, rfl⟩ := Kd.S_slice hs
  exact ⟨A, c, rfl, ⟨Kd.S_mono (Kd.S_bound hs) (fun k hk => hk.2.2.1)⟩, hb⟩
theorem m_build_at (h : MC w A0 A1 A2 c0 c1 c2 axes inc exc) (ht : Tiny axes inc exc) (hr : buildP axes inc exc = (want, built, code)) :
    Calls Try.prog 11 #[.agg #[.slice A0 axes.length c0, .slice A1 inc.length c1, .slice A2 exc.length c2]] w fun e w' => ∃ A c, e = .returned (.tuple #[.slice A want.length c, .int .i64 built, .int .i64 code]) ∧ PM w' w.heap.size w'.heap.size A c want ∧ Below w.heap.size w w' := by
  refine (build_any A0 A1 A2 c0 c1 c2 axes inc exc w h.r0 h.h0 h.r1 h.h1 h.r2 h.h2 (tiny_small ht) (fun x hx => Nat.le_trans (ht.l1 x hx) (by omega))).mono ?_
  rw [hr]
  rintro e w' ⟨v, rfl, hs, hb⟩
  obtain ⟨A, c, rfl⟩ := Kd.S_slice hs
  exact ⟨A, c, rfl, ⟨Kd.S_mono (Kd.S_bound hs) (fun k hk => hk.2.2.1)⟩, hb⟩
theorem m_copy_at (h : MC w A0 A1 A2 c0 c1 c2 axes inc exc) (ht : Tiny axes inc exc) :
    Calls Try.prog 10 #[.agg #[.slice A0 axes.length c0, .slice A1 inc.length c1, .slice A2 exc.length c2]] w fun e w' => ∃ B0 B1 B2 d0 d1 d2, e = .returned (.agg #[.slice B0 axes.length d0, .slice B1 inc.length d1, .slice B2 exc.length d2]) ∧ XM w' w.heap.size B0 B1 B2 d0 d1 d2 axes inc exc ∧ Below w.heap.size w w' := by
  obtain ⟨k, hk⟩ := (cm_ev axes inc exc ht).rounds
  refine (shuttlelaw0_CopyMatrix.calls k A0 c0 axes A1 c1 inc A2 c2 exc axes inc exc w h.r0 h.h0 h.r1 h.h1 h.r2 h.h2 hk).mono ?_
  rintro e w' ⟨v0, v1, v2, rfl, s0, s1, s2, hb⟩
  obtain ⟨B0, d0, rfl⟩ := Kd.S_slice s0
  obtain ⟨B1, d1, rfl⟩ := Kd.S_slice s1
  obtain ⟨B2, d2, rfl⟩ := Kd.S_slice s2
  exact ⟨B0, B1, B2, d0, d1, d2, rfl, ⟨s0, s1, s2⟩, hb⟩
theorem m_count_at (h : MC w A0 A1 A2 c0 c1 c2 axes inc exc) (ht : Tiny axes inc exc) {co : Int} (hr : countI axes inc exc = co) :
    Calls Try.prog 12 #[.agg #[.slice A0 axes.length c0, .slice A1 inc.length c1, .slice A2 exc.length c2]] w fun e w' => e = .returned (.int .i64 co) ∧ Below w.heap.size w w' := by
  obtain ⟨k, hk⟩ := (count_ev axes inc exc (tiny_small ht)).rounds
  rw [hr] at hk
  exact matrix_Count.calls k A0 c0 axes A1 c1 inc A2 c2 exc co w h.r0 h.h0 h.r1 h.h1 h.r2 h.h2 hk
theorem m_check_at (h : MC w A0 A1 A2 c0 c1 c2 axes inc exc) (ht : Tiny axes inc exc) {ck : Int} (hr : checkI axes inc exc = ck) :
    Calls Try.prog 13 #[.agg #[.slice A0 axes.length c0, .slice A1 inc.length c1, .slice A2 exc.length c2]] w fun e w' => e = .returned (.int .i64 ck) ∧ Below w.heap.size w w' := by
  have hk : matrix_Check.f axes inc exc = some ck := by rw [← hr]; exact if_pos (tiny_small ht)
  exact matrix_Check.calls A0 c0 axes A1 c1 inc A2 c2 exc ck w h.r0 h.h0 h.r1 h.h1 h.r2 h.h2 hk
theorem m_refCount_at (h : MC w A0 A1 A2 c0 c1 c2 axes inc exc) (ht : Tiny axes inc exc) {co : Int} (hr : countI axes inc exc = co) :
    Calls Try.prog 15 #[.agg #[.slice A0 axes.length c0, .slice A1 inc.length c1, .slice A2 exc.length c2]] w fun e w' => e = .returned (.int .i64 co) ∧ Below w.heap.size w w' := by
  obtain ⟨k, hk⟩ := (ct_ev axes inc exc ht).rounds
  rw [hr] at hk
  exact shuttleref13_Count.calls k A0 c0 axes A1 c1 inc A2 c2 exc co w h.r0 h.h0 h.r1 h.h1 h.r2 h.h2 hk
theorem m_refCheck_at (h : MC w A0 A1 A2 c0 c1 c2 axes inc exc) (ht : Tiny axes inc exc) {ck : Int} (hr : checkI axes inc exc = ck) :
    Calls Try.prog 16 #[.agg #[.slice A0 axes.length c0, .slice A1 inc.length c1, .slice A2 exc.length c2]] w fun e w' => e = .returned (.int .i64 ck) ∧ Below w.heap.size w w' := by
  obtain ⟨k, hk⟩ := (ck_ev axes inc exc ht).rounds
  rw [hr] at hk
  exact shuttleref13_Check.calls k A0 c0 axes A1 c1 inc A2 c2 exc ck w h.r0 h.h0 h.r1 h.h1 h.r2 h.h2 hk
theorem m_sameMatrix_at {B0 B1 B2 : Option Addr} {d0 d1 d2 : Nat} (h : MC w A0 A1 A2 c0 c1 c2 axes inc exc) (h' : MC w B0 B1 B2 d0 d1 d2 axes inc exc) (ht : Tiny axes inc exc) :
    Calls Try.prog 14 #[.agg #[.slice A0 axes.length c0, .slice A1 inc.length c1, .slice A2 exc.length c2], .agg #[.slice B0 axes.length d0, .slice B1 inc.length d1, .slice B2 exc.length d2]] w fun e w' => e = .returned (.bool true) ∧ Below w.heap.size w w' := by
  obtain ⟨k, hk⟩ := (sm_ev axes inc exc ht).rounds
  exact shuttlelaw0_SameMatrix.calls k A0 c0 axes A1 c1 inc A2 c2 exc B0 d0 axes B1 d1 inc B2 d2 exc true w h.r0 h.h0 h.r1 h.h1 h.r2 h.h2 h'.r0 h'.h0 h'.r1 h'.h1 h'.r2 h'.h2 hk
theorem m_same_made {A B : Option Addr} {c d : Nat} {b1 b2 t1 t2 : Nat} {l : List (List SV)} (h1 : PM w b1 t1 A c l) (h2 : PM w b2 t2 B d l) (hf : Few l) :
    Calls Try.prog 17 #[.slice A l.length c, .slice B l.length d] w fun e w' => e = .returned (.bool true) ∧ Below w.heap.size w w' :=
  samePicks_at A B c d l.length l.length l w h1.reads.1 h1.reads.2 h2.reads.1 h2.reads.2 hf.1 hf.2
/-- The copy is spoilt: nothing but its own blocks turns. -/
theorem m_spoil_at {W : World} {base : Nat} (h : XM w base A0 A1 A2 c0 c1 c2 axes inc exc) (ht : Tiny axes inc exc) (hb : Below w.heap.size w W) :
    Calls Try.prog 18 #[.agg #[.slice A0 axes.length c0, .slice A1 inc.length c1, .slice A2 exc.length c2]] W fun e w' => e = .returned (.tuple #[]) ∧ Kept W w' (fun k => base ≤ k ∧ k < w.heap.size) ∧ TK W w' := by
  have b0 := Kd.S_below (Kd.S_bound h.s0) hb
  have b1 := Kd.S_below (Kd.S_bound h.s1) hb
  have b2 := Kd.S_below (Kd.S_bound h.s2) hb
  have e1 : ∀ k, (some k ≠ (Value.slice A2 exc.length c2).ownBlock ∧ base ≤ k ∧ k < w.heap.size ∧ ∃ q, q ∈ 36 :: (Kd.slice 51 k51).E ∧ ∃ cells, w.heap[k]? = some (.cells cells q (0, 0))) → base ≤ k ∧ k < w.heap.size := fun k hk => ⟨hk.2.1, hk.2.2.1⟩
  refine spoilMatrix_any A0 A1 A2 _ _ _ c0 c1 c2 axes inc exc W base _ _ _ (fun k => base ≤ k ∧ k < w.heap.size) (Kd.S_R b0) (Kd.S_R b1) (Kd.S_R b2) (fun k hk hn => hn.1 (by rw [hk, own_some])) (fun k hk => ⟨hk.2.1, hk.2.2.1⟩) e1 (fun k hk => ⟨hk.2.1, hk.2.2.1⟩) (Nat.le_trans ht.n0 (by omega)) (Nat.le_trans ht.n1 (by omega)) (Nat.le_trans ht.n2 (by omega)) (fun x hx => Nat.le_trans (ht.l0 x hx) (by omega)) (fun x hx => Nat.le_trans (ht.l1 x hx) (by omega)) (fun x hx => Nat.le_trans (ht.l2 x hx) (by omega))
end
theorem m_sameVars_q {W : World} {n : Nat} {A B : Option Addr} {c d : Nat} {p : List SV} (h0 : Kd.C k51 W A p.length p) (hc : p.length ≤ c) (h1 : Kd.C k51 W B p.length p) (hd : p.length ≤ d) :
    Calls Try.prog 20 #[.slice A p.length c, .slice B p.length d] (W.drewN n) fun e w'' => e = .returned (.bool true) ∧ ∃ m, w'' = W.drewN m := by
  obtain ⟨k, hk⟩ := (same_ev p h0.2.1).rounds
  refine Calls.quiet_of ?_
  refine (shuttlelaw0_SameVars.calls k A c p B d p true _ (Kd.C_drewN h0 _) hc (Kd.C_drewN h1 _) hd hk).mono ?_
  rintro e w' ⟨rfl, hd⟩
  exact ⟨rfl, hd.1⟩
end Go.Proofs.Ytdgllnaeookddaa.Q
