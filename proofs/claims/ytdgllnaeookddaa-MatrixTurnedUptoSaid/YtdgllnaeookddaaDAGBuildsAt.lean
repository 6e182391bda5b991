/- What the laws' copies and comparisons tell of equal data: the contracts of CopyMatrix, SamePicks and SameMatrix. -/
import Derived.Test.YtdgllnaeookddaaDAGRefP
import Derived.Test.YtdgllnaeookddaaDAGLend
import Derived.Test.YtdgllnaeookddaaDAQ9
import Derived.Test.YtdgllnaeookddaaDAQ0
import Derived.Test.YtdgllnaeookddaaDAQ8
import Derived.Test.YtdgllnaeookddaaDAQ10
import Derived.Test.YtdgllnaeookddaaDAGSpoil
import Derived.Test.YtdgllnaeookddaaDAQ3
namespace Go.Proofs.Ytdgllnaeookddaa.Q
open Go.RowKit Go.Proofs.YtdgllnaeookddaaW.PrintWords Go.Proofs.YtdgllnaeookddaaW.PrintLast Go.Proofs.YtdgllnaeookddaaW.PrintMore
set_option linter.unusedVariables false
set_option linter.unusedSimpArgs false
theorem cp_l0 (l : List (List SV)) (hn : l.length ≤ 1048576) (hl : ∀ x, x ∈ l → x.length ≤ 1048576) : ∀ (d i : Nat), i + d = l.length → Ev (fun k => shuttlelaw0_CopyPicks.l0 k l (l.take i) (i : Int)) l
  | 0, i, h => by
    refine Ev.step (fun k => by rw [shuttlelaw0_CopyPicks.l0, if_neg (by omega)]) ?_
    rw [List.take_of_length_le (by omega)]
    exact Ev.now _
  | d + 1, i, h => by
    have hi : i < l.length := by omega
    refine Ev.step (fun k => by rw [shuttlelaw0_CopyPicks.l0, if_pos (by omega), if_pos (by omega), rd_row l i hi, copyVars_f _ (Nat.le_trans (hl _ (List.getElem_mem hi)) (by omega)), Option.bind_some, if_pos (by rw [List.length_take]; omega), wrap_succ (n := l.length) (by omega) (by omega) (by omega)]) ?_
    have ih := cp_l0 l hn hl d (i + 1) (by omega)
    rw [List.take_succ_eq_append_getElem hi] at ih
    exact ih
theorem cp_ev (l : List (List SV)) (hn : l.length ≤ 1048576) (hl : ∀ x, x ∈ l → x.length ≤ 1048576) : Ev (fun k => shuttlelaw0_CopyPicks.f k l) l := by
  have := cp_l0 l hn hl l.length 0 (by omega)
  exact this
theorem cm_l0 (axes : AX) (inc exc i2 e2 : List (List SV)) (ht : Tiny axes inc exc) : ∀ (d i : Nat), i + d = axes.length → Ev (fun k => shuttlelaw0_CopyMatrix.l0 k (i : Int) axes inc exc (axes.take i) i2 e2) (axes, i2, e2)
  | 0, i, h => by
    refine Ev.step (fun k => by rw [shuttlelaw0_CopyMatrix.l0, if_neg (by omega)]) ?_
    rw [List.take_of_length_le (by omega)]
    exact Ev.now _
  | d + 1, i, h => by
    have hi : i < axes.length := by omega
    have n0 := ht.n0
    have hl := ht.l0 _ (List.getElem_mem hi)
    have hc : shuttlelaw0_CopyTexts.f axes[i].f1 = some axes[i].f1 := by
      unfold shuttlelaw0_CopyTexts.f
      have : axes[i].f1.length < 8796093022208 := by omega
      simp [this]
    refine Ev.step (fun k => by rw [shuttlelaw0_CopyMatrix.l0, if_pos (by omega), if_pos (by omega), rd_axis axes i hi, hc, Option.bind_some, if_pos (by rw [List.length_take]; omega), wrap_succ (n := axes.length) (by omega) (by omega) (by omega)]) ?_
    have ih := cm_l0 axes inc exc i2 e2 ht d (i + 1) (by omega)
    rw [List.take_succ_eq_append_getElem hi] at ih
    exact ih
theorem cm_ev (axes : AX) (inc exc : List (List SV)) (ht : Tiny axes inc exc) : Ev (fun k => shuttlelaw0_CopyMatrix.f k axes inc exc) (axes, inc, exc) := by
  unfold shuttlelaw0_CopyMatrix.f
  refine Ev.bind (cp_ev inc ht.n1 ht.l1) ?_
  refine Ev.bind (cp_ev exc ht.n2 ht.l2) ?_
  exact cm_l0 axes inc exc inc exc ht axes.length 0 (by omega)
end Go.Proofs.Ytdgllnaeookddaa.Q
namespace Go.Proofs.Ytdgllnaeookddaa.Q
open Go.RowKit Go.Proofs.YtdgllnaeookddaaW.PrintWords Go.Proofs.YtdgllnaeookddaaW.PrintLast Go.Proofs.YtdgllnaeookddaaW.PrintMore
set_option linter.unusedVariables false
set_option linter.unusedSimpArgs false
structure MC (w : World) (A0 A1 A2 : Option Addr) (c0 c1 c2 : Nat) (axes : AX) (inc exc : List (List SV)) : Prop where
  r0 : Kd.C k46 w A0 axes.length axes
  h0 : axes.length ≤ c0
  r1 : Kd.C (Kd.slice 51 k51) w A1 inc.length inc
  h1 : inc.length ≤ c1
  r2 : Kd.C (Kd.slice 51 k51) w A2 exc.length exc
  h2 : exc.length ≤ c2
/-- A list of picks that a call made: its blocks lie from base on, ahead of hi. -/
structure PM (w : World) (base hi : Nat) (A : Option Addr) (c : Nat) (l : List (List SV)) : Prop where
  own : Kd.S (Kd.slice 51 k51) 36 w base (fun k => k < hi) (.slice A l.length c) l
/-- A copy of a matrix that a call made. -/
structure XM (w : World) (base : Nat) (A0 A1 A2 : Option Addr) (c0 c1 c2 : Nat) (axes : AX) (inc exc : List (List SV)) : Prop where
  s0 : Kd.S k46 46 w base (fun _ => True) (.slice A0 axes.length c0) axes
  s1 : Kd.S (Kd.slice 51 k51) 36 w base (fun k_ => some k_ ≠ (Value.slice A2 exc.length c2).ownBlock) (.slice A1 inc.length c1) inc
  s2 : Kd.S (Kd.slice 51 k51) 36 w base (fun k_ => some k_ ≠ (Value.slice A1 inc.length c1).ownBlock) (.slice A2 exc.length c2) exc
section
variable {w w' : World} {A A0 A1 A2 : Option Addr} {base hi c c0 c1 c2 : Nat} {axes : AX} {inc exc l : List (List SV)}
theorem MC.below (h : MC w A0 A1 A2 c0 c1 c2 axes inc exc) (hb : Below w.heap.size w w') : MC w' A0 A1 A2 c0 c1 c2 axes inc exc := ⟨Kd.C_below h.r0 hb, h.h0, Kd.C_below h.r1 hb, h.h1, Kd.C_below h.r2 hb, h.h2⟩
theorem MC.alloc (h : MC w A0 A1 A2 c0 c1 c2 axes inc exc) (o : Obj) : MC (w.alloc o) A0 A1 A2 c0 c1 c2 axes inc exc := h.below (below_alloc (Below.refl _ _) o)
theorem PM.reads (h : PM w base hi A c l) : Kd.C (Kd.slice 51 k51) w A l.length l ∧ l.length ≤ c := ⟨(Kd.S_reads' h.own).2.2, (Kd.S_reads' h.own).2.1⟩
theorem XM.mc (h : XM w base A0 A1 A2 c0 c1 c2 axes inc exc) : MC w A0 A1 A2 c0 c1 c2 axes inc exc :=
  ⟨(Kd.S_reads' h.s0).2.2, (Kd.S_reads' h.s0).2.1, (Kd.S_reads' h.s1).2.2, (Kd.S_reads' h.s1).2.1, (Kd.S_reads' h.s2).2.2, (Kd.S_reads' h.s2).2.1⟩
end
theorem tiny_small {axes : AX} {inc exc : List (List SV)} (ht : Tiny axes inc exc) : smallB axes inc exc = true := by
  simp only [smallB, Bool.and_eq_true, decide_eq_true_eq, List.all_eq_true]
  refine ⟨⟨⟨Nat.le_trans ht.n0 (by omega), Nat.le_trans ht.n1 (by omega)⟩, Nat.le_trans ht.n2 (by omega)⟩, fun x hx => ?_⟩
  rcases List.mem_append.1 hx with h | h
  · exact Nat.le_trans (ht.l1 x h) (by omega)
  · exact Nat.le_trans (ht.l2 x h) (by omega)
def Few (l : List (List SV)) : Prop := l.length ≤ 1048576 ∧ ∀ p, p ∈ l → p.length ≤ 1048576
theorem few_build {axes : AX} {inc exc : List (List SV)} (ht : Tiny axes inc exc) : Few (buildP axes inc exc).1 := by
  unfold buildP
  split
  · rename_i hz
    split
    · exact ⟨Nat.zero_le _, fun p hp => by cases hp⟩
    · rename_i hbig
      split
      · exact ⟨by decide, fun p hp => by rw [List.mem_singleton.1 hp]; exact Nat.zero_le _⟩
      · rename_i hb0
        obtain ⟨h8, hd, hi⟩ := fine_of hz
        obtain ⟨hm, hil⟩ := many_small hz hbig hb0
        have hkl : (keptP axes exc).length ≤ 256 := by
          unfold keptP
          refine Nat.le_trans (List.length_filter_le _ _) ?_
          rw [allPicks_length]
          exact hm
        refine ⟨Nat.le_trans (addInc_len inc _) (by omega), fun p hp => ?_⟩
        rcases addInc_mem _ _ p hp with h | h
        · exact (kept_uniq h8 hd exc p h).2
        · exact ht.l1 p h
  · exact ⟨Nat.zero_le _, fun p hp => by cases hp⟩
section
variable {w : World} {A0 A1 A2 : Option Addr} {c0 c1 c2 : Nat} {axes : AX} {inc exc want : List (List SV)} {built code : Int}
theorem m_build_at (h : MC w A0 A1 A2 c0 c1 c2 axes inc exc) (ht : Tiny axes inc exc) (hr : buildP axes inc exc = (want, built, code)) :
    Calls Try.prog 11 #[.agg #[.slice A0 axes.length c0, .slice A1 inc.length c1, .slice A2 exc.length c2]] w fun e w' => ∃ A c, e = .returned (.tuple #[.slice A want.length c, .int .i64 built, .int .i64 code]) ∧ PM w' w.heap.size w'.heap.size A c want ∧ Below w.heap.size w w' := by
  refine (build_any A0 A1 A2 c0 c1 c2 axes inc exc w h.r0 h.h0 h.r1 h.h1 h.r2 h.h2 (tiny_small ht) (fun x hx => Nat.le_trans (ht.l1 x hx) (by omega))).mono ?_
  rw [hr]
  rintro e w' ⟨v, rfl, hs, hb⟩
  obtain ⟨A, c, rfl⟩ := Kd.S_slice hs
  exact ⟨A, c, rfl, ⟨Kd.S_mono (Kd.S_bound hs) (fun k hk => hk.2.2.1)⟩, hb⟩
theorem m_copy_at (h : MC w A0 A1 A2 c0 c1 c2 axes inc exc) (ht : Tiny axes inc exc) :
    Calls Try.prog 10 #[.agg #[.slice A0 axes.length c0, .slice A1 inc.length c1, .slice A2 exc.length c2]] w fun e w' => ∃ B0 B1 B2 d0 d1 d2, e = .returned (.agg #[.slice B0 axes.length d0, .slice B1 inc.length d1, .slice B2 exc.length d2]) ∧ XM w' w.heap.size B0 B1 B2 d0 d1 d2 axes inc exc ∧ Below w.heap.size w w' := by
  obtain ⟨k, hk⟩ := (cm_ev axes inc exc ht).rounds
  refine (shuttlelaw0_CopyMatrix.calls k A0 c0 axes A1 c1 inc A2 c2 exc axes inc exc w h.r0 h.h0 h.r1 h.h1 h.r2 h.h2 hk).mono ?_
  rintro e w' ⟨v0, v1, v2, rfl, s0, s1, s2, hb⟩
  obtain ⟨B0, d0, rfl⟩ := Kd.S_slice s0
  obtain ⟨B1, d1, rfl⟩ := Kd.S_slice s1
  obtain ⟨B2, d2, rfl⟩ := Kd.S_slice s2
  exact ⟨B0, B1, B2, d0, d1, d2, rfl, ⟨s0, s1, s2⟩, hb⟩
end
end Go.Proofs.Ytdgllnaeookddaa.Q
