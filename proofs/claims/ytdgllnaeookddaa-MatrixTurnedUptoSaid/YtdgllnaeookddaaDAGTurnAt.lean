/- The callees of statement MatrixTurned: turn, Overlay of one pick, CopyPicks; what stays while the other matrix is made. -/
import Derived.Test.YtdgllnaeookddaaDAGTurn
import Derived.Test.YtdgllnaeookddaaDAQ13
namespace Go.Proofs.Ytdgllnaeookddaa.Q
open Go.RowKit Go.Proofs.YtdgllnaeookddaaW.PrintWords Go.Proofs.YtdgllnaeookddaaW.PrintLast Go.Proofs.YtdgllnaeookddaaW.PrintMore
set_option linter.unusedVariables false
set_option linter.unusedSimpArgs false
theorem wrap_down {n : Nat} (h : n ≤ 1048576) : wrap64 ((n : Int) - 1) = (n : Int) - 1 := by unfold wrap64; omega
section
variable (p : List SV) (q : List (List SV))
/-- turn: the first pick that says the same. -/
theorem turn_l0 (hp : p.length ≤ 1048576) (hq : Few q) (j : Nat) (hj : j < q.length) (he : Ov.overB [p] = Ov.overB [q[j]]) : ∀ (d i : Nat), i + d = j →
    (∃ m, ∃ hm : m < q.length, Ov.overB [p] = Ov.overB [q[m]] ∧ Ev (fun k => shuttlelaw13_turn.l0 k p q (i : Int)) ((q.length : Int) - 1 - m)) := by
  have hn := hq.1
  have hstep : ∀ i (hi : i < q.length), Ov.overB [p] = Ov.overB [q[i]] → Ev (fun k => shuttlelaw13_turn.l0 k p q (i : Int)) ((q.length : Int) - 1 - i) := fun i hi e => by
    refine Ev.step (fun k => by rw [shuttlelaw13_turn.l0, if_pos (by omega), over_some hp, Option.bind_some, if_pos (by omega), rd_row q i hi, over_some (hq.2 _ (List.getElem_mem hi)), Option.bind_some]) ?_
    refine Ev.bind (sv_ev _ _ (Nat.le_trans (over_len p) hp)) ?_
    rw [e, sameR_self]
    refine Ev.congr (fun k => by rw [if_pos rfl, wrap_down hn, show wrap64 ((q.length : Int) - 1 - (i : Int)) = (q.length : Int) - 1 - i by unfold wrap64; omega]) (Ev.now _)
  intro d
  induction d with
  | zero =>
    intro i hi
    obtain rfl : i = j := by omega
    exact ⟨i, hj, he, hstep i hj he⟩
  | succ d ih =>
    intro i hi
    have hi' : i < q.length := by omega
    by_cases e : Ov.overB [p] = Ov.overB [q[i]]
    · exact ⟨i, hi', e, hstep i hi' e⟩
    · obtain ⟨m, hm, hme, hmv⟩ := ih (i + 1) (by omega)
      refine ⟨m, hm, hme, ?_⟩
      refine Ev.step (fun k => by rw [shuttlelaw13_turn.l0, if_pos (by omega), over_some hp, Option.bind_some, if_pos (by omega), rd_row q i hi', over_some (hq.2 _ (List.getElem_mem hi')), Option.bind_some]) ?_
      refine Ev.bind (sv_ev _ _ (Nat.le_trans (over_len p) hp)) ?_
      rw [sameR_ne e]
      refine Ev.congr (fun k => by rw [if_neg (by decide), show wrap64 ((i : Int) + 1) = ((i + 1 : Nat) : Int) by unfold wrap64; omega]) ?_
      exact hmv
end
/-- Picks that are read, whatever turns elsewhere. -/
def FP (W : World) (A : Option Addr) (c : Nat) (l : List (List SV)) : Prop := l.length ≤ c ∧ Kd.F (Kd.slice 51 k51) W (fun _ => True) A l.length l
theorem FP.below {W W' : World} {A : Option Addr} {c : Nat} {l : List (List SV)} (h : FP W A c l) (hb : Below W.heap.size W W') : FP W' A c l := ⟨h.1, Kd.F_below h.2 hb⟩
theorem PM.fp {W : World} {base hi c : Nat} {A : Option Addr} {l : List (List SV)} (h : PM W base hi A c l) : FP W A c l := ⟨h.reads.2, Kd.F_mono (Kd.S_F h.own) (fun _ _ => trivial)⟩
theorem FP.at_ {W : World} {A : Option Addr} {c : Nat} {l : List (List SV)} (h : FP W A c l) (i : Nat) (hi : i < l.length) : ∃ ad Ai ci, A = some ad ∧ W.cell? (ad.add i) = some (.slice Ai l[i].length ci) ∧ l[i].length ≤ ci ∧ Kd.F k51 W (fun _ => True) Ai l[i].length l[i] := by
  obtain ⟨ad, c1, rfl, hcl, hfk, hcell, -⟩ := Kd.F_get h.2 ([] : List SV) (i : Int) (by omega) (by omega)
  have e : l.getD ((i : Int).toNat) [] = l[i] := by simp [hi]
  rw [e] at hfk
  obtain ⟨Ai, ci, rfl, hl, hf⟩ := Kd.FK_slice_open hfk
  exact ⟨ad, Ai, ci, rfl, by have := hcell 0 _ rfl; simpa [Kd.slice] using this, hl, hf⟩
theorem box_one {W : World} {g : Nat} {Ai : Option Addr} {ci : Nat} {p : List SV} (hb : W.heap[g]? = some (.cells #[.slice Ai p.length ci] 36 (0, 0))) (hl : p.length ≤ ci) (hC : Kd.C k51 W Ai p.length p) : Kd.C (Kd.slice 51 k51) W (some ⟨g, 0, none⟩) [p].length [p] := by
  refine ⟨rfl, (show 1 ≤ 9223372036854775807 by decide), fun _ => ⟨⟨g, 0, none⟩, rfl, fun j q hj => ⟨[.slice Ai p.length ci], rfl, ?_, fun i u hi => ?_⟩⟩⟩
  · have : q = p := by
      rcases j with _ | j
      · simpa using hj.symm
      · simp at hj
    subst this
    exact ⟨Ai, ci, rfl, hl, hC⟩
  · have hj0 : j = 0 := by
      rcases j with _ | j
      · rfl
      · simp at hj
    have hi0 : i = 0 := by
      rcases i with _ | i
      · rfl
      · simp at hi
    subst hj0 hi0
    have hu : Value.slice Ai p.length ci = u := by simpa using hi
    subst hu
    exact blk_cell hb 0
/-- Overlay of one pick, in a box of its own. -/
theorem over_at {W : World} {g : Nat} {Ai : Option Addr} {ci : Nat} {p : List SV} (hb : W.heap[g]? = some (.cells #[.slice Ai p.length ci] 36 (0, 0))) (hl : p.length ≤ ci) (hC : Kd.C k51 W Ai p.length p) (hn : p.length ≤ 1048576) {o : List SV} (ho : Ov.overB [p] = o) :
    Calls Try.prog 28 #[.slice (some ⟨g, 0, none⟩) 1 1] W fun e w' => ∃ A c, e = .returned (.slice A o.length c) ∧ (o.length ≤ c ∧ Kd.C k51 w' A o.length o) ∧ Below W.heap.size W w' := by
  subst ho
  refine (vars_Overlay.calls (some ⟨g, 0, none⟩) 1 [p] (Ov.overB [p]) W (box_one hb hl hC) (Nat.le_refl _) (over_some hn)).mono ?_
  rintro e w' ⟨v, rfl, hr, hbl⟩
  obtain ⟨A, c, rfl⟩ := Kd.R_slice hr
  exact ⟨A, c, rfl, (Kd.R_reads' hr).2, hbl⟩
theorem sameT_at {W : World} {A B : Option Addr} {c d : Nat} {l : List SV} (h0 : l.length ≤ c ∧ Kd.C k51 W A l.length l) (h1 : l.length ≤ d ∧ Kd.C k51 W B l.length l) :
    Calls Try.prog 20 #[.slice A l.length c, .slice B l.length d] W fun e w' => e = .returned (.bool true) ∧ Below W.heap.size W w' := by
  obtain ⟨k, hk⟩ := (same_ev l h0.2.2.1).rounds
  refine (shuttlelaw0_SameVars.calls k A c l B d l true W h0.2 h0.1 h1.2 h1.1 hk).mono ?_
  rintro e w' ⟨rfl, hd⟩
  exact ⟨rfl, hd.below⟩
theorem turn_at {W : World} {A0 A1 A2 Ap AQ : Option Addr} {c0 c1 c2 cp cQ : Nat} {axes : AX} {inc exc q : List (List SV)} {p : List SV} (hm : MC W A0 A1 A2 c0 c1 c2 axes inc exc) (hl : p.length ≤ cp) (hp : Kd.F k51 W (fun _ => True) Ap p.length p) (hq : FP W AQ cQ q) {r : Int} (hr : Ev (fun k => shuttlelaw13_turn.l0 k p q 0) r) :
    Calls Try.prog 30 #[.agg #[.slice A0 axes.length c0, .slice A1 inc.length c1, .slice A2 exc.length c2], .slice Ap p.length cp, .slice AQ q.length cQ] W fun e w' => e = .returned (.int .i64 r) ∧ Below W.heap.size W w' := by
  obtain ⟨k, hk⟩ := hr.rounds
  exact shuttlelaw13_turn.calls k A0 c0 axes A1 c1 inc A2 c2 exc (fun _ => True) Ap cp p (fun _ => True) AQ cQ q r W hm.r0 hm.h0 hm.r1 hm.h1 hm.r2 hm.h2 (Kd.V_mk hl hp) (Kd.V_mk hq.1 hq.2) hk
theorem copyPicks_at {W : World} {A : Option Addr} {c : Nat} {l : List (List SV)} (h : Kd.C (Kd.slice 51 k51) W A l.length l) (hc : l.length ≤ c) (hn : l.length ≤ 1048576) (hl : ∀ x, x ∈ l → x.length ≤ 1048576) :
    Calls Try.prog 29 #[.slice A l.length c] W fun e w' => ∃ B d, e = .returned (.slice B l.length d) ∧ (l.length ≤ d ∧ Kd.C (Kd.slice 51 k51) w' B l.length l) ∧ Below W.heap.size W w' := by
  obtain ⟨k, hk⟩ := (cp_ev l hn hl).rounds
  refine (shuttlelaw0_CopyPicks.calls k A c l l W h hc hk).mono ?_
  rintro e w' ⟨v, rfl, hs, hb⟩
  obtain ⟨B, d, rfl⟩ := Kd.S_slice hs
  exact ⟨B, d, rfl, (Kd.S_reads' hs).2, hb⟩
/-- The y of the law, while its axes are appended. -/
structure YR (W5 : World) (yb : Nat) (E : Option Addr) (ce m : Nat) (u : Value) (ys : AX) (W : World) : Prop where
  box : W.heap[yb]? = some (.cells #[u, .slice none 0 0, .slice E m ce] 25 (0, 0))
  own : Kd.R k46 46 W yb (fun _ => True) u ys
  bel : Below W5.heap.size W5 W
  lo : W5.heap.size ≤ yb
theorem YR.below {W5 W W' : World} {yb ce m : Nat} {E : Option Addr} {u : Value} {ys : AX} (h : YR W5 yb E ce m u ys W) (hb : Below W.heap.size W W') : YR W5 yb E ce m u ys W' :=
  ⟨(hb.block yb (blk_lt h.box)).trans h.box, Kd.R_below h.own hb, h.bel.trans (hb.mono h.bel.size), h.lo⟩
/-- The axis of a round, while its values are appended. -/
structure AR (W1 : World) (ab : Nat) (nm : ByteArray) (u : Value) (vs : List ByteArray) (W : World) : Prop where
  box : W.heap[ab]? = some (.cells #[.string nm, u] 46 (0, 0))
  own : Kd.R Kd.string 9 W ab (fun _ => True) u vs
  bel : Below ab W1 W
theorem AR.below {W1 W W' : World} {ab : Nat} {nm : ByteArray} {u : Value} {vs : List ByteArray} (h : AR W1 ab nm u vs W) (hb : Below W.heap.size W W') : AR W1 ab nm u vs W' :=
  ⟨(hb.block ab (blk_lt h.box)).trans h.box, Kd.R_below h.own hb, h.bel.trans (hb.mono (Nat.le_of_lt (blk_lt h.box)))⟩
theorem strR_ne {W : World} {base : Nat} {v : Value} {xs : List ByteArray} {b : Nat} {cs : Array Value} {T : TypeId} (h : Kd.R Kd.string 9 W base (fun _ => True) v xs) (hb : W.heap[b]? = some (.cells cs T (0, 0))) (hT : T ≠ 9) : Kd.R Kd.string 9 W base (fun g => g ≠ b) v xs :=
  Kd.R_mono (Kd.R_bound h) (fun k hk e => by
    subst e
    obtain ⟨-, -, -, q, hq, c2, hc⟩ := hk
    rw [hb] at hc
    injection hc with hc
    injection hc with h1 h2 h3
    rw [List.mem_cons] at hq
    rcases hq with hq | hq
    · exact hT (h2.trans hq)
    · exact absurd hq (by simp [Kd.string, Kd.scalar]))
theorem axR_ne {W : World} {base : Nat} {v : Value} {xs : AX} {b : Nat} {cs : Array Value} (h : Kd.R k46 46 W base (fun _ => True) v xs) (hb : W.heap[b]? = some (.cells cs 25 (0, 0))) : Kd.R k46 46 W base (fun g => g ≠ b) v xs :=
  Kd.R_mono (Kd.R_bound h) (fun k hk e => by
    subst e
    obtain ⟨-, -, -, q, hq, c2, hc⟩ := hk
    rw [hb] at hc
    injection hc with hc
    injection hc with h1 h2 h3
    subst h2
    revert hq
    decide)
/-- A value has been appended and stored. -/
theorem AR.put {W1 W w1 : World} {ab : Nat} {nm : ByteArray} {u v1 : Value} {vs vs1 : List ByteArray} (h : AR W1 ab nm u vs W) (hown : Kd.R Kd.string 9 w1 ab (fun _ => True) v1 vs1) (hb : Below ab W1 w1) (hg : W.grownBy w1 u.ownBlock) : AR W1 ab nm v1 vs1 (w1.setCell ⟨ab, 1, none⟩ v1) := by
  have hbx : w1.heap[ab]? = some (.cells #[.string nm, u] 46 (0, 0)) := (hg.block ab (blk_lt h.box) (Kd.R_away (strR_ne h.own h.box (by decide)) (fun _ h => h))).trans h.box
  refine ⟨?_, Kd.R_mono (Kd.R_far (p := ⟨ab, 1, none⟩) (strR_ne hown hbx (by decide)) (fun g hg => hg) v1) (fun _ _ => trivial), hb.setCell (p := ⟨ab, 1, none⟩) (Nat.le_refl _) v1⟩
  have := blk_set hbx 1 v1
  simpa using this
/-- An axis has been appended and stored. -/
theorem YR.put {W5 W w1 : World} {yb ce m : Nat} {E : Option Addr} {u v1 : Value} {ys ys1 : AX} (h : YR W5 yb E ce m u ys W) (hown : Kd.R k46 46 w1 yb (fun _ => True) v1 ys1) (hb : Below W5.heap.size W5 w1) (hg : W.grownBy w1 u.ownBlock) : YR W5 yb E ce m v1 ys1 (w1.setCell ⟨yb, 0, none⟩ v1) := by
  have hbx : w1.heap[yb]? = some (.cells #[u, .slice none 0 0, .slice E m ce] 25 (0, 0)) := (hg.block yb (blk_lt h.box) (Kd.R_away (axR_ne h.own h.box) (fun _ h => h))).trans h.box
  refine ⟨?_, Kd.R_mono (Kd.R_far (p := ⟨yb, 0, none⟩) (axR_ne hown hbx) (fun g hg => hg) v1) (fun _ _ => trivial), hb.setCell (p := ⟨yb, 0, none⟩) h.lo v1, h.lo⟩
  have := blk_set hbx 0 v1
  simpa using this
/-- What the law's last loop reads. -/
structure TR (w9 W : World) (A0 A1 A2 AQ Ai Aj : Option Addr) (c0 c1 c2 cQ : Nat) (axes : AX) (inc exc Q : List (List SV)) (p q : List SV) : Prop where
  mc : MC W A0 A1 A2 c0 c1 c2 axes inc exc
  fq : FP W AQ cQ Q
  fi : Kd.F k51 W (fun _ => True) Ai p.length p
  fj : Kd.F k51 W (fun _ => True) Aj q.length q
  bel : Below w9.heap.size w9 W
theorem TR.below {w9 W W' : World} {A0 A1 A2 AQ Ai Aj : Option Addr} {c0 c1 c2 cQ : Nat} {axes : AX} {inc exc Q : List (List SV)} {p q : List SV} (h : TR w9 W A0 A1 A2 AQ Ai Aj c0 c1 c2 cQ axes inc exc Q p q) (hb : Below W.heap.size W W') : TR w9 W' A0 A1 A2 AQ Ai Aj c0 c1 c2 cQ axes inc exc Q p q :=
  ⟨h.mc.below hb, h.fq.below hb, Kd.F_below h.fi hb, Kd.F_below h.fj hb, h.bel.trans (hb.mono h.bel.size)⟩
end Go.Proofs.Ytdgllnaeookddaa.Q
