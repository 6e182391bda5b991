/- What the law TextLines answers: true, of every text. -/
import Derived.Test.YthddjlkgnmbomaaDoorTRef
import Derived.Test.YthddjlkgnmbomaaDoorTSpoil
namespace Go.Proofs.YthddjlkgnmbomaaDoor.Q
open Go Go.RowKit Go.Proofs.YthddjlkgnmbomaaDoorW.PrintWords Go.Proofs.YthddjlkgnmbomaaDoorW.PrintLast Go.Proofs.YthddjlkgnmbomaaDoorW.PrintMore
set_option linter.unusedVariables false
set_option linter.unusedSimpArgs false
/-- Lines that lie between two heights of memory. -/
def Lies (w : World) (lo hi : Nat) (A : Option Addr) (n c : Nat) (l : List LN) : Prop := Kd.R k33 33 w lo (fun k => lo ≤ k ∧ k < hi) (.slice A n c) l ∧ n = l.length
theorem Lies.below {w w' : World} {lo hi : Nat} {A : Option Addr} {n c : Nat} {l : List LN} (h : Lies w lo hi A n c l) (hb : Below w.heap.size w w') : Lies w' lo hi A n c l := ⟨Kd.R_below h.1 hb, h.2⟩
theorem lies_of {w : World} {lo : Nat} {v : Value} {l : List LN} (h : Kd.R k33 33 w lo (fun _ => True) v l) : ∃ A c, v = .slice A l.length c ∧ Lies w lo w.heap.size A l.length c l := by
  obtain ⟨A, c, rfl⟩ := Kd.R_slice h
  exact ⟨A, c, rfl, Kd.R_mono (Kd.R_bound h) (fun k hk => ⟨hk.2.1, hk.2.2.1⟩), rfl⟩
theorem same_at {w : World} {lo hi lo2 hi2 : Nat} {A B : Option Addr} {n c m d : Nat} {l : List LN} (h : Lies w lo hi A n c l) (h2 : Lies w lo2 hi2 B m d l) (hl : l.length ≤ 70000) :
    Calls Tryd.prog 10 #[.slice A n c, .slice B m d] w fun e w' => e = .returned (.bool true) ∧ Below w.heap.size w w' := by
  obtain ⟨k, hk⟩ := (same_lines l hl).rounds
  obtain ⟨h, rfl⟩ := h
  obtain ⟨h2, rfl⟩ := h2
  have r1 := Kd.R_reads' h
  have r2 := Kd.R_reads' h2
  refine (shuttlelaw0_SameLines.calls k A c l B d l true w r1.2.2 r1.2.1 r2.2.2 r2.2.1 hk).mono ?_
  rintro e w' ⟨rfl, hd⟩
  exact ⟨rfl, hd.below⟩
theorem spoil_at {w : World} {lo hi : Nat} {A : Option Addr} {n c : Nat} {l : List LN} (h : Lies w lo hi A n c l) (hl : l.length ≤ 70000) :
    Calls Tryd.prog 11 #[.slice A n c] w fun e w' => e = .returned (.tuple #[]) ∧ Kept w w' (fun k => lo ≤ k ∧ k < hi) ∧ TK w w' := by
  obtain ⟨h, rfl⟩ := h
  obtain ⟨inner, hin⟩ := Kd.R_own h
  refine (spoilLines_any A _ c inner w lo hin (by omega)).mono ?_
  rintro e w' ⟨rfl, hk, ht⟩
  exact ⟨rfl, hk.mono (own_ok h), ht⟩
theorem Lies.kept {w w' : World} {lo hi lo2 hi2 : Nat} {A : Option Addr} {n c : Nat} {l : List LN} (h : Lies w lo hi A n c l) (hk : Kept w w' (fun k => lo2 ≤ k ∧ k < hi2)) (hd : hi ≤ lo2 ∨ hi2 ≤ lo) : Lies w' lo hi A n c l :=
  ⟨Kd.R_kept h.1 hk (fun k hk h2 => by omega), h.2⟩
set_option maxHeartbeats 1000000 in
set_option maxRecDepth 100000 in
theorem linesLaw (s : ByteArray) (hs : s.size ≤ 140737488355328) (w : World) : Calls Tryd.prog 3 #[.string s] w fun e w' => e = .returned (.bool true) ∧ Below w.heap.size w w' := by
  obtain ⟨k, hk⟩ := (ref_lines s).rounds
  have hp := text_f s hs
  have hl := linesP_len s
  obtain ⟨want, line, col, code, hr⟩ : ∃ a b c d, linesP s = (a, b, c, d) := ⟨_, _, _, _, rfl⟩
  rw [hr] at hk hp hl
  have HR := Aside0.mk hk
  have HP := Aside0.mk hp
  have HL := Aside0.mk (show want.length ≤ 70000 from hl)
  clear hk hp hl hr hs
  go_enter Tryd.func3, Tryd.ntmps3
  go_wp2_with (first
    | (go_at_call 12; refine (shuttlelaw1_awake.calls true _ awake_f).mono ?_; rintro e w7 ⟨rfl, hb⟩; have HB7 := Aside0.mk (below_step HB6.out hb); clear hb)
    | (go_at_call 10; refine (same_at HY5.out HW5.out HL.out).mono ?_; rintro e w6 ⟨rfl, hb⟩; have HB6 := Aside0.mk (below_step HB5.out hb); clear hb)
    | (go_at_call 11; refine (spoil_at HX4.out HL.out).mono ?_; rintro e w5 ⟨rfl, hk, ht⟩; have HY5 := Aside0.mk (HY4.out.kept hk (.inr (Nat.le_refl _))); have HW5 := Aside0.mk (HW4.out.kept hk (.inl (Nat.le_refl _))); have HB5 := Aside0.mk (HB4.out.trans (ht.below hk HB4.out.size (fun k h => Nat.le_trans HS1.out h.1))); clear hk ht)
    | (go_at_call 10; refine (same_at HX3.out HW3.out HL.out).mono ?_; rintro e w4 ⟨rfl, hb⟩; have HX4 := Aside0.mk (HX3.out.below hb); have HY4 := Aside0.mk (HY3.out.below hb); have HW4 := Aside0.mk (HW3.out.below hb); have HB4 := Aside0.mk (below_step HB3.out hb); clear hb)
    | (go_at_call 9; refine (text_Lines.calls s want line col code _ HP.out).mono ?_; rintro e w3 ⟨v, rfl, hv, hb⟩; obtain ⟨Ay, cy, rfl, hy⟩ := lies_of hv; have HY3 := Aside0.mk hy; have HX3 := Aside0.mk (HX2.out.below hb); have HW3 := Aside0.mk (HW2.out.below hb); have HB3 := Aside0.mk (below_step HB2.out hb); clear hv hy hb)
    | (go_at_call 9; refine (text_Lines.calls s want line col code _ HP.out).mono ?_; rintro e w2 ⟨v, rfl, hv, hb⟩; obtain ⟨Ax, cx, rfl, hx⟩ := lies_of hv; have HX2 := Aside0.mk hx; have HW2 := Aside0.mk (HW1.out.below hb); have HB2 := Aside0.mk (below_step HB1.out hb); clear hv hx hb)
    | (go_at_call 8; refine (shuttleref1_Lines.calls k s want line col code _ HR.out).mono ?_; rintro e w1 ⟨v, rfl, hv, hb⟩; obtain ⟨Aw, cw, rfl, hw⟩ := lies_of hv; have HW1 := Aside0.mk hw; have HB1 := Aside0.mk hb; have HS1 := Aside0.mk hb.size; clear hv hw hb))
  go_ret
  exact ⟨rfl, HB7.out⟩
end Go.Proofs.YthddjlkgnmbomaaDoor.Q
