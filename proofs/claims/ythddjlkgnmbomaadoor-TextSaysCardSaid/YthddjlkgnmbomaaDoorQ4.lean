-- Printed for this seat by gprint.py (the kit's printer over contracts proved by hand).
import Derived.Test.YthddjlkgnmbomaaDoorQ0
import Derived.Test.YthddjlkgnmbomaaDoorQ2
import Derived.Test.YthddjlkgnmbomaaDoorQ3
import Derived.Test.YthddjlkgnmbomaaDoorTGiv
namespace Go.Proofs.YthddjlkgnmbomaaDoor.Q
open Go.RowKit Go.Proofs.YthddjlkgnmbomaaDoorW.PrintWords Go.Proofs.YthddjlkgnmbomaaDoorW.PrintLast Go.Proofs.YthddjlkgnmbomaaDoorW.PrintMore
attribute [local go_sem] max2_int min2_int max_two min_two max_three min_three max_four min_four   -- for this text's walks alone
set_option linter.unusedVariables false
set_option linter.unusedSimpArgs false

/-! ### shuttlelaw1_TextSays: function 4 -/
mutual
def shuttlelaw1_TextSays.l0 : Nat → List (S33) → List ByteArray → Int → Int → Option (Bool)
  | 0, _, _, _, _ => none
  | k + 1, x3, x7, x8, x9 => if x9 < (x3.length : Int) then (if 0 ≤ x9 then (if ((rd_T33 x3 x9).f0) ≤ x8 then (shuttlelaw1_TextSays.j1 k x3 x7 x9 ((rd_T33 x3 x9).f2) true) else (if ((rd_T33 x3 x9).f0) > (x7.length : Int) then (shuttlelaw1_TextSays.j1 k x3 x7 x9 ((rd_T33 x3 x9).f2) true) else (if ((rd_T33 x3 x9).f2).toList = ([] : List UInt8) then (shuttlelaw1_TextSays.j1 k x3 x7 x9 ((rd_T33 x3 x9).f2) true) else (if 0 < (((rd_T33 x3 x9).f2).size : Int) then (if (bt ((rd_T33 x3 x9).f2) 0) = 32 then (shuttlelaw1_TextSays.j1 k x3 x7 x9 ((rd_T33 x3 x9).f2) true) else (if (bt ((rd_T33 x3 x9).f2) 0) = 35 then (shuttlelaw1_TextSays.j1 k x3 x7 x9 ((rd_T33 x3 x9).f2) true) else (if 0 ≤ (wrap64 ((((rd_T33 x3 x9).f2).size : Int) - 1)) then (if (wrap64 ((((rd_T33 x3 x9).f2).size : Int) - 1)) < (((rd_T33 x3 x9).f2).size : Int) then (if (bt ((rd_T33 x3 x9).f2) (wrap64 ((((rd_T33 x3 x9).f2).size : Int) - 1))) = 32 then (shuttlelaw1_TextSays.j1 k x3 x7 x9 ((rd_T33 x3 x9).f2) true) else (shuttlelaw1_TextSays.j1 k x3 x7 x9 ((rd_T33 x3 x9).f2) (decide (((rd_T33 x3 x9).f1) < 0)))) else (none)) else (none)))) else (none))))) else (none)) else ((shuttlelaw1_awake.f).bind fun t168 => (some t168))
def shuttlelaw1_TextSays.j1 : Nat → List (S33) → List ByteArray → Int → ByteArray → Bool → Option (Bool)
  | 0, _, _, _, _, _ => none
  | k + 1, x3, x7, x9, x10, x87 => if x87 = true then (some false) else (if 0 ≤ x9 then (if x9 < (x3.length : Int) then (if 0 ≤ (wrap64 (((rd_T33 x3 x9).f0) - 1)) then (if (wrap64 (((rd_T33 x3 x9).f0) - 1)) < (x7.length : Int) then (if ((rdOf ByteArray.empty x7 (wrap64 (((rd_T33 x3 x9).f0) - 1))).size : Int) < (wrap64 (((rd_T33 x3 x9).f1) + (x10.size : Int))) then (shuttlelaw1_TextSays.j2 k x3 x7 ((rd_T33 x3 x9).f0) x9 x10 (rdOf ByteArray.empty x7 (wrap64 (((rd_T33 x3 x9).f0) - 1))) true) else (if 0 ≤ ((rd_T33 x3 x9).f1) then (if ((rd_T33 x3 x9).f1) ≤ (wrap64 (((rd_T33 x3 x9).f1) + (x10.size : Int))) then (if (wrap64 (((rd_T33 x3 x9).f1) + (x10.size : Int))) ≤ ((rdOf ByteArray.empty x7 (wrap64 (((rd_T33 x3 x9).f0) - 1))).size : Int) then (shuttlelaw1_TextSays.j2 k x3 x7 ((rd_T33 x3 x9).f0) x9 x10 (rdOf ByteArray.empty x7 (wrap64 (((rd_T33 x3 x9).f0) - 1))) (((rdOf ByteArray.empty x7 (wrap64 (((rd_T33 x3 x9).f0) - 1))).extract (((rd_T33 x3 x9).f1) : Int).toNat ((wrap64 (((rd_T33 x3 x9).f1) + (x10.size : Int))) : Int).toNat).toList != x10.toList)) else (none)) else (none)) else (none))) else (none)) else (none)) else (none)) else (none))
def shuttlelaw1_TextSays.j2 : Nat → List (S33) → List ByteArray → Int → Int → ByteArray → ByteArray → Bool → Option (Bool)
  | 0, _, _, _, _, _, _, _ => none
  | k + 1, x3, x7, x8, x9, x10, x11, x131 => if x131 = true then (some false) else (shuttlelaw1_TextSays.l1 k x3 x7 x8 x9 x10 x11 0)
def shuttlelaw1_TextSays.l1 : Nat → List (S33) → List ByteArray → Int → Int → ByteArray → ByteArray → Int → Option (Bool)
  | 0, _, _, _, _, _, _, _ => none
  | k + 1, x3, x7, x8, x9, x10, x11, x12 => if x12 < (x11.size : Int) then (if 0 ≤ x9 then (if x9 < (x3.length : Int) then (if x12 < ((rd_T33 x3 x9).f1) then (if 0 ≤ x12 then (if (bt x11 x12) = 32 then (shuttlelaw1_TextSays.l1 k x3 x7 x8 x9 x10 x11 (wrap64 (x12 + 1))) else (some false)) else (none)) else (if x12 ≥ (wrap64 (((rd_T33 x3 x9).f1) + (x10.size : Int))) then (if 0 ≤ x12 then (if (bt x11 x12) = 32 then (shuttlelaw1_TextSays.l1 k x3 x7 x8 x9 x10 x11 (wrap64 (x12 + 1))) else (some false)) else (none)) else (shuttlelaw1_TextSays.l1 k x3 x7 x8 x9 x10 x11 (wrap64 (x12 + 1))))) else (none)) else (none)) else (shuttlelaw1_TextSays.l0 k x3 x7 x8 (wrap64 (x9 + 1)))
end
def shuttlelaw1_TextSays.f (k : Nat) (a0 : ByteArray) : Option (Bool) := (text_Lines.f a0).bind fun bt158 => (if bt158.2.2.2 = 0 then ((shuttleref1_Split.f k a0).bind fun t165 => (shuttlelaw1_TextSays.l0 k bt158.1 t165 0 0)) else (if (bt158.1.length : Int) = 0 then ((shuttlelaw1_awake.f).bind fun t164 => (some t164)) else (some false)))
theorem shuttlelaw1_TextSays.mono_l : ∀ k, (∀ y0 y1 y2 y3, LeO (shuttlelaw1_TextSays.l0 k y0 y1 y2 y3) (shuttlelaw1_TextSays.l0 (k + 1) y0 y1 y2 y3)) ∧ (∀ y0 y1 y2 y3 y4, LeO (shuttlelaw1_TextSays.j1 k y0 y1 y2 y3 y4) (shuttlelaw1_TextSays.j1 (k + 1) y0 y1 y2 y3 y4)) ∧ (∀ y0 y1 y2 y3 y4 y5 y6, LeO (shuttlelaw1_TextSays.j2 k y0 y1 y2 y3 y4 y5 y6) (shuttlelaw1_TextSays.j2 (k + 1) y0 y1 y2 y3 y4 y5 y6)) ∧ (∀ y0 y1 y2 y3 y4 y5 y6, LeO (shuttlelaw1_TextSays.l1 k y0 y1 y2 y3 y4 y5 y6) (shuttlelaw1_TextSays.l1 (k + 1) y0 y1 y2 y3 y4 y5 y6))
  | 0 => ⟨fun _ _ _ _ r h => by simp [shuttlelaw1_TextSays.l0] at h, fun _ _ _ _ _ r h => by simp [shuttlelaw1_TextSays.j1] at h, fun _ _ _ _ _ _ _ r h => by simp [shuttlelaw1_TextSays.j2] at h, fun _ _ _ _ _ _ _ r h => by simp [shuttlelaw1_TextSays.l1] at h⟩
  | k + 1 => by
    obtain ⟨ih0, ih1, ih2, ih3⟩ := shuttlelaw1_TextSays.mono_l k
    refine ⟨?_, ?_, ?_, ?_⟩
    · intro y0 y1 y2 y3
      unfold shuttlelaw1_TextSays.l0
      repeat' first
      | (with_reducible exact ih0 _ _ _ _)
      | (with_reducible exact ih1 _ _ _ _ _)
      | (with_reducible exact ih2 _ _ _ _ _ _ _)
      | (with_reducible exact ih3 _ _ _ _ _ _ _)
      | (with_reducible exact shuttleref1_Split.mono _ _)
      | (with_reducible exact LeO.refl _)
      | (with_reducible exact LeO.none _)
      | (with_reducible refine LeO.ite ?_ ?_)
      | (with_reducible refine LeO.bind ?_ (fun _ => ?_))
      | exact ih0 _ _ _ _
      | exact ih1 _ _ _ _ _
      | exact ih2 _ _ _ _ _ _ _
      | exact ih3 _ _ _ _ _ _ _
      | exact shuttleref1_Split.mono _ _
      | exact LeO.none _
      | refine LeO.ite ?_ ?_
      | refine LeO.bind ?_ (fun _ => ?_)
    · intro y0 y1 y2 y3 y4
      unfold shuttlelaw1_TextSays.j1
      repeat' first
      | (with_reducible exact ih0 _ _ _ _)
      | (with_reducible exact ih1 _ _ _ _ _)
      | (with_reducible exact ih2 _ _ _ _ _ _ _)
      | (with_reducible exact ih3 _ _ _ _ _ _ _)
      | (with_reducible exact shuttleref1_Split.mono _ _)
      | (with_reducible exact LeO.refl _)
      | (with_reducible exact LeO.none _)
      | (with_reducible refine LeO.ite ?_ ?_)
      | (with_reducible refine LeO.bind ?_ (fun _ => ?_))
      | exact ih0 _ _ _ _
      | exact ih1 _ _ _ _ _
      | exact ih2 _ _ _ _ _ _ _
      | exact ih3 _ _ _ _ _ _ _
      | exact shuttleref1_Split.mono _ _
      | exact LeO.none _
      | refine LeO.ite ?_ ?_
      | refine LeO.bind ?_ (fun _ => ?_)
    · intro y0 y1 y2 y3 y4 y5 y6
      unfold shuttlelaw1_TextSays.j2
      repeat' first
      | (with_reducible exact ih0 _ _ _ _)
      | (with_reducible exact ih1 _ _ _ _ _)
      | (with_reducible exact ih2 _ _ _ _ _ _ _)
      | (with_reducible exact ih3 _ _ _ _ _ _ _)
      | (with_reducible exact shuttleref1_Split.mono _ _)
      | (with_reducible exact LeO.refl _)
      | (with_reducible exact LeO.none _)
      | (with_reducible refine LeO.ite ?_ ?_)
      | (with_reducible refine LeO.bind ?_ (fun _ => ?_))
      | exact ih0 _ _ _ _
      | exact ih1 _ _ _ _ _
      | exact ih2 _ _ _ _ _ _ _
      | exact ih3 _ _ _ _ _ _ _
      | exact shuttleref1_Split.mono _ _
      | exact LeO.none _
      | refine LeO.ite ?_ ?_
      | refine LeO.bind ?_ (fun _ => ?_)
    · intro y0 y1 y2 y3 y4 y5 y6
      unfold shuttlelaw1_TextSays.l1
      repeat' first
      | (with_reducible exact ih0 _ _ _ _)
      | (with_reducible exact ih1 _ _ _ _ _)
      | (with_reducible exact ih2 _ _ _ _ _ _ _)
      | (with_reducible exact ih3 _ _ _ _ _ _ _)
      | (with_reducible exact shuttleref1_Split.mono _ _)
      | (with_reducible exact LeO.refl _)
      | (with_reducible exact LeO.none _)
      | (with_reducible refine LeO.ite ?_ ?_)
      | (with_reducible refine LeO.bind ?_ (fun _ => ?_))
      | exact ih0 _ _ _ _
      | exact ih1 _ _ _ _ _
      | exact ih2 _ _ _ _ _ _ _
      | exact ih3 _ _ _ _ _ _ _
      | exact shuttleref1_Split.mono _ _
      | exact LeO.none _
      | refine LeO.ite ?_ ?_
      | refine LeO.bind ?_ (fun _ => ?_)
theorem shuttlelaw1_TextSays.mono : ∀ a0 k, LeO (shuttlelaw1_TextSays.f k a0) (shuttlelaw1_TextSays.f (k + 1) a0) := by
  intro a0 k
  obtain ⟨ih0, ih1, ih2, ih3⟩ := shuttlelaw1_TextSays.mono_l k
  unfold shuttlelaw1_TextSays.f
  repeat' first
      | (with_reducible exact ih0 _ _ _ _)
      | (with_reducible exact ih1 _ _ _ _ _)
      | (with_reducible exact ih2 _ _ _ _ _ _ _)
      | (with_reducible exact ih3 _ _ _ _ _ _ _)
      | (with_reducible exact shuttleref1_Split.mono _ _)
      | (with_reducible exact LeO.refl _)
      | (with_reducible exact LeO.none _)
      | (with_reducible refine LeO.ite ?_ ?_)
      | (with_reducible refine LeO.bind ?_ (fun _ => ?_))
      | exact ih0 _ _ _ _
      | exact ih1 _ _ _ _ _
      | exact ih2 _ _ _ _ _ _ _
      | exact ih3 _ _ _ _ _ _ _
      | exact shuttleref1_Split.mono _ _
      | exact LeO.none _
      | refine LeO.ite ?_ ?_
      | refine LeO.bind ?_ (fun _ => ?_)
set_option maxHeartbeats 8000000 in
set_option maxRecDepth 100000 in
theorem shuttlelaw1_TextSays.calls (k : Nat) (a0 : ByteArray) (r : Bool) (w : World) (h : shuttlelaw1_TextSays.f k a0 = some r) :
    Calls Tryd.prog 4 #[.string a0] w fun e w' => e = .returned (.bool r) ∧ Below w.heap.size w w' := by
  have HB := Aside0.mk (Below.refl w.heap.size w)
  have H : ((text_Lines.f a0).bind fun bt158 => (if bt158.2.2.2 = 0 then ((shuttleref1_Split.f k a0).bind fun t165 => (shuttlelaw1_TextSays.l0 k bt158.1 t165 0 0)) else (if (bt158.1.length : Int) = 0 then ((shuttlelaw1_awake.f).bind fun t164 => (some t164)) else (some false)))) = some r := h
  clear h
  replace H := Option.bind_eq_some_iff.mp H
  obtain ⟨⟨t158, t159, t160, t161⟩, A20, H⟩ := H
  replace H : (if t161 = 0 then ((shuttleref1_Split.f k a0).bind fun t165 => (shuttlelaw1_TextSays.l0 k t158 t165 0 0)) else (if (t158.length : Int) = 0 then ((shuttlelaw1_awake.f).bind fun t164 => (some t164)) else (some false))) = some r := H
  have A2 := Aside0.mk A20
  clear A20
  by_cases c3 : t161 = 0
  · rw [if_pos c3] at H
    have c3b0 : (t161 == 0) = true := beq_iff_eq.mpr c3
    have c3b1 : (t161 != 0) = false := bne_eq_false_iff_eq.mpr c3
    clear c3
    replace H := Option.bind_eq_some_iff.mp H
    obtain ⟨t165, A40, H⟩ := H
    replace H : (shuttlelaw1_TextSays.l0 k t158 t165 0 0) = some r := H
    have A4 := Aside0.mk A40
    clear A40
    have H' := Aside0.mk H
    clear H
    go_enter Tryd.func4, Tryd.ntmps4
    go_wp2_with (first | (go_at_call 9; (with_reducible refine (text_Lines.calls a0 t158 t159 t160 t161 _ A2.out).mono ?_); rintro e w5 ⟨v162, rfl, ho0, hb⟩; have n0_ := Aside0.mk (Kd.R_lower ho0 (below_size (by repeat (first | (with_reducible first | exact HB.out | apply below_alloc | apply pw_below_drewN | apply below_drew1) | exact HB.out)))); have n1_ := Aside0.mk (below_step (by repeat (first | (with_reducible first | exact HB.out | apply below_alloc | apply pw_below_drewN | apply below_drew1) | exact HB.out)) hb); clear HB; have HO163 := n0_; have HB := n1_; clear n0_ n1_; (try clear hb); (try clear hb2); (try clear hk); (try clear hi); (try clear ho0)) | (go_at_call 13; (with_reducible refine (shuttleref1_Split.calls k a0 t165 _ A4.out).mono ?_); rintro e w6 ⟨v166, rfl, ho0, hb⟩; have n0_ := Aside0.mk (Kd.R_below (by (with_reducible repeat (first | apply Kd.R_alloc | apply Kd.R_drewN | apply Kd.R_drew)); exact HO163.out) hb); have n1_ := Aside0.mk (Kd.R_lower ho0 (below_size (by repeat (first | (with_reducible first | exact HB.out | apply below_alloc | apply pw_below_drewN | apply below_drew1) | exact HB.out)))); have n2_ := Aside0.mk (below_step (by repeat (first | (with_reducible first | exact HB.out | apply below_alloc | apply pw_below_drewN | apply below_drew1) | exact HB.out)) hb); clear HO163; clear HB; have HO163 := n0_; have HO167 := n1_; have HB := n2_; clear n0_ n1_ n2_; (try clear hb); (try clear hb2); (try clear hk); (try clear hi); (try clear ho0)))
    repeat (go_quiet (first | (go_at_call 9; (with_reducible refine (text_Lines.calls a0 t158 t159 t160 t161 _ A2.out).mono ?_); rintro e w5 ⟨v162, rfl, ho0, hb⟩; have n0_ := Aside0.mk (Kd.R_lower ho0 (below_size (by repeat (first | (with_reducible first | exact HB.out | apply below_alloc | apply pw_below_drewN | apply below_drew1) | exact HB.out)))); have n1_ := Aside0.mk (below_step (by repeat (first | (with_reducible first | exact HB.out | apply below_alloc | apply pw_below_drewN | apply below_drew1) | exact HB.out)) hb); clear HB; have HO163 := n0_; have HB := n1_; clear n0_ n1_; (try clear hb); (try clear hb2); (try clear hk); (try clear hi); (try clear ho0)) | (go_at_call 13; (with_reducible refine (shuttleref1_Split.calls k a0 t165 _ A4.out).mono ?_); rintro e w6 ⟨v166, rfl, ho0, hb⟩; have n0_ := Aside0.mk (Kd.R_below (by (with_reducible repeat (first | apply Kd.R_alloc | apply Kd.R_drewN | apply Kd.R_drew)); exact HO163.out) hb); have n1_ := Aside0.mk (Kd.R_lower ho0 (below_size (by repeat (first | (with_reducible first | exact HB.out | apply below_alloc | apply pw_below_drewN | apply below_drew1) | exact HB.out)))); have n2_ := Aside0.mk (below_step (by repeat (first | (with_reducible first | exact HB.out | apply below_alloc | apply pw_below_drewN | apply below_drew1) | exact HB.out)) hb); clear HO163; clear HB; have HO163 := n0_; have HO167 := n1_; have HB := n2_; clear n0_ n1_ n2_; (try clear hb); (try clear hb2); (try clear hk); (try clear hi); (try clear ho0))); try go_wp2_with (first | (go_at_call 9; (with_reducible refine (text_Lines.calls a0 t158 t159 t160 t161 _ A2.out).mono ?_); rintro e w5 ⟨v162, rfl, ho0, hb⟩; have n0_ := Aside0.mk (Kd.R_lower ho0 (below_size (by repeat (first | (with_reducible first | exact HB.out | apply below_alloc | apply pw_below_drewN | apply below_drew1) | exact HB.out)))); have n1_ := Aside0.mk (below_step (by repeat (first | (with_reducible first | exact HB.out | apply below_alloc | apply pw_below_drewN | apply below_drew1) | exact HB.out)) hb); clear HB; have HO163 := n0_; have HB := n1_; clear n0_ n1_; (try clear hb); (try clear hb2); (try clear hk); (try clear hi); (try clear ho0)) | (go_at_call 13; (with_reducible refine (shuttleref1_Split.calls k a0 t165 _ A4.out).mono ?_); rintro e w6 ⟨v166, rfl, ho0, hb⟩; have n0_ := Aside0.mk (Kd.R_below (by (with_reducible repeat (first | apply Kd.R_alloc | apply Kd.R_drewN | apply Kd.R_drew)); exact HO163.out) hb); have n1_ := Aside0.mk (Kd.R_lower ho0 (below_size (by repeat (first | (with_reducible first | exact HB.out | apply below_alloc | apply pw_below_drewN | apply below_drew1) | exact HB.out)))); have n2_ := Aside0.mk (below_step (by repeat (first | (with_reducible first | exact HB.out | apply below_alloc | apply pw_below_drewN | apply below_drew1) | exact HB.out)) hb); clear HO163; clear HB; have HO163 := n0_; have HO167 := n1_; have HB := n2_; clear n0_ n1_ n2_; (try clear hb); (try clear hb2); (try clear hk); (try clear hi); (try clear ho0))))
    go_loopg [8, 9] k (fun kq v8 v9 w' => ∃ (x8_1 : Int) (x9_1 : Int), v8 = .int .i64 x8_1 ∧ v9 = .int .i64 x9_1 ∧ Aside0 (shuttlelaw1_TextSays.l0 kq t158 t165 x8_1 x9_1 = some r) ∧ Aside0 (kq ≤ k) ∧ Aside0 (Kd.R k33 33 w' w.heap.size (fun _ => True) v162 t158) ∧ Aside0 (Kd.R Kd.string 9 w' w.heap.size (fun _ => True) v166 t165) ∧ Aside0 (Below w.heap.size w w'))
    case atStart => exact ⟨(0), (0), (by first | rfl | (simp; done) | (simp [*]; done)), (by first | rfl | (simp; done) | (simp [*]; done)), H', ⟨Nat.le_refl _⟩, ⟨by (with_reducible repeat (first | apply Kd.R_alloc | apply Kd.R_drewN | apply Kd.R_drew)); exact HO163.out⟩, ⟨by (with_reducible repeat (first | apply Kd.R_alloc | apply Kd.R_drewN | apply Kd.R_drew)); exact HO167.out⟩, ⟨by repeat (first | (with_reducible first | exact HB.out | apply below_alloc | apply pw_below_drewN | apply below_drew1) | exact HB.out)⟩⟩
    case round =>
      clear H'
      try clear p2
      try clear c3
      try clear c3b0
      try clear c3b1
      try clear c4
      obtain ⟨x8_1, x9_1, rfl, rfl, HA, HK1, HO_3, HO_7, HB⟩ := hrel
      cases gk with
      | zero => exact absurd HA.out (by simp [shuttlelaw1_TextSays.l0])
      | succ k1 =>
        have H := HA.out
        clear HA
        simp only [shuttlelaw1_TextSays.l0] at H
        by_cases c7 : x9_1 < (t158.length : Int)
        · rw [if_pos c7] at H
          have c7b0 : decide (x9_1 < (t158.length : Int)) = true := decide_eq_true c7
          clear c7
          by_cases c8 : 0 ≤ x9_1
          · rw [if_pos c8] at H
            have c8b0 : decide (0 ≤ x9_1) = true := decide_eq_true c8
            clear c8
            have HC9 := Aside0.mk H
            clear H
            obtain ⟨Ao10, co10, eo10⟩ := Kd.R_slice HO_3.out
            subst eo10
            have p169 : 0 ≤ (x9_1 : Int) := of_decide_eq_true (by first | (with_reducible assumption) | assumption)
            have q169 : x9_1 < (t158.length : Int) := of_decide_eq_true (by first | (with_reducible assumption) | assumption)
            obtain ⟨ad169, e169, hx169_0, hx169_1, hx169_2⟩ := at_T33 (Kd.R_reads' HO_3.out).2.2 x9_1 p169 q169
            cases e169
            replace p169 := eq_true p169
            replace q169 := eq_true q169
            go_upto_region 10 with (fail)
            repeat (go_quiet (fail); go_upto_region 10 with (fail))
            go_cut [87] (fun v87 wc => ∃ (kq : Nat) (x87_8 : Bool), v87 = .bool x87_8 ∧ Aside0 (shuttlelaw1_TextSays.j1 kq t158 t165 x9_1 ((rd_T33 t158 x9_1).f2) x87_8 = some r) ∧ Aside0 (kq ≤ k1) ∧ Aside0 (Kd.R k33 33 wc w.heap.size (fun _ => True) (.slice (some ad169) t158.length co10) t158) ∧ Aside0 (Kd.R Kd.string 9 wc w.heap.size (fun _ => True) v166 t165) ∧ Aside0 (Below w.heap.size w wc))
            case first =>
              have H := HC9.out
              clear HC9
              by_cases c11 : ((rd_T33 t158 x9_1).f0) ≤ x8_1
              · rw [if_pos c11] at H
                have c11b0 : decide (((rd_T33 t158 x9_1).f0) ≤ x8_1) = true := decide_eq_true c11
                clear c11
                (first | rw [c11b0] | rw [c11b1] | (simp only [i64_w, i32_w]; rw [c11b0]) | skip)
                have H' := Aside0.mk H
                clear H
                have p170 : 0 ≤ (x9_1 : Int) := of_decide_eq_true (by first | (with_reducible assumption) | assumption)
                have q170 : x9_1 < (t158.length : Int) := of_decide_eq_true (by first | (with_reducible assumption) | assumption)
                obtain ⟨ad170, e170, hx170_0, hx170_1, hx170_2⟩ := at_T33 (Kd.R_reads' HO_3.out).2.2 x9_1 p170 q170
                obtain rfl : ad169 = ad170 := (by injection e170)
                replace p170 := eq_true p170
                replace q170 := eq_true q170
                go_wp2
                repeat (go_quiet (fail); try go_wp2)
                go_meet
                case rel => exact ⟨_, (true), (by first | rfl | (simp; done) | (simp [*]; done)), H', ⟨by have := HK1.out; first | omega | exact Nat.le_refl _⟩, ⟨by (with_reducible repeat (first | apply Kd.R_alloc | apply Kd.R_drewN | apply Kd.R_drew)); exact HO_3.out⟩, ⟨by (with_reducible repeat (first | apply Kd.R_alloc | apply Kd.R_drewN | apply Kd.R_drew)); exact HO_7.out⟩, ⟨by repeat (first | (with_reducible first | exact HB.out | apply below_alloc | apply pw_below_drewN | apply below_drew1) | exact HB.out)⟩⟩
              · rw [if_neg c11] at H
                have c11b0 : decide (((rd_T33 t158 x9_1).f0) ≤ x8_1) = false := decide_eq_false c11
                clear c11
                (first | rw [c11b0] | rw [c11b1] | (simp only [i64_w, i32_w]; rw [c11b0]) | skip)
                by_cases c12 : ((rd_T33 t158 x9_1).f0) > (t165.length : Int)
                · rw [if_pos c12] at H
                  have c12b0 : decide ((t165.length : Int) < ((rd_T33 t158 x9_1).f0)) = true := decide_eq_true c12
                  clear c12
                  have H' := Aside0.mk H
                  clear H
                  have p170 : 0 ≤ (x9_1 : Int) := of_decide_eq_true (by first | (with_reducible assumption) | assumption)
                  have q170 : x9_1 < (t158.length : Int) := of_decide_eq_true (by first | (with_reducible assumption) | assumption)
                  obtain ⟨ad170, e170, hx170_0, hx170_1, hx170_2⟩ := at_T33 (Kd.R_reads' HO_3.out).2.2 x9_1 p170 q170
                  obtain rfl : ad169 = ad170 := (by injection e170)
                  replace p170 := eq_true p170
                  replace q170 := eq_true q170
                  have p171 : 0 ≤ (x9_1 : Int) := of_decide_eq_true (by first | (with_reducible assumption) | assumption)
                  have q171 : x9_1 < (t158.length : Int) := of_decide_eq_true (by first | (with_reducible assumption) | assumption)
                  obtain ⟨ad171, e171, hx171_0, hx171_1, hx171_2⟩ := at_T33 (Kd.R_reads' HO_3.out).2.2 x9_1 p171 q171
                  obtain rfl : ad169 = ad171 := (by injection e171)
                  replace p171 := eq_true p171
                  replace q171 := eq_true q171
                  obtain ⟨Ao13, co13, eo13⟩ := Kd.R_slice HO_7.out
                  subst eo13
                  go_wp2
                  repeat (go_quiet (fail); try go_wp2)
                  go_meet
                  case rel => exact ⟨_, (true), (by first | rfl | (simp; done) | (simp [*]; done)), H', ⟨by have := HK1.out; first | omega | exact Nat.le_refl _⟩, ⟨by (with_reducible repeat (first | apply Kd.R_alloc | apply Kd.R_drewN | apply Kd.R_drew)); exact HO_3.out⟩, ⟨by (with_reducible repeat (first | apply Kd.R_alloc | apply Kd.R_drewN | apply Kd.R_drew)); exact HO_7.out⟩, ⟨by repeat (first | (with_reducible first | exact HB.out | apply below_alloc | apply pw_below_drewN | apply below_drew1) | exact HB.out)⟩⟩
                · rw [if_neg c12] at H
                  have c12b0 : decide ((t165.length : Int) < ((rd_T33 t158 x9_1).f0)) = false := decide_eq_false c12
                  clear c12
                  by_cases c14 : ((rd_T33 t158 x9_1).f2).toList = ([] : List UInt8)
                  · rw [if_pos c14] at H
                    have c14b0 : (((rd_T33 t158 x9_1).f2).toList == ([] : List UInt8)) = true := beq_iff_eq.mpr c14
                    have c14b1 : (((rd_T33 t158 x9_1).f2).toList != ([] : List UInt8)) = false := bne_eq_false_iff_eq.mpr c14
                    clear c14
                    have H' := Aside0.mk H
                    clear H
                    have p170 : 0 ≤ (x9_1 : Int) := of_decide_eq_true (by first | (with_reducible assumption) | assumption)
                    have q170 : x9_1 < (t158.length : Int) := of_decide_eq_true (by first | (with_reducible assumption) | assumption)
                    obtain ⟨ad170, e170, hx170_0, hx170_1, hx170_2⟩ := at_T33 (Kd.R_reads' HO_3.out).2.2 x9_1 p170 q170
                    obtain rfl : ad169 = ad170 := (by injection e170)
                    replace p170 := eq_true p170
                    replace q170 := eq_true q170
                    have p171 : 0 ≤ (x9_1 : Int) := of_decide_eq_true (by first | (with_reducible assumption) | assumption)
                    have q171 : x9_1 < (t158.length : Int) := of_decide_eq_true (by first | (with_reducible assumption) | assumption)
                    obtain ⟨ad171, e171, hx171_0, hx171_1, hx171_2⟩ := at_T33 (Kd.R_reads' HO_3.out).2.2 x9_1 p171 q171
                    obtain rfl : ad169 = ad171 := (by injection e171)
                    replace p171 := eq_true p171
                    replace q171 := eq_true q171
                    obtain ⟨Ao15, co15, eo15⟩ := Kd.R_slice HO_7.out
                    subst eo15
                    go_wp2
                    repeat (go_quiet (fail); try go_wp2)
                    go_meet
                    case rel => exact ⟨_, (true), (by first | rfl | (simp; done) | (simp [*]; done)), H', ⟨by have := HK1.out; first | omega | exact Nat.le_refl _⟩, ⟨by (with_reducible repeat (first | apply Kd.R_alloc | apply Kd.R_drewN | apply Kd.R_drew)); exact HO_3.out⟩, ⟨by (with_reducible repeat (first | apply Kd.R_alloc | apply Kd.R_drewN | apply Kd.R_drew)); exact HO_7.out⟩, ⟨by repeat (first | (with_reducible first | exact HB.out | apply below_alloc | apply pw_below_drewN | apply below_drew1) | exact HB.out)⟩⟩
                  · rw [if_neg c14] at H
                    have c14b0 : (((rd_T33 t158 x9_1).f2).toList == ([] : List UInt8)) = false := beq_eq_false_iff_ne.mpr c14
                    have c14b1 : (((rd_T33 t158 x9_1).f2).toList != ([] : List UInt8)) = true := bne_iff_ne.mpr c14
                    by_cases c16 : 0 < (((rd_T33 t158 x9_1).f2).size : Int)
                    · rw [if_pos c16] at H
                      have c16b0 : decide (0 < (((rd_T33 t158 x9_1).f2).size : Int)) = true := decide_eq_true c16
                      have c16b1 : decide (0 < ((rd_T33 t158 x9_1).f2).size) = true := decide_eq_true (by omega)
                      clear c16
                      by_cases c18 : (bt ((rd_T33 t158 x9_1).f2) 0) = 32
                      · rw [if_pos c18] at H
                        have c18b0 : ((bt ((rd_T33 t158 x9_1).f2) 0) == 32) = true := beq_iff_eq.mpr c18
                        have c18b1 : ((bt ((rd_T33 t158 x9_1).f2) 0) != 32) = false := bne_eq_false_iff_eq.mpr c18
                        clear c18
                        have H' := Aside0.mk H
                        clear H
                        have p170 : 0 ≤ (x9_1 : Int) := of_decide_eq_true (by first | (with_reducible assumption) | assumption)
                        have q170 : x9_1 < (t158.length : Int) := of_decide_eq_true (by first | (with_reducible assumption) | assumption)
                        obtain ⟨ad170, e170, hx170_0, hx170_1, hx170_2⟩ := at_T33 (Kd.R_reads' HO_3.out).2.2 x9_1 p170 q170
                        obtain rfl : ad169 = ad170 := (by injection e170)
                        replace p170 := eq_true p170
                        replace q170 := eq_true q170
                        have p171 : 0 ≤ (x9_1 : Int) := of_decide_eq_true (by first | (with_reducible assumption) | assumption)
                        have q171 : x9_1 < (t158.length : Int) := of_decide_eq_true (by first | (with_reducible assumption) | assumption)
                        obtain ⟨ad171, e171, hx171_0, hx171_1, hx171_2⟩ := at_T33 (Kd.R_reads' HO_3.out).2.2 x9_1 p171 q171
                        obtain rfl : ad169 = ad171 := (by injection e171)
                        replace p171 := eq_true p171
                        replace q171 := eq_true q171
                        obtain ⟨Ao19, co19, eo19⟩ := Kd.R_slice HO_7.out
                        subst eo19
                        have p17 : 0 ≤ (0 : Int) := (by omega)
                        have q17 : 0 < ((rd_T33 t158 x9_1).f2).size := (by have : (0 : Int) < (((rd_T33 t158 x9_1).f2).size : Int) := of_decide_eq_true (by first | (with_reducible assumption) | assumption); omega)
                        have hx17 : ∀ h : 0 < ((rd_T33 t158 x9_1).f2).size, ((((rd_T33 t158 x9_1).f2)[0]'h).toNat : Int) = bt ((rd_T33 t158 x9_1).f2) 0 := bt_at ((rd_T33 t158 x9_1).f2) 0
                        clear p17
                        have qi17 : (0 < (((rd_T33 t158 x9_1).f2).size : Int)) = True := eq_true (of_decide_eq_true (by first | (with_reducible assumption) | assumption))
                        replace q17 := eq_true q17
                        go_wp2
                        repeat (go_quiet (fail); try go_wp2)
                        go_meet
                        case rel => exact ⟨_, (true), (by first | rfl | (simp; done) | (simp [*]; done)), H', ⟨by have := HK1.out; first | omega | exact Nat.le_refl _⟩, ⟨by (with_reducible repeat (first | apply Kd.R_alloc | apply Kd.R_drewN | apply Kd.R_drew)); exact HO_3.out⟩, ⟨by (with_reducible repeat (first | apply Kd.R_alloc | apply Kd.R_drewN | apply Kd.R_drew)); exact HO_7.out⟩, ⟨by repeat (first | (with_reducible first | exact HB.out | apply below_alloc | apply pw_below_drewN | apply below_drew1) | exact HB.out)⟩⟩
                      · rw [if_neg c18] at H
                        have c18b0 : ((bt ((rd_T33 t158 x9_1).f2) 0) == 32) = false := beq_eq_false_iff_ne.mpr c18
                        have c18b1 : ((bt ((rd_T33 t158 x9_1).f2) 0) != 32) = true := bne_iff_ne.mpr c18
                        by_cases c21 : (bt ((rd_T33 t158 x9_1).f2) 0) = 35
                        · rw [if_pos c21] at H
                          have c21b0 : ((bt ((rd_T33 t158 x9_1).f2) 0) == 35) = true := beq_iff_eq.mpr c21
                          have c21b1 : ((bt ((rd_T33 t158 x9_1).f2) 0) != 35) = false := bne_eq_false_iff_eq.mpr c21
                          clear c21
                          have H' := Aside0.mk H
                          clear H
                          have p170 : 0 ≤ (x9_1 : Int) := of_decide_eq_true (by first | (with_reducible assumption) | assumption)
                          have q170 : x9_1 < (t158.length : Int) := of_decide_eq_true (by first | (with_reducible assumption) | assumption)
                          obtain ⟨ad170, e170, hx170_0, hx170_1, hx170_2⟩ := at_T33 (Kd.R_reads' HO_3.out).2.2 x9_1 p170 q170
                          obtain rfl : ad169 = ad170 := (by injection e170)
                          replace p170 := eq_true p170
                          replace q170 := eq_true q170
                          have p171 : 0 ≤ (x9_1 : Int) := of_decide_eq_true (by first | (with_reducible assumption) | assumption)
                          have q171 : x9_1 < (t158.length : Int) := of_decide_eq_true (by first | (with_reducible assumption) | assumption)
                          obtain ⟨ad171, e171, hx171_0, hx171_1, hx171_2⟩ := at_T33 (Kd.R_reads' HO_3.out).2.2 x9_1 p171 q171
                          obtain rfl : ad169 = ad171 := (by injection e171)
                          replace p171 := eq_true p171
                          replace q171 := eq_true q171
                          obtain ⟨Ao22, co22, eo22⟩ := Kd.R_slice HO_7.out
                          subst eo22
                          have p17 : 0 ≤ (0 : Int) := (by omega)
                          have q17 : 0 < ((rd_T33 t158 x9_1).f2).size := (by have : (0 : Int) < (((rd_T33 t158 x9_1).f2).size : Int) := of_decide_eq_true (by first | (with_reducible assumption) | assumption); omega)
                          have hx17 : ∀ h : 0 < ((rd_T33 t158 x9_1).f2).size, ((((rd_T33 t158 x9_1).f2)[0]'h).toNat : Int) = bt ((rd_T33 t158 x9_1).f2) 0 := bt_at ((rd_T33 t158 x9_1).f2) 0
                          clear p17
                          have qi17 : (0 < (((rd_T33 t158 x9_1).f2).size : Int)) = True := eq_true (of_decide_eq_true (by first | (with_reducible assumption) | assumption))
                          replace q17 := eq_true q17
                          have p20 : 0 ≤ (0 : Int) := (by omega)
                          have q20 : 0 < ((rd_T33 t158 x9_1).f2).size := (by have : (0 : Int) < (((rd_T33 t158 x9_1).f2).size : Int) := of_decide_eq_true (by first | (with_reducible assumption) | assumption); omega)
                          have hx20 : ∀ h : 0 < ((rd_T33 t158 x9_1).f2).size, ((((rd_T33 t158 x9_1).f2)[0]'h).toNat : Int) = bt ((rd_T33 t158 x9_1).f2) 0 := bt_at ((rd_T33 t158 x9_1).f2) 0
                          clear p20
                          have qi20 : (0 < (((rd_T33 t158 x9_1).f2).size : Int)) = True := eq_true (of_decide_eq_true (by first | (with_reducible assumption) | assumption))
                          replace q20 := eq_true q20
                          go_wp2
                          repeat (go_quiet (fail); try go_wp2)
                          go_meet
                          case rel => exact ⟨_, (true), (by first | rfl | (simp; done) | (simp [*]; done)), H', ⟨by have := HK1.out; first | omega | exact Nat.le_refl _⟩, ⟨by (with_reducible repeat (first | apply Kd.R_alloc | apply Kd.R_drewN | apply Kd.R_drew)); exact HO_3.out⟩, ⟨by (with_reducible repeat (first | apply Kd.R_alloc | apply Kd.R_drewN | apply Kd.R_drew)); exact HO_7.out⟩, ⟨by repeat (first | (with_reducible first | exact HB.out | apply below_alloc | apply pw_below_drewN | apply below_drew1) | exact HB.out)⟩⟩
                        · rw [if_neg c21] at H
                          have c21b0 : ((bt ((rd_T33 t158 x9_1).f2) 0) == 35) = false := beq_eq_false_iff_ne.mpr c21
                          have c21b1 : ((bt ((rd_T33 t158 x9_1).f2) 0) != 35) = true := bne_iff_ne.mpr c21
                          obtain ⟨ji23, hji23⟩ : ∃ j_ : Int, (wrap64 ((((rd_T33 t158 x9_1).f2).size : Int) - 1)) = j_ := ⟨_, rfl⟩
                          replace H : (if 0 ≤ (ji23) then (if (ji23) < (((rd_T33 t158 x9_1).f2).size : Int) then (if (bt ((rd_T33 t158 x9_1).f2) (ji23)) = 32 then (shuttlelaw1_TextSays.j1 k1 t158 t165 x9_1 ((rd_T33 t158 x9_1).f2) true) else (shuttlelaw1_TextSays.j1 k1 t158 t165 x9_1 ((rd_T33 t158 x9_1).f2) (decide (((rd_T33 t158 x9_1).f1) < 0)))) else (none)) else (none)) = some r := by first | (rw [hji23] at H; exact H) | (simp only [hji23] at H ⊢; exact H)
                          have hji23w : (IntKind.i64.wrap ((((rd_T33 t158 x9_1).f2).size : Int) - 1)) = ji23 := (i64_w _).trans hji23
                          by_cases c24 : 0 ≤ (ji23)
                          · rw [if_pos c24] at H
                            have c24b0 : decide (0 ≤ (ji23)) = true := decide_eq_true c24
                            clear c24
                            by_cases c25 : (ji23) < (((rd_T33 t158 x9_1).f2).size : Int)
                            · rw [if_pos c25] at H
                              have c25b0 : decide ((ji23) < (((rd_T33 t158 x9_1).f2).size : Int)) = true := decide_eq_true c25
                              clear c25
                              by_cases c27 : (bt ((rd_T33 t158 x9_1).f2) (ji23)) = 32
                              · rw [if_pos c27] at H
                                have c27b0 : ((bt ((rd_T33 t158 x9_1).f2) (ji23)) == 32) = true := beq_iff_eq.mpr c27
                                have c27b1 : ((bt ((rd_T33 t158 x9_1).f2) (ji23)) != 32) = false := bne_eq_false_iff_eq.mpr c27
                                clear c27
                                have H' := Aside0.mk H
                                clear H
                                have p170 : 0 ≤ (x9_1 : Int) := of_decide_eq_true (by first | (with_reducible assumption) | assumption)
                                have q170 : x9_1 < (t158.length : Int) := of_decide_eq_true (by first | (with_reducible assumption) | assumption)
                                obtain ⟨ad170, e170, hx170_0, hx170_1, hx170_2⟩ := at_T33 (Kd.R_reads' HO_3.out).2.2 x9_1 p170 q170
                                obtain rfl : ad169 = ad170 := (by injection e170)
                                replace p170 := eq_true p170
                                replace q170 := eq_true q170
                                have p171 : 0 ≤ (x9_1 : Int) := of_decide_eq_true (by first | (with_reducible assumption) | assumption)
                                have q171 : x9_1 < (t158.length : Int) := of_decide_eq_true (by first | (with_reducible assumption) | assumption)
                                obtain ⟨ad171, e171, hx171_0, hx171_1, hx171_2⟩ := at_T33 (Kd.R_reads' HO_3.out).2.2 x9_1 p171 q171
                                obtain rfl : ad169 = ad171 := (by injection e171)
                                replace p171 := eq_true p171
                                replace q171 := eq_true q171
                                obtain ⟨Ao28, co28, eo28⟩ := Kd.R_slice HO_7.out
                                subst eo28
                                have p17 : 0 ≤ (0 : Int) := (by omega)
                                have q17 : 0 < ((rd_T33 t158 x9_1).f2).size := (by have : (0 : Int) < (((rd_T33 t158 x9_1).f2).size : Int) := of_decide_eq_true (by first | (with_reducible assumption) | assumption); omega)
                                have hx17 : ∀ h : 0 < ((rd_T33 t158 x9_1).f2).size, ((((rd_T33 t158 x9_1).f2)[0]'h).toNat : Int) = bt ((rd_T33 t158 x9_1).f2) 0 := bt_at ((rd_T33 t158 x9_1).f2) 0
                                clear p17
                                have qi17 : (0 < (((rd_T33 t158 x9_1).f2).size : Int)) = True := eq_true (of_decide_eq_true (by first | (with_reducible assumption) | assumption))
                                replace q17 := eq_true q17
                                have p20 : 0 ≤ (0 : Int) := (by omega)
                                have q20 : 0 < ((rd_T33 t158 x9_1).f2).size := (by have : (0 : Int) < (((rd_T33 t158 x9_1).f2).size : Int) := of_decide_eq_true (by first | (with_reducible assumption) | assumption); omega)
                                have hx20 : ∀ h : 0 < ((rd_T33 t158 x9_1).f2).size, ((((rd_T33 t158 x9_1).f2)[0]'h).toNat : Int) = bt ((rd_T33 t158 x9_1).f2) 0 := bt_at ((rd_T33 t158 x9_1).f2) 0
                                clear p20
                                have qi20 : (0 < (((rd_T33 t158 x9_1).f2).size : Int)) = True := eq_true (of_decide_eq_true (by first | (with_reducible assumption) | assumption))
                                replace q20 := eq_true q20
                                have p26 : 0 ≤ ((ji23) : Int) := of_decide_eq_true (by first | (with_reducible assumption) | assumption)
                                have q26 : (ji23) < (((rd_T33 t158 x9_1).f2).size : Int) := of_decide_eq_true (by first | (with_reducible assumption) | assumption)
                                have hx26 := bt_at ((rd_T33 t158 x9_1).f2) (ji23)
                                replace p26 := eq_true p26
                                replace q26 := eq_true q26
                                go_wp2
                                repeat (go_quiet (fail); try go_wp2)
                                go_meet
                                case rel => exact ⟨_, (true), (by first | rfl | (simp; done) | (simp [*]; done)), H', ⟨by have := HK1.out; first | omega | exact Nat.le_refl _⟩, ⟨by (with_reducible repeat (first | apply Kd.R_alloc | apply Kd.R_drewN | apply Kd.R_drew)); exact HO_3.out⟩, ⟨by (with_reducible repeat (first | apply Kd.R_alloc | apply Kd.R_drewN | apply Kd.R_drew)); exact HO_7.out⟩, ⟨by repeat (first | (with_reducible first | exact HB.out | apply below_alloc | apply pw_below_drewN | apply below_drew1) | exact HB.out)⟩⟩
                              · rw [if_neg c27] at H
                                have c27b0 : ((bt ((rd_T33 t158 x9_1).f2) (ji23)) == 32) = false := beq_eq_false_iff_ne.mpr c27
                                have c27b1 : ((bt ((rd_T33 t158 x9_1).f2) (ji23)) != 32) = true := bne_iff_ne.mpr c27
                                have H' := Aside0.mk H
                                clear H
                                have p170 : 0 ≤ (x9_1 : Int) := of_decide_eq_true (by first | (with_reducible assumption) | assumption)
                                have q170 : x9_1 < (t158.length : Int) := of_decide_eq_true (by first | (with_reducible assumption) | assumption)
                                obtain ⟨ad170, e170, hx170_0, hx170_1, hx170_2⟩ := at_T33 (Kd.R_reads' HO_3.out).2.2 x9_1 p170 q170
                                obtain rfl : ad169 = ad170 := (by injection e170)
                                replace p170 := eq_true p170
                                replace q170 := eq_true q170
                                have p171 : 0 ≤ (x9_1 : Int) := of_decide_eq_true (by first | (with_reducible assumption) | assumption)
                                have q171 : x9_1 < (t158.length : Int) := of_decide_eq_true (by first | (with_reducible assumption) | assumption)
                                obtain ⟨ad171, e171, hx171_0, hx171_1, hx171_2⟩ := at_T33 (Kd.R_reads' HO_3.out).2.2 x9_1 p171 q171
                                obtain rfl : ad169 = ad171 := (by injection e171)
                                replace p171 := eq_true p171
                                replace q171 := eq_true q171
                                obtain ⟨Ao29, co29, eo29⟩ := Kd.R_slice HO_7.out
                                subst eo29
                                have p17 : 0 ≤ (0 : Int) := (by omega)
                                have q17 : 0 < ((rd_T33 t158 x9_1).f2).size := (by have : (0 : Int) < (((rd_T33 t158 x9_1).f2).size : Int) := of_decide_eq_true (by first | (with_reducible assumption) | assumption); omega)
                                have hx17 : ∀ h : 0 < ((rd_T33 t158 x9_1).f2).size, ((((rd_T33 t158 x9_1).f2)[0]'h).toNat : Int) = bt ((rd_T33 t158 x9_1).f2) 0 := bt_at ((rd_T33 t158 x9_1).f2) 0
                                clear p17
                                have qi17 : (0 < (((rd_T33 t158 x9_1).f2).size : Int)) = True := eq_true (of_decide_eq_true (by first | (with_reducible assumption) | assumption))
                                replace q17 := eq_true q17
                                have p20 : 0 ≤ (0 : Int) := (by omega)
                                have q20 : 0 < ((rd_T33 t158 x9_1).f2).size := (by have : (0 : Int) < (((rd_T33 t158 x9_1).f2).size : Int) := of_decide_eq_true (by first | (with_reducible assumption) | assumption); omega)
                                have hx20 : ∀ h : 0 < ((rd_T33 t158 x9_1).f2).size, ((((rd_T33 t158 x9_1).f2)[0]'h).toNat : Int) = bt ((rd_T33 t158 x9_1).f2) 0 := bt_at ((rd_T33 t158 x9_1).f2) 0
                                clear p20
                                have qi20 : (0 < (((rd_T33 t158 x9_1).f2).size : Int)) = True := eq_true (of_decide_eq_true (by first | (with_reducible assumption) | assumption))
                                replace q20 := eq_true q20
                                have p26 : 0 ≤ ((ji23) : Int) := of_decide_eq_true (by first | (with_reducible assumption) | assumption)
                                have q26 : (ji23) < (((rd_T33 t158 x9_1).f2).size : Int) := of_decide_eq_true (by first | (with_reducible assumption) | assumption)
                                have hx26 := bt_at ((rd_T33 t158 x9_1).f2) (ji23)
                                replace p26 := eq_true p26
                                replace q26 := eq_true q26
                                have p172 : 0 ≤ (x9_1 : Int) := of_decide_eq_true (by first | (with_reducible assumption) | assumption)
                                have q172 : x9_1 < (t158.length : Int) := of_decide_eq_true (by first | (with_reducible assumption) | assumption)
                                obtain ⟨ad172, e172, hx172_0, hx172_1, hx172_2⟩ := at_T33 (Kd.R_reads' HO_3.out).2.2 x9_1 p172 q172
                                obtain rfl : ad169 = ad172 := (by injection e172)
                                replace p172 := eq_true p172
                                replace q172 := eq_true q172
                                go_wp2
                                repeat (go_quiet (fail); try go_wp2)
                                go_meet
                                case rel => exact ⟨_, (decide (((rd_T33 t158 x9_1).f1) < 0)), (by first | rfl | (simp; done) | (simp [*]; done)), H', ⟨by have := HK1.out; first | omega | exact Nat.le_refl _⟩, ⟨by (with_reducible repeat (first | apply Kd.R_alloc | apply Kd.R_drewN | apply Kd.R_drew)); exact HO_3.out⟩, ⟨by (with_reducible repeat (first | apply Kd.R_alloc | apply Kd.R_drewN | apply Kd.R_drew)); exact HO_7.out⟩, ⟨by repeat (first | (with_reducible first | exact HB.out | apply below_alloc | apply pw_below_drewN | apply below_drew1) | exact HB.out)⟩⟩
                            · rw [if_neg c25] at H
                              exact absurd H (by simp)
                          · rw [if_neg c24] at H
                            exact absurd H (by simp)
                    · rw [if_neg c16] at H
                      exact absurd H (by simp)
            case rest =>
              clear HC9
              try clear c1
              try clear p1
              try clear q1
              try clear hx1
              try clear qi1
              try clear c2
              try clear p2
              try clear q2
              try clear hx2
              try clear qi2
              try clear c3
              try clear c3b0
              try clear c3b1
              try clear c4
              try clear p6
              try clear c7
              try clear c7b0
              try clear c8
              try clear c8b0
              try clear c11
              try clear c11b0
              try clear c12
              try clear c12b0
              try clear c14
              try clear c14b0
              try clear c14b1
              try clear c16
              try clear c16b0
              try clear c16b1
              try clear p16
              try clear q16
              try clear hx16
              try clear p17
              try clear q17
              try clear hx17
              try clear qi17
              try clear c18
              try clear c18b0
              try clear c18b1
              try clear p20
              try clear q20
              try clear hx20
              try clear qi20
              try clear c21
              try clear c21b0
              try clear c21b1
              try clear c24
              try clear c24b0
              try clear c25
              try clear c25b0
              try clear p26
              try clear q26
              try clear hx26
              try clear c27
              try clear c27b0
              try clear c27b1
              try clear hx169_0
              try clear hx169_1
              try clear hx169_2
              try clear hx170_0
              try clear hx170_1
              try clear hx170_2
              try clear hx171_0
              try clear hx171_1
              try clear hx171_2
              try clear hx172_0
              try clear hx172_1
              try clear hx172_2
              try clear p169
              try clear p17
              try clear p170
              try clear p171
              try clear p172
              try clear p2
              try clear p20
              try clear p26
              try clear q169
              try clear q17
              try clear q170
              try clear q171
              try clear q172
              try clear q20
              try clear q26
              obtain ⟨kq, x87_8, rfl, HA, HJ8, HO_3, HO_7, HB⟩ := hcut
              cases kq with
              | zero => exact absurd HA.out (by simp [shuttlelaw1_TextSays.j1])
              | succ kj8 =>
                have H := HA.out
                clear HA
                simp only [shuttlelaw1_TextSays.j1] at H
                by_cases c30 : x87_8 = true
                · subst c30
                  have H1 : (some false) = some r := by rw [if_pos rfl] at H; exact H
                  clear H
                  have H := H1
                  clear H1
                  obtain rfl := Option.some.inj H
                  go_wp2
                  repeat (go_quiet (fail); try go_wp2)
                  go_ret
                  exact ⟨by first | rfl | (simp [errW_none, errW_some] <;> rfl) | (simp [*, errW_none, errW_some] <;> rfl), by repeat (first | (with_reducible first | exact HB.out | apply below_alloc | apply pw_below_drewN | apply below_drew1) | exact HB.out)⟩
                · replace c30 := Bool.eq_false_iff.mpr c30
                  subst c30
                  have H1 : (if 0 ≤ x9_1 then (if x9_1 < (t158.length : Int) then (if 0 ≤ (wrap64 (((rd_T33 t158 x9_1).f0) - 1)) then (if (wrap64 (((rd_T33 t158 x9_1).f0) - 1)) < (t165.length : Int) then (if ((rdOf ByteArray.empty t165 (wrap64 (((rd_T33 t158 x9_1).f0) - 1))).size : Int) < (wrap64 (((rd_T33 t158 x9_1).f1) + (((rd_T33 t158 x9_1).f2).size : Int))) then (shuttlelaw1_TextSays.j2 kj8 t158 t165 ((rd_T33 t158 x9_1).f0) x9_1 ((rd_T33 t158 x9_1).f2) (rdOf ByteArray.empty t165 (wrap64 (((rd_T33 t158 x9_1).f0) - 1))) true) else (if 0 ≤ ((rd_T33 t158 x9_1).f1) then (if ((rd_T33 t158 x9_1).f1) ≤ (wrap64 (((rd_T33 t158 x9_1).f1) + (((rd_T33 t158 x9_1).f2).size : Int))) then (if (wrap64 (((rd_T33 t158 x9_1).f1) + (((rd_T33 t158 x9_1).f2).size : Int))) ≤ ((rdOf ByteArray.empty t165 (wrap64 (((rd_T33 t158 x9_1).f0) - 1))).size : Int) then (shuttlelaw1_TextSays.j2 kj8 t158 t165 ((rd_T33 t158 x9_1).f0) x9_1 ((rd_T33 t158 x9_1).f2) (rdOf ByteArray.empty t165 (wrap64 (((rd_T33 t158 x9_1).f0) - 1))) (((rdOf ByteArray.empty t165 (wrap64 (((rd_T33 t158 x9_1).f0) - 1))).extract (((rd_T33 t158 x9_1).f1) : Int).toNat ((wrap64 (((rd_T33 t158 x9_1).f1) + (((rd_T33 t158 x9_1).f2).size : Int))) : Int).toNat).toList != ((rd_T33 t158 x9_1).f2).toList)) else (none)) else (none)) else (none))) else (none)) else (none)) else (none)) else (none)) = some r := by rw [if_neg (show ¬ (false = true) by decide)] at H; exact H
                  clear H
                  have H := H1
                  clear H1
                  by_cases c31 : 0 ≤ x9_1
                  · rw [if_pos c31] at H
                    have c31b0 : decide (0 ≤ x9_1) = true := decide_eq_true c31
                    clear c31
                    by_cases c32 : x9_1 < (t158.length : Int)
                    · rw [if_pos c32] at H
                      have c32b0 : decide (x9_1 < (t158.length : Int)) = true := decide_eq_true c32
                      clear c32
                      obtain ⟨ji33, hji33⟩ : ∃ j_ : Int, (wrap64 (((rd_T33 t158 x9_1).f0) - 1)) = j_ := ⟨_, rfl⟩
                      replace H : (if 0 ≤ (ji33) then (if (ji33) < (t165.length : Int) then (if ((rdOf ByteArray.empty t165 (ji33)).size : Int) < (wrap64 (((rd_T33 t158 x9_1).f1) + (((rd_T33 t158 x9_1).f2).size : Int))) then (shuttlelaw1_TextSays.j2 kj8 t158 t165 ((rd_T33 t158 x9_1).f0) x9_1 ((rd_T33 t158 x9_1).f2) (rdOf ByteArray.empty t165 (ji33)) true) else (if 0 ≤ ((rd_T33 t158 x9_1).f1) then (if ((rd_T33 t158 x9_1).f1) ≤ (wrap64 (((rd_T33 t158 x9_1).f1) + (((rd_T33 t158 x9_1).f2).size : Int))) then (if (wrap64 (((rd_T33 t158 x9_1).f1) + (((rd_T33 t158 x9_1).f2).size : Int))) ≤ ((rdOf ByteArray.empty t165 (ji33)).size : Int) then (shuttlelaw1_TextSays.j2 kj8 t158 t165 ((rd_T33 t158 x9_1).f0) x9_1 ((rd_T33 t158 x9_1).f2) (rdOf ByteArray.empty t165 (ji33)) (((rdOf ByteArray.empty t165 (ji33)).extract (((rd_T33 t158 x9_1).f1) : Int).toNat ((wrap64 (((rd_T33 t158 x9_1).f1) + (((rd_T33 t158 x9_1).f2).size : Int))) : Int).toNat).toList != ((rd_T33 t158 x9_1).f2).toList)) else (none)) else (none)) else (none))) else (none)) else (none)) = some r := by first | (rw [hji33] at H; exact H) | (simp only [hji33] at H ⊢; exact H)
                      have hji33w : (IntKind.i64.wrap (((rd_T33 t158 x9_1).f0) - 1)) = ji33 := (i64_w _).trans hji33
                      by_cases c34 : 0 ≤ (ji33)
                      · rw [if_pos c34] at H
                        have c34b0 : decide (0 ≤ (ji33)) = true := decide_eq_true c34
                        clear c34
                        by_cases c35 : (ji33) < (t165.length : Int)
                        · rw [if_pos c35] at H
                          have c35b0 : decide ((ji33) < (t165.length : Int)) = true := decide_eq_true c35
                          clear c35
                          have HC36 := Aside0.mk H
                          clear H
                          have p173 : 0 ≤ (x9_1 : Int) := of_decide_eq_true (by first | (with_reducible assumption) | assumption)
                          have q173 : x9_1 < (t158.length : Int) := of_decide_eq_true (by first | (with_reducible assumption) | assumption)
                          obtain ⟨ad173, e173, hx173_0, hx173_1, hx173_2⟩ := at_T33 (Kd.R_reads' HO_3.out).2.2 x9_1 p173 q173
                          obtain rfl : ad169 = ad173 := (by injection e173)
                          replace p173 := eq_true p173
                          replace q173 := eq_true q173
                          have p174 : 0 ≤ (x9_1 : Int) := of_decide_eq_true (by first | (with_reducible assumption) | assumption)
                          have q174 : x9_1 < (t158.length : Int) := of_decide_eq_true (by first | (with_reducible assumption) | assumption)
                          obtain ⟨ad174, e174, hx174_0, hx174_1, hx174_2⟩ := at_T33 (Kd.R_reads' HO_3.out).2.2 x9_1 p174 q174
                          obtain rfl : ad169 = ad174 := (by injection e174)
                          replace p174 := eq_true p174
                          replace q174 := eq_true q174
                          obtain ⟨Ao37, co37, eo37⟩ := Kd.R_slice HO_7.out
                          subst eo37
                          have p175 : 0 ≤ ((ji33) : Int) := of_decide_eq_true (by first | (with_reducible assumption) | assumption)
                          have q175 : (ji33) < (t165.length : Int) := of_decide_eq_true (by first | (with_reducible assumption) | assumption)
                          obtain ⟨ad175, e175, hx175_0⟩ := Kd.at_string (Kd.R_reads' HO_7.out).2.2 (ji33) p175 q175
                          cases e175
                          replace p175 := eq_true p175
                          replace q175 := eq_true q175
                          go_upto_region 14 with (fail)
                          repeat (go_quiet (fail); go_upto_region 14 with (fail))
                          go_cut [131] (fun v131 wc => ∃ (kq : Nat) (x131_35 : Bool), v131 = .bool x131_35 ∧ Aside0 (shuttlelaw1_TextSays.j2 kq t158 t165 ((rd_T33 t158 x9_1).f0) x9_1 ((rd_T33 t158 x9_1).f2) (rdOf ByteArray.empty t165 (ji33)) x131_35 = some r) ∧ Aside0 (kq ≤ kj8) ∧ Aside0 (Kd.R k33 33 wc w.heap.size (fun _ => True) (.slice (some ad169) t158.length co10) t158) ∧ Aside0 (Kd.R Kd.string 9 wc w.heap.size (fun _ => True) (.slice (some ad175) t165.length co37) t165) ∧ Aside0 (Below w.heap.size w wc))
                          case first =>
                            have H := HC36.out
                            clear HC36
                            by_cases c38 : ((rdOf ByteArray.empty t165 (ji33)).size : Int) < (wrap64 (((rd_T33 t158 x9_1).f1) + (((rd_T33 t158 x9_1).f2).size : Int)))
                            · rw [if_pos c38] at H
                              have c38b0 : decide (((rdOf ByteArray.empty t165 (ji33)).size : Int) < (wrap64 (((rd_T33 t158 x9_1).f1) + (((rd_T33 t158 x9_1).f2).size : Int)))) = true := decide_eq_true c38
                              clear c38
                              (first | rw [c38b0] | rw [c38b1] | (simp only [i64_w, i32_w]; rw [c38b0]) | skip)
                              have H' := Aside0.mk H
                              clear H
                              have p176 : 0 ≤ (x9_1 : Int) := of_decide_eq_true (by first | (with_reducible assumption) | assumption)
                              have q176 : x9_1 < (t158.length : Int) := of_decide_eq_true (by first | (with_reducible assumption) | assumption)
                              obtain ⟨ad176, e176, hx176_0, hx176_1, hx176_2⟩ := at_T33 (Kd.R_reads' HO_3.out).2.2 x9_1 p176 q176
                              obtain rfl : ad169 = ad176 := (by injection e176)
                              replace p176 := eq_true p176
                              replace q176 := eq_true q176
                              go_wp2
                              repeat (go_quiet (fail); try go_wp2)
                              go_meet
                              case rel => exact ⟨_, (true), (by first | rfl | (simp; done) | (simp [*]; done)), H', ⟨by have := HK1.out; have := HJ8.out; first | omega | exact Nat.le_refl _⟩, ⟨by (with_reducible repeat (first | apply Kd.R_alloc | apply Kd.R_drewN | apply Kd.R_drew)); exact HO_3.out⟩, ⟨by (with_reducible repeat (first | apply Kd.R_alloc | apply Kd.R_drewN | apply Kd.R_drew)); exact HO_7.out⟩, ⟨by repeat (first | (with_reducible first | exact HB.out | apply below_alloc | apply pw_below_drewN | apply below_drew1) | exact HB.out)⟩⟩
                            · rw [if_neg c38] at H
                              have c38b0 : decide (((rdOf ByteArray.empty t165 (ji33)).size : Int) < (wrap64 (((rd_T33 t158 x9_1).f1) + (((rd_T33 t158 x9_1).f2).size : Int)))) = false := decide_eq_false c38
                              clear c38
                              (first | rw [c38b0] | rw [c38b1] | (simp only [i64_w, i32_w]; rw [c38b0]) | skip)
                              by_cases c39 : 0 ≤ ((rd_T33 t158 x9_1).f1)
                              · rw [if_pos c39] at H
                                have c39b0 := eq_true c39
                                have c39b1 : decide (0 ≤ ((rd_T33 t158 x9_1).f1)) = true := decide_eq_true c39
                                clear c39
                                by_cases c40 : ((rd_T33 t158 x9_1).f1) ≤ (wrap64 (((rd_T33 t158 x9_1).f1) + (((rd_T33 t158 x9_1).f2).size : Int)))
                                · rw [if_pos c40] at H
                                  have c40b0 := eq_true c40
                                  have c40b1 : decide (((rd_T33 t158 x9_1).f1) ≤ (wrap64 (((rd_T33 t158 x9_1).f1) + (((rd_T33 t158 x9_1).f2).size : Int)))) = true := decide_eq_true c40
                                  by_cases c41 : (wrap64 (((rd_T33 t158 x9_1).f1) + (((rd_T33 t158 x9_1).f2).size : Int))) ≤ ((rdOf ByteArray.empty t165 (ji33)).size : Int)
                                  · rw [if_pos c41] at H
                                    have c41b0 := eq_true c41
                                    have c41b1 : decide ((wrap64 (((rd_T33 t158 x9_1).f1) + (((rd_T33 t158 x9_1).f2).size : Int))) ≤ ((rdOf ByteArray.empty t165 (ji33)).size : Int)) = true := decide_eq_true c41
                                    have H' := Aside0.mk H
                                    clear H
                                    have p176 : 0 ≤ (x9_1 : Int) := of_decide_eq_true (by first | (with_reducible assumption) | assumption)
                                    have q176 : x9_1 < (t158.length : Int) := of_decide_eq_true (by first | (with_reducible assumption) | assumption)
                                    obtain ⟨ad176, e176, hx176_0, hx176_1, hx176_2⟩ := at_T33 (Kd.R_reads' HO_3.out).2.2 x9_1 p176 q176
                                    obtain rfl : ad169 = ad176 := (by injection e176)
                                    replace p176 := eq_true p176
                                    replace q176 := eq_true q176
                                    have p177 : 0 ≤ (x9_1 : Int) := of_decide_eq_true (by first | (with_reducible assumption) | assumption)
                                    have q177 : x9_1 < (t158.length : Int) := of_decide_eq_true (by first | (with_reducible assumption) | assumption)
                                    obtain ⟨ad177, e177, hx177_0, hx177_1, hx177_2⟩ := at_T33 (Kd.R_reads' HO_3.out).2.2 x9_1 p177 q177
                                    obtain rfl : ad169 = ad177 := (by injection e177)
                                    replace p177 := eq_true p177
                                    replace q177 := eq_true q177
                                    have p178 : 0 ≤ (x9_1 : Int) := of_decide_eq_true (by first | (with_reducible assumption) | assumption)
                                    have q178 : x9_1 < (t158.length : Int) := of_decide_eq_true (by first | (with_reducible assumption) | assumption)
                                    obtain ⟨ad178, e178, hx178_0, hx178_1, hx178_2⟩ := at_T33 (Kd.R_reads' HO_3.out).2.2 x9_1 p178 q178
                                    obtain rfl : ad169 = ad178 := (by injection e178)
                                    replace p178 := eq_true p178
                                    replace q178 := eq_true q178
                                    go_wp2
                                    repeat (go_quiet (fail); try go_wp2)
                                    go_meet
                                    case rel => exact ⟨_, ((((rdOf ByteArray.empty t165 (ji33)).extract (((rd_T33 t158 x9_1).f1) : Int).toNat ((wrap64 (((rd_T33 t158 x9_1).f1) + (((rd_T33 t158 x9_1).f2).size : Int))) : Int).toNat).toList != ((rd_T33 t158 x9_1).f2).toList)), (by first | rfl | (simp; done) | (simp only [← hji33] <;> (first | rfl | simp)) | (simp [*]; done)), H', ⟨by have := HK1.out; have := HJ8.out; first | omega | exact Nat.le_refl _⟩, ⟨by (with_reducible repeat (first | apply Kd.R_alloc | apply Kd.R_drewN | apply Kd.R_drew)); exact HO_3.out⟩, ⟨by (with_reducible repeat (first | apply Kd.R_alloc | apply Kd.R_drewN | apply Kd.R_drew)); exact HO_7.out⟩, ⟨by repeat (first | (with_reducible first | exact HB.out | apply below_alloc | apply pw_below_drewN | apply below_drew1) | exact HB.out)⟩⟩
                                  · rw [if_neg c41] at H
                                    exact absurd H (by simp)
                                · rw [if_neg c40] at H
                                  exact absurd H (by simp)
                              · rw [if_neg c39] at H
                                exact absurd H (by simp)
                          case rest =>
                            clear HC36
                            try clear c1
                            try clear p1
                            try clear q1
                            try clear hx1
                            try clear qi1
                            try clear c2
                            try clear p2
                            try clear q2
                            try clear hx2
                            try clear qi2
                            try clear c3
                            try clear c3b0
                            try clear c3b1
                            try clear c4
                            try clear p6
                            try clear c7
                            try clear c7b0
                            try clear c8
                            try clear c8b0
                            try clear c11
                            try clear c11b0
                            try clear c12
                            try clear c12b0
                            try clear c14
                            try clear c14b0
                            try clear c14b1
                            try clear c16
                            try clear c16b0
                            try clear c16b1
                            try clear p16
                            try clear q16
                            try clear hx16
                            try clear p17
                            try clear q17
                            try clear hx17
                            try clear qi17
                            try clear c18
                            try clear c18b0
                            try clear c18b1
                            try clear p20
                            try clear q20
                            try clear hx20
                            try clear qi20
                            try clear c21
                            try clear c21b0
                            try clear c21b1
                            try clear c24
                            try clear c24b0
                            try clear c25
                            try clear c25b0
                            try clear p26
                            try clear q26
                            try clear hx26
                            try clear c27
                            try clear c27b0
                            try clear c27b1
                            try clear c30
                            try clear c31
                            try clear c31b0
                            try clear c32
                            try clear c32b0
                            try clear c34
                            try clear c34b0
                            try clear c35
                            try clear c35b0
                            try clear c38
                            try clear c38b0
                            try clear c39
                            try clear c39b0
                            try clear c39b1
                            try clear c40
                            try clear c40b0
                            try clear c40b1
                            try clear c41
                            try clear c41b0
                            try clear c41b1
                            try clear hx169_0
                            try clear hx169_1
                            try clear hx169_2
                            try clear hx170_0
                            try clear hx170_1
                            try clear hx170_2
                            try clear hx171_0
                            try clear hx171_1
                            try clear hx171_2
                            try clear hx172_0
                            try clear hx172_1
                            try clear hx172_2
                            try clear hx173_0
                            try clear hx173_1
                            try clear hx173_2
                            try clear hx174_0
                            try clear hx174_1
                            try clear hx174_2
                            try clear hx175_0
                            try clear hx176_0
                            try clear hx176_1
                            try clear hx176_2
                            try clear hx177_0
                            try clear hx177_1
                            try clear hx177_2
                            try clear hx178_0
                            try clear hx178_1
                            try clear hx178_2
                            try clear p1
                            try clear p16
                            try clear p169
                            try clear p17
                            try clear p170
                            try clear p171
                            try clear p172
                            try clear p173
                            try clear p174
                            try clear p175
                            try clear p176
                            try clear p177
                            try clear p178
                            try clear p2
                            try clear p20
                            try clear p26
                            try clear p6
                            try clear q1
                            try clear q16
                            try clear q169
                            try clear q17
                            try clear q170
                            try clear q171
                            try clear q172
                            try clear q173
                            try clear q174
                            try clear q175
                            try clear q176
                            try clear q177
                            try clear q178
                            try clear q2
                            try clear q20
                            try clear q26
                            obtain ⟨kq, x131_35, rfl, HA, HJ35, HO_3, HO_7, HB⟩ := hcut
                            cases kq with
                            | zero => exact absurd HA.out (by simp [shuttlelaw1_TextSays.j2])
                            | succ kj35 =>
                              have H := HA.out
                              clear HA
                              simp only [shuttlelaw1_TextSays.j2] at H
                              by_cases c42 : x131_35 = true
                              · subst c42
                                have H1 : (some false) = some r := by rw [if_pos rfl] at H; exact H
                                clear H
                                have H := H1
                                clear H1
                                obtain rfl := Option.some.inj H
                                go_wp2
                                repeat (go_quiet (fail); try go_wp2)
                                go_ret
                                exact ⟨by first | rfl | (simp [errW_none, errW_some] <;> rfl) | (simp only [← hji33]; first | rfl | (simp [errW_none, errW_some] <;> rfl)) | (simp [*, errW_none, errW_some] <;> rfl), by repeat (first | (with_reducible first | exact HB.out | apply below_alloc | apply pw_below_drewN | apply below_drew1) | exact HB.out)⟩
                              · replace c42 := Bool.eq_false_iff.mpr c42
                                subst c42
                                have H1 : (shuttlelaw1_TextSays.l1 kj35 t158 t165 ((rd_T33 t158 x9_1).f0) x9_1 ((rd_T33 t158 x9_1).f2) (rdOf ByteArray.empty t165 (ji33)) 0) = some r := by rw [if_neg (show ¬ (false = true) by decide)] at H; exact H
                                clear H
                                have H := H1
                                clear H1
                                have H' := Aside0.mk H
                                clear H
                                go_wp2
                                repeat (go_quiet (fail); try go_wp2)
                                go_loopg [12] kj35 (fun kq v12 w' => ∃ (x12_4 : Int), v12 = .int .i64 x12_4 ∧ Aside0 (shuttlelaw1_TextSays.l1 kq t158 t165 ((rd_T33 t158 x9_1).f0) x9_1 ((rd_T33 t158 x9_1).f2) (rdOf ByteArray.empty t165 (ji33)) x12_4 = some r) ∧ Aside0 (kq ≤ kj35) ∧ Aside0 (Kd.R k33 33 w' w.heap.size (fun _ => True) (.slice (some ad169) t158.length co10) t158) ∧ Aside0 (Kd.R Kd.string 9 w' w.heap.size (fun _ => True) (.slice (some ad175) t165.length co37) t165) ∧ Aside0 (Below w.heap.size w w'))
                                case atStart => exact ⟨(0), (by first | rfl | (simp; done) | (simp [*]; done)), H', ⟨Nat.le_refl _⟩, ⟨by (with_reducible repeat (first | apply Kd.R_alloc | apply Kd.R_drewN | apply Kd.R_drew)); exact HO_3.out⟩, ⟨by (with_reducible repeat (first | apply Kd.R_alloc | apply Kd.R_drewN | apply Kd.R_drew)); exact HO_7.out⟩, ⟨by repeat (first | (with_reducible first | exact HB.out | apply below_alloc | apply pw_below_drewN | apply below_drew1) | exact HB.out)⟩⟩
                                case round =>
                                  clear H'
                                  try clear c1
                                  try clear p1
                                  try clear q1
                                  try clear hx1
                                  try clear qi1
                                  try clear c2
                                  try clear p2
                                  try clear q2
                                  try clear hx2
                                  try clear qi2
                                  try clear c3
                                  try clear c3b0
                                  try clear c3b1
                                  try clear c4
                                  try clear p6
                                  try clear c7
                                  try clear c7b0
                                  try clear c8
                                  try clear c8b0
                                  try clear c11
                                  try clear c11b0
                                  try clear c12
                                  try clear c12b0
                                  try clear c14
                                  try clear c14b0
                                  try clear c14b1
                                  try clear c16
                                  try clear c16b0
                                  try clear c16b1
                                  try clear p16
                                  try clear q16
                                  try clear hx16
                                  try clear p17
                                  try clear q17
                                  try clear hx17
                                  try clear qi17
                                  try clear c18
                                  try clear c18b0
                                  try clear c18b1
                                  try clear p20
                                  try clear q20
                                  try clear hx20
                                  try clear qi20
                                  try clear c21
                                  try clear c21b0
                                  try clear c21b1
                                  try clear c24
                                  try clear c24b0
                                  try clear c25
                                  try clear c25b0
                                  try clear p26
                                  try clear q26
                                  try clear hx26
                                  try clear c27
                                  try clear c27b0
                                  try clear c27b1
                                  try clear c30
                                  try clear c31
                                  try clear c31b0
                                  try clear c32
                                  try clear c32b0
                                  try clear c34
                                  try clear c34b0
                                  try clear c35
                                  try clear c35b0
                                  try clear c38
                                  try clear c38b0
                                  try clear c39
                                  try clear c39b0
                                  try clear c39b1
                                  try clear c40
                                  try clear c40b0
                                  try clear c40b1
                                  try clear c41
                                  try clear c41b0
                                  try clear c41b1
                                  try clear c42
                                  try clear hx169_0
                                  try clear hx169_1
                                  try clear hx169_2
                                  try clear hx170_0
                                  try clear hx170_1
                                  try clear hx170_2
                                  try clear hx171_0
                                  try clear hx171_1
                                  try clear hx171_2
                                  try clear hx172_0
                                  try clear hx172_1
                                  try clear hx172_2
                                  try clear hx173_0
                                  try clear hx173_1
                                  try clear hx173_2
                                  try clear hx174_0
                                  try clear hx174_1
                                  try clear hx174_2
                                  try clear hx175_0
                                  try clear hx176_0
                                  try clear hx176_1
                                  try clear hx176_2
                                  try clear hx177_0
                                  try clear hx177_1
                                  try clear hx177_2
                                  try clear hx178_0
                                  try clear hx178_1
                                  try clear hx178_2
                                  try clear p1
                                  try clear p16
                                  try clear p169
                                  try clear p17
                                  try clear p170
                                  try clear p171
                                  try clear p172
                                  try clear p173
                                  try clear p174
                                  try clear p175
                                  try clear p176
                                  try clear p177
                                  try clear p178
                                  try clear p2
                                  try clear p20
                                  try clear p26
                                  try clear p6
                                  try clear q1
                                  try clear q16
                                  try clear q169
                                  try clear q17
                                  try clear q170
                                  try clear q171
                                  try clear q172
                                  try clear q173
                                  try clear q174
                                  try clear q175
                                  try clear q176
                                  try clear q177
                                  try clear q178
                                  try clear q2
                                  try clear q20
                                  try clear q26
                                  obtain ⟨x12_4, rfl, HA, HK4, HO_3, HO_7, HB⟩ := hrel
                                  cases gk with
                                  | zero => exact absurd HA.out (by simp [shuttlelaw1_TextSays.l1])
                                  | succ k4 =>
                                    have H := HA.out
                                    clear HA
                                    simp only [shuttlelaw1_TextSays.l1] at H
                                    by_cases c43 : x12_4 < ((rdOf ByteArray.empty t165 (ji33)).size : Int)
                                    · rw [if_pos c43] at H
                                      have c43b0 : decide (x12_4 < ((rdOf ByteArray.empty t165 (ji33)).size : Int)) = true := decide_eq_true c43
                                      clear c43
                                      by_cases c44 : 0 ≤ x9_1
                                      · rw [if_pos c44] at H
                                        have c44b0 : decide (0 ≤ x9_1) = true := decide_eq_true c44
                                        clear c44
                                        by_cases c45 : x9_1 < (t158.length : Int)
                                        · rw [if_pos c45] at H
                                          have c45b0 : decide (x9_1 < (t158.length : Int)) = true := decide_eq_true c45
                                          clear c45
                                          by_cases c46 : x12_4 < ((rd_T33 t158 x9_1).f1)
                                          · rw [if_pos c46] at H
                                            have c46b0 : decide (x12_4 < ((rd_T33 t158 x9_1).f1)) = true := decide_eq_true c46
                                            clear c46
                                            by_cases c47 : 0 ≤ x12_4
                                            · rw [if_pos c47] at H
                                              have c47b0 : decide (0 ≤ x12_4) = true := decide_eq_true c47
                                              clear c47
                                              by_cases c49 : (bt (rdOf ByteArray.empty t165 (ji33)) x12_4) = 32
                                              · rw [if_pos c49] at H
                                                have c49b0 : ((bt (rdOf ByteArray.empty t165 (ji33)) x12_4) == 32) = true := beq_iff_eq.mpr c49
                                                have c49b1 : ((bt (rdOf ByteArray.empty t165 (ji33)) x12_4) != 32) = false := bne_eq_false_iff_eq.mpr c49
                                                clear c49
                                                have H' := Aside0.mk H
                                                clear H
                                                have p179 : 0 ≤ (x9_1 : Int) := of_decide_eq_true (by first | (with_reducible assumption) | assumption)
                                                have q179 : x9_1 < (t158.length : Int) := of_decide_eq_true (by first | (with_reducible assumption) | assumption)
                                                obtain ⟨ad179, e179, hx179_0, hx179_1, hx179_2⟩ := at_T33 (Kd.R_reads' HO_3.out).2.2 x9_1 p179 q179
                                                obtain rfl : ad169 = ad179 := (by injection e179)
                                                replace p179 := eq_true p179
                                                replace q179 := eq_true q179
                                                have p48 : 0 ≤ (x12_4 : Int) := of_decide_eq_true (by first | (with_reducible assumption) | assumption)
                                                have q48 : x12_4 < ((rdOf ByteArray.empty t165 (ji33)).size : Int) := of_decide_eq_true (by first | (with_reducible assumption) | assumption)
                                                have hx48 := bt_at (rdOf ByteArray.empty t165 (ji33)) x12_4
                                                replace p48 := eq_true p48
                                                replace q48 := eq_true q48
                                                go_wp2
                                                repeat (go_quiet (fail); try go_wp2)
                                                go_roundg k4
                                                case measure => have := HK1.out; have := HJ8.out; have := HJ35.out; have := HK4.out; omega
                                                case rel => exact ⟨(wrap64 (x12_4 + 1)), (by first | rfl | (simp; done) | (simp [*]; done)), H', ⟨by have := HK1.out; have := HJ8.out; have := HJ35.out; have := HK4.out; omega⟩, ⟨by (with_reducible repeat (first | apply Kd.R_alloc | apply Kd.R_drewN | apply Kd.R_drew)); exact HO_3.out⟩, ⟨by (with_reducible repeat (first | apply Kd.R_alloc | apply Kd.R_drewN | apply Kd.R_drew)); exact HO_7.out⟩, ⟨by repeat (first | (with_reducible first | exact HB.out | apply below_alloc | apply pw_below_drewN | apply below_drew1) | exact HB.out)⟩⟩
                                              · rw [if_neg c49] at H
                                                have c49b0 : ((bt (rdOf ByteArray.empty t165 (ji33)) x12_4) == 32) = false := beq_eq_false_iff_ne.mpr c49
                                                have c49b1 : ((bt (rdOf ByteArray.empty t165 (ji33)) x12_4) != 32) = true := bne_iff_ne.mpr c49
                                                obtain rfl := Option.some.inj H
                                                have p179 : 0 ≤ (x9_1 : Int) := of_decide_eq_true (by first | (with_reducible assumption) | assumption)
                                                have q179 : x9_1 < (t158.length : Int) := of_decide_eq_true (by first | (with_reducible assumption) | assumption)
                                                obtain ⟨ad179, e179, hx179_0, hx179_1, hx179_2⟩ := at_T33 (Kd.R_reads' HO_3.out).2.2 x9_1 p179 q179
                                                obtain rfl : ad169 = ad179 := (by injection e179)
                                                replace p179 := eq_true p179
                                                replace q179 := eq_true q179
                                                have p48 : 0 ≤ (x12_4 : Int) := of_decide_eq_true (by first | (with_reducible assumption) | assumption)
                                                have q48 : x12_4 < ((rdOf ByteArray.empty t165 (ji33)).size : Int) := of_decide_eq_true (by first | (with_reducible assumption) | assumption)
                                                have hx48 := bt_at (rdOf ByteArray.empty t165 (ji33)) x12_4
                                                replace p48 := eq_true p48
                                                replace q48 := eq_true q48
                                                go_wp2
                                                repeat (go_quiet (fail); try go_wp2)
                                                go_ret
                                                exact ⟨by first | rfl | (simp [errW_none, errW_some] <;> rfl) | (simp only [← hji33]; first | rfl | (simp [errW_none, errW_some] <;> rfl)) | (simp [*, errW_none, errW_some] <;> rfl), by repeat (first | (with_reducible first | exact HB.out | apply below_alloc | apply pw_below_drewN | apply below_drew1) | exact HB.out)⟩
                                            · rw [if_neg c47] at H
                                              exact absurd H (by simp)
                                          · rw [if_neg c46] at H
                                            have c46b0 : decide (x12_4 < ((rd_T33 t158 x9_1).f1)) = false := decide_eq_false c46
                                            clear c46
                                            by_cases c50 : x12_4 ≥ (wrap64 (((rd_T33 t158 x9_1).f1) + (((rd_T33 t158 x9_1).f2).size : Int)))
                                            · rw [if_pos c50] at H
                                              have c50b0 : decide ((wrap64 (((rd_T33 t158 x9_1).f1) + (((rd_T33 t158 x9_1).f2).size : Int))) ≤ x12_4) = true := decide_eq_true c50
                                              clear c50
                                              by_cases c51 : 0 ≤ x12_4
                                              · rw [if_pos c51] at H
                                                have c51b0 : decide (0 ≤ x12_4) = true := decide_eq_true c51
                                                clear c51
                                                by_cases c53 : (bt (rdOf ByteArray.empty t165 (ji33)) x12_4) = 32
                                                · rw [if_pos c53] at H
                                                  have c53b0 : ((bt (rdOf ByteArray.empty t165 (ji33)) x12_4) == 32) = true := beq_iff_eq.mpr c53
                                                  have c53b1 : ((bt (rdOf ByteArray.empty t165 (ji33)) x12_4) != 32) = false := bne_eq_false_iff_eq.mpr c53
                                                  clear c53
                                                  have H' := Aside0.mk H
                                                  clear H
                                                  have p179 : 0 ≤ (x9_1 : Int) := of_decide_eq_true (by first | (with_reducible assumption) | assumption)
                                                  have q179 : x9_1 < (t158.length : Int) := of_decide_eq_true (by first | (with_reducible assumption) | assumption)
                                                  obtain ⟨ad179, e179, hx179_0, hx179_1, hx179_2⟩ := at_T33 (Kd.R_reads' HO_3.out).2.2 x9_1 p179 q179
                                                  obtain rfl : ad169 = ad179 := (by injection e179)
                                                  replace p179 := eq_true p179
                                                  replace q179 := eq_true q179
                                                  have p180 : 0 ≤ (x9_1 : Int) := of_decide_eq_true (by first | (with_reducible assumption) | assumption)
                                                  have q180 : x9_1 < (t158.length : Int) := of_decide_eq_true (by first | (with_reducible assumption) | assumption)
                                                  obtain ⟨ad180, e180, hx180_0, hx180_1, hx180_2⟩ := at_T33 (Kd.R_reads' HO_3.out).2.2 x9_1 p180 q180
                                                  obtain rfl : ad169 = ad180 := (by injection e180)
                                                  replace p180 := eq_true p180
                                                  replace q180 := eq_true q180
                                                  have p52 : 0 ≤ (x12_4 : Int) := of_decide_eq_true (by first | (with_reducible assumption) | assumption)
                                                  have q52 : x12_4 < ((rdOf ByteArray.empty t165 (ji33)).size : Int) := of_decide_eq_true (by first | (with_reducible assumption) | assumption)
                                                  have hx52 := bt_at (rdOf ByteArray.empty t165 (ji33)) x12_4
                                                  replace p52 := eq_true p52
                                                  replace q52 := eq_true q52
                                                  go_wp2
                                                  repeat (go_quiet (fail); try go_wp2)
                                                  go_roundg k4
                                                  case measure => have := HK1.out; have := HJ8.out; have := HJ35.out; have := HK4.out; omega
                                                  case rel => exact ⟨(wrap64 (x12_4 + 1)), (by first | rfl | (simp; done) | (simp [*]; done)), H', ⟨by have := HK1.out; have := HJ8.out; have := HJ35.out; have := HK4.out; omega⟩, ⟨by (with_reducible repeat (first | apply Kd.R_alloc | apply Kd.R_drewN | apply Kd.R_drew)); exact HO_3.out⟩, ⟨by (with_reducible repeat (first | apply Kd.R_alloc | apply Kd.R_drewN | apply Kd.R_drew)); exact HO_7.out⟩, ⟨by repeat (first | (with_reducible first | exact HB.out | apply below_alloc | apply pw_below_drewN | apply below_drew1) | exact HB.out)⟩⟩
                                                · rw [if_neg c53] at H
                                                  have c53b0 : ((bt (rdOf ByteArray.empty t165 (ji33)) x12_4) == 32) = false := beq_eq_false_iff_ne.mpr c53
                                                  have c53b1 : ((bt (rdOf ByteArray.empty t165 (ji33)) x12_4) != 32) = true := bne_iff_ne.mpr c53
                                                  obtain rfl := Option.some.inj H
                                                  have p179 : 0 ≤ (x9_1 : Int) := of_decide_eq_true (by first | (with_reducible assumption) | assumption)
                                                  have q179 : x9_1 < (t158.length : Int) := of_decide_eq_true (by first | (with_reducible assumption) | assumption)
                                                  obtain ⟨ad179, e179, hx179_0, hx179_1, hx179_2⟩ := at_T33 (Kd.R_reads' HO_3.out).2.2 x9_1 p179 q179
                                                  obtain rfl : ad169 = ad179 := (by injection e179)
                                                  replace p179 := eq_true p179
                                                  replace q179 := eq_true q179
                                                  have p180 : 0 ≤ (x9_1 : Int) := of_decide_eq_true (by first | (with_reducible assumption) | assumption)
                                                  have q180 : x9_1 < (t158.length : Int) := of_decide_eq_true (by first | (with_reducible assumption) | assumption)
                                                  obtain ⟨ad180, e180, hx180_0, hx180_1, hx180_2⟩ := at_T33 (Kd.R_reads' HO_3.out).2.2 x9_1 p180 q180
                                                  obtain rfl : ad169 = ad180 := (by injection e180)
                                                  replace p180 := eq_true p180
                                                  replace q180 := eq_true q180
                                                  have p52 : 0 ≤ (x12_4 : Int) := of_decide_eq_true (by first | (with_reducible assumption) | assumption)
                                                  have q52 : x12_4 < ((rdOf ByteArray.empty t165 (ji33)).size : Int) := of_decide_eq_true (by first | (with_reducible assumption) | assumption)
                                                  have hx52 := bt_at (rdOf ByteArray.empty t165 (ji33)) x12_4
                                                  replace p52 := eq_true p52
                                                  replace q52 := eq_true q52
                                                  go_wp2
                                                  repeat (go_quiet (fail); try go_wp2)
                                                  go_ret
                                                  exact ⟨by first | rfl | (simp [errW_none, errW_some] <;> rfl) | (simp only [← hji33]; first | rfl | (simp [errW_none, errW_some] <;> rfl)) | (simp [*, errW_none, errW_some] <;> rfl), by repeat (first | (with_reducible first | exact HB.out | apply below_alloc | apply pw_below_drewN | apply below_drew1) | exact HB.out)⟩
                                              · rw [if_neg c51] at H
                                                exact absurd H (by simp)
                                            · rw [if_neg c50] at H
                                              have c50b0 : decide ((wrap64 (((rd_T33 t158 x9_1).f1) + (((rd_T33 t158 x9_1).f2).size : Int))) ≤ x12_4) = false := decide_eq_false c50
                                              clear c50
                                              have H' := Aside0.mk H
                                              clear H
                                              have p179 : 0 ≤ (x9_1 : Int) := of_decide_eq_true (by first | (with_reducible assumption) | assumption)
                                              have q179 : x9_1 < (t158.length : Int) := of_decide_eq_true (by first | (with_reducible assumption) | assumption)
                                              obtain ⟨ad179, e179, hx179_0, hx179_1, hx179_2⟩ := at_T33 (Kd.R_reads' HO_3.out).2.2 x9_1 p179 q179
                                              obtain rfl : ad169 = ad179 := (by injection e179)
                                              replace p179 := eq_true p179
                                              replace q179 := eq_true q179
                                              have p180 : 0 ≤ (x9_1 : Int) := of_decide_eq_true (by first | (with_reducible assumption) | assumption)
                                              have q180 : x9_1 < (t158.length : Int) := of_decide_eq_true (by first | (with_reducible assumption) | assumption)
                                              obtain ⟨ad180, e180, hx180_0, hx180_1, hx180_2⟩ := at_T33 (Kd.R_reads' HO_3.out).2.2 x9_1 p180 q180
                                              obtain rfl : ad169 = ad180 := (by injection e180)
                                              replace p180 := eq_true p180
                                              replace q180 := eq_true q180
                                              go_wp2
                                              repeat (go_quiet (fail); try go_wp2)
                                              go_roundg k4
                                              case measure => have := HK1.out; have := HJ8.out; have := HJ35.out; have := HK4.out; omega
                                              case rel => exact ⟨(wrap64 (x12_4 + 1)), (by first | rfl | (simp; done) | (simp [*]; done)), H', ⟨by have := HK1.out; have := HJ8.out; have := HJ35.out; have := HK4.out; omega⟩, ⟨by (with_reducible repeat (first | apply Kd.R_alloc | apply Kd.R_drewN | apply Kd.R_drew)); exact HO_3.out⟩, ⟨by (with_reducible repeat (first | apply Kd.R_alloc | apply Kd.R_drewN | apply Kd.R_drew)); exact HO_7.out⟩, ⟨by repeat (first | (with_reducible first | exact HB.out | apply below_alloc | apply pw_below_drewN | apply below_drew1) | exact HB.out)⟩⟩
                                        · rw [if_neg c45] at H
                                          exact absurd H (by simp)
                                      · rw [if_neg c44] at H
                                        exact absurd H (by simp)
                                    · rw [if_neg c43] at H
                                      have c43b0 : decide (x12_4 < ((rdOf ByteArray.empty t165 (ji33)).size : Int)) = false := decide_eq_false c43
                                      clear c43
                                      have H' := Aside0.mk H
                                      clear H
                                      go_wp2
                                      repeat (go_quiet (fail); try go_wp2)
                                      go_roundg k4
                                      case measure => have := HK1.out; have := HJ8.out; have := HJ35.out; have := HK4.out; omega
                                      case rel => exact ⟨(((rd_T33 t158 x9_1).f0)), (wrap64 (x9_1 + 1)), (by first | rfl | (simp; done) | (simp [*]; done)), (by first | rfl | (simp; done) | (simp [*]; done)), H', ⟨by have := HK1.out; have := HJ8.out; have := HJ35.out; have := HK4.out; omega⟩, ⟨by (with_reducible repeat (first | apply Kd.R_alloc | apply Kd.R_drewN | apply Kd.R_drew)); exact HO_3.out⟩, ⟨by (with_reducible repeat (first | apply Kd.R_alloc | apply Kd.R_drewN | apply Kd.R_drew)); exact HO_7.out⟩, ⟨by repeat (first | (with_reducible first | exact HB.out | apply below_alloc | apply pw_below_drewN | apply below_drew1) | exact HB.out)⟩⟩
                        · rw [if_neg c35] at H
                          exact absurd H (by simp)
                      · rw [if_neg c34] at H
                        exact absurd H (by simp)
                    · rw [if_neg c32] at H
                      exact absurd H (by simp)
                  · rw [if_neg c31] at H
                    exact absurd H (by simp)
          · rw [if_neg c8] at H
            exact absurd H (by simp)
        · rw [if_neg c7] at H
          have c7b0 : decide (x9_1 < (t158.length : Int)) = false := decide_eq_false c7
          clear c7
          replace H := Option.bind_eq_some_iff.mp H
          obtain ⟨t168, A540, H⟩ := H
          replace H : (some t168) = some r := H
          have A54 := Aside0.mk A540
          clear A540
          obtain rfl := Option.some.inj H
          obtain ⟨Ao55, co55, eo55⟩ := Kd.R_slice HO_3.out
          subst eo55
          go_wp2_with (first | (go_at_call 12; (with_reducible refine (shuttlelaw1_awake.calls  t168 _ A54.out).mono ?_); rintro e w56 ⟨rfl, hb⟩; have n0_ := Aside0.mk (Kd.R_below (by (with_reducible repeat (first | apply Kd.R_alloc | apply Kd.R_drewN | apply Kd.R_drew)); exact HO_3.out) hb); have n1_ := Aside0.mk (Kd.R_below (by (with_reducible repeat (first | apply Kd.R_alloc | apply Kd.R_drewN | apply Kd.R_drew)); exact HO_7.out) hb); have n2_ := Aside0.mk (below_step (by repeat (first | (with_reducible first | exact HB.out | apply below_alloc | apply pw_below_drewN | apply below_drew1) | exact HB.out)) hb); clear HO_3; clear HO_7; clear HB; have HO_3 := n0_; have HO_7 := n1_; have HB := n2_; clear n0_ n1_ n2_; (try clear hb); (try clear hb2); (try clear hk); (try clear hi)))
          repeat (go_quiet (first | (go_at_call 12; (with_reducible refine (shuttlelaw1_awake.calls  t168 _ A54.out).mono ?_); rintro e w56 ⟨rfl, hb⟩; have n0_ := Aside0.mk (Kd.R_below (by (with_reducible repeat (first | apply Kd.R_alloc | apply Kd.R_drewN | apply Kd.R_drew)); exact HO_3.out) hb); have n1_ := Aside0.mk (Kd.R_below (by (with_reducible repeat (first | apply Kd.R_alloc | apply Kd.R_drewN | apply Kd.R_drew)); exact HO_7.out) hb); have n2_ := Aside0.mk (below_step (by repeat (first | (with_reducible first | exact HB.out | apply below_alloc | apply pw_below_drewN | apply below_drew1) | exact HB.out)) hb); clear HO_3; clear HO_7; clear HB; have HO_3 := n0_; have HO_7 := n1_; have HB := n2_; clear n0_ n1_ n2_; (try clear hb); (try clear hb2); (try clear hk); (try clear hi))); try go_wp2_with (first | (go_at_call 12; (with_reducible refine (shuttlelaw1_awake.calls  t168 _ A54.out).mono ?_); rintro e w56 ⟨rfl, hb⟩; have n0_ := Aside0.mk (Kd.R_below (by (with_reducible repeat (first | apply Kd.R_alloc | apply Kd.R_drewN | apply Kd.R_drew)); exact HO_3.out) hb); have n1_ := Aside0.mk (Kd.R_below (by (with_reducible repeat (first | apply Kd.R_alloc | apply Kd.R_drewN | apply Kd.R_drew)); exact HO_7.out) hb); have n2_ := Aside0.mk (below_step (by repeat (first | (with_reducible first | exact HB.out | apply below_alloc | apply pw_below_drewN | apply below_drew1) | exact HB.out)) hb); clear HO_3; clear HO_7; clear HB; have HO_3 := n0_; have HO_7 := n1_; have HB := n2_; clear n0_ n1_ n2_; (try clear hb); (try clear hb2); (try clear hk); (try clear hi))))
          go_ret
          exact ⟨by first | rfl | (simp [errW_none, errW_some] <;> rfl) | (simp [*, errW_none, errW_some] <;> rfl), by repeat (first | (with_reducible first | exact HB.out | apply below_alloc | apply pw_below_drewN | apply below_drew1) | exact HB.out)⟩
  · rw [if_neg c3] at H
    have c3b0 : (t161 == 0) = false := beq_eq_false_iff_ne.mpr c3
    have c3b1 : (t161 != 0) = true := bne_iff_ne.mpr c3
    by_cases c57 : (t158.length : Int) = 0
    · rw [if_pos c57] at H
      have c57b0 : ((t158.length : Int) == 0) = true := beq_iff_eq.mpr c57
      have c57b1 : ((t158.length : Int) != 0) = false := bne_eq_false_iff_eq.mpr c57
      clear c57
      replace H := Option.bind_eq_some_iff.mp H
      obtain ⟨t164, A580, H⟩ := H
      replace H : (some t164) = some r := H
      have A58 := Aside0.mk A580
      clear A580
      obtain rfl := Option.some.inj H
      go_enter Tryd.func4, Tryd.ntmps4
      go_wp2_with (first | (go_at_call 9; (with_reducible refine (text_Lines.calls a0 t158 t159 t160 t161 _ A2.out).mono ?_); rintro e w59 ⟨v162, rfl, ho0, hb⟩; have n0_ := Aside0.mk (Kd.R_lower ho0 (below_size (by repeat (first | (with_reducible first | exact HB.out | apply below_alloc | apply pw_below_drewN | apply below_drew1) | exact HB.out)))); have n1_ := Aside0.mk (below_step (by repeat (first | (with_reducible first | exact HB.out | apply below_alloc | apply pw_below_drewN | apply below_drew1) | exact HB.out)) hb); clear HB; have HO163 := n0_; have HB := n1_; clear n0_ n1_; (try clear hb); (try clear hb2); (try clear hk); (try clear hi); (try clear ho0); obtain ⟨Ao60, co60, eo60⟩ := Kd.R_slice HO163.out; subst eo60) | (go_at_call 12; (with_reducible refine (shuttlelaw1_awake.calls  t164 _ A58.out).mono ?_); rintro e w61 ⟨rfl, hb⟩; have n0_ := Aside0.mk (Kd.R_below (by (with_reducible repeat (first | apply Kd.R_alloc | apply Kd.R_drewN | apply Kd.R_drew)); exact HO163.out) hb); have n1_ := Aside0.mk (below_step (by repeat (first | (with_reducible first | exact HB.out | apply below_alloc | apply pw_below_drewN | apply below_drew1) | exact HB.out)) hb); clear HO163; clear HB; have HO163 := n0_; have HB := n1_; clear n0_ n1_; (try clear hb); (try clear hb2); (try clear hk); (try clear hi)))
      repeat (go_quiet (first | (go_at_call 9; (with_reducible refine (text_Lines.calls a0 t158 t159 t160 t161 _ A2.out).mono ?_); rintro e w59 ⟨v162, rfl, ho0, hb⟩; have n0_ := Aside0.mk (Kd.R_lower ho0 (below_size (by repeat (first | (with_reducible first | exact HB.out | apply below_alloc | apply pw_below_drewN | apply below_drew1) | exact HB.out)))); have n1_ := Aside0.mk (below_step (by repeat (first | (with_reducible first | exact HB.out | apply below_alloc | apply pw_below_drewN | apply below_drew1) | exact HB.out)) hb); clear HB; have HO163 := n0_; have HB := n1_; clear n0_ n1_; (try clear hb); (try clear hb2); (try clear hk); (try clear hi); (try clear ho0); obtain ⟨Ao60, co60, eo60⟩ := Kd.R_slice HO163.out; subst eo60) | (go_at_call 12; (with_reducible refine (shuttlelaw1_awake.calls  t164 _ A58.out).mono ?_); rintro e w61 ⟨rfl, hb⟩; have n0_ := Aside0.mk (Kd.R_below (by (with_reducible repeat (first | apply Kd.R_alloc | apply Kd.R_drewN | apply Kd.R_drew)); exact HO163.out) hb); have n1_ := Aside0.mk (below_step (by repeat (first | (with_reducible first | exact HB.out | apply below_alloc | apply pw_below_drewN | apply below_drew1) | exact HB.out)) hb); clear HO163; clear HB; have HO163 := n0_; have HB := n1_; clear n0_ n1_; (try clear hb); (try clear hb2); (try clear hk); (try clear hi))); try go_wp2_with (first | (go_at_call 9; (with_reducible refine (text_Lines.calls a0 t158 t159 t160 t161 _ A2.out).mono ?_); rintro e w59 ⟨v162, rfl, ho0, hb⟩; have n0_ := Aside0.mk (Kd.R_lower ho0 (below_size (by repeat (first | (with_reducible first | exact HB.out | apply below_alloc | apply pw_below_drewN | apply below_drew1) | exact HB.out)))); have n1_ := Aside0.mk (below_step (by repeat (first | (with_reducible first | exact HB.out | apply below_alloc | apply pw_below_drewN | apply below_drew1) | exact HB.out)) hb); clear HB; have HO163 := n0_; have HB := n1_; clear n0_ n1_; (try clear hb); (try clear hb2); (try clear hk); (try clear hi); (try clear ho0); obtain ⟨Ao60, co60, eo60⟩ := Kd.R_slice HO163.out; subst eo60) | (go_at_call 12; (with_reducible refine (shuttlelaw1_awake.calls  t164 _ A58.out).mono ?_); rintro e w61 ⟨rfl, hb⟩; have n0_ := Aside0.mk (Kd.R_below (by (with_reducible repeat (first | apply Kd.R_alloc | apply Kd.R_drewN | apply Kd.R_drew)); exact HO163.out) hb); have n1_ := Aside0.mk (below_step (by repeat (first | (with_reducible first | exact HB.out | apply below_alloc | apply pw_below_drewN | apply below_drew1) | exact HB.out)) hb); clear HO163; clear HB; have HO163 := n0_; have HB := n1_; clear n0_ n1_; (try clear hb); (try clear hb2); (try clear hk); (try clear hi))))
      go_ret
      exact ⟨by first | rfl | (simp [errW_none, errW_some] <;> rfl) | (simp [*, errW_none, errW_some] <;> rfl), by repeat (first | (with_reducible first | exact HB.out | apply below_alloc | apply pw_below_drewN | apply below_drew1) | exact HB.out)⟩
    · rw [if_neg c57] at H
      have c57b0 : ((t158.length : Int) == 0) = false := beq_eq_false_iff_ne.mpr c57
      have c57b1 : ((t158.length : Int) != 0) = true := bne_iff_ne.mpr c57
      have c57b2 : ¬ (t158 = []) := fun h_ => c57 (by rw [h_]; rfl)
      obtain rfl := Option.some.inj H
      go_enter Tryd.func4, Tryd.ntmps4
      go_wp2_with (first | (go_at_call 9; (with_reducible refine (text_Lines.calls a0 t158 t159 t160 t161 _ A2.out).mono ?_); rintro e w62 ⟨v162, rfl, ho0, hb⟩; have n0_ := Aside0.mk (Kd.R_lower ho0 (below_size (by repeat (first | (with_reducible first | exact HB.out | apply below_alloc | apply pw_below_drewN | apply below_drew1) | exact HB.out)))); have n1_ := Aside0.mk (below_step (by repeat (first | (with_reducible first | exact HB.out | apply below_alloc | apply pw_below_drewN | apply below_drew1) | exact HB.out)) hb); clear HB; have HO163 := n0_; have HB := n1_; clear n0_ n1_; (try clear hb); (try clear hb2); (try clear hk); (try clear hi); (try clear ho0); obtain ⟨Ao63, co63, eo63⟩ := Kd.R_slice HO163.out; subst eo63))
      repeat (go_quiet (first | (go_at_call 9; (with_reducible refine (text_Lines.calls a0 t158 t159 t160 t161 _ A2.out).mono ?_); rintro e w62 ⟨v162, rfl, ho0, hb⟩; have n0_ := Aside0.mk (Kd.R_lower ho0 (below_size (by repeat (first | (with_reducible first | exact HB.out | apply below_alloc | apply pw_below_drewN | apply below_drew1) | exact HB.out)))); have n1_ := Aside0.mk (below_step (by repeat (first | (with_reducible first | exact HB.out | apply below_alloc | apply pw_below_drewN | apply below_drew1) | exact HB.out)) hb); clear HB; have HO163 := n0_; have HB := n1_; clear n0_ n1_; (try clear hb); (try clear hb2); (try clear hk); (try clear hi); (try clear ho0); obtain ⟨Ao63, co63, eo63⟩ := Kd.R_slice HO163.out; subst eo63)); try go_wp2_with (first | (go_at_call 9; (with_reducible refine (text_Lines.calls a0 t158 t159 t160 t161 _ A2.out).mono ?_); rintro e w62 ⟨v162, rfl, ho0, hb⟩; have n0_ := Aside0.mk (Kd.R_lower ho0 (below_size (by repeat (first | (with_reducible first | exact HB.out | apply below_alloc | apply pw_below_drewN | apply below_drew1) | exact HB.out)))); have n1_ := Aside0.mk (below_step (by repeat (first | (with_reducible first | exact HB.out | apply below_alloc | apply pw_below_drewN | apply below_drew1) | exact HB.out)) hb); clear HB; have HO163 := n0_; have HB := n1_; clear n0_ n1_; (try clear hb); (try clear hb2); (try clear hk); (try clear hi); (try clear ho0); obtain ⟨Ao63, co63, eo63⟩ := Kd.R_slice HO163.out; subst eo63)))
      go_ret
      exact ⟨by first | rfl | (simp [errW_none, errW_some] <;> rfl) | (simp [*, errW_none, errW_some] <;> rfl), by repeat (first | (with_reducible first | exact HB.out | apply below_alloc | apply pw_below_drewN | apply below_drew1) | exact HB.out)⟩

/-- THE ONE PURE STATEMENT of shuttlelaw1_TextSays: yours. -/
def shuttlelaw1_TextSays.Pure : Prop := ∀ (a0 : ByteArray), a0.size ≤ 140737488351232 → ∃ k, shuttlelaw1_TextSays.f k a0 = some true
theorem shuttlelaw1_TextSays.walk (P : shuttlelaw1_TextSays.Pure) (a0 : ByteArray) (w : World) (w0 : a0.size ≤ 140737488351232) :
    Calls Tryd.prog 4 #[.string a0] w fun e w' => e = .returned (.bool true) ∧ Below w.heap.size w w' := by
  obtain ⟨k, h⟩ := P a0 w0
  refine (shuttlelaw1_TextSays.calls k a0 true w h).mono ?_
  rintro e w' ⟨rfl, hd⟩
  exact ⟨rfl, hd⟩

end Go.Proofs.YthddjlkgnmbomaaDoor.Q
