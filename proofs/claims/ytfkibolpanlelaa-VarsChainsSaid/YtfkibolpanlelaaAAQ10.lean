-- Printed for this seat by gprint.py (the kit's printer over contracts proved by hand).
import Derived.Test.YtfkibolpanlelaaAAQ0
import Derived.Test.YtfkibolpanlelaaAAQ3
import Derived.Test.YtfkibolpanlelaaAAQ4
import Derived.Test.YtfkibolpanlelaaAAQ8
import Derived.Test.YtfkibolpanlelaaAAVGiv
namespace Go.Proofs.Ytfkibolpanlelaa.Q
open Go.RowKit Go.Proofs.YtfkibolpanlelaaW.PrintWords Go.Proofs.YtfkibolpanlelaaW.PrintLast Go.Proofs.YtfkibolpanlelaaW.PrintMore
attribute [local go_sem] max2_int min2_int max_two min_two max_three min_three max_four min_four   -- for this text's walks alone
set_option linter.unusedVariables false
set_option linter.unusedSimpArgs false
mutual
def shuttlelaw10_VarsChains.l0 : Nat → Int → ByteArray → Int → Option (Bool)
  | 0, _, _, _ => none
  | k + 1, x0, x1, x5 => if x5 < (x1.size : Int) then (if 0 ≤ x5 then (if (bt x1 x5) = 36 then ((shuttlelaw10_awake.f k).bind fun t344 => (some t344)) else (shuttlelaw10_VarsChains.l0 k x0 x1 (wrap64 (x5 + 1)))) else (none)) else (if (x1.size : Int) > 200 then ((shuttlelaw10_awake.f k).bind fun t345 => (some t345)) else ((shuttlelaw0_Low.f x0).bind fun t346 => (shuttlelaw10_VarsChains.l1 k x1 (wrap64 ((wrap64 ((Int.tmod t346 4) + 16)) - 1)) (⟨#[65, 66, 67, 68, 69, 70, 71, 72, 73, 74, 75, 76, 77, 78, 79, 80, 81, 82, 83, 84, 85, 86, 87, 88, 89, 90]⟩ : ByteArray) ([] : List (S41)) 0)))
def shuttlelaw10_VarsChains.l1 : Nat → ByteArray → Int → ByteArray → List (S41) → Int → Option (Bool)
  | 0, _, _, _, _, _ => none
  | k + 1, x1, x6, x7, x8, x9 => if x9 ≤ x6 then (if 0 ≤ x9 then (if x9 ≤ (wrap64 (x9 + 1)) then (if (wrap64 (x9 + 1)) ≤ (x7.size : Int) then (if 0 ≤ (wrap64 (x9 + 1)) then (if (wrap64 (x9 + 1)) ≤ (wrap64 (x9 + 2)) then (if (wrap64 (x9 + 2)) ≤ (x7.size : Int) then (if 3 + (x7.extract ((wrap64 (x9 + 1)) : Int).toNat ((wrap64 (x9 + 2)) : Int).toNat).size ≤ 9223372036854775807 then (if ((⟨#[60, 36, 123]⟩ : ByteArray) ++ (x7.extract ((wrap64 (x9 + 1)) : Int).toNat ((wrap64 (x9 + 2)) : Int).toNat)).size + 2 ≤ 9223372036854775807 then (if x9 = x6 then (if x8.length < 4398046511104 then (shuttlelaw10_VarsChains.l1 k x1 x6 x7 (x8 ++ [(⟨x7.extract (x9 : Int).toNat ((wrap64 (x9 + 1)) : Int).toNat, x1⟩ : S41)]) (wrap64 (x9 + 1))) else (none)) else (if x8.length < 4398046511104 then (shuttlelaw10_VarsChains.l1 k x1 x6 x7 (x8 ++ [(⟨x7.extract (x9 : Int).toNat ((wrap64 (x9 + 1)) : Int).toNat, ((⟨#[60, 36, 123]⟩ : ByteArray) ++ (x7.extract ((wrap64 (x9 + 1)) : Int).toNat ((wrap64 (x9 + 2)) : Int).toNat)) ++ (⟨#[125, 62]⟩ : ByteArray)⟩ : S41)]) (wrap64 (x9 + 1))) else (none))) else (none)) else (none)) else (none)) else (none)) else (none)) else (none)) else (none)) else (none)) else ((shuttlelaw0_CopyVars.f x8).bind fun t354 => ((vars_Resolve.f t354).bind fun bt357 => ((shuttlelaw0_CopyVars.f x8).bind fun t362 => (if 0 ≤ x6 then (if x6 < (t362.length : Int) then ((vars_Resolve.f (t362.set (x6 : Int).toNat (⟨(rd_T41 t362 x6).f0, (⟨#[36, 123, 65, 125]⟩ : ByteArray)⟩ : S41))).bind fun bt366 => ((shuttlelaw0_CopyVars.f x8).bind fun t371 => (if x6 < (t371.length : Int) then ((vars_Resolve.f (t371.set (x6 : Int).toNat (⟨(rd_T41 t371 x6).f0, (⟨#[120, 36, 123, 90, 125]⟩ : ByteArray)⟩ : S41))).bind fun bt375 => (if bt366.2.2 = 103 then (if bt366.2.1 = 0 then (if bt375.2.2 = 102 then (shuttlelaw10_VarsChains.j2 k x1 x6 bt357.1 bt357.2.1 bt357.2.2 (bt375.2.1 != 0)) else (shuttlelaw10_VarsChains.j2 k x1 x6 bt357.1 bt357.2.1 bt357.2.2 true)) else (shuttlelaw10_VarsChains.j2 k x1 x6 bt357.1 bt357.2.1 bt357.2.2 true)) else (shuttlelaw10_VarsChains.j2 k x1 x6 bt357.1 bt357.2.1 bt357.2.2 true))) else (none)))) else (none)) else (none)))))
def shuttlelaw10_VarsChains.j2 : Nat → ByteArray → Int → List (S41) → Int → Int → Bool → Option (Bool)
  | 0, _, _, _, _, _, _ => none
  | k + 1, x1, x6, x11, x12, x13, x116 => if x116 = true then (some false) else (if x6 > 16 then (if x13 = 103 then (if x12 = 0 then (if (x11.length : Int) = 0 then ((shuttlelaw10_awake.f k).bind fun t380 => (some t380)) else (some false)) else (some false)) else (some false)) else (shuttlelaw10_VarsChains.l2 k x6 x11 x13 x1 0))
def shuttlelaw10_VarsChains.l2 : Nat → Int → List (S41) → Int → ByteArray → Int → Option (Bool)
  | 0, _, _, _, _, _ => none
  | k + 1, x6, x11, x13, x22, x23 => if x23 < x6 then (if 1 + x22.size ≤ 9223372036854775807 then (if ((⟨#[60]⟩ : ByteArray) ++ x22).size + 1 ≤ 9223372036854775807 then (shuttlelaw10_VarsChains.l2 k x6 x11 x13 (((⟨#[60]⟩ : ByteArray) ++ x22) ++ (⟨#[62]⟩ : ByteArray)) (wrap64 (x23 + 1))) else (none)) else (none)) else (if x13 = 0 then (if (x11.length : Int) = (wrap64 (x6 + 1)) then (if 0 < (x11.length : Int) then (if ((rd_T41 x11 0).f1).toList = x22.toList then ((shuttlelaw10_awake.f k).bind fun t382 => (some t382)) else (some false)) else (none)) else (some false)) else (some false))
end
def shuttlelaw10_VarsChains.f (k : Nat) (a0 : Int) (a1 : ByteArray) : Option (Bool) := shuttlelaw10_VarsChains.l0 k a0 a1 0
def shuttlelaw10_VarsChains.T14 : Bool × List (List Nat × List Nat) := (true, [([], []), ([], []), ([], []), ([2], [2]), ([0, 1, 3], [0, 1, 3]), ([], []), ([], []), ([6], [6]), ([], []), ([8], [8]), ([5, 7, 9], [5, 7, 9]), ([10], [10]), ([11], [11]), ([4, 12], [4, 12]), ([], []), ([14, 13, 0, 1, 2, 3, 4, 5, 6, 7, 8, 9, 10, 11, 12, 13, 14], [13, 14])])
def shuttlelaw10_VarsChains.B14 : List Nat := [0, 0, 0, 4, 15, 0, 0, 64, 0, 256, 992, 2016, 4064, 8191, 0, 32767]
theorem shuttlelaw10_VarsChains.tab14 : rtab .any (opsOf Try.f9 14) = shuttlelaw10_VarsChains.T14 := by kernel_rfl
theorem shuttlelaw10_VarsChains.bits14 : waitsOk shuttlelaw10_VarsChains.T14.2 shuttlelaw10_VarsChains.B14 = true := by kernel_rfl
set_option maxHeartbeats 8000000 in
set_option maxRecDepth 100000 in
theorem shuttlelaw10_VarsChains.calls (k : Nat) (a0 : Int) (a1 : ByteArray) (r : Bool) (w : World) (hgm : GM w) (h : shuttlelaw10_VarsChains.f k a0 a1 = some r) :
    Calls Try.prog 9 #[.int .i64 a0, .string a1] w fun e w' => e = .returned (.bool r) ∧ Below w.heap.size w w' := by
  have HGM := Aside0.mk hgm
  clear hgm
  have hu41 := Try.underlying41
  have HB := Aside0.mk (Below.refl w.heap.size w)
  have H : (shuttlelaw10_VarsChains.l0 k a0 a1 0) = some r := h
  clear h
  have H' := Aside0.mk H
  clear H
  go_enter Try.func9, Try.ntmps9
  go_wp2
  go_loopg [5] k (fun kq v5 w' => ∃ (x5_1 : Int), v5 = .int .i64 x5_1 ∧ Aside0 (shuttlelaw10_VarsChains.l0 kq a0 a1 x5_1 = some r) ∧ Aside0 (kq ≤ k) ∧ Aside0 (Below w.heap.size w w'))
  case atStart => exact ⟨(0), (by first | rfl | (simp; done) | (simp [*]; done)), H', ⟨Nat.le_refl _⟩, ⟨by repeat (first | (with_reducible first | exact HB.out | apply below_alloc | apply pw_below_drewN | apply below_drew1) | exact HB.out)⟩⟩
  case round =>
    clear H'
    try clear p2
    obtain ⟨x5_1, rfl, HA, HK1, HB⟩ := hrel
    cases gk with
    | zero => exact absurd HA.out (by simp [shuttlelaw10_VarsChains.l0])
    | succ k1 =>
      have H := HA.out
      clear HA
      simp only [shuttlelaw10_VarsChains.l0] at H
      by_cases c3 : x5_1 < (a1.size : Int)
      · rw [if_pos c3] at H
        have c3b0 : decide (x5_1 < (a1.size : Int)) = true := decide_eq_true c3
        clear c3
        by_cases c4 : 0 ≤ x5_1
        · rw [if_pos c4] at H
          have c4b0 : decide (0 ≤ x5_1) = true := decide_eq_true c4
          clear c4
          by_cases c6 : (bt a1 x5_1) = 36
          · rw [if_pos c6] at H
            have c6b0 : ((bt a1 x5_1) == 36) = true := beq_iff_eq.mpr c6
            have c6b1 : ((bt a1 x5_1) != 36) = false := bne_eq_false_iff_eq.mpr c6
            clear c6
            replace H := Option.bind_eq_some_iff.mp H
            obtain ⟨t344, A70, H⟩ := H
            replace H : (some t344) = some r := H
            have A7 := Aside0.mk A70
            clear A70
            obtain rfl := Option.some.inj H
            have p5 : 0 ≤ (x5_1 : Int) := of_decide_eq_true (by first | (with_reducible assumption) | assumption)
            have q5 : x5_1 < (a1.size : Int) := of_decide_eq_true (by first | (with_reducible assumption) | assumption)
            have hx5 := bt_at a1 x5_1
            replace p5 := eq_true p5
            replace q5 := eq_true q5
            go_wp2_with (first | ((with_reducible refine gate_callee (f := 19) rfl ?_); refine goesL_ (some 34) rfl rfl Try.func19 (by kernel_rfl) rfl #[] rfl (by (try simp only [List.map_toArray, List.map_cons, List.map_nil]); first | done | rfl | (simp only [List.length_drop, List.length_take]; rfl)) ?_; (with_reducible refine (shuttlelaw10_awake.calls k1  t344 _ ?gm_ A7.out).mono ?_); (case gm_ => exact GM.below HGM.out (by repeat (first | (with_reducible first | exact HB.out | apply below_alloc | apply pw_below_drewN | apply below_drew1 | refine below_set ?_ (Aside0.out (by assumption))) | exact HB.out))); rintro e w8 ⟨rfl, hb⟩; refine ⟨_, rfl, ?_⟩; have n0_ := Aside0.mk (below_step (by repeat (first | (with_reducible first | exact HB.out | apply below_alloc | apply pw_below_drewN | apply below_drew1) | exact HB.out)) hb); clear HB; have HB := n0_; clear n0_; (try clear hb); (try clear hb2); (try clear hk); (try clear hi)))
            go_ret
            exact ⟨by first | rfl | (simp [errW_none, errW_some] <;> rfl) | (simp [*, errW_none, errW_some] <;> rfl), by repeat (first | (with_reducible first | exact HB.out | apply below_alloc | apply pw_below_drewN | apply below_drew1) | exact HB.out)⟩
          · rw [if_neg c6] at H
            have c6b0 : ((bt a1 x5_1) == 36) = false := beq_eq_false_iff_ne.mpr c6
            have c6b1 : ((bt a1 x5_1) != 36) = true := bne_iff_ne.mpr c6
            have H' := Aside0.mk H
            clear H
            have p5 : 0 ≤ (x5_1 : Int) := of_decide_eq_true (by first | (with_reducible assumption) | assumption)
            have q5 : x5_1 < (a1.size : Int) := of_decide_eq_true (by first | (with_reducible assumption) | assumption)
            have hx5 := bt_at a1 x5_1
            replace p5 := eq_true p5
            replace q5 := eq_true q5
            go_wp2
            go_roundg k1
            case measure => have := HK1.out; omega
            case rel => exact ⟨(wrap64 (x5_1 + 1)), (by first | rfl | (simp; done) | (simp [*]; done)), H', ⟨by have := HK1.out; omega⟩, ⟨by repeat (first | (with_reducible first | exact HB.out | apply below_alloc | apply pw_below_drewN | apply below_drew1) | exact HB.out)⟩⟩
        · rw [if_neg c4] at H
          exact absurd H (by simp)
      · rw [if_neg c3] at H
        have c3b0 : decide (x5_1 < (a1.size : Int)) = false := decide_eq_false c3
        clear c3
        by_cases c9 : (a1.size : Int) > 200
        · rw [if_pos c9] at H
          have c9b0 : decide (200 < (a1.size : Int)) = true := decide_eq_true c9
          have c9b1 : decide (200 < a1.size) = true := decide_eq_true (by omega)
          clear c9
          replace H := Option.bind_eq_some_iff.mp H
          obtain ⟨t345, A100, H⟩ := H
          replace H : (some t345) = some r := H
          have A10 := Aside0.mk A100
          clear A100
          obtain rfl := Option.some.inj H
          go_wp2_with (first | ((with_reducible refine gate_callee (f := 19) rfl ?_); refine goesL_ (some 38) rfl rfl Try.func19 (by kernel_rfl) rfl #[] rfl (by (try simp only [List.map_toArray, List.map_cons, List.map_nil]); first | done | rfl | (simp only [List.length_drop, List.length_take]; rfl)) ?_; (with_reducible refine (shuttlelaw10_awake.calls k1  t345 _ ?gm_ A10.out).mono ?_); (case gm_ => exact GM.below HGM.out (by repeat (first | (with_reducible first | exact HB.out | apply below_alloc | apply pw_below_drewN | apply below_drew1 | refine below_set ?_ (Aside0.out (by assumption))) | exact HB.out))); rintro e w11 ⟨rfl, hb⟩; refine ⟨_, rfl, ?_⟩; have n0_ := Aside0.mk (below_step (by repeat (first | (with_reducible first | exact HB.out | apply below_alloc | apply pw_below_drewN | apply below_drew1) | exact HB.out)) hb); clear HB; have HB := n0_; clear n0_; (try clear hb); (try clear hb2); (try clear hk); (try clear hi)))
          go_ret
          exact ⟨by first | rfl | (simp [errW_none, errW_some] <;> rfl) | (simp [*, errW_none, errW_some] <;> rfl), by repeat (first | (with_reducible first | exact HB.out | apply below_alloc | apply pw_below_drewN | apply below_drew1) | exact HB.out)⟩
        · rw [if_neg c9] at H
          have c9b0 : decide (200 < (a1.size : Int)) = false := decide_eq_false c9
          have c9b1 : decide (200 < a1.size) = false := decide_eq_false (by omega)
          clear c9
          replace H := Option.bind_eq_some_iff.mp H
          obtain ⟨t346, A120, H⟩ := H
          replace H : (shuttlelaw10_VarsChains.l1 k1 a1 (wrap64 ((wrap64 ((Int.tmod t346 4) + 16)) - 1)) (⟨#[65, 66, 67, 68, 69, 70, 71, 72, 73, 74, 75, 76, 77, 78, 79, 80, 81, 82, 83, 84, 85, 86, 87, 88, 89, 90]⟩ : ByteArray) ([] : List (S41)) 0) = some r := H
          have A12 := Aside0.mk A120
          clear A120
          have H' := Aside0.mk H
          clear H
          go_wp2_with (first | ((with_reducible refine gate_callee (f := 27) rfl ?_); refine goesL_ (some 40) rfl rfl Try.func27 (by kernel_rfl) rfl #[.int .i64 a0] rfl (by (try simp only [List.map_toArray, List.map_cons, List.map_nil]); first | done | rfl | (simp only [List.length_drop, List.length_take]; rfl)) ?_; (with_reducible refine (shuttlelaw0_Low.calls a0 t346 _ A12.out).mono ?_); rintro e w' ⟨rfl, ⟨nd, rfl⟩⟩; refine ⟨_, rfl, ?_⟩))
          go_loopg [8, 9] k1 (fun kq v8 v9 w' => ∃ (x8_2 : List (S41)) (x9_2 : Int), v9 = .int .i64 x9_2 ∧ Aside0 (shuttlelaw10_VarsChains.l1 kq a1 (wrap64 ((wrap64 ((Int.tmod t346 4) + 16)) - 1)) (⟨#[65, 66, 67, 68, 69, 70, 71, 72, 73, 74, 75, 76, 77, 78, 79, 80, 81, 82, 83, 84, 85, 86, 87, 88, 89, 90]⟩ : ByteArray) x8_2 x9_2 = some r) ∧ Aside0 (kq ≤ k1) ∧ Aside0 (Kd.R k41 41 w' w.heap.size (fun _ => True) v8 x8_2) ∧ Aside0 (Below w.heap.size w w'))
          case atStart => exact ⟨(([] : List (S41))), (0), (by first | rfl | (simp; done) | (simp [*]; done)), H', ⟨Nat.le_refl _⟩, ⟨by first | exact Kd.R_nil _ _ _ _ _ | exact Kd.N_nil _ _ _ _ _ | exact Kd.V_nil _ _ _ _ _ | exact Kd.Q_nil _ _ _ _ _ | exact Kd.S_nil _ _ _ _ _⟩, ⟨by repeat (first | (with_reducible first | exact HB.out | apply below_alloc | apply pw_below_drewN | apply below_drew1) | exact HB.out)⟩⟩
          case round =>
            clear H'
            try clear c1
            try clear c2
            try clear p2
            try clear c3
            try clear c3b0
            try clear c4
            try clear c4b0
            try clear p5
            try clear q5
            try clear hx5
            try clear c6
            try clear c6b0
            try clear c6b1
            try clear p6
            try clear c9
            try clear c9b0
            try clear c9b1
            try clear p2
            try clear p5
            try clear q5
            obtain ⟨x8_2, x9_2, rfl, HA, HK2, HO_8, HB⟩ := hrel
            cases gk with
            | zero => exact absurd HA.out (by simp [shuttlelaw10_VarsChains.l1])
            | succ k2 =>
              have H := HA.out
              clear HA
              simp only [shuttlelaw10_VarsChains.l1] at H
              by_cases c13 : x9_2 ≤ (wrap64 ((wrap64 ((Int.tmod t346 4) + 16)) - 1))
              · rw [if_pos c13] at H
                have c13b0 : decide (x9_2 ≤ (wrap64 ((wrap64 ((Int.tmod t346 4) + 16)) - 1))) = true := decide_eq_true c13
                clear c13
                by_cases c14 : 0 ≤ x9_2
                · rw [if_pos c14] at H
                  have c14b0 := eq_true c14
                  have c14b1 : decide (0 ≤ x9_2) = true := decide_eq_true c14
                  clear c14
                  by_cases c15 : x9_2 ≤ (wrap64 (x9_2 + 1))
                  · rw [if_pos c15] at H
                    have c15b0 := eq_true c15
                    have c15b1 : decide (x9_2 ≤ (wrap64 (x9_2 + 1))) = true := decide_eq_true c15
                    by_cases c16 : (wrap64 (x9_2 + 1)) ≤ ((⟨#[65, 66, 67, 68, 69, 70, 71, 72, 73, 74, 75, 76, 77, 78, 79, 80, 81, 82, 83, 84, 85, 86, 87, 88, 89, 90]⟩ : ByteArray).size : Int)
                    · rw [if_pos c16] at H
                      have c16b0 := eq_true c16
                      have c16b1 : decide ((wrap64 (x9_2 + 1)) ≤ ((⟨#[65, 66, 67, 68, 69, 70, 71, 72, 73, 74, 75, 76, 77, 78, 79, 80, 81, 82, 83, 84, 85, 86, 87, 88, 89, 90]⟩ : ByteArray).size : Int)) = true := decide_eq_true c16
                      have c16s : (wrap64 (x9_2 + 1)) ≤ 26 := c16
                      have c16t : decide ((wrap64 (x9_2 + 1)) ≤ 26) = true := decide_eq_true c16s
                      have c16u : ((wrap64 (x9_2 + 1)) ≤ 26) = True := eq_true c16s
                      obtain ⟨ji17, hji17⟩ : ∃ j_ : Int, (wrap64 (x9_2 + 1)) = j_ := ⟨_, rfl⟩
                      replace H : (if 0 ≤ (ji17) then (if (ji17) ≤ (wrap64 (x9_2 + 2)) then (if (wrap64 (x9_2 + 2)) ≤ ((⟨#[65, 66, 67, 68, 69, 70, 71, 72, 73, 74, 75, 76, 77, 78, 79, 80, 81, 82, 83, 84, 85, 86, 87, 88, 89, 90]⟩ : ByteArray).size : Int) then (if 3 + ((⟨#[65, 66, 67, 68, 69, 70, 71, 72, 73, 74, 75, 76, 77, 78, 79, 80, 81, 82, 83, 84, 85, 86, 87, 88, 89, 90]⟩ : ByteArray).extract ((ji17) : Int).toNat ((wrap64 (x9_2 + 2)) : Int).toNat).size ≤ 9223372036854775807 then (if ((⟨#[60, 36, 123]⟩ : ByteArray) ++ ((⟨#[65, 66, 67, 68, 69, 70, 71, 72, 73, 74, 75, 76, 77, 78, 79, 80, 81, 82, 83, 84, 85, 86, 87, 88, 89, 90]⟩ : ByteArray).extract ((ji17) : Int).toNat ((wrap64 (x9_2 + 2)) : Int).toNat)).size + 2 ≤ 9223372036854775807 then (if x9_2 = (wrap64 ((wrap64 ((Int.tmod t346 4) + 16)) - 1)) then (if x8_2.length < 4398046511104 then (shuttlelaw10_VarsChains.l1 k2 a1 (wrap64 ((wrap64 ((Int.tmod t346 4) + 16)) - 1)) (⟨#[65, 66, 67, 68, 69, 70, 71, 72, 73, 74, 75, 76, 77, 78, 79, 80, 81, 82, 83, 84, 85, 86, 87, 88, 89, 90]⟩ : ByteArray) (x8_2 ++ [(⟨(⟨#[65, 66, 67, 68, 69, 70, 71, 72, 73, 74, 75, 76, 77, 78, 79, 80, 81, 82, 83, 84, 85, 86, 87, 88, 89, 90]⟩ : ByteArray).extract (x9_2 : Int).toNat ((ji17) : Int).toNat, a1⟩ : S41)]) ji17) else (none)) else (if x8_2.length < 4398046511104 then (shuttlelaw10_VarsChains.l1 k2 a1 (wrap64 ((wrap64 ((Int.tmod t346 4) + 16)) - 1)) (⟨#[65, 66, 67, 68, 69, 70, 71, 72, 73, 74, 75, 76, 77, 78, 79, 80, 81, 82, 83, 84, 85, 86, 87, 88, 89, 90]⟩ : ByteArray) (x8_2 ++ [(⟨(⟨#[65, 66, 67, 68, 69, 70, 71, 72, 73, 74, 75, 76, 77, 78, 79, 80, 81, 82, 83, 84, 85, 86, 87, 88, 89, 90]⟩ : ByteArray).extract (x9_2 : Int).toNat ((ji17) : Int).toNat, ((⟨#[60, 36, 123]⟩ : ByteArray) ++ ((⟨#[65, 66, 67, 68, 69, 70, 71, 72, 73, 74, 75, 76, 77, 78, 79, 80, 81, 82, 83, 84, 85, 86, 87, 88, 89, 90]⟩ : ByteArray).extract ((ji17) : Int).toNat ((wrap64 (x9_2 + 2)) : Int).toNat)) ++ (⟨#[125, 62]⟩ : ByteArray)⟩ : S41)]) ji17) else (none))) else (none)) else (none)) else (none)) else (none)) else (none)) = some r := by first | (rw [hji17] at H; exact H) | (simp only [hji17] at H ⊢; exact H)
                      (try rw [hji17] at c15b0)
                      (try rw [hji17] at c15b1)
                      (try rw [hji17] at c16s)
                      (try rw [hji17] at c16t)
                      (try rw [hji17] at c16u)
                      (try rw [hji17] at c15)
                      (try rw [hji17] at c16b0)
                      (try rw [hji17] at c16b1)
                      (try rw [hji17] at c16)
                      have hji17w : (IntKind.i64.wrap (x9_2 + 1)) = ji17 := (i64_w _).trans hji17
                      by_cases c18 : 0 ≤ (ji17)
                      · rw [if_pos c18] at H
                        have c18b0 := eq_true c18
                        have c18b1 : decide (0 ≤ (ji17)) = true := decide_eq_true c18
                        clear c18
                        by_cases c19 : (ji17) ≤ (wrap64 (x9_2 + 2))
                        · rw [if_pos c19] at H
                          have c19b0 := eq_true c19
                          have c19b1 : decide ((ji17) ≤ (wrap64 (x9_2 + 2))) = true := decide_eq_true c19
                          by_cases c20 : (wrap64 (x9_2 + 2)) ≤ ((⟨#[65, 66, 67, 68, 69, 70, 71, 72, 73, 74, 75, 76, 77, 78, 79, 80, 81, 82, 83, 84, 85, 86, 87, 88, 89, 90]⟩ : ByteArray).size : Int)
                          · rw [if_pos c20] at H
                            have c20b0 := eq_true c20
                            have c20b1 : decide ((wrap64 (x9_2 + 2)) ≤ ((⟨#[65, 66, 67, 68, 69, 70, 71, 72, 73, 74, 75, 76, 77, 78, 79, 80, 81, 82, 83, 84, 85, 86, 87, 88, 89, 90]⟩ : ByteArray).size : Int)) = true := decide_eq_true c20
                            have c20s : (wrap64 (x9_2 + 2)) ≤ 26 := c20
                            have c20t : decide ((wrap64 (x9_2 + 2)) ≤ 26) = true := decide_eq_true c20s
                            have c20u : ((wrap64 (x9_2 + 2)) ≤ 26) = True := eq_true c20s
                            by_cases c21 : 3 + ((⟨#[65, 66, 67, 68, 69, 70, 71, 72, 73, 74, 75, 76, 77, 78, 79, 80, 81, 82, 83, 84, 85, 86, 87, 88, 89, 90]⟩ : ByteArray).extract ((ji17) : Int).toNat ((wrap64 (x9_2 + 2)) : Int).toNat).size ≤ 9223372036854775807
                            · rw [if_pos c21] at H
                              have c21b0 := eq_true c21
                              have c21b1 : decide (3 + ((⟨#[65, 66, 67, 68, 69, 70, 71, 72, 73, 74, 75, 76, 77, 78, 79, 80, 81, 82, 83, 84, 85, 86, 87, 88, 89, 90]⟩ : ByteArray).extract ((ji17) : Int).toNat ((wrap64 (x9_2 + 2)) : Int).toNat).size ≤ 9223372036854775807) = true := decide_eq_true c21
                              try have c21b2 : (9223372036854775807 < 3 + ((⟨#[65, 66, 67, 68, 69, 70, 71, 72, 73, 74, 75, 76, 77, 78, 79, 80, 81, 82, 83, 84, 85, 86, 87, 88, 89, 90]⟩ : ByteArray).extract ((ji17) : Int).toNat ((wrap64 (x9_2 + 2)) : Int).toNat).size) = False := eq_false (Nat.not_lt.2 c21)
                              try have c21v : (9223372036854775807 < 3 + ((wrap64 (x9_2 + 2)).toNat - (ji17).toNat)) = False := eq_false (by omega)
                              by_cases c22 : ((⟨#[60, 36, 123]⟩ : ByteArray) ++ ((⟨#[65, 66, 67, 68, 69, 70, 71, 72, 73, 74, 75, 76, 77, 78, 79, 80, 81, 82, 83, 84, 85, 86, 87, 88, 89, 90]⟩ : ByteArray).extract ((ji17) : Int).toNat ((wrap64 (x9_2 + 2)) : Int).toNat)).size + 2 ≤ 9223372036854775807
                              · rw [if_pos c22] at H
                                have c22b0 := eq_true c22
                                have c22b1 : decide (((⟨#[60, 36, 123]⟩ : ByteArray) ++ ((⟨#[65, 66, 67, 68, 69, 70, 71, 72, 73, 74, 75, 76, 77, 78, 79, 80, 81, 82, 83, 84, 85, 86, 87, 88, 89, 90]⟩ : ByteArray).extract ((ji17) : Int).toNat ((wrap64 (x9_2 + 2)) : Int).toNat)).size + 2 ≤ 9223372036854775807) = true := decide_eq_true c22
                                try have c22b2 : (9223372036854775807 < ((⟨#[60, 36, 123]⟩ : ByteArray) ++ ((⟨#[65, 66, 67, 68, 69, 70, 71, 72, 73, 74, 75, 76, 77, 78, 79, 80, 81, 82, 83, 84, 85, 86, 87, 88, 89, 90]⟩ : ByteArray).extract ((ji17) : Int).toNat ((wrap64 (x9_2 + 2)) : Int).toNat)).size + 2) = False := eq_false (Nat.not_lt.2 c22)
                                try have c22v : (9223372036854775807 < 3 + ((wrap64 (x9_2 + 2)).toNat - (ji17).toNat) + 2) = False := eq_false (by omega)
                                by_cases c23 : x9_2 = (wrap64 ((wrap64 ((Int.tmod t346 4) + 16)) - 1))
                                · rw [if_pos c23] at H
                                  have c23b0 : (x9_2 == (wrap64 ((wrap64 ((Int.tmod t346 4) + 16)) - 1))) = true := beq_iff_eq.mpr c23
                                  have c23b1 : (x9_2 != (wrap64 ((wrap64 ((Int.tmod t346 4) + 16)) - 1))) = false := bne_eq_false_iff_eq.mpr c23
                                  clear c23
                                  by_cases c24 : x8_2.length < 4398046511104
                                  · rw [if_pos c24] at H
                                    have LMc24 := Aside0.mk c24
                                    clear c24
                                    obtain ⟨y348, hy348⟩ : ∃ y_ : List (S41), y_ = (x8_2 ++ [(⟨(⟨#[65, 66, 67, 68, 69, 70, 71, 72, 73, 74, 75, 76, 77, 78, 79, 80, 81, 82, 83, 84, 85, 86, 87, 88, 89, 90]⟩ : ByteArray).extract (x9_2 : Int).toNat ((ji17) : Int).toNat, a1⟩ : S41)]) := ⟨_, rfl⟩
                                    replace H : (shuttlelaw10_VarsChains.l1 k2 a1 (wrap64 ((wrap64 ((Int.tmod t346 4) + 16)) - 1)) (⟨#[65, 66, 67, 68, 69, 70, 71, 72, 73, 74, 75, 76, 77, 78, 79, 80, 81, 82, 83, 84, 85, 86, 87, 88, 89, 90]⟩ : ByteArray) y348 ji17) = some r := by first | (rw [hy348]; with_reducible exact H) | (have H2_ := (Option.bind_some _ _).symm.trans H; rw [hy348]; with_reducible exact H2_) | (have H2_ := (Option.bind_some _ _).symm.trans H; with_reducible exact H2_) | with_reducible exact H | (rw [hy348]; exact H) | exact H
                                    have Ny348 := Aside0.mk hy348
                                    clear hy348
                                    have H' := Aside0.mk H
                                    clear H
                                    try go_wp2
                                    have n0_ := Aside0.mk (Kd.R_drew HO_8.out)
                                    have n1_ := Aside0.mk (below_drew1 HB.out)
                                    clear HO_8
                                    clear HB
                                    have HO_8 := n0_
                                    have HB := n1_
                                    clear n0_ n1_
                                    refine start_ (n := 16) (S := fun w' => True) (ds := []) #[false, false, false, false, false, false, false, false, false, false, false, false, false, false, false, false] (by kernel_rfl) rfl rfl trivial (fun hHeld => ?_); refine with_tabW shuttlelaw10_VarsChains.tab14 shuttlelaw10_VarsChains.bits14 (fun HT_ HW_ => ?_)
                                    generalize wr.drew = w25 at HO_8 HB hHeld ⊢
                                    refine pure_ (i := 0) (N := some 49) (v := ?_) (a' := ?_) #[true, false, false, false, false, false, false, false, false, false, false, false, false, false, false, false] rfl rfl (any_of HT_.out (by kernel_rfl)) (fun _ _ _ h => h) (Or.inl ⟨by rfl, ?_⟩) ?_ ?_
                                    rotate_left
                                    · intro w'
                                      go_simp
                                      with_reducible rfl
                                    rotate_left
                                    · simp only [Act.put, List.setIfInBounds_toArray, List.set_cons_zero, List.set_cons_succ, i64_w, i32_w]
                                      rfl
                                    refine pure_ (i := 1) (N := some 50) (v := ?_) (a' := ?_) #[true, true, false, false, false, false, false, false, false, false, false, false, false, false, false, false] rfl rfl (any_of HT_.out (by kernel_rfl)) (fun _ _ _ h => h) (Or.inl ⟨by rfl, ?_⟩) ?_ ?_
                                    rotate_left
                                    · intro w'
                                      go_simp
                                      with_reducible rfl
                                    rotate_left
                                    · simp only [Act.put, List.setIfInBounds_toArray, List.set_cons_zero, List.set_cons_succ, i64_w, i32_w]
                                      rfl
                                    refine pure_ (i := 2) (N := some 51) (v := ?_) (a' := ?_) #[true, true, true, false, false, false, false, false, false, false, false, false, false, false, false, false] rfl rfl (any_of HT_.out (by kernel_rfl)) (fun _ _ _ h => h) (Or.inl ⟨by rfl, ?_⟩) ?_ ?_
                                    rotate_left
                                    · intro w'
                                      go_simp
                                      with_reducible rfl
                                    rotate_left
                                    · simp only [Act.put, List.setIfInBounds_toArray, List.set_cons_zero, List.set_cons_succ, i64_w, i32_w]
                                      rfl
                                    refine pure_ (i := 3) (N := some 52) (v := ?_) (a' := ?_) #[true, true, true, true, false, false, false, false, false, false, false, false, false, false, false, false] rfl rfl (any_of HT_.out (by kernel_rfl)) (fun _ _ _ h => h) (Or.inl ⟨by rfl, ?_⟩) ?_ ?_
                                    rotate_left
                                    · intro w'
                                      go_simp
                                      with_reducible rfl
                                    rotate_left
                                    · simp only [Act.put, List.setIfInBounds_toArray, List.set_cons_zero, List.set_cons_succ, i64_w, i32_w]
                                      rfl
                                    refine pure_ (i := 4) (N := some 53) (v := ?_) (a' := ?_) #[true, true, true, true, true, false, false, false, false, false, false, false, false, false, false, false] rfl rfl (any_of HT_.out (by kernel_rfl)) (fun _ _ _ h => h) (Or.inl ⟨by rfl, ?_⟩) ?_ ?_
                                    rotate_left
                                    · intro w'
                                      go_simp
                                      with_reducible rfl
                                    rotate_left
                                    · simp only [Act.put, List.setIfInBounds_toArray, List.set_cons_zero, List.set_cons_succ, i64_w, i32_w]
                                      rfl
                                    refine pure_ (i := 5) (N := some 54) (v := ?_) (a' := ?_) #[true, true, true, true, true, true, false, false, false, false, false, false, false, false, false, false] rfl rfl (any_of HT_.out (by kernel_rfl)) (fun _ _ _ h => h) (Or.inl ⟨by rfl, ?_⟩) ?_ ?_
                                    rotate_left
                                    · intro w'
                                      go_simp
                                      with_reducible rfl
                                    rotate_left
                                    · simp only [Act.put, List.setIfInBounds_toArray, List.set_cons_zero, List.set_cons_succ, i64_w, i32_w]
                                      rfl
                                    refine pure_ (i := 6) (N := some 55) (v := ?_) (a' := ?_) #[true, true, true, true, true, true, true, false, false, false, false, false, false, false, false, false] rfl rfl (any_of HT_.out (by kernel_rfl)) (fun _ _ _ h => h) (Or.inl ⟨by rfl, ?_⟩) ?_ ?_
                                    rotate_left
                                    · intro w'
                                      go_simp
                                      with_reducible rfl
                                    rotate_left
                                    · simp only [Act.put, List.setIfInBounds_toArray, List.set_cons_zero, List.set_cons_succ, i64_w, i32_w]
                                      rfl
                                    refine pure_ (i := 7) (N := some 56) (v := ?_) (a' := ?_) #[true, true, true, true, true, true, true, true, false, false, false, false, false, false, false, false] rfl rfl (any_of HT_.out (by kernel_rfl)) (fun _ _ _ h => h) (Or.inl ⟨by rfl, ?_⟩) ?_ ?_
                                    rotate_left
                                    · intro w'
                                      go_simp
                                      with_reducible rfl
                                    rotate_left
                                    · simp only [Act.put, List.setIfInBounds_toArray, List.set_cons_zero, List.set_cons_succ, i64_w, i32_w]
                                      rfl
                                    refine pure_ (i := 8) (N := some 57) (v := ?_) (a' := ?_) #[true, true, true, true, true, true, true, true, true, false, false, false, false, false, false, false] rfl rfl (any_of HT_.out (by kernel_rfl)) (fun _ _ _ h => h) (Or.inl ⟨by rfl, ?_⟩) ?_ ?_
                                    rotate_left
                                    · intro w'
                                      go_simp
                                      with_reducible rfl
                                    rotate_left
                                    · simp only [Act.put, List.setIfInBounds_toArray, List.set_cons_zero, List.set_cons_succ, i64_w, i32_w]
                                      rfl
                                    refine pure_ (i := 9) (N := some 58) (v := ?_) (a' := ?_) #[true, true, true, true, true, true, true, true, true, true, false, false, false, false, false, false] rfl rfl (any_of HT_.out (by kernel_rfl)) (fun _ _ _ h => h) (Or.inl ⟨by rfl, ?_⟩) ?_ ?_
                                    rotate_left
                                    · intro w'
                                      go_simp
                                      with_reducible rfl
                                    rotate_left
                                    · simp only [Act.put, List.setIfInBounds_toArray, List.set_cons_zero, List.set_cons_succ, i64_w, i32_w]
                                      rfl
                                    refine pure_ (i := 10) (N := some 59) (v := ?_) (a' := ?_) #[true, true, true, true, true, true, true, true, true, true, true, false, false, false, false, false] rfl rfl (any_of HT_.out (by kernel_rfl)) (fun _ _ _ h => h) (Or.inl ⟨by rfl, ?_⟩) ?_ ?_
                                    rotate_left
                                    · intro w'
                                      go_simp
                                      with_reducible rfl
                                    rotate_left
                                    · simp only [Act.put, List.setIfInBounds_toArray, List.set_cons_zero, List.set_cons_succ, i64_w, i32_w]
                                      rfl
                                    refine pure_ (i := 11) (N := some 60) (v := ?_) (a' := ?_) #[true, true, true, true, true, true, true, true, true, true, true, true, false, false, false, false] rfl rfl (any_of HT_.out (by kernel_rfl)) (fun _ _ _ h => h) (Or.inl ⟨by rfl, ?_⟩) ?_ ?_
                                    rotate_left
                                    · intro w'
                                      go_simp
                                      with_reducible rfl
                                    rotate_left
                                    · simp only [Act.put, List.setIfInBounds_toArray, List.set_cons_zero, List.set_cons_succ, i64_w, i32_w]
                                      rfl
                                    refine pure_ (i := 12) (N := some 61) (v := ?_) (a' := ?_) #[true, true, true, true, true, true, true, true, true, true, true, true, true, false, false, false] rfl rfl (any_of HT_.out (by kernel_rfl)) (fun _ _ _ h => h) (Or.inl ⟨by rfl, ?_⟩) ?_ ?_
                                    rotate_left
                                    · intro w'
                                      go_simp
                                      with_reducible rfl
                                    rotate_left
                                    · simp only [Act.put, List.setIfInBounds_toArray, List.set_cons_zero, List.set_cons_succ, i64_w, i32_w]
                                      rfl
                                    refine pure_ (i := 13) (N := some 62) (v := ?_) (a' := ?_) #[true, true, true, true, true, true, true, true, true, true, true, true, true, true, false, false] rfl rfl (any_of HT_.out (by kernel_rfl)) (fun _ _ _ h => h) (Or.inl ⟨by rfl, ?_⟩) ?_ ?_
                                    rotate_left
                                    · intro w'
                                      go_simp
                                      with_reducible rfl
                                    rotate_left
                                    · simp only [Act.put, List.setIfInBounds_toArray, List.set_cons_zero, List.set_cons_succ, i64_w, i32_w]
                                      rfl
                                    refine one_ (i := 14) (N := some 10) #[true, true, true, true, true, true, true, true, true, true, true, true, true, true, true, false] rfl rfl (one_of HT_.out (by kernel_rfl)) (by decide) (fun K hK => ?_)
                                    refine box_step ?hg (N := 10) ?hd (cs := #[.string (⟨#[]⟩ : ByteArray), .string (⟨#[]⟩ : ByteArray)]) (t := 41) ?hr ?_; (case hd => rfl); (case hg => rfl); (case hr => first | (go_simp; done) | (go_simp; rfl))
                                    intro gb347 hg w26 hbox hb
                                    have n0_ := Aside0.mk (Kd.R_below (Kd.R_elderB (by (with_reducible repeat (first | apply Kd.R_alloc | apply Kd.R_drewN | apply Kd.R_drew)); exact HO_8.out) gb347 (Nat.le_of_eq hg.symm)) hb)
                                    have n1_ := Aside0.mk (below_step (by repeat (first | (with_reducible first | exact HB.out | apply below_alloc | apply pw_below_drewN | apply below_drew1) | exact HB.out)) hb)
                                    have n2_ := Aside0.mk (hbox)
                                    have n3_ := Aside0.mk ((by rw [hg]; exact (below_size (by repeat (first | (with_reducible first | exact HB.out | apply below_alloc | apply pw_below_drewN | apply below_drew1) | exact HB.out))) : w.heap.size ≤ gb347))
                                    have n4_ := Aside0.mk ((by rw [hg]; exact (below_size (by repeat (first | (with_reducible first | exact HB.out | apply below_alloc | apply pw_below_drewN | apply below_drew1) | exact HB.out))) : w.heap.size ≤ gb347))
                                    clear HO_8
                                    clear HB
                                    have HO_8 := n0_
                                    have HB := n1_
                                    have BK347 := n2_
                                    have GW347 := n3_
                                    have GE347 := n4_
                                    clear n0_ n1_ n2_ n3_ n4_
                                    clear hb hbox hg
                                    refine hK.out _ _ trivial (fun hHeld => ?_)
                                    clear hK K
                                    refine norm_ (a' := ?_) ?_ ?_
                                    rotate_left
                                    · show Act.put _ (some 10) _ = _
                                      simp only [Act.put, List.setIfInBounds_toArray, List.set_cons_zero, List.set_cons_succ, i64_w, i32_w]
                                      rfl
                                    refine one_ (i := 15) (N := none) #[true, true, true, true, true, true, true, true, true, true, true, true, true, true, true, true] rfl rfl (one_of HT_.out (by kernel_rfl)) (by decide) (fun K hK => ?_)
                                    have hs27 : w26.cell? ⟨gb347, 0, none⟩ = some (.string (⟨#[]⟩ : ByteArray)) := (blk_cell BK347.out 0).trans rfl
                                    have hfs27 := blk_frozen BK347.out 0
                                    have hs28 : w26.cell? ⟨gb347, 1, none⟩ = some (.string (⟨#[]⟩ : ByteArray)) := (blk_cell BK347.out 1).trans rfl
                                    have hfs28 := blk_frozen BK347.out 1
                                    refine skip_ (w1 := ?_) (by rfl) rfl ?_ ?_
                                    rotate_left
                                    · go_simp
                                      rfl
                                    refine hK.out _ _ trivial (fun hHeld => ?_)
                                    clear hK K
                                    refine done_ (done_of HT_.out (by kernel_rfl)) ?_
                                    have hcz29_0 : w26.cell? ⟨gb347, 0, none⟩ = some (.string (⟨#[]⟩ : ByteArray)) := (blk_cell BK347.out 0).trans rfl
                                    have hcz29_1 : w26.cell? ⟨gb347, 1, none⟩ = some (.string (⟨#[]⟩ : ByteArray)) := (blk_cell BK347.out 1).trans rfl
                                    have hfz29_0 := blk_frozen BK347.out 0
                                    have hfz29_1 := blk_frozen BK347.out 1
                                    have hqz29 : ∀ X Y Z : Value, (((w26.setCell ⟨gb347, 0, none⟩ X).setCell ⟨gb347, 1, none⟩ Y).setCell ⟨gb347, 1, none⟩ Z).cell? ⟨gb347, 1, none⟩ = some Z := fun X Y Z => (blk_cell (blk_set (blk_set (blk_set BK347.out 0 X) 1 Y) 1 Z) 1).trans rfl
                                    try go_wp2_with (first | ((with_reducible refine gate_builtin (b := .append) (xs := #[.tmp 68, .tmp 70]) rfl ?_); (try (refine gate_guard (by rfl) ?_; dsimp only)); at_builtin; refine Kd.R_append k41 (w0 := w) w.heap.size rfl (.tmp 68) (.tmp 70) 22 41 (.agg #[(.string ⟨#[]⟩), (.string ⟨#[]⟩)]) 32 rfl Try.underlying22 info41 rfl (by decide) (by omega) u8 x8_2 (⟨(⟨#[65, 66, 67, 68, 69, 70, 71, 72, 73, 74, 75, 76, 77, 78, 79, 80, 81, 82, 83, 84, 85, 86, 87, 88, 89, 90]⟩ : ByteArray).extract (x9_2 : Int).toNat ((ji17) : Int).toNat, a1⟩ : S41) [.string ((⟨#[65, 66, 67, 68, 69, 70, 71, 72, 73, 74, 75, 76, 77, 78, 79, 80, 81, 82, 83, 84, 85, 86, 87, 88, 89, 90]⟩ : ByteArray).extract (x9_2 : Int).toNat ((ji17) : Int).toNat), .string a1] (fun k_ => k_ ≠ gb347) (fun _ => False) rfl (by first | (go_simp; done) | (go_simp; rfl)) ?aP (fun _ hk => hk.elim) ?aF ?aO ?aB ?aS ?aL ?_; (case aP => exact k41_mkM _ _ _ (⟨(⟨#[65, 66, 67, 68, 69, 70, 71, 72, 73, 74, 75, 76, 77, 78, 79, 80, 81, 82, 83, 84, 85, 86, 87, 88, 89, 90]⟩ : ByteArray).extract (x9_2 : Int).toNat ((ji17) : Int).toNat, a1⟩ : S41)); (case aB => exact (by repeat (first | (with_reducible first | exact HB.out | apply below_alloc | apply pw_below_drewN | apply below_drew1 | refine below_set ?_ GE347.out) | exact HB.out))); (case aF => exact (fun k_ hk => Kd.freshB (g := gb347) (o := .cells #[.string ((⟨#[65, 66, 67, 68, 69, 70, 71, 72, 73, 74, 75, 76, 77, 78, 79, 80, 81, 82, 83, 84, 85, 86, 87, 88, 89, 90]⟩ : ByteArray).extract (x9_2 : Int).toNat ((ji17) : Int).toNat), .string a1] 41 (0, 0)) (by (with_reducible repeat (first | refine blk_drewN ?_ _ | refine blk_drew ?_ | refine blk_alloc ?_ _)); refine blk_put (cs := #[.string ((⟨#[65, 66, 67, 68, 69, 70, 71, 72, 73, 74, 75, 76, 77, 78, 79, 80, 81, 82, 83, 84, 85, 86, 87, 88, 89, 90]⟩ : ByteArray).extract (x9_2 : Int).toNat ((ji17) : Int).toNat), .string (((⟨#[60, 36, 123]⟩ : ByteArray) ++ ((⟨#[65, 66, 67, 68, 69, 70, 71, 72, 73, 74, 75, 76, 77, 78, 79, 80, 81, 82, 83, 84, 85, 86, 87, 88, 89, 90]⟩ : ByteArray).extract ((ji17) : Int).toNat ((wrap64 (x9_2 + 2)) : Int).toNat)) ++ (⟨#[125, 62]⟩ : ByteArray))]) ?_ 1 _ rfl; (with_reducible repeat (first | refine blk_drewN ?_ _ | refine blk_drew ?_ | refine blk_alloc ?_ _)); refine blk_put (cs := #[.string ((⟨#[65, 66, 67, 68, 69, 70, 71, 72, 73, 74, 75, 76, 77, 78, 79, 80, 81, 82, 83, 84, 85, 86, 87, 88, 89, 90]⟩ : ByteArray).extract (x9_2 : Int).toNat ((ji17) : Int).toNat), .string (⟨#[]⟩ : ByteArray)]) ?_ 1 _ rfl; (with_reducible repeat (first | refine blk_drewN ?_ _ | refine blk_drew ?_ | refine blk_alloc ?_ _)); refine blk_put (cs := #[.string (⟨#[]⟩ : ByteArray), .string (⟨#[]⟩ : ByteArray)]) ?_ 0 _ rfl; (with_reducible repeat (first | refine blk_drewN ?_ _ | refine blk_drew ?_ | refine blk_alloc ?_ _)); exact BK347.out) k_ hk)); (case aO => exact (by (with_reducible repeat (first | apply Kd.R_alloc | apply Kd.R_drewN | apply Kd.R_drew)); exact Kd.R_mono (Kd.R_far (p := ⟨gb347, 1, none⟩) (Kd.R_far (p := ⟨gb347, 1, none⟩) (Kd.R_far (p := ⟨gb347, 0, none⟩) (Kd.R_mono HO_8.out (fun k_ hk => (⟨hk, hk.2⟩ : _ ∧ k_ ≠ gb347))) (fun _ hk => hk.2) (.string ((⟨#[65, 66, 67, 68, 69, 70, 71, 72, 73, 74, 75, 76, 77, 78, 79, 80, 81, 82, 83, 84, 85, 86, 87, 88, 89, 90]⟩ : ByteArray).extract (x9_2 : Int).toNat ((ji17) : Int).toNat))) (fun _ hk => hk.2) (.string (((⟨#[60, 36, 123]⟩ : ByteArray) ++ ((⟨#[65, 66, 67, 68, 69, 70, 71, 72, 73, 74, 75, 76, 77, 78, 79, 80, 81, 82, 83, 84, 85, 86, 87, 88, 89, 90]⟩ : ByteArray).extract ((ji17) : Int).toNat ((wrap64 (x9_2 + 2)) : Int).toNat)) ++ (⟨#[125, 62]⟩ : ByteArray)))) (fun _ hk => hk.2) (.string a1)) (fun _ hk => hk.1.2))); (case aS => exact (below_size (by repeat (first | (with_reducible first | exact HB.out | apply below_alloc | apply pw_below_drewN | apply below_drew1 | refine below_set ?_ GE347.out) | exact HB.out)))); (case aL => have := LMc24.out; omega); intro v349 w30 ho hb hg hat; rw [← Ny348.out] at ho; have n0_ := Aside0.mk (blk_grown (g := gb347) (o := .cells #[.string ((⟨#[65, 66, 67, 68, 69, 70, 71, 72, 73, 74, 75, 76, 77, 78, 79, 80, 81, 82, 83, 84, 85, 86, 87, 88, 89, 90]⟩ : ByteArray).extract (x9_2 : Int).toNat ((ji17) : Int).toNat), .string a1] 41 (0, 0)) (by (with_reducible repeat (first | refine blk_drewN ?_ _ | refine blk_drew ?_ | refine blk_alloc ?_ _)); refine blk_put (cs := #[.string ((⟨#[65, 66, 67, 68, 69, 70, 71, 72, 73, 74, 75, 76, 77, 78, 79, 80, 81, 82, 83, 84, 85, 86, 87, 88, 89, 90]⟩ : ByteArray).extract (x9_2 : Int).toNat ((ji17) : Int).toNat), .string (((⟨#[60, 36, 123]⟩ : ByteArray) ++ ((⟨#[65, 66, 67, 68, 69, 70, 71, 72, 73, 74, 75, 76, 77, 78, 79, 80, 81, 82, 83, 84, 85, 86, 87, 88, 89, 90]⟩ : ByteArray).extract ((ji17) : Int).toNat ((wrap64 (x9_2 + 2)) : Int).toNat)) ++ (⟨#[125, 62]⟩ : ByteArray))]) ?_ 1 _ rfl; (with_reducible repeat (first | refine blk_drewN ?_ _ | refine blk_drew ?_ | refine blk_alloc ?_ _)); refine blk_put (cs := #[.string ((⟨#[65, 66, 67, 68, 69, 70, 71, 72, 73, 74, 75, 76, 77, 78, 79, 80, 81, 82, 83, 84, 85, 86, 87, 88, 89, 90]⟩ : ByteArray).extract (x9_2 : Int).toNat ((ji17) : Int).toNat), .string (⟨#[]⟩ : ByteArray)]) ?_ 1 _ rfl; (with_reducible repeat (first | refine blk_drewN ?_ _ | refine blk_drew ?_ | refine blk_alloc ?_ _)); refine blk_put (cs := #[.string (⟨#[]⟩ : ByteArray), .string (⟨#[]⟩ : ByteArray)]) ?_ 0 _ rfl; (with_reducible repeat (first | refine blk_drewN ?_ _ | refine blk_drew ?_ | refine blk_alloc ?_ _)); exact BK347.out) hg (Kd.R_away HO_8.out (fun _ hk => hk.2))); have n1_ := Aside0.mk (hb); have n2_ := Aside0.mk (ho); clear BK347; clear HB; clear HO_8; have BK347 := n0_; have HB := n1_; have HO350 := n2_; clear n0_ n1_ n2_; clear ho hb hg hat))
                                    go_roundg k2
                                    case measure => have := HK1.out; have := HK2.out; omega
                                    case rel => exact ⟨(y348), (ji17), (by first | rfl | (simp; done) | (simp only [← hji17] <;> (first | rfl | simp)) | (simp [*]; done)), H', ⟨by have := HK1.out; have := HK2.out; omega⟩, ⟨by (with_reducible repeat (first | apply Kd.R_alloc | apply Kd.R_drewN | apply Kd.R_drew)); exact Kd.R_mono HO350.out (fun _ hk => trivial)⟩, ⟨by repeat (first | (with_reducible first | exact HB.out | apply below_alloc | apply pw_below_drewN | apply below_drew1 | refine below_set ?_ GE347.out) | exact HB.out)⟩⟩
                                  · rw [if_neg c24] at H
                                    exact absurd H (by simp)
                                · rw [if_neg c23] at H
                                  have c23b0 : (x9_2 == (wrap64 ((wrap64 ((Int.tmod t346 4) + 16)) - 1))) = false := beq_eq_false_iff_ne.mpr c23
                                  have c23b1 : (x9_2 != (wrap64 ((wrap64 ((Int.tmod t346 4) + 16)) - 1))) = true := bne_iff_ne.mpr c23
                                  by_cases c31 : x8_2.length < 4398046511104
                                  · rw [if_pos c31] at H
                                    have LMc31 := Aside0.mk c31
                                    clear c31
                                    obtain ⟨y351, hy351⟩ : ∃ y_ : List (S41), y_ = (x8_2 ++ [(⟨(⟨#[65, 66, 67, 68, 69, 70, 71, 72, 73, 74, 75, 76, 77, 78, 79, 80, 81, 82, 83, 84, 85, 86, 87, 88, 89, 90]⟩ : ByteArray).extract (x9_2 : Int).toNat ((ji17) : Int).toNat, ((⟨#[60, 36, 123]⟩ : ByteArray) ++ ((⟨#[65, 66, 67, 68, 69, 70, 71, 72, 73, 74, 75, 76, 77, 78, 79, 80, 81, 82, 83, 84, 85, 86, 87, 88, 89, 90]⟩ : ByteArray).extract ((ji17) : Int).toNat ((wrap64 (x9_2 + 2)) : Int).toNat)) ++ (⟨#[125, 62]⟩ : ByteArray)⟩ : S41)]) := ⟨_, rfl⟩
                                    replace H : (shuttlelaw10_VarsChains.l1 k2 a1 (wrap64 ((wrap64 ((Int.tmod t346 4) + 16)) - 1)) (⟨#[65, 66, 67, 68, 69, 70, 71, 72, 73, 74, 75, 76, 77, 78, 79, 80, 81, 82, 83, 84, 85, 86, 87, 88, 89, 90]⟩ : ByteArray) y351 ji17) = some r := by first | (rw [hy351]; with_reducible exact H) | (have H2_ := (Option.bind_some _ _).symm.trans H; rw [hy351]; with_reducible exact H2_) | (have H2_ := (Option.bind_some _ _).symm.trans H; with_reducible exact H2_) | with_reducible exact H | (rw [hy351]; exact H) | exact H
                                    have Ny351 := Aside0.mk hy351
                                    clear hy351
                                    have H' := Aside0.mk H
                                    clear H
                                    try go_wp2
                                    have n0_ := Aside0.mk (Kd.R_drew HO_8.out)
                                    have n1_ := Aside0.mk (below_drew1 HB.out)
                                    clear HO_8
                                    clear HB
                                    have HO_8 := n0_
                                    have HB := n1_
                                    clear n0_ n1_
                                    refine start_ (n := 16) (S := fun w' => True) (ds := []) #[false, false, false, false, false, false, false, false, false, false, false, false, false, false, false, false] (by kernel_rfl) rfl rfl trivial (fun hHeld => ?_); refine with_tabW shuttlelaw10_VarsChains.tab14 shuttlelaw10_VarsChains.bits14 (fun HT_ HW_ => ?_)
                                    generalize wr.drew = w32 at HO_8 HB hHeld ⊢
                                    refine pure_ (i := 0) (N := some 49) (v := ?_) (a' := ?_) #[true, false, false, false, false, false, false, false, false, false, false, false, false, false, false, false] rfl rfl (any_of HT_.out (by kernel_rfl)) (fun _ _ _ h => h) (Or.inl ⟨by rfl, ?_⟩) ?_ ?_
                                    rotate_left
                                    · intro w'
                                      go_simp
                                      with_reducible rfl
                                    rotate_left
                                    · simp only [Act.put, List.setIfInBounds_toArray, List.set_cons_zero, List.set_cons_succ, i64_w, i32_w]
                                      rfl
                                    refine pure_ (i := 1) (N := some 50) (v := ?_) (a' := ?_) #[true, true, false, false, false, false, false, false, false, false, false, false, false, false, false, false] rfl rfl (any_of HT_.out (by kernel_rfl)) (fun _ _ _ h => h) (Or.inl ⟨by rfl, ?_⟩) ?_ ?_
                                    rotate_left
                                    · intro w'
                                      go_simp
                                      with_reducible rfl
                                    rotate_left
                                    · simp only [Act.put, List.setIfInBounds_toArray, List.set_cons_zero, List.set_cons_succ, i64_w, i32_w]
                                      rfl
                                    refine pure_ (i := 2) (N := some 51) (v := ?_) (a' := ?_) #[true, true, true, false, false, false, false, false, false, false, false, false, false, false, false, false] rfl rfl (any_of HT_.out (by kernel_rfl)) (fun _ _ _ h => h) (Or.inl ⟨by rfl, ?_⟩) ?_ ?_
                                    rotate_left
                                    · intro w'
                                      go_simp
                                      with_reducible rfl
                                    rotate_left
                                    · simp only [Act.put, List.setIfInBounds_toArray, List.set_cons_zero, List.set_cons_succ, i64_w, i32_w]
                                      rfl
                                    refine pure_ (i := 3) (N := some 52) (v := ?_) (a' := ?_) #[true, true, true, true, false, false, false, false, false, false, false, false, false, false, false, false] rfl rfl (any_of HT_.out (by kernel_rfl)) (fun _ _ _ h => h) (Or.inl ⟨by rfl, ?_⟩) ?_ ?_
                                    rotate_left
                                    · intro w'
                                      go_simp
                                      with_reducible rfl
                                    rotate_left
                                    · simp only [Act.put, List.setIfInBounds_toArray, List.set_cons_zero, List.set_cons_succ, i64_w, i32_w]
                                      rfl
                                    refine pure_ (i := 4) (N := some 53) (v := ?_) (a' := ?_) #[true, true, true, true, true, false, false, false, false, false, false, false, false, false, false, false] rfl rfl (any_of HT_.out (by kernel_rfl)) (fun _ _ _ h => h) (Or.inl ⟨by rfl, ?_⟩) ?_ ?_
                                    rotate_left
                                    · intro w'
                                      go_simp
                                      with_reducible rfl
                                    rotate_left
                                    · simp only [Act.put, List.setIfInBounds_toArray, List.set_cons_zero, List.set_cons_succ, i64_w, i32_w]
                                      rfl
                                    refine pure_ (i := 5) (N := some 54) (v := ?_) (a' := ?_) #[true, true, true, true, true, true, false, false, false, false, false, false, false, false, false, false] rfl rfl (any_of HT_.out (by kernel_rfl)) (fun _ _ _ h => h) (Or.inl ⟨by rfl, ?_⟩) ?_ ?_
                                    rotate_left
                                    · intro w'
                                      go_simp
                                      with_reducible rfl
                                    rotate_left
                                    · simp only [Act.put, List.setIfInBounds_toArray, List.set_cons_zero, List.set_cons_succ, i64_w, i32_w]
                                      rfl
                                    refine pure_ (i := 6) (N := some 55) (v := ?_) (a' := ?_) #[true, true, true, true, true, true, true, false, false, false, false, false, false, false, false, false] rfl rfl (any_of HT_.out (by kernel_rfl)) (fun _ _ _ h => h) (Or.inl ⟨by rfl, ?_⟩) ?_ ?_
                                    rotate_left
                                    · intro w'
                                      go_simp
                                      with_reducible rfl
                                    rotate_left
                                    · simp only [Act.put, List.setIfInBounds_toArray, List.set_cons_zero, List.set_cons_succ, i64_w, i32_w]
                                      rfl
                                    refine pure_ (i := 7) (N := some 56) (v := ?_) (a' := ?_) #[true, true, true, true, true, true, true, true, false, false, false, false, false, false, false, false] rfl rfl (any_of HT_.out (by kernel_rfl)) (fun _ _ _ h => h) (Or.inl ⟨by rfl, ?_⟩) ?_ ?_
                                    rotate_left
                                    · intro w'
                                      go_simp
                                      with_reducible rfl
                                    rotate_left
                                    · simp only [Act.put, List.setIfInBounds_toArray, List.set_cons_zero, List.set_cons_succ, i64_w, i32_w]
                                      rfl
                                    refine pure_ (i := 8) (N := some 57) (v := ?_) (a' := ?_) #[true, true, true, true, true, true, true, true, true, false, false, false, false, false, false, false] rfl rfl (any_of HT_.out (by kernel_rfl)) (fun _ _ _ h => h) (Or.inl ⟨by rfl, ?_⟩) ?_ ?_
                                    rotate_left
                                    · intro w'
                                      go_simp
                                      with_reducible rfl
                                    rotate_left
                                    · simp only [Act.put, List.setIfInBounds_toArray, List.set_cons_zero, List.set_cons_succ, i64_w, i32_w]
                                      rfl
                                    refine pure_ (i := 9) (N := some 58) (v := ?_) (a' := ?_) #[true, true, true, true, true, true, true, true, true, true, false, false, false, false, false, false] rfl rfl (any_of HT_.out (by kernel_rfl)) (fun _ _ _ h => h) (Or.inl ⟨by rfl, ?_⟩) ?_ ?_
                                    rotate_left
                                    · intro w'
                                      go_simp
                                      with_reducible rfl
                                    rotate_left
                                    · simp only [Act.put, List.setIfInBounds_toArray, List.set_cons_zero, List.set_cons_succ, i64_w, i32_w]
                                      rfl
                                    refine pure_ (i := 10) (N := some 59) (v := ?_) (a' := ?_) #[true, true, true, true, true, true, true, true, true, true, true, false, false, false, false, false] rfl rfl (any_of HT_.out (by kernel_rfl)) (fun _ _ _ h => h) (Or.inl ⟨by rfl, ?_⟩) ?_ ?_
                                    rotate_left
                                    · intro w'
                                      go_simp
                                      with_reducible rfl
                                    rotate_left
                                    · simp only [Act.put, List.setIfInBounds_toArray, List.set_cons_zero, List.set_cons_succ, i64_w, i32_w]
                                      rfl
                                    refine pure_ (i := 11) (N := some 60) (v := ?_) (a' := ?_) #[true, true, true, true, true, true, true, true, true, true, true, true, false, false, false, false] rfl rfl (any_of HT_.out (by kernel_rfl)) (fun _ _ _ h => h) (Or.inl ⟨by rfl, ?_⟩) ?_ ?_
                                    rotate_left
                                    · intro w'
                                      go_simp
                                      with_reducible rfl
                                    rotate_left
                                    · simp only [Act.put, List.setIfInBounds_toArray, List.set_cons_zero, List.set_cons_succ, i64_w, i32_w]
                                      rfl
                                    refine pure_ (i := 12) (N := some 61) (v := ?_) (a' := ?_) #[true, true, true, true, true, true, true, true, true, true, true, true, true, false, false, false] rfl rfl (any_of HT_.out (by kernel_rfl)) (fun _ _ _ h => h) (Or.inl ⟨by rfl, ?_⟩) ?_ ?_
                                    rotate_left
                                    · intro w'
                                      go_simp
                                      with_reducible rfl
                                    rotate_left
                                    · simp only [Act.put, List.setIfInBounds_toArray, List.set_cons_zero, List.set_cons_succ, i64_w, i32_w]
                                      rfl
                                    refine pure_ (i := 13) (N := some 62) (v := ?_) (a' := ?_) #[true, true, true, true, true, true, true, true, true, true, true, true, true, true, false, false] rfl rfl (any_of HT_.out (by kernel_rfl)) (fun _ _ _ h => h) (Or.inl ⟨by rfl, ?_⟩) ?_ ?_
                                    rotate_left
                                    · intro w'
                                      go_simp
                                      with_reducible rfl
                                    rotate_left
                                    · simp only [Act.put, List.setIfInBounds_toArray, List.set_cons_zero, List.set_cons_succ, i64_w, i32_w]
                                      rfl
                                    refine one_ (i := 14) (N := some 10) #[true, true, true, true, true, true, true, true, true, true, true, true, true, true, true, false] rfl rfl (one_of HT_.out (by kernel_rfl)) (by decide) (fun K hK => ?_)
                                    refine box_step ?hg (N := 10) ?hd (cs := #[.string (⟨#[]⟩ : ByteArray), .string (⟨#[]⟩ : ByteArray)]) (t := 41) ?hr ?_; (case hd => rfl); (case hg => rfl); (case hr => first | (go_simp; done) | (go_simp; rfl))
                                    intro gb347 hg w33 hbox hb
                                    have n0_ := Aside0.mk (Kd.R_below (Kd.R_elderB (by (with_reducible repeat (first | apply Kd.R_alloc | apply Kd.R_drewN | apply Kd.R_drew)); exact HO_8.out) gb347 (Nat.le_of_eq hg.symm)) hb)
                                    have n1_ := Aside0.mk (below_step (by repeat (first | (with_reducible first | exact HB.out | apply below_alloc | apply pw_below_drewN | apply below_drew1) | exact HB.out)) hb)
                                    have n2_ := Aside0.mk (hbox)
                                    have n3_ := Aside0.mk ((by rw [hg]; exact (below_size (by repeat (first | (with_reducible first | exact HB.out | apply below_alloc | apply pw_below_drewN | apply below_drew1) | exact HB.out))) : w.heap.size ≤ gb347))
                                    have n4_ := Aside0.mk ((by rw [hg]; exact (below_size (by repeat (first | (with_reducible first | exact HB.out | apply below_alloc | apply pw_below_drewN | apply below_drew1) | exact HB.out))) : w.heap.size ≤ gb347))
                                    clear HO_8
                                    clear HB
                                    have HO_8 := n0_
                                    have HB := n1_
                                    have BK347 := n2_
                                    have GW347 := n3_
                                    have GE347 := n4_
                                    clear n0_ n1_ n2_ n3_ n4_
                                    clear hb hbox hg
                                    refine hK.out _ _ trivial (fun hHeld => ?_)
                                    clear hK K
                                    refine norm_ (a' := ?_) ?_ ?_
                                    rotate_left
                                    · show Act.put _ (some 10) _ = _
                                      simp only [Act.put, List.setIfInBounds_toArray, List.set_cons_zero, List.set_cons_succ, i64_w, i32_w]
                                      rfl
                                    refine one_ (i := 15) (N := none) #[true, true, true, true, true, true, true, true, true, true, true, true, true, true, true, true] rfl rfl (one_of HT_.out (by kernel_rfl)) (by decide) (fun K hK => ?_)
                                    have hs34 : w33.cell? ⟨gb347, 0, none⟩ = some (.string (⟨#[]⟩ : ByteArray)) := (blk_cell BK347.out 0).trans rfl
                                    have hfs34 := blk_frozen BK347.out 0
                                    have hs35 : w33.cell? ⟨gb347, 1, none⟩ = some (.string (⟨#[]⟩ : ByteArray)) := (blk_cell BK347.out 1).trans rfl
                                    have hfs35 := blk_frozen BK347.out 1
                                    refine skip_ (w1 := ?_) (by rfl) rfl ?_ ?_
                                    rotate_left
                                    · go_simp
                                      rfl
                                    refine hK.out _ _ trivial (fun hHeld => ?_)
                                    clear hK K
                                    refine done_ (done_of HT_.out (by kernel_rfl)) ?_
                                    have hcz36_0 : w33.cell? ⟨gb347, 0, none⟩ = some (.string (⟨#[]⟩ : ByteArray)) := (blk_cell BK347.out 0).trans rfl
                                    have hcz36_1 : w33.cell? ⟨gb347, 1, none⟩ = some (.string (⟨#[]⟩ : ByteArray)) := (blk_cell BK347.out 1).trans rfl
                                    have hfz36_0 := blk_frozen BK347.out 0
                                    have hfz36_1 := blk_frozen BK347.out 1
                                    have hqz36 : ∀ X Y Z : Value, (((w33.setCell ⟨gb347, 0, none⟩ X).setCell ⟨gb347, 1, none⟩ Y).setCell ⟨gb347, 1, none⟩ Z).cell? ⟨gb347, 1, none⟩ = some Z := fun X Y Z => (blk_cell (blk_set (blk_set (blk_set BK347.out 0 X) 1 Y) 1 Z) 1).trans rfl
                                    try go_wp2_with (first | ((with_reducible refine gate_builtin (b := .append) (xs := #[.tmp 68, .tmp 70]) rfl ?_); (try (refine gate_guard (by rfl) ?_; dsimp only)); at_builtin; refine Kd.R_append k41 (w0 := w) w.heap.size rfl (.tmp 68) (.tmp 70) 22 41 (.agg #[(.string ⟨#[]⟩), (.string ⟨#[]⟩)]) 32 rfl Try.underlying22 info41 rfl (by decide) (by omega) u8 x8_2 (⟨(⟨#[65, 66, 67, 68, 69, 70, 71, 72, 73, 74, 75, 76, 77, 78, 79, 80, 81, 82, 83, 84, 85, 86, 87, 88, 89, 90]⟩ : ByteArray).extract (x9_2 : Int).toNat ((ji17) : Int).toNat, ((⟨#[60, 36, 123]⟩ : ByteArray) ++ ((⟨#[65, 66, 67, 68, 69, 70, 71, 72, 73, 74, 75, 76, 77, 78, 79, 80, 81, 82, 83, 84, 85, 86, 87, 88, 89, 90]⟩ : ByteArray).extract ((ji17) : Int).toNat ((wrap64 (x9_2 + 2)) : Int).toNat)) ++ (⟨#[125, 62]⟩ : ByteArray)⟩ : S41) [.string ((⟨#[65, 66, 67, 68, 69, 70, 71, 72, 73, 74, 75, 76, 77, 78, 79, 80, 81, 82, 83, 84, 85, 86, 87, 88, 89, 90]⟩ : ByteArray).extract (x9_2 : Int).toNat ((ji17) : Int).toNat), .string (((⟨#[60, 36, 123]⟩ : ByteArray) ++ ((⟨#[65, 66, 67, 68, 69, 70, 71, 72, 73, 74, 75, 76, 77, 78, 79, 80, 81, 82, 83, 84, 85, 86, 87, 88, 89, 90]⟩ : ByteArray).extract ((ji17) : Int).toNat ((wrap64 (x9_2 + 2)) : Int).toNat)) ++ (⟨#[125, 62]⟩ : ByteArray))] (fun k_ => k_ ≠ gb347) (fun _ => False) rfl (by first | (go_simp; done) | (go_simp; rfl)) ?aP (fun _ hk => hk.elim) ?aF ?aO ?aB ?aS ?aL ?_; (case aP => exact k41_mkM _ _ _ (⟨(⟨#[65, 66, 67, 68, 69, 70, 71, 72, 73, 74, 75, 76, 77, 78, 79, 80, 81, 82, 83, 84, 85, 86, 87, 88, 89, 90]⟩ : ByteArray).extract (x9_2 : Int).toNat ((ji17) : Int).toNat, ((⟨#[60, 36, 123]⟩ : ByteArray) ++ ((⟨#[65, 66, 67, 68, 69, 70, 71, 72, 73, 74, 75, 76, 77, 78, 79, 80, 81, 82, 83, 84, 85, 86, 87, 88, 89, 90]⟩ : ByteArray).extract ((ji17) : Int).toNat ((wrap64 (x9_2 + 2)) : Int).toNat)) ++ (⟨#[125, 62]⟩ : ByteArray)⟩ : S41)); (case aB => exact (by repeat (first | (with_reducible first | exact HB.out | apply below_alloc | apply pw_below_drewN | apply below_drew1 | refine below_set ?_ GE347.out) | exact HB.out))); (case aF => exact (fun k_ hk => Kd.freshB (g := gb347) (o := .cells #[.string ((⟨#[65, 66, 67, 68, 69, 70, 71, 72, 73, 74, 75, 76, 77, 78, 79, 80, 81, 82, 83, 84, 85, 86, 87, 88, 89, 90]⟩ : ByteArray).extract (x9_2 : Int).toNat ((ji17) : Int).toNat), .string (((⟨#[60, 36, 123]⟩ : ByteArray) ++ ((⟨#[65, 66, 67, 68, 69, 70, 71, 72, 73, 74, 75, 76, 77, 78, 79, 80, 81, 82, 83, 84, 85, 86, 87, 88, 89, 90]⟩ : ByteArray).extract ((ji17) : Int).toNat ((wrap64 (x9_2 + 2)) : Int).toNat)) ++ (⟨#[125, 62]⟩ : ByteArray))] 41 (0, 0)) (by (with_reducible repeat (first | refine blk_drewN ?_ _ | refine blk_drew ?_ | refine blk_alloc ?_ _)); refine blk_put (cs := #[.string ((⟨#[65, 66, 67, 68, 69, 70, 71, 72, 73, 74, 75, 76, 77, 78, 79, 80, 81, 82, 83, 84, 85, 86, 87, 88, 89, 90]⟩ : ByteArray).extract (x9_2 : Int).toNat ((ji17) : Int).toNat), .string (⟨#[]⟩ : ByteArray)]) ?_ 1 _ rfl; (with_reducible repeat (first | refine blk_drewN ?_ _ | refine blk_drew ?_ | refine blk_alloc ?_ _)); refine blk_put (cs := #[.string (⟨#[]⟩ : ByteArray), .string (⟨#[]⟩ : ByteArray)]) ?_ 0 _ rfl; (with_reducible repeat (first | refine blk_drewN ?_ _ | refine blk_drew ?_ | refine blk_alloc ?_ _)); exact BK347.out) k_ hk)); (case aO => exact (by (with_reducible repeat (first | apply Kd.R_alloc | apply Kd.R_drewN | apply Kd.R_drew)); exact Kd.R_mono (Kd.R_far (p := ⟨gb347, 1, none⟩) (Kd.R_far (p := ⟨gb347, 0, none⟩) (Kd.R_mono HO_8.out (fun k_ hk => (⟨hk, hk.2⟩ : _ ∧ k_ ≠ gb347))) (fun _ hk => hk.2) (.string ((⟨#[65, 66, 67, 68, 69, 70, 71, 72, 73, 74, 75, 76, 77, 78, 79, 80, 81, 82, 83, 84, 85, 86, 87, 88, 89, 90]⟩ : ByteArray).extract (x9_2 : Int).toNat ((ji17) : Int).toNat))) (fun _ hk => hk.2) (.string (((⟨#[60, 36, 123]⟩ : ByteArray) ++ ((⟨#[65, 66, 67, 68, 69, 70, 71, 72, 73, 74, 75, 76, 77, 78, 79, 80, 81, 82, 83, 84, 85, 86, 87, 88, 89, 90]⟩ : ByteArray).extract ((ji17) : Int).toNat ((wrap64 (x9_2 + 2)) : Int).toNat)) ++ (⟨#[125, 62]⟩ : ByteArray)))) (fun _ hk => hk.1.2))); (case aS => exact (below_size (by repeat (first | (with_reducible first | exact HB.out | apply below_alloc | apply pw_below_drewN | apply below_drew1 | refine below_set ?_ GE347.out) | exact HB.out)))); (case aL => have := LMc31.out; omega); intro v352 w37 ho hb hg hat; rw [← Ny351.out] at ho; have n0_ := Aside0.mk (blk_grown (g := gb347) (o := .cells #[.string ((⟨#[65, 66, 67, 68, 69, 70, 71, 72, 73, 74, 75, 76, 77, 78, 79, 80, 81, 82, 83, 84, 85, 86, 87, 88, 89, 90]⟩ : ByteArray).extract (x9_2 : Int).toNat ((ji17) : Int).toNat), .string (((⟨#[60, 36, 123]⟩ : ByteArray) ++ ((⟨#[65, 66, 67, 68, 69, 70, 71, 72, 73, 74, 75, 76, 77, 78, 79, 80, 81, 82, 83, 84, 85, 86, 87, 88, 89, 90]⟩ : ByteArray).extract ((ji17) : Int).toNat ((wrap64 (x9_2 + 2)) : Int).toNat)) ++ (⟨#[125, 62]⟩ : ByteArray))] 41 (0, 0)) (by (with_reducible repeat (first | refine blk_drewN ?_ _ | refine blk_drew ?_ | refine blk_alloc ?_ _)); refine blk_put (cs := #[.string ((⟨#[65, 66, 67, 68, 69, 70, 71, 72, 73, 74, 75, 76, 77, 78, 79, 80, 81, 82, 83, 84, 85, 86, 87, 88, 89, 90]⟩ : ByteArray).extract (x9_2 : Int).toNat ((ji17) : Int).toNat), .string (⟨#[]⟩ : ByteArray)]) ?_ 1 _ rfl; (with_reducible repeat (first | refine blk_drewN ?_ _ | refine blk_drew ?_ | refine blk_alloc ?_ _)); refine blk_put (cs := #[.string (⟨#[]⟩ : ByteArray), .string (⟨#[]⟩ : ByteArray)]) ?_ 0 _ rfl; (with_reducible repeat (first | refine blk_drewN ?_ _ | refine blk_drew ?_ | refine blk_alloc ?_ _)); exact BK347.out) hg (Kd.R_away HO_8.out (fun _ hk => hk.2))); have n1_ := Aside0.mk (hb); have n2_ := Aside0.mk (ho); clear BK347; clear HB; clear HO_8; have BK347 := n0_; have HB := n1_; have HO353 := n2_; clear n0_ n1_ n2_; clear ho hb hg hat))
                                    go_roundg k2
                                    case measure => have := HK1.out; have := HK2.out; omega
                                    case rel => exact ⟨(y351), (ji17), (by first | rfl | (simp; done) | (simp only [← hji17] <;> (first | rfl | simp)) | (simp [*]; done)), H', ⟨by have := HK1.out; have := HK2.out; omega⟩, ⟨by (with_reducible repeat (first | apply Kd.R_alloc | apply Kd.R_drewN | apply Kd.R_drew)); exact Kd.R_mono HO353.out (fun _ hk => trivial)⟩, ⟨by repeat (first | (with_reducible first | exact HB.out | apply below_alloc | apply pw_below_drewN | apply below_drew1 | refine below_set ?_ GE347.out) | exact HB.out)⟩⟩
                                  · rw [if_neg c31] at H
                                    exact absurd H (by simp)
                              · rw [if_neg c22] at H
                                exact absurd H (by simp)
                            · rw [if_neg c21] at H
                              exact absurd H (by simp)
                          · rw [if_neg c20] at H
                            exact absurd H (by simp)
                        · rw [if_neg c19] at H
                          exact absurd H (by simp)
                      · rw [if_neg c18] at H
                        exact absurd H (by simp)
                    · rw [if_neg c16] at H
                      exact absurd H (by simp)
                  · rw [if_neg c15] at H
                    exact absurd H (by simp)
                · rw [if_neg c14] at H
                  exact absurd H (by simp)
              · rw [if_neg c13] at H
                have c13b0 : decide (x9_2 ≤ (wrap64 ((wrap64 ((Int.tmod t346 4) + 16)) - 1))) = false := decide_eq_false c13
                clear c13
                replace H := Option.bind_eq_some_iff.mp H
                obtain ⟨t354, A380, H⟩ := H
                replace H : ((vars_Resolve.f t354).bind fun bt357 => ((shuttlelaw0_CopyVars.f x8_2).bind fun t362 => (if 0 ≤ (wrap64 ((wrap64 ((Int.tmod t346 4) + 16)) - 1)) then (if (wrap64 ((wrap64 ((Int.tmod t346 4) + 16)) - 1)) < (t362.length : Int) then ((vars_Resolve.f (t362.set ((wrap64 ((wrap64 ((Int.tmod t346 4) + 16)) - 1)) : Int).toNat (⟨(rd_T41 t362 (wrap64 ((wrap64 ((Int.tmod t346 4) + 16)) - 1))).f0, (⟨#[36, 123, 65, 125]⟩ : ByteArray)⟩ : S41))).bind fun bt366 => ((shuttlelaw0_CopyVars.f x8_2).bind fun t371 => (if (wrap64 ((wrap64 ((Int.tmod t346 4) + 16)) - 1)) < (t371.length : Int) then ((vars_Resolve.f (t371.set ((wrap64 ((wrap64 ((Int.tmod t346 4) + 16)) - 1)) : Int).toNat (⟨(rd_T41 t371 (wrap64 ((wrap64 ((Int.tmod t346 4) + 16)) - 1))).f0, (⟨#[120, 36, 123, 90, 125]⟩ : ByteArray)⟩ : S41))).bind fun bt375 => (if bt366.2.2 = 103 then (if bt366.2.1 = 0 then (if bt375.2.2 = 102 then (shuttlelaw10_VarsChains.j2 k2 a1 (wrap64 ((wrap64 ((Int.tmod t346 4) + 16)) - 1)) bt357.1 bt357.2.1 bt357.2.2 (bt375.2.1 != 0)) else (shuttlelaw10_VarsChains.j2 k2 a1 (wrap64 ((wrap64 ((Int.tmod t346 4) + 16)) - 1)) bt357.1 bt357.2.1 bt357.2.2 true)) else (shuttlelaw10_VarsChains.j2 k2 a1 (wrap64 ((wrap64 ((Int.tmod t346 4) + 16)) - 1)) bt357.1 bt357.2.1 bt357.2.2 true)) else (shuttlelaw10_VarsChains.j2 k2 a1 (wrap64 ((wrap64 ((Int.tmod t346 4) + 16)) - 1)) bt357.1 bt357.2.1 bt357.2.2 true))) else (none)))) else (none)) else (none)))) = some r := H
                have A38 := Aside0.mk A380
                clear A380
                replace H := Option.bind_eq_some_iff.mp H
                obtain ⟨⟨t357, t358, t359⟩, A390, H⟩ := H
                replace H : ((shuttlelaw0_CopyVars.f x8_2).bind fun t362 => (if 0 ≤ (wrap64 ((wrap64 ((Int.tmod t346 4) + 16)) - 1)) then (if (wrap64 ((wrap64 ((Int.tmod t346 4) + 16)) - 1)) < (t362.length : Int) then ((vars_Resolve.f (t362.set ((wrap64 ((wrap64 ((Int.tmod t346 4) + 16)) - 1)) : Int).toNat (⟨(rd_T41 t362 (wrap64 ((wrap64 ((Int.tmod t346 4) + 16)) - 1))).f0, (⟨#[36, 123, 65, 125]⟩ : ByteArray)⟩ : S41))).bind fun bt366 => ((shuttlelaw0_CopyVars.f x8_2).bind fun t371 => (if (wrap64 ((wrap64 ((Int.tmod t346 4) + 16)) - 1)) < (t371.length : Int) then ((vars_Resolve.f (t371.set ((wrap64 ((wrap64 ((Int.tmod t346 4) + 16)) - 1)) : Int).toNat (⟨(rd_T41 t371 (wrap64 ((wrap64 ((Int.tmod t346 4) + 16)) - 1))).f0, (⟨#[120, 36, 123, 90, 125]⟩ : ByteArray)⟩ : S41))).bind fun bt375 => (if bt366.2.2 = 103 then (if bt366.2.1 = 0 then (if bt375.2.2 = 102 then (shuttlelaw10_VarsChains.j2 k2 a1 (wrap64 ((wrap64 ((Int.tmod t346 4) + 16)) - 1)) t357 t358 t359 (bt375.2.1 != 0)) else (shuttlelaw10_VarsChains.j2 k2 a1 (wrap64 ((wrap64 ((Int.tmod t346 4) + 16)) - 1)) t357 t358 t359 true)) else (shuttlelaw10_VarsChains.j2 k2 a1 (wrap64 ((wrap64 ((Int.tmod t346 4) + 16)) - 1)) t357 t358 t359 true)) else (shuttlelaw10_VarsChains.j2 k2 a1 (wrap64 ((wrap64 ((Int.tmod t346 4) + 16)) - 1)) t357 t358 t359 true))) else (none)))) else (none)) else (none))) = some r := H
                have A39 := Aside0.mk A390
                clear A390
                replace H := Option.bind_eq_some_iff.mp H
                obtain ⟨t362, A400, H⟩ := H
                replace H : (if 0 ≤ (wrap64 ((wrap64 ((Int.tmod t346 4) + 16)) - 1)) then (if (wrap64 ((wrap64 ((Int.tmod t346 4) + 16)) - 1)) < (t362.length : Int) then ((vars_Resolve.f (t362.set ((wrap64 ((wrap64 ((Int.tmod t346 4) + 16)) - 1)) : Int).toNat (⟨(rd_T41 t362 (wrap64 ((wrap64 ((Int.tmod t346 4) + 16)) - 1))).f0, (⟨#[36, 123, 65, 125]⟩ : ByteArray)⟩ : S41))).bind fun bt366 => ((shuttlelaw0_CopyVars.f x8_2).bind fun t371 => (if (wrap64 ((wrap64 ((Int.tmod t346 4) + 16)) - 1)) < (t371.length : Int) then ((vars_Resolve.f (t371.set ((wrap64 ((wrap64 ((Int.tmod t346 4) + 16)) - 1)) : Int).toNat (⟨(rd_T41 t371 (wrap64 ((wrap64 ((Int.tmod t346 4) + 16)) - 1))).f0, (⟨#[120, 36, 123, 90, 125]⟩ : ByteArray)⟩ : S41))).bind fun bt375 => (if bt366.2.2 = 103 then (if bt366.2.1 = 0 then (if bt375.2.2 = 102 then (shuttlelaw10_VarsChains.j2 k2 a1 (wrap64 ((wrap64 ((Int.tmod t346 4) + 16)) - 1)) t357 t358 t359 (bt375.2.1 != 0)) else (shuttlelaw10_VarsChains.j2 k2 a1 (wrap64 ((wrap64 ((Int.tmod t346 4) + 16)) - 1)) t357 t358 t359 true)) else (shuttlelaw10_VarsChains.j2 k2 a1 (wrap64 ((wrap64 ((Int.tmod t346 4) + 16)) - 1)) t357 t358 t359 true)) else (shuttlelaw10_VarsChains.j2 k2 a1 (wrap64 ((wrap64 ((Int.tmod t346 4) + 16)) - 1)) t357 t358 t359 true))) else (none)))) else (none)) else (none)) = some r := H
                have A40 := Aside0.mk A400
                clear A400
                obtain ⟨ji41, hji41⟩ : ∃ j_ : Int, (wrap64 ((wrap64 ((Int.tmod t346 4) + 16)) - 1)) = j_ := ⟨_, rfl⟩
                replace H : (if 0 ≤ (ji41) then (if (ji41) < (t362.length : Int) then ((vars_Resolve.f (t362.set ((ji41) : Int).toNat (⟨(rd_T41 t362 (ji41)).f0, (⟨#[36, 123, 65, 125]⟩ : ByteArray)⟩ : S41))).bind fun bt366 => ((shuttlelaw0_CopyVars.f x8_2).bind fun t371 => (if (ji41) < (t371.length : Int) then ((vars_Resolve.f (t371.set ((ji41) : Int).toNat (⟨(rd_T41 t371 (ji41)).f0, (⟨#[120, 36, 123, 90, 125]⟩ : ByteArray)⟩ : S41))).bind fun bt375 => (if bt366.2.2 = 103 then (if bt366.2.1 = 0 then (if bt375.2.2 = 102 then (shuttlelaw10_VarsChains.j2 k2 a1 (ji41) t357 t358 t359 (bt375.2.1 != 0)) else (shuttlelaw10_VarsChains.j2 k2 a1 (ji41) t357 t358 t359 true)) else (shuttlelaw10_VarsChains.j2 k2 a1 (ji41) t357 t358 t359 true)) else (shuttlelaw10_VarsChains.j2 k2 a1 (ji41) t357 t358 t359 true))) else (none)))) else (none)) else (none)) = some r := by first | (rw [hji41] at H; exact H) | (simp only [hji41] at H ⊢; exact H)
                (try rw [hji41] at c13b0)
                (try rw [hji41] at A38)
                (try rw [hji41] at A39)
                (try rw [hji41] at A40)
                have hji41w : (IntKind.i64.wrap ((wrap64 ((Int.tmod t346 4) + 16)) - 1)) = ji41 := (i64_w _).trans hji41
                by_cases c42 : 0 ≤ (ji41)
                · rw [if_pos c42] at H
                  have c42b0 : decide (0 ≤ (ji41)) = true := decide_eq_true c42
                  clear c42
                  by_cases c43 : (ji41) < (t362.length : Int)
                  · rw [if_pos c43] at H
                    have c43b0 : decide ((ji41) < (t362.length : Int)) = true := decide_eq_true c43
                    clear c43
                    obtain ⟨y365, hy365⟩ : ∃ y_ : List (S41), y_ = (t362.set ((ji41) : Int).toNat (⟨(rd_T41 t362 (ji41)).f0, (⟨#[36, 123, 65, 125]⟩ : ByteArray)⟩ : S41)) := ⟨_, rfl⟩
                    replace H : ((vars_Resolve.f y365).bind fun bt366 => ((shuttlelaw0_CopyVars.f x8_2).bind fun t371 => (if (ji41) < (t371.length : Int) then ((vars_Resolve.f (t371.set ((ji41) : Int).toNat (⟨(rd_T41 t371 (ji41)).f0, (⟨#[120, 36, 123, 90, 125]⟩ : ByteArray)⟩ : S41))).bind fun bt375 => (if bt366.2.2 = 103 then (if bt366.2.1 = 0 then (if bt375.2.2 = 102 then (shuttlelaw10_VarsChains.j2 k2 a1 (ji41) t357 t358 t359 (bt375.2.1 != 0)) else (shuttlelaw10_VarsChains.j2 k2 a1 (ji41) t357 t358 t359 true)) else (shuttlelaw10_VarsChains.j2 k2 a1 (ji41) t357 t358 t359 true)) else (shuttlelaw10_VarsChains.j2 k2 a1 (ji41) t357 t358 t359 true))) else (none)))) = some r := by first | (rw [hy365]; with_reducible exact H) | (have H2_ := (Option.bind_some _ _).symm.trans H; rw [hy365]; with_reducible exact H2_) | (have H2_ := (Option.bind_some _ _).symm.trans H; with_reducible exact H2_) | with_reducible exact H | (rw [hy365]; exact H) | exact H
                    have Ny365 := Aside0.mk hy365
                    clear hy365
                    replace H := Option.bind_eq_some_iff.mp H
                    obtain ⟨⟨t366, t367, t368⟩, A450, H⟩ := H
                    replace H : ((shuttlelaw0_CopyVars.f x8_2).bind fun t371 => (if (ji41) < (t371.length : Int) then ((vars_Resolve.f (t371.set ((ji41) : Int).toNat (⟨(rd_T41 t371 (ji41)).f0, (⟨#[120, 36, 123, 90, 125]⟩ : ByteArray)⟩ : S41))).bind fun bt375 => (if t368 = 103 then (if t367 = 0 then (if bt375.2.2 = 102 then (shuttlelaw10_VarsChains.j2 k2 a1 (ji41) t357 t358 t359 (bt375.2.1 != 0)) else (shuttlelaw10_VarsChains.j2 k2 a1 (ji41) t357 t358 t359 true)) else (shuttlelaw10_VarsChains.j2 k2 a1 (ji41) t357 t358 t359 true)) else (shuttlelaw10_VarsChains.j2 k2 a1 (ji41) t357 t358 t359 true))) else (none))) = some r := H
                    have A45 := Aside0.mk A450
                    clear A450
                    replace H := Option.bind_eq_some_iff.mp H
                    obtain ⟨t371, A460, H⟩ := H
                    replace H : (if (ji41) < (t371.length : Int) then ((vars_Resolve.f (t371.set ((ji41) : Int).toNat (⟨(rd_T41 t371 (ji41)).f0, (⟨#[120, 36, 123, 90, 125]⟩ : ByteArray)⟩ : S41))).bind fun bt375 => (if t368 = 103 then (if t367 = 0 then (if bt375.2.2 = 102 then (shuttlelaw10_VarsChains.j2 k2 a1 (ji41) t357 t358 t359 (bt375.2.1 != 0)) else (shuttlelaw10_VarsChains.j2 k2 a1 (ji41) t357 t358 t359 true)) else (shuttlelaw10_VarsChains.j2 k2 a1 (ji41) t357 t358 t359 true)) else (shuttlelaw10_VarsChains.j2 k2 a1 (ji41) t357 t358 t359 true))) else (none)) = some r := H
                    have A46 := Aside0.mk A460
                    clear A460
                    by_cases c47 : (ji41) < (t371.length : Int)
                    · rw [if_pos c47] at H
                      have c47b0 : decide ((ji41) < (t371.length : Int)) = true := decide_eq_true c47
                      clear c47
                      obtain ⟨y374, hy374⟩ : ∃ y_ : List (S41), y_ = (t371.set ((ji41) : Int).toNat (⟨(rd_T41 t371 (ji41)).f0, (⟨#[120, 36, 123, 90, 125]⟩ : ByteArray)⟩ : S41)) := ⟨_, rfl⟩
                      replace H : ((vars_Resolve.f y374).bind fun bt375 => (if t368 = 103 then (if t367 = 0 then (if bt375.2.2 = 102 then (shuttlelaw10_VarsChains.j2 k2 a1 (ji41) t357 t358 t359 (bt375.2.1 != 0)) else (shuttlelaw10_VarsChains.j2 k2 a1 (ji41) t357 t358 t359 true)) else (shuttlelaw10_VarsChains.j2 k2 a1 (ji41) t357 t358 t359 true)) else (shuttlelaw10_VarsChains.j2 k2 a1 (ji41) t357 t358 t359 true))) = some r := by first | (rw [hy374]; with_reducible exact H) | (have H2_ := (Option.bind_some _ _).symm.trans H; rw [hy374]; with_reducible exact H2_) | (have H2_ := (Option.bind_some _ _).symm.trans H; with_reducible exact H2_) | with_reducible exact H | (rw [hy374]; exact H) | exact H
                      have Ny374 := Aside0.mk hy374
                      clear hy374
                      replace H := Option.bind_eq_some_iff.mp H
                      obtain ⟨⟨t375, t376, t377⟩, A490, H⟩ := H
                      replace H : (if t368 = 103 then (if t367 = 0 then (if t377 = 102 then (shuttlelaw10_VarsChains.j2 k2 a1 (ji41) t357 t358 t359 (t376 != 0)) else (shuttlelaw10_VarsChains.j2 k2 a1 (ji41) t357 t358 t359 true)) else (shuttlelaw10_VarsChains.j2 k2 a1 (ji41) t357 t358 t359 true)) else (shuttlelaw10_VarsChains.j2 k2 a1 (ji41) t357 t358 t359 true)) = some r := H
                      have A49 := Aside0.mk A490
                      clear A490
                      have HC50 := Aside0.mk H
                      clear H
                      obtain ⟨Ao51, co51, eo51⟩ := Kd.R_slice HO_8.out
                      subst eo51
                      go_upto_region 25 with (first | ((with_reducible refine gate_callee (f := 16) rfl ?_); refine goesL_ (some 74) rfl rfl Try.func16 (by kernel_rfl) rfl #[.slice Ao51 x8_2.length co51] rfl (by (try simp only [List.map_toArray, List.map_cons, List.map_nil]); first | done | rfl | (simp only [List.length_drop, List.length_take]; rfl)) ?_; (with_reducible refine (shuttlelaw0_CopyVars.calls _ _ x8_2 t354 _ ?side1 ?side2 A38.out).mono ?_); (case side1 => repeat (first | exact (Kd.R_reads' HO_8.out).2.2 | (with_reducible refine Kd.C_alloc ?_ _) | (with_reducible refine Kd.C_drewN ?_ _) | (with_reducible refine Kd.C_drew ?_))); (case side2 => exact (Kd.R_reads' HO_8.out).2.1); rintro e w52 ⟨v355, rfl, ho0, hb⟩; refine ⟨_, rfl, ?_⟩; have n0_ := Aside0.mk (Kd.R_elder' (by (with_reducible repeat (first | apply Kd.R_alloc | apply Kd.R_drewN | apply Kd.R_drew)); exact HO_8.out) (Kd.R_base ho0) hb); have n1_ := Aside0.mk (Kd.R_lower (Kd.R_new' ho0 (Kd.R_lt (by (with_reducible repeat (first | apply Kd.R_alloc | apply Kd.R_drewN | apply Kd.R_drew)); exact HO_8.out))) (below_size (by repeat (first | (with_reducible first | exact HB.out | apply below_alloc | apply pw_below_drewN | apply below_drew1) | exact HB.out)))); have n2_ := Aside0.mk (below_step (by repeat (first | (with_reducible first | exact HB.out | apply below_alloc | apply pw_below_drewN | apply below_drew1) | exact HB.out)) hb); clear HO_8; clear HB; have HO_8 := n0_; have HO356 := n1_; have HB := n2_; clear n0_ n1_ n2_; (try clear hb); (try clear hb2); (try clear hk); (try clear hi); (try clear ho0); obtain ⟨Ao53, co53, eo53⟩ := Kd.R_slice HO356.out; subst eo53) | ((with_reducible refine gate_callee (f := 14) rfl ?_); refine goesL_ (some 75) rfl rfl Try.func14 (by kernel_rfl) rfl #[.slice Ao53 t354.length co53] rfl (by (try simp only [List.map_toArray, List.map_cons, List.map_nil]); first | done | rfl | (simp only [List.length_drop, List.length_take]; rfl)) ?_; (with_reducible refine (vars_Resolve.calls _ _ t354 t357 t358 t359 _ ?side1 ?side2 ?gm_ A39.out).mono ?_); (case gm_ => exact GM.below HGM.out (by repeat (first | (with_reducible first | exact HB.out | apply below_alloc | apply pw_below_drewN | apply below_drew1 | refine below_set ?_ (Aside0.out (by assumption))) | exact HB.out))); (case side1 => repeat (first | exact (Kd.R_reads' HO356.out).2.2 | (with_reducible refine Kd.C_alloc ?_ _) | (with_reducible refine Kd.C_drewN ?_ _) | (with_reducible refine Kd.C_drew ?_))); (case side2 => exact (Kd.R_reads' HO356.out).2.1); rintro e w54 ⟨v360, rfl, ho0, hb⟩; refine ⟨_, rfl, ?_⟩; have n0_ := Aside0.mk (Kd.R_elder' (by (with_reducible repeat (first | apply Kd.R_alloc | apply Kd.R_drewN | apply Kd.R_drew)); exact HO_8.out) (Kd.R_base ho0) hb); have n1_ := Aside0.mk (Kd.R_elder' (by (with_reducible repeat (first | apply Kd.R_alloc | apply Kd.R_drewN | apply Kd.R_drew)); exact HO356.out) (Kd.R_base ho0) hb); have n2_ := Aside0.mk (Kd.R_lower (Kd.R_new' (Kd.R_new' ho0 (Kd.R_lt (by (with_reducible repeat (first | apply Kd.R_alloc | apply Kd.R_drewN | apply Kd.R_drew)); exact HO_8.out))) (Kd.R_lt (by (with_reducible repeat (first | apply Kd.R_alloc | apply Kd.R_drewN | apply Kd.R_drew)); exact HO356.out))) (below_size (by repeat (first | (with_reducible first | exact HB.out | apply below_alloc | apply pw_below_drewN | apply below_drew1) | exact HB.out)))); have n3_ := Aside0.mk (below_step (by repeat (first | (with_reducible first | exact HB.out | apply below_alloc | apply pw_below_drewN | apply below_drew1) | exact HB.out)) hb); clear HO_8; clear HO356; clear HB; have HO_8 := n0_; have HO356 := n1_; have HO361 := n2_; have HB := n3_; clear n0_ n1_ n2_ n3_; (try clear hb); (try clear hb2); (try clear hk); (try clear hi); (try clear ho0)) | ((with_reducible refine gate_callee (f := 16) rfl ?_); refine goesL_ (some 80) rfl rfl Try.func16 (by kernel_rfl) rfl #[.slice Ao51 x8_2.length co51] rfl (by (try simp only [List.map_toArray, List.map_cons, List.map_nil]); first | done | rfl | (simp only [List.length_drop, List.length_take]; rfl)) ?_; (with_reducible refine (shuttlelaw0_CopyVars.calls _ _ x8_2 t362 _ ?side1 ?side2 A40.out).mono ?_); (case side1 => repeat (first | exact (Kd.R_reads' HO_8.out).2.2 | (with_reducible refine Kd.C_alloc ?_ _) | (with_reducible refine Kd.C_drewN ?_ _) | (with_reducible refine Kd.C_drew ?_))); (case side2 => exact (Kd.R_reads' HO_8.out).2.1); rintro e w55 ⟨v363, rfl, ho0, hb⟩; refine ⟨_, rfl, ?_⟩; have n0_ := Aside0.mk (Kd.R_elder' (by (with_reducible repeat (first | apply Kd.R_alloc | apply Kd.R_drewN | apply Kd.R_drew)); exact HO_8.out) (Kd.R_base ho0) hb); have n1_ := Aside0.mk (Kd.R_elder' (by (with_reducible repeat (first | apply Kd.R_alloc | apply Kd.R_drewN | apply Kd.R_drew)); exact HO356.out) (Kd.R_base ho0) hb); have n2_ := Aside0.mk (Kd.R_elder' (by (with_reducible repeat (first | apply Kd.R_alloc | apply Kd.R_drewN | apply Kd.R_drew)); exact HO361.out) (Kd.R_base ho0) hb); have n3_ := Aside0.mk (Kd.R_lower (Kd.R_new' (Kd.R_new' (Kd.R_new' ho0 (Kd.R_lt (by (with_reducible repeat (first | apply Kd.R_alloc | apply Kd.R_drewN | apply Kd.R_drew)); exact HO_8.out))) (Kd.R_lt (by (with_reducible repeat (first | apply Kd.R_alloc | apply Kd.R_drewN | apply Kd.R_drew)); exact HO356.out))) (Kd.R_lt (by (with_reducible repeat (first | apply Kd.R_alloc | apply Kd.R_drewN | apply Kd.R_drew)); exact HO361.out))) (below_size (by repeat (first | (with_reducible first | exact HB.out | apply below_alloc | apply pw_below_drewN | apply below_drew1) | exact HB.out)))); have n4_ := Aside0.mk (below_step (by repeat (first | (with_reducible first | exact HB.out | apply below_alloc | apply pw_below_drewN | apply below_drew1) | exact HB.out)) hb); clear HO_8; clear HO356; clear HO361; clear HB; have HO_8 := n0_; have HO356 := n1_; have HO361 := n2_; have HO364 := n3_; have HB := n4_; clear n0_ n1_ n2_ n3_ n4_; (try clear hb); (try clear hb2); (try clear hk); (try clear hi); (try clear ho0); have p44 : 0 ≤ ((ji41) : Int) := of_decide_eq_true (by first | (with_reducible assumption) | assumption); have q44 : ((ji41) : Int) < ((t362.length : Int) : Int) := of_decide_eq_true (by first | (with_reducible assumption) | assumption); obtain ⟨go44, co44, eo44, gb44, gl44, cl44, HG44⟩ := Kd.R_form HO364.out (by omega); (first | cases eo44 | (injection eo44 with ea_ en_ ec_; (first | subst ea_ | (injection ea_ with ea_; subst ea_)); subst ec_; clear en_)); have GB44 := Aside0.mk gb44; have GG44 := Aside0.mk HG44; clear gb44 gl44 HG44; obtain ⟨ce44, hcl44, hM44, hcc44, hfr44⟩ := Kd.R_elem HO364.out z41 ((ji41) : Int) p44 q44; obtain rfl := k41_openM hM44; have hx44_0 : w55.cell? ⟨go44, ((ji41) : Int).toNat * 2, none⟩ = some (.string ((rd_T41 t362 (ji41)).f0)) := hcc44 0 _ rfl; have hx44_1 : w55.cell? ⟨go44, ((ji41) : Int).toNat * 2 + 1, none⟩ = some (.string ((rd_T41 t362 (ji41)).f1)) := hcc44 1 _ rfl; have hf44_0 : w55.frozen? ⟨go44, ((ji41) : Int).toNat * 2, none⟩ = false := hfr44 0; have hf44_1 : w55.frozen? ⟨go44, ((ji41) : Int).toNat * 2 + 1, none⟩ = false := hfr44 1; clear hcl44 hcc44 hfr44 hM44; replace p44 := eq_true p44; replace q44 := eq_true q44; have n_ := Aside0.mk (Kd.R_mono (ok' := (fun k_ => some k_ ≠ (.slice Ao51 x8_2.length co51 : Value).ownBlock ∧ some k_ ≠ (.slice Ao53 t354.length co53 : Value).ownBlock ∧ some k_ ≠ (v360 : Value).ownBlock)) HO364.out (fun k_ hk => ⟨hk.1.1.2, ⟨hk.1.2, hk.2⟩⟩)); clear HO364; have HO364 := n_; clear n_; have HX56 := Aside0.mk (show Kd.R k41 41 w55 w.heap.size (fun k_ => some k_ ≠ (.slice Ao51 x8_2.length co51 : Value).ownBlock ∧ some k_ ≠ (.slice Ao53 t354.length co53 : Value).ownBlock ∧ some k_ ≠ (v360 : Value).ownBlock) (.slice (some ⟨go44, 0, none⟩) t362.length co44) t362 from (by (with_reducible repeat (first | apply Kd.R_alloc | apply Kd.R_drewN | apply Kd.R_drew)); exact HO364.out)); obtain ⟨ce56, hcl56, hM56, hcc56, hfr56⟩ := Kd.R_elem HX56.out z41 ((ji41) : Int) (of_decide_eq_true (by first | (with_reducible assumption) | assumption)) (by have h_ : ((ji41) : Int) < ((t362.length : Int) : Int) := of_decide_eq_true (by first | (with_reducible assumption) | assumption); first | exact h_ | (have e_ := (Kd.R_reads' HO364.out).1; omega) | simpa using h_); obtain rfl := k41_openM hM56; have HP56 := Kd.R_seg HX56.out ((ji41) : Int) (of_decide_eq_true (by first | (with_reducible assumption) | assumption)) (by have h_ : ((ji41) : Int) < ((t362.length : Int) : Int) := of_decide_eq_true (by first | (with_reducible assumption) | assumption); first | exact h_ | (have e_ := (Kd.R_reads' HO364.out).1; omega) | simpa using h_) (seg := [.string (⟨#[36, 123, 65, 125]⟩ : ByteArray)]) (j := 1) hcl56 hcc56 (show 2 ≤ 2 from by decide) (x' := (⟨(rd_T41 t362 (ji41)).f0, (⟨#[36, 123, 65, 125]⟩ : ByteArray)⟩ : S41)) (k41_mkM _ _ _ (⟨(rd_T41 t362 (ji41)).f0, (⟨#[36, 123, 65, 125]⟩ : ByteArray)⟩ : S41) ) (fun _ hk => hk); have hx56_1 := hcc56 1 _ rfl; (try simp only [show (k41).sz = 2 from rfl, Nat.mul_one, Nat.add_zero] at hx56_1); have hf56_1 := hfr56 1; (try simp only [show (k41).sz = 2 from rfl, Nat.mul_one, Nat.add_zero] at hf56_1); clear hcl56 hcc56 hfr56 hM56) | ((with_reducible refine gate_store (t := 9) (p := 84) rfl ?_); refine store_event (t := 9) (p := 84) (v := ?vo_w57) (w1 := (w55.setCell ⟨go44, ((ji41) : Int).toNat * 2 + 1, none⟩ (.string (⟨#[36, 123, 65, 125]⟩ : ByteArray)))) ?hg ?ho ?hn ?hr ?_; (case ho => rfl); (case hg => rfl); (case hn => rfl); (case hr => first | (go_simp; done) | (go_simp; rfl)); intro w57 hw; have hg : w55.grownBy w57 (some go44) := (by rw [hw]; exact HP56.2); have hp_ : Kd.R k41 41 w57 w.heap.size (fun k_ => some k_ ≠ (.slice Ao51 x8_2.length co51 : Value).ownBlock ∧ some k_ ≠ (.slice Ao53 t354.length co53 : Value).ownBlock ∧ some k_ ≠ (v360 : Value).ownBlock) (.slice (some ⟨go44, 0, none⟩) t362.length co44) y365 := (by rw [hw, Ny365.out]; exact HP56.1); clear HP56; have n0_ := Aside0.mk (Kd.R_after (v := (.slice (some ⟨go44, 0, none⟩) t362.length co44)) (v1 := (.slice (some ⟨go44, 0, none⟩) t362.length co44)) (ok := (fun k_ => some k_ ≠ (.slice Ao53 t354.length co53 : Value).ownBlock ∧ some k_ ≠ (v360 : Value).ownBlock)) (by (with_reducible repeat (first | apply Kd.R_alloc | apply Kd.R_drewN | apply Kd.R_drew)); exact Kd.R_mono HO_8.out (fun _ hk => ⟨⟨hk.1.1.2, hk.1.2⟩, hk.2⟩)) hg (.inl rfl)); have n1_ := Aside0.mk (Kd.R_after (v := (.slice (some ⟨go44, 0, none⟩) t362.length co44)) (v1 := (.slice (some ⟨go44, 0, none⟩) t362.length co44)) (ok := (fun k_ => some k_ ≠ (.slice Ao51 x8_2.length co51 : Value).ownBlock ∧ some k_ ≠ (v360 : Value).ownBlock)) (by (with_reducible repeat (first | apply Kd.R_alloc | apply Kd.R_drewN | apply Kd.R_drew)); exact Kd.R_mono HO356.out (fun _ hk => ⟨⟨hk.1.1.2, hk.1.2⟩, hk.2⟩)) hg (.inl rfl)); have n2_ := Aside0.mk (Kd.R_after (v := (.slice (some ⟨go44, 0, none⟩) t362.length co44)) (v1 := (.slice (some ⟨go44, 0, none⟩) t362.length co44)) (ok := (fun k_ => some k_ ≠ (.slice Ao51 x8_2.length co51 : Value).ownBlock ∧ some k_ ≠ (.slice Ao53 t354.length co53 : Value).ownBlock)) (by (with_reducible repeat (first | apply Kd.R_alloc | apply Kd.R_drewN | apply Kd.R_drew)); exact Kd.R_mono HO361.out (fun _ hk => ⟨⟨hk.1.1.2, hk.1.2⟩, hk.2⟩)) hg (.inl rfl)); have n3_ := Aside0.mk (hp_); have n4_ := Aside0.mk ((by rw [hw]; exact below_set (HB.out) GB44.out : Below w.heap.size w w57)); clear HO_8; clear HO356; clear HO361; clear HO364; clear HB; have HO_8 := n0_; have HO356 := n1_; have HO361 := n2_; have HO364 := n3_; have HB := n4_; clear n0_ n1_ n2_ n3_ n4_; clear hg hw hp_) | ((with_reducible refine gate_callee (f := 14) rfl ?_); refine goesL_ (some 87) rfl rfl Try.func14 (by kernel_rfl) rfl #[.slice (some ⟨go44, 0, none⟩) y365.length co44] rfl (by (try simp only [List.map_toArray, List.map_cons, List.map_nil]); first | done | (rw [show y365.length = t362.length from (Kd.R_reads' HO364.out).1.symm] <;> rfl) | rfl | (simp only [List.length_drop, List.length_take]; rfl)) ?_; (with_reducible refine (vars_Resolve.calls _ _ y365 t366 t367 t368 _ ?side1 ?side2 ?gm_ A45.out).mono ?_); (case gm_ => exact GM.below HGM.out (by repeat (first | (with_reducible first | exact HB.out | apply below_alloc | apply pw_below_drewN | apply below_drew1 | refine below_set ?_ (Aside0.out (by assumption))) | exact HB.out))); (case side1 => repeat (first | exact (Kd.R_reads' HO364.out).2.2 | (with_reducible refine Kd.C_alloc ?_ _) | (with_reducible refine Kd.C_drewN ?_ _) | (with_reducible refine Kd.C_drew ?_))); (case side2 => rw [show y365.length = t362.length from (Kd.R_reads' HO364.out).1.symm]; exact (Kd.R_reads' HO364.out).2.1); rintro e w58 ⟨v369, rfl, ho0, hb⟩; refine ⟨_, rfl, ?_⟩; have n0_ := Aside0.mk (Kd.R_elder' (by (with_reducible repeat (first | apply Kd.R_alloc | apply Kd.R_drewN | apply Kd.R_drew)); exact HO_8.out) (Kd.R_base ho0) hb); have n1_ := Aside0.mk (Kd.R_elder' (by (with_reducible repeat (first | apply Kd.R_alloc | apply Kd.R_drewN | apply Kd.R_drew)); exact HO356.out) (Kd.R_base ho0) hb); have n2_ := Aside0.mk (Kd.R_elder' (by (with_reducible repeat (first | apply Kd.R_alloc | apply Kd.R_drewN | apply Kd.R_drew)); exact HO361.out) (Kd.R_base ho0) hb); have n3_ := Aside0.mk (Kd.R_elder' (by (with_reducible repeat (first | apply Kd.R_alloc | apply Kd.R_drewN | apply Kd.R_drew)); exact HO364.out) (Kd.R_base ho0) hb); have n4_ := Aside0.mk (Kd.R_lower (Kd.R_new' (Kd.R_new' (Kd.R_new' (Kd.R_new' ho0 (Kd.R_lt (by (with_reducible repeat (first | apply Kd.R_alloc | apply Kd.R_drewN | apply Kd.R_drew)); exact HO_8.out))) (Kd.R_lt (by (with_reducible repeat (first | apply Kd.R_alloc | apply Kd.R_drewN | apply Kd.R_drew)); exact HO356.out))) (Kd.R_lt (by (with_reducible repeat (first | apply Kd.R_alloc | apply Kd.R_drewN | apply Kd.R_drew)); exact HO361.out))) (Kd.R_lt (by (with_reducible repeat (first | apply Kd.R_alloc | apply Kd.R_drewN | apply Kd.R_drew)); exact HO364.out))) (below_size (by repeat (first | (with_reducible first | exact HB.out | apply below_alloc | apply pw_below_drewN | apply below_drew1) | exact HB.out)))); have n5_ := Aside0.mk (below_step (by repeat (first | (with_reducible first | exact HB.out | apply below_alloc | apply pw_below_drewN | apply below_drew1) | exact HB.out)) hb); clear HO_8; clear HO356; clear HO361; clear HO364; clear HB; have HO_8 := n0_; have HO356 := n1_; have HO361 := n2_; have HO364 := n3_; have HO370 := n4_; have HB := n5_; clear n0_ n1_ n2_ n3_ n4_ n5_; (try clear hb); (try clear hb2); (try clear hk); (try clear hi); (try clear ho0)) | ((with_reducible refine gate_callee (f := 16) rfl ?_); refine goesL_ (some 92) rfl rfl Try.func16 (by kernel_rfl) rfl #[.slice Ao51 x8_2.length co51] rfl (by (try simp only [List.map_toArray, List.map_cons, List.map_nil]); first | done | rfl | (simp only [List.length_drop, List.length_take]; rfl)) ?_; (with_reducible refine (shuttlelaw0_CopyVars.calls _ _ x8_2 t371 _ ?side1 ?side2 A46.out).mono ?_); (case side1 => repeat (first | exact (Kd.R_reads' HO_8.out).2.2 | (with_reducible refine Kd.C_alloc ?_ _) | (with_reducible refine Kd.C_drewN ?_ _) | (with_reducible refine Kd.C_drew ?_))); (case side2 => exact (Kd.R_reads' HO_8.out).2.1); rintro e w59 ⟨v372, rfl, ho0, hb⟩; refine ⟨_, rfl, ?_⟩; have n0_ := Aside0.mk (Kd.R_elder' (by (with_reducible repeat (first | apply Kd.R_alloc | apply Kd.R_drewN | apply Kd.R_drew)); exact HO_8.out) (Kd.R_base ho0) hb); have n1_ := Aside0.mk (Kd.R_elder' (by (with_reducible repeat (first | apply Kd.R_alloc | apply Kd.R_drewN | apply Kd.R_drew)); exact HO356.out) (Kd.R_base ho0) hb); have n2_ := Aside0.mk (Kd.R_elder' (by (with_reducible repeat (first | apply Kd.R_alloc | apply Kd.R_drewN | apply Kd.R_drew)); exact HO361.out) (Kd.R_base ho0) hb); have n3_ := Aside0.mk (Kd.R_elder' (by (with_reducible repeat (first | apply Kd.R_alloc | apply Kd.R_drewN | apply Kd.R_drew)); exact HO364.out) (Kd.R_base ho0) hb); have n4_ := Aside0.mk (Kd.R_elder' (by (with_reducible repeat (first | apply Kd.R_alloc | apply Kd.R_drewN | apply Kd.R_drew)); exact HO370.out) (Kd.R_base ho0) hb); have n5_ := Aside0.mk (Kd.R_lower (Kd.R_new' (Kd.R_new' (Kd.R_new' (Kd.R_new' (Kd.R_new' ho0 (Kd.R_lt (by (with_reducible repeat (first | apply Kd.R_alloc | apply Kd.R_drewN | apply Kd.R_drew)); exact HO_8.out))) (Kd.R_lt (by (with_reducible repeat (first | apply Kd.R_alloc | apply Kd.R_drewN | apply Kd.R_drew)); exact HO356.out))) (Kd.R_lt (by (with_reducible repeat (first | apply Kd.R_alloc | apply Kd.R_drewN | apply Kd.R_drew)); exact HO361.out))) (Kd.R_lt (by (with_reducible repeat (first | apply Kd.R_alloc | apply Kd.R_drewN | apply Kd.R_drew)); exact HO364.out))) (Kd.R_lt (by (with_reducible repeat (first | apply Kd.R_alloc | apply Kd.R_drewN | apply Kd.R_drew)); exact HO370.out))) (below_size (by repeat (first | (with_reducible first | exact HB.out | apply below_alloc | apply pw_below_drewN | apply below_drew1) | exact HB.out)))); have n6_ := Aside0.mk (below_step (by repeat (first | (with_reducible first | exact HB.out | apply below_alloc | apply pw_below_drewN | apply below_drew1) | exact HB.out)) hb); clear HO_8; clear HO356; clear HO361; clear HO364; clear HO370; clear HB; have HO_8 := n0_; have HO356 := n1_; have HO361 := n2_; have HO364 := n3_; have HO370 := n4_; have HO373 := n5_; have HB := n6_; clear n0_ n1_ n2_ n3_ n4_ n5_ n6_; (try clear hb); (try clear hb2); (try clear hk); (try clear hi); (try clear ho0); have p48 : 0 ≤ ((ji41) : Int) := of_decide_eq_true (by first | (with_reducible assumption) | assumption); have q48 : ((ji41) : Int) < ((t371.length : Int) : Int) := of_decide_eq_true (by first | (with_reducible assumption) | assumption); obtain ⟨go48, co48, eo48, gb48, gl48, cl48, HG48⟩ := Kd.R_form HO373.out (by omega); (first | cases eo48 | (injection eo48 with ea_ en_ ec_; (first | subst ea_ | (injection ea_ with ea_; subst ea_)); subst ec_; clear en_)); have GB48 := Aside0.mk gb48; have GG48 := Aside0.mk HG48; clear gb48 gl48 HG48; obtain ⟨ce48, hcl48, hM48, hcc48, hfr48⟩ := Kd.R_elem HO373.out z41 ((ji41) : Int) p48 q48; obtain rfl := k41_openM hM48; have hx48_0 : w59.cell? ⟨go48, ((ji41) : Int).toNat * 2, none⟩ = some (.string ((rd_T41 t371 (ji41)).f0)) := hcc48 0 _ rfl; have hx48_1 : w59.cell? ⟨go48, ((ji41) : Int).toNat * 2 + 1, none⟩ = some (.string ((rd_T41 t371 (ji41)).f1)) := hcc48 1 _ rfl; have hf48_0 : w59.frozen? ⟨go48, ((ji41) : Int).toNat * 2, none⟩ = false := hfr48 0; have hf48_1 : w59.frozen? ⟨go48, ((ji41) : Int).toNat * 2 + 1, none⟩ = false := hfr48 1; clear hcl48 hcc48 hfr48 hM48; replace p48 := eq_true p48; replace q48 := eq_true q48; have n_ := Aside0.mk (Kd.R_mono (ok' := (fun k_ => some k_ ≠ (.slice Ao51 x8_2.length co51 : Value).ownBlock ∧ some k_ ≠ (.slice Ao53 t354.length co53 : Value).ownBlock ∧ some k_ ≠ (v360 : Value).ownBlock ∧ some k_ ≠ (.slice (some ⟨go44, 0, none⟩) t362.length co44 : Value).ownBlock ∧ some k_ ≠ (v369 : Value).ownBlock)) HO373.out (fun k_ hk => ⟨hk.1.1.1.1.2, ⟨hk.1.1.1.2, ⟨hk.1.1.2, ⟨hk.1.2, hk.2⟩⟩⟩⟩)); clear HO373; have HO373 := n_; clear n_; have HX60 := Aside0.mk (show Kd.R k41 41 w59 w.heap.size (fun k_ => some k_ ≠ (.slice Ao51 x8_2.length co51 : Value).ownBlock ∧ some k_ ≠ (.slice Ao53 t354.length co53 : Value).ownBlock ∧ some k_ ≠ (v360 : Value).ownBlock ∧ some k_ ≠ (.slice (some ⟨go44, 0, none⟩) t362.length co44 : Value).ownBlock ∧ some k_ ≠ (v369 : Value).ownBlock) (.slice (some ⟨go48, 0, none⟩) t371.length co48) t371 from (by (with_reducible repeat (first | apply Kd.R_alloc | apply Kd.R_drewN | apply Kd.R_drew)); exact HO373.out)); obtain ⟨ce60, hcl60, hM60, hcc60, hfr60⟩ := Kd.R_elem HX60.out z41 ((ji41) : Int) (of_decide_eq_true (by first | (with_reducible assumption) | assumption)) (by have h_ : ((ji41) : Int) < ((t371.length : Int) : Int) := of_decide_eq_true (by first | (with_reducible assumption) | assumption); first | exact h_ | (have e_ := (Kd.R_reads' HO373.out).1; omega) | simpa using h_); obtain rfl := k41_openM hM60; have HP60 := Kd.R_seg HX60.out ((ji41) : Int) (of_decide_eq_true (by first | (with_reducible assumption) | assumption)) (by have h_ : ((ji41) : Int) < ((t371.length : Int) : Int) := of_decide_eq_true (by first | (with_reducible assumption) | assumption); first | exact h_ | (have e_ := (Kd.R_reads' HO373.out).1; omega) | simpa using h_) (seg := [.string (⟨#[120, 36, 123, 90, 125]⟩ : ByteArray)]) (j := 1) hcl60 hcc60 (show 2 ≤ 2 from by decide) (x' := (⟨(rd_T41 t371 (ji41)).f0, (⟨#[120, 36, 123, 90, 125]⟩ : ByteArray)⟩ : S41)) (k41_mkM _ _ _ (⟨(rd_T41 t371 (ji41)).f0, (⟨#[120, 36, 123, 90, 125]⟩ : ByteArray)⟩ : S41) ) (fun _ hk => hk); have hx60_1 := hcc60 1 _ rfl; (try simp only [show (k41).sz = 2 from rfl, Nat.mul_one, Nat.add_zero] at hx60_1); have hf60_1 := hfr60 1; (try simp only [show (k41).sz = 2 from rfl, Nat.mul_one, Nat.add_zero] at hf60_1); clear hcl60 hcc60 hfr60 hM60) | ((with_reducible refine gate_store (t := 9) (p := 96) rfl ?_); refine store_event (t := 9) (p := 96) (v := ?vo_w61) (w1 := (w59.setCell ⟨go48, ((ji41) : Int).toNat * 2 + 1, none⟩ (.string (⟨#[120, 36, 123, 90, 125]⟩ : ByteArray)))) ?hg ?ho ?hn ?hr ?_; (case ho => rfl); (case hg => rfl); (case hn => rfl); (case hr => first | (go_simp; done) | (go_simp; rfl)); intro w61 hw; have hg : w59.grownBy w61 (some go48) := (by rw [hw]; exact HP60.2); have hp_ : Kd.R k41 41 w61 w.heap.size (fun k_ => some k_ ≠ (.slice Ao51 x8_2.length co51 : Value).ownBlock ∧ some k_ ≠ (.slice Ao53 t354.length co53 : Value).ownBlock ∧ some k_ ≠ (v360 : Value).ownBlock ∧ some k_ ≠ (.slice (some ⟨go44, 0, none⟩) t362.length co44 : Value).ownBlock ∧ some k_ ≠ (v369 : Value).ownBlock) (.slice (some ⟨go48, 0, none⟩) t371.length co48) y374 := (by rw [hw, Ny374.out]; exact HP60.1); clear HP60; have n0_ := Aside0.mk (Kd.R_after (v := (.slice (some ⟨go48, 0, none⟩) t371.length co48)) (v1 := (.slice (some ⟨go48, 0, none⟩) t371.length co48)) (ok := (fun k_ => some k_ ≠ (.slice Ao53 t354.length co53 : Value).ownBlock ∧ some k_ ≠ (v360 : Value).ownBlock ∧ some k_ ≠ (.slice (some ⟨go44, 0, none⟩) t362.length co44 : Value).ownBlock ∧ some k_ ≠ (v369 : Value).ownBlock)) (by (with_reducible repeat (first | apply Kd.R_alloc | apply Kd.R_drewN | apply Kd.R_drew)); exact Kd.R_mono HO_8.out (fun _ hk => ⟨⟨hk.1.1.1.1, ⟨hk.1.1.1.2, ⟨hk.1.1.2, hk.1.2⟩⟩⟩, hk.2⟩)) hg (.inl rfl)); have n1_ := Aside0.mk (Kd.R_after (v := (.slice (some ⟨go48, 0, none⟩) t371.length co48)) (v1 := (.slice (some ⟨go48, 0, none⟩) t371.length co48)) (ok := (fun k_ => some k_ ≠ (.slice Ao51 x8_2.length co51 : Value).ownBlock ∧ some k_ ≠ (v360 : Value).ownBlock ∧ some k_ ≠ (.slice (some ⟨go44, 0, none⟩) t362.length co44 : Value).ownBlock ∧ some k_ ≠ (v369 : Value).ownBlock)) (by (with_reducible repeat (first | apply Kd.R_alloc | apply Kd.R_drewN | apply Kd.R_drew)); exact Kd.R_mono HO356.out (fun _ hk => ⟨⟨hk.1.1.1.1, ⟨hk.1.1.1.2, ⟨hk.1.1.2, hk.1.2⟩⟩⟩, hk.2⟩)) hg (.inl rfl)); have n2_ := Aside0.mk (Kd.R_after (v := (.slice (some ⟨go48, 0, none⟩) t371.length co48)) (v1 := (.slice (some ⟨go48, 0, none⟩) t371.length co48)) (ok := (fun k_ => some k_ ≠ (.slice Ao51 x8_2.length co51 : Value).ownBlock ∧ some k_ ≠ (.slice Ao53 t354.length co53 : Value).ownBlock ∧ some k_ ≠ (.slice (some ⟨go44, 0, none⟩) t362.length co44 : Value).ownBlock ∧ some k_ ≠ (v369 : Value).ownBlock)) (by (with_reducible repeat (first | apply Kd.R_alloc | apply Kd.R_drewN | apply Kd.R_drew)); exact Kd.R_mono HO361.out (fun _ hk => ⟨⟨hk.1.1.1.1, ⟨hk.1.1.1.2, ⟨hk.1.1.2, hk.1.2⟩⟩⟩, hk.2⟩)) hg (.inl rfl)); have n3_ := Aside0.mk (Kd.R_after (v := (.slice (some ⟨go48, 0, none⟩) t371.length co48)) (v1 := (.slice (some ⟨go48, 0, none⟩) t371.length co48)) (ok := (fun k_ => some k_ ≠ (.slice Ao51 x8_2.length co51 : Value).ownBlock ∧ some k_ ≠ (.slice Ao53 t354.length co53 : Value).ownBlock ∧ some k_ ≠ (v360 : Value).ownBlock ∧ some k_ ≠ (v369 : Value).ownBlock)) (by (with_reducible repeat (first | apply Kd.R_alloc | apply Kd.R_drewN | apply Kd.R_drew)); exact Kd.R_mono HO364.out (fun _ hk => ⟨⟨hk.1.1.1, ⟨hk.1.1.2.1, ⟨hk.1.1.2.2, hk.1.2⟩⟩⟩, hk.2⟩)) hg (.inl rfl)); have n4_ := Aside0.mk (Kd.R_after (v := (.slice (some ⟨go48, 0, none⟩) t371.length co48)) (v1 := (.slice (some ⟨go48, 0, none⟩) t371.length co48)) (ok := (fun k_ => some k_ ≠ (.slice Ao51 x8_2.length co51 : Value).ownBlock ∧ some k_ ≠ (.slice Ao53 t354.length co53 : Value).ownBlock ∧ some k_ ≠ (v360 : Value).ownBlock ∧ some k_ ≠ (.slice (some ⟨go44, 0, none⟩) t362.length co44 : Value).ownBlock)) (by (with_reducible repeat (first | apply Kd.R_alloc | apply Kd.R_drewN | apply Kd.R_drew)); exact Kd.R_mono HO370.out (fun _ hk => ⟨⟨hk.1.1.1.1.2, ⟨hk.1.1.1.2, ⟨hk.1.1.2, hk.1.2⟩⟩⟩, hk.2⟩)) hg (.inl rfl)); have n5_ := Aside0.mk (hp_); have n6_ := Aside0.mk ((by rw [hw]; exact below_set (HB.out) GB48.out : Below w.heap.size w w61)); clear HO_8; clear HO356; clear HO361; clear HO364; clear HO370; clear HO373; clear HB; have HO_8 := n0_; have HO356 := n1_; have HO361 := n2_; have HO364 := n3_; have HO370 := n4_; have HO373 := n5_; have HB := n6_; clear n0_ n1_ n2_ n3_ n4_ n5_ n6_; clear hg hw hp_) | ((with_reducible refine gate_callee (f := 14) rfl ?_); refine goesL_ (some 99) rfl rfl Try.func14 (by kernel_rfl) rfl #[.slice (some ⟨go48, 0, none⟩) y374.length co48] rfl (by (try simp only [List.map_toArray, List.map_cons, List.map_nil]); first | done | (rw [show y374.length = t371.length from (Kd.R_reads' HO373.out).1.symm] <;> rfl) | rfl | (simp only [List.length_drop, List.length_take]; rfl)) ?_; (with_reducible refine (vars_Resolve.calls _ _ y374 t375 t376 t377 _ ?side1 ?side2 ?gm_ A49.out).mono ?_); (case gm_ => exact GM.below HGM.out (by repeat (first | (with_reducible first | exact HB.out | apply below_alloc | apply pw_below_drewN | apply below_drew1 | refine below_set ?_ (Aside0.out (by assumption))) | exact HB.out))); (case side1 => repeat (first | exact (Kd.R_reads' HO373.out).2.2 | (with_reducible refine Kd.C_alloc ?_ _) | (with_reducible refine Kd.C_drewN ?_ _) | (with_reducible refine Kd.C_drew ?_))); (case side2 => rw [show y374.length = t371.length from (Kd.R_reads' HO373.out).1.symm]; exact (Kd.R_reads' HO373.out).2.1); rintro e w62 ⟨v378, rfl, ho0, hb⟩; refine ⟨_, rfl, ?_⟩; have n0_ := Aside0.mk (Kd.R_elder' (by (with_reducible repeat (first | apply Kd.R_alloc | apply Kd.R_drewN | apply Kd.R_drew)); exact HO_8.out) (Kd.R_base ho0) hb); have n1_ := Aside0.mk (Kd.R_elder' (by (with_reducible repeat (first | apply Kd.R_alloc | apply Kd.R_drewN | apply Kd.R_drew)); exact HO356.out) (Kd.R_base ho0) hb); have n2_ := Aside0.mk (Kd.R_elder' (by (with_reducible repeat (first | apply Kd.R_alloc | apply Kd.R_drewN | apply Kd.R_drew)); exact HO361.out) (Kd.R_base ho0) hb); have n3_ := Aside0.mk (Kd.R_elder' (by (with_reducible repeat (first | apply Kd.R_alloc | apply Kd.R_drewN | apply Kd.R_drew)); exact HO364.out) (Kd.R_base ho0) hb); have n4_ := Aside0.mk (Kd.R_elder' (by (with_reducible repeat (first | apply Kd.R_alloc | apply Kd.R_drewN | apply Kd.R_drew)); exact HO370.out) (Kd.R_base ho0) hb); have n5_ := Aside0.mk (Kd.R_elder' (by (with_reducible repeat (first | apply Kd.R_alloc | apply Kd.R_drewN | apply Kd.R_drew)); exact HO373.out) (Kd.R_base ho0) hb); have n6_ := Aside0.mk (Kd.R_lower (Kd.R_new' (Kd.R_new' (Kd.R_new' (Kd.R_new' (Kd.R_new' (Kd.R_new' ho0 (Kd.R_lt (by (with_reducible repeat (first | apply Kd.R_alloc | apply Kd.R_drewN | apply Kd.R_drew)); exact HO_8.out))) (Kd.R_lt (by (with_reducible repeat (first | apply Kd.R_alloc | apply Kd.R_drewN | apply Kd.R_drew)); exact HO356.out))) (Kd.R_lt (by (with_reducible repeat (first | apply Kd.R_alloc | apply Kd.R_drewN | apply Kd.R_drew)); exact HO361.out))) (Kd.R_lt (by (with_reducible repeat (first | apply Kd.R_alloc | apply Kd.R_drewN | apply Kd.R_drew)); exact HO364.out))) (Kd.R_lt (by (with_reducible repeat (first | apply Kd.R_alloc | apply Kd.R_drewN | apply Kd.R_drew)); exact HO370.out))) (Kd.R_lt (by (with_reducible repeat (first | apply Kd.R_alloc | apply Kd.R_drewN | apply Kd.R_drew)); exact HO373.out))) (below_size (by repeat (first | (with_reducible first | exact HB.out | apply below_alloc | apply pw_below_drewN | apply below_drew1) | exact HB.out)))); have n7_ := Aside0.mk (below_step (by repeat (first | (with_reducible first | exact HB.out | apply below_alloc | apply pw_below_drewN | apply below_drew1) | exact HB.out)) hb); clear HO_8; clear HO356; clear HO361; clear HO364; clear HO370; clear HO373; clear HB; have HO_8 := n0_; have HO356 := n1_; have HO361 := n2_; have HO364 := n3_; have HO370 := n4_; have HO373 := n5_; have HO379 := n6_; have HB := n7_; clear n0_ n1_ n2_ n3_ n4_ n5_ n6_ n7_; (try clear hb); (try clear hb2); (try clear hk); (try clear hi); (try clear ho0)))
                      (try simp only [Act.put, List.setIfInBounds_toArray, List.set_cons_zero, List.set_cons_succ])
                      go_cut [116] (fun v116 wc => ∃ (kq : Nat) (x116_49 : Bool), v116 = .bool x116_49 ∧ Aside0 (shuttlelaw10_VarsChains.j2 kq a1 (ji41) t357 t358 t359 x116_49 = some r) ∧ Aside0 (kq ≤ k2) ∧ Aside0 (Kd.R k41 41 wc w.heap.size (fun _ => True) v360 t357) ∧ Aside0 (Below w.heap.size w wc))
                      case first =>
                        have H := HC50.out
                        clear HC50
                        by_cases c63 : t368 = 103
                        · rw [if_pos c63] at H
                          have c63b0 : (t368 == 103) = true := beq_iff_eq.mpr c63
                          have c63b1 : (t368 != 103) = false := bne_eq_false_iff_eq.mpr c63
                          clear c63
                          (first | rw [c63b0] | rw [c63b1] | (simp only [i64_w, i32_w]; rw [c63b0]) | skip)
                          by_cases c64 : t367 = 0
                          · rw [if_pos c64] at H
                            have c64b0 : (t367 == 0) = true := beq_iff_eq.mpr c64
                            have c64b1 : (t367 != 0) = false := bne_eq_false_iff_eq.mpr c64
                            clear c64
                            by_cases c65 : t377 = 102
                            · rw [if_pos c65] at H
                              have c65b0 : (t377 == 102) = true := beq_iff_eq.mpr c65
                              have c65b1 : (t377 != 102) = false := bne_eq_false_iff_eq.mpr c65
                              clear c65
                              have H' := Aside0.mk H
                              clear H
                              go_wp2
                              go_meet
                              case rel => exact ⟨_, ((t376 != 0)), (by first | rfl | (simp; done) | (simp [*]; done)), H', ⟨by have := HK1.out; have := HK2.out; first | omega | exact Nat.le_refl _⟩, ⟨by (with_reducible repeat (first | apply Kd.R_alloc | apply Kd.R_drewN | apply Kd.R_drew)); exact Kd.R_mono HO361.out (fun _ hk => trivial)⟩, ⟨by repeat (first | (with_reducible first | exact HB.out | apply below_alloc | apply pw_below_drewN | apply below_drew1) | exact HB.out)⟩⟩
                            · rw [if_neg c65] at H
                              have c65b0 : (t377 == 102) = false := beq_eq_false_iff_ne.mpr c65
                              have c65b1 : (t377 != 102) = true := bne_iff_ne.mpr c65
                              have H' := Aside0.mk H
                              clear H
                              go_wp2
                              go_meet
                              case rel => exact ⟨_, (true), (by first | rfl | (simp; done) | (simp [*]; done)), H', ⟨by have := HK1.out; have := HK2.out; first | omega | exact Nat.le_refl _⟩, ⟨by (with_reducible repeat (first | apply Kd.R_alloc | apply Kd.R_drewN | apply Kd.R_drew)); exact Kd.R_mono HO361.out (fun _ hk => trivial)⟩, ⟨by repeat (first | (with_reducible first | exact HB.out | apply below_alloc | apply pw_below_drewN | apply below_drew1) | exact HB.out)⟩⟩
                          · rw [if_neg c64] at H
                            have c64b0 : (t367 == 0) = false := beq_eq_false_iff_ne.mpr c64
                            have c64b1 : (t367 != 0) = true := bne_iff_ne.mpr c64
                            have H' := Aside0.mk H
                            clear H
                            go_wp2
                            go_meet
                            case rel => exact ⟨_, (true), (by first | rfl | (simp; done) | (simp [*]; done)), H', ⟨by have := HK1.out; have := HK2.out; first | omega | exact Nat.le_refl _⟩, ⟨by (with_reducible repeat (first | apply Kd.R_alloc | apply Kd.R_drewN | apply Kd.R_drew)); exact Kd.R_mono HO361.out (fun _ hk => trivial)⟩, ⟨by repeat (first | (with_reducible first | exact HB.out | apply below_alloc | apply pw_below_drewN | apply below_drew1) | exact HB.out)⟩⟩
                        · rw [if_neg c63] at H
                          have c63b0 : (t368 == 103) = false := beq_eq_false_iff_ne.mpr c63
                          have c63b1 : (t368 != 103) = true := bne_iff_ne.mpr c63
                          (first | rw [c63b0] | rw [c63b1] | (simp only [i64_w, i32_w]; rw [c63b0]) | skip)
                          have H' := Aside0.mk H
                          clear H
                          go_wp2
                          go_meet
                          case rel => exact ⟨_, (true), (by first | rfl | (simp; done) | (simp [*]; done)), H', ⟨by have := HK1.out; have := HK2.out; first | omega | exact Nat.le_refl _⟩, ⟨by (with_reducible repeat (first | apply Kd.R_alloc | apply Kd.R_drewN | apply Kd.R_drew)); exact Kd.R_mono HO361.out (fun _ hk => trivial)⟩, ⟨by repeat (first | (with_reducible first | exact HB.out | apply below_alloc | apply pw_below_drewN | apply below_drew1) | exact HB.out)⟩⟩
                      case rest =>
                        clear HC50
                        try clear c1
                        try clear c2
                        try clear p2
                        try clear c3
                        try clear c3b0
                        try clear c4
                        try clear c4b0
                        try clear p4
                        try clear q4
                        try clear hx4
                        try clear hf4
                        try clear c5
                        try clear p5
                        try clear q5
                        try clear hx5
                        try clear hf5
                        try clear c6
                        try clear c6b0
                        try clear c6b1
                        try clear p6
                        try clear hx6
                        try clear hf6
                        try clear c9
                        try clear c9b0
                        try clear c9b1
                        try clear c13
                        try clear c13b0
                        try clear c14
                        try clear c14b0
                        try clear c14b1
                        try clear c15
                        try clear c15b0
                        try clear c15b1
                        try clear c16
                        try clear c16b0
                        try clear c16b1
                        try clear c18
                        try clear c18b0
                        try clear c18b1
                        try clear c19
                        try clear c19b0
                        try clear c19b1
                        try clear c20
                        try clear c20b0
                        try clear c20b1
                        try clear c21
                        try clear c21b0
                        try clear c21b1
                        try clear c21b2
                        try clear c22
                        try clear c22b0
                        try clear c22b1
                        try clear c22b2
                        try clear c23
                        try clear c23b0
                        try clear c23b1
                        try clear c24
                        try clear c27
                        try clear c31
                        try clear c42
                        try clear c42b0
                        try clear c43
                        try clear c43b0
                        try clear c44
                        try clear p44
                        try clear q44
                        try clear hx44
                        try clear hf44
                        try clear c47
                        try clear c47b0
                        try clear c48
                        try clear p48
                        try clear q48
                        try clear hx48
                        try clear hf48
                        try clear c56
                        try clear hx56
                        try clear hf56
                        try clear c60
                        try clear hx60
                        try clear hf60
                        try clear c63
                        try clear c63b0
                        try clear c63b1
                        try clear c64
                        try clear c64b0
                        try clear c64b1
                        try clear p64
                        try clear c65
                        try clear c65b0
                        try clear c65b1
                        try clear hcz29_0
                        try clear hcz29_1
                        try clear hcz36_0
                        try clear hcz36_1
                        try clear hfz29_0
                        try clear hfz29_1
                        try clear hfz36_0
                        try clear hfz36_1
                        try clear hx44_0
                        try clear hx44_1
                        try clear hx48_0
                        try clear hx48_1
                        try clear hx56_1
                        try clear hx60_1
                        try clear p2
                        try clear p44
                        try clear p48
                        try clear p5
                        try clear p6
                        try clear q44
                        try clear q48
                        try clear q5
                        obtain ⟨kq, x116_49, rfl, HA, HJ49, HO_11, HB⟩ := hcut
                        cases kq with
                        | zero => exact absurd HA.out (by simp [shuttlelaw10_VarsChains.j2])
                        | succ kj49 =>
                          have H := HA.out
                          clear HA
                          simp only [shuttlelaw10_VarsChains.j2] at H
                          by_cases c66 : x116_49 = true
                          · subst c66
                            have H1 : (some false) = some r := by rw [if_pos rfl] at H; exact H
                            clear H
                            have H := H1
                            clear H1
                            obtain rfl := Option.some.inj H
                            go_wp2
                            go_ret
                            exact ⟨by first | rfl | (simp [errW_none, errW_some] <;> rfl) | (simp only [← hji41]; first | rfl | (simp [errW_none, errW_some] <;> rfl)) | (simp [*, errW_none, errW_some] <;> rfl), by repeat (first | (with_reducible first | exact HB.out | apply below_alloc | apply pw_below_drewN | apply below_drew1) | exact HB.out)⟩
                          · replace c66 := Bool.eq_false_iff.mpr c66
                            subst c66
                            have H1 : (if (ji41) > 16 then (if t359 = 103 then (if t358 = 0 then (if (t357.length : Int) = 0 then ((shuttlelaw10_awake.f kj49).bind fun t380 => (some t380)) else (some false)) else (some false)) else (some false)) else (shuttlelaw10_VarsChains.l2 kj49 (ji41) t357 t359 a1 0)) = some r := by rw [if_neg (show ¬ (false = true) by decide)] at H; exact H
                            clear H
                            have H := H1
                            clear H1
                            by_cases c67 : (ji41) > 16
                            · rw [if_pos c67] at H
                              have c67b0 : decide (16 < (ji41)) = true := decide_eq_true c67
                              clear c67
                              by_cases c68 : t359 = 103
                              · rw [if_pos c68] at H
                                have c68b0 : (t359 == 103) = true := beq_iff_eq.mpr c68
                                have c68b1 : (t359 != 103) = false := bne_eq_false_iff_eq.mpr c68
                                clear c68
                                by_cases c69 : t358 = 0
                                · rw [if_pos c69] at H
                                  have c69b0 : (t358 == 0) = true := beq_iff_eq.mpr c69
                                  have c69b1 : (t358 != 0) = false := bne_eq_false_iff_eq.mpr c69
                                  clear c69
                                  by_cases c70 : (t357.length : Int) = 0
                                  · rw [if_pos c70] at H
                                    have c70b0 : ((t357.length : Int) == 0) = true := beq_iff_eq.mpr c70
                                    have c70b1 : ((t357.length : Int) != 0) = false := bne_eq_false_iff_eq.mpr c70
                                    clear c70
                                    replace H := Option.bind_eq_some_iff.mp H
                                    obtain ⟨t380, A710, H⟩ := H
                                    replace H : (some t380) = some r := H
                                    have A71 := Aside0.mk A710
                                    clear A710
                                    obtain rfl := Option.some.inj H
                                    obtain ⟨Ao72, co72, eo72⟩ := Kd.R_slice HO_11.out
                                    subst eo72
                                    go_wp2_with (first | (go_at_call 19; (with_reducible refine (shuttlelaw10_awake.calls kj49  t380 _ ?gm_ A71.out).mono ?_); (case gm_ => exact GM.below HGM.out (by repeat (first | (with_reducible first | exact HB.out | apply below_alloc | apply pw_below_drewN | apply below_drew1 | refine below_set ?_ (Aside0.out (by assumption))) | exact HB.out))); rintro e w73 ⟨rfl, hb⟩; have n0_ := Aside0.mk (Kd.R_below (by (with_reducible repeat (first | apply Kd.R_alloc | apply Kd.R_drewN | apply Kd.R_drew)); exact HO_11.out) hb); have n1_ := Aside0.mk (below_step (by repeat (first | (with_reducible first | exact HB.out | apply below_alloc | apply pw_below_drewN | apply below_drew1) | exact HB.out)) hb); clear HO_11; clear HB; have HO_11 := n0_; have HB := n1_; clear n0_ n1_; (try clear hb); (try clear hb2); (try clear hk); (try clear hi)))
                                    go_ret
                                    exact ⟨by first | rfl | (simp [errW_none, errW_some] <;> rfl) | (simp only [← hji41]; first | rfl | (simp [errW_none, errW_some] <;> rfl)) | (simp [*, errW_none, errW_some] <;> rfl), by repeat (first | (with_reducible first | exact HB.out | apply below_alloc | apply pw_below_drewN | apply below_drew1) | exact HB.out)⟩
                                  · rw [if_neg c70] at H
                                    have c70b0 : ((t357.length : Int) == 0) = false := beq_eq_false_iff_ne.mpr c70
                                    have c70b1 : ((t357.length : Int) != 0) = true := bne_iff_ne.mpr c70
                                    have c70b2 : ¬ (t357 = []) := fun h_ => c70 (by rw [h_]; rfl)
                                    obtain rfl := Option.some.inj H
                                    obtain ⟨Ao74, co74, eo74⟩ := Kd.R_slice HO_11.out
                                    subst eo74
                                    go_wp2
                                    go_ret
                                    exact ⟨by first | rfl | (simp [errW_none, errW_some] <;> rfl) | (simp only [← hji41]; first | rfl | (simp [errW_none, errW_some] <;> rfl)) | (simp [*, errW_none, errW_some] <;> rfl), by repeat (first | (with_reducible first | exact HB.out | apply below_alloc | apply pw_below_drewN | apply below_drew1) | exact HB.out)⟩
                                · rw [if_neg c69] at H
                                  have c69b0 : (t358 == 0) = false := beq_eq_false_iff_ne.mpr c69
                                  have c69b1 : (t358 != 0) = true := bne_iff_ne.mpr c69
                                  obtain rfl := Option.some.inj H
                                  go_wp2
                                  go_ret
                                  exact ⟨by first | rfl | (simp [errW_none, errW_some] <;> rfl) | (simp only [← hji41]; first | rfl | (simp [errW_none, errW_some] <;> rfl)) | (simp [*, errW_none, errW_some] <;> rfl), by repeat (first | (with_reducible first | exact HB.out | apply below_alloc | apply pw_below_drewN | apply below_drew1) | exact HB.out)⟩
                              · rw [if_neg c68] at H
                                have c68b0 : (t359 == 103) = false := beq_eq_false_iff_ne.mpr c68
                                have c68b1 : (t359 != 103) = true := bne_iff_ne.mpr c68
                                obtain rfl := Option.some.inj H
                                go_wp2
                                go_ret
                                exact ⟨by first | rfl | (simp [errW_none, errW_some] <;> rfl) | (simp only [← hji41]; first | rfl | (simp [errW_none, errW_some] <;> rfl)) | (simp [*, errW_none, errW_some] <;> rfl), by repeat (first | (with_reducible first | exact HB.out | apply below_alloc | apply pw_below_drewN | apply below_drew1) | exact HB.out)⟩
                            · rw [if_neg c67] at H
                              have c67b0 : decide (16 < (ji41)) = false := decide_eq_false c67
                              clear c67
                              have H' := Aside0.mk H
                              clear H
                              go_wp2
                              go_loopg [22, 23] kj49 (fun kq v22 v23 w' => ∃ (x22_4 : ByteArray) (x23_4 : Int), v22 = .string x22_4 ∧ v23 = .int .i64 x23_4 ∧ Aside0 (shuttlelaw10_VarsChains.l2 kq (ji41) t357 t359 x22_4 x23_4 = some r) ∧ Aside0 (kq ≤ kj49) ∧ Aside0 (Kd.R k41 41 w' w.heap.size (fun _ => True) v360 t357) ∧ Aside0 (Below w.heap.size w w'))
                              case atStart => exact ⟨(a1), (0), (by first | rfl | (simp; done) | (simp [*]; done)), (by first | rfl | (simp; done) | (simp [*]; done)), H', ⟨Nat.le_refl _⟩, ⟨by (with_reducible repeat (first | apply Kd.R_alloc | apply Kd.R_drewN | apply Kd.R_drew)); exact HO_11.out⟩, ⟨by repeat (first | (with_reducible first | exact HB.out | apply below_alloc | apply pw_below_drewN | apply below_drew1) | exact HB.out)⟩⟩
                              case round =>
                                clear H'
                                try clear c1
                                try clear c2
                                try clear p2
                                try clear c3
                                try clear c3b0
                                try clear c4
                                try clear c4b0
                                try clear p4
                                try clear q4
                                try clear hx4
                                try clear hf4
                                try clear c5
                                try clear p5
                                try clear q5
                                try clear hx5
                                try clear hf5
                                try clear c6
                                try clear c6b0
                                try clear c6b1
                                try clear p6
                                try clear hx6
                                try clear hf6
                                try clear c7
                                try clear c9
                                try clear c9b0
                                try clear c9b1
                                try clear c13
                                try clear c13b0
                                try clear c14
                                try clear c14b0
                                try clear c14b1
                                try clear c15
                                try clear c15b0
                                try clear c15b1
                                try clear c16
                                try clear c16b0
                                try clear c16b1
                                try clear c18
                                try clear c18b0
                                try clear c18b1
                                try clear c19
                                try clear c19b0
                                try clear c19b1
                                try clear c20
                                try clear c20b0
                                try clear c20b1
                                try clear c21
                                try clear c21b0
                                try clear c21b1
                                try clear c21b2
                                try clear c22
                                try clear c22b0
                                try clear c22b1
                                try clear c22b2
                                try clear c23
                                try clear c23b0
                                try clear c23b1
                                try clear c24
                                try clear c27
                                try clear c31
                                try clear c42
                                try clear c42b0
                                try clear c43
                                try clear c43b0
                                try clear c44
                                try clear p44
                                try clear q44
                                try clear hx44
                                try clear hf44
                                try clear c47
                                try clear c47b0
                                try clear c48
                                try clear p48
                                try clear q48
                                try clear hx48
                                try clear hf48
                                try clear c56
                                try clear hx56
                                try clear hf56
                                try clear c60
                                try clear hx60
                                try clear hf60
                                try clear c63
                                try clear c63b0
                                try clear c63b1
                                try clear c64
                                try clear c64b0
                                try clear c64b1
                                try clear p64
                                try clear c65
                                try clear c65b0
                                try clear c65b1
                                try clear c66
                                try clear c67
                                try clear c67b0
                                try clear c68
                                try clear c68b0
                                try clear c68b1
                                try clear c69
                                try clear c69b0
                                try clear c69b1
                                try clear c70
                                try clear c70b0
                                try clear c70b1
                                try clear c70b2
                                try clear hcz29_0
                                try clear hcz29_1
                                try clear hcz36_0
                                try clear hcz36_1
                                try clear hfz29_0
                                try clear hfz29_1
                                try clear hfz36_0
                                try clear hfz36_1
                                try clear hx44_0
                                try clear hx44_1
                                try clear hx48_0
                                try clear hx48_1
                                try clear hx56_1
                                try clear hx60_1
                                try clear p2
                                try clear p4
                                try clear p44
                                try clear p48
                                try clear p5
                                try clear p6
                                try clear p64
                                try clear q4
                                try clear q44
                                try clear q48
                                try clear q5
                                obtain ⟨x22_4, x23_4, rfl, rfl, HA, HK4, HO_11, HB⟩ := hrel
                                cases gk with
                                | zero => exact absurd HA.out (by simp [shuttlelaw10_VarsChains.l2])
                                | succ k4 =>
                                  have H := HA.out
                                  clear HA
                                  simp only [shuttlelaw10_VarsChains.l2] at H
                                  by_cases c75 : x23_4 < (ji41)
                                  · rw [if_pos c75] at H
                                    have c75b0 : decide (x23_4 < (ji41)) = true := decide_eq_true c75
                                    clear c75
                                    by_cases c76 : 1 + x22_4.size ≤ 9223372036854775807
                                    · rw [if_pos c76] at H
                                      have c76b0 := eq_true c76
                                      have c76b1 : decide (1 + x22_4.size ≤ 9223372036854775807) = true := decide_eq_true c76
                                      try have c76b2 : (9223372036854775807 < 1 + x22_4.size) = False := eq_false (Nat.not_lt.2 c76)
                                      by_cases c77 : ((⟨#[60]⟩ : ByteArray) ++ x22_4).size + 1 ≤ 9223372036854775807
                                      · rw [if_pos c77] at H
                                        have c77b0 := eq_true c77
                                        have c77b1 : decide (((⟨#[60]⟩ : ByteArray) ++ x22_4).size + 1 ≤ 9223372036854775807) = true := decide_eq_true c77
                                        try have c77b2 : (9223372036854775807 < ((⟨#[60]⟩ : ByteArray) ++ x22_4).size + 1) = False := eq_false (Nat.not_lt.2 c77)
                                        try have c77v : (9223372036854775807 < 1 + x22_4.size + 1) = False := eq_false (by first | omega | (have h_ := c77; simp only [ByteArray.size_append] at h_; exact Nat.not_lt.2 h_))
                                        have H' := Aside0.mk H
                                        clear H
                                        go_wp2
                                        go_roundg k4
                                        case measure => have := HK1.out; have := HK2.out; have := HJ49.out; have := HK4.out; omega
                                        case rel => exact ⟨(((⟨#[60]⟩ : ByteArray) ++ x22_4) ++ (⟨#[62]⟩ : ByteArray)), (wrap64 (x23_4 + 1)), (by first | rfl | (simp; done) | (simp [*]; done)), (by first | rfl | (simp; done) | (simp [*]; done)), H', ⟨by have := HK1.out; have := HK2.out; have := HJ49.out; have := HK4.out; omega⟩, ⟨by (with_reducible repeat (first | apply Kd.R_alloc | apply Kd.R_drewN | apply Kd.R_drew)); exact HO_11.out⟩, ⟨by repeat (first | (with_reducible first | exact HB.out | apply below_alloc | apply pw_below_drewN | apply below_drew1) | exact HB.out)⟩⟩
                                      · rw [if_neg c77] at H
                                        exact absurd H (by simp)
                                    · rw [if_neg c76] at H
                                      exact absurd H (by simp)
                                  · rw [if_neg c75] at H
                                    have c75b0 : decide (x23_4 < (ji41)) = false := decide_eq_false c75
                                    clear c75
                                    by_cases c78 : t359 = 0
                                    · rw [if_pos c78] at H
                                      have c78b0 : (t359 == 0) = true := beq_iff_eq.mpr c78
                                      have c78b1 : (t359 != 0) = false := bne_eq_false_iff_eq.mpr c78
                                      clear c78
                                      by_cases c79 : (t357.length : Int) = (wrap64 ((ji41) + 1))
                                      · rw [if_pos c79] at H
                                        have c79b0 : ((t357.length : Int) == (wrap64 ((ji41) + 1))) = true := beq_iff_eq.mpr c79
                                        have c79b1 : ((t357.length : Int) != (wrap64 ((ji41) + 1))) = false := bne_eq_false_iff_eq.mpr c79
                                        clear c79
                                        by_cases c80 : 0 < (t357.length : Int)
                                        · rw [if_pos c80] at H
                                          have c80b0 : decide (0 < (t357.length : Int)) = true := decide_eq_true c80
                                          have c80b1 : decide (0 < t357.length) = true := decide_eq_true (by omega)
                                          clear c80
                                          by_cases c81 : ((rd_T41 t357 0).f1).toList = x22_4.toList
                                          · rw [if_pos c81] at H
                                            have c81b0 : (((rd_T41 t357 0).f1).toList == x22_4.toList) = true := beq_iff_eq.mpr c81
                                            have c81b1 : (((rd_T41 t357 0).f1).toList != x22_4.toList) = false := bne_eq_false_iff_eq.mpr c81
                                            clear c81
                                            replace H := Option.bind_eq_some_iff.mp H
                                            obtain ⟨t382, A820, H⟩ := H
                                            replace H : (some t382) = some r := H
                                            have A82 := Aside0.mk A820
                                            clear A820
                                            obtain rfl := Option.some.inj H
                                            obtain ⟨Ao83, co83, eo83⟩ := Kd.R_slice HO_11.out
                                            subst eo83
                                            have p381 : 0 ≤ (0 : Int) := (by omega)
                                            have q381 : 0 < (t357.length : Int) := of_decide_eq_true (by first | (with_reducible assumption) | assumption)
                                            obtain ⟨ad381, e381, hx381_0, hx381_1⟩ := at_T41 (Kd.R_reads' HO_11.out).2.2 0 p381 q381
                                            cases e381
                                            have qi381 : (0 < t357.length) = True := eq_true (by omega)
                                            (try rw [show ((0 : Int)).toNat = 0 from rfl] at hx381_0)
                                            (try rw [show 0 * 2 = 0 from rfl] at hx381_0)
                                            (try rw [Addr.add_zero'] at hx381_0)
                                            (try rw [show ((0 : Int)).toNat = 0 from rfl] at hx381_1)
                                            (try rw [show 0 * 2 = 0 from rfl] at hx381_1)
                                            (try rw [Addr.add_zero'] at hx381_1)
                                            replace p381 := eq_true p381
                                            replace q381 := eq_true q381
                                            go_wp2_with (first | (go_at_call 19; (with_reducible refine (shuttlelaw10_awake.calls k4  t382 _ ?gm_ A82.out).mono ?_); (case gm_ => exact GM.below HGM.out (by repeat (first | (with_reducible first | exact HB.out | apply below_alloc | apply pw_below_drewN | apply below_drew1 | refine below_set ?_ (Aside0.out (by assumption))) | exact HB.out))); rintro e w84 ⟨rfl, hb⟩; have n0_ := Aside0.mk (Kd.R_below (by (with_reducible repeat (first | apply Kd.R_alloc | apply Kd.R_drewN | apply Kd.R_drew)); exact HO_11.out) hb); have n1_ := Aside0.mk (below_step (by repeat (first | (with_reducible first | exact HB.out | apply below_alloc | apply pw_below_drewN | apply below_drew1) | exact HB.out)) hb); clear HO_11; clear HB; have HO_11 := n0_; have HB := n1_; clear n0_ n1_; (try clear hb); (try clear hb2); (try clear hk); (try clear hi)))
                                            go_ret
                                            exact ⟨by first | rfl | (simp [errW_none, errW_some] <;> rfl) | (simp only [← hji41]; first | rfl | (simp [errW_none, errW_some] <;> rfl)) | (simp [*, errW_none, errW_some] <;> rfl), by repeat (first | (with_reducible first | exact HB.out | apply below_alloc | apply pw_below_drewN | apply below_drew1) | exact HB.out)⟩
                                          · rw [if_neg c81] at H
                                            have c81b0 : (((rd_T41 t357 0).f1).toList == x22_4.toList) = false := beq_eq_false_iff_ne.mpr c81
                                            have c81b1 : (((rd_T41 t357 0).f1).toList != x22_4.toList) = true := bne_iff_ne.mpr c81
                                            obtain rfl := Option.some.inj H
                                            obtain ⟨Ao85, co85, eo85⟩ := Kd.R_slice HO_11.out
                                            subst eo85
                                            have p381 : 0 ≤ (0 : Int) := (by omega)
                                            have q381 : 0 < (t357.length : Int) := of_decide_eq_true (by first | (with_reducible assumption) | assumption)
                                            obtain ⟨ad381, e381, hx381_0, hx381_1⟩ := at_T41 (Kd.R_reads' HO_11.out).2.2 0 p381 q381
                                            cases e381
                                            have qi381 : (0 < t357.length) = True := eq_true (by omega)
                                            (try rw [show ((0 : Int)).toNat = 0 from rfl] at hx381_0)
                                            (try rw [show 0 * 2 = 0 from rfl] at hx381_0)
                                            (try rw [Addr.add_zero'] at hx381_0)
                                            (try rw [show ((0 : Int)).toNat = 0 from rfl] at hx381_1)
                                            (try rw [show 0 * 2 = 0 from rfl] at hx381_1)
                                            (try rw [Addr.add_zero'] at hx381_1)
                                            replace p381 := eq_true p381
                                            replace q381 := eq_true q381
                                            go_wp2
                                            go_ret
                                            exact ⟨by first | rfl | (simp [errW_none, errW_some] <;> rfl) | (simp only [← hji41]; first | rfl | (simp [errW_none, errW_some] <;> rfl)) | (simp [*, errW_none, errW_some] <;> rfl), by repeat (first | (with_reducible first | exact HB.out | apply below_alloc | apply pw_below_drewN | apply below_drew1) | exact HB.out)⟩
                                        · rw [if_neg c80] at H
                                          exact absurd H (by simp)
                                      · rw [if_neg c79] at H
                                        have c79b0 : ((t357.length : Int) == (wrap64 ((ji41) + 1))) = false := beq_eq_false_iff_ne.mpr c79
                                        have c79b1 : ((t357.length : Int) != (wrap64 ((ji41) + 1))) = true := bne_iff_ne.mpr c79
                                        obtain rfl := Option.some.inj H
                                        obtain ⟨Ao86, co86, eo86⟩ := Kd.R_slice HO_11.out
                                        subst eo86
                                        go_wp2
                                        go_ret
                                        exact ⟨by first | rfl | (simp [errW_none, errW_some] <;> rfl) | (simp only [← hji41]; first | rfl | (simp [errW_none, errW_some] <;> rfl)) | (simp [*, errW_none, errW_some] <;> rfl), by repeat (first | (with_reducible first | exact HB.out | apply below_alloc | apply pw_below_drewN | apply below_drew1) | exact HB.out)⟩
                                    · rw [if_neg c78] at H
                                      have c78b0 : (t359 == 0) = false := beq_eq_false_iff_ne.mpr c78
                                      have c78b1 : (t359 != 0) = true := bne_iff_ne.mpr c78
                                      obtain rfl := Option.some.inj H
                                      go_wp2
                                      go_ret
                                      exact ⟨by first | rfl | (simp [errW_none, errW_some] <;> rfl) | (simp only [← hji41]; first | rfl | (simp [errW_none, errW_some] <;> rfl)) | (simp [*, errW_none, errW_some] <;> rfl), by repeat (first | (with_reducible first | exact HB.out | apply below_alloc | apply pw_below_drewN | apply below_drew1) | exact HB.out)⟩
                    · rw [if_neg c47] at H
                      exact absurd H (by simp)
                  · rw [if_neg c43] at H
                    exact absurd H (by simp)
                · rw [if_neg c42] at H
                  exact absurd H (by simp)
/-- THE ONE PURE STATEMENT of shuttlelaw10_VarsChains: yours. -/
def shuttlelaw10_VarsChains.Pure : Prop := ∀ (a0 : Int) (a1 : ByteArray), (Lit.int .i64 a0).wf = true → a1.size ≤ 140737488351232 → ∃ k, shuttlelaw10_VarsChains.f k a0 a1 = some true
theorem shuttlelaw10_VarsChains.walk (P : shuttlelaw10_VarsChains.Pure) (a0 : Int) (a1 : ByteArray) (w : World) (hgm : GM w) (w0 : (Lit.int .i64 a0).wf = true) (w1 : a1.size ≤ 140737488351232) :
    Calls Try.prog 9 #[.int .i64 a0, .string a1] w fun e w' => e = .returned (.bool true) ∧ Below w.heap.size w w' := by
  obtain ⟨k, h⟩ := P a0 a1 w0 w1
  refine (shuttlelaw10_VarsChains.calls k a0 a1 true w hgm h).mono ?_
  rintro e w' ⟨rfl, hd⟩
  exact ⟨rfl, hd⟩
end Go.Proofs.Ytfkibolpanlelaa.Q
