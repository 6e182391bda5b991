-- Printed for this seat by gprint.py (the kit's printer over contracts proved by hand).
import Derived.Test.YtmkfjjfdbaaknaaDoorHAQ0
import Derived.Test.YtmkfjjfdbaaknaaDoorHAQ1
import Derived.Test.YtmkfjjfdbaaknaaDoorHAQ8
import Derived.Test.YtmkfjjfdbaaknaaDoorHAQ9
import Derived.Test.YtmkfjjfdbaaknaaDoorHASGiv
namespace Go.Proofs.YtmkfjjfdbaaknaaDoor.Q
open Go.RowKit Go.Proofs.YtmkfjjfdbaaknaaDoorW.PrintWords Go.Proofs.YtmkfjjfdbaaknaaDoorW.PrintLast Go.Proofs.YtmkfjjfdbaaknaaDoorW.PrintMore
attribute [local go_sem] max2_int min2_int max_two min_two max_three min_three max_four min_four   -- for this text's walks alone
set_option linter.unusedVariables false
set_option linter.unusedSimpArgs false
attribute [local go_sem high] eqA23
mutual
def shuttlelaw2_ScalarTails.j1 : Nat → ByteArray → ByteArray → ByteArray → Int → Int → Int → Int → ByteArray → Bool → ByteArray → Int → Int → Int → Option (Bool)
  | 0, _, _, _, _, _, _, _, _, _, _, _, _, _ => none
  | k + 1, x0, x1, x5, x7, x8, x9, x372000, x372001, x372002, x372003, x372004, x372005, x372006 => if x9 = (x1.size : Int) then (shuttlelaw2_ScalarTails.j2 k x0 x5 x7 x8 x9 true x372000 x372001 x372002 x372003 x372004 x372005 x372006) else (if x9 > 0 then (if 0 ≤ x9 then (if x9 < (x1.size : Int) then (shuttlelaw2_ScalarTails.j2 k x0 x5 x7 x8 x9 ((bt x1 x9) == 35) x372000 x372001 x372002 x372003 x372004 x372005 x372006) else (none)) else (none)) else (shuttlelaw2_ScalarTails.j2 k x0 x5 x7 x8 x9 false x372000 x372001 x372002 x372003 x372004 x372005 x372006))
def shuttlelaw2_ScalarTails.j2 : Nat → ByteArray → ByteArray → Int → Int → Int → Bool → Int → ByteArray → Bool → ByteArray → Int → Int → Int → Option (Bool)
  | 0, _, _, _, _, _, _, _, _, _, _, _, _, _ => none
  | k + 1, x0, x5, x7, x8, x9, x46, x372000, x372001, x372002, x372003, x372004, x372005, x372006 => if x46 = true then (if x8 = 0 then (if x372003.toList = x0.toList then ((shuttlelaw2_awake.f k).bind fun t372 => (some t372)) else (some false)) else (some false)) else (if x8 = 22 then (if x7 = (wrap64 ((wrap64 ((wrap64 (3 + (x5.size : Int))) + x9)) + 1)) then (if (x372000 == 0 && (x372001.toList == ([] : List UInt8) && (!x372002 && (x372003.toList == ([] : List UInt8) && (x372004 == 0 && (x372005 == 0 && (x372006 == 0))))))) = true then ((shuttlelaw2_awake.f k).bind fun t373 => (some t373)) else (some false)) else (some false)) else (some false))
def shuttlelaw2_ScalarTails.l0 : Nat → ByteArray → ByteArray → ByteArray → Int → Int → Int → Int → ByteArray → Bool → ByteArray → Int → Int → Int → Option (Bool)
  | 0, _, _, _, _, _, _, _, _, _, _, _, _, _ => none
  | k + 1, x0, x1, x5, x7, x8, x9, x372000, x372001, x372002, x372003, x372004, x372005, x372006 => if x9 < (x1.size : Int) then (if 0 ≤ x9 then (if (bt x1 x9) = 32 then (shuttlelaw2_ScalarTails.l0 k x0 x1 x5 x7 x8 (wrap64 (x9 + 1)) x372000 x372001 x372002 x372003 x372004 x372005 x372006) else (shuttlelaw2_ScalarTails.j1 k x0 x1 x5 x7 x8 x9 x372000 x372001 x372002 x372003 x372004 x372005 x372006)) else (none)) else (shuttlelaw2_ScalarTails.j1 k x0 x1 x5 x7 x8 x9 x372000 x372001 x372002 x372003 x372004 x372005 x372006)
end
def shuttlelaw2_ScalarTails.f (k : Nat) (a0 : ByteArray) (a1 : ByteArray) : Option (Bool) := (scalar_Quote.f k a0).bind fun t361 => (if 3 + t361.size ≤ 9223372036854775807 then (if ((⟨#[97, 58, 32]⟩ : ByteArray) ++ t361).size + a1.size ≤ 9223372036854775807 then ((scalar_Read.f (((⟨#[97, 58, 32]⟩ : ByteArray) ++ t361) ++ a1)).bind fun bt362 => (shuttlelaw2_ScalarTails.l0 k a0 a1 t361 bt362.2.2.2.2.2.2.2.1 bt362.2.2.2.2.2.2.2.2 0 bt362.1 bt362.2.1 bt362.2.2.1 bt362.2.2.2.1 bt362.2.2.2.2.1 bt362.2.2.2.2.2.1 bt362.2.2.2.2.2.2.1)) else (none)) else (none))
set_option maxHeartbeats 8000000 in
set_option maxRecDepth 100000 in
theorem shuttlelaw2_ScalarTails.calls (k : Nat) (a0 : ByteArray) (a1 : ByteArray) (r : Bool) (w : World) (hgm : GM w) (h : shuttlelaw2_ScalarTails.f k a0 a1 = some r) :
    Calls Tryd.prog 8 #[.string a0, .string a1] w fun e w' => e = .returned (.bool r) ∧ Below w.heap.size w w' := by
  have HGM := Aside0.mk hgm
  clear hgm
  have hu23 := Tryd.underlying23
  have HB := Aside0.mk (Below.refl w.heap.size w)
  have H : ((scalar_Quote.f k a0).bind fun t361 => (if 3 + t361.size ≤ 9223372036854775807 then (if ((⟨#[97, 58, 32]⟩ : ByteArray) ++ t361).size + a1.size ≤ 9223372036854775807 then ((scalar_Read.f (((⟨#[97, 58, 32]⟩ : ByteArray) ++ t361) ++ a1)).bind fun bt362 => (shuttlelaw2_ScalarTails.l0 k a0 a1 t361 bt362.2.2.2.2.2.2.2.1 bt362.2.2.2.2.2.2.2.2 0 bt362.1 bt362.2.1 bt362.2.2.1 bt362.2.2.2.1 bt362.2.2.2.2.1 bt362.2.2.2.2.2.1 bt362.2.2.2.2.2.2.1)) else (none)) else (none))) = some r := h
  clear h
  replace H := Option.bind_eq_some_iff.mp H
  obtain ⟨t361, A30, H⟩ := H
  replace H : (if 3 + t361.size ≤ 9223372036854775807 then (if ((⟨#[97, 58, 32]⟩ : ByteArray) ++ t361).size + a1.size ≤ 9223372036854775807 then ((scalar_Read.f (((⟨#[97, 58, 32]⟩ : ByteArray) ++ t361) ++ a1)).bind fun bt362 => (shuttlelaw2_ScalarTails.l0 k a0 a1 t361 bt362.2.2.2.2.2.2.2.1 bt362.2.2.2.2.2.2.2.2 0 bt362.1 bt362.2.1 bt362.2.2.1 bt362.2.2.2.1 bt362.2.2.2.2.1 bt362.2.2.2.2.2.1 bt362.2.2.2.2.2.2.1)) else (none)) else (none)) = some r := H
  have A3 := Aside0.mk A30
  clear A30
  by_cases c4 : 3 + t361.size ≤ 9223372036854775807
  · rw [if_pos c4] at H
    have c4b0 := eq_true c4
    have c4b1 : decide (3 + t361.size ≤ 9223372036854775807) = true := decide_eq_true c4
    try have c4b2 : (9223372036854775807 < 3 + t361.size) = False := eq_false (Nat.not_lt.2 c4)
    by_cases c5 : ((⟨#[97, 58, 32]⟩ : ByteArray) ++ t361).size + a1.size ≤ 9223372036854775807
    · rw [if_pos c5] at H
      have c5b0 := eq_true c5
      have c5b1 : decide (((⟨#[97, 58, 32]⟩ : ByteArray) ++ t361).size + a1.size ≤ 9223372036854775807) = true := decide_eq_true c5
      try have c5b2 : (9223372036854775807 < ((⟨#[97, 58, 32]⟩ : ByteArray) ++ t361).size + a1.size) = False := eq_false (Nat.not_lt.2 c5)
      try have c5b3 := c5b2
      try simp only [ByteArray.size_append] at c5b3
      try have c5b4 := c5b3
      try simp only [show (⟨#[97, 58, 32]⟩ : ByteArray).size = 3 from rfl] at c5b4
      replace H := Option.bind_eq_some_iff.mp H
      obtain ⟨⟨t362, t363, t364, t365, t366, t367, t368, t369, t370⟩, A60, H⟩ := H
      replace H : (shuttlelaw2_ScalarTails.l0 k a0 a1 t361 t369 t370 0 t362 t363 t364 t365 t366 t367 t368) = some r := H
      have A6 := Aside0.mk A60
      clear A60
      have HC7 := Aside0.mk H
      clear H
      go_enter Tryd.func8, Tryd.ntmps8
      go_upto_block 0 with (first | ((with_reducible refine gate_callee (f := 19) rfl ?_); refine goesL_ (some 11) rfl rfl Tryd.func19 (by kernel_rfl) rfl #[.string a0] rfl (by (try simp only [List.map_toArray, List.map_cons, List.map_nil]); first | done | rfl | (simp only [List.length_drop, List.length_take]; rfl)) ?_; (with_reducible refine (scalar_Quote.calls k a0 t361 _ A3.out).mono ?_); rintro e w8 ⟨rfl, hb⟩; refine ⟨_, rfl, ?_⟩; have n0_ := Aside0.mk (below_step (by repeat (first | (with_reducible first | exact HB.out | apply below_alloc | apply pw_below_drewN | apply below_drew1) | exact HB.out)) hb); clear HB; have HB := n0_; clear n0_; (try clear hb); (try clear hb2); (try clear hk); (try clear hi)) | ((with_reducible refine gate_callee (f := 11) rfl ?_); refine goesL_ (some 17) rfl rfl Tryd.func11 (by kernel_rfl) rfl #[.string (((⟨#[97, 58, 32]⟩ : ByteArray) ++ t361) ++ a1)] rfl (by (try simp only [List.map_toArray, List.map_cons, List.map_nil]); first | done | rfl | (simp only [List.length_drop, List.length_take]; rfl)) ?_; (with_reducible refine (scalar_Read.calls (((⟨#[97, 58, 32]⟩ : ByteArray) ++ t361) ++ a1) t362 t363 t364 t365 t366 t367 t368 t369 t370 _ ?gm_ A6.out).mono ?_); (case gm_ => exact GM.below HGM.out (by repeat (first | (with_reducible first | exact HB.out | apply below_alloc | apply pw_below_drewN | apply below_drew1 | refine below_set ?_ (Aside0.out (by assumption))) | exact HB.out))); rintro e w9 ⟨rfl, hb⟩; refine ⟨_, rfl, ?_⟩; have n0_ := Aside0.mk (below_step (by repeat (first | (with_reducible first | exact HB.out | apply below_alloc | apply pw_below_drewN | apply below_drew1) | exact HB.out)) hb); clear HB; have HB := n0_; clear n0_; (try clear hb); (try clear hb2); (try clear hk); (try clear hi)) | ((with_reducible refine gate_dst (N := 6) rfl ?_); (try (refine gate_guard (by rfl) ?_; dsimp only)); refine box_event ?hg (N := 6) ?hd (cs := #[.int .i64 0, .string (⟨#[]⟩ : ByteArray), .bool false, .string (⟨#[]⟩ : ByteArray), .int .i64 0, .int .i64 0, .int .i64 0]) (t := 23) ?hr ?_; (case hd => rfl); (case hg => rfl); (case hr => first | (go_simp; done) | (go_simp; rfl)); intro gb371 hg w10 hbox hb; have n0_ := Aside0.mk (below_step (by repeat (first | (with_reducible first | exact HB.out | apply below_alloc | apply pw_below_drewN | apply below_drew1) | exact HB.out)) hb); have n1_ := Aside0.mk (hbox); have n2_ := Aside0.mk ((by rw [hg]; exact (below_size (by repeat (first | (with_reducible first | exact HB.out | apply below_alloc | apply pw_below_drewN | apply below_drew1) | exact HB.out))) : w.heap.size ≤ gb371)); have n3_ := Aside0.mk ((by rw [hg]; exact (below_size (by repeat (first | (with_reducible first | exact HB.out | apply below_alloc | apply pw_below_drewN | apply below_drew1) | exact HB.out))) : w.heap.size ≤ gb371)); clear HB; have HB := n0_; have BK371 := n1_; have GW371 := n2_; have GE371 := n3_; clear n0_ n1_ n2_ n3_; clear hb hbox hg; have hcz11_0 : w10.cell? ⟨gb371, 0, none⟩ = some (.int .i64 0) := (blk_cell BK371.out 0).trans rfl; have hcz11_1 : w10.cell? ⟨gb371, 1, none⟩ = some (.string (⟨#[]⟩ : ByteArray)) := (blk_cell BK371.out 1).trans rfl; have hcz11_2 : w10.cell? ⟨gb371, 2, none⟩ = some (.bool false) := (blk_cell BK371.out 2).trans rfl; have hcz11_3 : w10.cell? ⟨gb371, 3, none⟩ = some (.string (⟨#[]⟩ : ByteArray)) := (blk_cell BK371.out 3).trans rfl; have hcz11_4 : w10.cell? ⟨gb371, 4, none⟩ = some (.int .i64 0) := (blk_cell BK371.out 4).trans rfl; have hcz11_5 : w10.cell? ⟨gb371, 5, none⟩ = some (.int .i64 0) := (blk_cell BK371.out 5).trans rfl; have hcz11_6 : w10.cell? ⟨gb371, 6, none⟩ = some (.int .i64 0) := (blk_cell BK371.out 6).trans rfl; have hfz11_0 := blk_frozen BK371.out 0; have hfz11_1 := blk_frozen BK371.out 1; have hfz11_2 := blk_frozen BK371.out 2; have hfz11_3 := blk_frozen BK371.out 3; have hfz11_4 := blk_frozen BK371.out 4; have hfz11_5 := blk_frozen BK371.out 5; have hfz11_6 := blk_frozen BK371.out 6))
      (try simp only [Act.put, List.setIfInBounds_toArray, List.set_cons_zero, List.set_cons_succ])
      go_cut [9] (fun v9 wc => ∃ (kq : Nat) (x9_6 : Int), v9 = .int .i64 x9_6 ∧ Aside0 (shuttlelaw2_ScalarTails.j1 kq a0 a1 t361 t369 t370 x9_6 t362 t363 t364 t365 t366 t367 t368 = some r) ∧ Aside0 (kq ≤ k) ∧ Aside0 (wc.heap[gb371]? = some (.cells #[.int .i64 t362, .string t363, .bool t364, .string t365, .int .i64 t366, .int .i64 t367, .int .i64 t368] 23 (0, 0))) ∧ Aside0 (Below w.heap.size w wc))
      case first =>
        have H := HC7.out
        clear HC7
        have H' := Aside0.mk H
        clear H
        go_wp2
        go_loopg [9] k (fun kq v9 w' => ∃ (x9_1 : Int), v9 = .int .i64 x9_1 ∧ Aside0 (shuttlelaw2_ScalarTails.l0 kq a0 a1 t361 t369 t370 x9_1 t362 t363 t364 t365 t366 t367 t368 = some r) ∧ Aside0 (kq ≤ k) ∧ Aside0 (w'.heap[gb371]? = some (.cells #[.int .i64 t362, .string t363, .bool t364, .string t365, .int .i64 t366, .int .i64 t367, .int .i64 t368] 23 (0, 0))) ∧ Aside0 (Below w.heap.size w w'))
        case atStart => exact ⟨(0), (by first | rfl | (simp; done) | (simp only [i64_w, show ∀ n : Int, IntKind.u8.wrap n = n % 256 from fun n => rfl, and_self]; done) | (simp [i64_w, show ∀ n : Int, IntKind.u8.wrap n = n % 256 from fun n => rfl]; done) | (simp [*]; done)), H', ⟨Nat.le_refl _⟩, ⟨by (with_reducible repeat (first | refine blk_drewN ?_ _ | refine blk_drew ?_ | refine blk_alloc ?_ _)); refine blk_put (cs := #[.int .i64 t362, .string t363, .bool t364, .string t365, .int .i64 t366, .int .i64 t367, .int .i64 0]) ?_ 6 _ rfl; (with_reducible repeat (first | refine blk_drewN ?_ _ | refine blk_drew ?_ | refine blk_alloc ?_ _)); refine blk_put (cs := #[.int .i64 t362, .string t363, .bool t364, .string t365, .int .i64 t366, .int .i64 0, .int .i64 0]) ?_ 5 _ rfl; (with_reducible repeat (first | refine blk_drewN ?_ _ | refine blk_drew ?_ | refine blk_alloc ?_ _)); refine blk_put (cs := #[.int .i64 t362, .string t363, .bool t364, .string t365, .int .i64 0, .int .i64 0, .int .i64 0]) ?_ 4 _ rfl; (with_reducible repeat (first | refine blk_drewN ?_ _ | refine blk_drew ?_ | refine blk_alloc ?_ _)); refine blk_put (cs := #[.int .i64 t362, .string t363, .bool t364, .string (⟨#[]⟩ : ByteArray), .int .i64 0, .int .i64 0, .int .i64 0]) ?_ 3 _ rfl; (with_reducible repeat (first | refine blk_drewN ?_ _ | refine blk_drew ?_ | refine blk_alloc ?_ _)); refine blk_put (cs := #[.int .i64 t362, .string t363, .bool false, .string (⟨#[]⟩ : ByteArray), .int .i64 0, .int .i64 0, .int .i64 0]) ?_ 2 _ rfl; (with_reducible repeat (first | refine blk_drewN ?_ _ | refine blk_drew ?_ | refine blk_alloc ?_ _)); refine blk_put (cs := #[.int .i64 t362, .string (⟨#[]⟩ : ByteArray), .bool false, .string (⟨#[]⟩ : ByteArray), .int .i64 0, .int .i64 0, .int .i64 0]) ?_ 1 _ rfl; (with_reducible repeat (first | refine blk_drewN ?_ _ | refine blk_drew ?_ | refine blk_alloc ?_ _)); refine blk_put (cs := #[.int .i64 0, .string (⟨#[]⟩ : ByteArray), .bool false, .string (⟨#[]⟩ : ByteArray), .int .i64 0, .int .i64 0, .int .i64 0]) ?_ 0 _ rfl; (with_reducible repeat (first | refine blk_drewN ?_ _ | refine blk_drew ?_ | refine blk_alloc ?_ _)); exact BK371.out⟩, ⟨by repeat (first | (with_reducible first | exact HB.out | apply below_alloc | apply pw_below_drewN | apply below_drew1 | refine below_set ?_ GE371.out) | exact HB.out)⟩⟩
        case round =>
          clear H'
          try clear c1
          try clear p2
          try clear c4
          try clear c4b0
          try clear c4b1
          try clear c4b2
          try clear c5
          try clear c5b0
          try clear c5b1
          try clear c5b2
          try clear c8
          try clear c11
          try clear hcz11_0
          try clear hcz11_1
          try clear hcz11_2
          try clear hcz11_3
          try clear hcz11_4
          try clear hcz11_5
          try clear hcz11_6
          try clear hfz11_0
          try clear hfz11_1
          try clear hfz11_2
          try clear hfz11_3
          try clear hfz11_4
          try clear hfz11_5
          try clear hfz11_6
          obtain ⟨x9_1, rfl, HA, HK1, BK371, HB⟩ := hrel
          cases gk with
          | zero => exact absurd HA.out (by simp [shuttlelaw2_ScalarTails.l0])
          | succ k1 =>
            have H := HA.out
            clear HA
            simp only [shuttlelaw2_ScalarTails.l0] at H
            by_cases c12 : x9_1 < (a1.size : Int)
            · rw [if_pos c12] at H
              have c12b0 : decide (x9_1 < (a1.size : Int)) = true := decide_eq_true c12
              clear c12
              (first | rw [c12b0] | rw [c12b1] | (simp only [i64_w, i32_w]; rw [c12b0]) | skip)
              by_cases c13 : 0 ≤ x9_1
              · rw [if_pos c13] at H
                have c13b0 : decide (0 ≤ x9_1) = true := decide_eq_true c13
                clear c13
                by_cases c15 : (bt a1 x9_1) = 32
                · rw [if_pos c15] at H
                  have c15b0 : ((bt a1 x9_1) == 32) = true := beq_iff_eq.mpr c15
                  have c15b1 : ((bt a1 x9_1) != 32) = false := bne_eq_false_iff_eq.mpr c15
                  clear c15
                  have H' := Aside0.mk H
                  clear H
                  have p14 : 0 ≤ (x9_1 : Int) := of_decide_eq_true (by first | (with_reducible assumption) | assumption)
                  have q14 : x9_1 < (a1.size : Int) := of_decide_eq_true (by first | (with_reducible assumption) | assumption)
                  have hx14 := bt_at a1 x9_1
                  replace p14 := eq_true p14
                  replace q14 := eq_true q14
                  go_wp2
                  go_roundg k1
                  case measure => have := HK1.out; omega
                  case rel => exact ⟨(wrap64 (x9_1 + 1)), (by first | rfl | (simp; done) | (simp only [i64_w, show ∀ n : Int, IntKind.u8.wrap n = n % 256 from fun n => rfl, and_self]; done) | (simp [i64_w, show ∀ n : Int, IntKind.u8.wrap n = n % 256 from fun n => rfl]; done) | (simp [*]; done)), H', ⟨by have := HK1.out; omega⟩, ⟨by (with_reducible repeat (first | refine blk_drewN ?_ _ | refine blk_drew ?_ | refine blk_alloc ?_ _)); exact BK371.out⟩, ⟨by repeat (first | (with_reducible first | exact HB.out | apply below_alloc | apply pw_below_drewN | apply below_drew1 | refine below_set ?_ GE371.out) | exact HB.out)⟩⟩
                · rw [if_neg c15] at H
                  have c15b0 : ((bt a1 x9_1) == 32) = false := beq_eq_false_iff_ne.mpr c15
                  have c15b1 : ((bt a1 x9_1) != 32) = true := bne_iff_ne.mpr c15
                  have H' := Aside0.mk H
                  clear H
                  have p14 : 0 ≤ (x9_1 : Int) := of_decide_eq_true (by first | (with_reducible assumption) | assumption)
                  have q14 : x9_1 < (a1.size : Int) := of_decide_eq_true (by first | (with_reducible assumption) | assumption)
                  have hx14 := bt_at a1 x9_1
                  replace p14 := eq_true p14
                  replace q14 := eq_true q14
                  go_wp2
                  go_meet
                  case rel => exact ⟨_, (x9_1), (by first | rfl | (simp; done) | (simp only [i64_w, show ∀ n : Int, IntKind.u8.wrap n = n % 256 from fun n => rfl, and_self]; done) | (simp [i64_w, show ∀ n : Int, IntKind.u8.wrap n = n % 256 from fun n => rfl]; done) | (simp [*]; done)), H', ⟨by have := HK1.out; first | omega | exact Nat.le_refl _⟩, ⟨by (with_reducible repeat (first | refine blk_drewN ?_ _ | refine blk_drew ?_ | refine blk_alloc ?_ _)); exact BK371.out⟩, ⟨by repeat (first | (with_reducible first | exact HB.out | apply below_alloc | apply pw_below_drewN | apply below_drew1 | refine below_set ?_ GE371.out) | exact HB.out)⟩⟩
              · rw [if_neg c13] at H
                exact absurd H (by simp)
            · rw [if_neg c12] at H
              have c12b0 : decide (x9_1 < (a1.size : Int)) = false := decide_eq_false c12
              clear c12
              (first | rw [c12b0] | rw [c12b1] | (simp only [i64_w, i32_w]; rw [c12b0]) | skip)
              have H' := Aside0.mk H
              clear H
              go_wp2
              go_meet
              case rel => exact ⟨_, (x9_1), (by first | rfl | (simp; done) | (simp only [i64_w, show ∀ n : Int, IntKind.u8.wrap n = n % 256 from fun n => rfl, and_self]; done) | (simp [i64_w, show ∀ n : Int, IntKind.u8.wrap n = n % 256 from fun n => rfl]; done) | (simp [*]; done)), H', ⟨by have := HK1.out; first | omega | exact Nat.le_refl _⟩, ⟨by (with_reducible repeat (first | refine blk_drewN ?_ _ | refine blk_drew ?_ | refine blk_alloc ?_ _)); exact BK371.out⟩, ⟨by repeat (first | (with_reducible first | exact HB.out | apply below_alloc | apply pw_below_drewN | apply below_drew1 | refine below_set ?_ GE371.out) | exact HB.out)⟩⟩
      case rest =>
        clear HC7
        try clear c1
        try clear p1
        try clear q1
        try clear hx1
        try clear p2
        try clear c4
        try clear c4b0
        try clear c4b1
        try clear c4b2
        try clear c5
        try clear c5b0
        try clear c5b1
        try clear c5b2
        try clear p6
        try clear c8
        try clear c11
        try clear c12
        try clear c12b0
        try clear c13
        try clear c13b0
        try clear p14
        try clear q14
        try clear hx14
        try clear c15
        try clear c15b0
        try clear c15b1
        try clear hcz11_0
        try clear hcz11_1
        try clear hcz11_2
        try clear hcz11_3
        try clear hcz11_4
        try clear hcz11_5
        try clear hcz11_6
        try clear hfz11_0
        try clear hfz11_1
        try clear hfz11_2
        try clear hfz11_3
        try clear hfz11_4
        try clear hfz11_5
        try clear hfz11_6
        try clear p14
        try clear p2
        try clear q14
        obtain ⟨kq, x9_6, rfl, HA, HJ6, BK371, HB⟩ := hcut
        cases kq with
        | zero => exact absurd HA.out (by simp [shuttlelaw2_ScalarTails.j1])
        | succ kj6 =>
          have H := HA.out
          clear HA
          simp only [shuttlelaw2_ScalarTails.j1] at H
          have HC16 := Aside0.mk H
          clear H
          go_upto_region 6 with (fail)
          go_cut [46] (fun v46 wc => ∃ (kq : Nat) (x46_15 : Bool), v46 = .bool x46_15 ∧ Aside0 (shuttlelaw2_ScalarTails.j2 kq a0 t361 t369 t370 x9_6 x46_15 t362 t363 t364 t365 t366 t367 t368 = some r) ∧ Aside0 (kq ≤ kj6) ∧ Aside0 (wc.heap[gb371]? = some (.cells #[.int .i64 t362, .string t363, .bool t364, .string t365, .int .i64 t366, .int .i64 t367, .int .i64 t368] 23 (0, 0))) ∧ Aside0 (Below w.heap.size w wc))
          case first =>
            have H := HC16.out
            clear HC16
            by_cases c17 : x9_6 = (a1.size : Int)
            · rw [if_pos c17] at H
              have c17b0 : (x9_6 == (a1.size : Int)) = true := beq_iff_eq.mpr c17
              have c17b1 : (x9_6 != (a1.size : Int)) = false := bne_eq_false_iff_eq.mpr c17
              clear c17
              (first | rw [c17b0] | rw [c17b1] | (simp only [i64_w, i32_w]; rw [c17b0]) | skip)
              have H' := Aside0.mk H
              clear H
              go_wp2
              go_meet
              case rel => exact ⟨_, (true), (by first | rfl | (simp; done) | (simp only [i64_w, show ∀ n : Int, IntKind.u8.wrap n = n % 256 from fun n => rfl, and_self]; done) | (simp [i64_w, show ∀ n : Int, IntKind.u8.wrap n = n % 256 from fun n => rfl]; done) | (simp [*]; done)), H', ⟨by have := HJ6.out; first | omega | exact Nat.le_refl _⟩, ⟨by (with_reducible repeat (first | refine blk_drewN ?_ _ | refine blk_drew ?_ | refine blk_alloc ?_ _)); exact BK371.out⟩, ⟨by repeat (first | (with_reducible first | exact HB.out | apply below_alloc | apply pw_below_drewN | apply below_drew1 | refine below_set ?_ GE371.out) | exact HB.out)⟩⟩
            · rw [if_neg c17] at H
              have c17b0 : (x9_6 == (a1.size : Int)) = false := beq_eq_false_iff_ne.mpr c17
              have c17b1 : (x9_6 != (a1.size : Int)) = true := bne_iff_ne.mpr c17
              (first | rw [c17b0] | rw [c17b1] | (simp only [i64_w, i32_w]; rw [c17b0]) | skip)
              by_cases c18 : x9_6 > 0
              · rw [if_pos c18] at H
                have c18b0 : decide (0 < x9_6) = true := decide_eq_true c18
                clear c18
                by_cases c19 : 0 ≤ x9_6
                · rw [if_pos c19] at H
                  have c19b0 : decide (0 ≤ x9_6) = true := decide_eq_true c19
                  clear c19
                  by_cases c20 : x9_6 < (a1.size : Int)
                  · rw [if_pos c20] at H
                    have c20b0 : decide (x9_6 < (a1.size : Int)) = true := decide_eq_true c20
                    clear c20
                    have H' := Aside0.mk H
                    clear H
                    have p21 : 0 ≤ (x9_6 : Int) := of_decide_eq_true (by first | (with_reducible assumption) | assumption)
                    have q21 : x9_6 < (a1.size : Int) := of_decide_eq_true (by first | (with_reducible assumption) | assumption)
                    have hx21 := bt_at a1 x9_6
                    replace p21 := eq_true p21
                    replace q21 := eq_true q21
                    go_wp2
                    go_meet
                    case rel => exact ⟨_, (((bt a1 x9_6) == 35)), (by first | rfl | (simp; done) | (simp only [i64_w, show ∀ n : Int, IntKind.u8.wrap n = n % 256 from fun n => rfl, and_self]; done) | (simp [i64_w, show ∀ n : Int, IntKind.u8.wrap n = n % 256 from fun n => rfl]; done) | (simp [*]; done)), H', ⟨by have := HJ6.out; first | omega | exact Nat.le_refl _⟩, ⟨by (with_reducible repeat (first | refine blk_drewN ?_ _ | refine blk_drew ?_ | refine blk_alloc ?_ _)); exact BK371.out⟩, ⟨by repeat (first | (with_reducible first | exact HB.out | apply below_alloc | apply pw_below_drewN | apply below_drew1 | refine below_set ?_ GE371.out) | exact HB.out)⟩⟩
                  · rw [if_neg c20] at H
                    exact absurd H (by simp)
                · rw [if_neg c19] at H
                  exact absurd H (by simp)
              · rw [if_neg c18] at H
                have c18b0 : decide (0 < x9_6) = false := decide_eq_false c18
                clear c18
                have H' := Aside0.mk H
                clear H
                go_wp2
                go_meet
                case rel => exact ⟨_, (false), (by first | rfl | (simp; done) | (simp only [i64_w, show ∀ n : Int, IntKind.u8.wrap n = n % 256 from fun n => rfl, and_self]; done) | (simp [i64_w, show ∀ n : Int, IntKind.u8.wrap n = n % 256 from fun n => rfl]; done) | (simp [*]; done)), H', ⟨by have := HJ6.out; first | omega | exact Nat.le_refl _⟩, ⟨by (with_reducible repeat (first | refine blk_drewN ?_ _ | refine blk_drew ?_ | refine blk_alloc ?_ _)); exact BK371.out⟩, ⟨by repeat (first | (with_reducible first | exact HB.out | apply below_alloc | apply pw_below_drewN | apply below_drew1 | refine below_set ?_ GE371.out) | exact HB.out)⟩⟩
          case rest =>
            clear HC16
            try clear c1
            try clear p1
            try clear q1
            try clear hx1
            try clear c2
            try clear p2
            try clear q2
            try clear hx2
            try clear c4
            try clear c4b0
            try clear c4b1
            try clear c4b2
            try clear c5
            try clear c5b0
            try clear c5b1
            try clear c5b2
            try clear p6
            try clear c8
            try clear c11
            try clear c12
            try clear c12b0
            try clear c13
            try clear c13b0
            try clear p14
            try clear q14
            try clear hx14
            try clear c15
            try clear c15b0
            try clear c15b1
            try clear c17
            try clear c17b0
            try clear c17b1
            try clear c18
            try clear c18b0
            try clear c19
            try clear c19b0
            try clear c20
            try clear c20b0
            try clear p21
            try clear q21
            try clear hx21
            try clear hcz11_0
            try clear hcz11_1
            try clear hcz11_2
            try clear hcz11_3
            try clear hcz11_4
            try clear hcz11_5
            try clear hcz11_6
            try clear hfz11_0
            try clear hfz11_1
            try clear hfz11_2
            try clear hfz11_3
            try clear hfz11_4
            try clear hfz11_5
            try clear hfz11_6
            try clear p1
            try clear p14
            try clear p2
            try clear p21
            try clear p6
            try clear q1
            try clear q14
            try clear q21
            obtain ⟨kq, x46_15, rfl, HA, HJ15, BK371, HB⟩ := hcut
            cases kq with
            | zero => exact absurd HA.out (by simp [shuttlelaw2_ScalarTails.j2])
            | succ kj15 =>
              have H := HA.out
              clear HA
              simp only [shuttlelaw2_ScalarTails.j2] at H
              by_cases c22 : x46_15 = true
              · subst c22
                have H1 : (if t370 = 0 then (if t365.toList = a0.toList then ((shuttlelaw2_awake.f kj15).bind fun t372 => (some t372)) else (some false)) else (some false)) = some r := by rw [if_pos rfl] at H; exact H
                clear H
                have H := H1
                clear H1
                by_cases c23 : t370 = 0
                · rw [if_pos c23] at H
                  have c23b0 : (t370 == 0) = true := beq_iff_eq.mpr c23
                  have c23b1 : (t370 != 0) = false := bne_eq_false_iff_eq.mpr c23
                  clear c23
                  by_cases c24 : t365.toList = a0.toList
                  · rw [if_pos c24] at H
                    have c24b0 : (t365.toList == a0.toList) = true := beq_iff_eq.mpr c24
                    have c24b1 : (t365.toList != a0.toList) = false := bne_eq_false_iff_eq.mpr c24
                    clear c24
                    replace H := Option.bind_eq_some_iff.mp H
                    obtain ⟨t372, A250, H⟩ := H
                    replace H : (some t372) = some r := H
                    have A25 := Aside0.mk A250
                    clear A250
                    obtain rfl := Option.some.inj H
                    have hcz26_0 : wc.cell? ⟨gb371, 0, none⟩ = some (.int .i64 t362) := (blk_cell BK371.out 0).trans rfl
                    have hcz26_1 : wc.cell? ⟨gb371, 1, none⟩ = some (.string t363) := (blk_cell BK371.out 1).trans rfl
                    have hcz26_2 : wc.cell? ⟨gb371, 2, none⟩ = some (.bool t364) := (blk_cell BK371.out 2).trans rfl
                    have hcz26_3 : wc.cell? ⟨gb371, 3, none⟩ = some (.string t365) := (blk_cell BK371.out 3).trans rfl
                    have hcz26_4 : wc.cell? ⟨gb371, 4, none⟩ = some (.int .i64 t366) := (blk_cell BK371.out 4).trans rfl
                    have hcz26_5 : wc.cell? ⟨gb371, 5, none⟩ = some (.int .i64 t367) := (blk_cell BK371.out 5).trans rfl
                    have hcz26_6 : wc.cell? ⟨gb371, 6, none⟩ = some (.int .i64 t368) := (blk_cell BK371.out 6).trans rfl
                    have hfz26_0 := blk_frozen BK371.out 0
                    have hfz26_1 := blk_frozen BK371.out 1
                    have hfz26_2 := blk_frozen BK371.out 2
                    have hfz26_3 := blk_frozen BK371.out 3
                    have hfz26_4 := blk_frozen BK371.out 4
                    have hfz26_5 := blk_frozen BK371.out 5
                    have hfz26_6 := blk_frozen BK371.out 6
                    go_wp2_with (first | (go_at_call 12; (with_reducible refine (shuttlelaw2_awake.calls kj15  t372 _ ?gm_ A25.out).mono ?_); (case gm_ => exact GM.below HGM.out (by repeat (first | (with_reducible first | exact HB.out | apply below_alloc | apply pw_below_drewN | apply below_drew1 | refine below_set ?_ (Aside0.out (by assumption))) | exact HB.out))); rintro e w27 ⟨rfl, hb⟩; have n0_ := Aside0.mk (blk_below (g := gb371) (o := .cells #[.int .i64 t362, .string t363, .bool t364, .string t365, .int .i64 t366, .int .i64 t367, .int .i64 t368] 23 (0, 0)) (by (with_reducible repeat (first | refine blk_drewN ?_ _ | refine blk_drew ?_ | refine blk_alloc ?_ _)); exact BK371.out) hb); have n1_ := Aside0.mk (below_step (by repeat (first | (with_reducible first | exact HB.out | apply below_alloc | apply pw_below_drewN | apply below_drew1 | refine below_set ?_ GE371.out) | exact HB.out)) hb); clear BK371; clear HB; have BK371 := n0_; have HB := n1_; clear n0_ n1_; (try clear hb); (try clear hb2); (try clear hk); (try clear hi)))
                    go_ret
                    exact ⟨by first | rfl | (simp [errW_none, errW_some] <;> rfl) | (simp [*, errW_none, errW_some] <;> rfl), by repeat (first | (with_reducible first | exact HB.out | apply below_alloc | apply pw_below_drewN | apply below_drew1 | refine below_set ?_ GE371.out) | exact HB.out)⟩
                  · rw [if_neg c24] at H
                    have c24b0 : (t365.toList == a0.toList) = false := beq_eq_false_iff_ne.mpr c24
                    have c24b1 : (t365.toList != a0.toList) = true := bne_iff_ne.mpr c24
                    obtain rfl := Option.some.inj H
                    have hcz28_0 : wc.cell? ⟨gb371, 0, none⟩ = some (.int .i64 t362) := (blk_cell BK371.out 0).trans rfl
                    have hcz28_1 : wc.cell? ⟨gb371, 1, none⟩ = some (.string t363) := (blk_cell BK371.out 1).trans rfl
                    have hcz28_2 : wc.cell? ⟨gb371, 2, none⟩ = some (.bool t364) := (blk_cell BK371.out 2).trans rfl
                    have hcz28_3 : wc.cell? ⟨gb371, 3, none⟩ = some (.string t365) := (blk_cell BK371.out 3).trans rfl
                    have hcz28_4 : wc.cell? ⟨gb371, 4, none⟩ = some (.int .i64 t366) := (blk_cell BK371.out 4).trans rfl
                    have hcz28_5 : wc.cell? ⟨gb371, 5, none⟩ = some (.int .i64 t367) := (blk_cell BK371.out 5).trans rfl
                    have hcz28_6 : wc.cell? ⟨gb371, 6, none⟩ = some (.int .i64 t368) := (blk_cell BK371.out 6).trans rfl
                    have hfz28_0 := blk_frozen BK371.out 0
                    have hfz28_1 := blk_frozen BK371.out 1
                    have hfz28_2 := blk_frozen BK371.out 2
                    have hfz28_3 := blk_frozen BK371.out 3
                    have hfz28_4 := blk_frozen BK371.out 4
                    have hfz28_5 := blk_frozen BK371.out 5
                    have hfz28_6 := blk_frozen BK371.out 6
                    go_wp2
                    go_ret
                    exact ⟨by first | rfl | (simp [errW_none, errW_some] <;> rfl) | (simp [*, errW_none, errW_some] <;> rfl), by repeat (first | (with_reducible first | exact HB.out | apply below_alloc | apply pw_below_drewN | apply below_drew1 | refine below_set ?_ GE371.out) | exact HB.out)⟩
                · rw [if_neg c23] at H
                  have c23b0 : (t370 == 0) = false := beq_eq_false_iff_ne.mpr c23
                  have c23b1 : (t370 != 0) = true := bne_iff_ne.mpr c23
                  obtain rfl := Option.some.inj H
                  go_wp2
                  go_ret
                  exact ⟨by first | rfl | (simp [errW_none, errW_some] <;> rfl) | (simp [*, errW_none, errW_some] <;> rfl), by repeat (first | (with_reducible first | exact HB.out | apply below_alloc | apply pw_below_drewN | apply below_drew1 | refine below_set ?_ GE371.out) | exact HB.out)⟩
              · replace c22 := Bool.eq_false_iff.mpr c22
                subst c22
                have H1 : (if t370 = 22 then (if t369 = (wrap64 ((wrap64 ((wrap64 (3 + (t361.size : Int))) + x9_6)) + 1)) then (if (t362 == 0 && (t363.toList == ([] : List UInt8) && (!t364 && (t365.toList == ([] : List UInt8) && (t366 == 0 && (t367 == 0 && (t368 == 0))))))) = true then ((shuttlelaw2_awake.f kj15).bind fun t373 => (some t373)) else (some false)) else (some false)) else (some false)) = some r := by rw [if_neg (show ¬ (false = true) by decide)] at H; exact H
                clear H
                have H := H1
                clear H1
                by_cases c29 : t370 = 22
                · rw [if_pos c29] at H
                  have c29b0 : (t370 == 22) = true := beq_iff_eq.mpr c29
                  have c29b1 : (t370 != 22) = false := bne_eq_false_iff_eq.mpr c29
                  clear c29
                  by_cases c30 : t369 = (wrap64 ((wrap64 ((wrap64 (3 + (t361.size : Int))) + x9_6)) + 1))
                  · rw [if_pos c30] at H
                    have c30b0 : (t369 == (wrap64 ((wrap64 ((wrap64 (3 + (t361.size : Int))) + x9_6)) + 1))) = true := beq_iff_eq.mpr c30
                    have c30b1 : (t369 != (wrap64 ((wrap64 ((wrap64 (3 + (t361.size : Int))) + x9_6)) + 1))) = false := bne_eq_false_iff_eq.mpr c30
                    clear c30
                    by_cases c31 : (t362 == 0 && (t363.toList == ([] : List UInt8) && (!t364 && (t365.toList == ([] : List UInt8) && (t366 == 0 && (t367 == 0 && (t368 == 0))))))) = true
                    · rw [if_pos c31] at H
                      have c31b0 : (t362 == 0 && (t363.toList == ([] : List UInt8) && (!t364 && (t365.toList == ([] : List UInt8) && (t366 == 0 && (t367 == 0 && (t368 == 0))))))) = true := c31
                      (try (have c31bz1 : (t362 = 0 ∧ t363.toList = ([] : List UInt8) ∧ t364 = false ∧ t365.toList = ([] : List UInt8) ∧ t366 = 0 ∧ t367 = 0 ∧ t368 = 0) := by simpa using c31))
                      (try (have c31bz2 : ((t362 == 0) = true ∧ t363.toList.isEmpty = true ∧ (!t364) = true ∧ t365.toList.isEmpty = true ∧ (t366 == 0) = true ∧ (t367 == 0) = true ∧ (t368 == 0) = true) := by simpa using c31))
                      (try (have c31b1 : decide (t362 = 0 && (t363.toList == ([] : List UInt8) && (!t364 && (t365.toList == ([] : List UInt8) && (t366 == 0 && (t367 == 0 && (t368 == 0))))))) = true := by simpa using c31))
                      (try (have c31b2 : (t362 == 0 && (t363.toList == ([] : List UInt8) && (!t364 && (t365.toList == ([] : List UInt8) && (t366 == 0 && (t367 == 0 && (t368 == 0))))))) = true := by simpa using c31))
                      clear c31
                      replace H := Option.bind_eq_some_iff.mp H
                      obtain ⟨t373, A320, H⟩ := H
                      replace H : (some t373) = some r := H
                      have A32 := Aside0.mk A320
                      clear A320
                      obtain rfl := Option.some.inj H
                      have hcz33_0 : wc.cell? ⟨gb371, 0, none⟩ = some (.int .i64 t362) := (blk_cell BK371.out 0).trans rfl
                      have hcz33_1 : wc.cell? ⟨gb371, 1, none⟩ = some (.string t363) := (blk_cell BK371.out 1).trans rfl
                      have hcz33_2 : wc.cell? ⟨gb371, 2, none⟩ = some (.bool t364) := (blk_cell BK371.out 2).trans rfl
                      have hcz33_3 : wc.cell? ⟨gb371, 3, none⟩ = some (.string t365) := (blk_cell BK371.out 3).trans rfl
                      have hcz33_4 : wc.cell? ⟨gb371, 4, none⟩ = some (.int .i64 t366) := (blk_cell BK371.out 4).trans rfl
                      have hcz33_5 : wc.cell? ⟨gb371, 5, none⟩ = some (.int .i64 t367) := (blk_cell BK371.out 5).trans rfl
                      have hcz33_6 : wc.cell? ⟨gb371, 6, none⟩ = some (.int .i64 t368) := (blk_cell BK371.out 6).trans rfl
                      have hfz33_0 := blk_frozen BK371.out 0
                      have hfz33_1 := blk_frozen BK371.out 1
                      have hfz33_2 := blk_frozen BK371.out 2
                      have hfz33_3 := blk_frozen BK371.out 3
                      have hfz33_4 := blk_frozen BK371.out 4
                      have hfz33_5 := blk_frozen BK371.out 5
                      have hfz33_6 := blk_frozen BK371.out 6
                      go_wp2_with (first | (go_at_call 12; (with_reducible refine (shuttlelaw2_awake.calls kj15  t373 _ ?gm_ A32.out).mono ?_); (case gm_ => exact GM.below HGM.out (by repeat (first | (with_reducible first | exact HB.out | apply below_alloc | apply pw_below_drewN | apply below_drew1 | refine below_set ?_ (Aside0.out (by assumption))) | exact HB.out))); rintro e w34 ⟨rfl, hb⟩; have n0_ := Aside0.mk (blk_below (g := gb371) (o := .cells #[.int .i64 t362, .string t363, .bool t364, .string t365, .int .i64 t366, .int .i64 t367, .int .i64 t368] 23 (0, 0)) (by (with_reducible repeat (first | refine blk_drewN ?_ _ | refine blk_drew ?_ | refine blk_alloc ?_ _)); exact BK371.out) hb); have n1_ := Aside0.mk (below_step (by repeat (first | (with_reducible first | exact HB.out | apply below_alloc | apply pw_below_drewN | apply below_drew1 | refine below_set ?_ GE371.out) | exact HB.out)) hb); clear BK371; clear HB; have BK371 := n0_; have HB := n1_; clear n0_ n1_; (try clear hb); (try clear hb2); (try clear hk); (try clear hi)))
                      go_ret
                      exact ⟨by first | rfl | (simp [errW_none, errW_some] <;> rfl) | (simp [*, errW_none, errW_some] <;> rfl), by repeat (first | (with_reducible first | exact HB.out | apply below_alloc | apply pw_below_drewN | apply below_drew1 | refine below_set ?_ GE371.out) | exact HB.out)⟩
                    · rw [if_neg c31] at H
                      have c31b0 : (t362 == 0 && (t363.toList == ([] : List UInt8) && (!t364 && (t365.toList == ([] : List UInt8) && (t366 == 0 && (t367 == 0 && (t368 == 0))))))) = false := by simpa using c31
                      (try (have c31bz1 : ¬ (t362 = 0 ∧ t363.toList = ([] : List UInt8) ∧ t364 = false ∧ t365.toList = ([] : List UInt8) ∧ t366 = 0 ∧ t367 = 0 ∧ t368 = 0) := by simpa using c31))
                      (try (have c31bz2 : ¬ ((t362 == 0) = true ∧ t363.toList.isEmpty = true ∧ (!t364) = true ∧ t365.toList.isEmpty = true ∧ (t366 == 0) = true ∧ (t367 == 0) = true ∧ (t368 == 0) = true) := by simpa using c31))
                      (try (have c31b1 : decide (t362 = 0 && (t363.toList == ([] : List UInt8) && (!t364 && (t365.toList == ([] : List UInt8) && (t366 == 0 && (t367 == 0 && (t368 == 0))))))) = false := by simpa using c31))
                      (try (have c31b2 : (t362 == 0 && (t363.toList == ([] : List UInt8) && (!t364 && (t365.toList == ([] : List UInt8) && (t366 == 0 && (t367 == 0 && (t368 == 0))))))) = false := by simpa using c31))
                      (try (have c31b3 : ¬ (t362 = 0 && (t363.toList == ([] : List UInt8) && (!t364 && (t365.toList == ([] : List UInt8) && (t366 == 0 && (t367 == 0 && (t368 == 0))))))) := by simpa using c31))
                      clear c31
                      obtain rfl := Option.some.inj H
                      have hcz35_0 : wc.cell? ⟨gb371, 0, none⟩ = some (.int .i64 t362) := (blk_cell BK371.out 0).trans rfl
                      have hcz35_1 : wc.cell? ⟨gb371, 1, none⟩ = some (.string t363) := (blk_cell BK371.out 1).trans rfl
                      have hcz35_2 : wc.cell? ⟨gb371, 2, none⟩ = some (.bool t364) := (blk_cell BK371.out 2).trans rfl
                      have hcz35_3 : wc.cell? ⟨gb371, 3, none⟩ = some (.string t365) := (blk_cell BK371.out 3).trans rfl
                      have hcz35_4 : wc.cell? ⟨gb371, 4, none⟩ = some (.int .i64 t366) := (blk_cell BK371.out 4).trans rfl
                      have hcz35_5 : wc.cell? ⟨gb371, 5, none⟩ = some (.int .i64 t367) := (blk_cell BK371.out 5).trans rfl
                      have hcz35_6 : wc.cell? ⟨gb371, 6, none⟩ = some (.int .i64 t368) := (blk_cell BK371.out 6).trans rfl
                      have hfz35_0 := blk_frozen BK371.out 0
                      have hfz35_1 := blk_frozen BK371.out 1
                      have hfz35_2 := blk_frozen BK371.out 2
                      have hfz35_3 := blk_frozen BK371.out 3
                      have hfz35_4 := blk_frozen BK371.out 4
                      have hfz35_5 := blk_frozen BK371.out 5
                      have hfz35_6 := blk_frozen BK371.out 6
                      go_wp2
                      go_ret
                      exact ⟨by first | rfl | (simp [errW_none, errW_some] <;> rfl) | (simp [*, errW_none, errW_some] <;> rfl), by repeat (first | (with_reducible first | exact HB.out | apply below_alloc | apply pw_below_drewN | apply below_drew1 | refine below_set ?_ GE371.out) | exact HB.out)⟩
                  · rw [if_neg c30] at H
                    have c30b0 : (t369 == (wrap64 ((wrap64 ((wrap64 (3 + (t361.size : Int))) + x9_6)) + 1))) = false := beq_eq_false_iff_ne.mpr c30
                    have c30b1 : (t369 != (wrap64 ((wrap64 ((wrap64 (3 + (t361.size : Int))) + x9_6)) + 1))) = true := bne_iff_ne.mpr c30
                    obtain rfl := Option.some.inj H
                    go_wp2
                    go_ret
                    exact ⟨by first | rfl | (simp [errW_none, errW_some] <;> rfl) | (simp [*, errW_none, errW_some] <;> rfl), by repeat (first | (with_reducible first | exact HB.out | apply below_alloc | apply pw_below_drewN | apply below_drew1 | refine below_set ?_ GE371.out) | exact HB.out)⟩
                · rw [if_neg c29] at H
                  have c29b0 : (t370 == 22) = false := beq_eq_false_iff_ne.mpr c29
                  have c29b1 : (t370 != 22) = true := bne_iff_ne.mpr c29
                  obtain rfl := Option.some.inj H
                  go_wp2
                  go_ret
                  exact ⟨by first | rfl | (simp [errW_none, errW_some] <;> rfl) | (simp [*, errW_none, errW_some] <;> rfl), by repeat (first | (with_reducible first | exact HB.out | apply below_alloc | apply pw_below_drewN | apply below_drew1 | refine below_set ?_ GE371.out) | exact HB.out)⟩
    · rw [if_neg c5] at H
      exact absurd H (by simp)
  · rw [if_neg c4] at H
    exact absurd H (by simp)
/-- THE ONE PURE STATEMENT of shuttlelaw2_ScalarTails: yours. -/
def shuttlelaw2_ScalarTails.Pure : Prop := ∀ (a0 : ByteArray) (a1 : ByteArray), a0.size ≤ 140737488351232 → a1.size ≤ 140737488351232 → ∃ k, shuttlelaw2_ScalarTails.f k a0 a1 = some true
end Go.Proofs.YtmkfjjfdbaaknaaDoor.Q
