-- Printed for this seat by gprint.py (the kit's printer over contracts proved by hand).
import Derived.Test.YtmkfjjfdbaaknaaDoorEAQ0
import Derived.Test.YtmkfjjfdbaaknaaDoorEAQ1
import Derived.Test.YtmkfjjfdbaaknaaDoorEAQ8
import Derived.Test.YtmkfjjfdbaaknaaDoorEAQ9
import Derived.Test.YtmkfjjfdbaaknaaDoorEASGiv
namespace Go.Proofs.YtmkfjjfdbaaknaaDoor.Q
open Go.RowKit Go.Proofs.YtmkfjjfdbaaknaaDoorW.PrintWords Go.Proofs.YtmkfjjfdbaaknaaDoorW.PrintLast Go.Proofs.YtmkfjjfdbaaknaaDoorW.PrintMore
attribute [local go_sem] max2_int min2_int max_two min_two max_three min_three max_four min_four   -- for this text's walks alone
set_option linter.unusedVariables false
set_option linter.unusedSimpArgs false
attribute [local go_sem high] eqA23
mutual
def shuttlelaw2_ScalarBack.l0 : Nat → ByteArray → ByteArray → Int → Option (Bool)
  | 0, _, _, _ => none
  | k + 1, x0, x1, x5 => if x5 < 3 then ((scalar_Value.f k x1).bind fun t310 => (if x5 = 1 then ((scalar_Quote.f k x1).bind fun t311 => (shuttlelaw2_ScalarBack.j1 k x0 x1 x5 t311)) else (shuttlelaw2_ScalarBack.j1 k x0 x1 x5 t310))) else ((shuttlelaw2_awake.f k).bind fun t309 => (some t309))
def shuttlelaw2_ScalarBack.j1 : Nat → ByteArray → ByteArray → Int → ByteArray → Option (Bool)
  | 0, _, _, _, _ => none
  | k + 1, x0, x1, x5, x6 => if x5 = 2 then (shuttlelaw2_ScalarBack.j2 k x0 x1 x5 x6 (⟨#[32, 32, 32, 35, 32, 97, 32, 114, 101, 109, 97, 114, 107]⟩ : ByteArray)) else (shuttlelaw2_ScalarBack.j2 k x0 x1 x5 x6 (⟨#[]⟩ : ByteArray))
def shuttlelaw2_ScalarBack.j2 : Nat → ByteArray → ByteArray → Int → ByteArray → ByteArray → Option (Bool)
  | 0, _, _, _, _, _ => none
  | k + 1, x0, x1, x5, x6, x7 => (scalar_Key.f k x0).bind fun t312 => (if t312.size + 2 ≤ 9223372036854775807 then (if (t312 ++ (⟨#[58, 32]⟩ : ByteArray)).size + x6.size ≤ 9223372036854775807 then (if ((t312 ++ (⟨#[58, 32]⟩ : ByteArray)) ++ x6).size + x7.size ≤ 9223372036854775807 then ((scalar_Read.f (((t312 ++ (⟨#[58, 32]⟩ : ByteArray)) ++ x6) ++ x7)).bind fun bt313 => (if 3 + x6.size ≤ 9223372036854775807 then (if ((⟨#[45, 32, 32]⟩ : ByteArray) ++ x6).size + x7.size ≤ 9223372036854775807 then ((scalar_Read.f (((⟨#[45, 32, 32]⟩ : ByteArray) ++ x6) ++ x7)).bind fun bt323 => (if bt313.2.2.2.2.2.2.2.2 = 0 then (shuttlelaw2_ScalarBack.j3 k x0 x1 x5 bt323.2.2.2.2.2.2.2.2 (!(bt313.1 == 1) || (!(bt313.2.1.toList == x0.toList) || (!bt313.2.2.1 || (!(bt313.2.2.2.1.toList == x1.toList) || (!(bt313.2.2.2.2.1 == 0) || (!(bt313.2.2.2.2.2.1 == 1) || (!(bt313.2.2.2.2.2.2.1 == (wrap64 ((t312.size : Int) + 3)))))))))) bt323.1 bt323.2.1 bt323.2.2.1 bt323.2.2.2.1 bt323.2.2.2.2.1 bt323.2.2.2.2.2.1 bt323.2.2.2.2.2.2.1) else (shuttlelaw2_ScalarBack.j3 k x0 x1 x5 bt323.2.2.2.2.2.2.2.2 true bt323.1 bt323.2.1 bt323.2.2.1 bt323.2.2.2.1 bt323.2.2.2.2.1 bt323.2.2.2.2.2.1 bt323.2.2.2.2.2.2.1))) else (none)) else (none))) else (none)) else (none)) else (none))
def shuttlelaw2_ScalarBack.j3 : Nat → ByteArray → ByteArray → Int → Int → Bool → Int → ByteArray → Bool → ByteArray → Int → Int → Int → Option (Bool)
  | 0, _, _, _, _, _, _, _, _, _, _, _, _ => none
  | k + 1, x0, x1, x5, x14, x64, x333000, x333001, x333002, x333003, x333004, x333005, x333006 => if x64 = true then (some false) else (if x14 = 0 then (if (!(x333000 == 2) || (!(x333001.toList == ([] : List UInt8)) || (!x333002 || (!(x333003.toList == x1.toList) || (!(x333004 == 0) || (!(x333005 == 1) || (!(x333006 == 4)))))))) = true then (some false) else (shuttlelaw2_ScalarBack.l0 k x0 x1 (wrap64 (x5 + 1)))) else (some false))
end
def shuttlelaw2_ScalarBack.f (k : Nat) (a0 : ByteArray) (a1 : ByteArray) : Option (Bool) := if (a0.size : Int) > 64 then ((shuttlelaw2_awake.f k).bind fun t308 => (some t308)) else (shuttlelaw2_ScalarBack.l0 k a0 a1 0)
set_option maxHeartbeats 8000000 in
set_option maxRecDepth 100000 in
theorem shuttlelaw2_ScalarBack.calls (k : Nat) (a0 : ByteArray) (a1 : ByteArray) (r : Bool) (w : World) (hgm : GM w) (h : shuttlelaw2_ScalarBack.f k a0 a1 = some r) :
    Calls Tryd.prog 6 #[.string a0, .string a1] w fun e w' => e = .returned (.bool r) ∧ Below w.heap.size w w' := by
  have HGM := Aside0.mk hgm
  clear hgm
  have hu23 := Tryd.underlying23
  have HB := Aside0.mk (Below.refl w.heap.size w)
  have H : (if (a0.size : Int) > 64 then ((shuttlelaw2_awake.f k).bind fun t308 => (some t308)) else (shuttlelaw2_ScalarBack.l0 k a0 a1 0)) = some r := h
  clear h
  by_cases c3 : (a0.size : Int) > 64
  · rw [if_pos c3] at H
    have c3b0 : decide (64 < (a0.size : Int)) = true := decide_eq_true c3
    have c3b1 : decide (64 < a0.size) = true := decide_eq_true (by omega)
    clear c3
    replace H := Option.bind_eq_some_iff.mp H
    obtain ⟨t308, A40, H⟩ := H
    replace H : (some t308) = some r := H
    have A4 := Aside0.mk A40
    clear A40
    obtain rfl := Option.some.inj H
    go_enter Tryd.func6, Tryd.ntmps6
    go_wp2_with (first | ((with_reducible refine gate_callee (f := 12) rfl ?_); refine goesL_ (some 18) rfl rfl Tryd.func12 (by kernel_rfl) rfl #[] rfl (by (try simp only [List.map_toArray, List.map_cons, List.map_nil]); first | done | rfl | (simp only [List.length_drop, List.length_take]; rfl)) ?_; (with_reducible refine (shuttlelaw2_awake.calls k  t308 _ ?gm_ A4.out).mono ?_); (case gm_ => exact GM.below HGM.out (by repeat (first | (with_reducible first | exact HB.out | apply below_alloc | apply pw_below_drewN | apply below_drew1 | refine below_set ?_ (Aside0.out (by assumption))) | exact HB.out))); rintro e w5 ⟨rfl, hb⟩; refine ⟨_, rfl, ?_⟩; have n0_ := Aside0.mk (below_step (by repeat (first | (with_reducible first | exact HB.out | apply below_alloc | apply pw_below_drewN | apply below_drew1) | exact HB.out)) hb); clear HB; have HB := n0_; clear n0_; (try clear hb); (try clear hb2); (try clear hk); (try clear hi)))
    go_ret
    exact ⟨by first | rfl | (simp [errW_none, errW_some] <;> rfl) | (simp [*, errW_none, errW_some] <;> rfl), by repeat (first | (with_reducible first | exact HB.out | apply below_alloc | apply pw_below_drewN | apply below_drew1) | exact HB.out)⟩
  · rw [if_neg c3] at H
    have c3b0 : decide (64 < (a0.size : Int)) = false := decide_eq_false c3
    have c3b1 : decide (64 < a0.size) = false := decide_eq_false (by omega)
    clear c3
    have H' := Aside0.mk H
    clear H
    go_enter Tryd.func6, Tryd.ntmps6
    go_wp2
    go_loopg [5] k (fun kq v5 w' => ∃ (x5_1 : Int), v5 = .int .i64 x5_1 ∧ Aside0 (shuttlelaw2_ScalarBack.l0 kq a0 a1 x5_1 = some r) ∧ Aside0 (kq ≤ k) ∧ Aside0 (Below w.heap.size w w'))
    case atStart => exact ⟨(0), (by first | rfl | (simp; done) | (simp only [i64_w, show ∀ n : Int, IntKind.u8.wrap n = n % 256 from fun n => rfl, and_self]; done) | (simp [i64_w, show ∀ n : Int, IntKind.u8.wrap n = n % 256 from fun n => rfl]; done) | (simp [*]; done)), H', ⟨Nat.le_refl _⟩, ⟨by repeat (first | (with_reducible first | exact HB.out | apply below_alloc | apply pw_below_drewN | apply below_drew1) | exact HB.out)⟩⟩
    case round =>
      clear H'
      try clear c1
      try clear p2
      try clear c3
      try clear c3b0
      try clear c3b1
      obtain ⟨x5_1, rfl, HA, HK1, HB⟩ := hrel
      cases gk with
      | zero => exact absurd HA.out (by simp [shuttlelaw2_ScalarBack.l0])
      | succ k1 =>
        have H := HA.out
        clear HA
        simp only [shuttlelaw2_ScalarBack.l0] at H
        by_cases c6 : x5_1 < 3
        · rw [if_pos c6] at H
          have c6b0 : decide (x5_1 < 3) = true := decide_eq_true c6
          clear c6
          replace H := Option.bind_eq_some_iff.mp H
          obtain ⟨t310, A70, H⟩ := H
          replace H : (if x5_1 = 1 then ((scalar_Quote.f k1 a1).bind fun t311 => (shuttlelaw2_ScalarBack.j1 k1 a0 a1 x5_1 t311)) else (shuttlelaw2_ScalarBack.j1 k1 a0 a1 x5_1 t310)) = some r := H
          have A7 := Aside0.mk A70
          clear A70
          have HC8 := Aside0.mk H
          clear H
          go_upto_if 26 with (first | ((with_reducible refine gate_callee (f := 23) rfl ?_); refine goesL_ (some 24) rfl rfl Tryd.func23 (by kernel_rfl) rfl #[.string a1] rfl (by (try simp only [List.map_toArray, List.map_cons, List.map_nil]); first | done | rfl | (simp only [List.length_drop, List.length_take]; rfl)) ?_; (with_reducible refine (scalar_Value.calls k1 a1 t310 _ ?gm_ A7.out).mono ?_); (case gm_ => exact GM.below HGM.out (by repeat (first | (with_reducible first | exact HB.out | apply below_alloc | apply pw_below_drewN | apply below_drew1 | refine below_set ?_ (Aside0.out (by assumption))) | exact HB.out))); rintro e w9 ⟨rfl, hb⟩; refine ⟨_, rfl, ?_⟩; have n0_ := Aside0.mk (below_step (by repeat (first | (with_reducible first | exact HB.out | apply below_alloc | apply pw_below_drewN | apply below_drew1) | exact HB.out)) hb); clear HB; have HB := n0_; clear n0_; (try clear hb); (try clear hb2); (try clear hk); (try clear hi)))
          (try simp only [Act.put, List.setIfInBounds_toArray, List.set_cons_zero, List.set_cons_succ])
          go_cut [6] (fun v6 wc => ∃ (kq : Nat) (x6_7 : ByteArray), v6 = .string x6_7 ∧ Aside0 (shuttlelaw2_ScalarBack.j1 kq a0 a1 x5_1 x6_7 = some r) ∧ Aside0 (kq ≤ k1) ∧ Aside0 (Below w.heap.size w wc))
          case first =>
            have H := HC8.out
            clear HC8
            by_cases c10 : x5_1 = 1
            · rw [if_pos c10] at H
              have c10b0 : (x5_1 == 1) = true := beq_iff_eq.mpr c10
              have c10b1 : (x5_1 != 1) = false := bne_eq_false_iff_eq.mpr c10
              clear c10
              (first | rw [c10b0] | rw [c10b1] | (simp only [i64_w, i32_w]; rw [c10b0]) | skip)
              replace H := Option.bind_eq_some_iff.mp H
              obtain ⟨t311, A110, H⟩ := H
              replace H : (shuttlelaw2_ScalarBack.j1 k1 a0 a1 x5_1 t311) = some r := H
              have A11 := Aside0.mk A110
              clear A110
              have H' := Aside0.mk H
              clear H
              go_wp2_with (first | ((with_reducible refine gate_callee (f := 19) rfl ?_); refine goesL_ (some 28) rfl rfl Tryd.func19 (by kernel_rfl) rfl #[.string a1] rfl (by (try simp only [List.map_toArray, List.map_cons, List.map_nil]); first | done | rfl | (simp only [List.length_drop, List.length_take]; rfl)) ?_; (with_reducible refine (scalar_Quote.calls k1 a1 t311 _ A11.out).mono ?_); rintro e w12 ⟨rfl, hb⟩; refine ⟨_, rfl, ?_⟩; have n0_ := Aside0.mk (below_step (by repeat (first | (with_reducible first | exact HB.out | apply below_alloc | apply pw_below_drewN | apply below_drew1) | exact HB.out)) hb); clear HB; have HB := n0_; clear n0_; (try clear hb); (try clear hb2); (try clear hk); (try clear hi)))
              go_meet
              case rel => exact ⟨_, (t311), (by first | rfl | (simp; done) | (simp only [i64_w, show ∀ n : Int, IntKind.u8.wrap n = n % 256 from fun n => rfl, and_self]; done) | (simp [i64_w, show ∀ n : Int, IntKind.u8.wrap n = n % 256 from fun n => rfl]; done) | (simp [*]; done)), H', ⟨by have := HK1.out; first | omega | exact Nat.le_refl _⟩, ⟨by repeat (first | (with_reducible first | exact HB.out | apply below_alloc | apply pw_below_drewN | apply below_drew1) | exact HB.out)⟩⟩
            · rw [if_neg c10] at H
              have c10b0 : (x5_1 == 1) = false := beq_eq_false_iff_ne.mpr c10
              have c10b1 : (x5_1 != 1) = true := bne_iff_ne.mpr c10
              (first | rw [c10b0] | rw [c10b1] | (simp only [i64_w, i32_w]; rw [c10b0]) | skip)
              have H' := Aside0.mk H
              clear H
              go_wp2
              go_meet
              case rel => exact ⟨_, (t310), (by first | rfl | (simp; done) | (simp only [i64_w, show ∀ n : Int, IntKind.u8.wrap n = n % 256 from fun n => rfl, and_self]; done) | (simp [i64_w, show ∀ n : Int, IntKind.u8.wrap n = n % 256 from fun n => rfl]; done) | (simp [*]; done)), H', ⟨by have := HK1.out; first | omega | exact Nat.le_refl _⟩, ⟨by repeat (first | (with_reducible first | exact HB.out | apply below_alloc | apply pw_below_drewN | apply below_drew1) | exact HB.out)⟩⟩
          case rest =>
            clear HC8
            try clear c1
            try clear c2
            try clear p2
            try clear c3
            try clear c3b0
            try clear c3b1
            try clear c6
            try clear c6b0
            try clear c10
            try clear c10b0
            try clear c10b1
            try clear c12
            try clear p2
            obtain ⟨kq, x6_7, rfl, HA, HJ7, HB⟩ := hcut
            cases kq with
            | zero => exact absurd HA.out (by simp [shuttlelaw2_ScalarBack.j1])
            | succ kj7 =>
              have H := HA.out
              clear HA
              simp only [shuttlelaw2_ScalarBack.j1] at H
              have HC13 := Aside0.mk H
              clear H
              go_upto_if 30 with (fail)
              go_cut [7] (fun v7 wc => ∃ (kq : Nat) (x7_12 : ByteArray), v7 = .string x7_12 ∧ Aside0 (shuttlelaw2_ScalarBack.j2 kq a0 a1 x5_1 x6_7 x7_12 = some r) ∧ Aside0 (kq ≤ kj7) ∧ Aside0 (Below w.heap.size w wc))
              case first =>
                have H := HC13.out
                clear HC13
                by_cases c14 : x5_1 = 2
                · rw [if_pos c14] at H
                  have c14b0 : (x5_1 == 2) = true := beq_iff_eq.mpr c14
                  have c14b1 : (x5_1 != 2) = false := bne_eq_false_iff_eq.mpr c14
                  clear c14
                  (first | rw [c14b0] | rw [c14b1] | (simp only [i64_w, i32_w]; rw [c14b0]) | skip)
                  have H' := Aside0.mk H
                  clear H
                  go_wp2
                  go_meet
                  case rel => exact ⟨_, ((⟨#[32, 32, 32, 35, 32, 97, 32, 114, 101, 109, 97, 114, 107]⟩ : ByteArray)), (by first | rfl | (simp; done) | (simp only [i64_w, show ∀ n : Int, IntKind.u8.wrap n = n % 256 from fun n => rfl, and_self]; done) | (simp [i64_w, show ∀ n : Int, IntKind.u8.wrap n = n % 256 from fun n => rfl]; done) | (simp [*]; done)), H', ⟨by have := HK1.out; have := HJ7.out; first | omega | exact Nat.le_refl _⟩, ⟨by repeat (first | (with_reducible first | exact HB.out | apply below_alloc | apply pw_below_drewN | apply below_drew1) | exact HB.out)⟩⟩
                · rw [if_neg c14] at H
                  have c14b0 : (x5_1 == 2) = false := beq_eq_false_iff_ne.mpr c14
                  have c14b1 : (x5_1 != 2) = true := bne_iff_ne.mpr c14
                  (first | rw [c14b0] | rw [c14b1] | (simp only [i64_w, i32_w]; rw [c14b0]) | skip)
                  have H' := Aside0.mk H
                  clear H
                  go_wp2
                  go_meet
                  case rel => exact ⟨_, ((⟨#[]⟩ : ByteArray)), (by first | rfl | (simp; done) | (simp only [i64_w, show ∀ n : Int, IntKind.u8.wrap n = n % 256 from fun n => rfl, and_self]; done) | (simp [i64_w, show ∀ n : Int, IntKind.u8.wrap n = n % 256 from fun n => rfl]; done) | (simp [*]; done)), H', ⟨by have := HK1.out; have := HJ7.out; first | omega | exact Nat.le_refl _⟩, ⟨by repeat (first | (with_reducible first | exact HB.out | apply below_alloc | apply pw_below_drewN | apply below_drew1) | exact HB.out)⟩⟩
              case rest =>
                clear HC13
                try clear c1
                try clear c2
                try clear p2
                try clear c3
                try clear c3b0
                try clear c3b1
                try clear c6
                try clear c6b0
                try clear c10
                try clear c10b0
                try clear c10b1
                try clear c12
                try clear c14
                try clear c14b0
                try clear c14b1
                try clear p2
                obtain ⟨kq, x7_12, rfl, HA, HJ12, HB⟩ := hcut
                cases kq with
                | zero => exact absurd HA.out (by simp [shuttlelaw2_ScalarBack.j2])
                | succ kj12 =>
                  have H := HA.out
                  clear HA
                  simp only [shuttlelaw2_ScalarBack.j2] at H
                  replace H := Option.bind_eq_some_iff.mp H
                  obtain ⟨t312, A150, H⟩ := H
                  replace H : (if t312.size + 2 ≤ 9223372036854775807 then (if (t312 ++ (⟨#[58, 32]⟩ : ByteArray)).size + x6_7.size ≤ 9223372036854775807 then (if ((t312 ++ (⟨#[58, 32]⟩ : ByteArray)) ++ x6_7).size + x7_12.size ≤ 9223372036854775807 then ((scalar_Read.f (((t312 ++ (⟨#[58, 32]⟩ : ByteArray)) ++ x6_7) ++ x7_12)).bind fun bt313 => (if 3 + x6_7.size ≤ 9223372036854775807 then (if ((⟨#[45, 32, 32]⟩ : ByteArray) ++ x6_7).size + x7_12.size ≤ 9223372036854775807 then ((scalar_Read.f (((⟨#[45, 32, 32]⟩ : ByteArray) ++ x6_7) ++ x7_12)).bind fun bt323 => (if bt313.2.2.2.2.2.2.2.2 = 0 then (shuttlelaw2_ScalarBack.j3 kj12 a0 a1 x5_1 bt323.2.2.2.2.2.2.2.2 (!(bt313.1 == 1) || (!(bt313.2.1.toList == a0.toList) || (!bt313.2.2.1 || (!(bt313.2.2.2.1.toList == a1.toList) || (!(bt313.2.2.2.2.1 == 0) || (!(bt313.2.2.2.2.2.1 == 1) || (!(bt313.2.2.2.2.2.2.1 == (wrap64 ((t312.size : Int) + 3)))))))))) bt323.1 bt323.2.1 bt323.2.2.1 bt323.2.2.2.1 bt323.2.2.2.2.1 bt323.2.2.2.2.2.1 bt323.2.2.2.2.2.2.1) else (shuttlelaw2_ScalarBack.j3 kj12 a0 a1 x5_1 bt323.2.2.2.2.2.2.2.2 true bt323.1 bt323.2.1 bt323.2.2.1 bt323.2.2.2.1 bt323.2.2.2.2.1 bt323.2.2.2.2.2.1 bt323.2.2.2.2.2.2.1))) else (none)) else (none))) else (none)) else (none)) else (none)) = some r := H
                  have A15 := Aside0.mk A150
                  clear A150
                  by_cases c16 : t312.size + 2 ≤ 9223372036854775807
                  · rw [if_pos c16] at H
                    have c16b0 := eq_true c16
                    have c16b1 : decide (t312.size + 2 ≤ 9223372036854775807) = true := decide_eq_true c16
                    try have c16b2 : (9223372036854775807 < t312.size + 2) = False := eq_false (Nat.not_lt.2 c16)
                    by_cases c17 : (t312 ++ (⟨#[58, 32]⟩ : ByteArray)).size + x6_7.size ≤ 9223372036854775807
                    · rw [if_pos c17] at H
                      have c17b0 := eq_true c17
                      have c17b1 : decide ((t312 ++ (⟨#[58, 32]⟩ : ByteArray)).size + x6_7.size ≤ 9223372036854775807) = true := decide_eq_true c17
                      try have c17b2 : (9223372036854775807 < (t312 ++ (⟨#[58, 32]⟩ : ByteArray)).size + x6_7.size) = False := eq_false (Nat.not_lt.2 c17)
                      try have c17b3 := c17b2
                      try simp only [ByteArray.size_append] at c17b3
                      try have c17b4 := c17b3
                      try simp only [show (⟨#[58, 32]⟩ : ByteArray).size = 2 from rfl] at c17b4
                      by_cases c18 : ((t312 ++ (⟨#[58, 32]⟩ : ByteArray)) ++ x6_7).size + x7_12.size ≤ 9223372036854775807
                      · rw [if_pos c18] at H
                        have c18b0 := eq_true c18
                        have c18b1 : decide (((t312 ++ (⟨#[58, 32]⟩ : ByteArray)) ++ x6_7).size + x7_12.size ≤ 9223372036854775807) = true := decide_eq_true c18
                        try have c18b2 : (9223372036854775807 < ((t312 ++ (⟨#[58, 32]⟩ : ByteArray)) ++ x6_7).size + x7_12.size) = False := eq_false (Nat.not_lt.2 c18)
                        try have c18b3 := c18b2
                        try simp only [ByteArray.size_append] at c18b3
                        try have c18b4 := c18b3
                        try simp only [show (⟨#[58, 32]⟩ : ByteArray).size = 2 from rfl] at c18b4
                        replace H := Option.bind_eq_some_iff.mp H
                        obtain ⟨⟨t313, t314, t315, t316, t317, t318, t319, t320, t321⟩, A190, H⟩ := H
                        replace H : (if 3 + x6_7.size ≤ 9223372036854775807 then (if ((⟨#[45, 32, 32]⟩ : ByteArray) ++ x6_7).size + x7_12.size ≤ 9223372036854775807 then ((scalar_Read.f (((⟨#[45, 32, 32]⟩ : ByteArray) ++ x6_7) ++ x7_12)).bind fun bt323 => (if t321 = 0 then (shuttlelaw2_ScalarBack.j3 kj12 a0 a1 x5_1 bt323.2.2.2.2.2.2.2.2 (!(t313 == 1) || (!(t314.toList == a0.toList) || (!t315 || (!(t316.toList == a1.toList) || (!(t317 == 0) || (!(t318 == 1) || (!(t319 == (wrap64 ((t312.size : Int) + 3)))))))))) bt323.1 bt323.2.1 bt323.2.2.1 bt323.2.2.2.1 bt323.2.2.2.2.1 bt323.2.2.2.2.2.1 bt323.2.2.2.2.2.2.1) else (shuttlelaw2_ScalarBack.j3 kj12 a0 a1 x5_1 bt323.2.2.2.2.2.2.2.2 true bt323.1 bt323.2.1 bt323.2.2.1 bt323.2.2.2.1 bt323.2.2.2.2.1 bt323.2.2.2.2.2.1 bt323.2.2.2.2.2.2.1))) else (none)) else (none)) = some r := H
                        have A19 := Aside0.mk A190
                        clear A190
                        by_cases c20 : 3 + x6_7.size ≤ 9223372036854775807
                        · rw [if_pos c20] at H
                          have c20b0 := eq_true c20
                          have c20b1 : decide (3 + x6_7.size ≤ 9223372036854775807) = true := decide_eq_true c20
                          try have c20b2 : (9223372036854775807 < 3 + x6_7.size) = False := eq_false (Nat.not_lt.2 c20)
                          by_cases c21 : ((⟨#[45, 32, 32]⟩ : ByteArray) ++ x6_7).size + x7_12.size ≤ 9223372036854775807
                          · rw [if_pos c21] at H
                            have c21b0 := eq_true c21
                            have c21b1 : decide (((⟨#[45, 32, 32]⟩ : ByteArray) ++ x6_7).size + x7_12.size ≤ 9223372036854775807) = true := decide_eq_true c21
                            try have c21b2 : (9223372036854775807 < ((⟨#[45, 32, 32]⟩ : ByteArray) ++ x6_7).size + x7_12.size) = False := eq_false (Nat.not_lt.2 c21)
                            try have c21b3 := c21b2
                            try simp only [ByteArray.size_append] at c21b3
                            try have c21b4 := c21b3
                            try simp only [show (⟨#[45, 32, 32]⟩ : ByteArray).size = 3 from rfl] at c21b4
                            replace H := Option.bind_eq_some_iff.mp H
                            obtain ⟨⟨t323, t324, t325, t326, t327, t328, t329, t330, t331⟩, A220, H⟩ := H
                            replace H : (if t321 = 0 then (shuttlelaw2_ScalarBack.j3 kj12 a0 a1 x5_1 t331 (!(t313 == 1) || (!(t314.toList == a0.toList) || (!t315 || (!(t316.toList == a1.toList) || (!(t317 == 0) || (!(t318 == 1) || (!(t319 == (wrap64 ((t312.size : Int) + 3)))))))))) t323 t324 t325 t326 t327 t328 t329) else (shuttlelaw2_ScalarBack.j3 kj12 a0 a1 x5_1 t331 true t323 t324 t325 t326 t327 t328 t329)) = some r := H
                            have A22 := Aside0.mk A220
                            clear A220
                            have HC23 := Aside0.mk H
                            clear H
                            go_upto_region 15 with (first | ((with_reducible refine gate_callee (f := 21) rfl ?_); refine goesL_ (some 32) rfl rfl Tryd.func21 (by kernel_rfl) rfl #[.string a0] rfl (by (try simp only [List.map_toArray, List.map_cons, List.map_nil]); first | done | rfl | (simp only [List.length_drop, List.length_take]; rfl)) ?_; (with_reducible refine (scalar_Key.calls kj12 a0 t312 _ A15.out).mono ?_); rintro e w24 ⟨rfl, hb⟩; refine ⟨_, rfl, ?_⟩; have n0_ := Aside0.mk (below_step (by repeat (first | (with_reducible first | exact HB.out | apply below_alloc | apply pw_below_drewN | apply below_drew1) | exact HB.out)) hb); clear HB; have HB := n0_; clear n0_; (try clear hb); (try clear hb2); (try clear hk); (try clear hi)) | ((with_reducible refine gate_callee (f := 11) rfl ?_); refine goesL_ (some 40) rfl rfl Tryd.func11 (by kernel_rfl) rfl #[.string (((t312 ++ (⟨#[58, 32]⟩ : ByteArray)) ++ x6_7) ++ x7_12)] rfl (by (try simp only [List.map_toArray, List.map_cons, List.map_nil]); first | done | rfl | (simp only [List.length_drop, List.length_take]; rfl)) ?_; (with_reducible refine (scalar_Read.calls (((t312 ++ (⟨#[58, 32]⟩ : ByteArray)) ++ x6_7) ++ x7_12) t313 t314 t315 t316 t317 t318 t319 t320 t321 _ ?gm_ A19.out).mono ?_); (case gm_ => exact GM.below HGM.out (by repeat (first | (with_reducible first | exact HB.out | apply below_alloc | apply pw_below_drewN | apply below_drew1 | refine below_set ?_ (Aside0.out (by assumption))) | exact HB.out))); rintro e w25 ⟨rfl, hb⟩; refine ⟨_, rfl, ?_⟩; have n0_ := Aside0.mk (below_step (by repeat (first | (with_reducible first | exact HB.out | apply below_alloc | apply pw_below_drewN | apply below_drew1) | exact HB.out)) hb); clear HB; have HB := n0_; clear n0_; (try clear hb); (try clear hb2); (try clear hk); (try clear hi)) | ((with_reducible refine gate_dst (N := 9) rfl ?_); (try (refine gate_guard (by rfl) ?_; dsimp only)); refine box_event ?hg (N := 9) ?hd (cs := #[.int .i64 0, .string (⟨#[]⟩ : ByteArray), .bool false, .string (⟨#[]⟩ : ByteArray), .int .i64 0, .int .i64 0, .int .i64 0]) (t := 23) ?hr ?_; (case hd => rfl); (case hg => rfl); (case hr => first | (go_simp; done) | (go_simp; rfl)); intro gb322 hg w26 hbox hb; have n0_ := Aside0.mk (below_step (by repeat (first | (with_reducible first | exact HB.out | apply below_alloc | apply pw_below_drewN | apply below_drew1) | exact HB.out)) hb); have n1_ := Aside0.mk (hbox); have n2_ := Aside0.mk ((by rw [hg]; exact (below_size (by repeat (first | (with_reducible first | exact HB.out | apply below_alloc | apply pw_below_drewN | apply below_drew1) | exact HB.out))) : w.heap.size ≤ gb322)); have n3_ := Aside0.mk ((by rw [hg]; exact (below_size (by repeat (first | (with_reducible first | exact HB.out | apply below_alloc | apply pw_below_drewN | apply below_drew1) | exact HB.out))) : w.heap.size ≤ gb322)); clear HB; have HB := n0_; have BK322 := n1_; have GW322 := n2_; have GE322 := n3_; clear n0_ n1_ n2_ n3_; clear hb hbox hg; have hcz27_0 : w26.cell? ⟨gb322, 0, none⟩ = some (.int .i64 0) := (blk_cell BK322.out 0).trans rfl; have hcz27_1 : w26.cell? ⟨gb322, 1, none⟩ = some (.string (⟨#[]⟩ : ByteArray)) := (blk_cell BK322.out 1).trans rfl; have hcz27_2 : w26.cell? ⟨gb322, 2, none⟩ = some (.bool false) := (blk_cell BK322.out 2).trans rfl; have hcz27_3 : w26.cell? ⟨gb322, 3, none⟩ = some (.string (⟨#[]⟩ : ByteArray)) := (blk_cell BK322.out 3).trans rfl; have hcz27_4 : w26.cell? ⟨gb322, 4, none⟩ = some (.int .i64 0) := (blk_cell BK322.out 4).trans rfl; have hcz27_5 : w26.cell? ⟨gb322, 5, none⟩ = some (.int .i64 0) := (blk_cell BK322.out 5).trans rfl; have hcz27_6 : w26.cell? ⟨gb322, 6, none⟩ = some (.int .i64 0) := (blk_cell BK322.out 6).trans rfl; have hfz27_0 := blk_frozen BK322.out 0; have hfz27_1 := blk_frozen BK322.out 1; have hfz27_2 := blk_frozen BK322.out 2; have hfz27_3 := blk_frozen BK322.out 3; have hfz27_4 := blk_frozen BK322.out 4; have hfz27_5 := blk_frozen BK322.out 5; have hfz27_6 := blk_frozen BK322.out 6) | ((with_reducible refine gate_callee (f := 11) rfl ?_); refine goesL_ (some 49) rfl rfl Tryd.func11 (by kernel_rfl) rfl #[.string (((⟨#[45, 32, 32]⟩ : ByteArray) ++ x6_7) ++ x7_12)] rfl (by (try simp only [List.map_toArray, List.map_cons, List.map_nil]); first | done | rfl | (simp only [List.length_drop, List.length_take]; rfl)) ?_; (with_reducible refine (scalar_Read.calls (((⟨#[45, 32, 32]⟩ : ByteArray) ++ x6_7) ++ x7_12) t323 t324 t325 t326 t327 t328 t329 t330 t331 _ ?gm_ A22.out).mono ?_); (case gm_ => exact GM.below HGM.out (by repeat (first | (with_reducible first | exact HB.out | apply below_alloc | apply pw_below_drewN | apply below_drew1 | refine below_set ?_ (Aside0.out (by assumption))) | exact HB.out))); rintro e w28 ⟨rfl, hb⟩; refine ⟨_, rfl, ?_⟩; have n0_ := Aside0.mk (blk_below (g := gb322) (o := .cells #[.int .i64 t313, .string t314, .bool t315, .string t316, .int .i64 t317, .int .i64 t318, .int .i64 t319] 23 (0, 0)) (by (with_reducible repeat (first | refine blk_drewN ?_ _ | refine blk_drew ?_ | refine blk_alloc ?_ _)); refine blk_put (cs := #[.int .i64 t313, .string t314, .bool t315, .string t316, .int .i64 t317, .int .i64 t318, .int .i64 0]) ?_ 6 _ rfl; (with_reducible repeat (first | refine blk_drewN ?_ _ | refine blk_drew ?_ | refine blk_alloc ?_ _)); refine blk_put (cs := #[.int .i64 t313, .string t314, .bool t315, .string t316, .int .i64 t317, .int .i64 0, .int .i64 0]) ?_ 5 _ rfl; (with_reducible repeat (first | refine blk_drewN ?_ _ | refine blk_drew ?_ | refine blk_alloc ?_ _)); refine blk_put (cs := #[.int .i64 t313, .string t314, .bool t315, .string t316, .int .i64 0, .int .i64 0, .int .i64 0]) ?_ 4 _ rfl; (with_reducible repeat (first | refine blk_drewN ?_ _ | refine blk_drew ?_ | refine blk_alloc ?_ _)); refine blk_put (cs := #[.int .i64 t313, .string t314, .bool t315, .string (⟨#[]⟩ : ByteArray), .int .i64 0, .int .i64 0, .int .i64 0]) ?_ 3 _ rfl; (with_reducible repeat (first | refine blk_drewN ?_ _ | refine blk_drew ?_ | refine blk_alloc ?_ _)); refine blk_put (cs := #[.int .i64 t313, .string t314, .bool false, .string (⟨#[]⟩ : ByteArray), .int .i64 0, .int .i64 0, .int .i64 0]) ?_ 2 _ rfl; (with_reducible repeat (first | refine blk_drewN ?_ _ | refine blk_drew ?_ | refine blk_alloc ?_ _)); refine blk_put (cs := #[.int .i64 t313, .string (⟨#[]⟩ : ByteArray), .bool false, .string (⟨#[]⟩ : ByteArray), .int .i64 0, .int .i64 0, .int .i64 0]) ?_ 1 _ rfl; (with_reducible repeat (first | refine blk_drewN ?_ _ | refine blk_drew ?_ | refine blk_alloc ?_ _)); refine blk_put (cs := #[.int .i64 0, .string (⟨#[]⟩ : ByteArray), .bool false, .string (⟨#[]⟩ : ByteArray), .int .i64 0, .int .i64 0, .int .i64 0]) ?_ 0 _ rfl; (with_reducible repeat (first | refine blk_drewN ?_ _ | refine blk_drew ?_ | refine blk_alloc ?_ _)); exact BK322.out) hb); have n1_ := Aside0.mk (below_step (by repeat (first | (with_reducible first | exact HB.out | apply below_alloc | apply pw_below_drewN | apply below_drew1 | refine below_set ?_ GE322.out) | exact HB.out)) hb); clear BK322; clear HB; have BK322 := n0_; have HB := n1_; clear n0_ n1_; (try clear hb); (try clear hb2); (try clear hk); (try clear hi)) | ((with_reducible refine gate_dst (N := 12) rfl ?_); (try (refine gate_guard (by rfl) ?_; dsimp only)); refine box_event ?hg (N := 12) ?hd (cs := #[.int .i64 0, .string (⟨#[]⟩ : ByteArray), .bool false, .string (⟨#[]⟩ : ByteArray), .int .i64 0, .int .i64 0, .int .i64 0]) (t := 23) ?hr ?_; (case hd => rfl); (case hg => rfl); (case hr => first | (go_simp; done) | (go_simp; rfl)); intro gb332 hg w29 hbox hb; have n0_ := Aside0.mk (blk_below (g := gb322) (o := .cells #[.int .i64 t313, .string t314, .bool t315, .string t316, .int .i64 t317, .int .i64 t318, .int .i64 t319] 23 (0, 0)) (by (with_reducible repeat (first | refine blk_drewN ?_ _ | refine blk_drew ?_ | refine blk_alloc ?_ _)); exact BK322.out) hb); have n1_ := Aside0.mk (below_step (by repeat (first | (with_reducible first | exact HB.out | apply below_alloc | apply pw_below_drewN | apply below_drew1 | refine below_set ?_ GE322.out) | exact HB.out)) hb); have n2_ := Aside0.mk (hbox); have n3_ := Aside0.mk ((by rw [hg]; exact (below_size (by repeat (first | (with_reducible first | exact HB.out | apply below_alloc | apply pw_below_drewN | apply below_drew1 | refine below_set ?_ GE322.out) | exact HB.out))) : w.heap.size ≤ gb332)); have n4_ := Aside0.mk ((by rw [hg]; exact (below_size (by repeat (first | (with_reducible first | exact HB.out | apply below_alloc | apply pw_below_drewN | apply below_drew1 | refine below_set ?_ GE322.out) | exact HB.out))) : w.heap.size ≤ gb332)); have n5_ := Aside0.mk ((by rw [hg]; exact Nat.ne_of_lt (blk_lt (g := gb322) (o := .cells #[.int .i64 t313, .string t314, .bool t315, .string t316, .int .i64 t317, .int .i64 t318, .int .i64 t319] 23 (0, 0)) (by (with_reducible repeat (first | refine blk_drewN ?_ _ | refine blk_drew ?_ | refine blk_alloc ?_ _)); exact BK322.out)) : gb322 ≠ gb332)); have n6_ := Aside0.mk ((by rw [hg]; exact Nat.ne_of_gt (blk_lt (g := gb322) (o := .cells #[.int .i64 t313, .string t314, .bool t315, .string t316, .int .i64 t317, .int .i64 t318, .int .i64 t319] 23 (0, 0)) (by (with_reducible repeat (first | refine blk_drewN ?_ _ | refine blk_drew ?_ | refine blk_alloc ?_ _)); exact BK322.out)) : gb332 ≠ gb322)); clear BK322; clear HB; have BK322 := n0_; have HB := n1_; have BK332 := n2_; have GW332 := n3_; have GE332 := n4_; have NB322_332 := n5_; have NB332_322 := n6_; clear n0_ n1_ n2_ n3_ n4_ n5_ n6_; clear hb hbox hg; have hnb30 := NB332_322.out; have hnc30 := NB322_332.out; have hcz31_0 : w29.cell? ⟨gb332, 0, none⟩ = some (.int .i64 0) := (blk_cell BK332.out 0).trans rfl; have hcz31_1 : w29.cell? ⟨gb332, 1, none⟩ = some (.string (⟨#[]⟩ : ByteArray)) := (blk_cell BK332.out 1).trans rfl; have hcz31_2 : w29.cell? ⟨gb332, 2, none⟩ = some (.bool false) := (blk_cell BK332.out 2).trans rfl; have hcz31_3 : w29.cell? ⟨gb332, 3, none⟩ = some (.string (⟨#[]⟩ : ByteArray)) := (blk_cell BK332.out 3).trans rfl; have hcz31_4 : w29.cell? ⟨gb332, 4, none⟩ = some (.int .i64 0) := (blk_cell BK332.out 4).trans rfl; have hcz31_5 : w29.cell? ⟨gb332, 5, none⟩ = some (.int .i64 0) := (blk_cell BK332.out 5).trans rfl; have hcz31_6 : w29.cell? ⟨gb332, 6, none⟩ = some (.int .i64 0) := (blk_cell BK332.out 6).trans rfl; have hfz31_0 := blk_frozen BK332.out 0; have hfz31_1 := blk_frozen BK332.out 1; have hfz31_2 := blk_frozen BK332.out 2; have hfz31_3 := blk_frozen BK332.out 3; have hfz31_4 := blk_frozen BK332.out 4; have hfz31_5 := blk_frozen BK332.out 5; have hfz31_6 := blk_frozen BK332.out 6))
                            (try simp only [Act.put, List.setIfInBounds_toArray, List.set_cons_zero, List.set_cons_succ])
                            go_cut [64] (fun v64 wc => ∃ (kq : Nat) (x64_22 : Bool), v64 = .bool x64_22 ∧ Aside0 (shuttlelaw2_ScalarBack.j3 kq a0 a1 x5_1 t331 x64_22 t323 t324 t325 t326 t327 t328 t329 = some r) ∧ Aside0 (kq ≤ kj12) ∧ Aside0 (wc.heap[gb322]? = some (.cells #[.int .i64 t313, .string t314, .bool t315, .string t316, .int .i64 t317, .int .i64 t318, .int .i64 t319] 23 (0, 0))) ∧ Aside0 (wc.heap[gb332]? = some (.cells #[.int .i64 t323, .string t324, .bool t325, .string t326, .int .i64 t327, .int .i64 t328, .int .i64 t329] 23 (0, 0))) ∧ Aside0 (Below w.heap.size w wc))
                            case first =>
                              have H := HC23.out
                              clear HC23
                              by_cases c32 : t321 = 0
                              · rw [if_pos c32] at H
                                have c32b0 : (t321 == 0) = true := beq_iff_eq.mpr c32
                                have c32b1 : (t321 != 0) = false := bne_eq_false_iff_eq.mpr c32
                                clear c32
                                (first | rw [c32b0] | rw [c32b1] | (simp only [i64_w, i32_w]; rw [c32b0]) | skip)
                                have H' := Aside0.mk H
                                clear H
                                have hnb33 := NB322_332.out
                                have hnc33 := NB332_322.out
                                have hcz34_0 : w29.cell? ⟨gb322, 0, none⟩ = some (.int .i64 t313) := (blk_cell BK322.out 0).trans rfl
                                have hcz34_1 : w29.cell? ⟨gb322, 1, none⟩ = some (.string t314) := (blk_cell BK322.out 1).trans rfl
                                have hcz34_2 : w29.cell? ⟨gb322, 2, none⟩ = some (.bool t315) := (blk_cell BK322.out 2).trans rfl
                                have hcz34_3 : w29.cell? ⟨gb322, 3, none⟩ = some (.string t316) := (blk_cell BK322.out 3).trans rfl
                                have hcz34_4 : w29.cell? ⟨gb322, 4, none⟩ = some (.int .i64 t317) := (blk_cell BK322.out 4).trans rfl
                                have hcz34_5 : w29.cell? ⟨gb322, 5, none⟩ = some (.int .i64 t318) := (blk_cell BK322.out 5).trans rfl
                                have hcz34_6 : w29.cell? ⟨gb322, 6, none⟩ = some (.int .i64 t319) := (blk_cell BK322.out 6).trans rfl
                                have hfz34_0 := blk_frozen BK322.out 0
                                have hfz34_1 := blk_frozen BK322.out 1
                                have hfz34_2 := blk_frozen BK322.out 2
                                have hfz34_3 := blk_frozen BK322.out 3
                                have hfz34_4 := blk_frozen BK322.out 4
                                have hfz34_5 := blk_frozen BK322.out 5
                                have hfz34_6 := blk_frozen BK322.out 6
                                go_wp2
                                go_meet
                                case rel => exact ⟨_, ((!(t313 == 1) || (!(t314.toList == a0.toList) || (!t315 || (!(t316.toList == a1.toList) || (!(t317 == 0) || (!(t318 == 1) || (!(t319 == (wrap64 ((t312.size : Int) + 3))))))))))), (by first | rfl | (simp; done) | (simp only [i64_w, show ∀ n : Int, IntKind.u8.wrap n = n % 256 from fun n => rfl, and_self]; done) | (simp [i64_w, show ∀ n : Int, IntKind.u8.wrap n = n % 256 from fun n => rfl]; done) | (simp [*]; done)), H', ⟨by have := HK1.out; have := HJ7.out; have := HJ12.out; first | omega | exact Nat.le_refl _⟩, ⟨by (with_reducible repeat (first | refine blk_drewN ?_ _ | refine blk_drew ?_ | refine blk_alloc ?_ _)); refine blk_far ?_ NB322_332.out _; (with_reducible repeat (first | refine blk_drewN ?_ _ | refine blk_drew ?_ | refine blk_alloc ?_ _)); refine blk_far ?_ NB322_332.out _; (with_reducible repeat (first | refine blk_drewN ?_ _ | refine blk_drew ?_ | refine blk_alloc ?_ _)); refine blk_far ?_ NB322_332.out _; (with_reducible repeat (first | refine blk_drewN ?_ _ | refine blk_drew ?_ | refine blk_alloc ?_ _)); refine blk_far ?_ NB322_332.out _; (with_reducible repeat (first | refine blk_drewN ?_ _ | refine blk_drew ?_ | refine blk_alloc ?_ _)); refine blk_far ?_ NB322_332.out _; (with_reducible repeat (first | refine blk_drewN ?_ _ | refine blk_drew ?_ | refine blk_alloc ?_ _)); refine blk_far ?_ NB322_332.out _; (with_reducible repeat (first | refine blk_drewN ?_ _ | refine blk_drew ?_ | refine blk_alloc ?_ _)); refine blk_far ?_ NB322_332.out _; (with_reducible repeat (first | refine blk_drewN ?_ _ | refine blk_drew ?_ | refine blk_alloc ?_ _)); exact BK322.out⟩, ⟨by (with_reducible repeat (first | refine blk_drewN ?_ _ | refine blk_drew ?_ | refine blk_alloc ?_ _)); refine blk_put (cs := #[.int .i64 t323, .string t324, .bool t325, .string t326, .int .i64 t327, .int .i64 t328, .int .i64 0]) ?_ 6 _ rfl; (with_reducible repeat (first | refine blk_drewN ?_ _ | refine blk_drew ?_ | refine blk_alloc ?_ _)); refine blk_put (cs := #[.int .i64 t323, .string t324, .bool t325, .string t326, .int .i64 t327, .int .i64 0, .int .i64 0]) ?_ 5 _ rfl; (with_reducible repeat (first | refine blk_drewN ?_ _ | refine blk_drew ?_ | refine blk_alloc ?_ _)); refine blk_put (cs := #[.int .i64 t323, .string t324, .bool t325, .string t326, .int .i64 0, .int .i64 0, .int .i64 0]) ?_ 4 _ rfl; (with_reducible repeat (first | refine blk_drewN ?_ _ | refine blk_drew ?_ | refine blk_alloc ?_ _)); refine blk_put (cs := #[.int .i64 t323, .string t324, .bool t325, .string (⟨#[]⟩ : ByteArray), .int .i64 0, .int .i64 0, .int .i64 0]) ?_ 3 _ rfl; (with_reducible repeat (first | refine blk_drewN ?_ _ | refine blk_drew ?_ | refine blk_alloc ?_ _)); refine blk_put (cs := #[.int .i64 t323, .string t324, .bool false, .string (⟨#[]⟩ : ByteArray), .int .i64 0, .int .i64 0, .int .i64 0]) ?_ 2 _ rfl; (with_reducible repeat (first | refine blk_drewN ?_ _ | refine blk_drew ?_ | refine blk_alloc ?_ _)); refine blk_put (cs := #[.int .i64 t323, .string (⟨#[]⟩ : ByteArray), .bool false, .string (⟨#[]⟩ : ByteArray), .int .i64 0, .int .i64 0, .int .i64 0]) ?_ 1 _ rfl; (with_reducible repeat (first | refine blk_drewN ?_ _ | refine blk_drew ?_ | refine blk_alloc ?_ _)); refine blk_put (cs := #[.int .i64 0, .string (⟨#[]⟩ : ByteArray), .bool false, .string (⟨#[]⟩ : ByteArray), .int .i64 0, .int .i64 0, .int .i64 0]) ?_ 0 _ rfl; (with_reducible repeat (first | refine blk_drewN ?_ _ | refine blk_drew ?_ | refine blk_alloc ?_ _)); exact BK332.out⟩, ⟨by repeat (first | (with_reducible first | exact HB.out | apply below_alloc | apply pw_below_drewN | apply below_drew1 | refine below_set ?_ GE322.out | refine below_set ?_ GE332.out) | exact HB.out)⟩⟩
                              · rw [if_neg c32] at H
                                have c32b0 : (t321 == 0) = false := beq_eq_false_iff_ne.mpr c32
                                have c32b1 : (t321 != 0) = true := bne_iff_ne.mpr c32
                                (first | rw [c32b0] | rw [c32b1] | (simp only [i64_w, i32_w]; rw [c32b0]) | skip)
                                have H' := Aside0.mk H
                                clear H
                                go_wp2
                                go_meet
                                case rel => exact ⟨_, (true), (by first | rfl | (simp; done) | (simp only [i64_w, show ∀ n : Int, IntKind.u8.wrap n = n % 256 from fun n => rfl, and_self]; done) | (simp [i64_w, show ∀ n : Int, IntKind.u8.wrap n = n % 256 from fun n => rfl]; done) | (simp [*]; done)), H', ⟨by have := HK1.out; have := HJ7.out; have := HJ12.out; first | omega | exact Nat.le_refl _⟩, ⟨by (with_reducible repeat (first | refine blk_drewN ?_ _ | refine blk_drew ?_ | refine blk_alloc ?_ _)); refine blk_far ?_ NB322_332.out _; (with_reducible repeat (first | refine blk_drewN ?_ _ | refine blk_drew ?_ | refine blk_alloc ?_ _)); refine blk_far ?_ NB322_332.out _; (with_reducible repeat (first | refine blk_drewN ?_ _ | refine blk_drew ?_ | refine blk_alloc ?_ _)); refine blk_far ?_ NB322_332.out _; (with_reducible repeat (first | refine blk_drewN ?_ _ | refine blk_drew ?_ | refine blk_alloc ?_ _)); refine blk_far ?_ NB322_332.out _; (with_reducible repeat (first | refine blk_drewN ?_ _ | refine blk_drew ?_ | refine blk_alloc ?_ _)); refine blk_far ?_ NB322_332.out _; (with_reducible repeat (first | refine blk_drewN ?_ _ | refine blk_drew ?_ | refine blk_alloc ?_ _)); refine blk_far ?_ NB322_332.out _; (with_reducible repeat (first | refine blk_drewN ?_ _ | refine blk_drew ?_ | refine blk_alloc ?_ _)); refine blk_far ?_ NB322_332.out _; (with_reducible repeat (first | refine blk_drewN ?_ _ | refine blk_drew ?_ | refine blk_alloc ?_ _)); exact BK322.out⟩, ⟨by (with_reducible repeat (first | refine blk_drewN ?_ _ | refine blk_drew ?_ | refine blk_alloc ?_ _)); refine blk_put (cs := #[.int .i64 t323, .string t324, .bool t325, .string t326, .int .i64 t327, .int .i64 t328, .int .i64 0]) ?_ 6 _ rfl; (with_reducible repeat (first | refine blk_drewN ?_ _ | refine blk_drew ?_ | refine blk_alloc ?_ _)); refine blk_put (cs := #[.int .i64 t323, .string t324, .bool t325, .string t326, .int .i64 t327, .int .i64 0, .int .i64 0]) ?_ 5 _ rfl; (with_reducible repeat (first | refine blk_drewN ?_ _ | refine blk_drew ?_ | refine blk_alloc ?_ _)); refine blk_put (cs := #[.int .i64 t323, .string t324, .bool t325, .string t326, .int .i64 0, .int .i64 0, .int .i64 0]) ?_ 4 _ rfl; (with_reducible repeat (first | refine blk_drewN ?_ _ | refine blk_drew ?_ | refine blk_alloc ?_ _)); refine blk_put (cs := #[.int .i64 t323, .string t324, .bool t325, .string (⟨#[]⟩ : ByteArray), .int .i64 0, .int .i64 0, .int .i64 0]) ?_ 3 _ rfl; (with_reducible repeat (first | refine blk_drewN ?_ _ | refine blk_drew ?_ | refine blk_alloc ?_ _)); refine blk_put (cs := #[.int .i64 t323, .string t324, .bool false, .string (⟨#[]⟩ : ByteArray), .int .i64 0, .int .i64 0, .int .i64 0]) ?_ 2 _ rfl; (with_reducible repeat (first | refine blk_drewN ?_ _ | refine blk_drew ?_ | refine blk_alloc ?_ _)); refine blk_put (cs := #[.int .i64 t323, .string (⟨#[]⟩ : ByteArray), .bool false, .string (⟨#[]⟩ : ByteArray), .int .i64 0, .int .i64 0, .int .i64 0]) ?_ 1 _ rfl; (with_reducible repeat (first | refine blk_drewN ?_ _ | refine blk_drew ?_ | refine blk_alloc ?_ _)); refine blk_put (cs := #[.int .i64 0, .string (⟨#[]⟩ : ByteArray), .bool false, .string (⟨#[]⟩ : ByteArray), .int .i64 0, .int .i64 0, .int .i64 0]) ?_ 0 _ rfl; (with_reducible repeat (first | refine blk_drewN ?_ _ | refine blk_drew ?_ | refine blk_alloc ?_ _)); exact BK332.out⟩, ⟨by repeat (first | (with_reducible first | exact HB.out | apply below_alloc | apply pw_below_drewN | apply below_drew1 | refine below_set ?_ GE322.out | refine below_set ?_ GE332.out) | exact HB.out)⟩⟩
                            case rest =>
                              clear HC23
                              try clear c1
                              try clear c2
                              try clear p2
                              try clear c3
                              try clear c3b0
                              try clear c3b1
                              try clear c6
                              try clear c6b0
                              try clear p6
                              try clear c10
                              try clear c10b0
                              try clear c10b1
                              try clear c11
                              try clear c12
                              try clear c14
                              try clear c14b0
                              try clear c14b1
                              try clear c16
                              try clear c16b0
                              try clear c16b1
                              try clear c16b2
                              try clear c17
                              try clear c17b0
                              try clear c17b1
                              try clear c17b2
                              try clear c18
                              try clear c18b0
                              try clear c18b1
                              try clear c18b2
                              try clear c19
                              try clear c20
                              try clear c20b0
                              try clear c20b1
                              try clear c20b2
                              try clear c21
                              try clear c21b0
                              try clear c21b1
                              try clear c21b2
                              try clear c23
                              try clear c30
                              try clear c32
                              try clear c32b0
                              try clear c32b1
                              try clear c33
                              try clear hcz27_0
                              try clear hcz27_1
                              try clear hcz27_2
                              try clear hcz27_3
                              try clear hcz27_4
                              try clear hcz27_5
                              try clear hcz27_6
                              try clear hcz31_0
                              try clear hcz31_1
                              try clear hcz31_2
                              try clear hcz31_3
                              try clear hcz31_4
                              try clear hcz31_5
                              try clear hcz31_6
                              try clear hcz34_0
                              try clear hcz34_1
                              try clear hcz34_2
                              try clear hcz34_3
                              try clear hcz34_4
                              try clear hcz34_5
                              try clear hcz34_6
                              try clear hfz27_0
                              try clear hfz27_1
                              try clear hfz27_2
                              try clear hfz27_3
                              try clear hfz27_4
                              try clear hfz27_5
                              try clear hfz27_6
                              try clear hfz31_0
                              try clear hfz31_1
                              try clear hfz31_2
                              try clear hfz31_3
                              try clear hfz31_4
                              try clear hfz31_5
                              try clear hfz31_6
                              try clear hfz34_0
                              try clear hfz34_1
                              try clear hfz34_2
                              try clear hfz34_3
                              try clear hfz34_4
                              try clear hfz34_5
                              try clear hfz34_6
                              try clear p2
                              obtain ⟨kq, x64_22, rfl, HA, HJ22, BK322, BK332, HB⟩ := hcut
                              cases kq with
                              | zero => exact absurd HA.out (by simp [shuttlelaw2_ScalarBack.j3])
                              | succ kj22 =>
                                have H := HA.out
                                clear HA
                                simp only [shuttlelaw2_ScalarBack.j3] at H
                                by_cases c35 : x64_22 = true
                                · subst c35
                                  have H1 : (some false) = some r := by rw [if_pos rfl] at H; exact H
                                  clear H
                                  have H := H1
                                  clear H1
                                  obtain rfl := Option.some.inj H
                                  go_wp2
                                  go_ret
                                  exact ⟨by first | rfl | (simp [errW_none, errW_some] <;> rfl) | (simp [*, errW_none, errW_some] <;> rfl), by repeat (first | (with_reducible first | exact HB.out | apply below_alloc | apply pw_below_drewN | apply below_drew1 | refine below_set ?_ GE322.out | refine below_set ?_ GE332.out) | exact HB.out)⟩
                                · replace c35 := Bool.eq_false_iff.mpr c35
                                  subst c35
                                  have H1 : (if t331 = 0 then (if (!(t323 == 2) || (!(t324.toList == ([] : List UInt8)) || (!t325 || (!(t326.toList == a1.toList) || (!(t327 == 0) || (!(t328 == 1) || (!(t329 == 4)))))))) = true then (some false) else (shuttlelaw2_ScalarBack.l0 kj22 a0 a1 (wrap64 (x5_1 + 1)))) else (some false)) = some r := by rw [if_neg (show ¬ (false = true) by decide)] at H; exact H
                                  clear H
                                  have H := H1
                                  clear H1
                                  by_cases c36 : t331 = 0
                                  · rw [if_pos c36] at H
                                    have c36b0 : (t331 == 0) = true := beq_iff_eq.mpr c36
                                    have c36b1 : (t331 != 0) = false := bne_eq_false_iff_eq.mpr c36
                                    clear c36
                                    by_cases c37 : (!(t323 == 2) || (!(t324.toList == ([] : List UInt8)) || (!t325 || (!(t326.toList == a1.toList) || (!(t327 == 0) || (!(t328 == 1) || (!(t329 == 4)))))))) = true
                                    · rw [if_pos c37] at H
                                      have c37b0 : (!(t323 == 2) || (!(t324.toList == ([] : List UInt8)) || (!t325 || (!(t326.toList == a1.toList) || (!(t327 == 0) || (!(t328 == 1) || (!(t329 == 4)))))))) = true := c37
                                      (try (have c37bz1 : ((!(t323 == 2)) = true ∨ (!t324.toList.isEmpty) = true ∨ (!t325) = true ∨ (!(t326.toList == a1.toList)) = true ∨ (!(t327 == 0)) = true ∨ (!(t328 == 1)) = true ∨ (!(t329 == 4)) = true) := by simpa using c37))
                                      (try (have c37bz2 : ¬ ((!(t323 == 2)) = false ∧ (!t324.toList.isEmpty) = false ∧ (!t325) = false ∧ (!(t326.toList == a1.toList)) = false ∧ (!(t327 == 0)) = false ∧ (!(t328 == 1)) = false ∧ (!(t329 == 4)) = false) := by intro hz; simp only [hz, Bool.false_eq_true, or_self] at c37bz1))
                                      clear c37
                                      obtain rfl := Option.some.inj H
                                      have hnb38 := NB332_322.out
                                      have hnc38 := NB322_332.out
                                      have hcz39_0 : wc.cell? ⟨gb332, 0, none⟩ = some (.int .i64 t323) := (blk_cell BK332.out 0).trans rfl
                                      have hcz39_1 : wc.cell? ⟨gb332, 1, none⟩ = some (.string t324) := (blk_cell BK332.out 1).trans rfl
                                      have hcz39_2 : wc.cell? ⟨gb332, 2, none⟩ = some (.bool t325) := (blk_cell BK332.out 2).trans rfl
                                      have hcz39_3 : wc.cell? ⟨gb332, 3, none⟩ = some (.string t326) := (blk_cell BK332.out 3).trans rfl
                                      have hcz39_4 : wc.cell? ⟨gb332, 4, none⟩ = some (.int .i64 t327) := (blk_cell BK332.out 4).trans rfl
                                      have hcz39_5 : wc.cell? ⟨gb332, 5, none⟩ = some (.int .i64 t328) := (blk_cell BK332.out 5).trans rfl
                                      have hcz39_6 : wc.cell? ⟨gb332, 6, none⟩ = some (.int .i64 t329) := (blk_cell BK332.out 6).trans rfl
                                      have hfz39_0 := blk_frozen BK332.out 0
                                      have hfz39_1 := blk_frozen BK332.out 1
                                      have hfz39_2 := blk_frozen BK332.out 2
                                      have hfz39_3 := blk_frozen BK332.out 3
                                      have hfz39_4 := blk_frozen BK332.out 4
                                      have hfz39_5 := blk_frozen BK332.out 5
                                      have hfz39_6 := blk_frozen BK332.out 6
                                      go_wp2
                                      go_ret
                                      exact ⟨by first | rfl | (simp [errW_none, errW_some] <;> rfl) | (simp [*, errW_none, errW_some] <;> rfl), by repeat (first | (with_reducible first | exact HB.out | apply below_alloc | apply pw_below_drewN | apply below_drew1 | refine below_set ?_ GE322.out | refine below_set ?_ GE332.out) | exact HB.out)⟩
                                    · rw [if_neg c37] at H
                                      have c37b0 : (!(t323 == 2) || (!(t324.toList == ([] : List UInt8)) || (!t325 || (!(t326.toList == a1.toList) || (!(t327 == 0) || (!(t328 == 1) || (!(t329 == 4)))))))) = false := by simpa using c37
                                      (try (have c37bz1 : ¬ ((!(t323 == 2)) = true ∨ (!t324.toList.isEmpty) = true ∨ (!t325) = true ∨ (!(t326.toList == a1.toList)) = true ∨ (!(t327 == 0)) = true ∨ (!(t328 == 1)) = true ∨ (!(t329 == 4)) = true) := by simpa using c37))
                                      (try (have c37bz2 : ((!(t323 == 2)) = false ∧ (!t324.toList.isEmpty) = false ∧ (!t325) = false ∧ (!(t326.toList == a1.toList)) = false ∧ (!(t327 == 0)) = false ∧ (!(t328 == 1)) = false ∧ (!(t329 == 4)) = false) := by simpa using c37))
                                      clear c37
                                      have H' := Aside0.mk H
                                      clear H
                                      have hnb40 := NB332_322.out
                                      have hnc40 := NB322_332.out
                                      have hcz41_0 : wc.cell? ⟨gb332, 0, none⟩ = some (.int .i64 t323) := (blk_cell BK332.out 0).trans rfl
                                      have hcz41_1 : wc.cell? ⟨gb332, 1, none⟩ = some (.string t324) := (blk_cell BK332.out 1).trans rfl
                                      have hcz41_2 : wc.cell? ⟨gb332, 2, none⟩ = some (.bool t325) := (blk_cell BK332.out 2).trans rfl
                                      have hcz41_3 : wc.cell? ⟨gb332, 3, none⟩ = some (.string t326) := (blk_cell BK332.out 3).trans rfl
                                      have hcz41_4 : wc.cell? ⟨gb332, 4, none⟩ = some (.int .i64 t327) := (blk_cell BK332.out 4).trans rfl
                                      have hcz41_5 : wc.cell? ⟨gb332, 5, none⟩ = some (.int .i64 t328) := (blk_cell BK332.out 5).trans rfl
                                      have hcz41_6 : wc.cell? ⟨gb332, 6, none⟩ = some (.int .i64 t329) := (blk_cell BK332.out 6).trans rfl
                                      have hfz41_0 := blk_frozen BK332.out 0
                                      have hfz41_1 := blk_frozen BK332.out 1
                                      have hfz41_2 := blk_frozen BK332.out 2
                                      have hfz41_3 := blk_frozen BK332.out 3
                                      have hfz41_4 := blk_frozen BK332.out 4
                                      have hfz41_5 := blk_frozen BK332.out 5
                                      have hfz41_6 := blk_frozen BK332.out 6
                                      go_wp2
                                      go_roundg kj22
                                      case measure => have := HK1.out; have := HJ7.out; have := HJ12.out; have := HJ22.out; omega
                                      case rel => exact ⟨(wrap64 (x5_1 + 1)), (by first | rfl | (simp; done) | (simp only [i64_w, show ∀ n : Int, IntKind.u8.wrap n = n % 256 from fun n => rfl, and_self]; done) | (simp [i64_w, show ∀ n : Int, IntKind.u8.wrap n = n % 256 from fun n => rfl]; done) | (simp [*]; done)), H', ⟨by have := HK1.out; have := HJ7.out; have := HJ12.out; have := HJ22.out; omega⟩, ⟨by repeat (first | (with_reducible first | exact HB.out | apply below_alloc | apply pw_below_drewN | apply below_drew1 | refine below_set ?_ GE322.out | refine below_set ?_ GE332.out) | exact HB.out)⟩⟩
                                  · rw [if_neg c36] at H
                                    have c36b0 : (t331 == 0) = false := beq_eq_false_iff_ne.mpr c36
                                    have c36b1 : (t331 != 0) = true := bne_iff_ne.mpr c36
                                    obtain rfl := Option.some.inj H
                                    go_wp2
                                    go_ret
                                    exact ⟨by first | rfl | (simp [errW_none, errW_some] <;> rfl) | (simp [*, errW_none, errW_some] <;> rfl), by repeat (first | (with_reducible first | exact HB.out | apply below_alloc | apply pw_below_drewN | apply below_drew1 | refine below_set ?_ GE322.out | refine below_set ?_ GE332.out) | exact HB.out)⟩
                          · rw [if_neg c21] at H
                            exact absurd H (by simp)
                        · rw [if_neg c20] at H
                          exact absurd H (by simp)
                      · rw [if_neg c18] at H
                        exact absurd H (by simp)
                    · rw [if_neg c17] at H
                      exact absurd H (by simp)
                  · rw [if_neg c16] at H
                    exact absurd H (by simp)
        · rw [if_neg c6] at H
          have c6b0 : decide (x5_1 < 3) = false := decide_eq_false c6
          clear c6
          replace H := Option.bind_eq_some_iff.mp H
          obtain ⟨t309, A420, H⟩ := H
          replace H : (some t309) = some r := H
          have A42 := Aside0.mk A420
          clear A420
          obtain rfl := Option.some.inj H
          go_wp2_with (first | ((with_reducible refine gate_callee (f := 12) rfl ?_); refine goesL_ (some 73) rfl rfl Tryd.func12 (by kernel_rfl) rfl #[] rfl (by (try simp only [List.map_toArray, List.map_cons, List.map_nil]); first | done | rfl | (simp only [List.length_drop, List.length_take]; rfl)) ?_; (with_reducible refine (shuttlelaw2_awake.calls k1  t309 _ ?gm_ A42.out).mono ?_); (case gm_ => exact GM.below HGM.out (by repeat (first | (with_reducible first | exact HB.out | apply below_alloc | apply pw_below_drewN | apply below_drew1 | refine below_set ?_ (Aside0.out (by assumption))) | exact HB.out))); rintro e w43 ⟨rfl, hb⟩; refine ⟨_, rfl, ?_⟩; have n0_ := Aside0.mk (below_step (by repeat (first | (with_reducible first | exact HB.out | apply below_alloc | apply pw_below_drewN | apply below_drew1) | exact HB.out)) hb); clear HB; have HB := n0_; clear n0_; (try clear hb); (try clear hb2); (try clear hk); (try clear hi)))
          go_ret
          exact ⟨by first | rfl | (simp [errW_none, errW_some] <;> rfl) | (simp [*, errW_none, errW_some] <;> rfl), by repeat (first | (with_reducible first | exact HB.out | apply below_alloc | apply pw_below_drewN | apply below_drew1) | exact HB.out)⟩
/-- THE ONE PURE STATEMENT of shuttlelaw2_ScalarBack: yours. -/
def shuttlelaw2_ScalarBack.Pure : Prop := ∀ (a0 : ByteArray) (a1 : ByteArray), a0.size ≤ 140737488351232 → a1.size ≤ 140737488351232 → ∃ k, shuttlelaw2_ScalarBack.f k a0 a1 = some true
def shuttlelaw2_quoted.f (a0 : ByteArray) : Option (Bool) := if a0.toList = ([] : List UInt8) then (some false) else (if 0 < (a0.size : Int) then (some ((bt a0 0) == 34)) else (none))
def shuttlelaw2_clean.l0 : Nat → ByteArray → Int → Option (Bool)
  | 0, _, _ => none
  | k + 1, x0, x3 => if x3 < (x0.size : Int) then (if 0 ≤ x3 then (if (bt x0 x3) < 32 then (some false) else (if (bt x0 x3) = 127 then (some false) else (shuttlelaw2_clean.l0 k x0 (wrap64 (x3 + 1))))) else (none)) else (if x0.toList = ([] : List UInt8) then (some false) else (if 0 < (x0.size : Int) then (some ((bt x0 0) != 32)) else (none)))
def shuttlelaw2_clean.f (k : Nat) (a0 : ByteArray) : Option (Bool) := shuttlelaw2_clean.l0 k a0 0
end Go.Proofs.YtmkfjjfdbaaknaaDoor.Q
