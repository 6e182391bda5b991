-- Printed for this seat by gprint.py (the kit's printer over contracts proved by hand).
import Derived.Test.YtmkfjjfdbaaknaaDoorFAQ0
import Derived.Test.YtmkfjjfdbaaknaaDoorFAQ1
import Derived.Test.YtmkfjjfdbaaknaaDoorFAQ8
import Derived.Test.YtmkfjjfdbaaknaaDoorFAQ9
import Derived.Test.YtmkfjjfdbaaknaaDoorFASGiv
namespace Go.Proofs.YtmkfjjfdbaaknaaDoor.Q
open Go.RowKit Go.Proofs.YtmkfjjfdbaaknaaDoorW.PrintWords Go.Proofs.YtmkfjjfdbaaknaaDoorW.PrintLast Go.Proofs.YtmkfjjfdbaaknaaDoorW.PrintMore
attribute [local go_sem] max2_int min2_int max_two min_two max_three min_three max_four min_four   -- for this text's walks alone
set_option linter.unusedVariables false
set_option linter.unusedSimpArgs false
attribute [local go_sem high] eqA23
mutual
def shuttlelaw2_ScalarBack.l0 : Nat → ByteArray → ByteArray → Int → Option (Bool)
  | 0, _, _, _ => none
  | k + 1, x0, x1, x5 => if x5 < 3 then ((scalar_Value.f k x1).bind fun t310 => (if x5 = 1 then ((scalar_Quote.f k x1).bind fun t311 => (shuttlelaw2_ScalarBack.j1 k x0 x1 x5 t311)) else (shuttlelaw2_ScalarBack.j1 k x0 x1 x5 t310))) else ((shuttlelaw2_awake.f k).bind fun t309 => (some t309))
def shuttlelaw2_ScalarBack.j1 : Nat → ByteArray → ByteArray → Int → ByteArray → Option (Bool)
  | 0, _, _, _, _ => none
  | k + 1, x0, x1, x5, x6 => if x5 = 2 then (shuttlelaw2_ScalarBack.j2 k x0 x1 x5 x6 (⟨#[32, 32, 32, 35, 32, 97, 32, 114, 101, 109, 97, 114, 107]⟩ : ByteArray)) else (shuttlelaw2_ScalarBack.j2 k x0 x1 x5 x6 (⟨#[]⟩ : ByteArray))
def shuttlelaw2_ScalarBack.j2 : Nat → ByteArray → ByteArray → Int → ByteArray → ByteArray → Option (Bool)
  | 0, _, _, _, _, _ => none
  | k + 1, x0, x1, x5, x6, x7 => (scalar_Key.f k x0).bind fun t312 => (if t312.size + 2 ≤ 9223372036854775807 then (if (t312 ++ (⟨#[58, 32]⟩ : ByteArray)).size + x6.size ≤ 9223372036854775807 then (if ((t312 ++ (⟨#[58, 32]⟩ : ByteArray)) ++ x6).size + x7.size ≤ 9223372036854775807 then ((scalar_Read.f (((t312 ++ (⟨#[58, 32]⟩ : ByteArray)) ++ x6) ++ x7)).bind fun bt313 => (if 3 + x6.size ≤ 9223372036854775807 then (if ((⟨#[45, 32, 32]⟩ : ByteArray) ++ x6).size + x7.size ≤ 9223372036854775807 then ((scalar_Read.f (((⟨#[45, 32, 32]⟩ : ByteArray) ++ x6) ++ x7)).bind fun bt323 => (if bt313.2.2.2.2.2.2.2.2 = 0 then (shuttlelaw2_ScalarBack.j3 k x0 x1 x5 bt323.2.2.2.2.2.2.2.2 (!(bt313.1 == 1) || (!(bt313.2.1.toList == x0.toList) || (!bt313.2.2.1 || (!(bt313.2.2.2.1.toList == x1.toList) || (!(bt313.2.2.2.2.1 == 0) || (!(bt313.2.2.2.2.2.1 == 1) || (!(bt313.2.2.2.2.2.2.1 == (wrap64 ((t312.size : Int) + 3)))))))))) bt323.1 bt323.2.1 bt323.2.2.1 bt323.2.2.2.1 bt323.2.2.2.2.1 bt323.2.2.2.2.2.1 bt323.2.2.2.2.2.2.1) else (shuttlelaw2_ScalarBack.j3 k x0 x1 x5 bt323.2.2.2.2.2.2.2.2 true bt323.1 bt323.2.1 bt323.2.2.1 bt323.2.2.2.1 bt323.2.2.2.2.1 bt323.2.2.2.2.2.1 bt323.2.2.2.2.2.2.1))) else (none)) else (none))) else (none)) else (none)) else (none))
def shuttlelaw2_ScalarBack.j3 : Nat → ByteArray → ByteArray → Int → Int → Bool → Int → ByteArray → Bool → ByteArray → Int → Int → Int → Option (Bool)
  | 0, _, _, _, _, _, _, _, _, _, _, _, _ => none
  | k + 1, x0, x1, x5, x14, x64, x333000, x333001, x333002, x333003, x333004, x333005, x333006 => if x64 = true then (some false) else (if x14 = 0 then (if (!(x333000 == 2) || (!(x333001.toList == ([] : List UInt8)) || (!x333002 || (!(x333003.toList == x1.toList) || (!(x333004 == 0) || (!(x333005 == 1) || (!(x333006 == 4)))))))) = true then (some false) else (shuttlelaw2_ScalarBack.l0 k x0 x1 (wrap64 (x5 + 1)))) else (some false))
end
def shuttlelaw2_ScalarBack.f (k : Nat) (a0 : ByteArray) (a1 : ByteArray) : Option (Bool) := if (a0.size : Int) > 64 then ((shuttlelaw2_awake.f k).bind fun t308 => (some t308)) else (shuttlelaw2_ScalarBack.l0 k a0 a1 0)
/-- THE ONE PURE STATEMENT of shuttlelaw2_ScalarBack: yours. -/
def shuttlelaw2_ScalarBack.Pure : Prop := ∀ (a0 : ByteArray) (a1 : ByteArray), a0.size ≤ 140737488351232 → a1.size ≤ 140737488351232 → ∃ k, shuttlelaw2_ScalarBack.f k a0 a1 = some true
def shuttlelaw2_quoted.f (a0 : ByteArray) : Option (Bool) := if a0.toList = ([] : List UInt8) then (some false) else (if 0 < (a0.size : Int) then (some ((bt a0 0) == 34)) else (none))
set_option maxHeartbeats 8000000 in
set_option maxRecDepth 100000 in
theorem shuttlelaw2_quoted.calls (a0 : ByteArray) (r : Bool) (w : World) (h : shuttlelaw2_quoted.f a0 = some r) :
    Calls Tryd.prog 25 #[.string a0] w fun e w' => e = .returned (.bool r) ∧ Drawn0 w w' := by
  have H : (if a0.toList = ([] : List UInt8) then (some false) else (if 0 < (a0.size : Int) then (some ((bt a0 0) == 34)) else (none))) = some r := h
  clear h
  by_cases c2 : a0.toList = ([] : List UInt8)
  · rw [if_pos c2] at H
    have c2b0 : (a0.toList == ([] : List UInt8)) = true := beq_iff_eq.mpr c2
    have c2b1 : (a0.toList != ([] : List UInt8)) = false := bne_eq_false_iff_eq.mpr c2
    clear c2
    obtain rfl := Option.some.inj H
    go_enter Tryd.func25, Tryd.ntmps25
    go_wp2
    go_ret
    exact ⟨by first | rfl | (simp; done) | (simp only [i64_w, show ∀ n : Int, IntKind.u8.wrap n = n % 256 from fun n => rfl, and_self]; done) | (simp [i64_w, show ∀ n : Int, IntKind.u8.wrap n = n % 256 from fun n => rfl]; done) | (simp [*]; done), by repeat (first | exact Drawn0.refl _ | apply Drawn0.step)⟩
  · rw [if_neg c2] at H
    have c2b0 : (a0.toList == ([] : List UInt8)) = false := beq_eq_false_iff_ne.mpr c2
    have c2b1 : (a0.toList != ([] : List UInt8)) = true := bne_iff_ne.mpr c2
    by_cases c3 : 0 < (a0.size : Int)
    · rw [if_pos c3] at H
      have c3b0 : decide (0 < (a0.size : Int)) = true := decide_eq_true c3
      have c3b1 : decide (0 < a0.size) = true := decide_eq_true (by omega)
      clear c3
      obtain rfl := Option.some.inj H
      have p4 : 0 ≤ (0 : Int) := (by omega)
      have q4 : 0 < a0.size := (by have : (0 : Int) < (a0.size : Int) := of_decide_eq_true (by first | (with_reducible assumption) | assumption); omega)
      have hx4 : ∀ h : 0 < a0.size, ((a0[0]'h).toNat : Int) = bt a0 0 := bt_at a0 0
      clear p4
      have qi4 : (0 < (a0.size : Int)) = True := eq_true (of_decide_eq_true (by first | (with_reducible assumption) | assumption))
      replace q4 := eq_true q4
      go_enter Tryd.func25, Tryd.ntmps25
      go_wp2
      go_ret
      exact ⟨by first | rfl | (simp; done) | (simp only [i64_w, show ∀ n : Int, IntKind.u8.wrap n = n % 256 from fun n => rfl, and_self]; done) | (simp [i64_w, show ∀ n : Int, IntKind.u8.wrap n = n % 256 from fun n => rfl]; done) | (simp [*]; done), by repeat (first | exact Drawn0.refl _ | apply Drawn0.step)⟩
    · rw [if_neg c3] at H
      exact absurd H (by simp)
def shuttlelaw2_clean.l0 : Nat → ByteArray → Int → Option (Bool)
  | 0, _, _ => none
  | k + 1, x0, x3 => if x3 < (x0.size : Int) then (if 0 ≤ x3 then (if (bt x0 x3) < 32 then (some false) else (if (bt x0 x3) = 127 then (some false) else (shuttlelaw2_clean.l0 k x0 (wrap64 (x3 + 1))))) else (none)) else (if x0.toList = ([] : List UInt8) then (some false) else (if 0 < (x0.size : Int) then (some ((bt x0 0) != 32)) else (none)))
def shuttlelaw2_clean.f (k : Nat) (a0 : ByteArray) : Option (Bool) := shuttlelaw2_clean.l0 k a0 0
set_option maxHeartbeats 8000000 in
set_option maxRecDepth 100000 in
theorem shuttlelaw2_clean.calls (k : Nat) (a0 : ByteArray) (r : Bool) (w : World) (h : shuttlelaw2_clean.f k a0 = some r) :
    Calls Tryd.prog 26 #[.string a0] w fun e w' => e = .returned (.bool r) ∧ Drawn0 w w' := by
  have H : (shuttlelaw2_clean.l0 k a0 0) = some r := h
  clear h
  have H' := Aside0.mk H
  clear H
  go_enter Tryd.func26, Tryd.ntmps26
  go_wp2
  go_loopg [3] k (fun kq v3 w' => ∃ (x3_1 : Int), v3 = .int .i64 x3_1 ∧ Aside0 (shuttlelaw2_clean.l0 kq a0 x3_1 = some r) ∧ Aside0 (kq ≤ k) ∧ Drawn0 w w')
  case atStart => exact ⟨(0), (by first | rfl | (simp; done) | (simp only [i64_w, show ∀ n : Int, IntKind.u8.wrap n = n % 256 from fun n => rfl, and_self]; done) | (simp [i64_w, show ∀ n : Int, IntKind.u8.wrap n = n % 256 from fun n => rfl]; done) | (simp [*]; done)), H', ⟨Nat.le_refl _⟩, by repeat (first | exact Drawn0.refl _ | apply Drawn0.step)⟩
  case round =>
    clear H'
    obtain ⟨x3_1, rfl, HA, HK1, ⟨m1, rfl⟩⟩ := hrel
    cases gk with
    | zero => exact absurd HA.out (by simp [shuttlelaw2_clean.l0])
    | succ k1 =>
      have H := HA.out
      clear HA
      simp only [shuttlelaw2_clean.l0] at H
      by_cases c2 : x3_1 < (a0.size : Int)
      · rw [if_pos c2] at H
        have c2b0 : decide (x3_1 < (a0.size : Int)) = true := decide_eq_true c2
        clear c2
        by_cases c3 : 0 ≤ x3_1
        · rw [if_pos c3] at H
          have c3b0 : decide (0 ≤ x3_1) = true := decide_eq_true c3
          clear c3
          by_cases c5 : (bt a0 x3_1) < 32
          · rw [if_pos c5] at H
            have c5b0 : decide ((bt a0 x3_1) < 32) = true := decide_eq_true c5
            clear c5
            obtain rfl := Option.some.inj H
            have p4 : 0 ≤ (x3_1 : Int) := of_decide_eq_true (by first | (with_reducible assumption) | assumption)
            have q4 : x3_1 < (a0.size : Int) := of_decide_eq_true (by first | (with_reducible assumption) | assumption)
            have hx4 := bt_at a0 x3_1
            replace p4 := eq_true p4
            replace q4 := eq_true q4
            go_wp2
            go_ret
            exact ⟨by first | rfl | (simp; done) | (simp only [i64_w, show ∀ n : Int, IntKind.u8.wrap n = n % 256 from fun n => rfl, and_self]; done) | (simp [i64_w, show ∀ n : Int, IntKind.u8.wrap n = n % 256 from fun n => rfl]; done) | (simp [*]; done), by repeat (first | exact Drawn0.refl _ | apply Drawn0.step)⟩
          · rw [if_neg c5] at H
            have c5b0 : decide ((bt a0 x3_1) < 32) = false := decide_eq_false c5
            clear c5
            by_cases c7 : (bt a0 x3_1) = 127
            · rw [if_pos c7] at H
              have c7b0 : ((bt a0 x3_1) == 127) = true := beq_iff_eq.mpr c7
              have c7b1 : ((bt a0 x3_1) != 127) = false := bne_eq_false_iff_eq.mpr c7
              clear c7
              obtain rfl := Option.some.inj H
              have p4 : 0 ≤ (x3_1 : Int) := of_decide_eq_true (by first | (with_reducible assumption) | assumption)
              have q4 : x3_1 < (a0.size : Int) := of_decide_eq_true (by first | (with_reducible assumption) | assumption)
              have hx4 := bt_at a0 x3_1
              replace p4 := eq_true p4
              replace q4 := eq_true q4
              have p6 : 0 ≤ (x3_1 : Int) := of_decide_eq_true (by first | (with_reducible assumption) | assumption)
              have q6 : x3_1 < (a0.size : Int) := of_decide_eq_true (by first | (with_reducible assumption) | assumption)
              have hx6 := bt_at a0 x3_1
              replace p6 := eq_true p6
              replace q6 := eq_true q6
              go_wp2
              go_ret
              exact ⟨by first | rfl | (simp; done) | (simp only [i64_w, show ∀ n : Int, IntKind.u8.wrap n = n % 256 from fun n => rfl, and_self]; done) | (simp [i64_w, show ∀ n : Int, IntKind.u8.wrap n = n % 256 from fun n => rfl]; done) | (simp [*]; done), by repeat (first | exact Drawn0.refl _ | apply Drawn0.step)⟩
            · rw [if_neg c7] at H
              have c7b0 : ((bt a0 x3_1) == 127) = false := beq_eq_false_iff_ne.mpr c7
              have c7b1 : ((bt a0 x3_1) != 127) = true := bne_iff_ne.mpr c7
              have H' := Aside0.mk H
              clear H
              have p4 : 0 ≤ (x3_1 : Int) := of_decide_eq_true (by first | (with_reducible assumption) | assumption)
              have q4 : x3_1 < (a0.size : Int) := of_decide_eq_true (by first | (with_reducible assumption) | assumption)
              have hx4 := bt_at a0 x3_1
              replace p4 := eq_true p4
              replace q4 := eq_true q4
              have p6 : 0 ≤ (x3_1 : Int) := of_decide_eq_true (by first | (with_reducible assumption) | assumption)
              have q6 : x3_1 < (a0.size : Int) := of_decide_eq_true (by first | (with_reducible assumption) | assumption)
              have hx6 := bt_at a0 x3_1
              replace p6 := eq_true p6
              replace q6 := eq_true q6
              go_wp2
              go_roundg k1
              case measure => have := HK1.out; omega
              case rel => exact ⟨(wrap64 (x3_1 + 1)), (by first | rfl | (simp; done) | (simp only [i64_w, show ∀ n : Int, IntKind.u8.wrap n = n % 256 from fun n => rfl, and_self]; done) | (simp [i64_w, show ∀ n : Int, IntKind.u8.wrap n = n % 256 from fun n => rfl]; done) | (simp [*]; done)), H', ⟨by have := HK1.out; omega⟩, by repeat (first | exact Drawn0.refl _ | apply Drawn0.step)⟩
        · rw [if_neg c3] at H
          exact absurd H (by simp)
      · rw [if_neg c2] at H
        have c2b0 : decide (x3_1 < (a0.size : Int)) = false := decide_eq_false c2
        clear c2
        by_cases c8 : a0.toList = ([] : List UInt8)
        · rw [if_pos c8] at H
          have c8b0 : (a0.toList == ([] : List UInt8)) = true := beq_iff_eq.mpr c8
          have c8b1 : (a0.toList != ([] : List UInt8)) = false := bne_eq_false_iff_eq.mpr c8
          clear c8
          obtain rfl := Option.some.inj H
          go_wp2
          go_ret
          exact ⟨by first | rfl | (simp; done) | (simp only [i64_w, show ∀ n : Int, IntKind.u8.wrap n = n % 256 from fun n => rfl, and_self]; done) | (simp [i64_w, show ∀ n : Int, IntKind.u8.wrap n = n % 256 from fun n => rfl]; done) | (simp [*]; done), by repeat (first | exact Drawn0.refl _ | apply Drawn0.step)⟩
        · rw [if_neg c8] at H
          have c8b0 : (a0.toList == ([] : List UInt8)) = false := beq_eq_false_iff_ne.mpr c8
          have c8b1 : (a0.toList != ([] : List UInt8)) = true := bne_iff_ne.mpr c8
          by_cases c9 : 0 < (a0.size : Int)
          · rw [if_pos c9] at H
            have c9b0 : decide (0 < (a0.size : Int)) = true := decide_eq_true c9
            have c9b1 : decide (0 < a0.size) = true := decide_eq_true (by omega)
            clear c9
            obtain rfl := Option.some.inj H
            have p10 : 0 ≤ (0 : Int) := (by omega)
            have q10 : 0 < a0.size := (by have : (0 : Int) < (a0.size : Int) := of_decide_eq_true (by first | (with_reducible assumption) | assumption); omega)
            have hx10 : ∀ h : 0 < a0.size, ((a0[0]'h).toNat : Int) = bt a0 0 := bt_at a0 0
            clear p10
            have qi10 : (0 < (a0.size : Int)) = True := eq_true (of_decide_eq_true (by first | (with_reducible assumption) | assumption))
            replace q10 := eq_true q10
            go_wp2
            go_ret
            exact ⟨by first | rfl | (simp; done) | (simp only [i64_w, show ∀ n : Int, IntKind.u8.wrap n = n % 256 from fun n => rfl, and_self]; done) | (simp [i64_w, show ∀ n : Int, IntKind.u8.wrap n = n % 256 from fun n => rfl]; done) | (simp [*]; done), by repeat (first | exact Drawn0.refl _ | apply Drawn0.step)⟩
          · rw [if_neg c9] at H
            exact absurd H (by simp)
end Go.Proofs.YtmkfjjfdbaaknaaDoor.Q
