/- What a variable's name is, as the program's package scalar tells it: the contracts of letter, made and VarName over this seat's translation. -/
import Derived.Test.YtdgllnaeookddaaDAQ0
import Derived.Lib.Hide
namespace Go.Proofs.Ytdgllnaeookddaa.Q
open Go.RowKit Go.Proofs.YtdgllnaeookddaaW.PrintWords
set_option linter.unusedVariables false
set_option linter.unusedSimpArgs false
theorem ret_bool {a b : Bool} (h : a = b) : Ending.returned (.bool a) = .returned (.bool b) := by rw [h]
def letterB (c : Int) : Bool := (decide (97 ≤ c) && decide (c ≤ 122)) || (decide (65 ≤ c) && decide (c ≤ 90)) || (decide (48 ≤ c) && decide (c ≤ 57)) || decide (c = 95)
theorem letter_any (c : Int) (w : World) :
    Calls Try.prog 67 #[.int .u8 c] w fun e w' => e = .returned (.bool (letterB c)) ∧ w = w' := by
  by_cases h1 : 97 ≤ c <;> by_cases h2 : c ≤ 122 <;> by_cases h3 : 65 ≤ c <;> by_cases h4 : c ≤ 90 <;> by_cases h5 : 48 ≤ c <;> by_cases h6 : c ≤ 57 <;> by_cases h7 : c = 95 <;> first | omega | skip
  all_goals
    go_enter Try.func67, Try.ntmps67
    go_wp2
    go_ret
    exact ⟨ret_bool (by rw [Bool.eq_iff_iff]; simp [letterB] <;> omega), rfl⟩
/-- All bytes from place i on are of a kind. -/
def allFrom (p : Int → Bool) (s : ByteArray) (i : Nat) : Bool := ((s.data.toList.drop i).map fun b => p (b.toNat : Int)).all id
theorem allFrom_end (p : Int → Bool) (s : ByteArray) (i : Nat) (h : s.size ≤ i) : allFrom p s i = true := by
  unfold allFrom
  rw [List.drop_eq_nil_of_le (by simpa using h)]
  rfl
theorem allFrom_step (p : Int → Bool) (s : ByteArray) (i : Nat) (h : i < s.size) : allFrom p s i = (p (s[i].toNat : Int) && allFrom p s (i + 1)) := by
  unfold allFrom
  rw [List.drop_eq_getElem_cons (by simpa using h)]
  rfl
def madeB (p : Int → Bool) (s : ByteArray) : Bool := decide (1 ≤ s.size) && decide (s.size ≤ 64) && allFrom p s 0
theorem empty_iff (s : ByteArray) : s.toList = [] ↔ s.size = 0 := by
  rw [← List.length_eq_zero_iff, ByteArray.toList_eq, data_length]
theorem made_letter (s : ByteArray) (w : World) :
    Calls Try.prog 66 #[.string s, .func (.func 67) #[] #[]] w fun e w' => e = .returned (.bool (madeB letterB s)) ∧ w = w' := by
  by_cases h0 : s.toList = []
  · have h0' := (empty_iff s).1 h0
    go_enter Try.func66, Try.ntmps66
    go_wp2
    go_ret
    exact ⟨ret_bool (by simp [madeB, h0']), rfl⟩
  have hz : 1 ≤ s.size := by have := mt (empty_iff s).2 h0; omega
  by_cases h1 : s.size ≤ 64
  · have h0' : s.toList.isEmpty = false := by simpa using h0
    have h1' : ¬ (64 < (s.size : Int)) := by omega
    have hmade : Hid (madeB letterB s = allFrom letterB s 0) := Lib.hid (by simp [madeB, h1, hz])
    clear h0
    go_enter Try.func66, Try.ntmps66
    go_wp2
    go_loop [5] (fun i => ∃ k : Nat, k ≤ s.size ∧ i = .int .i64 k ∧ Hid (allFrom letterB s 0 = allFrom letterB s k)) (fun i => s.size - (intOf i).toNat)
    case atStart => exact ⟨0, Nat.zero_le _, rfl, Lib.hid rfl⟩
    case round =>
      obtain ⟨k, hk, rfl, hH⟩ := hrel
      by_cases hlt : k < s.size
      · have hst := Lib.hid (allFrom_step letterB s k hlt)
        by_cases hp : letterB (s[k].toNat : Int) = true
        · go_wp2_with (go_at_call 67; refine (letter_any _ _).mono ?_; rintro e w' ⟨rfl, rfl⟩)
          go_round
          case rel => exact ⟨k + 1, by omega, by go_num, Lib.hid (by rw [hH.out, hst.out, hp]; rfl)⟩
          case measure => simp [intOf]; omega
        · have hp' : letterB (s[k].toNat : Int) = false := by simpa using hp
          go_wp2_with (go_at_call 67; refine (letter_any _ _).mono ?_; rintro e w' ⟨rfl, rfl⟩)
          go_ret
          exact ⟨ret_bool (by rw [hmade.out, hH.out, hst.out, hp']; rfl), rfl⟩
      · go_wp2
        go_ret
        exact ⟨ret_bool (by rw [hmade.out, hH.out, allFrom_end _ _ _ (by omega)]), rfl⟩
  · have h1' : 64 < (s.size : Int) := by omega
    go_enter Try.func66, Try.ntmps66
    go_wp2
    go_ret
    exact ⟨ret_bool (by simp [madeB, h1]), rfl⟩
def varNameB (s : ByteArray) : Bool := madeB letterB s && !(decide (48 ≤ bt s 0) && decide (bt s 0 ≤ 57))
theorem varName_any (s : ByteArray) (w : World) :
    Calls Try.prog 57 #[.string s] w fun e w' => e = .returned (.bool (varNameB s)) ∧ w = w' := by
  by_cases hm : madeB letterB s = true
  · have hz : 0 < s.size := by
      have := hm
      simp only [madeB, Bool.and_eq_true, decide_eq_true_eq] at this
      omega
    have hz' : (0 : Int) < (s.size : Int) := by omega
    have hb : bt s 0 = (s[0].toNat : Int) := (bt_at s 0 hz).symm
    have hv : Hid (varNameB s = !(decide (48 ≤ (s[0].toNat : Int)) && decide ((s[0].toNat : Int) ≤ 57))) := Lib.hid (by unfold varNameB; rw [hm, hb]; rfl)
    clear hb
    by_cases h1 : (s[0].toNat : Int) < 48 <;> by_cases h2 : 57 < (s[0].toNat : Int) <;> first | omega | skip
    all_goals
      go_enter Try.func57, Try.ntmps57
      go_wp2_with (go_at_call 66; refine (made_letter _ _).mono ?_; rintro e w' ⟨rfl, rfl⟩)
      go_ret
      exact ⟨ret_bool (by rw [hv.out, Bool.eq_iff_iff]; simp <;> omega), rfl⟩
  · have hm' : madeB letterB s = false := by simpa using hm
    go_enter Try.func57, Try.ntmps57
    go_wp2_with (go_at_call 66; refine (made_letter _ _).mono ?_; rintro e w' ⟨rfl, rfl⟩)
    go_ret
    exact ⟨ret_bool (by simp [varNameB, hm']), rfl⟩
end Go.Proofs.Ytdgllnaeookddaa.Q
