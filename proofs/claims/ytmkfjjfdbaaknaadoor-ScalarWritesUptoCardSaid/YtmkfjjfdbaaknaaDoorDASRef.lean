/- The document's reading of a line's text comes to what the program's Read comes to: over lists of bytes. -/
import Derived.Test.YtmkfjjfdbaaknaaDoorDASRun
import Derived.Test.YtmkfjjfdbaaknaaDoorDAQ6
namespace Go.Proofs.YtmkfjjfdbaaknaaDoor.Q
open Go Go.RowKit Go.Proofs.YtmkfjjfdbaaknaaDoorW.PrintWords Go.Proofs.YtmkfjjfdbaaknaaDoorW.PrintLast Go.Proofs.YtmkfjjfdbaaknaaDoorW.PrintMore
set_option linter.unusedVariables false
set_option linter.unusedSimpArgs false
theorem wordByte_f (c : Int) : shuttleref2_wordByte.f c = some (letterB c) := by
  unfold shuttleref2_wordByte.f letterB
  by_cases h1 : 97 ≤ c <;> by_cases h2 : c ≤ 122 <;> by_cases h3 : 65 ≤ c <;> by_cases h4 : c ≤ 90 <;> by_cases h5 : 48 ≤ c <;> by_cases h6 : c ≤ 57 <;> by_cases h7 : c = 95 <;> first | omega | simp [h1, h2, h3, h4, h5, h6, h7]
theorem nameByte_f (c : Int) : shuttleref2_nameByte.f c = some (namedB c) := by
  unfold shuttleref2_nameByte.f namedB
  rw [wordByte_f]
  show (if letterB c = true then some true else if c = 46 then some true else some (c == 45)) = _
  cases letterB c
  · by_cases h : c = 46
    · simp [h]
    · by_cases h2 : c = 45
      · simp [h2]
      · simp [h, h2]
  · rfl
theorem allFrom_bt (p : Int → Bool) (s : ByteArray) (i : Nat) (h : i < s.size) : allFrom p s i = (p (bt s (i : Int)) && allFrom p s (i + 1)) := by
  rw [allFrom_step p s i h, ← bt_at s (i : Int) h]
  rfl
theorem refName_l0 (s : ByteArray) (hs : s.size ≤ 1073741824) : ∀ (d i : Nat), i + d = s.size → Ev (fun k => shuttleref2_Name.l0 k s (i : Int)) (allFrom namedB s i)
  | 0, i, h => by
    rw [allFrom_end _ _ _ (by omega)]
    exact Ev.step (fun k => by rw [shuttleref2_Name.l0, if_neg (by omega)]) (Ev.now _)
  | d + 1, i, h => by
    rw [allFrom_bt _ _ _ (by omega)]
    have hw := wrN i (by omega)
    cases hn : namedB (bt s (i : Int)) with
    | true =>
      refine Ev.step (f := fun k => shuttleref2_Name.l0 k s ((i + 1 : Nat) : Int)) (fun k => by
        rw [shuttleref2_Name.l0, if_pos (by omega), if_pos (by omega), nameByte_f, hn, hw]
        rfl) ?_
      exact refName_l0 s hs d (i + 1) (by omega)
    | false =>
      refine Ev.step (fun k => by
        rw [shuttleref2_Name.l0, if_pos (by omega), if_pos (by omega), nameByte_f, hn]
        rfl) (Ev.now _)
theorem refName_ev (s : ByteArray) (hs : s.size ≤ 1073741824) : Ev (fun k => shuttleref2_Name.f k s) (nameB s) := by
  unfold nameB madeB
  by_cases h1 : (s.size : Int) < 1
  · refine Ev.congr (f := fun k => shuttleref2_Name.j0 k s true) (fun k => by rw [shuttleref2_Name.f, if_pos h1]) ?_
    rw [decide_eq_false (show ¬ 1 ≤ s.size by omega)]
    exact Ev.step (fun k => by rw [shuttleref2_Name.j0, if_pos rfl]; simp) (Ev.now _)
  · by_cases h2 : (s.size : Int) > 64
    · refine Ev.congr (f := fun k => shuttleref2_Name.j0 k s true) (fun k => by rw [shuttleref2_Name.f, if_neg h1, if_pos h2]) ?_
      rw [decide_eq_false (show ¬ s.size ≤ 64 by omega)]
      exact Ev.step (fun k => by rw [shuttleref2_Name.j0, if_pos rfl]; simp) (Ev.now _)
    · rw [decide_eq_true (show 1 ≤ s.size by omega), decide_eq_true (show s.size ≤ 64 by omega)]
      refine Ev.congr (f := fun k => shuttleref2_Name.j0 k s (bt s 0 == 45)) (fun k => by rw [shuttleref2_Name.f, if_neg h1, if_neg h2, if_pos (by omega)]) ?_
      by_cases h3 : bt s 0 = 45
      · refine Ev.step (fun k => by rw [shuttleref2_Name.j0, if_pos (by simp [h3])]) ?_
        rw [h3]
        simp
        exact Ev.now _
      · refine Ev.step (f := fun k => shuttleref2_Name.l0 k s ((0 : Nat) : Int)) (fun k => by rw [shuttleref2_Name.j0, if_neg (by simp [h3])]; rfl) ?_
        rw [decide_eq_false h3]
        simp
        exact refName_l0 s hs s.size 0 (Nat.zero_add _)
end Go.Proofs.YtmkfjjfdbaaknaaDoor.Q
