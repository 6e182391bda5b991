/- May a node stand behind another one: fits (the program's) and form (the document's). -/
import Derived.Test.YtofajjodonhdkaaEAQ0
import Derived.Lib.Hide
namespace Go.Proofs.Ytofajjodonhdkaa.Q
open Go Go.RowKit Go.Proofs.YtofajjodonhdkaaW.PrintWords
set_option linter.unusedVariables false
set_option linter.unusedSimpArgs false
theorem ret_boolK {a b : Bool} (h : a = b) : Ending.returned (.bool a) = .returned (.bool b) := by rw [h]
def fitsB (n a : S31) : Bool :=
  (decide (n.f0 = 1) || decide (n.f0 = 2) || decide (n.f0 = 3)) && (decide (1 ≤ n.f1) && (decide (n.f1 ≤ 32) && ((decide (n.f1 ≤ a.f1) || (decide (n.f1 = a.f1 + 1) && !decide (a.f0 = 3))) && (n.f3.toList.isEmpty || decide (n.f0 = 3)))))
theorem fitsM (k d : Int) (s : ByteArray) (k2 d2 : Int) (x y : ByteArray) (l c v : Int) (x2 s2 y2 : ByteArray) (l2 c2 v2 : Int) (h1 : 1 ≤ d) (h2 : d ≤ 32) (hk : k = 1 ∨ k = 2 ∨ k = 3) :
    fitsB ⟨k, d, x, s, y, l, c, v⟩ ⟨k2, d2, x2, s2, y2, l2, c2, v2⟩ = ((decide (d ≤ d2) || (decide (d = d2 + 1) && !decide (k2 = 3))) && (s.toList.isEmpty || decide (k = 3))) := by
  simp only [fitsB]
  rw [show (decide (k = 1) || decide (k = 2) || decide (k = 3)) = true by simp; omega, decide_eq_true h1, decide_eq_true h2]
  rfl
set_option maxRecDepth 100000 in
set_option maxHeartbeats 4000000 in
theorem fits_any (k d k2 d2 : Int) (x y s s2 x2 y2 : ByteArray) (l c v l2 c2 v2 : Int) (w : World) (h0 : 0 ≤ d2) (h1 : d2 ≤ 32) :
    Calls Try.prog 24 #[.agg #[.int .i64 k, .int .i64 d, .string x, .string s, .string y, .int .i64 l, .int .i64 c, .int .i64 v], .agg #[.int .i64 k2, .int .i64 d2, .string x2, .string s2, .string y2, .int .i64 l2, .int .i64 c2, .int .i64 v2]] w
      fun e w' => e = .returned (.bool (fitsB ⟨k, d, x, s, y, l, c, v⟩ ⟨k2, d2, x2, s2, y2, l2, c2, v2⟩)) ∧ Below w.heap.size w w' := by
  have hm1 := fitsM k d s k2 d2 x y l c v x2 s2 y2 l2 c2 v2
  by_cases hd1 : 1 ≤ d
  case neg =>
    have e : fitsB ⟨k, d, x, s, y, l, c, v⟩ ⟨k2, d2, x2, s2, y2, l2, c2, v2⟩ = false := by simp [fitsB, hd1]
    rw [e]
    have hd1' : d < 1 := by omega
    clear e hd1 hm1
    go_enter Try.func24, Try.ntmps24
    go_wp2
    all_goals
      go_ret
      exact ⟨by first | rfl | (congr 1; simp_all), below_alloc (below_alloc (Below.refl _ _) _) _⟩
  by_cases hd2 : d ≤ 32
  case neg =>
    have e : fitsB ⟨k, d, x, s, y, l, c, v⟩ ⟨k2, d2, x2, s2, y2, l2, c2, v2⟩ = false := by simp [fitsB, hd2]
    rw [e]
    have hd2' : 32 < d := by omega
    clear e hd2 hm1
    go_enter Try.func24, Try.ntmps24
    go_wp2
    all_goals
      go_ret
      exact ⟨by first | rfl | (congr 1; simp_all), below_alloc (below_alloc (Below.refl _ _) _) _⟩
  clear hm1
  by_cases hk : k = 1 ∨ k = 2 ∨ k = 3
  case neg =>
    have e : fitsB ⟨k, d, x, s, y, l, c, v⟩ ⟨k2, d2, x2, s2, y2, l2, c2, v2⟩ = false := by simp only [fitsB]; rw [show (decide (k = 1) || decide (k = 2) || decide (k = 3)) = false by simp; omega]; rfl
    rw [e]
    have hk1 : ¬ k = 1 := by omega
    have hk2 : ¬ k = 2 := by omega
    have hk3 : ¬ k = 3 := by omega
    clear e hk
    go_enter Try.func24, Try.ntmps24
    go_wp2
    all_goals
      go_ret
      exact ⟨by first | rfl | (congr 1; simp_all), below_alloc (below_alloc (Below.refl _ _) _) _⟩
  have HD1 := Aside0.mk hd1
  have HD2 := Aside0.mk hd2
  have HK := Aside0.mk hk
  clear hk
  rcases HK.out with rfl | rfl | rfl
  all_goals
    go_enter Try.func24, Try.ntmps24
    go_wp2
    all_goals
      go_ret
      exact ⟨ret_boolK (by rw [fitsM _ _ _ _ _ _ _ _ _ _ _ _ _ _ _ _ (by first | exact HD1.out | (have := HD1.out; omega)) (by first | exact HD2.out | (have := HD2.out; omega)) (by decide), Bool.eq_iff_iff]; simp_all <;> omega), below_alloc (below_alloc (Below.refl _ _) _) _⟩
def formB (n a : S31) (p : Int) : Bool :=
  (decide (1 ≤ n.f0) && (decide (n.f0 ≤ 3) && (decide (n.f0 = 3) || n.f3.toList.isEmpty))) && ((decide (1 ≤ n.f1) && (decide (n.f1 ≤ 32) && (decide (n.f1 ≤ a.f1 + 1) && !(decide (n.f1 = a.f1 + 1) && decide (a.f0 = 3))))) &&
    ((decide (p = 1) && decide ((n.f2.size : Int) ≤ 64)) || (decide (p = 2) && n.f2.toList.isEmpty)))
theorem formM (k d : Int) (s : ByteArray) (k2 d2 : Int) (x y : ByteArray) (l c v : Int) (x2 s2 y2 : ByteArray) (l2 c2 v2 p : Int) (h1 : 1 ≤ d) (h2 : d ≤ 32) (hk : k = 1 ∨ k = 2 ∨ k = 3) :
    formB ⟨k, d, x, s, y, l, c, v⟩ ⟨k2, d2, x2, s2, y2, l2, c2, v2⟩ p = ((decide (k = 3) || s.toList.isEmpty) && ((decide (d ≤ d2 + 1) && !(decide (d = d2 + 1) && decide (k2 = 3))) && ((decide (p = 1) && decide ((x.size : Int) ≤ 64)) || (decide (p = 2) && x.toList.isEmpty)))) := by
  simp only [formB]
  rw [decide_eq_true (show 1 ≤ k by omega), decide_eq_true (show k ≤ 3 by omega), decide_eq_true h1, decide_eq_true h2]
  rfl
set_option maxRecDepth 100000 in
set_option maxHeartbeats 4000000 in
theorem form_any (k d k2 d2 p : Int) (x y s s2 x2 y2 : ByteArray) (l c v l2 c2 v2 : Int) (w : World) (h0 : 0 ≤ d2) (h1 : d2 ≤ 32) (hd1 : 1 ≤ d) (hd2 : d ≤ 32) :
    Calls Try.prog 25 #[.agg #[.int .i64 k, .int .i64 d, .string x, .string s, .string y, .int .i64 l, .int .i64 c, .int .i64 v], .agg #[.int .i64 k2, .int .i64 d2, .string x2, .string s2, .string y2, .int .i64 l2, .int .i64 c2, .int .i64 v2], .int .i64 p] w
      fun e w' => e = .returned (.bool (formB ⟨k, d, x, s, y, l, c, v⟩ ⟨k2, d2, x2, s2, y2, l2, c2, v2⟩ p)) ∧ Below w.heap.size w w' := by
  by_cases hk : k = 1 ∨ k = 2 ∨ k = 3
  case neg =>
    have e : formB ⟨k, d, x, s, y, l, c, v⟩ ⟨k2, d2, x2, s2, y2, l2, c2, v2⟩ p = false := by 
      simp only [formB]
      rcases Int.lt_or_le k 1 with h | h
      · rw [decide_eq_false (show ¬ 1 ≤ k by omega)]; rfl
      · rw [decide_eq_false (show ¬ k ≤ 3 by omega), Bool.false_and, Bool.and_false]; rfl
    rw [e]
    clear e
    rcases Int.lt_or_le k 1 with hk1 | hk1
    · clear hk
      go_enter Try.func25, Try.ntmps25
      go_wp2
      go_ret
      exact ⟨rfl, below_alloc (below_alloc (Below.refl _ _) _) _⟩
    · have hk3 : 3 < k := by omega
      clear hk
      go_enter Try.func25, Try.ntmps25
      go_wp2
      go_ret
      exact ⟨rfl, below_alloc (below_alloc (Below.refl _ _) _) _⟩
  have HD1 := Aside0.mk hd1
  have HD2 := Aside0.mk hd2
  rcases hk with rfl | rfl | rfl
  all_goals
    go_enter Try.func25, Try.ntmps25
    go_wp2
    all_goals
      go_ret
      exact ⟨ret_boolK (by rw [formM _ _ _ _ _ _ _ _ _ _ _ _ _ _ _ _ _ (by first | exact HD1.out | (have := HD1.out; omega)) (by first | exact HD2.out | (have := HD2.out; omega)) (by decide), Bool.eq_iff_iff]; simp_all <;> omega), below_alloc (below_alloc (Below.refl _ _) _) _⟩
end Go.Proofs.Ytofajjodonhdkaa.Q
