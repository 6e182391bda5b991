/- A tree's text is its nodes' lines, one behind another, each under its node's parent. -/
import Derived.Test.YtofajjodonhdkaaDAKShow
namespace Go.Proofs.Ytofajjodonhdkaa.Q
open Go Go.RowKit Go.Shelf Go.Proofs.YtofajjodonhdkaaW.PrintWords Go.Proofs.YtofajjodonhdkaaW.PrintLast Go.Proofs.YtofajjodonhdkaaW.PrintMore
set_option linter.unusedVariables false
set_option linter.unusedSimpArgs false
/-- The nearest elder node that is less deep than d. -/
def parGo (t : List SN) (d : Int) : Nat → Nat
  | 0 => 0
  | k + 1 => if (nd t k).f1 < d then k else parGo t d k
def par (t : List SN) (i : Nat) : Nat := parGo t (nd t i).f1 i
theorem parGo_eq (t : List SN) (d : Int) (p : Nat) (hp : (nd t p).f1 < d) : ∀ n, p < n → (∀ j, p < j → j < n → ¬ (nd t j).f1 < d) → parGo t d n = p
  | 0, h, _ => by omega
  | n + 1, h, hj => by
    unfold parGo
    by_cases e : n = p
    · subst e
      rw [if_pos hp]
    · rw [if_neg (hj n (by omega) (by omega))]
      exact parGo_eq t d p hp n (by omega) (fun j h1 h2 => hj j h1 (by omega))
theorem parGo_spec (t : List SN) (d : Int) : ∀ n, (∃ j, j < n ∧ (nd t j).f1 < d) → parGo t d n < n ∧ (nd t (parGo t d n)).f1 < d ∧ ∀ j, parGo t d n < j → j < n → ¬ (nd t j).f1 < d
  | 0, h => by obtain ⟨j, h1, _⟩ := h; omega
  | n + 1, h => by
    unfold parGo
    by_cases e : (nd t n).f1 < d
    · rw [if_pos e]
      exact ⟨by omega, e, fun j h1 h2 => by omega⟩
    · rw [if_neg e]
      obtain ⟨j, h1, h2⟩ := h
      have hne : j ≠ n := fun e2 => e (e2 ▸ h2)
      obtain ⟨h3, h4, h5⟩ := parGo_spec t d n ⟨j, by omega, h2⟩
      refine ⟨by omega, h4, fun i h6 h7 => ?_⟩
      by_cases e2 : i = n
      · subst e2; exact e
      · exact h5 i h6 (by omega)
theorem partsFrom_skip (t : List SN) (d : Int) : ∀ k n, partsFrom t d k n = partsFrom t d (n + k - endFrom t (d + 1) k n) (endFrom t (d + 1) k n)
  | 0, n => by simp [endFrom]
  | k + 1, n => by
    unfold endFrom
    split
    case isTrue h =>
      have ih := partsFrom_skip t d k (n + 1)
      have hl := endFrom_le t (d + 1) k (n + 1)
      rw [show n + (k + 1) - endFrom t (d + 1) k (n + 1) = n + 1 + k - endFrom t (d + 1) k (n + 1) by omega, ← ih, partsFrom, if_pos (by omega), if_neg (by omega)]
      rfl
    case isFalse h => rw [show n + (k + 1) - n = k + 1 by omega]
theorem endFrom_stop (t : List SN) (d : Int) : ∀ k n, endFrom t d k n = n + k ∨ (nd t (endFrom t d k n)).f1 ≤ d
  | 0, n => .inl rfl
  | k + 1, n => by
    unfold endFrom
    split
    case isTrue h =>
      rcases endFrom_stop t d k (n + 1) with h | h
      · exact .inl (by rw [h]; omega)
      · exact .inr h
    case isFalse h => exact .inr (by omega)
structure Valid (t : List SN) : Prop where
  n1 : 1 ≤ t.length
  d0 : (nd t 0).f1 = 0
  k0 : (nd t 0).f0 = 1
  key0 : (nd t 0).f2.toList = []
  txt0 : (nd t 0).f3.toList = []
  kind : ∀ i, 1 ≤ i → i < t.length → (nd t i).f0 = 1 ∨ (nd t i).f0 = 2 ∨ (nd t i).f0 = 3
  lo : ∀ i, 1 ≤ i → i < t.length → 1 ≤ (nd t i).f1
  step : ∀ i, 1 ≤ i → i < t.length → (nd t i).f1 ≤ (nd t (i - 1)).f1 ∨ ((nd t i).f1 = (nd t (i - 1)).f1 + 1 ∧ (nd t (i - 1)).f0 ≠ 3)
  txt : ∀ i, 1 ≤ i → i < t.length → (nd t i).f3.toList = [] ∨ (nd t i).f0 = 3
theorem is_valid {t : List SN} (h : isP t = true) : Valid t := by
  have hr := root_parts (show rootB t = true by unfold isP at h; rw [Bool.and_eq_true] at h; exact h.1)
  have hf := fun i h1 h2 => fits_parts (is_fits h i h1 h2)
  exact ⟨hr.1, hr.2.2.2.1, hr.2.2.1, hr.2.2.2.2.1, hr.2.2.2.2.2, fun i h1 h2 => (hf i h1 h2).1, fun i h1 h2 => (hf i h1 h2).2.1, fun i h1 h2 => (hf i h1 h2).2.2.2.1, fun i h1 h2 => (hf i h1 h2).2.2.2.2⟩
theorem par_spec {t : List SN} (V : Valid t) {i : Nat} (h1 : 1 ≤ i) (h2 : i < t.length) : par t i < i ∧ (nd t (par t i)).f1 < (nd t i).f1 ∧ ∀ j, par t i < j → j < i → ¬ (nd t j).f1 < (nd t i).f1 :=
  parGo_spec t _ i ⟨0, by omega, by have := V.lo i h1 h2; have := V.d0; omega⟩
theorem par_kind {t : List SN} (V : Valid t) {i : Nat} (h1 : 1 ≤ i) (h2 : i < t.length) : (nd t (par t i)).f0 = 1 ∨ (nd t (par t i)).f0 = 2 := by
  obtain ⟨s1, s2, s3⟩ := par_spec V h1 h2
  generalize par t i = p at s1 s2 s3
  have h3 : (nd t p).f1 < (nd t (p + 1)).f1 := by
    by_cases e : p + 1 = i
    · rw [e]; exact s2
    · have := s3 (p + 1) (by omega) (by omega); omega
  have h4 := V.step (p + 1) (by omega) (by omega)
  rw [Nat.add_sub_cancel] at h4
  by_cases e : p = 0
  · subst e; exact .inl V.k0
  · have := V.kind p (by omega) (by omega)
    omega
end Go.Proofs.Ytofajjodonhdkaa.Q
