/- A tree's text is its nodes' lines, one behind another, each under its node's parent. -/
import Derived.Test.YtofajjodonhdkaaEAKShow
namespace Go.Proofs.Ytofajjodonhdkaa.Q
open Go Go.RowKit Go.Shelf Go.Proofs.YtofajjodonhdkaaW.PrintWords Go.Proofs.YtofajjodonhdkaaW.PrintLast Go.Proofs.YtofajjodonhdkaaW.PrintMore
set_option linter.unusedVariables false
set_option linter.unusedSimpArgs false
/-- The nearest elder node that is less deep than d. -/
def parGo (t : List SN) (d : Int) : Nat → Nat
  | 0 => 0
  | k + 1 => if (nd t k).f1 < d then k else parGo t d k
def par (t : List SN) (i : Nat) : Nat := parGo t (nd t i).f1 i
theorem parGo_eq (t : List SN) (d : Int) (p : Nat) (hp : (nd t p).f1 < d) : ∀ n, p < n → (∀ j, p < j → j < n → ¬ (nd t j).f1 < d) → parGo t d n = p
  | 0, h, _ => by omega
  | n + 1, h, hj => by
    unfold parGo
    by_cases e : n = p
    · subst e
      rw [if_pos hp]
    · rw [if_neg (hj n (by omega) (by omega))]
      exact parGo_eq t d p hp n (by omega) (fun j h1 h2 => hj j h1 (by omega))
theorem parGo_spec (t : List SN) (d : Int) : ∀ n, (∃ j, j < n ∧ (nd t j).f1 < d) → parGo t d n < n ∧ (nd t (parGo t d n)).f1 < d ∧ ∀ j, parGo t d n < j → j < n → ¬ (nd t j).f1 < d
  | 0, h => by obtain ⟨j, h1, _⟩ := h; omega
  | n + 1, h => by
    unfold parGo
    by_cases e : (nd t n).f1 < d
    · rw [if_pos e]
      exact ⟨by omega, e, fun j h1 h2 => by omega⟩
    · rw [if_neg e]
      obtain ⟨j, h1, h2⟩ := h
      have hne : j ≠ n := fun e2 => e (e2 ▸ h2)
      obtain ⟨h3, h4, h5⟩ := parGo_spec t d n ⟨j, by omega, h2⟩
      refine ⟨by omega, h4, fun i h6 h7 => ?_⟩
      by_cases e2 : i = n
      · subst e2; exact e
      · exact h5 i h6 (by omega)
def wrU (t : List SN) : Nat → Nat → List UInt8
  | 0, _ => []
  | k + 1, p => (partsOf t p).flatMap fun x => lineU t p x ++ wrU t k x
theorem rnd_len {f : Nat → OL → OL} {t : List SN} (p : Nat) (hf : ∀ x s, s.1.length ≤ (f x s).1.length) (s : OL) (x : Nat) : s.1.length ≤ (rnd f t p s x).1.length := by
  unfold rnd
  split
  · exact Nat.le_refl _
  · have := hf x (s.1 ++ lineU t p x, s.2 + 1)
    simp only [List.length_append] at this
    omega
theorem fold_len {f : Nat → OL → OL} {t : List SN} (p : Nat) (hf : ∀ x s, s.1.length ≤ (f x s).1.length) : ∀ (l : List Nat) (s : OL), s.1.length ≤ (l.foldl (rnd f t p) s).1.length
  | [], s => Nat.le_refl _
  | x :: l, s => Nat.le_trans (rnd_len p hf s x) (fold_len p hf l _)
theorem wr_len (t : List SN) : ∀ k p s, s.1.length ≤ (wr t k p s).1.length
  | 0, p, s => Nat.le_refl _
  | k + 1, p, s => fold_len p (wr_len t k) (partsOf t p) s
theorem fold_flat {f : Nat → OL → OL} {g : Nat → List UInt8} {t : List SN} (p : Nat) (hf : ∀ x s, s.1.length ≤ (f x s).1.length) (hg : ∀ x s, (f x s).1.length ≤ 65536 → (f x s).1 = s.1 ++ g x) :
    ∀ (l : List Nat) (s : OL), (l.foldl (rnd f t p) s).1.length ≤ 65536 → (l.foldl (rnd f t p) s).1 = s.1 ++ l.flatMap fun x => lineU t p x ++ g x
  | [], s, _ => by simp
  | x :: l, s, h => by
    rw [List.foldl_cons] at h ⊢
    have h1 := fold_len (t := t) p hf l (rnd f t p s x)
    have h2 := rnd_len (t := t) p hf s x
    rw [fold_flat p hf hg l _ h]
    have e : (rnd f t p s x).1 = s.1 ++ (lineU t p x ++ g x) := by
      have h3 : (rnd f t p s x).1.length ≤ 65536 := by omega
      unfold rnd at h3 ⊢
      rw [if_neg (show ¬ 65536 < s.1.length by omega)] at h3 ⊢
      rw [hg x _ h3, List.append_assoc]
    rw [e, List.flatMap_cons, List.append_assoc]
theorem wr_flat (t : List SN) : ∀ k p s, (wr t k p s).1.length ≤ 65536 → (wr t k p s).1 = s.1 ++ wrU t k p
  | 0, p, s, _ => by simp [wr, wrU]
  | k + 1, p, s, h => fold_flat p (wr_len t k) (wr_flat t k) (partsOf t p) s h
def flatF (t : List SN) : Nat → Nat → List UInt8
  | 0, _ => []
  | k + 1, n => lineU t (par t n) n ++ flatF t k (n + 1)
theorem flatF_app (t : List SN) : ∀ a b n, flatF t (a + b) n = flatF t a n ++ flatF t b (n + a)
  | 0, b, n => by simp [flatF]
  | a + 1, b, n => by
    rw [show a + 1 + b = (a + b) + 1 by omega, flatF, flatF, flatF_app t a b (n + 1), List.append_assoc, show n + 1 + a = n + (a + 1) by omega]
theorem partsFrom_skip (t : List SN) (d : Int) : ∀ k n, partsFrom t d k n = partsFrom t d (n + k - endFrom t (d + 1) k n) (endFrom t (d + 1) k n)
  | 0, n => by simp [endFrom]
  | k + 1, n => by
    unfold endFrom
    split
    case isTrue h =>
      have ih := partsFrom_skip t d k (n + 1)
      have hl := endFrom_le t (d + 1) k (n + 1)
      rw [show n + (k + 1) - endFrom t (d + 1) k (n + 1) = n + 1 + k - endFrom t (d + 1) k (n + 1) by omega, ← ih, partsFrom, if_pos (by omega), if_neg (by omega)]
      rfl
    case isFalse h => rw [show n + (k + 1) - n = k + 1 by omega]
theorem endFrom_skip (t : List SN) (d : Int) : ∀ k n, endFrom t d k n = endFrom t d (n + k - endFrom t (d + 1) k n) (endFrom t (d + 1) k n)
  | 0, n => by simp [endFrom]
  | k + 1, n => by
    have hl := endFrom_le t (d + 1) k (n + 1)
    by_cases h : d + 1 < (nd t n).f1
    · have e : endFrom t (d + 1) (k + 1) n = endFrom t (d + 1) k (n + 1) := by rw [endFrom, if_pos h]
      rw [e, show n + (k + 1) - endFrom t (d + 1) k (n + 1) = n + 1 + k - endFrom t (d + 1) k (n + 1) by omega, ← endFrom_skip t d k (n + 1), endFrom, if_pos (by omega)]
    · have e : endFrom t (d + 1) (k + 1) n = n := by rw [endFrom, if_neg h]
      rw [e, show n + (k + 1) - n = k + 1 by omega]
theorem endFrom_in (t : List SN) (d : Int) : ∀ k n j, n ≤ j → j < endFrom t d k n → d < (nd t j).f1
  | 0, n, j, h1, h2 => by simp [endFrom] at h2; omega
  | k + 1, n, j, h1, h2 => by
    unfold endFrom at h2
    split at h2
    case isTrue h =>
      by_cases e : j = n
      · subst e; exact h
      · exact endFrom_in t d k (n + 1) j (by omega) h2
    case isFalse h => omega
theorem endFrom_stop (t : List SN) (d : Int) : ∀ k n, endFrom t d k n = n + k ∨ (nd t (endFrom t d k n)).f1 ≤ d
  | 0, n => .inl rfl
  | k + 1, n => by
    unfold endFrom
    split
    case isTrue h =>
      rcases endFrom_stop t d k (n + 1) with h | h
      · exact .inl (by rw [h]; omega)
      · exact .inr h
    case isFalse h => exact .inr (by omega)
theorem endFrom_all (t : List SN) (d : Int) : ∀ k n, (∀ j, n ≤ j → j < n + k → d < (nd t j).f1) → endFrom t d k n = n + k
  | 0, n, _ => rfl
  | k + 1, n, h => by
    unfold endFrom
    rw [if_pos (h n (Nat.le_refl _) (by omega)), endFrom_all t d k (n + 1) (fun j h1 h2 => h j (by omega) (by omega))]
    omega
theorem parts_flat (t : List SN) (V : ∀ i, 1 ≤ i → i < t.length → (nd t i).f1 ≤ (nd t (i - 1)).f1 + 1) : ∀ (m fuel p n : Nat), t.length - n ≤ m → t.length - n ≤ fuel → p < n → n ≤ t.length → (∀ j, p < j → j < n → (nd t p).f1 < (nd t j).f1) → (n = t.length ∨ (nd t n).f1 ≤ (nd t p).f1 + 1) →
    (partsFrom t (nd t p).f1 (t.length - n) n).flatMap (fun x => lineU t p x ++ wrU t fuel x) = flatF t (endFrom t (nd t p).f1 (t.length - n) n - n) n
  | 0, fuel, p, n, hm, hf, h1, h2, h3, h4 => by
    have e : t.length - n = 0 := by omega
    rw [e]
    simp [partsFrom, endFrom, flatF]
  | m + 1, fuel, p, n, hm, hf, h1, h2, h3, h4 => by
    by_cases hn : n = t.length
    · have e : t.length - n = 0 := by omega
      rw [e]
      simp [partsFrom, endFrom, flatF]
    · have h5 : (nd t n).f1 ≤ (nd t p).f1 + 1 := by rcases h4 with h4 | h4; exact absurd h4 hn; exact h4
      have ek : t.length - n = (t.length - (n + 1)) + 1 := by omega
      by_cases hd : (nd t p).f1 < (nd t n).f1
      · have hdn : (nd t n).f1 = (nd t p).f1 + 1 := by omega
        obtain ⟨f, rfl⟩ : ∃ f, fuel = f + 1 := ⟨fuel - 1, by omega⟩
        have hpar : par t n = p := parGo_eq t _ p hd n h1 (fun j h6 h7 => by have := h3 j h6 h7; omega)
        have hle := endFrom_le t (nd t n).f1 (t.length - (n + 1)) (n + 1)
        have ih1 := parts_flat t V m f n (n + 1) (by omega) (by omega) (by omega) (by omega) (fun j h6 h7 => by omega) (by
          by_cases e : n + 1 = t.length
          · exact .inl e
          · exact .inr (V (n + 1) (by omega) (by omega)))
        have hskip := partsFrom_skip t (nd t p).f1 (t.length - (n + 1)) (n + 1)
        have hesk := endFrom_skip t (nd t p).f1 (t.length - (n + 1)) (n + 1)
        rw [← hdn] at hskip hesk
        have hin := endFrom_in t (nd t n).f1 (t.length - (n + 1)) (n + 1)
        have hst := endFrom_stop t (nd t n).f1 (t.length - (n + 1)) (n + 1)
        generalize endFrom t (nd t n).f1 (t.length - (n + 1)) (n + 1) = e at hle ih1 hskip hesk hin hst
        rw [show n + 1 + (t.length - (n + 1)) - e = t.length - e by omega] at hskip hesk
        have ih2 := parts_flat t V m (f + 1) p e (by omega) (by omega) (by omega) (by omega) (fun j h6 h7 => by
          by_cases h8 : j < n
          · exact h3 j h6 h8
          · by_cases h9 : j = n
            · subst h9; exact hd
            · have := hin j (by omega) h7; omega) (by rcases hst with h | h; exact .inl (by omega); exact .inr (by omega))
        have hle2 := endFrom_le t (nd t p).f1 (t.length - e) e
        rw [ek, partsFrom, if_pos hd, if_pos hdn, List.flatMap_append, hskip, ih2, endFrom, if_pos hd, hesk]
        generalize endFrom t (nd t p).f1 (t.length - e) e = E at hle2 ⊢
        rw [show E - n = 1 + ((e - (n + 1)) + (E - e)) by omega, flatF_app, flatF_app, show n + 1 + (e - (n + 1)) = e by omega]
        simp only [List.flatMap_cons, List.flatMap_nil, List.append_nil, flatF, hpar, List.append_assoc]
        rw [← ih1]
        rfl
      · rw [ek, partsFrom, if_neg hd, endFrom, if_neg hd]
        simp [flatF]
structure Valid (t : List SN) : Prop where
  n1 : 1 ≤ t.length
  d0 : (nd t 0).f1 = 0
  k0 : (nd t 0).f0 = 1
  key0 : (nd t 0).f2.toList = []
  txt0 : (nd t 0).f3.toList = []
  kind : ∀ i, 1 ≤ i → i < t.length → (nd t i).f0 = 1 ∨ (nd t i).f0 = 2 ∨ (nd t i).f0 = 3
  lo : ∀ i, 1 ≤ i → i < t.length → 1 ≤ (nd t i).f1
  step : ∀ i, 1 ≤ i → i < t.length → (nd t i).f1 ≤ (nd t (i - 1)).f1 ∨ ((nd t i).f1 = (nd t (i - 1)).f1 + 1 ∧ (nd t (i - 1)).f0 ≠ 3)
  txt : ∀ i, 1 ≤ i → i < t.length → (nd t i).f3.toList = [] ∨ (nd t i).f0 = 3
theorem is_valid {t : List SN} (h : isP t = true) : Valid t := by
  have hr := root_parts (show rootB t = true by unfold isP at h; rw [Bool.and_eq_true] at h; exact h.1)
  have hf := fun i h1 h2 => fits_parts (is_fits h i h1 h2)
  exact ⟨hr.1, hr.2.2.2.1, hr.2.2.1, hr.2.2.2.2.1, hr.2.2.2.2.2, fun i h1 h2 => (hf i h1 h2).1, fun i h1 h2 => (hf i h1 h2).2.1, fun i h1 h2 => (hf i h1 h2).2.2.2.1, fun i h1 h2 => (hf i h1 h2).2.2.2.2⟩
theorem wr_text {t : List SN} (V : Valid t) (h : (wr t t.length 0 ([], 0)).1.length ≤ 65536) : (wr t t.length 0 ([], 0)).1 = flatF t (t.length - 1) 1 := by
  have hn := V.n1
  rw [wr_flat t _ _ _ h, List.nil_append]
  obtain ⟨f, hf⟩ : ∃ f, t.length = f + 1 := ⟨t.length - 1, by omega⟩
  have e := parts_flat t (fun i h1 h2 => by have := V.step i h1 h2; omega) t.length f 0 1 (by omega) (by omega) (by omega) hn (fun j h1 h2 => by omega) (by
    by_cases e : 1 = t.length
    · exact .inl e
    · exact .inr (by have := V.step 1 (by omega) (by omega); simp only [Nat.sub_self] at this; omega))
  have ee : endFrom t (nd t 0).f1 (t.length - 1) 1 = t.length := by
    rw [endFrom_all t _ _ _ (fun j h1 h2 => by have := V.lo j h1 (by omega); have := V.d0; omega)]
    omega
  rw [ee] at e
  rw [← e]
  conv => lhs; rw [hf]
  rfl
theorem par_spec {t : List SN} (V : Valid t) {i : Nat} (h1 : 1 ≤ i) (h2 : i < t.length) : par t i < i ∧ (nd t (par t i)).f1 < (nd t i).f1 ∧ ∀ j, par t i < j → j < i → ¬ (nd t j).f1 < (nd t i).f1 :=
  parGo_spec t _ i ⟨0, by omega, by have := V.lo i h1 h2; have := V.d0; omega⟩
theorem par_kind {t : List SN} (V : Valid t) {i : Nat} (h1 : 1 ≤ i) (h2 : i < t.length) : (nd t (par t i)).f0 = 1 ∨ (nd t (par t i)).f0 = 2 := by
  obtain ⟨s1, s2, s3⟩ := par_spec V h1 h2
  generalize par t i = p at s1 s2 s3
  have h3 : (nd t p).f1 < (nd t (p + 1)).f1 := by
    by_cases e : p + 1 = i
    · rw [e]; exact s2
    · have := s3 (p + 1) (by omega) (by omega); omega
  have h4 := V.step (p + 1) (by omega) (by omega)
  rw [Nat.add_sub_cancel] at h4
  by_cases e : p = 0
  · subst e; exact .inl V.k0
  · have := V.kind p (by omega) (by omega)
    omega
end Go.Proofs.Ytofajjodonhdkaa.Q
