/- What the document writes a tree as, line by line, is what the program writes. -/
import Derived.Test.YtofajjodonhdkaaEAKRefP
namespace Go.Proofs.Ytofajjodonhdkaa.Q
open Go Go.RowKit Go.Shelf Go.Proofs.YtofajjodonhdkaaW.PrintWords Go.Proofs.YtofajjodonhdkaaW.PrintLast Go.Proofs.YtofajjodonhdkaaW.PrintMore
set_option linter.unusedVariables false
set_option linter.unusedSimpArgs false
def rs (t : List SN) : Nat → Nat → List UInt8 → ByteArray × Int
  | 0, _, out => (mkB out, 0)
  | k + 1, i, out => if 65536 < (out ++ lineU t (par t i) i).length ∨ 4096 < i then (⟨#[]⟩, 51) else rs t k (i + 1) (out ++ lineU t (par t i) i)
def refShowP (t : List SN) : ByteArray × Int := if refP t = false then (⟨#[]⟩, 50) else rs t (t.length - 1) 1 []
def cntU (t : List SN) : Nat → Nat → Nat
  | 0, _ => 0
  | k + 1, p => ((partsOf t p).map fun x => 1 + cntU t k x).sum
theorem fold_cnt {f : Nat → OL → OL} {g : Nat → Nat} {t : List SN} (p : Nat) (hf : ∀ x s, s.1.length ≤ (f x s).1.length) (hg : ∀ x s, (f x s).1.length ≤ 65536 → (f x s).2 = s.2 + g x) :
    ∀ (l : List Nat) (s : OL), (l.foldl (rnd f t p) s).1.length ≤ 65536 → (l.foldl (rnd f t p) s).2 = s.2 + (l.map fun x => 1 + g x).sum
  | [], s, _ => by simp
  | x :: l, s, h => by
    rw [List.foldl_cons] at h ⊢
    have h1 := fold_len (t := t) p hf l (rnd f t p s x)
    have h2 := rnd_len (t := t) p hf s x
    rw [fold_cnt p hf hg l _ h]
    have e : (rnd f t p s x).2 = s.2 + (1 + g x) := by
      have h3 : (rnd f t p s x).1.length ≤ 65536 := by omega
      unfold rnd at h3 ⊢
      rw [if_neg (show ¬ 65536 < s.1.length by omega)] at h3 ⊢
      rw [hg x _ h3]
      show s.2 + 1 + g x = _
      omega
    rw [e, List.map_cons, List.sum_cons]
    omega
theorem wr_cnt (t : List SN) : ∀ k p s, (wr t k p s).1.length ≤ 65536 → (wr t k p s).2 = s.2 + cntU t k p
  | 0, p, s, _ => rfl
  | k + 1, p, s, h => fold_cnt p (wr_len t k) (wr_cnt t k) (partsOf t p) s h
theorem fold_most {f : Nat → OL → OL} {g : Nat → List UInt8} {t : List SN} (p : Nat) (hg : ∀ x s, (f x s).1.length ≤ s.1.length + (g x).length) :
    ∀ (l : List Nat) (s : OL), (l.foldl (rnd f t p) s).1.length ≤ s.1.length + (l.flatMap fun x => lineU t p x ++ g x).length
  | [], s => by simp
  | x :: l, s => by
    rw [List.foldl_cons, List.flatMap_cons, List.length_append, List.length_append]
    have h1 := fold_most (t := t) p hg l (rnd f t p s x)
    have h2 : (rnd f t p s x).1.length ≤ s.1.length + ((lineU t p x).length + (g x).length) := by
      unfold rnd
      split
      · omega
      · have := hg x (s.1 ++ lineU t p x, s.2 + 1)
        simp only [List.length_append] at this
        omega
    omega
theorem wr_most (t : List SN) : ∀ k p s, (wr t k p s).1.length ≤ s.1.length + (wrU t k p).length
  | 0, p, s => Nat.le_add_right _ _
  | k + 1, p, s => fold_most p (wr_most t k) (partsOf t p) s
theorem parts_cnt (t : List SN) (V : ∀ i, 1 ≤ i → i < t.length → (nd t i).f1 ≤ (nd t (i - 1)).f1 + 1) : ∀ (m fuel p n : Nat), t.length - n ≤ m → t.length - n ≤ fuel → p < n → n ≤ t.length → (n = t.length ∨ (nd t n).f1 ≤ (nd t p).f1 + 1) →
    ((partsFrom t (nd t p).f1 (t.length - n) n).map (fun x => 1 + cntU t fuel x)).sum = endFrom t (nd t p).f1 (t.length - n) n - n
  | 0, fuel, p, n, hm, hf, h1, h2, h4 => by
    have e : t.length - n = 0 := by omega
    rw [e]
    simp [partsFrom, endFrom]
  | m + 1, fuel, p, n, hm, hf, h1, h2, h4 => by
    by_cases hn : n = t.length
    · have e : t.length - n = 0 := by omega
      rw [e]
      simp [partsFrom, endFrom]
    · have h5 : (nd t n).f1 ≤ (nd t p).f1 + 1 := by rcases h4 with h4 | h4; exact absurd h4 hn; exact h4
      have ek : t.length - n = (t.length - (n + 1)) + 1 := by omega
      by_cases hd : (nd t p).f1 < (nd t n).f1
      · have hdn : (nd t n).f1 = (nd t p).f1 + 1 := by omega
        obtain ⟨f, rfl⟩ : ∃ f, fuel = f + 1 := ⟨fuel - 1, by omega⟩
        have hle := endFrom_le t (nd t n).f1 (t.length - (n + 1)) (n + 1)
        have ih1 := parts_cnt t V m f n (n + 1) (by omega) (by omega) (by omega) (by omega) (by
          by_cases e : n + 1 = t.length
          · exact .inl e
          · exact .inr (V (n + 1) (by omega) (by omega)))
        have hskip := partsFrom_skip t (nd t p).f1 (t.length - (n + 1)) (n + 1)
        have hesk := endFrom_skip t (nd t p).f1 (t.length - (n + 1)) (n + 1)
        rw [← hdn] at hskip hesk
        have hst := endFrom_stop t (nd t n).f1 (t.length - (n + 1)) (n + 1)
        generalize endFrom t (nd t n).f1 (t.length - (n + 1)) (n + 1) = e at hle ih1 hskip hesk hst
        rw [show n + 1 + (t.length - (n + 1)) - e = t.length - e by omega] at hskip hesk
        have ih2 := parts_cnt t V m (f + 1) p e (by omega) (by omega) (by omega) (by omega) (by rcases hst with h | h; exact .inl (by omega); exact .inr (by omega))
        have hle2 := endFrom_le t (nd t p).f1 (t.length - e) e
        rw [ek, partsFrom, if_pos hd, if_pos hdn, List.map_append, List.sum_append, hskip, ih2, endFrom, if_pos hd, hesk]
        generalize endFrom t (nd t p).f1 (t.length - e) e = E at hle2 ⊢
        have e1 : cntU t (f + 1) n = e - (n + 1) := ih1
        simp only [List.map_cons, List.map_nil, List.sum_cons, List.sum_nil, e1]
        omega
      · rw [ek, partsFrom, if_neg hd, endFrom, if_neg hd]
        simp
theorem wr_lines {t : List SN} (V : Valid t) (h : (wr t t.length 0 ([], 0)).1.length ≤ 65536) : (wr t t.length 0 ([], 0)).2 = t.length - 1 := by
  have hn := V.n1
  rw [wr_cnt t _ _ _ h]
  obtain ⟨f, hf⟩ : ∃ f, t.length = f + 1 := ⟨t.length - 1, by omega⟩
  have e := parts_cnt t (fun i h1 h2 => by have := V.step i h1 h2; omega) t.length f 0 1 (by omega) (by omega) (by omega) hn (by
    by_cases e : 1 = t.length
    · exact .inl e
    · exact .inr (by have := V.step 1 (by omega) (by omega); simp only [Nat.sub_self] at this; omega))
  have ee : endFrom t (nd t 0).f1 (t.length - 1) 1 = t.length := by
    rw [endFrom_all t _ _ _ (fun j h1 h2 => by have := V.lo j h1 (by omega); have := V.d0; omega)]
    omega
  rw [ee] at e
  show 0 + cntU t t.length 0 = _
  rw [← e, Nat.zero_add]
  conv => lhs; rw [hf]
  rfl
theorem wrU_flat {t : List SN} (V : Valid t) : wrU t t.length 0 = flatF t (t.length - 1) 1 := by
  have hn := V.n1
  obtain ⟨f, hf⟩ : ∃ f, t.length = f + 1 := ⟨t.length - 1, by omega⟩
  have e := parts_flat t (fun i h1 h2 => by have := V.step i h1 h2; omega) t.length f 0 1 (by omega) (by omega) (by omega) hn (fun j h1 h2 => by omega) (by
    by_cases e : 1 = t.length
    · exact .inl e
    · exact .inr (by have := V.step 1 (by omega) (by omega); simp only [Nat.sub_self] at this; omega))
  have ee : endFrom t (nd t 0).f1 (t.length - 1) 1 = t.length := by
    rw [endFrom_all t _ _ _ (fun j h1 h2 => by have := V.lo j h1 (by omega); have := V.d0; omega)]
    omega
  rw [ee] at e
  rw [← e]
  conv => lhs; rw [hf]
  rfl
theorem rs_eq (t : List SN) : ∀ (k i : Nat) (out : List UInt8), out.length ≤ 65536 → (k = 0 ∨ i ≤ 4096 ∨ 1 ≤ k) → rs t k i out = if 65536 < (out ++ flatF t k i).length ∨ (0 < k ∧ 4096 < i + k - 1) then (⟨#[]⟩, 51) else (mkB (out ++ flatF t k i), 0)
  | 0, i, out, h, _ => by
    rw [if_neg (by simp [flatF]; omega)]
    simp [rs, flatF]
  | k + 1, i, out, h, _ => by
    unfold rs
    have hf : out ++ flatF t (k + 1) i = (out ++ lineU t (par t i) i) ++ flatF t k (i + 1) := by rw [flatF, List.append_assoc]
    rw [hf]
    by_cases hb : 65536 < (out ++ lineU t (par t i) i).length ∨ 4096 < i
    · rw [if_pos hb, if_pos]
      rcases hb with hb | hb
      · exact .inl (by rw [List.length_append]; omega)
      · exact .inr ⟨by omega, by omega⟩
    · rw [if_neg hb, rs_eq t k (i + 1) _ (by omega) (by omega)]
      by_cases hk : k = 0
      · subst hk
        have e : (0 < 0 ∧ 4096 < i + 1 + 0 - 1) ↔ (0 < 0 + 1 ∧ 4096 < i + (0 + 1) - 1) := by omega
        simp only [e]
      · have e : (0 < k ∧ 4096 < i + 1 + k - 1) ↔ (0 < k + 1 ∧ 4096 < i + (k + 1) - 1) := by omega
        simp only [e]
theorem refShow_eq (t : List SN) : refShowP t = showP t := by
  unfold refShowP showP
  rw [ref_is]
  by_cases h : isP t = false
  · rw [if_pos h, if_pos h]
  · rw [if_neg h, if_neg h]
    have V := is_valid (by simpa using h : isP t = true)
    have hn := V.n1
    rw [rs_eq t _ _ _ (by simp) (by omega), List.nil_append]
    have hm := wr_most t t.length 0 ([], 0)
    rw [wrU_flat V] at hm
    simp only [List.length_nil, Nat.zero_add] at hm
    by_cases hl : (wr t t.length 0 ([], 0)).1.length ≤ 65536
    · have e1 := wr_text V hl
      have e2 := wr_lines V hl
      rw [e2, e1]
      have e : (0 < t.length - 1 ∧ 4096 < 1 + (t.length - 1) - 1) ↔ 4096 < t.length - 1 := by omega
      simp only [e]
    · rw [if_pos (.inl (by omega)), if_pos (.inl (by omega))]
end Go.Proofs.Ytofajjodonhdkaa.Q
