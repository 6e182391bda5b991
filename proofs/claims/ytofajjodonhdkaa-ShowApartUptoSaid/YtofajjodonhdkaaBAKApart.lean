/- Two trees have one text just if they are alike. -/
import Derived.Test.YtofajjodonhdkaaBAKDec
import Derived.Test.YtofajjodonhdkaaBAKFlat
import Derived.Test.YtofajjodonhdkaaBAKAlike
namespace Go.Proofs.Ytofajjodonhdkaa.Q
open Go Go.RowKit Go.Shelf Go.Proofs.YtofajjodonhdkaaW.PrintWords Go.Proofs.YtofajjodonhdkaaW.PrintLast Go.Proofs.YtofajjodonhdkaaW.PrintMore
set_option linter.unusedVariables false
set_option linter.unusedSimpArgs false
def bodyU (t : List SN) (i : Nat) : List UInt8 := (indU (nd t i).f1 ++ signU t (par t i) i) ++ saysU t i
theorem rep_mem : ∀ n, ∀ b ∈ Lib.repeatL [32, 32] n, b.toNat = 32
  | 0, b, h => by cases h
  | n + 1, b, h => by
    unfold Lib.repeatL at h
    rcases List.mem_append.1 h with h | h
    · simp only [List.mem_cons, List.not_mem_nil, or_false, or_self] at h
      rw [h]; rfl
    · exact rep_mem n b h
theorem rep_inj : ∀ (m n : Nat) (c d : UInt8) (X Y : List UInt8), c.toNat ≠ 32 → d.toNat ≠ 32 → Lib.repeatL [32, 32] m ++ c :: X = Lib.repeatL [32, 32] n ++ d :: Y → m = n ∧ c :: X = d :: Y
  | 0, 0, c, d, X, Y, _, _, h => ⟨rfl, h⟩
  | 0, n + 1, c, d, X, Y, hc, _, h => by
    unfold Lib.repeatL at h
    simp only [List.nil_append, List.cons_append, List.cons.injEq] at h
    exact absurd (by rw [h.1]; rfl) hc
  | m + 1, 0, c, d, X, Y, _, hd, h => by
    unfold Lib.repeatL at h
    simp only [List.nil_append, List.cons_append, List.cons.injEq] at h
    exact absurd (by rw [← h.1]; rfl) hd
  | m + 1, n + 1, c, d, X, Y, hc, hd, h => by
    unfold Lib.repeatL at h
    simp only [List.nil_append, List.cons_append, List.cons.injEq, true_and] at h
    obtain ⟨e1, e2⟩ := rep_inj m n c d X Y hc hd h
    exact ⟨by rw [e1], e2⟩
theorem says_ge (t : List SN) (i : Nat) : ∀ b ∈ saysU t i, 32 ≤ b.toNat := by
  intro b hb
  unfold saysU at hb
  split at hb
  · rcases List.mem_cons.1 hb with rfl | hb
    · decide
    · exact value_ge _ b hb
  split at hb
  · cases hb
  split at hb
  · simp only [List.mem_cons, List.not_mem_nil, or_false] at hb
    rcases hb with rfl | rfl | rfl <;> decide
  · simp only [List.mem_cons, List.not_mem_nil, or_false] at hb
    rcases hb with rfl | rfl | rfl <;> decide
theorem body_no (t : List SN) (i : Nat) : (10 : UInt8) ∉ bodyU t i := by
  have ge : ∀ b ∈ bodyU t i, 32 ≤ b.toNat := by
    intro b hb
    unfold bodyU at hb
    rcases List.mem_append.1 hb with hb | hb
    · rcases List.mem_append.1 hb with hb | hb
      · have := rep_mem _ b hb; omega
      · unfold signU at hb
        split at hb
        · rcases List.mem_append.1 hb with hb | hb
          · exact key_ge _ b hb
          · rw [List.mem_singleton.1 hb]; decide
        · rw [List.mem_singleton.1 hb]; decide
    · exact says_ge t i b hb
  intro h
  have := ge 10 h
  exact absurd this (by decide)
theorem line_body (t : List SN) (i : Nat) (r : List UInt8) : lineU t (par t i) i ++ r = bodyU t i ++ 10 :: r := by
  show (bodyU t i ++ [10]) ++ r = _
  rw [List.append_assoc]
  rfl
theorem flat_inj (a b : List SN) : ∀ k m n, flatF a k n = flatF b m n → k = m ∧ ∀ i, n ≤ i → i < n + k → bodyU a i = bodyU b i
  | 0, 0, n, _ => ⟨rfl, fun i h1 h2 => by omega⟩
  | 0, m + 1, n, h => by
    rw [flatF, flatF, line_body] at h
    have := congrArg List.length h
    simp at this
  | k + 1, 0, n, h => by
    rw [flatF, flatF, line_body] at h
    have := congrArg List.length h
    simp at this
  | k + 1, m + 1, n, h => by
    rw [flatF, flatF, line_body, line_body] at h
    obtain ⟨e1, e2⟩ := split_first 10 _ _ _ _ (body_no a n) (body_no b n) h
    obtain ⟨e3, e4⟩ := flat_inj a b k m (n + 1) e2
    refine ⟨by rw [e3], fun i h1 h2 => ?_⟩
    by_cases e : i = n
    · rw [e]; exact e1
    · exact e4 i (by omega) (by omega)
theorem sign_head (t : List SN) (p x : Nat) (r : List UInt8) : ∃ c q, signU t p x ++ r = c :: q ∧ c.toNat ≠ 32 := by
  unfold signU
  split
  · obtain ⟨c, q, e, _, h⟩ := key_head (nd t x).f2
    rw [e]
    exact ⟨c, _, rfl, h⟩
  · exact ⟨45, _, rfl, by decide⟩
/-- What a line's body tells. -/
theorem body_says {a b : List SN} {i : Nat} (h : bodyU a i = bodyU b i) (da : 1 ≤ (nd a i).f1) (db : 1 ≤ (nd b i).f1) :
    (nd a i).f1 = (nd b i).f1 ∧ ((nd a (par a i)).f0 = 1 ↔ (nd b (par b i)).f0 = 1) ∧ ((nd a (par a i)).f0 = 1 → (nd a i).f2 = (nd b i).f2) ∧ saysU a i = saysU b i := by
  unfold bodyU indU at h
  rw [List.append_assoc, List.append_assoc] at h
  obtain ⟨c, X, e1, hc⟩ := sign_head a (par a i) i (saysU a i)
  obtain ⟨d, Y, e2, hd⟩ := sign_head b (par b i) i (saysU b i)
  rw [e1, e2] at h
  obtain ⟨g1, g2⟩ := rep_inj _ _ _ _ _ _ hc hd h
  rw [← e1, ← e2] at g2
  refine ⟨by omega, ?_⟩
  unfold signU at g2
  have no : ∀ (s : ByteArray) (r q : List UInt8), (keyU s ++ [58]) ++ r = [45] ++ q → False := fun s r q h => by
    obtain ⟨c, l, e, h1, _⟩ := key_head s
    rw [e] at h
    simp only [List.cons_append, List.cons.injEq] at h
    exact h1 (by rw [h.1]; rfl)
  by_cases ka : (nd a (par a i)).f0 = 1
  · by_cases kb : (nd b (par b i)).f0 = 1
    · rw [if_pos ka, if_pos kb, List.append_assoc, List.append_assoc] at g2
      obtain ⟨h1, h2⟩ := key_inj _ _ _ _ g2
      exact ⟨⟨fun _ => kb, fun _ => ka⟩, fun _ => h1, h2⟩
    · rw [if_pos ka, if_neg kb] at g2
      exact (no _ _ _ g2).elim
  · by_cases kb : (nd b (par b i)).f0 = 1
    · rw [if_neg ka, if_pos kb] at g2
      exact (no _ _ _ g2.symm).elim
    · rw [if_neg ka, if_neg kb] at g2
      exact ⟨⟨fun h => absurd h ka, fun h => absurd h kb⟩, fun h => absurd h ka, by simpa using g2⟩
theorem list_bytes {s t : ByteArray} (h : s.toList = t.toList) : s = t := by
  rw [ByteArray.toList_eq, ByteArray.toList_eq] at h
  exact of_bytes h
theorem first_part {t : List SN} (V : Valid t) {i : Nat} (hi : i < t.length) (h : endOf t i > i + 1) : i + 1 < t.length ∧ par t (i + 1) = i := by
  have hl := endFrom_le t (nd t i).f1 (t.length - (i + 1)) (i + 1)
  have hd := endFrom_in t (nd t i).f1 (t.length - (i + 1)) (i + 1) (i + 1) (Nat.le_refl _) h
  have : endOf t i = endFrom t (nd t i).f1 (t.length - (i + 1)) (i + 1) := rfl
  exact ⟨by omega, parGo_eq t _ i hd (i + 1) (by omega) (fun j h1 h2 => by omega)⟩
theorem says_same {a b : List SN} {i : Nat} (Va : Valid a) (Vb : Valid b) (h1 : 1 ≤ i) (ha : i < a.length) (hb : i < b.length) (hs : saysU a i = saysU b i)
    (hn : i + 1 < a.length → i + 1 < b.length → ((nd a (par a (i + 1))).f0 = 1 ↔ (nd b (par b (i + 1))).f0 = 1)) : (nd a i).f0 = (nd b i).f0 ∧ (nd a i).f3 = (nd b i).f3 := by
  have tx : ∀ {t : List SN}, Valid t → i < t.length → (nd t i).f0 ≠ 3 → (nd t i).f3.toList = [] := fun V h k => by rcases V.txt i h1 h with h | h; exact h; exact absurd h k
  have no : ∀ {t : List SN} (s : ByteArray), (nd t i).f0 ≠ 3 → 32 :: valueU s = saysU t i → False := fun {t} s k h => by
    unfold saysU at h
    rw [if_neg k] at h
    split at h
    · cases h
    split at h
    · exact (value_not s).1 (List.cons.inj h).2
    · exact (value_not s).2 (List.cons.inj h).2
  have kinds_a := Va.kind i h1 ha
  have kinds_b := Vb.kind i h1 hb
  by_cases ka : (nd a i).f0 = 3
  · have ea : saysU a i = 32 :: valueU (nd a i).f3 := by unfold saysU; rw [if_pos ka]
    by_cases kb : (nd b i).f0 = 3
    · have eb : saysU b i = 32 :: valueU (nd b i).f3 := by unfold saysU; rw [if_pos kb]
      rw [ea, eb] at hs
      exact ⟨by rw [ka, kb], value_inj _ _ (List.cons.inj hs).2⟩
    · exact (no _ kb (ea ▸ hs)).elim
  · by_cases kb : (nd b i).f0 = 3
    · have eb : saysU b i = 32 :: valueU (nd b i).f3 := by unfold saysU; rw [if_pos kb]
      exact (no _ ka (eb ▸ hs.symm)).elim
    · refine ⟨?_, list_bytes ((tx Va ha ka).trans (tx Vb hb kb).symm)⟩
      unfold saysU at hs
      rw [if_neg ka, if_neg kb] at hs
      have q : ([32, 91, 93] : List UInt8) ≠ [32, 123, 125] := by decide
      by_cases ga : endOf a i > i + 1
      · rw [if_pos ga] at hs
        by_cases gb : endOf b i > i + 1
        · obtain ⟨la, pa⟩ := first_part Va ha ga
          obtain ⟨lb, pb⟩ := first_part Vb hb gb
          have := hn la lb
          rw [pa, pb] at this
          omega
        · rw [if_neg gb] at hs
          split at hs <;> cases hs
      · rw [if_neg ga] at hs
        by_cases gb : endOf b i > i + 1
        · rw [if_pos gb] at hs
          split at hs <;> cases hs
        · rw [if_neg gb] at hs
          by_cases k2 : (nd a i).f0 = 2
          · by_cases k3 : (nd b i).f0 = 2
            · omega
            · rw [if_pos k2, if_neg k3] at hs
              exact absurd hs q
          · by_cases k3 : (nd b i).f0 = 2
            · rw [if_neg k2, if_pos k3] at hs
              exact absurd hs.symm q
            · omega
theorem alike_of : ∀ a b : List SN, a.length = b.length → (∀ i, i < a.length → likeN (nd a i) (nd b i) = true) → alikeB a b = true
  | [], [], _, _ => rfl
  | x :: r, y :: s, h, hi => by
    unfold alikeB
    rw [Bool.and_eq_true]
    exact ⟨hi 0 (by simp), alike_of r s (by simpa using h) (fun i h1 => hi (i + 1) (by simp; omega))⟩
theorem alike_at_ : ∀ (a b : List SN), alikeB a b = true → a.length = b.length ∧ ∀ i, i < a.length → likeN (nd a i) (nd b i) = true
  | [], [], _ => ⟨rfl, fun i h => by simp at h⟩
  | [], y :: s, h => by cases h
  | x :: r, [], h => by cases h
  | x :: r, y :: s, h => by
    unfold alikeB at h
    rw [Bool.and_eq_true] at h
    obtain ⟨h1, h2⟩ := alike_at_ r s h.2
    refine ⟨by simp [h1], fun i hi => ?_⟩
    cases i with
    | zero => exact h.1
    | succ i => exact h2 i (by simpa using hi)
theorem text_alike {a b : List SN} (ha : isP a = true) (hb : isP b = true) (h : flatF a (a.length - 1) 1 = flatF b (b.length - 1) 1) : alikeB a b = true := by
  have Va := is_valid ha
  have Vb := is_valid hb
  obtain ⟨hl, hi⟩ := flat_inj a b _ _ 1 h
  have na := Va.n1
  have nb := Vb.n1
  have hlen : a.length = b.length := by omega
  have S := fun i (h1 : 1 ≤ i) (h2 : i < a.length) => body_says (hi i h1 (by omega)) (Va.lo i h1 h2) (Vb.lo i h1 (by omega))
  refine alike_of a b hlen (fun i h2 => ?_)
  have four : (nd a i).f0 = (nd b i).f0 ∧ (nd a i).f1 = (nd b i).f1 ∧ (nd a i).f2 = (nd b i).f2 ∧ (nd a i).f3 = (nd b i).f3 := by
    by_cases e : i = 0
    · subst e
      exact ⟨Va.k0.trans Vb.k0.symm, Va.d0.trans Vb.d0.symm, list_bytes (Va.key0.trans Vb.key0.symm), list_bytes (Va.txt0.trans Vb.txt0.symm)⟩
    · have h1 : 1 ≤ i := by omega
      obtain ⟨s1, s2, s3, s4⟩ := S i h1 h2
      obtain ⟨k1, k2⟩ := says_same Va Vb h1 h2 (by omega) s4 (fun g1 g2 => (S (i + 1) (by omega) g1).2.1)
      refine ⟨k1, s1, ?_, k2⟩
      by_cases e1 : (nd a (par a i)).f0 = 1
      · exact s3 e1
      · have p1 := par_kind Va h1 h2
        have p2 := par_kind Vb h1 (by omega : i < b.length)
        exact list_bytes ((is_item ha h1 h2 (by omega)).trans (is_item hb h1 (by omega) (by omega)).symm)
  obtain ⟨q0, q1, q2, q3⟩ := four
  simp [likeN, q0, q1, q2, q3]
end Go.Proofs.Ytofajjodonhdkaa.Q
