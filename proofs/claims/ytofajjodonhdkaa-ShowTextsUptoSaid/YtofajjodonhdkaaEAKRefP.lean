/- What the document says a tree is, and that the program says so too. -/
import Derived.Test.YtofajjodonhdkaaEAKFlat
import Derived.Test.YtofajjodonhdkaaEAKFits
namespace Go.Proofs.Ytofajjodonhdkaa.Q
open Go Go.RowKit Go.Shelf Go.Proofs.YtofajjodonhdkaaW.PrintWords Go.Proofs.YtofajjodonhdkaaW.PrintLast Go.Proofs.YtofajjodonhdkaaW.PrintMore
set_option linter.unusedVariables false
set_option linter.unusedSimpArgs false
def keyL (t : List SN) (x : Nat) : List UInt8 := (nd t x).f2.toList
def uniqB (t : List SN) : List Nat → Bool
  | [] => true
  | x :: l => l.all (fun y => !decide (keyL t x = keyL t y)) && uniqB t l
def unlikeB (t : List SN) (p : Nat) : Bool := uniqB t (partsOf t p)
def r1 (t : List SN) : List Int → Nat → Nat → Bool
  | _, 0, _ => true
  | ks, k + 1, i => if (nd t i).f1 < 1 ∨ 32 < (nd t i).f1 then false else if formB (nd t i) (nd t (i - 1)) (ks.getD ((nd t i).f1.toNat - 1) 0) = false then false else r1 t (ks.set (nd t i).f1.toNat (nd t i).f0) k (i + 1)
def r2 (t : List SN) : Nat → Nat → Bool
  | 0, _ => true
  | k + 1, i => if (nd t i).f0 = 1 ∧ unlikeB t i = false then false else r2 t k (i + 1)
def ks0 : List Int := 1 :: List.replicate 33 0
def refP (t : List SN) : Bool := rootB t && (r1 t ks0 (t.length - 1) 1 && r2 t t.length 0)
theorem r2_iff (t : List SN) : ∀ k i, r2 t k i = true ↔ ∀ p, i ≤ p → p < i + k → (nd t p).f0 = 1 → unlikeB t p = true
  | 0, i => ⟨fun _ p h1 h2 => by omega, fun _ => rfl⟩
  | k + 1, i => by
    unfold r2
    split
    case isTrue h => exact ⟨fun h2 => (by cases h2), fun h2 => by have := h2 i (Nat.le_refl _) (by omega) h.1; rw [h.2] at this; cases this⟩
    case isFalse h =>
      rw [r2_iff t k (i + 1)]
      refine ⟨fun h2 p h3 h4 h5 => ?_, fun h2 p h3 h4 h5 => h2 p (by omega) (by omega) h5⟩
      by_cases e : p = i
      · subst e
        cases hu : unlikeB t p with
        | true => rfl
        | false => exact absurd ⟨h5, hu⟩ h
      · exact h2 p (by omega) (by omega) h5
def okR (t : List SN) (x : Nat) : Prop := 1 ≤ (nd t x).f1 ∧ (nd t x).f1 ≤ 32 ∧ formB (nd t x) (nd t (x - 1)) (nd t (par t x)).f0 = true
theorem form_parts {n a : SN} {p : Int} (h : formB n a p = true) : (n.f0 = 1 ∨ n.f0 = 2 ∨ n.f0 = 3) ∧ (n.f0 = 3 ∨ n.f3.toList = []) ∧ (n.f1 ≤ a.f1 ∨ (n.f1 = a.f1 + 1 ∧ a.f0 ≠ 3)) ∧ ((p = 1 ∧ (n.f2.size : Int) ≤ 64) ∨ (p = 2 ∧ n.f2.toList = [])) := by
  unfold formB at h
  simp only [Bool.and_eq_true, Bool.or_eq_true, decide_eq_true_eq, Bool.not_eq_true', List.isEmpty_iff, Bool.and_eq_false_iff, decide_eq_false_iff_not] at h
  obtain ⟨⟨h1, h2, h3⟩, ⟨h4, h5, h6, h7⟩, h8⟩ := h
  exact ⟨by omega, h3, by omega, h8⟩
theorem form_of {n a : SN} {p : Int} (h1 : n.f0 = 1 ∨ n.f0 = 2 ∨ n.f0 = 3) (h2 : n.f0 = 3 ∨ n.f3.toList = []) (h3 : 1 ≤ n.f1) (h4 : n.f1 ≤ 32) (h5 : n.f1 ≤ a.f1 ∨ (n.f1 = a.f1 + 1 ∧ a.f0 ≠ 3)) (h6 : (p = 1 ∧ (n.f2.size : Int) ≤ 64) ∨ (p = 2 ∧ n.f2.toList = [])) : formB n a p = true := by
  unfold formB
  simp only [Bool.and_eq_true, Bool.or_eq_true, decide_eq_true_eq, Bool.not_eq_true', List.isEmpty_iff, Bool.and_eq_false_iff, decide_eq_false_iff_not]
  exact ⟨⟨by omega, by omega, h2⟩, ⟨h3, h4, by omega, by omega⟩, h6⟩
theorem getD_set (l : List Int) (i j : Nat) (v : Int) (h : i < l.length) : (l.set i v).getD j 0 = if j = i then v else l.getD j 0 := by
  rw [List.getD_eq_getElem?_getD, List.getD_eq_getElem?_getD]
  by_cases e : j = i
  · subst e
    rw [if_pos rfl, List.getElem?_set_self h]
    rfl
  · rw [if_neg e, List.getElem?_set_ne (Ne.symm e)]
theorem r1_iff (t : List SN) : ∀ k ks i, 1 ≤ i → 0 ≤ (nd t (i - 1)).f1 → (nd t (i - 1)).f1 ≤ 32 → ks.length = 34 → (∀ j : Nat, (j : Int) ≤ (nd t (i - 1)).f1 → ks.getD j 0 = (nd t (parGo t ((j : Int) + 1) i)).f0) → (r1 t ks k i = true ↔ ∀ x, i ≤ x → x < i + k → okR t x)
  | 0, ks, i, _, _, _, _, _ => ⟨fun _ x h1 h2 => by omega, fun _ => rfl⟩
  | k + 1, ks, i, hi, hp, hq, hl, hj => by
    unfold r1
    by_cases hd : (nd t i).f1 < 1 ∨ 32 < (nd t i).f1
    · rw [if_pos hd]
      exact ⟨fun h => (by cases h), fun h => by have := h i (Nat.le_refl _) (by omega); unfold okR at this; omega⟩
    · rw [if_neg hd]
      have hks : formB (nd t i) (nd t (i - 1)) (ks.getD ((nd t i).f1.toNat - 1) 0) = formB (nd t i) (nd t (i - 1)) (nd t (par t i)).f0 := by
        by_cases h : (nd t i).f1 ≤ (nd t (i - 1)).f1 + 1
        · rw [hj _ (by omega)]
          unfold par
          rw [show (((nd t i).f1.toNat - 1 : Nat) : Int) + 1 = (nd t i).f1 by omega]
        · have : ∀ p, formB (nd t i) (nd t (i - 1)) p = false := fun p => by
            cases hf : formB (nd t i) (nd t (i - 1)) p with
            | false => rfl
            | true => have := (form_parts hf).2.2.1; omega
          rw [this, this]
      rw [hks]
      cases hf : formB (nd t i) (nd t (i - 1)) (nd t (par t i)).f0 with
      | false =>
        rw [if_pos rfl]
        exact ⟨fun h => (by cases h), fun h => by have := (h i (Nat.le_refl _) (by omega)).2.2; rw [hf] at this; cases this⟩
      | true =>
        rw [if_neg (by decide)]
        have hfp := (form_parts hf).2.2.1
        rw [r1_iff t k _ (i + 1) (by omega) (by rw [Nat.add_sub_cancel]; omega) (by rw [Nat.add_sub_cancel]; omega) (by rw [List.length_set, hl]) (fun j h1 => by
          rw [Nat.add_sub_cancel] at h1
          rw [getD_set _ _ _ _ (by omega)]
          unfold parGo
          by_cases e : j = (nd t i).f1.toNat
          · rw [if_pos e, if_pos (by omega)]
          · rw [if_neg e, if_neg (by omega), hj j (by omega)])]
        refine ⟨fun h x h1 h2 => ?_, fun h x h1 h2 => h x (by omega) (by omega)⟩
        by_cases e : x = i
        · subst e
          exact ⟨by omega, by omega, hf⟩
        · exact h x (by omega) (by omega)
def dupX (t : List SN) (x : Nat) : Prop := ∃ y, 1 ≤ y ∧ y < x ∧ par t y = par t x ∧ (nd t y).f2 = (nd t x).f2
def okN (t : List SN) (x : Nat) : Prop := fitsB (nd t x) (nd t (x - 1)) = true ∧ ((nd t (par t x)).f0 = 2 → (nd t x).f2.toList = []) ∧ ((nd t (par t x)).f0 ≠ 2 → ¬ dupX t x ∧ (nd t x).f2.size ≤ 64)
structure OInv (t : List SN) (os : OS) (i : Nat) : Prop where
  len : os.length = (nd t (i - 1)).f1.toNat + 1
  par_ : ∀ j, j < os.length → (os.getD j (0, [])).1 = parGo t ((j : Int) + 1) i
  dep : ∀ j, j < os.length → (nd t (os.getD j (0, [])).1).f1 = (j : Int)
  keys : ∀ j, j < os.length → (nd t (os.getD j (0, [])).1).f0 ≠ 2 → ∀ s, s ∈ (os.getD j (0, [])).2 ↔ ∃ y, 1 ≤ y ∧ y < i ∧ par t y = (os.getD j (0, [])).1 ∧ (nd t y).f2 = s
theorem par_lt {t : List SN} (hd0 : (nd t 0).f1 = 0) {y : Nat} (h1 : 1 ≤ y) (h2 : 1 ≤ (nd t y).f1) : par t y < y := (parGo_spec t _ y ⟨0, by omega, by omega⟩).1
theorem OInv.push {t : List SN} {os os2 : OS} {i : Nat} (h : OInv t os i) (hi : 1 ≤ i) (hd0 : (nd t 0).f1 = 0) (hlo : ∀ x, 1 ≤ x → x < i + 1 → 1 ≤ (nd t x).f1) (hD : (nd t i).f1.toNat ≤ os.length) (hl2 : os2.length = (nd t i).f1.toNat)
    (hg : ∀ j, j < os2.length → (os2.getD j (0, [])).1 = (os.getD j (0, [])).1)
    (hk : ∀ j, j < os2.length → (nd t (os.getD j (0, [])).1).f0 ≠ 2 → ∀ s, s ∈ (os2.getD j (0, [])).2 ↔ ∃ y, 1 ≤ y ∧ y < i + 1 ∧ par t y = (os.getD j (0, [])).1 ∧ (nd t y).f2 = s) : OInv t (os2 ++ [(i, [])]) (i + 1) := by
  have hDi := hlo i hi (by omega)
  have hlast : (os2 ++ [(i, ([] : List ByteArray))]).getD os2.length (0, []) = (i, []) := by
    rw [List.getD_eq_getElem?_getD, List.getElem?_append_right (Nat.le_refl _), Nat.sub_self]
    rfl
  have hfront : ∀ j, j < os2.length → (os2 ++ [(i, ([] : List ByteArray))]).getD j (0, []) = os2.getD j (0, []) := fun j hj => by
    rw [List.getD_eq_getElem?_getD, List.getElem?_append_left hj, List.getD_eq_getElem?_getD]
  have hlen : (os2 ++ [(i, ([] : List ByteArray))]).length = os2.length + 1 := by rw [List.length_append]; rfl
  refine ⟨by rw [hlen, hl2, Nat.add_sub_cancel], fun j hj => ?_, fun j hj => ?_, fun j hj hkd s => ?_⟩
  · rw [hlen] at hj
    unfold parGo
    by_cases e : j = os2.length
    · rw [if_pos (by omega), e, hlast]
    · rw [if_neg (by omega), hfront j (by omega), hg j (by omega), h.par_ j (by omega)]
  · rw [hlen] at hj
    by_cases e : j = os2.length
    · rw [e, hlast]
      show (nd t i).f1 = _
      omega
    · rw [hfront j (by omega), hg j (by omega), h.dep j (by omega)]
  · rw [hlen] at hj
    by_cases e : j = os2.length
    · rw [e, hlast]
      refine ⟨fun h2 => (by cases h2), fun ⟨y, h2, h3, h4, _⟩ => ?_⟩
      have := par_lt hd0 h2 (hlo y h2 h3)
      have h4' : par t y = i := h4
      omega
    · rw [hfront j (by omega), hg j (by omega)] at hkd ⊢
      exact hk j (by omega) hkd s
theorem go_iff (t : List SN) (hd0 : (nd t 0).f1 = 0) : ∀ k os i, 1 ≤ i → 0 ≤ (nd t (i - 1)).f1 → (∀ x, 1 ≤ x → x < i → 1 ≤ (nd t x).f1) → OInv t os i → (isGo t os k i = true ↔ ∀ x, i ≤ x → x < i + k → okN t x)
  | 0, os, i, _, _, _, _ => ⟨fun _ x h1 h2 => by omega, fun _ => rfl⟩
  | k + 1, os, i, hi, hp, hlo, I => by
    unfold isGo
    cases hf : fitsB (nd t i) (nd t (i - 1)) with
    | false =>
      rw [if_pos rfl]
      exact ⟨fun h => (by cases h), fun h => by have := (h i (Nat.le_refl _) (by omega)).1; rw [hf] at this; cases this⟩
    | true =>
      rw [if_neg (by decide)]
      obtain ⟨_, hd1, _, hd2, _⟩ := fits_parts hf
      have hl := I.len
      have hdl : (nd t i).f1.toNat ≤ os.length := by omega
      have hpar : (os.getD ((nd t i).f1.toNat - 1) (0, [])).1 = par t i := by
        rw [I.par_ _ (by omega)]
        unfold par
        rw [show (((nd t i).f1.toNat - 1 : Nat) : Int) + 1 = (nd t i).f1 by omega]
      have hlo2 : ∀ x, 1 ≤ x → x < i + 1 → 1 ≤ (nd t x).f1 := fun x h1 h2 => by
        by_cases e : x = i
        · subst e; exact hd1
        · exact hlo x h1 (by omega)
      have htk : ∀ j, j < (nd t i).f1.toNat → ((os.take (nd t i).f1.toNat).getD j (0, [])) = os.getD j (0, []) := fun j hj2 => by
        rw [List.getD_eq_getElem?_getD, List.getElem?_take_of_lt hj2, List.getD_eq_getElem?_getD]
      have hlt : (os.take (nd t i).f1.toNat).length = (nd t i).f1.toNat := by rw [List.length_take]; omega
      have hsp : ∀ Q : Prop, okN t i → (Q ↔ ∀ x, i + 1 ≤ x → x < i + 1 + k → okN t x) → (Q ↔ ∀ x, i ≤ x → x < i + (k + 1) → okN t x) := fun Q ho hq => by
        rw [hq]
        refine ⟨fun h x h1 h2 => ?_, fun h x h1 h2 => h x (by omega) (by omega)⟩
        by_cases e : x = i
        · subst e; exact ho
        · exact h x (by omega) (by omega)
      have hext : ∀ j, j < (nd t i).f1.toNat → (os.getD j (0, [])).1 ≠ par t i → (nd t (os.getD j (0, [])).1).f0 ≠ 2 → ∀ s, s ∈ (os.getD j (0, [])).2 ↔ ∃ y, 1 ≤ y ∧ y < i + 1 ∧ par t y = (os.getD j (0, [])).1 ∧ (nd t y).f2 = s := fun j h1 h2 h3 s => by
        rw [I.keys j (by omega) h3 s]
        refine ⟨fun ⟨y, q1, q2, q3, q4⟩ => ⟨y, q1, by omega, q3, q4⟩, fun ⟨y, q1, q2, q3, q4⟩ => ⟨y, q1, ?_, q3, q4⟩⟩
        by_cases e : y = i
        · subst e; exact absurd q3.symm h2
        · omega
      rw [hpar]
      by_cases hk2 : (nd t (par t i)).f0 = 2
      · rw [if_pos hk2]
        by_cases hke : (nd t i).f2.toList = []
        · rw [if_neg (by simp [hke])]
          refine hsp _ ⟨hf, fun _ => hke, fun h => absurd hk2 h⟩ (go_iff t hd0 k _ (i + 1) (by omega) (by rw [Nat.add_sub_cancel]; omega) hlo2 (I.push hi hd0 hlo2 hdl hlt (fun j hj => by rw [htk j (by omega)]) (fun j hj hkd s => ?_)))
          rw [htk j (by omega)]
          exact hext j (by omega) (fun e => by rw [e] at hkd; exact hkd hk2) hkd s
        · rw [if_pos hke]
          exact ⟨fun h => (by cases h), fun h => absurd ((h i (Nat.le_refl _) (by omega)).2.1 hk2) hke⟩
      · rw [if_neg hk2]
        have hkeys := I.keys ((nd t i).f1.toNat - 1) (by omega) (by rw [hpar]; exact hk2)
        rw [hpar] at hkeys
        have hdup : hasK (nd t i).f2 (os.getD ((nd t i).f1.toNat - 1) (0, [])).2 = true ↔ dupX t i := by
          rw [hasK_iff, hkeys]
          rfl
        by_cases hb : (hasK (nd t i).f2 (os.getD ((nd t i).f1.toNat - 1) (0, [])).2 || decide (64 < (nd t i).f2.size)) = true
        · rw [if_pos hb]
          rw [Bool.or_eq_true, hdup, decide_eq_true_eq] at hb
          refine ⟨fun h => (by cases h), fun h => ?_⟩
          have := (h i (Nat.le_refl _) (by omega)).2.2 hk2
          rcases hb with hb | hb
          · exact absurd hb this.1
          · omega
        · rw [if_neg hb]
          rw [Bool.or_eq_true, hdup, decide_eq_true_eq, not_or] at hb
          refine hsp _ ⟨hf, fun h => absurd h hk2, fun _ => ⟨hb.1, by omega⟩⟩ (go_iff t hd0 k _ (i + 1) (by omega) (by rw [Nat.add_sub_cancel]; omega) hlo2 (I.push hi hd0 hlo2 hdl (by rw [List.length_set, hlt]) (fun j hj => ?_) (fun j hj hkd s => ?_)))
          · rw [List.length_set, hlt] at hj
            by_cases e2 : (nd t i).f1.toNat - 1 = j
            · rw [← e2, hpar, List.getD_eq_getElem?_getD, List.getElem?_set_self (by omega)]
              rfl
            · rw [List.getD_eq_getElem?_getD, List.getElem?_set_ne e2, ← List.getD_eq_getElem?_getD, htk j hj]
          · rw [List.length_set, hlt] at hj
            by_cases e2 : (nd t i).f1.toNat - 1 = j
            · rw [← e2, List.getD_eq_getElem?_getD, List.getElem?_set_self (by omega), hpar]
              show s ∈ (os.getD ((nd t i).f1.toNat - 1) (0, [])).2 ++ [(nd t i).f2] ↔ _
              rw [List.mem_append, List.mem_singleton, hkeys]
              refine ⟨fun h => ?_, fun ⟨y, q1, q2, q3, q4⟩ => ?_⟩
              · rcases h with ⟨y, q1, q2, q3, q4⟩ | h
                · exact ⟨y, q1, by omega, q3, q4⟩
                · exact ⟨i, hi, by omega, rfl, h.symm⟩
              · by_cases e : y = i
                · subst e; exact .inr q4.symm
                · exact .inl ⟨y, q1, by omega, q3, q4⟩
            · rw [List.getD_eq_getElem?_getD, List.getElem?_set_ne e2, ← List.getD_eq_getElem?_getD, htk j hj]
              refine hext j hj (fun e => ?_) hkd s
              have q1 := I.dep j (by omega)
              have q2 := I.dep ((nd t i).f1.toNat - 1) (by omega)
              rw [hpar] at q2
              rw [e, q2] at q1
              omega
theorem parts_iff {t : List SN} (V : Valid t) {p : Nat} : ∀ k n x, n + k = t.length → p < n → (∀ j, p < j → j < n → (nd t p).f1 < (nd t j).f1) → (x ∈ partsFrom t (nd t p).f1 k n ↔ n ≤ x ∧ x < t.length ∧ par t x = p)
  | 0, n, x, h, hp, hj => ⟨fun h => (by cases h), fun ⟨h1, h2, _⟩ => by omega⟩
  | k + 1, n, x, h, hp, hj => by
    unfold partsFrom
    by_cases hd : (nd t p).f1 < (nd t n).f1
    · rw [if_pos hd, List.mem_append, parts_iff V k (n + 1) x (by omega) (by omega) (fun j h1 h2 => by
        by_cases e : j = n
        · subst e; exact hd
        · exact hj j h1 (by omega))]
      have hn : (nd t n).f1 = (nd t p).f1 + 1 ↔ par t n = p := by
        constructor
        · intro e
          exact parGo_eq t _ p hd n hp (fun j h1 h2 => by have := hj j h1 h2; omega)
        · intro e
          obtain ⟨s1, s2, s3⟩ := par_spec V (show 1 ≤ n by omega) (by omega)
          rw [e] at s1 s2 s3
          have h4 := V.step (p + 1) (by omega) (by omega)
          rw [Nat.add_sub_cancel] at h4
          by_cases e2 : p + 1 = n
          · rw [e2] at h4; omega
          · have := s3 (p + 1) (by omega) (by omega); omega
      constructor
      · rintro (h1 | ⟨h1, h2, h3⟩)
        · split at h1
          case isTrue e =>
            rw [List.mem_singleton.1 h1]
            exact ⟨Nat.le_refl _, by omega, hn.1 e⟩
          case isFalse => cases h1
        · exact ⟨by omega, h2, h3⟩
      · rintro ⟨h1, h2, h3⟩
        by_cases e : x = n
        · subst e
          rw [if_pos (hn.2 h3)]
          exact .inl (List.mem_singleton.2 rfl)
        · exact .inr ⟨by omega, h2, h3⟩
    · rw [if_neg hd]
      refine ⟨fun h => (by cases h), fun ⟨h1, h2, h3⟩ => ?_⟩
      obtain ⟨s1, s2, s3⟩ := par_spec V (show 1 ≤ x by omega) h2
      rw [h3] at s1 s2 s3
      by_cases e : x = n
      · subst e; exact absurd s2 hd
      · have := s3 n (by omega) (by omega); omega
theorem parts_sorted (t : List SN) (d : Int) : ∀ k n, (partsFrom t d k n).Pairwise (· < ·)
  | 0, n => List.Pairwise.nil
  | k + 1, n => by
    unfold partsFrom
    split
    · split
      · exact List.Pairwise.cons (fun x hx => by have := partsFrom_mem t d k (n + 1) x hx; omega) (parts_sorted t d k (n + 1))
      · exact parts_sorted t d k (n + 1)
    · exact List.Pairwise.nil
theorem uniq_iff (t : List SN) : ∀ l : List Nat, l.Pairwise (· < ·) → (uniqB t l = true ↔ ∀ x ∈ l, ∀ y ∈ l, x < y → keyL t x ≠ keyL t y)
  | [], _ => ⟨fun _ x h => (by cases h), fun _ => rfl⟩
  | a :: l, h => by
    obtain ⟨h1, h2⟩ := List.pairwise_cons.1 h
    unfold uniqB
    rw [Bool.and_eq_true, uniq_iff t l h2, List.all_eq_true]
    constructor
    · rintro ⟨q1, q2⟩ x hx y hy hlt
      rcases List.mem_cons.1 hx with rfl | hx2
      · rcases List.mem_cons.1 hy with rfl | hy2
        · omega
        · simpa using q1 y hy2
      · rcases List.mem_cons.1 hy with rfl | hy2
        · have := h1 x hx2; omega
        · exact q2 x hx2 y hy2 hlt
    · intro q
      exact ⟨fun y hy => by simpa using q a List.mem_cons_self y (List.mem_cons_of_mem _ hy) (h1 y hy), fun x hx y hy hlt => q x (List.mem_cons_of_mem _ hx) y (List.mem_cons_of_mem _ hy) hlt⟩
theorem unlike_iff {t : List SN} (V : Valid t) {p : Nat} (hp : p < t.length) : unlikeB t p = true ↔ ∀ x y, p < x → x < y → y < t.length → par t x = p → par t y = p → keyL t x ≠ keyL t y := by
  unfold unlikeB partsOf
  rw [uniq_iff t _ (parts_sorted t _ _ _)]
  have hm := fun x => parts_iff V (p := p) (t.length - (p + 1)) (p + 1) x (by omega) (by omega) (fun j h1 h2 => by omega)
  constructor
  · intro h x y h1 h2 h3 h4 h5
    exact h x ((hm x).2 ⟨by omega, by omega, h4⟩) y ((hm y).2 ⟨by omega, h3, h5⟩) h2
  · intro h x hx y hy hlt
    obtain ⟨q1, q2, q3⟩ := (hm x).1 hx
    obtain ⟨s1, s2, s3⟩ := (hm y).1 hy
    exact h x y (by omega) hlt s2 q3 s3
theorem r1_all {t : List SN} (hr : rootB t = true) : r1 t ks0 (t.length - 1) 1 = true ↔ ∀ x, 1 ≤ x → x < t.length → okR t x := by
  have R := root_parts hr
  rw [r1_iff t _ ks0 1 (Nat.le_refl _) (by rw [Nat.sub_self, R.2.2.2.1]; omega) (by rw [Nat.sub_self, R.2.2.2.1]; omega) rfl (fun j hj => by
    rw [Nat.sub_self, R.2.2.2.1] at hj
    have : j = 0 := by omega
    subst this
    unfold parGo
    rw [if_pos (by rw [R.2.2.2.1]; omega), R.2.2.1]
    rfl)]
  exact ⟨fun h x h1 h2 => h x h1 (by omega), fun h x h1 h2 => h x h1 (by omega)⟩
theorem okR_valid {t : List SN} (hr : rootB t = true) (h : ∀ x, 1 ≤ x → x < t.length → okR t x) : Valid t := by
  have R := root_parts hr
  exact ⟨R.1, R.2.2.2.1, R.2.2.1, R.2.2.2.2.1, R.2.2.2.2.2, fun i h1 h2 => (form_parts (h i h1 h2).2.2).1, fun i h1 h2 => (h i h1 h2).1, fun i h1 h2 => (form_parts (h i h1 h2).2.2).2.2.1, fun i h1 h2 => by rcases (form_parts (h i h1 h2).2.2).2.1 with q | q; exact .inr q; exact .inl q⟩
theorem go_all {t : List SN} (hr : rootB t = true) : isGo t [(0, [])] (t.length - 1) 1 = true ↔ ∀ x, 1 ≤ x → x < t.length → okN t x := by
  have R := root_parts hr
  rw [go_iff t R.2.2.2.1 _ _ 1 (Nat.le_refl _) (by rw [Nat.sub_self, R.2.2.2.1]; omega) (fun x h1 h2 => by omega) ⟨by rw [Nat.sub_self, R.2.2.2.1]; rfl, fun j hj => ?_, fun j hj => ?_, fun j hj hk s => ?_⟩]
  · exact ⟨fun h x h1 h2 => h x h1 (by omega), fun h x h1 h2 => h x h1 (by omega)⟩
  · have : j = 0 := by simp at hj; omega
    subst this
    show 0 = parGo t _ 1
    unfold parGo
    rw [if_pos (by rw [R.2.2.2.1]; omega)]
  · have : j = 0 := by simp at hj; omega
    subst this
    exact R.2.2.2.1
  · have : j = 0 := by simp at hj; omega
    subst this
    exact ⟨fun h => (by cases h), fun ⟨y, h1, h2, _⟩ => by omega⟩
theorem same_key {s u : ByteArray} : s = u ↔ s.toList = u.toList := ⟨fun h => by rw [h], fun h => by
  rw [ByteArray.toList_eq, ByteArray.toList_eq] at h
  rw [← mkB_of s, ← mkB_of u, h]⟩
theorem ref_is (t : List SN) : refP t = isP t := by
  unfold refP isP
  cases hr : rootB t with
  | false => rfl
  | true =>
    rw [Bool.true_and, Bool.true_and, Bool.eq_iff_iff, Bool.and_eq_true, r1_all hr, r2_iff, go_all hr]
    constructor
    · rintro ⟨h1, h2⟩ x hx1 hx2
      have V := okR_valid hr h1
      obtain ⟨d1, d2, hf⟩ := h1 x hx1 hx2
      obtain ⟨f1, f2, f3, f4⟩ := form_parts hf
      have hfit : fitsB (nd t x) (nd t (x - 1)) = true := by
        unfold fitsB
        simp only [Bool.and_eq_true, Bool.or_eq_true, decide_eq_true_eq, Bool.not_eq_true', decide_eq_false_iff_not, List.isEmpty_iff]
        exact ⟨by omega, d1, d2, f3, f2.symm⟩
      refine ⟨hfit, fun hk => ?_, fun hk => ⟨?_, ?_⟩⟩
      · rcases f4 with ⟨q, _⟩ | ⟨_, q⟩
        · omega
        · exact q
      · rintro ⟨y, hy1, hy2, hy3, hy4⟩
        have hp := par_lt V.d0 hx1 d1
        have k1 : (nd t (par t x)).f0 = 1 := by rcases f4 with ⟨q, _⟩ | ⟨q, _⟩; exact q; exact absurd q hk
        have hpy := par_lt V.d0 hy1 (h1 y hy1 (by omega)).1
        have := (unlike_iff V (by omega)).1 (h2 (par t x) (by omega) (by omega) k1) y x (by omega) hy2 hx2 hy3 rfl
        exact this (same_key.1 hy4)
      · rcases f4 with ⟨_, q⟩ | ⟨q, _⟩
        · omega
        · exact absurd q hk
    · intro h
      have hP : isP t = true := by unfold isP; rw [hr, (go_all hr).2 h]; rfl
      have V := is_valid hP
      refine ⟨fun x h1 h2 => ?_, fun p h1 h2 h3 => ?_⟩
      · obtain ⟨hf, k1, k2⟩ := h x h1 h2
        obtain ⟨f1, f2, f3, f4, f5⟩ := fits_parts hf
        refine ⟨f2, f3, form_of f1 f5.symm f2 f3 f4 ?_⟩
        rcases par_kind V h1 h2 with q | q
        · have := (k2 (by omega)).2
          exact .inl ⟨q, by omega⟩
        · exact .inr ⟨q, k1 q⟩
      · rw [unlike_iff V (by omega)]
        intro x y q1 q2 q3 q4 q5 q6
        obtain ⟨_, _, k2⟩ := h y (by omega) q3
        exact (k2 (by rw [q5]; omega)).1 ⟨x, by omega, q2, by rw [q4, q5], same_key.2 q6⟩
end Go.Proofs.Ytofajjodonhdkaa.Q
