/- Unlike of the document, worked out: no two parts of a node have one key. -/
import Derived.Test.YtofajjodonhdkaaEAKRefP
import Derived.Test.YtofajjodonhdkaaEAQ2
namespace Go.Proofs.Ytofajjodonhdkaa.Q
open Go Go.RowKit Go.Shelf Go.Proofs.YtofajjodonhdkaaW.PrintWords Go.Proofs.YtofajjodonhdkaaW.PrintLast Go.Proofs.YtofajjodonhdkaaW.PrintMore
set_option linter.unusedVariables false
set_option linter.unusedSimpArgs false
set_option linter.unusedSectionVars false
def headI : List Nat → Int
  | [] => -1
  | x :: _ => (x : Int)
theorem refEnd_l (t : List SN) (i : Nat) (hi : i < t.length) (hn : t.length ≤ 1048576) : ∀ (k n : Nat), n + k = t.length → i < n → Ev (fun j => shuttleref4_End.l0 j t (i : Int) (n : Int)) (endFrom t (nd t i).f1 k n : Int)
  | 0, n, h, hl => by
    refine Ev.step (fun j => by rw [shuttleref4_End.l0, if_neg (by omega)]) ?_
    exact Ev.now _
  | k + 1, n, h, hl => by
    refine Ev.step (fun j => by rw [shuttleref4_End.l0, if_pos (by omega), if_pos (by omega), if_pos (by omega), if_pos (by omega), wrN n (by omega)]) ?_
    unfold endFrom
    by_cases hd : (nd t i).f1 < (nd t n).f1
    · rw [if_pos hd]
      refine Ev.congr (fun j => by rw [if_pos (show (rd_T31 t (n : Int)).f1 > (rd_T31 t (i : Int)).f1 from hd)]) ?_
      exact refEnd_l t i hi hn k (n + 1) (by omega) (by omega)
    · rw [if_neg hd]
      refine Ev.congr (fun j => by rw [if_neg (show ¬ (rd_T31 t (n : Int)).f1 > (rd_T31 t (i : Int)).f1 from hd)]) ?_
      exact Ev.now _
theorem refEnd_ev (t : List SN) (i : Nat) (hi : i < t.length) (hn : t.length ≤ 1048576) : Ev (fun j => shuttleref4_End.f j t (i : Int)) (endOf t i : Int) := by
  unfold shuttleref4_End.f
  rw [wrN i (by omega)]
  exact refEnd_l t i hi hn _ _ (by omega) (by omega)
/-- The rest of a node's parts from place n on. -/
def rest (t : List SN) (p n : Nat) : List Nat := partsFrom t (nd t p).f1 (t.length - n) n
theorem rest_head {t : List SN} {p n : Nat} (hn : n ≤ t.length) (hs : n < t.length → (nd t n).f1 ≤ (nd t p).f1 + 1) : headI (rest t p n) = if n < t.length ∧ (nd t n).f1 = (nd t p).f1 + 1 then (n : Int) else -1 := by
  unfold rest
  by_cases h : n < t.length
  · rw [show t.length - n = (t.length - (n + 1)) + 1 by omega, partsFrom]
    have := hs h
    by_cases e : (nd t n).f1 = (nd t p).f1 + 1
    · rw [if_pos (by omega), if_pos e, if_pos ⟨h, e⟩]
      rfl
    · rw [if_neg (by omega), if_neg (fun q => e q.2)]
      rfl
  · rw [show t.length - n = 0 by omega, if_neg (fun q => h q.1)]
    rfl
theorem rest_tail (t : List SN) (p : Nat) : ∀ (m n : Nat), t.length - n ≤ m → ∀ x l, rest t p n = x :: l → l = rest t p (x + 1) ∧ n ≤ x ∧ x < t.length ∧ (nd t x).f1 = (nd t p).f1 + 1
  | 0, n, hm, x, l, h => by
    unfold rest at h
    rw [show t.length - n = 0 by omega] at h
    cases h
  | m + 1, n, hm, x, l, h => by
    by_cases hn : n < t.length
    · have e : t.length - n = (t.length - (n + 1)) + 1 := by omega
      unfold rest at h
      rw [e, partsFrom] at h
      split at h
      case isTrue hd =>
        split at h
        case isTrue hd2 =>
          injection h with h1 h2
          subst h1
          exact ⟨h2.symm, Nat.le_refl _, hn, hd2⟩
        case isFalse =>
          obtain ⟨h1, h2, h3⟩ := rest_tail t p m (n + 1) (by omega) x l h
          exact ⟨h1, by omega, h3⟩
      case isFalse => cases h
    · unfold rest at h
      rw [show t.length - n = 0 by omega] at h
      cases h
theorem rest_skip (t : List SN) (p x : Nat) (hx : x < t.length) (hd : (nd t x).f1 = (nd t p).f1 + 1) : rest t p (x + 1) = rest t p (endOf t x) := by
  unfold rest endOf
  have h := partsFrom_skip t (nd t p).f1 (t.length - (x + 1)) (x + 1)
  rw [← hd, show x + 1 + (t.length - (x + 1)) = t.length by omega] at h
  exact h
section
variable {t : List SN} {p : Nat} (V : Valid t) (D : ∀ i, i < t.length → 0 ≤ (nd t i).f1 ∧ (nd t i).f1 ≤ 32) (hn : t.length ≤ 1048576) (hp : p < t.length)
include V D hn hp
theorem wrD : wrap64 ((rd_T31 t (p : Int)).f1 + 1) = (nd t p).f1 + 1 := by
  have := D p hp
  show wrap64 ((nd t p).f1 + 1) = _
  unfold wrap64
  omega
theorem next_first : Ev (fun k => shuttleref4_Next.f k t (p : Int) (p : Int)) (headI (rest t p (p + 1))) := by
  rw [rest_head (by omega) (fun h => by have := V.step (p + 1) (by omega) h; rw [Nat.add_sub_cancel] at this; omega)]
  obtain ⟨v, hv⟩ : ∃ v : Int, v = (if p + 1 < t.length ∧ (nd t (p + 1)).f1 = (nd t p).f1 + 1 then ((p + 1 : Nat) : Int) else -1) := ⟨_, rfl⟩
  rw [← hv]
  unfold shuttleref4_Next.f
  refine Ev.congr (fun k => by rw [if_pos rfl, wrN p (by omega), wrD V D hn hp]) ?_
  by_cases h : p + 1 < t.length
  · refine Ev.congr (fun k => by rw [if_pos (by omega), if_pos (by omega), if_pos (by omega), if_pos (by omega)]) ?_
    by_cases e : (nd t (p + 1)).f1 = (nd t p).f1 + 1
    · rw [if_pos ⟨h, e⟩] at hv; subst hv
      refine Ev.congr (fun k => by rw [if_pos (show (rd_T31 t ((p + 1 : Nat) : Int)).f1 = _ from e)]) ?_
      exact Ev.now _
    · rw [if_neg (fun q => e q.2)] at hv; subst hv
      refine Ev.congr (fun k => by rw [if_neg (show ¬ (rd_T31 t ((p + 1 : Nat) : Int)).f1 = _ from e)]) ?_
      exact Ev.now _
  · rw [if_neg (fun q => h q.1)] at hv; subst hv
    refine Ev.congr (fun k => by rw [if_neg (by omega)]) ?_
    exact Ev.now _
theorem next_part (x : Nat) (hx : p < x) (hl : x < t.length) (hd : (nd t x).f1 = (nd t p).f1 + 1) : Ev (fun k => shuttleref4_Next.f k t (p : Int) (x : Int)) (headI (rest t p (x + 1))) := by
  have hle := endFrom_le t (nd t x).f1 (t.length - (x + 1)) (x + 1)
  have hst := endFrom_stop t (nd t x).f1 (t.length - (x + 1)) (x + 1)
  have he : endOf t x = endFrom t (nd t x).f1 (t.length - (x + 1)) (x + 1) := rfl
  rw [← he] at hle hst
  rw [rest_skip t p x hl hd, rest_head (by omega) (fun h => by rcases hst with h2 | h2; omega; omega)]
  obtain ⟨v, hv⟩ : ∃ v : Int, v = (if endOf t x < t.length ∧ (nd t (endOf t x)).f1 = (nd t p).f1 + 1 then ((endOf t x : Nat) : Int) else -1) := ⟨_, rfl⟩
  rw [← hv]
  unfold shuttleref4_Next.f
  refine Ev.congr (fun k => by rw [if_neg (show ¬ (x : Int) = (p : Int) by omega)]) ?_
  refine Ev.bind (refEnd_ev t x hl hn) ?_
  rw [wrD V D hn hp]
  generalize endOf t x = e at hle hst hv ⊢
  by_cases h : e < t.length
  · refine Ev.congr (fun k => by rw [if_pos (by omega), if_pos (by omega), if_pos (by omega), if_pos (by omega)]) ?_
    by_cases e2 : (nd t e).f1 = (nd t p).f1 + 1
    · rw [if_pos ⟨h, e2⟩] at hv; subst hv
      refine Ev.congr (fun k => by rw [if_pos (show (rd_T31 t (e : Int)).f1 = _ from e2)]) ?_
      exact Ev.now _
    · rw [if_neg (fun q => e2 q.2)] at hv; subst hv
      refine Ev.congr (fun k => by rw [if_neg (show ¬ (rd_T31 t (e : Int)).f1 = _ from e2)]) ?_
      exact Ev.now _
  · rw [if_neg (fun q => h q.1)] at hv; subst hv
    refine Ev.congr (fun k => by rw [if_neg (by omega)]) ?_
    exact Ev.now _
theorem unl_l1 (a : Nat) (ha : p < a) (hal : a < t.length) (had : (nd t a).f1 = (nd t p).f1 + 1) (R : Bool) (hR : Ev (fun k => shuttleref4_unlike.l0 k t (p : Int) (headI (rest t p (a + 1)))) R) :
    ∀ (l : List Nat) (n : Nat), l = rest t p n → p < n → Ev (fun k => shuttleref4_unlike.l1 k t (p : Int) (a : Int) (headI l)) (l.all (fun y => !decide (keyL t a = keyL t y)) && R)
  | [], n, h, hn1 => by
    refine Ev.step (fun k => by rw [shuttleref4_unlike.l1, if_neg (by show ¬ (-1 : Int) ≥ 0; decide)]) ?_
    refine Ev.bind (next_part V D hn hp a ha hal had) ?_
    exact hR
  | y :: l, n, h, hn1 => by
    obtain ⟨h1, h2, h3, h4⟩ := rest_tail t p (t.length - n) n (Nat.le_refl _) y l h.symm
    refine Ev.step (fun k => by rw [shuttleref4_unlike.l1, if_pos (show headI (y :: l) ≥ 0 by show (y : Int) ≥ 0; omega), if_pos (by omega), if_pos (by omega), if_pos (show 0 ≤ headI (y :: l) by show 0 ≤ (y : Int); omega), if_pos (show headI (y :: l) < _ by show (y : Int) < _; omega)]) ?_
    rw [List.all_cons]
    by_cases e : keyL t a = keyL t y
    · refine Ev.congr (fun k => by rw [if_pos (show (rd_T31 t (a : Int)).f2.toList = (rd_T31 t (headI (y :: l))).f2.toList from e)]) ?_
      rw [decide_eq_true e]
      exact Ev.now _
    · refine Ev.congr (fun k => by rw [if_neg (show ¬ (rd_T31 t (a : Int)).f2.toList = (rd_T31 t (headI (y :: l))).f2.toList from e)]) ?_
      rw [decide_eq_false e]
      refine Ev.bind (next_part V D hn hp y (by omega) h3 h4) ?_
      rw [← h1]
      exact unl_l1 a ha hal had R hR l (y + 1) h1 (by omega)
theorem unl_l0 : ∀ (l : List Nat) (n : Nat), l = rest t p n → p < n → Ev (fun k => shuttleref4_unlike.l0 k t (p : Int) (headI l)) (uniqB t l)
  | [], n, h, hn1 => by
    refine Ev.step (fun k => by rw [shuttleref4_unlike.l0, if_neg (by show ¬ (-1 : Int) ≥ 0; decide)]) ?_
    exact Ev.now _
  | a :: l, n, h, hn1 => by
    obtain ⟨h1, h2, h3, h4⟩ := rest_tail t p (t.length - n) n (Nat.le_refl _) a l h.symm
    have ih := unl_l0 l (a + 1) h1 (by omega)
    refine Ev.step (fun k => by rw [shuttleref4_unlike.l0, if_pos (show headI (a :: l) ≥ 0 by show (a : Int) ≥ 0; omega)]) ?_
    refine Ev.bind (next_part V D hn hp a (by omega) h3 h4) ?_
    rw [← h1]
    exact unl_l1 V D hn hp a (by omega) h3 h4 (uniqB t l) (by rw [← h1]; exact ih) l (a + 1) h1 (by omega)
theorem unlike_ev : Ev (fun k => shuttleref4_unlike.f k t (p : Int)) (unlikeB t p) := by
  unfold shuttleref4_unlike.f
  refine Ev.bind (next_first V D hn hp) ?_
  exact unl_l0 V D hn hp _ (p + 1) rfl (by omega)
end
end Go.Proofs.Ytofajjodonhdkaa.Q
