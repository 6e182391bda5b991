/- Counting through a product: the places of an odometer, how it goes on, and that its n-th state is n's digits. -/
import Derived.Test.YtdgllnaeookddaaDAQ0
namespace Go.Proofs.Ytdgllnaeookddaa.Q
open Go.RowKit Go.Proofs.YtdgllnaeookddaaW.PrintWords
set_option linter.unusedVariables false
set_option linter.unusedSimpArgs false
def prodL : List Nat → Nat
  | [] => 1
  | k :: r => k * prodL r
def digitsR : List Nat → Nat → List Nat
  | [], _ => []
  | k :: r, n => (n / prodL r) % k :: digitsR r n
def carryF : List Nat → List Nat → Bool × List Nat
  | [], _ => (true, [])
  | _ :: _, [] => (true, [])
  | k :: ls, d :: ds => let x := carryF ls ds; if x.1 then (if d + 1 = k then (true, 0 :: x.2) else (false, (d + 1) :: x.2)) else (false, d :: x.2)
theorem digitsR_length (ls : List Nat) (n : Nat) : (digitsR ls n).length = ls.length := by
  induction ls with
  | nil => rfl
  | cons k r ih => simp [digitsR, ih]
theorem prodL_pos {ls : List Nat} (h : ∀ k ∈ ls, 0 < k) : 0 < prodL ls := by
  induction ls with
  | nil => simp [prodL]
  | cons k r ih => exact Nat.mul_pos (h k (by simp)) (ih fun x hx => h x (by simp [hx]))
theorem succ_div_mod {n P : Nat} (hP : 0 < P) (h : (n + 1) % P = 0) : (n + 1) / P = n / P + 1 := by
  obtain ⟨q, hq⟩ := Nat.dvd_of_mod_eq_zero h
  rw [hq, Nat.mul_div_cancel_left _ hP]
  have hq0 : 0 < q := by
    rcases Nat.eq_zero_or_pos q with e | e
    · subst e; simp at hq
    · exact e
  have : n / P = q - 1 := by
    have e : n = P * (q - 1) + (P - 1) := by
      have : P * q = P * (q - 1) + P := by rw [← Nat.mul_succ]; congr 1; omega
      omega
    rw [e, Nat.mul_add_div hP, Nat.div_eq_of_lt (by omega)]
    omega
  omega
theorem succ_div_same {n P : Nat} (hP : 0 < P) (h : (n + 1) % P ≠ 0) : (n + 1) / P = n / P := by
  rw [Nat.succ_div]
  rw [if_neg (fun hd => h (Nat.mod_eq_zero_of_dvd hd))]
  rfl
theorem carry_digits {ls : List Nat} (h : ∀ k ∈ ls, 0 < k) (n : Nat) : carryF ls (digitsR ls n) = (decide ((n + 1) % prodL ls = 0), digitsR ls (n + 1)) := by
  induction ls with
  | nil => simp [carryF, digitsR, prodL, Nat.mod_one]
  | cons k r ih =>
    have hk : 0 < k := h k (by simp)
    have hr := prodL_pos (fun x hx => h x (by simp [hx]) : ∀ x ∈ r, 0 < x)
    have ih := ih (fun x hx => h x (by simp [hx]))
    simp only [carryF, digitsR, prodL, ih]
    by_cases h1 : (n + 1) % prodL r = 0
    · have e := succ_div_mod hr h1
      simp only [h1, decide_true, if_true, e]
      by_cases h2 : n / prodL r % k + 1 = k
      · have e1 : (n / prodL r + 1) % k = 0 := by
          rw [← Nat.mod_add_mod, h2, Nat.mod_self]
        have e2 : (n + 1) % (k * prodL r) = 0 := by
          rw [Nat.mul_comm, Nat.mod_mul, h1, e, e1]; simp
        simp [h2, e1, e2]
      · have hlt : n / prodL r % k < k := Nat.mod_lt _ hk
        have e1 : (n / prodL r + 1) % k = n / prodL r % k + 1 := by
          rw [← Nat.mod_add_mod, Nat.mod_eq_of_lt (by omega)]
        have e2 : (n + 1) % (k * prodL r) ≠ 0 := by
          rw [Nat.mul_comm, Nat.mod_mul, h1, e, e1, Nat.zero_add]
          exact Nat.ne_of_gt (Nat.mul_pos hr (by omega))
        simp [h2, e1, e2]
    · have e := succ_div_same hr h1
      have e2 : (n + 1) % (k * prodL r) ≠ 0 := by
        rw [Nat.mul_comm, Nat.mod_mul]; omega
      simp [h1, e, e2]
theorem digitsR_zero (ls : List Nat) : digitsR ls 0 = List.replicate ls.length 0 := by
  induction ls with
  | nil => rfl
  | cons k r ih => simp [digitsR, ih, List.replicate_succ]
theorem digits_lt {ls : List Nat} (h : ∀ k ∈ ls, 0 < k) (n i : Nat) (hi : i < ls.length) : (digitsR ls n).getD i 0 < ls.getD i 0 := by
  induction ls generalizing i with
  | nil => simp at hi
  | cons k r ih =>
    cases i with
    | zero => simpa [digitsR] using Nat.mod_lt _ (h k (by simp))
    | succ i => simpa [digitsR] using ih (fun x hx => h x (by simp [hx])) i (by simpa using hi)
/-- The tail from i on has run over and stands at 0. -/
def RunOver (ls at0 : List Nat) (i : Nat) : Prop := carryF (ls.drop i) (at0.drop i) = (true, List.replicate (ls.length - i) 0)
theorem runOver_end (ls at0 : List Nat) (h : at0.length = ls.length) : RunOver ls at0 ls.length := by
  unfold RunOver
  rw [List.drop_eq_nil_of_le (Nat.le_refl _), Nat.sub_self]
  rfl
theorem runOver_step {ls at0 : List Nat} {i : Nat} (h : RunOver ls at0 (i + 1)) (hl : at0.length = ls.length) (hi : i < ls.length) (hm : at0.getD i 0 + 1 = ls.getD i 0) : RunOver ls at0 i := by
  unfold RunOver at h ⊢
  rw [List.drop_eq_getElem_cons hi, List.drop_eq_getElem_cons (by omega : i < at0.length)]
  simp only [List.getD_eq_getElem?_getD, List.getElem?_eq_getElem hi, List.getElem?_eq_getElem (by omega : i < at0.length), Option.getD_some] at hm
  simp only [carryF, h, if_true, hm]
  congr 1
  have : ls.length - i = (ls.length - (i + 1)) + 1 := by omega
  rw [this, List.replicate_succ]
theorem carry_prefix : ∀ (ls at0 : List Nat) (i : Nat) (x : List Nat), at0.length = ls.length → i ≤ ls.length → carryF (ls.drop i) (at0.drop i) = (false, x) → carryF ls at0 = (false, at0.take i ++ x)
  | _, _, 0, x, _, _, h => by simpa using h
  | [], _, i + 1, x, _, hi, _ => by simp at hi
  | _ :: _, [], i + 1, x, hl, _, _ => by simp at hl
  | k :: ls, d :: ds, i + 1, x, hl, hi, h => by
    have := carry_prefix ls ds i x (by simpa using hl) (by simpa using hi) (by simpa using h)
    simp [carryF, this]
theorem carry_stop {ls at0 : List Nat} {i : Nat} (h : RunOver ls at0 (i + 1)) (hl : at0.length = ls.length) (hi : i < ls.length) (hm : at0.getD i 0 + 1 ≠ ls.getD i 0) :
    carryF ls at0 = (false, at0.take i ++ ((at0.getD i 0 + 1) :: List.replicate (ls.length - (i + 1)) 0)) := by
  refine carry_prefix ls at0 i _ hl (by omega) ?_
  unfold RunOver at h
  rw [List.drop_eq_getElem_cons hi, List.drop_eq_getElem_cons (by omega : i < at0.length)]
  simp only [List.getD_eq_getElem?_getD, List.getElem?_eq_getElem hi, List.getElem?_eq_getElem (by omega : i < at0.length), Option.getD_some] at hm ⊢
  simp only [carryF, h, if_true, hm, if_false]
theorem carry_all {ls at0 : List Nat} (h : RunOver ls at0 0) : carryF ls at0 = (true, List.replicate ls.length 0) := by
  unfold RunOver at h
  simpa using h
abbrev AX := List S46
def lens (axes : AX) : List Nat := axes.map fun a => a.f1.length
def pickOf (axes : AX) (at_ : List Nat) : List S51 := List.zipWith (fun a d => (⟨a.f0, a.f1.getD d ByteArray.empty⟩ : S51)) axes at_
theorem lens_length (axes : AX) : (lens axes).length = axes.length := by simp [lens]
theorem pickOf_length (axes : AX) (at_ : List Nat) (h : at_.length = axes.length) : (pickOf axes at_).length = axes.length := by simp [pickOf, h]
theorem pickOf_take (axes : AX) (at_ : List Nat) (h : at_.length = axes.length) (k : Nat) (hk : k < axes.length) :
    (pickOf axes at_).take (k + 1) = (pickOf axes at_).take k ++ [(⟨(axes.getD k z46).f0, (axes.getD k z46).f1.getD (at_.getD k 0) ByteArray.empty⟩ : S51)] := by
  have hlen : k < (pickOf axes at_).length := by rw [pickOf_length _ _ h]; exact hk
  rw [List.take_succ_eq_append_getElem hlen]
  congr 2
  simp [pickOf, hk, h]
def leftB (axes : AX) : Bool := decide (0 < axes.length) && axes.all fun a => decide (0 < a.f1.length)
/-- All picks of some axes, in order. -/
def allPicks (axes : AX) : List (List S51) := if axes.length = 0 then [] else (List.range (prodL (lens axes))).map fun n => pickOf axes (digitsR (lens axes) n)
end Go.Proofs.Ytdgllnaeookddaa.Q
