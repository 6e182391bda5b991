/- Whether two lists of variables are the same, as a plain function. -/
import Derived.Test.YtdgllnaeookddaaDAGCounts
namespace Go.Proofs.Ytdgllnaeookddaa.Q
open Go.RowKit Go.Proofs.YtdgllnaeookddaaW.PrintWords Go.Proofs.YtdgllnaeookddaaW.PrintLast Go.Proofs.YtdgllnaeookddaaW.PrintMore
set_option linter.unusedVariables false
set_option linter.unusedSimpArgs false
def sameR : List SV → List SV → Bool
  | [], [] => true
  | a :: r, b :: s => (a.f0.toList == b.f0.toList && a.f1.toList == b.f1.toList) && sameR r s
  | _, _ => false
theorem sameR_self : ∀ l : List SV, sameR l l = true
  | [] => rfl
  | a :: r => by simp [sameR, sameR_self r]
theorem sameR_len : ∀ a b : List SV, a.length ≠ b.length → sameR a b = false
  | [], [], h => absurd rfl h
  | [], b :: s, h => rfl
  | a :: r, [], h => rfl
  | a :: r, b :: s, h => by
    have := sameR_len r s (by simpa using h)
    simp [sameR, this]
theorem sv_l0 (a b : List SV) (hl : a.length = b.length) (hn : a.length ≤ 1048576) : ∀ (d i : Nat), i + d = a.length → Ev (fun k => shuttlelaw0_SameVars.l0 k a b (i : Int)) (sameR (a.drop i) (b.drop i))
  | 0, i, h => by
    refine Ev.step (fun k => by rw [shuttlelaw0_SameVars.l0, if_neg (by omega)]) ?_
    rw [List.drop_eq_nil_of_le (by omega), List.drop_eq_nil_of_le (by omega)]
    exact Ev.now _
  | d + 1, i, h => by
    have hi : i < a.length := by omega
    have hj : i < b.length := by omega
    refine Ev.step (fun k => by rw [shuttlelaw0_SameVars.l0, if_pos (by omega), if_pos (by omega), if_pos (by omega), rd_var a i hi, rd_var b i hj, wrap_succ (n := a.length) (by omega) (by omega) (by omega)]) ?_
    rw [List.drop_eq_getElem_cons hi, List.drop_eq_getElem_cons hj]
    show Ev _ ((a[i].f0.toList == b[i].f0.toList && a[i].f1.toList == b[i].f1.toList) && _)
    cases h1 : a[i].f0.toList == b[i].f0.toList with
    | false => exact Ev.congr (fun k => by rw [if_pos (by simp)]; rfl) (Ev.now _)
    | true =>
      cases h2 : a[i].f1.toList == b[i].f1.toList with
      | false => exact Ev.congr (fun k => by rw [if_pos (by simp)]; rfl) (Ev.now _)
      | true => exact Ev.congr (fun k => by rw [if_neg (by simp)]; rfl) (sv_l0 a b hl hn d (i + 1) (by omega))
theorem sv_ev (a b : List SV) (hn : a.length ≤ 1048576) : Ev (fun k => shuttlelaw0_SameVars.f k a b) (sameR a b) := by
  unfold shuttlelaw0_SameVars.f
  by_cases hl : a.length = b.length
  · exact Ev.congr (fun k => by rw [if_pos (by omega)]; rfl) (sv_l0 a b hl hn a.length 0 (by omega))
  · rw [sameR_len a b hl]
    exact Ev.congr (fun k => by rw [if_neg (by omega)]) (Ev.now _)
theorem sameR_eq : ∀ a b : List SV, sameR a b = true → a = b
  | [], [], _ => rfl
  | [], _ :: _, h => by cases h
  | _ :: _, [], h => by cases h
  | a :: r, b :: s, h => by
    unfold sameR at h
    rw [Bool.and_eq_true] at h
    have h1 : eqV a b = true := h.1
    obtain ⟨e1, e2⟩ := eqV_iff.1 h1
    rw [sameR_eq r s h.2]
    congr 1
    cases a; cases b
    simp only at e1 e2
    rw [e1, e2]
theorem sameR_ne {a b : List SV} (h : a ≠ b) : sameR a b = false := by
  cases hs : sameR a b with
  | false => rfl
  | true => exact absurd (sameR_eq a b hs) h
theorem over_len (p : List SV) : (Ov.overB [p]).length ≤ p.length := by
  have h1 := (Ov.sort_perm (Ov.overL ([p] : List (List SV)).flatten)).length_eq
  have h2 := Ov.len_over ([p] : List (List SV)).flatten
  have h3 : ([p] : List (List SV)).flatten = p := by simp
  rw [h3] at h1 h2
  unfold Ov.overB
  rw [h3]
  omega
theorem over_some {p : List SV} (h : p.length ≤ 1048576) : vars_Overlay.f [p] = some (Ov.overB [p]) := by
  have h3 : ([p] : List (List SV)).flatten = p := by simp
  refine if_pos ?_
  unfold Ov.ovSmall
  rw [h3]
  exact decide_eq_true (by omega)
end Go.Proofs.Ytdgllnaeookddaa.Q
