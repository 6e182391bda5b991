/- A text without a dollar says all its bytes. -/
import Derived.Test.YtfkibolpanlelaaBAVGiv
namespace Go.Proofs.Ytfkibolpanlelaa.Q
open Go Go.RowKit Go.Shelf Go.Proofs.YtfkibolpanlelaaW.PrintWords Go.Proofs.YtfkibolpanlelaaW.PrintLast Go.Proofs.YtfkibolpanlelaaW.PrintMore Go.Proofs.Ytfkibolpanlelaa.SMap
set_option linter.unusedVariables false
set_option linter.unusedSimpArgs false
theorem piecesP_plain {σ : Type} {F : σ → Int → Nat → Except Er σ} {G : σ → ByteArray → Nat → Except Er σ} {e : ByteArray} (acc : Nat → σ) (hne : ∀ i, i < e.size → bt e (i : Int) ≠ 36) (hF : ∀ k, k < e.size → F (acc k) (bt e (k : Int)) k = .ok (acc (k + 1))) :
    ∀ d k, k ≤ e.size → e.size < k + d → piecesP F G e d k (acc k) = .ok (acc e.size)
  | 0, k, h1, h2 => by omega
  | d + 1, k, h1, h2 => by
    by_cases h : k < e.size
    · rw [piecesP_ok (t := acc (k + 1)) (j := k + 1) h (by unfold stepP; rw [if_pos (hne k h), hF k h])]
      exact piecesP_plain acc hne hF d (k + 1) (by omega) (by omega)
    · obtain rfl : k = e.size := by omega
      rw [piecesP_end _ _ _ _ _ _ (Nat.le_refl _)]
theorem bytes_take (e : ByteArray) (k : Nat) (h : k < e.size) : (bytesOf e).take (k + 1) = (bytesOf e).take k ++ [bt e (k : Int)] := by
  have hl : k < (bytesOf e).length := by rw [bytesOf_length]; exact h
  rw [List.take_succ_eq_append_getElem hl]
  congr 1
  have := rd_bytesOf e (k : Int)
  rw [← this]
  simp [rd, hl]
/-- A text without a dollar, worked out: itself. -/
theorem plain_w {G : WS → ByteArray → Nat → Except Er WS} (e : ByteArray) (hne : ∀ i, i < e.size → bt e (i : Int) ≠ 36) (hl : e.size ≤ 4096) (x : Int × DN) : piecesOf wkF G e ([], x) = .ok (bytesOf e, x) := by
  have := piecesP_plain (F := wkF) (G := G) (fun k => ((bytesOf e).take k, x)) hne (fun k h => by
    have hk : ((bytesOf e).take k ++ [bt e (k : Int)]).length = k + 1 := by rw [← bytes_take e k h, List.length_take, bytesOf_length]; omega
    unfold wkF
    rw [if_neg (by rw [hk]; omega), bytes_take e k h]) (e.size + 1) 0 (Nat.zero_le _) (by omega)
  unfold piecesOf
  rw [List.take_zero] at this
  rw [this, List.take_of_length_le (by rw [bytesOf_length]; exact Nat.le_refl _)]
end Go.Proofs.Ytfkibolpanlelaa.Q
