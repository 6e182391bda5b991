/- A chain of references, link by link. -/
import Derived.Test.YtfkibolpanlelaaAAVPlain
import Derived.KernelRfl
namespace Go.Proofs.Ytfkibolpanlelaa.Q
open Go Go.RowKit Go.Shelf Go.Proofs.YtfkibolpanlelaaW.PrintWords Go.Proofs.YtfkibolpanlelaaW.PrintLast Go.Proofs.YtfkibolpanlelaaW.PrintMore Go.Proofs.Ytfkibolpanlelaa.SMap
set_option linter.unusedVariables false
set_option linter.unusedSimpArgs false
/-- The name of link j, and its text: a reference to the next one in pointed brackets. -/
def nmJ (j : Nat) : ByteArray := ⟨#[(65 + j).toUInt8]⟩
def txtJ (j : Nat) : ByteArray := ⟨#[60, 36, 123, (66 + j).toUInt8, 125, 62]⟩
def linkOk (j : Nat) : Bool := decide (bt (txtJ j) 0 = 60) && decide (bt (txtJ j) 1 = 36) && decide (bt (txtJ j) 5 = 62) && !prefAt (txtJ j) 1 [36, 36] && refOk (txtJ j) 1 && decide (nameAt (txtJ j) 1 = nmJ (j + 1)) && decide ((nmJ (j + 1)).size = 1)
theorem links_ok : (List.range 25).all linkOk = true := by kernel_rfl
theorem link_ok {j : Nat} (h : j < 25) : bt (txtJ j) 0 = 60 ∧ bt (txtJ j) 1 = 36 ∧ bt (txtJ j) 5 = 62 ∧ prefAt (txtJ j) 1 [36, 36] = false ∧ refOk (txtJ j) 1 = true ∧ nameAt (txtJ j) 1 = nmJ (j + 1) ∧ (nmJ (j + 1)).size = 1 := by
  have := List.all_eq_true.1 links_ok j (List.mem_range.2 h)
  unfold linkOk at this
  simp only [Bool.and_eq_true, decide_eq_true_eq, Bool.not_eq_true'] at this
  obtain ⟨⟨⟨⟨⟨⟨a, b⟩, c⟩, d⟩, e⟩, f⟩, g⟩ := this
  exact ⟨a, b, c, d, e, f, g⟩
theorem step0 (G : WS → ByteArray → Nat → Except Er WS) {j : Nat} (h : j < 25) (x : Int × DN) : stepP wkF G (txtJ j) 0 ([], x) = (.ok ([60], x), 1) := by
  have hl := link_ok h
  unfold stepP
  rw [show ((0 : Nat) : Int) = 0 from rfl, hl.1, if_pos (by decide)]
  rfl
theorem step1 (G : WS → ByteArray → Nat → Except Er WS) {j : Nat} (h : j < 25) (st : WS) : stepP wkF G (txtJ j) 1 st = (G st (nmJ (j + 1)) 1, 5) := by
  have hl := link_ok h
  unfold stepP
  rw [show ((1 : Nat) : Int) = 1 from rfl, hl.2.1, if_neg (by decide), if_neg (by rw [hl.2.2.2.1]; decide), if_pos hl.2.2.2.2.1, hl.2.2.2.2.2.1, hl.2.2.2.2.2.2]
theorem step5 (G : WS → ByteArray → Nat → Except Er WS) {j : Nat} (h : j < 25) (bs : List Int) (x : Int × DN) (hb : bs.length < 4096) : stepP wkF G (txtJ j) 5 (bs, x) = (.ok (bs ++ [62], x), 6) := by
  have hl := link_ok h
  unfold stepP
  rw [show ((5 : Nat) : Int) = 5 from rfl, hl.2.2.1, if_pos (by decide)]
  unfold wkF
  rw [if_neg (by rw [List.length_append]; simp; omega)]
theorem txt_size (j : Nat) : (txtJ j).size = 6 := rfl
theorem link_good {G : WS → ByteArray → Nat → Except Er WS} {j : Nat} (h : j < 25) {x y : Int × DN} {bs : List Int} (hG : G ([60], x) (nmJ (j + 1)) 1 = .ok (bs, y)) (hb : bs.length < 4096) : piecesOf wkF G (txtJ j) ([], x) = .ok (bs ++ [62], y) := by
  unfold piecesOf
  rw [show (txtJ j).size + 1 = 7 from rfl]
  rw [piecesP_ok (show 0 < (txtJ j).size from by rw [txt_size]; decide) (step0 G h x)]
  rw [piecesP_ok (t := (bs, y)) (j := 5) (show 1 < (txtJ j).size from by rw [txt_size]; decide) (by rw [step1 G h, hG])]
  rw [piecesP_ok (show 5 < (txtJ j).size from by rw [txt_size]; decide) (step5 G h bs y hb)]
  exact piecesP_end _ _ _ _ _ _ (Nat.le_refl _)
theorem link_bad {G : WS → ByteArray → Nat → Except Er WS} {j : Nat} (h : j < 25) {x : Int × DN} {z : Er} (hG : G ([60], x) (nmJ (j + 1)) 1 = .error z) : piecesOf wkF G (txtJ j) ([], x) = .error z := by
  unfold piecesOf
  rw [show (txtJ j).size + 1 = 7 from rfl]
  rw [piecesP_ok (show 0 < (txtJ j).size from by rw [txt_size]; decide) (step0 G h x)]
  exact piecesP_err (j := 5) (show 1 < (txtJ j).size from by rw [txt_size]; decide) (by rw [step1 G h, hG])
end Go.Proofs.Ytfkibolpanlelaa.Q
