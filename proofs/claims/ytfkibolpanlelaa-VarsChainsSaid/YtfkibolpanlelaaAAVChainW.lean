/- A chain of references, worked out from its end. -/
import Derived.Test.YtfkibolpanlelaaAAVChain
namespace Go.Proofs.Ytfkibolpanlelaa.Q
open Go Go.RowKit Go.Shelf Go.Proofs.YtfkibolpanlelaaW.PrintWords Go.Proofs.YtfkibolpanlelaaW.PrintLast Go.Proofs.YtfkibolpanlelaaW.PrintMore Go.Proofs.Ytfkibolpanlelaa.SMap
set_option linter.unusedVariables false
set_option linter.unusedSimpArgs false
def textC (k : Nat) (e : ByteArray) (j : Nat) : ByteArray := if j = k then e else txtJ j
def wrapE (e : ByteArray) : Nat → ByteArray
  | 0 => e
  | m + 1 => ((⟨#[60]⟩ : ByteArray) ++ wrapE e m) ++ (⟨#[62]⟩ : ByteArray)
theorem wrap_size (e : ByteArray) : ∀ m, (wrapE e m).size = e.size + 2 * m
  | 0 => rfl
  | m + 1 => by
    show (((⟨#[60]⟩ : ByteArray) ++ wrapE e m) ++ (⟨#[62]⟩ : ByteArray)).size = _
    rw [ByteArray.size_append, ByteArray.size_append, wrap_size e m]
    show 1 + _ + 1 = _
    omega
theorem nums_bytes (s : ByteArray) : strOfNums (bytesOf s) = s := by
  have hid : ((fun n : Int => UInt8.ofNat n.toNat) ∘ fun b : UInt8 => (b.toNat : Int)) = id := by
    funext b
    simp
  apply ByteArray.ext
  simp [strOfNums, bytesOf, hid]
theorem nums_append (a b : List Int) : strOfNums (a ++ b) = strOfNums a ++ strOfNums b := by
  apply ByteArray.ext
  simp [strOfNums, ByteArray.data_append]
theorem nums_wrap (w : ByteArray) : strOfNums (([60] ++ bytesOf w) ++ [62]) = ((⟨#[60]⟩ : ByteArray) ++ w) ++ (⟨#[62]⟩ : ByteArray) := by
  rw [nums_append, nums_append, nums_bytes]
  rfl
def nmsOk : Bool := (List.range 26).all fun i => (List.range 26).all fun j => decide (i = j) || !decide (nmJ i = nmJ j)
theorem nms_ok : nmsOk = true := by kernel_rfl
theorem nm_ne {i j : Nat} (hi : i < 26) (hj : j < 26) (h : i ≠ j) : nmJ i ≠ nmJ j := by
  have h1 := List.all_eq_true.1 nms_ok i (List.mem_range.2 hi)
  have h2 := List.all_eq_true.1 h1 j (List.mem_range.2 hj)
  rw [Bool.or_eq_true] at h2
  rcases h2 with h2 | h2
  · exact absurd (of_decide_eq_true h2) h
  · rw [Bool.not_eq_true'] at h2
    exact of_decide_eq_false h2
/-- The variables of a chain, as far as a working out asks. -/
structure RawC (raw : List SV) (k : Nat) (e : ByteArray) : Prop where
  at_ : ∀ j, j ≤ k → findV raw (nmJ j) = some ⟨nmJ j, textC k e j⟩
theorem chain_good {raw : List SV} {k : Nat} {e : ByteArray} (hr : RawC raw k e) (hk : k < 25) (hne : ∀ i, i < e.size → bt e (i : Int) ≠ 36) (hl : e.size ≤ 200) :
    ∀ (m : Nat) (j f : Nat) (dn : DN), m ≤ 16 → j + m = k → m < f → (∀ i, j ≤ i → i ≤ k → getDn dn (nmJ i) = none) →
      ∃ dn', workP raw f dn (nmJ j) = .ok (⟨wrapE e m, m, false⟩, dn') ∧ ∀ i, j ≤ i → i ≤ k → getDn dn' (nmJ i) = some ⟨wrapE e (k - i), ((k - i : Nat) : Int), false⟩
  | 0, j, f + 1, dn, hm, hj, hf, hd => by
    obtain rfl : j = k := by omega
    refine ⟨setDn (setDn dn (nmJ j) ⟨⟨#[]⟩, 0, true⟩) (nmJ j) ⟨e, 0, false⟩, ?_, fun i h1 h2 => ?_⟩
    · rw [workP, hr.at_ j (Nat.le_refl _)]
      show (match piecesOf wkF (wkG (workP raw f) raw) (textC j e j) ([], 0, setDn dn (nmJ j) ⟨⟨#[]⟩, 0, true⟩) with | .error x => _ | .ok st => _) = _
      rw [textC, if_pos rfl, plain_w e hne (by omega)]
      show Except.ok (VD.mk (strOfNums (bytesOf e)) 0 false, _) = _
      rw [nums_bytes]
      rfl
    · obtain rfl : i = j := by omega
      rw [getDn_same, Nat.sub_self]
      rfl
  | m + 1, j, f + 1, dn, hm, hj, hf, hd => by
    have hjk : j ≠ k := by omega
    obtain ⟨dn2, hw, hd2⟩ := chain_good hr hk hne hl m (j + 1) f (setDn dn (nmJ j) ⟨⟨#[]⟩, 0, true⟩) (by omega) (by omega) (by omega) (fun i h1 h2 => by
      rw [getDn_other _ (nm_ne (by omega) (by omega) (by omega))]
      exact hd i (by omega) h2)
    have hb : ([60] ++ bytesOf (wrapE e m)).length = e.size + 2 * m + 1 := by rw [List.length_append, bytesOf_length, wrap_size]; simp; omega
    have hG : wkG (workP raw f) raw ([60], 0, setDn dn (nmJ j) ⟨⟨#[]⟩, 0, true⟩) (nmJ (j + 1)) 1 = .ok ([60] ++ bytesOf (wrapE e m), ((m + 1 : Nat) : Int), dn2) := by
      unfold wkG
      rw [hr.at_ (j + 1) (by omega)]
      show (match getDn (setDn dn (nmJ j) ⟨⟨#[]⟩, 0, true⟩) (nmJ (j + 1)) with | some x => _ | none => _) = _
      rw [getDn_other _ (nm_ne (by omega) (by omega) (by omega)), hd (j + 1) (by omega) (by omega)]
      show (match workP raw f (setDn dn (nmJ j) ⟨⟨#[]⟩, 0, true⟩) (nmJ (j + 1)) with | .error x => _ | .ok (x, dn) => _) = _
      rw [hw]
      show useD _ _ _ _ = _
      unfold useD
      rw [if_neg (by rintro (h | h); cases h; have h : ((m : Nat) : Int) = 16 := h; omega), if_neg (by show ¬ 4096 < ([60] ++ bytesOf (wrapE e m)).length; rw [hb]; omega)]
      show Except.ok (_, max (0 : Int) ((m : Int) + 1), dn2) = _
      rw [show max (0 : Int) ((m : Int) + 1) = ((m + 1 : Nat) : Int) by omega]
    refine ⟨setDn dn2 (nmJ j) ⟨wrapE e (m + 1), ((m + 1 : Nat) : Int), false⟩, ?_, fun i h1 h2 => ?_⟩
    · rw [workP, hr.at_ j (by omega)]
      show (match piecesOf wkF (wkG (workP raw f) raw) (textC k e j) ([], 0, setDn dn (nmJ j) ⟨⟨#[]⟩, 0, true⟩) with | .error x => _ | .ok st => _) = _
      rw [textC, if_neg hjk, link_good (by omega) hG (by rw [hb]; omega)]
      show Except.ok (VD.mk (strOfNums (([60] ++ bytesOf (wrapE e m)) ++ [62])) ((m + 1 : Nat) : Int) false, _) = _
      rw [nums_wrap]
      rfl
    · by_cases hi : i = j
      · subst hi
        rw [getDn_same]
        rw [show k - i = m + 1 by omega]
      · rw [getDn_other _ (nm_ne (by omega) (by omega) hi)]
        exact hd2 i (by omega) h2
theorem chain_bad {raw : List SV} {k : Nat} {e : ByteArray} (hr : RawC raw k e) (hk : k < 25) (hne : ∀ i, i < e.size → bt e (i : Int) ≠ 36) (hl : e.size ≤ 200) :
    ∀ (m : Nat) (j f : Nat) (dn : DN), 16 ≤ m → j + (m + 1) = k → m + 1 < f → (∀ i, j ≤ i → i ≤ k → getDn dn (nmJ i) = none) → workP raw f dn (nmJ j) = .error (103, 1)
  | m, j, 0, dn, _, _, hf, _ => by omega
  | m, j, f + 1, dn, hm, hj, hf, hd => by
    have hjk : j ≠ k := by omega
    have hd1 : ∀ i, j + 1 ≤ i → i ≤ k → getDn (setDn dn (nmJ j) ⟨⟨#[]⟩, 0, true⟩) (nmJ i) = none := fun i h1 h2 => by
      rw [getDn_other _ (nm_ne (by omega) (by omega) (by omega))]
      exact hd i (by omega) h2
    have hG : wkG (workP raw f) raw ([60], 0, setDn dn (nmJ j) ⟨⟨#[]⟩, 0, true⟩) (nmJ (j + 1)) 1 = .error (103, 1) := by
      unfold wkG
      rw [hr.at_ (j + 1) (by omega)]
      show (match getDn (setDn dn (nmJ j) ⟨⟨#[]⟩, 0, true⟩) (nmJ (j + 1)) with | some x => _ | none => _) = _
      rw [hd1 (j + 1) (Nat.le_refl _) (by omega)]
      show (match workP raw f (setDn dn (nmJ j) ⟨⟨#[]⟩, 0, true⟩) (nmJ (j + 1)) with | .error x => _ | .ok (x, dn) => _) = _
      by_cases h16 : m = 16
      · subst h16
        obtain ⟨dn2, hw, _⟩ := chain_good hr hk hne hl 16 (j + 1) f (setDn dn (nmJ j) ⟨⟨#[]⟩, 0, true⟩) (Nat.le_refl _) (by omega) (by omega) hd1
        rw [hw]
        show useD _ _ _ _ = _
        unfold useD
        rw [if_pos (.inr rfl)]
        rfl
      · obtain ⟨m2, rfl⟩ : ∃ m2, m = m2 + 1 := ⟨m - 1, by omega⟩
        rw [chain_bad hr hk hne hl m2 (j + 1) f _ (by omega) (by omega) (by omega) hd1]
    rw [workP, hr.at_ j (by omega)]
    show (match piecesOf wkF (wkG (workP raw f) raw) (textC k e j) ([], 0, setDn dn (nmJ j) ⟨⟨#[]⟩, 0, true⟩) with | .error x => _ | .ok st => _) = _
    rw [textC, if_neg hjk, link_bad (by omega) hG]
end Go.Proofs.Ytfkibolpanlelaa.Q
