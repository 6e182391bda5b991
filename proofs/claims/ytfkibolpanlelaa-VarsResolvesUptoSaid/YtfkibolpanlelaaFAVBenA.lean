/- The document's bench: what is worked out, as a row of cells. -/
import Derived.Test.YtfkibolpanlelaaFAVRefE
import Derived.Test.YtfkibolpanlelaaFAVSpoil
import Derived.Test.YtfkibolpanlelaaFAVTheC
namespace Go.Proofs.Ytfkibolpanlelaa.Q
open Go Go.RowKit Go.Shelf Go.Proofs.YtfkibolpanlelaaW.PrintWords Go.Proofs.YtfkibolpanlelaaW.PrintLast Go.Proofs.YtfkibolpanlelaaW.PrintMore Go.Proofs.Ytfkibolpanlelaa.SMap
set_option linter.unusedVariables false
set_option linter.unusedSimpArgs false
def wkC (st : Int) (t : ByteArray) (d c : Int) : List Value := [.int .i64 st, .string t, .int .i64 d, .int .i64 c]
def wkD : Option VD → List Value
  | none => wkC 0 ⟨#[]⟩ 0 0
  | some x => if x.under = true then wkC 1 ⟨#[]⟩ 0 0 else wkC 2 x.text x.depth 0
theorem wkD_len (o : Option VD) : (wkD o).length = 4 := by
  cases o with
  | none => rfl
  | some x =>
    show (if x.under = true then wkC 1 ⟨#[]⟩ 0 0 else wkC 2 x.text x.depth 0).length = 4
    split <;> rfl
def rowW (vs : List SV) (dn : DN) : List Value := vs.flatMap fun v => wkD (getDn dn v.f0)
theorem rowW_len (dn : DN) : ∀ vs : List SV, (rowW vs dn).length = vs.length * 4
  | [] => rfl
  | v :: r => by
    have ih := rowW_len dn r
    show (wkD (getDn dn v.f0) ++ rowW r dn).length = _
    rw [List.length_append, wkD_len, ih, List.length_cons]
    omega
theorem rowW_get (dn : DN) : ∀ (vs : List SV) (q k : Nat), k < 4 → (rowW vs dn)[q * 4 + k]? = (vs[q]?).bind fun v => (wkD (getDn dn v.f0))[k]?
  | [], q, k, _ => rfl
  | v :: r, 0, k, hk => by
    show (wkD (getDn dn v.f0) ++ rowW r dn)[0 * 4 + k]? = _
    rw [List.getElem?_append_left (by rw [wkD_len]; omega), Nat.zero_mul, Nat.zero_add]
    rfl
  | v :: r, q + 1, k, hk => by
    show (wkD (getDn dn v.f0) ++ rowW r dn)[(q + 1) * 4 + k]? = _
    rw [List.getElem?_append_right (by rw [wkD_len]; omega), wkD_len, show (q + 1) * 4 + k - 4 = q * 4 + k by omega, rowW_get dn r q k hk, List.getElem?_cons_succ]
theorem rowW_at {vs : List SV} {dn : DN} {i : Nat} (hi : i < vs.length) {k : Nat} (hk : k < 4) : (rowW vs dn)[i * 4 + k]? = (wkD (getDn dn vs[i].f0))[k]? := by
  rw [rowW_get dn vs i k hk, List.getElem?_eq_getElem hi]
  rfl
theorem ext4 {a b : List Value} {n : Nat} (ha : a.length = n * 4) (hb : b.length = n * 4) (h : ∀ q k, q < n → k < 4 → a[q * 4 + k]? = b[q * 4 + k]?) : a = b := by
  apply List.ext_getElem?
  intro j
  by_cases hj : j < n * 4
  · have := h (j / 4) (j % 4) (by omega) (by omega)
    rwa [show j / 4 * 4 + j % 4 = j by omega] at this
  · rw [List.getElem?_eq_none (by omega), List.getElem?_eq_none (by omega)]
theorem name_at {vs : List SV} (hnd : (vs.map (·.f0)).Nodup) {i q : Nat} (hi : i < vs.length) (hq : q < vs.length) (h : vs[q].f0 = vs[i].f0) : q = i := by
  have hp := List.pairwise_iff_getElem.1 hnd
  have e : ∀ k (hk : k < vs.length), (vs.map (·.f0))[k]'(by simpa using hk) = vs[k].f0 := fun k hk => by simp
  rcases Nat.lt_trichotomy q i with h1 | h1 | h1
  · exact absurd (by rw [e q hq, e i hi]; exact h) (hp q i (by simpa using hq) (by simpa using hi) h1)
  · exact h1
  · exact absurd (by rw [e q hq, e i hi]; exact h.symm) (hp i q (by simpa using hi) (by simpa using hq) h1)
theorem rowW_put {vs : List SV} (hnd : (vs.map (·.f0)).Nodup) (dn : DN) {i : Nat} (hi : i < vs.length) (x : VD) (a b c d : Value) (h : wkD (some x) = [a, b, c, d]) :
    ((((rowW vs dn).set (i * 4) a).set (i * 4 + 1) b).set (i * 4 + 2) c).set (i * 4 + 3) d = rowW vs (setDn dn vs[i].f0 x) := by
  refine ext4 (n := vs.length) (by simp [rowW_len]) (rowW_len _ _) fun q k hq hk => ?_
  have hlen := rowW_len dn vs
  by_cases e : q = i
  · subst e
    rw [rowW_at hq hk, getDn_same, h]
    have h4 : k = 0 ∨ k = 1 ∨ k = 2 ∨ k = 3 := by omega
    simp only [List.getElem?_set, List.length_set]
    rcases h4 with rfl | rfl | rfl | rfl
    · rw [if_neg (by omega), if_neg (by omega), if_neg (by omega), if_pos (by omega), if_pos (by omega)]; rfl
    · rw [if_neg (by omega), if_neg (by omega), if_pos (by omega), if_pos (by omega)]; rfl
    · rw [if_neg (by omega), if_pos (by omega), if_pos (by omega)]; rfl
    · rw [if_pos (by omega), if_pos (by omega)]; rfl
  · rw [rowW_at hq hk, getDn_other _ (fun e2 => e (name_at hnd hi hq e2))]
    simp only [List.getElem?_set, List.length_set]
    rw [if_neg (by omega), if_neg (by omega), if_neg (by omega), if_neg (by omega), rowW_at hq hk]
theorem rowW_under {vs : List SV} (hnd : (vs.map (·.f0)).Nodup) {dn : DN} {i : Nat} (hi : i < vs.length) (hg : getDn dn vs[i].f0 = none) : (rowW vs dn).set (i * 4) (.int .i64 1) = rowW vs (setDn dn vs[i].f0 zU) := by
  have hlen := rowW_len dn vs
  rw [← rowW_put hnd dn hi zU (.int .i64 1) (.string ⟨#[]⟩) (.int .i64 0) (.int .i64 0) rfl]
  have h1 := rowW_at (dn := dn) hi (k := 1) (by decide)
  have h2 := rowW_at (dn := dn) hi (k := 2) (by decide)
  have h3 := rowW_at (dn := dn) hi (k := 3) (by decide)
  rw [hg] at h1 h2 h3
  apply List.ext_getElem?
  intro j
  simp only [List.getElem?_set, List.length_set]
  by_cases e3 : i * 4 + 3 = j
  · subst e3
    rw [if_neg (by omega), if_pos rfl, if_pos (by omega), h3]; rfl
  · rw [if_neg e3]
    by_cases e2 : i * 4 + 2 = j
    · subst e2
      rw [if_neg (by omega), if_pos rfl, if_pos (by omega), h2]; rfl
    · rw [if_neg e2]
      by_cases e1 : i * 4 + 1 = j
      · subst e1
        rw [if_neg (by omega), if_pos rfl, if_pos (by omega), h1]; rfl
      · rw [if_neg e1]
/-- The bench in memory: where the variables and the row lie. -/
structure Ben (W0 w : World) (P g : Nat) (A : Option Addr) (c : Nat) (vs : List SV) (cells : List Value) : Prop where
  below : Below W0.heap.size W0 w
  head : w.heap[P]? = some (.cells #[.slice A vs.length c, .slice (some ⟨g, 0, none⟩) vs.length vs.length] 55 (0, 0))
  row : w.heap[g]? = some (.cells cells.toArray 57 (0, 0))
  len : cells.length = vs.length * 4
section
variable {W0 w w' : World} {P g : Nat} {A : Option Addr} {c : Nat} {vs : List SV} {cells : List Value}
theorem Ben.step (h : Ben W0 w P g A c vs cells) (hb : Below w.heap.size w w') : Ben W0 w' P g A c vs cells where
  below := h.below.trans (hb.mono h.below.size)
  head := (hb.block P (blk_lt h.head)).trans h.head
  row := (hb.block g (blk_lt h.row)).trans h.row
  len := h.len
theorem Ben.grown (h : Ben W0 w P g A c vs cells) {row : Option Nat} (hgw : w.grownBy w' row) (hr : ∀ k, row = some k → W0.heap.size ≤ k ∧ k ≠ P ∧ k ≠ g) : Ben W0 w' P g A c vs cells where
  below := h.below.trans ⟨hgw.os, hgw.tape, hgw.output, hgw.size, fun k hk => hgw.block k (Nat.lt_of_lt_of_le hk h.below.size) (fun e => by have := (hr k e.symm).1; omega)⟩
  head := (hgw.block P (blk_lt h.head) (fun e => (hr P e.symm).2.1 rfl)).trans h.head
  row := (hgw.block g (blk_lt h.row) (fun e => (hr g e.symm).2.2 rfl)).trans h.row
  len := h.len
theorem Ben.far (h : Ben W0 w P g A c vs cells) {q : Nat} (hq : W0.heap.size ≤ q) (h1 : q ≠ P) (h2 : q ≠ g) (j : Nat) (u : Value) : Ben W0 (w.setCell ⟨q, j, none⟩ u) P g A c vs cells where
  below := h.below.setCell (p := ⟨q, j, none⟩) hq u
  head := blk_far h.head (fun e => h1 e.symm) u
  row := blk_far h.row (fun e => h2 e.symm) u
  len := h.len
theorem Ben.put (h : Ben W0 w P g A c vs cells) (hg : W0.heap.size ≤ g) (hPg : P ≠ g) (j : Nat) (u : Value) : Ben W0 (w.setCell ⟨g, j, none⟩ u) P g A c vs (cells.set j u) where
  below := h.below.setCell (p := ⟨g, j, none⟩) hg u
  head := blk_far h.head hPg u
  row := by
    have := blk_set h.row j u
    rwa [List.setIfInBounds_toArray] at this
  len := by rw [List.length_set]; exact h.len
theorem Ben.cell (h : Ben W0 w P g A c vs cells) (j : Nat) : w.cell? ⟨g, j, none⟩ = cells[j]? := by
  rw [blk_cell h.row, List.getElem?_toArray]
theorem Ben.h0 (h : Ben W0 w P g A c vs cells) : w.cell? ⟨P, 0, none⟩ = some (.slice A vs.length c) := blk_cell h.head 0
theorem Ben.h1 (h : Ben W0 w P g A c vs cells) : w.cell? ⟨P, 1, none⟩ = some (.slice (some ⟨g, 0, none⟩) vs.length vs.length) := blk_cell h.head 1
end
/-- What a step leaves: all but the row, and what is new. -/
structure Stp (g : Nat) (w w' : World) : Prop where
  kept : Kept w w' (fun k => k = g)
theorem Stp.refl (g : Nat) (w : World) : Stp g w w := ⟨Kept.refl _ _⟩
theorem Stp.trans {g : Nat} {a b c : World} (h : Stp g a b) (k : Stp g b c) : Stp g a c := ⟨h.kept.then_ k.kept (fun _ hk => .inl hk)⟩
theorem Stp.below {g : Nat} {a b c : World} (h : Stp g a b) (k : Below b.heap.size b c) : Stp g a c := ⟨h.kept.below k⟩
theorem Stp.grown {g : Nat} {a b c : World} (h : Stp g a b) {row : Option Nat} (hg : b.grownBy c row) (hr : ∀ k, row = some k → a.heap.size ≤ k) : Stp g a c := ⟨Kept.of_grown hg h.kept (fun k e => .inr (hr k e))⟩
theorem Stp.set {g : Nat} {a b : World} (h : Stp g a b) {q : Nat} (hq : q = g ∨ a.heap.size ≤ q) (j : Nat) (u : Value) : Stp g a (b.setCell ⟨q, j, none⟩ u) :=
  ⟨h.kept.setCell (p := ⟨q, j, none⟩) hq u⟩
theorem Stp.blk {g : Nat} {a b : World} (h : Stp g a b) {k : Nat} (hk : k ≠ g) {o : Obj} (ho : a.heap[k]? = some o) : b.heap[k]? = some o := blk_kept ho h.kept hk
end Go.Proofs.Ytfkibolpanlelaa.Q
