/- KeptNodes writes over nothing but what was lent. -/
import Derived.Test.YtofajjodonhdkaaEAKLend
namespace Go.Proofs.Ytofajjodonhdkaa.Q
open Go Go.RowKit Go.Shelf Go.Proofs.YtofajjodonhdkaaW.PrintWords Go.Proofs.YtofajjodonhdkaaW.PrintLast Go.Proofs.YtofajjodonhdkaaW.PrintMore
set_option linter.unusedVariables false
set_option linter.unusedSimpArgs false
/-- Each row of cells stays one, of its type and its length; and nothing but memory turns. -/
structure TK (w w' : World) : Prop where
  b : Below 0 w w'
  row : ∀ (g : Nat) (t : TypeId) (cells : Array Value), w.heap[g]? = some (.cells cells t (0, 0)) → ∃ cells' : Array Value, w'.heap[g]? = some (.cells cells' t (0, 0)) ∧ cells'.size = cells.size
theorem TK.refl (w : World) : TK w w := ⟨Below.refl _ _, fun g t cells h => ⟨cells, h, rfl⟩⟩
theorem TK.trans {a b c : World} (h : TK a b) (k : TK b c) : TK a c := ⟨h.b.trans k.b, fun g t cells hg => by
  obtain ⟨c1, h1, h2⟩ := h.row g t cells hg
  obtain ⟨c2, h3, h4⟩ := k.row g t c1 h1
  exact ⟨c2, h3, h4.trans h2⟩⟩
theorem TK.of_same {w w' : World} (hb : Below 0 w w') (h : ∀ k, k < w.heap.size → w'.heap[k]? = w.heap[k]?) : TK w w' := ⟨hb, fun g t cells hg => ⟨cells, (h g (blk_lt hg)).trans hg, rfl⟩⟩
theorem TK.of_below {w w' : World} (h : Below w.heap.size w w') : TK w w' := TK.of_same (h.mono (Nat.zero_le _)) fun k hk => h.block k hk
theorem TK.set {a w : World} (h : TK a w) (g j : Nat) (u : Value) : TK a (w.setCell ⟨g, j, none⟩ u) := h.trans ⟨(Below.refl 0 w).setCell (p := ⟨g, j, none⟩) (Nat.zero_le _) u, fun g' t cells hg => by
  by_cases he : g' = g
  · subst he
    exact ⟨_, blk_set hg j u, by simp⟩
  · exact ⟨cells, blk_far hg he u, rfl⟩⟩
/-- What is kept but for blocks from a number on is Below that number. -/
theorem TK.below {w w' : World} {S : Nat → Prop} (h : TK w w') (hk : Kept w w' S) {B : Nat} (hB : B ≤ w.heap.size) (hS : ∀ k, S k → B ≤ k) : Below B w w' :=
  ⟨h.b.os, h.b.tape, h.b.output, h.b.size, fun k hlt => hk.2 k (Nat.lt_of_lt_of_le hlt hB) (fun hs => by have := hS k hs; omega)⟩
def SpRel (w w1 : World) (S : Nat → Prop) (m : Nat) (i : Value) (wr : World) : Prop := ∃ k : Nat, k ≤ m ∧ i = .int .i64 k ∧ TK w1 wr ∧ Kept w wr S
set_option maxHeartbeats 1000000 in
set_option maxRecDepth 100000 in
theorem kept2_any (base g c1 : Nat) (A : Option Addr) (c : Nat) (pick : List SN) (w : World) (hr : Kd.C k31 w A pick.length pick) (hc : pick.length ≤ c) (hs : pick.length ≤ 1599289640000)
    (hL : Kd.R k31 31 w base (fun _ => True) (.slice (some ⟨g, 0, none⟩) (pick.length + 2) c1) (pick ++ [spN, spN])) :
    Calls Try.prog 10 #[.slice (some ⟨g, 0, none⟩) pick.length c1, .slice A pick.length c] w fun e w' => e = .returned (.bool true) ∧ Kept w w' (fun k => k = g) ∧ TK w w' := by
  have HR := Aside0.mk hr
  have HL := Aside0.mk hL
  have hrl := Kd.R_reads' hL
  have hcap : pick.length + 2 ≤ c1 := hrl.2.1
  have hC := hrl.2.2
  have hlen : (pick ++ [spN, spN]).length = pick.length + 2 := by simp
  have HT := Aside0.mk (show Kd.C k31 w (some ⟨g, 0, none⟩) pick.length pick by
    have := Kd.C_take (xs := pick ++ [spN, spN]) (m := pick.length) hC (by rw [hlen]; omega)
    rw [List.take_left' rfl] at this
    exact this)
  have HD := Aside0.mk (show Kd.C k31 w (some ⟨g, pick.length * 8, none⟩) 2 [spN, spN] by
    have := C_dropN (hlen ▸ hC) (m := pick.length) (by omega)
    rw [List.drop_left' rfl, show pick.length + 2 - pick.length = 2 by omega] at this
    exact this)
  clear hr hL hrl hC
  go_enter Try.func10, Try.ntmps10
  go_wp2_with (first
    | (go_at_call 23; refine (same_at _ _ _ _ 2 [spN, spN] _ (Kd.C_below HD.out HB12.out) (by show 2 ≤ _; omega) (Kd.R_reads' HL2.out).2.2 (Kd.R_reads' HL2.out).2.1 rfl).mono ?_; rintro e w3 ⟨rfl, hb3⟩; have HL3 := Aside0.mk (Kd.R_below (Kd.R_below HL.out HB12.out) hb3); have HB3 := Aside0.mk (below_step HB12.out hb3); clear hb3)
    | (go_at_call 23; refine (same_at _ A c1 c pick.length pick _ HT.out (by omega) HR.out hc rfl).mono ?_; rintro e w1 ⟨rfl, hb1⟩; have HB1 := Aside0.mk hb1; clear hb1)
    | ((with_reducible refine gate_dst (N := 23) rfl ?_); (try (refine gate_guard (by rfl) ?_; dsimp only)); refine Kd.R_lit k31 _ 31 ?hg (N := 23) ?hd (xs := ([spN, spN] : List SN)) (inner := [.int .i64 77, .int .i64 0, .string ⟨#[]⟩, .string ⟨#[115, 112, 111, 105, 108, 116]⟩, .string ⟨#[]⟩, .int .i64 0, .int .i64 0, .int .i64 0, .int .i64 77, .int .i64 0, .string ⟨#[]⟩, .string ⟨#[115, 112, 111, 105, 108, 116]⟩, .string ⟨#[]⟩, .int .i64 0, .int .i64 0, .int .i64 0]) (ok := fun _ => True) (okp := fun _ => True) ?hr ?hp (fun _ hk => hk) trivial (Below.refl _ _) (Nat.le_refl _) (by simp) ?_; (case hd => rfl); (case hg => rfl); (case hr => first | (go_simp; done) | (go_simp; rfl)); (case hp => exact (Reps.c8 (show Kd.M k31 _ _ _ spN [.int .i64 77, .int .i64 0, .string ⟨#[]⟩, .string ⟨#[115, 112, 111, 105, 108, 116]⟩, .string ⟨#[]⟩, .int .i64 0, .int .i64 0, .int .i64 0] from k31_mkM _ _ _ spN) (Reps.c8 (show Kd.M k31 _ _ _ spN [.int .i64 77, .int .i64 0, .string ⟨#[]⟩, .string ⟨#[115, 112, 111, 105, 108, 116]⟩, .string ⟨#[]⟩, .int .i64 0, .int .i64 0, .int .i64 0] from k31_mkM _ _ _ spN) (Reps.none _ _)))); intro v2 w2 ho2 hb2 hg2 hn2; obtain ⟨A2, c2, e2⟩ := Kd.R_slice ho2; subst e2; have HL2 := Aside0.mk ho2; have HB12 := Aside0.mk (below_step HB1.out hb2); clear ho2 hb2 hg2 hn2))
  obtain ⟨cells0, hce0, hcs0, hgb⟩ := lent_cells HL3.out (by omega)
  have HCE := Aside0.mk hce0
  have HCS := Aside0.mk hcs0
  clear hce0 hcs0
  go_loopw [7] (fun i wr => SpRel w w3 (fun k => k = g) (pick.length + 2) i wr) (fun i _ => pick.length + 2 - (intOf i).toNat)
  case atStart => exact ⟨0, Nat.zero_le _, rfl, TK.refl _, Kept.of_below HB3.out _⟩
  case round =>
    clear HL HT HD HL2 HL3 HB12 HB1
    obtain ⟨k, hk, rfl, ht, hkw⟩ := hrel
    have HKW := Aside0.mk hkw
    have HTW := Aside0.mk ht
    by_cases hlt : k < pick.length + 2
    · obtain ⟨cells, hce, hcs⟩ := ht.row g _ _ HCE.out
      have hcs1 := HCS.out
      have hc0 : wr.cell? ⟨g, k * 8, none⟩ = some (cells[k * 8]'(by omega)) := (blk_cell hce _).trans (Array.getElem?_eq_getElem (by omega))
      have hc1 : wr.cell? ⟨g, k * 8 + 1, none⟩ = some (cells[k * 8 + 1]'(by omega)) := (blk_cell hce _).trans (Array.getElem?_eq_getElem (by omega))
      have hc2 : wr.cell? ⟨g, k * 8 + 2, none⟩ = some (cells[k * 8 + 2]'(by omega)) := (blk_cell hce _).trans (Array.getElem?_eq_getElem (by omega))
      have hc3 : wr.cell? ⟨g, k * 8 + 3, none⟩ = some (cells[k * 8 + 3]'(by omega)) := (blk_cell hce _).trans (Array.getElem?_eq_getElem (by omega))
      have hc4 : wr.cell? ⟨g, k * 8 + 4, none⟩ = some (cells[k * 8 + 4]'(by omega)) := (blk_cell hce _).trans (Array.getElem?_eq_getElem (by omega))
      have hc5 : wr.cell? ⟨g, k * 8 + 5, none⟩ = some (cells[k * 8 + 5]'(by omega)) := (blk_cell hce _).trans (Array.getElem?_eq_getElem (by omega))
      have hc6 : wr.cell? ⟨g, k * 8 + 6, none⟩ = some (cells[k * 8 + 6]'(by omega)) := (blk_cell hce _).trans (Array.getElem?_eq_getElem (by omega))
      have hc7 : wr.cell? ⟨g, k * 8 + 7, none⟩ = some (cells[k * 8 + 7]'(by omega)) := (blk_cell hce _).trans (Array.getElem?_eq_getElem (by omega))
      have hf0 := blk_frozen hce (k * 8)
      have hf1 := blk_frozen hce (k * 8 + 1)
      have hf2 := blk_frozen hce (k * 8 + 2)
      have hf3 := blk_frozen hce (k * 8 + 3)
      have hf4 := blk_frozen hce (k * 8 + 4)
      have hf5 := blk_frozen hce (k * 8 + 5)
      have hf6 := blk_frozen hce (k * 8 + 6)
      have hf7 := blk_frozen hce (k * 8 + 7)
      generalize cells[k * 8]'(by omega) = x0 at hc0
      generalize cells[k * 8 + 1]'(by omega) = x1 at hc1
      generalize cells[k * 8 + 2]'(by omega) = x2 at hc2
      generalize cells[k * 8 + 3]'(by omega) = x3 at hc3
      generalize cells[k * 8 + 4]'(by omega) = x4 at hc4
      generalize cells[k * 8 + 5]'(by omega) = x5 at hc5
      generalize cells[k * 8 + 6]'(by omega) = x6 at hc6
      generalize cells[k * 8 + 7]'(by omega) = x7 at hc7
      clear hce hkw ht hcs hcs1
      go_wp2
      exact ⟨⟨k + 1, by omega, by go_num, ((((((((HTW.out.set g _ _).set g _ _).set g _ _).set g _ _).set g _ _).set g _ _).set g _ _).set g _ _), ((((((((HKW.out.setCell (p := ⟨g, k * 8, none⟩) (.inl rfl) _).setCell (p := ⟨g, k * 8 + 1, none⟩) (.inl rfl) _).setCell (p := ⟨g, k * 8 + 2, none⟩) (.inl rfl) _).setCell (p := ⟨g, k * 8 + 3, none⟩) (.inl rfl) _).setCell (p := ⟨g, k * 8 + 4, none⟩) (.inl rfl) _).setCell (p := ⟨g, k * 8 + 5, none⟩) (.inl rfl) _).setCell (p := ⟨g, k * 8 + 6, none⟩) (.inl rfl) _).setCell (p := ⟨g, k * 8 + 7, none⟩) (.inl rfl) _)⟩, by simp [intOf]; omega⟩
    · clear hkw ht
      go_wp2
      go_ret
      exact ⟨rfl, HKW.out, (TK.of_below HB3.out).trans HTW.out⟩
end Go.Proofs.Ytofajjodonhdkaa.Q
