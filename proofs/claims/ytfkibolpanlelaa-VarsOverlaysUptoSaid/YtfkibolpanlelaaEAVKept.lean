/- KeptVars writes over nothing but what was lent. -/
import Derived.Test.YtfkibolpanlelaaEAVSpoil
namespace Go.Proofs.Ytfkibolpanlelaa.Q
open Go Go.RowKit Go.Shelf Go.Proofs.YtfkibolpanlelaaW.PrintWords Go.Proofs.YtfkibolpanlelaaW.PrintLast Go.Proofs.YtfkibolpanlelaaW.PrintMore Go.Proofs.Ytfkibolpanlelaa.SMap
set_option linter.unusedVariables false
set_option linter.unusedSimpArgs false
set_option maxHeartbeats 1000000 in
set_option maxRecDepth 100000 in
theorem kept2_any (base g c1 : Nat) (A : Option Addr) (c : Nat) (pick : List SV) (w : World) (hr : Kd.C k41 w A pick.length pick) (hc : pick.length ≤ c) (hs : pick.length ≤ 4398046511000)
    (hL : Kd.R k41 41 w base (fun _ => True) (.slice (some ⟨g, 0, none⟩) (pick.length + 2) c1) (pick ++ [spV, spV])) :
    Calls Try.prog 15 #[.slice (some ⟨g, 0, none⟩) pick.length c1, .slice A pick.length c] w fun e w' => e = .returned (.bool true) ∧ Kept w w' (fun k => k = g) ∧ TK w w' := by
  have HR := Aside0.mk hr
  have HL := Aside0.mk hL
  have hrl := Kd.R_reads' hL
  have hcap : pick.length + 2 ≤ c1 := hrl.2.1
  have hC := hrl.2.2
  have hlen : (pick ++ [spV, spV]).length = pick.length + 2 := by simp
  have HT := Aside0.mk (show Kd.C k41 w (some ⟨g, 0, none⟩) pick.length pick by
    have := Kd.C_take (xs := pick ++ [spV, spV]) (m := pick.length) hC (by rw [hlen]; omega)
    rw [List.take_left' rfl] at this
    exact this)
  have HD := Aside0.mk (show Kd.C k41 w (some ⟨g, pick.length * 2, none⟩) 2 [spV, spV] by
    have := C_dropV (hlen ▸ hC) (m := pick.length) (by omega)
    rw [List.drop_left' rfl, show pick.length + 2 - pick.length = 2 by omega] at this
    exact this)
  clear hr hL hrl hC
  go_enter Try.func15, Try.ntmps15
  go_wp2_with (first
    | (go_at_call 17; refine (same_at _ _ _ _ 2 [spV, spV] _ (Kd.C_below HD.out HB12.out) (by show 2 ≤ _; omega) (Kd.R_reads' HL2.out).2.2 (Kd.R_reads' HL2.out).2.1 rfl).mono ?_; rintro e w3 ⟨rfl, hb3⟩; have HL3 := Aside0.mk (Kd.R_below (Kd.R_below HL.out HB12.out) hb3); have HB3 := Aside0.mk (below_step HB12.out hb3); clear hb3)
    | (go_at_call 17; refine (same_at _ A c1 c pick.length pick _ HT.out (by omega) HR.out hc rfl).mono ?_; rintro e w1 ⟨rfl, hb1⟩; have HB1 := Aside0.mk hb1; clear hb1)
    | ((with_reducible refine gate_dst (N := 23) rfl ?_); (try (refine gate_guard (by rfl) ?_; dsimp only)); refine Kd.R_lit k41 _ 41 ?hg (N := 23) ?hd (xs := ([spV, spV] : List SV)) (inner := [.string ⟨#[115, 112, 111, 105, 108, 116]⟩, .string ⟨#[115, 112, 111, 105, 108, 116]⟩, .string ⟨#[115, 112, 111, 105, 108, 116]⟩, .string ⟨#[115, 112, 111, 105, 108, 116]⟩]) (ok := fun _ => True) (okp := fun _ => True) ?hr ?hp (fun _ hk => hk) trivial (Below.refl _ _) (Nat.le_refl _) (by simp) ?_; (case hd => rfl); (case hg => rfl); (case hr => first | (go_simp; done) | (go_simp; rfl)); (case hp => exact (Reps.c2 (show Kd.M k41 _ _ _ spV [.string ⟨#[115, 112, 111, 105, 108, 116]⟩, .string ⟨#[115, 112, 111, 105, 108, 116]⟩] from k41_mkM _ _ _ spV) (Reps.c2 (show Kd.M k41 _ _ _ spV [.string ⟨#[115, 112, 111, 105, 108, 116]⟩, .string ⟨#[115, 112, 111, 105, 108, 116]⟩] from k41_mkM _ _ _ spV) (Reps.none _ _)))); intro v2 w2 ho2 hb2 hg2 hn2; obtain ⟨A2, c2, e2⟩ := Kd.R_slice ho2; subst e2; have HL2 := Aside0.mk ho2; have HB12 := Aside0.mk (below_step HB1.out hb2); clear ho2 hb2 hg2 hn2))
  obtain ⟨cells0, hce0, hcs0, hgb⟩ := lent_cells HL3.out (by omega)
  have HCE := Aside0.mk hce0
  have HCS := Aside0.mk hcs0
  clear hce0 hcs0
  go_loopw [7] (fun i wr => SpRel w w3 (fun k => k = g) (pick.length + 2) i wr) (fun i _ => pick.length + 2 - (intOf i).toNat)
  case atStart => exact ⟨0, Nat.zero_le _, rfl, TK.refl _, Kept.of_below HB3.out _⟩
  case round =>
    clear HL HT HD HL2 HL3 HB12 HB1
    obtain ⟨k, hk, rfl, ht, hkw⟩ := hrel
    have HKW := Aside0.mk hkw
    have HTW := Aside0.mk ht
    by_cases hlt : k < pick.length + 2
    · obtain ⟨cells, hce, hcs⟩ := ht.row g _ _ HCE.out
      have hcs1 := HCS.out
      have hc0 : wr.cell? ⟨g, k * 2, none⟩ = some (cells[k * 2]'(by omega)) := (blk_cell hce _).trans (Array.getElem?_eq_getElem (by omega))
      have hc1' : wr.cell? ⟨g, k * 2 + 1, none⟩ = some (cells[k * 2 + 1]'(by omega)) := (blk_cell hce _).trans (Array.getElem?_eq_getElem (by omega))
      have hf0 := blk_frozen hce (k * 2)
      have hf1 := blk_frozen hce (k * 2 + 1)
      generalize cells[k * 2]'(by omega) = x0 at hc0
      generalize cells[k * 2 + 1]'(by omega) = x1 at hc1'
      clear hce hkw ht hcs hcs1
      go_wp2
      exact ⟨⟨k + 1, by omega, by go_num, (HTW.out.set g _ _).set g _ _, (HKW.out.setCell (p := ⟨g, k * 2, none⟩) (.inl rfl) _).setCell (p := ⟨g, k * 2 + 1, none⟩) (.inl rfl) _⟩, by simp [intOf]; omega⟩
    · clear hkw ht
      go_wp2
      go_ret
      exact ⟨rfl, HKW.out, (TK.of_below HB3.out).trans HTW.out⟩
end Go.Proofs.Ytfkibolpanlelaa.Q
