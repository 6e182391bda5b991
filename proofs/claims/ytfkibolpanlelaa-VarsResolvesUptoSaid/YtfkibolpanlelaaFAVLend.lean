/- A list that is lent with two more behind it, and whether it was kept: the contracts of LendVars and KeptVars. -/
import Derived.Test.YtfkibolpanlelaaFAVPure
namespace Go.Proofs.Ytfkibolpanlelaa.Q
open Go Go.RowKit Go.Shelf Go.Proofs.YtfkibolpanlelaaW.PrintWords Go.Proofs.YtfkibolpanlelaaW.PrintLast Go.Proofs.YtfkibolpanlelaaW.PrintMore Go.Proofs.Ytfkibolpanlelaa.SMap
set_option linter.unusedVariables false
set_option linter.unusedSimpArgs false
def spV : SV := ⟨⟨#[115, 112, 111, 105, 108, 116]⟩, ⟨#[115, 112, 111, 105, 108, 116]⟩⟩
theorem copyVars_f (l : List SV) (h : l.length ≤ 4398046511000) : shuttlelaw0_CopyVars.f l = some l := copy_ev l (by omega)
structure Lent (w w' : World) (pick : List SV) (g c : Nat) : Prop where
  own : Kd.R k41 41 w' w.heap.size (fun _ => True) (.slice (some ⟨g, 0, none⟩) (pick.length + 2) c) (pick ++ [spV, spV])
  below : Below w.heap.size w w'
set_option maxHeartbeats 1000000 in
set_option maxRecDepth 100000 in
theorem lend_any (A : Option Addr) (c : Nat) (pick : List SV) (w : World) (hr : Kd.C k41 w A pick.length pick) (hc : pick.length ≤ c) (hs : pick.length ≤ 4398046511000) :
    Calls Try.prog 13 #[.slice A pick.length c] w fun e w' => ∃ g cap, e = .returned (.slice (some ⟨g, 0, none⟩) pick.length cap) ∧ Lent w w' pick g cap := by
  have HR := Aside0.mk hr
  have HCF := Aside0.mk (copyVars_f pick hs)
  clear hr
  go_enter Try.func13, Try.ntmps13
  go_wp2_with (first
    | (go_at_call 16; refine (shuttlelaw0_CopyVars.calls A c pick pick _ HR.out hc HCF.out).mono ?_; rintro e w1 ⟨v1, rfl, ho1, hb1⟩; have HO1 := Aside0.mk ho1; have HB1 := Aside0.mk hb1; clear ho1 hb1)
    | ((with_reducible refine gate_dst (N := 8) rfl ?_); refine Kd.R_lit k41 _ 41 ?hg (N := 8) ?hd (xs := ([spV, spV] : List SV)) (inner := [.string ⟨#[115, 112, 111, 105, 108, 116]⟩, .string ⟨#[115, 112, 111, 105, 108, 116]⟩, .string ⟨#[115, 112, 111, 105, 108, 116]⟩, .string ⟨#[115, 112, 111, 105, 108, 116]⟩]) (ok := fun _ => True) (okp := fun _ => True) ?hr ?hp (fun _ hk => hk) trivial (Below.refl _ _) (Nat.le_refl _) (by simp) ?_; (case hd => rfl); (case hg => rfl); (case hr => first | (go_simp; done) | (go_simp; rfl)); (case hp => exact (Reps.c2 (show Kd.M k41 _ _ _ spV [.string ⟨#[115, 112, 111, 105, 108, 116]⟩, .string ⟨#[115, 112, 111, 105, 108, 116]⟩] from k41_mkM _ _ _ spV) (Reps.c2 (show Kd.M k41 _ _ _ spV [.string ⟨#[115, 112, 111, 105, 108, 116]⟩, .string ⟨#[115, 112, 111, 105, 108, 116]⟩] from k41_mkM _ _ _ spV) (Reps.none _ _)))); intro v2 w2 ho2 hb2 hg2 hn2; have HO2 := Aside0.mk (Kd.R_elder' HO1.out (Kd.R_base ho2) hb2); obtain ⟨A2, c2, e2⟩ := Kd.R_slice ho2; subst e2; have HL2 := Aside0.mk (Kd.R_lower ho2 HB1.out.size); have HB2 := Aside0.mk (below_step HB1.out hb2); clear ho2 hb2 hg2 hn2)
    | (at_builtin; refine Kd.R_append_rows k41 (w0 := w) w.heap.size rfl (.tmp 5) (.tmp 8) 22 41 (.agg #[(.string ⟨#[]⟩), (.string ⟨#[]⟩)]) 32 rfl Try.underlying22 info41 rfl (by decide) (by omega) v1 pick [spV, spV] _ _ _ (fun _ => True) (fun _ => False) rfl rfl (Kd.R_mono HO2.out (fun _ _ => trivial)) (Kd.R_reads' HL2.out).2.2 (fun _ _ h => h) (fun _ h => h.elim) (fun _ _ => trivial) HB2.out HB2.out.size (by show (pick.length + 2) * 32 ≤ _; omega) ?_; intro v3 w3 ho3 hb3 hg3 hat3; obtain ⟨g3, c3, e3, _⟩ := Kd.R_form ho3 (by simp); subst e3; have hle3 := (Kd.R_reads' ho3).2.1; have HO3 := Aside0.mk ho3; have HB3 := Aside0.mk hb3; clear ho3 hb3 hg3 hat3; rw [show (pick ++ [spV, spV]).length = pick.length + 2 by simp] at HO3 hle3 ⊢))
  go_ret
  exact ⟨g3, c3, rfl, HO3.out, HB3.out⟩
theorem sameL_l0 (l : List SV) (hn : l.length ≤ 9223372036854775807) : ∀ (d i : Nat), i + d = l.length → Ev (fun k => shuttlelaw0_SameVars.l0 k l l (i : Int)) true
  | 0, i, h => by
    refine Ev.step (fun k => by rw [shuttlelaw0_SameVars.l0, if_neg (by omega)]) ?_
    exact Ev.now _
  | d + 1, i, h => by
    refine Ev.step (fun k => by rw [shuttlelaw0_SameVars.l0, if_pos (by omega), if_pos (by omega), if_pos (by omega), if_neg (by simp), wrap_up (by omega)]) ?_
    exact sameL_l0 l hn d (i + 1) (by omega)
theorem sameL_ev (l : List SV) (hn : l.length ≤ 9223372036854775807) : Ev (fun k => shuttlelaw0_SameVars.f k l l) true := by
  unfold shuttlelaw0_SameVars.f
  refine Ev.congr (fun k => by rw [if_pos rfl]) ?_
  exact sameL_l0 l hn l.length 0 (by omega)
theorem same_at (A0 A1 : Option Addr) (c0 c1 m : Nat) (l : List SV) (w : World) (h0 : Kd.C k41 w A0 l.length l) (hc0 : l.length ≤ c0) (h1 : Kd.C k41 w A1 l.length l) (hc1 : l.length ≤ c1) (hm : l.length = m) :
    Calls Try.prog 17 #[.slice A0 m c0, .slice A1 m c1] w fun e w' => e = .returned (.bool true) ∧ Below w.heap.size w w' := by
  subst hm
  obtain ⟨k, hk⟩ := (sameL_ev l h0.2.1).rounds
  refine (shuttlelaw0_SameVars.calls k A0 c0 l A1 c1 l true w h0 hc0 h1 hc1 hk).mono ?_
  rintro e w' ⟨rfl, hd⟩
  exact ⟨rfl, hd.below⟩
theorem C_dropV {w : World} {g n m : Nat} {l : List SV} (h : Kd.C k41 w (some ⟨g, 0, none⟩) n l) (hm : m ≤ n) : Kd.C k41 w (some ⟨g, m * 2, none⟩) (n - m) (l.drop m) := by
  obtain ⟨h1, h2, h3⟩ := h
  refine ⟨by rw [List.length_drop, h1], by omega, fun hp => ⟨_, rfl, fun j p hj => ?_⟩⟩
  obtain ⟨ad, e, hc⟩ := h3 (by omega)
  injection e with e
  subst e
  rw [List.getElem?_drop] at hj
  obtain ⟨c, hl, hk, hcell⟩ := hc (m + j) p hj
  refine ⟨c, hl, hk, fun i u hu => ?_⟩
  have := hcell i u hu
  have hsz : (k41).sz = 2 := rfl
  rw [hsz] at this ⊢
  have e1 : (⟨g, 0, none⟩ : Addr).add ((m + j) * 2 + i) = ⟨g, (m + j) * 2 + i, none⟩ := by
    unfold Addr.add
    split
    case isTrue h0 => rw [h0]
    case isFalse => simp
  have e2 : (⟨g, m * 2, none⟩ : Addr).add (j * 2 + i) = ⟨g, (m + j) * 2 + i, none⟩ := by
    unfold Addr.add
    split
    case isTrue h0 => rw [show (m + j) * 2 + i = m * 2 by omega]
    case isFalse =>
      show (⟨g, m * 2 + (j * 2 + i), none⟩ : Addr) = _
      rw [show m * 2 + (j * 2 + i) = (m + j) * 2 + i by omega]
  rw [e2]
  rwa [e1] at this
theorem lent_cells {w : World} {base g m c : Nat} {l : List SV} (h : Kd.R k41 41 w base (fun _ => True) (.slice (some ⟨g, 0, none⟩) m c) l) (hm : 0 < m) : ∃ cells, w.heap[g]? = some (.cells cells 41 (0, 0)) ∧ m * 2 ≤ cells.size ∧ base ≤ g := by
  have hr := Kd.R_reads' h
  obtain ⟨g', cap, e, hb, _, cells, hc⟩ := Kd.R_form h (by rw [← hr.1]; exact hm)
  injection e with e1 e2 e3
  injection e1 with e1
  injection e1 with e1
  subst e1
  refine ⟨cells, hc, ?_, hb⟩
  have hC := hr.2.2
  rw [← hr.1] at hC
  obtain ⟨ad, e, _, hx1⟩ := at_T41 hC ((m - 1 : Nat) : Int) (by omega) (by omega)
  injection e with e
  subst e
  have e1 : (⟨g, 0, none⟩ : Addr).add (((m - 1 : Nat) : Int).toNat * 2) = ⟨g, ((m - 1 : Nat) : Int).toNat * 2, none⟩ := by
    unfold Addr.add
    split
    case isTrue h0 => rw [h0]
    case isFalse => simp
  rw [e1, blk_cell hc] at hx1
  have := (Array.getElem?_eq_some_iff.1 hx1).1
  simp at this
  omega
end Go.Proofs.Ytfkibolpanlelaa.Q
