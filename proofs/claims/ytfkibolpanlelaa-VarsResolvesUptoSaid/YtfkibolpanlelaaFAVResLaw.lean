/- YtfkibolpanlelaaFAVKept YtfkibolpanlelaaFAVExpLaw YtfkibolpanlelaaFAVOvLaw YtfkibolpanlelaaFAVResLaw, merged. -/
import Derived.Test.YtfkibolpanlelaaFAVSpoil
import Derived.Test.YtfkibolpanlelaaFAVRefE
import Derived.Test.YtfkibolpanlelaaFAVLend
import Derived.Test.YtfkibolpanlelaaFAVOpen
import Derived.Test.YtfkibolpanlelaaFAQ5
import Derived.Test.YtfkibolpanlelaaFAVBenR
section
namespace Go.Proofs.Ytfkibolpanlelaa.Q
open Go Go.RowKit Go.Shelf Go.Proofs.YtfkibolpanlelaaW.PrintWords Go.Proofs.YtfkibolpanlelaaW.PrintLast Go.Proofs.YtfkibolpanlelaaW.PrintMore Go.Proofs.Ytfkibolpanlelaa.SMap
set_option linter.unusedVariables false
set_option linter.unusedSimpArgs false
set_option maxHeartbeats 1000000 in
set_option maxRecDepth 100000 in
theorem kept2_any (base g c1 : Nat) (A : Option Addr) (c : Nat) (pick : List SV) (w : World) (hr : Kd.C k41 w A pick.length pick) (hc : pick.length ≤ c) (hs : pick.length ≤ 4398046511000)
    (hL : Kd.R k41 41 w base (fun _ => True) (.slice (some ⟨g, 0, none⟩) (pick.length + 2) c1) (pick ++ [spV, spV])) :
    Calls Try.prog 15 #[.slice (some ⟨g, 0, none⟩) pick.length c1, .slice A pick.length c] w fun e w' => e = .returned (.bool true) ∧ Kept w w' (fun k => k = g) ∧ TK w w' := by
  have HR := Aside0.mk hr
  have HL := Aside0.mk hL
  have hrl := Kd.R_reads' hL
  have hcap : pick.length + 2 ≤ c1 := hrl.2.1
  have hC := hrl.2.2
  have hlen : (pick ++ [spV, spV]).length = pick.length + 2 := by simp
  have HT := Aside0.mk (show Kd.C k41 w (some ⟨g, 0, none⟩) pick.length pick by
    have := Kd.C_take (xs := pick ++ [spV, spV]) (m := pick.length) hC (by rw [hlen]; omega)
    rw [List.take_left' rfl] at this
    exact this)
  have HD := Aside0.mk (show Kd.C k41 w (some ⟨g, pick.length * 2, none⟩) 2 [spV, spV] by
    have := C_dropV (hlen ▸ hC) (m := pick.length) (by omega)
    rw [List.drop_left' rfl, show pick.length + 2 - pick.length = 2 by omega] at this
    exact this)
  clear hr hL hrl hC
  go_enter Try.func15, Try.ntmps15
  go_wp2_with (first
    | (go_at_call 17; refine (same_at _ _ _ _ 2 [spV, spV] _ (Kd.C_below HD.out HB12.out) (by show 2 ≤ _; omega) (Kd.R_reads' HL2.out).2.2 (Kd.R_reads' HL2.out).2.1 rfl).mono ?_; rintro e w3 ⟨rfl, hb3⟩; have HL3 := Aside0.mk (Kd.R_below (Kd.R_below HL.out HB12.out) hb3); have HB3 := Aside0.mk (below_step HB12.out hb3); clear hb3)
    | (go_at_call 17; refine (same_at _ A c1 c pick.length pick _ HT.out (by omega) HR.out hc rfl).mono ?_; rintro e w1 ⟨rfl, hb1⟩; have HB1 := Aside0.mk hb1; clear hb1)
    | ((with_reducible refine gate_dst (N := 23) rfl ?_); (try (refine gate_guard (by rfl) ?_; dsimp only)); refine Kd.R_lit k41 _ 41 ?hg (N := 23) ?hd (xs := ([spV, spV] : List SV)) (inner := [.string ⟨#[115, 112, 111, 105, 108, 116]⟩, .string ⟨#[115, 112, 111, 105, 108, 116]⟩, .string ⟨#[115, 112, 111, 105, 108, 116]⟩, .string ⟨#[115, 112, 111, 105, 108, 116]⟩]) (ok := fun _ => True) (okp := fun _ => True) ?hr ?hp (fun _ hk => hk) trivial (Below.refl _ _) (Nat.le_refl _) (by simp) ?_; (case hd => rfl); (case hg => rfl); (case hr => first | (go_simp; done) | (go_simp; rfl)); (case hp => exact (Reps.c2 (show Kd.M k41 _ _ _ spV [.string ⟨#[115, 112, 111, 105, 108, 116]⟩, .string ⟨#[115, 112, 111, 105, 108, 116]⟩] from k41_mkM _ _ _ spV) (Reps.c2 (show Kd.M k41 _ _ _ spV [.string ⟨#[115, 112, 111, 105, 108, 116]⟩, .string ⟨#[115, 112, 111, 105, 108, 116]⟩] from k41_mkM _ _ _ spV) (Reps.none _ _)))); intro v2 w2 ho2 hb2 hg2 hn2; obtain ⟨A2, c2, e2⟩ := Kd.R_slice ho2; subst e2; have HL2 := Aside0.mk ho2; have HB12 := Aside0.mk (below_step HB1.out hb2); clear ho2 hb2 hg2 hn2))
  obtain ⟨cells0, hce0, hcs0, hgb⟩ := lent_cells HL3.out (by omega)
  have HCE := Aside0.mk hce0
  have HCS := Aside0.mk hcs0
  clear hce0 hcs0
  go_loopw [7] (fun i wr => SpRel w w3 (fun k => k = g) (pick.length + 2) i wr) (fun i _ => pick.length + 2 - (intOf i).toNat)
  case atStart => exact ⟨0, Nat.zero_le _, rfl, TK.refl _, Kept.of_below HB3.out _⟩
  case round =>
    clear HL HT HD HL2 HL3 HB12 HB1
    obtain ⟨k, hk, rfl, ht, hkw⟩ := hrel
    have HKW := Aside0.mk hkw
    have HTW := Aside0.mk ht
    by_cases hlt : k < pick.length + 2
    · obtain ⟨cells, hce, hcs⟩ := ht.row g _ _ HCE.out
      have hcs1 := HCS.out
      have hc0 : wr.cell? ⟨g, k * 2, none⟩ = some (cells[k * 2]'(by omega)) := (blk_cell hce _).trans (Array.getElem?_eq_getElem (by omega))
      have hc1' : wr.cell? ⟨g, k * 2 + 1, none⟩ = some (cells[k * 2 + 1]'(by omega)) := (blk_cell hce _).trans (Array.getElem?_eq_getElem (by omega))
      have hf0 := blk_frozen hce (k * 2)
      have hf1 := blk_frozen hce (k * 2 + 1)
      generalize cells[k * 2]'(by omega) = x0 at hc0
      generalize cells[k * 2 + 1]'(by omega) = x1 at hc1'
      clear hce hkw ht hcs hcs1
      go_wp2
      exact ⟨⟨k + 1, by omega, by go_num, (HTW.out.set g _ _).set g _ _, (HKW.out.setCell (p := ⟨g, k * 2, none⟩) (.inl rfl) _).setCell (p := ⟨g, k * 2 + 1, none⟩) (.inl rfl) _⟩, by simp [intOf]; omega⟩
    · clear hkw ht
      go_wp2
      go_ret
      exact ⟨rfl, HKW.out, (TK.of_below HB3.out).trans HTW.out⟩
end Go.Proofs.Ytfkibolpanlelaa.Q
end
section
namespace Go.Proofs.Ytfkibolpanlelaa.Q
open Go Go.RowKit Go.Shelf Go.Proofs.YtfkibolpanlelaaW.PrintWords Go.Proofs.YtfkibolpanlelaaW.PrintLast Go.Proofs.YtfkibolpanlelaaW.PrintMore Go.Proofs.Ytfkibolpanlelaa.SMap
set_option linter.unusedVariables false
set_option linter.unusedSimpArgs false
theorem awake_at (w : World) (hgm : GM w) : Calls Try.prog 19 #[] w fun e w' => e = .returned (.bool true) ∧ Below w.heap.size w w' := by
  obtain ⟨k, hk⟩ := awake_ev.rounds
  exact shuttlelaw10_awake.calls k true w hgm hk
theorem bulkE_small {z : List SV} (h : (z.map bV).sum ≤ 1048576) : smallV z = true := smallV_of fun v hv => by
  have := mem_sum z v hv
  have e : bV v = v.f0.size + 1 + (v.f1.size + 1) + 1 := rfl
  omega
end Go.Proofs.Ytfkibolpanlelaa.Q
end
section
namespace Go.Proofs.Ytfkibolpanlelaa.Q
open Go Go.RowKit Go.Shelf Go.Proofs.YtfkibolpanlelaaW.PrintWords Go.Proofs.YtfkibolpanlelaaW.PrintLast Go.Proofs.YtfkibolpanlelaaW.PrintMore Go.Proofs.Ytfkibolpanlelaa.SMap
set_option linter.unusedVariables false
set_option linter.unusedSimpArgs false
theorem own_ok {α : Type} {d : Kd α} {w : World} {e base n c : Nat} {ok : Nat → Prop} {A : Option Addr} {xs : List α} (h : d.R e w base ok (.slice A n c) xs) : ∀ k, ownS A k → ok k := by
  intro k hk
  subst hk
  exact h.1 k (own_some k n c)
/-- A list of the call's own, in a block between two numbers. -/
def OwnV (w : World) (lo hi : Nat) (v : Value) (xs : List SV) : Prop := Kd.R k41 41 w lo (fun k => lo ≤ k ∧ k < hi) v xs
theorem OwnV.of_R {w : World} {base : Nat} {v : Value} {xs : List SV} (h : Kd.R k41 41 w base (fun _ => True) v xs) : OwnV w base w.heap.size v xs := Kd.R_mono (Kd.R_bound h) (fun k hk => ⟨hk.2.1, hk.2.2.1⟩)
theorem OwnV.below {w w' : World} {lo hi : Nat} {v : Value} {xs : List SV} (h : OwnV w lo hi v xs) (hb : Below w.heap.size w w') : OwnV w' lo hi v xs := Kd.R_below h hb
theorem OwnV.kept {w w' : World} {lo hi : Nat} {v : Value} {xs : List SV} {S : Nat → Prop} (h : OwnV w lo hi v xs) (hk : Kept w w' S) (hne : ∀ k, S k → k < lo ∨ hi ≤ k) : OwnV w' lo hi v xs :=
  Kd.R_kept h hk (fun k hk hs => by have := hne k hs; omega)
theorem OwnV.C {w : World} {lo hi n c : Nat} {A : Option Addr} {xs : List SV} (h : OwnV w lo hi (.slice A n c) xs) : Kd.C k41 w A xs.length xs := (Kd.R_reads' h).2.2
theorem OwnV.cap {w : World} {lo hi n c : Nat} {A : Option Addr} {xs : List SV} (h : OwnV w lo hi (.slice A n c) xs) : n ≤ c := (Kd.R_reads' h).2.1
theorem OwnV.at_ {w : World} {lo hi n c : Nat} {A : Option Addr} {xs : List SV} (h : OwnV w lo hi (.slice A n c) xs) (k : Nat) (hk : ownS A k) : lo ≤ k ∧ k < hi := own_ok h k hk
theorem OwnV.at_g {w : World} {lo hi n c g : Nat} {xs : List SV} (h : OwnV w lo hi (.slice (some ⟨g, 0, none⟩) n c) xs) : lo ≤ g ∧ g < hi := own_ok h g rfl
abbrev Ly := Option Addr × Nat × List SV
def lyOk (w : World) (x : Ly) : Prop := x.2.2.length ≤ x.2.1 ∧ Kd.C k41 w x.1 x.2.2.length x.2.2
theorem copy_at (A : Option Addr) (c m : Nat) (z : List SV) (w : World) (hr : Kd.C k41 w A z.length z) (hc : m ≤ c) (hm : z.length = m) (hl : z.length ≤ 1048576) :
    Calls Try.prog 16 #[.slice A m c] w fun r w' => ∃ A' c', r = .returned (.slice A' z.length c') ∧ lyOk w' (A', c', z) ∧ Below w.heap.size w w' := by
  subst hm
  refine (shuttlelaw0_CopyVars.calls A c z z w hr hc (copy_ev z (by omega))).mono ?_
  rintro r w' ⟨v, rfl, hR, hb⟩
  obtain ⟨A', c', rfl⟩ := Kd.R_slice hR
  exact ⟨A', c', rfl, ⟨(Kd.R_reads' hR).2.1, (Kd.R_reads' hR).2.2⟩, hb⟩
theorem sameV_at (A0 A1 : Option Addr) (c0 c1 m0 m1 : Nat) (l : List SV) (w : World) (h0 : Kd.C k41 w A0 l.length l) (hc0 : m0 ≤ c0) (h1 : Kd.C k41 w A1 l.length l) (hc1 : m1 ≤ c1) (hm0 : l.length = m0) (hm1 : l.length = m1) :
    Calls Try.prog 17 #[.slice A0 m0 c0, .slice A1 m1 c1] w fun e w' => e = .returned (.bool true) ∧ Below w.heap.size w w' := by
  subst hm0
  obtain rfl : l.length = m1 := hm1
  exact same_at A0 A1 c0 c1 l.length l w h0 hc0 h1 hc1 rfl
theorem lent_ly {w : World} {lo hi g cap : Nat} {z : List SV} (h : OwnV w lo hi (.slice (some ⟨g, 0, none⟩) (z.length + 2) cap) (z ++ [spV, spV])) : lyOk w (some ⟨g, 0, none⟩, cap, z) := by
  refine ⟨by have := h.cap; show z.length ≤ cap; omega, ?_⟩
  have := Kd.C_take (xs := z ++ [spV, spV]) (m := z.length) h.C (by simp)
  rw [List.take_left' rfl] at this
  exact this
end Go.Proofs.Ytfkibolpanlelaa.Q
end
section
namespace Go.Proofs.Ytfkibolpanlelaa.Q
open Go Go.RowKit Go.Shelf Go.Proofs.YtfkibolpanlelaaW.PrintWords Go.Proofs.YtfkibolpanlelaaW.PrintLast Go.Proofs.YtfkibolpanlelaaW.PrintMore Go.Proofs.Ytfkibolpanlelaa.SMap
set_option linter.unusedVariables false
set_option linter.unusedSimpArgs false
theorem rres_at (A : Option Addr) (c m : Nat) (z : List SV) (w : World) (hr : Kd.C k41 w A z.length z) (hc : m ≤ c) (hm : z.length = m) (ht : ∀ v ∈ z, v.f1.size ≤ 1073741824) (hl : z.length ≤ 1048576) {out : List SV} {a co : Int} (h : resolveP z = (out, a, co)) :
    Calls Try.prog 12 #[.slice A m c] w fun e w' => ∃ v, e = .returned (.tuple #[v, .int .i64 a, .int .i64 co]) ∧ OwnV w' w.heap.size w'.heap.size v out ∧ Below w.heap.size w w' := by
  subst hm
  refine (rres_any A c z w hr hc ht hl).mono ?_
  rintro e w' ⟨v, rfl, hR, hb⟩
  rw [h] at hR ⊢
  exact ⟨v, rfl, OwnV.of_R hR, hb⟩
theorem res_at (A : Option Addr) (c m : Nat) (z : List SV) (w : World) (hr : Kd.C k41 w A z.length z) (hc : m ≤ c) (hm : z.length = m) (hgm : GM w) (hs : smallV z = true) {out : List SV} {a co : Int} (h : resolveP z = (out, a, co)) :
    Calls Try.prog 14 #[.slice A m c] w fun e w' => ∃ v, e = .returned (.tuple #[v, .int .i64 a, .int .i64 co]) ∧ OwnV w' w.heap.size w'.heap.size v out ∧ Below w.heap.size w w' := by
  subst hm
  refine (vars_Resolve.calls A c z out a co w hr hc hgm ((res_ev z hs).trans (congrArg some h))).mono ?_
  rintro e w' ⟨v, rfl, hR, hb⟩
  exact ⟨v, rfl, OwnV.of_R hR, hb⟩
theorem out_len {z out : List SV} {a co : Int} (hl : z.length ≤ 1048576) (h : resolveP z = (out, a, co)) : out.length ≤ 1048576 := by
  rcases res_cases z with ⟨_, h1, _⟩ | ⟨_, _, o, h2, h3⟩
  · rw [h] at h1
    have h1 : out = [] := h1
    rw [h1]
    exact Nat.zero_le _
  · have h0 : (resolveP z).2.2 = 0 := by rw [h3]
    obtain ⟨_, _, V, _, _, h4⟩ := res_sound h0
    rw [h] at h4
    have h4 : out = z.map (gV V) := congrArg Prod.fst h4
    rw [h4, List.length_map]
    exact hl
set_option maxHeartbeats 2000000 in
set_option maxRecDepth 100000 in
theorem resolves_walk (A : Option Addr) (c : Nat) (z : List SV) (W : World) (hgm : GM W) (hC : Kd.C k41 W A z.length z) (hc : z.length ≤ c) (hs : smallV z = true) (hl : z.length ≤ 1048576) :
    Calls Try.prog 3 #[.slice A z.length c] W fun e W' => e = .returned (.bool true) ∧ Below W.heap.size W W' := by
  have L := Aside0.mk (show lyOk W (A, c, z) from ⟨hc, hC⟩)
  have HGM := Aside0.mk hgm
  have HS := Aside0.mk hs
  have HTX := Aside0.mk (smallV_iff hs)
  obtain ⟨out, a, er, hx⟩ : ∃ out a er, resolveP z = (out, a, er) := ⟨_, _, _, rfl⟩
  have hol := out_len hl hx
  have HX := Aside0.mk hx
  clear hgm hC hs hx
  go_enter Try.func3, Try.ntmps3
  --ARMS
  go_wp2_with (first
    | (go_at_call 19; have _p := P9; refine (awake_at _ (GM.below HGM.out HB.out)).mono ?_; rintro e w10 ⟨rfl, hb⟩; have HB' := Aside0.mk (below_step HB.out hb); clear HB; have HB := HB'; clear HB'; (try clear ho1); (try clear hly); (try clear hb); (try clear hk); (try clear ht); (try clear hbb); have P10 := Aside0.mk True.intro; (try clear _p); clear P9)
    | (go_at_call 17; have _p := P8; refine (sameV_at Ay Aw cy cw out.length out.length out _ OY.out.C OY.out.cap OW.out.C OW.out.cap rfl rfl).mono ?_; rintro e w9 ⟨rfl, hb⟩; have HB' := Aside0.mk (below_step HB.out hb); clear OY OW HB; have HB := HB'; clear HB'; (try clear ho1); (try clear hly); (try clear hb); (try clear hk); (try clear ht); (try clear hbb); have P9 := Aside0.mk True.intro; (try clear _p); clear P8)
    | (go_at_call 18; have _p := P7; refine (spoilVars_any Ao out.length co inner _ _ HIN.out (by omega)).mono ?_; rintro e w8 ⟨rfl, hk, ht⟩; have hbb := TK.below ht hk HB.out.size (fun k hs => by have := OO.out.at_ k hs; have := N1.out; have := N2.out; have := N3.out; have := G0.out; omega); have OW' := Aside0.mk (OW.out.kept hk (fun k hs => by have := OO.out.at_ k hs; have := N1.out; have := N2.out; have := N3.out; have := G0.out; have := N5.out; have := HN4.out; omega)); have OY' := Aside0.mk (OY.out.kept hk (fun k hs => by have := OO.out.at_ k hs; have := N1.out; have := N2.out; have := N3.out; have := G0.out; have := N5.out; have := HN4.out; omega)); have HB' := Aside0.mk (HB.out.trans hbb); clear OW OY OO HIN HB; have OW := OW'; clear OW'; have OY := OY'; clear OY'; have HB := HB'; clear HB'; (try clear ho1); (try clear hly); (try clear hb); (try clear hk); (try clear ht); (try clear hbb); have P8 := Aside0.mk True.intro; (try clear _p); clear P7)
    | (go_at_call 17; have _p := P6; refine (sameV_at Ao Aw co cw out.length out.length out _ OO.out.C OO.out.cap OW.out.C OW.out.cap rfl rfl).mono ?_; rintro e w7 ⟨rfl, hb⟩; have OW' := Aside0.mk (OW.out.below hb); have OO' := Aside0.mk (OO.out.below hb); have OY' := Aside0.mk (OY.out.below hb); have HB' := Aside0.mk (below_step HB.out hb); clear OW OO OY HB; have OW := OW'; clear OW'; have OO := OO'; clear OO'; have OY := OY'; clear OY'; have HB := HB'; clear HB'; obtain ⟨inner, hin⟩ := Kd.R_own OO.out; have HIN := Aside0.mk hin; clear hin; (try clear ho1); (try clear hly); (try clear hb); (try clear hk); (try clear ht); (try clear hbb); have P7 := Aside0.mk True.intro; (try clear _p); clear P6)
    | (go_at_call 14; have _p := P5; refine (res_at B5 b5 z.length z _ Ya.out.2 Ya.out.1 rfl (GM.below HGM.out HB.out) HS.out HX.out).mono ?_; rintro e w6 ⟨v6, rfl, ho1, hb⟩; obtain ⟨Ay, cy, rfl⟩ := Kd.R_slice ho1; have OW' := Aside0.mk (OW.out.below hb); have OO' := Aside0.mk (OO.out.below hb); have HB' := Aside0.mk (below_step HB.out hb); clear OW OO Ya HB; have OW := OW'; clear OW'; have OO := OO'; clear OO'; have HB := HB'; clear HB'; have OY := Aside0.mk ho1; (try clear ho1); (try clear hly); (try clear hb); (try clear hk); (try clear ht); (try clear hbb); have P6 := Aside0.mk True.intro; (try clear _p); clear P5)
    | (go_at_call 16; have _p := P4; refine (copy_at A c z.length z _ (Kd.C_below L.out.2 HB.out) hc rfl hl).mono ?_; rintro e w5 ⟨B5, b5, rfl, hly, hb⟩; have N5 := Aside0.mk hb.size; have OW' := Aside0.mk (OW.out.below hb); have OO' := Aside0.mk (OO.out.below hb); have HB' := Aside0.mk (below_step HB.out hb); clear OW OO HB; have OW := OW'; clear OW'; have OO := OO'; clear OO'; have HB := HB'; clear HB'; have Ya := Aside0.mk hly; (try clear ho1); (try clear hly); (try clear hb); (try clear hk); (try clear ht); (try clear hbb); have P5 := Aside0.mk True.intro; (try clear _p); clear P4)
    | (go_at_call 15; have _p := P3; refine (kept2_any _ g0 cap0 A c z _ (Kd.C_below L.out.2 HB.out) hc (by omega) (Kd.R_mono OX0.out (fun _ _ => trivial))).mono ?_; rintro e w4 ⟨rfl, hk, ht⟩; have HN4 := Aside0.mk hk.1; have hbb := TK.below ht hk HB.out.size (fun k hs => by subst hs; have := N1.out; have := N2.out; have := N3.out; have := G0.out; omega); have OW' := Aside0.mk (OW.out.kept hk (fun k hs => by subst hs; have := N1.out; have := N2.out; have := N3.out; have := G0.out; omega)); have OO' := Aside0.mk (OO.out.kept hk (fun k hs => by subst hs; have := N1.out; have := N2.out; have := N3.out; have := G0.out; omega)); have HB' := Aside0.mk (HB.out.trans hbb); clear OW OO OX0 HB; have OW := OW'; clear OW'; have OO := OO'; clear OO'; have HB := HB'; clear HB'; (try clear ho1); (try clear hly); (try clear hb); (try clear hk); (try clear ht); (try clear hbb); have P4 := Aside0.mk True.intro; (try clear _p); clear P3)
    | (go_at_call 14; have _p := P2; refine (res_at (some ⟨g0, 0, none⟩) cap0 z.length z _ (lent_ly OX0.out).2 (lent_ly OX0.out).1 rfl (GM.below HGM.out HB.out) HS.out HX.out).mono ?_; rintro e w3 ⟨v3, rfl, ho1, hb⟩; obtain ⟨Ao, co, rfl⟩ := Kd.R_slice ho1; have N3 := Aside0.mk hb.size; have OW' := Aside0.mk (OW.out.below hb); have OX0' := Aside0.mk (OX0.out.below hb); have HB' := Aside0.mk (below_step HB.out hb); clear OW OX0 HB; have OW := OW'; clear OW'; have OX0 := OX0'; clear OX0'; have HB := HB'; clear HB'; have OO := Aside0.mk ho1; (try clear ho1); (try clear hly); (try clear hb); (try clear hk); (try clear ht); (try clear hbb); have P3 := Aside0.mk True.intro; (try clear _p); clear P2)
    | (go_at_call 13; have _p := P1; refine (lend_any A c z _ (Kd.C_below L.out.2 HB.out) hc (by omega)).mono ?_; rintro e w2 ⟨g0, cap0, rfl, hq⟩; have hb := hq.below; have N2 := Aside0.mk hb.size; have G0 := Aside0.mk ((OwnV.of_R hq.own).at_g); have OW' := Aside0.mk (OW.out.below hb); have HB' := Aside0.mk (below_step HB.out hb); clear OW HB; have OW := OW'; clear OW'; have HB := HB'; clear HB'; have OX0 := Aside0.mk (OwnV.of_R hq.own); clear hq; (try clear ho1); (try clear hly); (try clear hb); (try clear hk); (try clear ht); (try clear hbb); have P2 := Aside0.mk True.intro; (try clear _p); clear P1)
    | (go_at_call 12; refine (rres_at A c z.length z _ L.out.2 hc rfl HTX.out hl HX.out).mono ?_; rintro e w1 ⟨v1, rfl, ho1, hb⟩; obtain ⟨Aw, cw, rfl⟩ := Kd.R_slice ho1; have N1 := Aside0.mk hb.size; have HB' := Aside0.mk (hb); have HB := HB'; clear HB'; have OW := Aside0.mk ho1; (try clear ho1); (try clear hly); (try clear hb); (try clear hk); (try clear ht); (try clear hbb); have P1 := Aside0.mk True.intro; (try clear _p)))
  --END
  go_ret
  exact ⟨rfl, HB.out⟩
theorem varsResolves_go (A : Option Addr) (c : Nat) (z : List SV) (W : World) (hgm : GM W) (hC : Kd.C k41 W A z.length z) (hc : z.length ≤ c) (hs : (z.map bV).sum ≤ 1048576) :
    Calls Try.prog 3 #[.slice A z.length c] W fun e W' => e = .returned (.bool true) ∧ Below W.heap.size W W' :=
  resolves_walk A c z W hgm hC hc (bulkE_small hs) (Nat.le_trans (len_sum z) hs)
end Go.Proofs.Ytfkibolpanlelaa.Q
end
