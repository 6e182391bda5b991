/- The walk of statement VarsOverlays. -/
import Derived.Test.YtfkibolpanlelaaEAVRefO
import Derived.Test.YtfkibolpanlelaaEAVKept
import Derived.Test.YtfkibolpanlelaaEAVOpen
import Derived.Test.YtfkibolpanlelaaEAVExpLaw
namespace Go.Proofs.Ytfkibolpanlelaa.Q
open Go Go.RowKit Go.Shelf Go.Proofs.YtfkibolpanlelaaW.PrintWords Go.Proofs.YtfkibolpanlelaaW.PrintLast Go.Proofs.YtfkibolpanlelaaW.PrintMore Go.Proofs.Ytfkibolpanlelaa.SMap
set_option linter.unusedVariables false
set_option linter.unusedSimpArgs false
theorem own_ok {α : Type} {d : Kd α} {w : World} {e base n c : Nat} {ok : Nat → Prop} {A : Option Addr} {xs : List α} (h : d.R e w base ok (.slice A n c) xs) : ∀ k, ownS A k → ok k := by
  intro k hk
  subst hk
  exact h.1 k (own_some k n c)
/-- A list of the call's own, in a block between two numbers. -/
def OwnV (w : World) (lo hi : Nat) (v : Value) (xs : List SV) : Prop := Kd.R k41 41 w lo (fun k => lo ≤ k ∧ k < hi) v xs
theorem OwnV.of_R {w : World} {base : Nat} {v : Value} {xs : List SV} (h : Kd.R k41 41 w base (fun _ => True) v xs) : OwnV w base w.heap.size v xs := Kd.R_mono (Kd.R_bound h) (fun k hk => ⟨hk.2.1, hk.2.2.1⟩)
theorem OwnV.below {w w' : World} {lo hi : Nat} {v : Value} {xs : List SV} (h : OwnV w lo hi v xs) (hb : Below w.heap.size w w') : OwnV w' lo hi v xs := Kd.R_below h hb
theorem OwnV.kept {w w' : World} {lo hi : Nat} {v : Value} {xs : List SV} {S : Nat → Prop} (h : OwnV w lo hi v xs) (hk : Kept w w' S) (hne : ∀ k, S k → k < lo ∨ hi ≤ k) : OwnV w' lo hi v xs :=
  Kd.R_kept h hk (fun k hk hs => by have := hne k hs; omega)
theorem OwnV.C {w : World} {lo hi n c : Nat} {A : Option Addr} {xs : List SV} (h : OwnV w lo hi (.slice A n c) xs) : Kd.C k41 w A xs.length xs := (Kd.R_reads' h).2.2
theorem OwnV.cap {w : World} {lo hi n c : Nat} {A : Option Addr} {xs : List SV} (h : OwnV w lo hi (.slice A n c) xs) : n ≤ c := (Kd.R_reads' h).2.1
theorem OwnV.at_ {w : World} {lo hi n c : Nat} {A : Option Addr} {xs : List SV} (h : OwnV w lo hi (.slice A n c) xs) (k : Nat) (hk : ownS A k) : lo ≤ k ∧ k < hi := own_ok h k hk
theorem OwnV.at_g {w : World} {lo hi n c g : Nat} {xs : List SV} (h : OwnV w lo hi (.slice (some ⟨g, 0, none⟩) n c) xs) : lo ≤ g ∧ g < hi := own_ok h g rfl
abbrev Ly := Option Addr × Nat × List SV
def lyV (x : Ly) : Value := .slice x.1 x.2.2.length x.2.1
def lyOk (w : World) (x : Ly) : Prop := x.2.2.length ≤ x.2.1 ∧ Kd.C k41 w x.1 x.2.2.length x.2.2
theorem C_lays {w : World} (xs : List Ly) (h : ∀ x ∈ xs, lyOk w x) (e : TypeId) (hn : xs.length ≤ 9223372036854775807) :
    Kd.C (Kd.slice 41 k41) (w.alloc (.cells (xs.map lyV).toArray e)) (some ⟨w.heap.size, 0, none⟩) xs.length (xs.map (·.2.2)) := by
  refine ⟨by rw [List.length_map], hn, fun _ => ⟨_, rfl, fun j p hj => ?_⟩⟩
  rw [List.getElem?_map] at hj
  obtain ⟨x, hx, rfl⟩ := Option.map_eq_some_iff.1 hj
  obtain ⟨h1, h2⟩ := h x (List.mem_of_getElem? hx)
  refine ⟨[lyV x], rfl, ⟨x.1, x.2.1, rfl, h1, Kd.C_alloc h2 _⟩, fun i u hu => ?_⟩
  have hi : i = 0 := by
    have := (List.getElem?_eq_some_iff.1 hu).1
    simpa using this
  subst hi
  obtain rfl : lyV x = u := by simpa using hu
  rw [add_zero', blk_cell (heap_alloc_new w _)]
  show (xs.map lyV).toArray[j * 1 + 0]? = _
  rw [Nat.mul_one, Nat.add_zero, List.getElem?_toArray, List.getElem?_map, hx]
  rfl
theorem over_lays {w : World} (xs : List Ly) (h : ∀ x ∈ xs, lyOk w x) (e : TypeId) (hn : xs.length ≤ 1048576) (hs : (xs.map (·.2.2)).flatten.length ≤ 4398046511103) :
    Calls Try.prog 25 #[.slice (some ⟨w.heap.size, 0, none⟩) xs.length xs.length] (w.alloc (.cells (xs.map lyV).toArray e)) fun r w' => ∃ v, r = .returned v ∧ OwnV w' w.heap.size w'.heap.size v (overB (xs.map (·.2.2))) ∧ Below w.heap.size w w' := by
  have hC := C_lays xs h e (by omega)
  have hl : (xs.map (·.2.2)).length = xs.length := List.length_map ..
  have hov : vars_Overlay.f (xs.map (·.2.2)) = some (overB (xs.map (·.2.2))) := by unfold vars_Overlay.f ovSmall; rw [decide_eq_true hs, if_pos rfl]
  have hc := vars_Overlay.calls (some ⟨w.heap.size, 0, none⟩) xs.length (xs.map (·.2.2)) (overB (xs.map (·.2.2))) _ (hl.symm ▸ hC) (by rw [hl]; exact Nat.le_refl _) hov
  rw [hl] at hc
  refine hc.mono ?_
  rintro r w' ⟨v, rfl, hR, hb⟩
  have hsz : (w.alloc (.cells (xs.map lyV).toArray e)).heap.size = w.heap.size + 1 := by simp
  exact ⟨v, rfl, OwnV.of_R (Kd.R_lower hR (by omega)), below_step (below_alloc (Below.refl _ _) _) hb⟩
theorem rover_lays {w : World} (xs : List Ly) (h : ∀ x ∈ xs, lyOk w x) (e : TypeId) (hn : xs.length ≤ 1048576) (hs : (xs.map (·.2.2)).flatten.length ≤ 1048576) :
    Calls Try.prog 24 #[.slice (some ⟨w.heap.size, 0, none⟩) xs.length xs.length] (w.alloc (.cells (xs.map lyV).toArray e)) fun r w' => ∃ v, r = .returned v ∧ OwnV w' w.heap.size w'.heap.size v (overB (xs.map (·.2.2))) ∧ Below w.heap.size w w' := by
  have hC := C_lays xs h e (by omega)
  have hl : (xs.map (·.2.2)).length = xs.length := List.length_map ..
  obtain ⟨k, hk⟩ := (rover_ev (xs.map (·.2.2)) (by omega) hs).rounds
  have hc := shuttleref10_Overlay.calls k (some ⟨w.heap.size, 0, none⟩) xs.length (xs.map (·.2.2)) (overB (xs.map (·.2.2))) _ (hl.symm ▸ hC) (by rw [hl]; exact Nat.le_refl _) hk
  rw [hl] at hc
  refine hc.mono ?_
  rintro r w' ⟨v, rfl, hR, hb⟩
  have hsz : (w.alloc (.cells (xs.map lyV).toArray e)).heap.size = w.heap.size + 1 := by simp
  exact ⟨v, rfl, OwnV.of_R (Kd.R_lower hR (by omega)), below_step (below_alloc (Below.refl _ _) _) hb⟩
theorem over_none (w : World) : Calls Try.prog 25 #[.slice none 0 0] w fun r w' => ∃ A c, r = .returned (.slice A 0 c) ∧ Below w.heap.size w w' := by
  have hov : vars_Overlay.f ([] : List (List SV)) = some [] := rfl
  refine (vars_Overlay.calls none 0 [] [] w (Kd.C_nil _ _) (Nat.le_refl _) hov).mono ?_
  rintro r w' ⟨v, rfl, hR, hb⟩
  obtain ⟨A, c, rfl⟩ := Kd.R_slice hR
  exact ⟨A, c, rfl, hb⟩
theorem copy_at (A : Option Addr) (c m : Nat) (z : List SV) (w : World) (hr : Kd.C k41 w A z.length z) (hc : m ≤ c) (hm : z.length = m) (hl : z.length ≤ 1048576) :
    Calls Try.prog 16 #[.slice A m c] w fun r w' => ∃ A' c', r = .returned (.slice A' z.length c') ∧ lyOk w' (A', c', z) ∧ Below w.heap.size w w' := by
  subst hm
  refine (shuttlelaw0_CopyVars.calls A c z z w hr hc (copy_ev z (by omega))).mono ?_
  rintro r w' ⟨v, rfl, hR, hb⟩
  obtain ⟨A', c', rfl⟩ := Kd.R_slice hR
  exact ⟨A', c', rfl, ⟨(Kd.R_reads' hR).2.1, (Kd.R_reads' hR).2.2⟩, hb⟩
theorem sameV_at (A0 A1 : Option Addr) (c0 c1 m0 m1 : Nat) (l : List SV) (w : World) (h0 : Kd.C k41 w A0 l.length l) (hc0 : m0 ≤ c0) (h1 : Kd.C k41 w A1 l.length l) (hc1 : m1 ≤ c1) (hm0 : l.length = m0) (hm1 : l.length = m1) :
    Calls Try.prog 17 #[.slice A0 m0 c0, .slice A1 m1 c1] w fun e w' => e = .returned (.bool true) ∧ Below w.heap.size w w' := by
  subst hm0
  obtain rfl : l.length = m1 := hm1
  exact same_at A0 A1 c0 c1 l.length l w h0 hc0 h1 hc1 rfl
theorem lyOk.below {w w' : World} {x : Ly} (h : lyOk w x) (hb : Below w.heap.size w w') : lyOk w' x := ⟨h.1, Kd.C_below h.2 hb⟩
theorem lent_ly {w : World} {lo hi g cap : Nat} {z : List SV} (h : OwnV w lo hi (.slice (some ⟨g, 0, none⟩) (z.length + 2) cap) (z ++ [spV, spV])) : lyOk w (some ⟨g, 0, none⟩, cap, z) := by
  refine ⟨by have := h.cap; show z.length ≤ cap; omega, ?_⟩
  have := Kd.C_take (xs := z ++ [spV, spV]) (m := z.length) h.C (by simp)
  rw [List.take_left' rfl] at this
  exact this
theorem own_ly {w : World} {lo hi c : Nat} {A : Option Addr} {xs : List SV} (h : OwnV w lo hi (.slice A xs.length c) xs) : lyOk w (A, c, xs) := ⟨h.cap, h.C⟩
set_option maxHeartbeats 2000000 in
set_option maxRecDepth 100000 in
theorem overlays_walk (A0 : Option Addr) (c0 : Nat) (z0 : List SV) (A1 : Option Addr) (c1 : Nat) (z1 : List SV) (A2 : Option Addr) (c2 : Nat) (z2 : List SV) (W : World) (hgm : GM W)
    (hC0 : Kd.C k41 W A0 z0.length z0) (hc0 : z0.length ≤ c0) (hC1 : Kd.C k41 W A1 z1.length z1) (hc1 : z1.length ≤ c1) (hC2 : Kd.C k41 W A2 z2.length z2) (hc2 : z2.length ≤ c2) (hl : z0.length + z1.length + z2.length ≤ 1048576) :
    Calls Try.prog 5 #[.slice A0 z0.length c0, .slice A1 z1.length c1, .slice A2 z2.length c2] W fun e W' => e = .returned (.bool true) ∧ Below W.heap.size W W' := by
  have L0 := Aside0.mk (show lyOk W (A0, c0, z0) from ⟨hc0, hC0⟩)
  have L1 := Aside0.mk (show lyOk W (A1, c1, z1) from ⟨hc1, hC1⟩)
  have L2 := Aside0.mk (show lyOk W (A2, c2, z2) from ⟨hc2, hC2⟩)
  have HGM := Aside0.mk hgm
  obtain ⟨want, hw⟩ : ∃ want, overB [z0, z1, z2] = want := ⟨_, rfl⟩
  obtain ⟨left, hl2⟩ : ∃ left, overB [z0, z1] = left := ⟨_, rfl⟩
  obtain ⟨right, hr2⟩ : ∃ right, overB [z1, z2] = right := ⟨_, rfl⟩
  have HW := Aside0.mk hw
  have HWL := Aside0.mk (show overB [left, z2] = want by rw [← hl2, over_left, hw])
  have HWR := Aside0.mk (show overB [z0, right] = want by rw [← hr2, over_right, hw])
  have HLL := Aside0.mk hl2
  have HRR := Aside0.mk hr2
  have hlw : want.length ≤ 1048576 := by rw [← hw]; refine Nat.le_trans (over_len _) ?_; simp; omega
  have hll : left.length ≤ 1048576 := by rw [← hl2]; refine Nat.le_trans (over_len _) ?_; simp; omega
  have hlr : right.length ≤ 1048576 := by rw [← hr2]; refine Nat.le_trans (over_len _) ?_; simp; omega
  have z0l : z0.length ≤ 1048576 := by omega
  have z1l : z1.length ≤ 1048576 := by omega
  have z2l : z2.length ≤ 1048576 := by omega
  clear hgm hC0 hC1 hC2 hw hl2 hr2
  go_enter Try.func5, Try.ntmps5
--ARMS
  go_wp2_with (first
    | (go_at_call 19; have _p := P23; refine (awake_at _ (GM.below HGM.out HB.out)).mono ?_; rintro e w24 ⟨rfl, hb⟩; have HB' := Aside0.mk (below_step HB.out hb); clear HB; have HB := HB'; clear HB'; (try clear ho1); (try clear hly); (try clear hb); (try clear hk); (try clear ht); (try clear hbb); have P24 := Aside0.mk True.intro; (try clear _p); clear P23)
    | (go_at_call 25; have _p := P22; refine (over_none _).mono ?_; rintro e w23 ⟨B23, b23, rfl, hb⟩; have HB' := Aside0.mk (below_step HB.out hb); clear OW HB; have HB := HB'; clear HB'; (try clear ho1); (try clear hly); (try clear hb); (try clear hk); (try clear ht); (try clear hbb); have P23 := Aside0.mk True.intro; (try clear _p); clear P22)
    | (go_at_call 17; have _p := P21; refine (sameV_at B20 Aw b20 cw want.length want.length want _ OQ.out.C OQ.out.cap OW.out.C OW.out.cap rfl rfl).mono ?_; rintro e w22 ⟨rfl, hb⟩; have OW' := Aside0.mk (OW.out.below hb); have HB' := Aside0.mk (below_step HB.out hb); clear OW OQ HB; have OW := OW'; clear OW'; have HB := HB'; clear HB'; (try clear ho1); (try clear hly); (try clear hb); (try clear hk); (try clear ht); (try clear hbb); have P22 := Aside0.mk True.intro; (try clear _p); clear P21)
    | (go_at_call 17; have _p := P20; refine (sameV_at B15 Aw b15 cw want.length want.length want _ OP.out.C OP.out.cap OW.out.C OW.out.cap rfl rfl).mono ?_; rintro e w21 ⟨rfl, hb⟩; have OW' := Aside0.mk (OW.out.below hb); have OQ' := Aside0.mk (OQ.out.below hb); have HB' := Aside0.mk (below_step HB.out hb); clear OW OQ OP HB; have OW := OW'; clear OW'; have OQ := OQ'; clear OQ'; have HB := HB'; clear HB'; (try clear ho1); (try clear hly); (try clear hb); (try clear hk); (try clear ht); (try clear hbb); have P21 := Aside0.mk True.intro; (try clear _p); clear P20)
    | (go_at_call 25; have _p := P19; refine (over_lays [(B16, b16, z0), (B19, b19, right)] (by intro x hx; simp only [List.mem_cons, List.not_mem_nil, or_false] at hx; rcases hx with rfl | rfl; exact Yd.out; exact (own_ly OR.out)) 22 (by simp) (by simp; omega)).mono ?_; rintro e w20 ⟨v20, rfl, ho, hb⟩; have ho1 : OwnV w20 _ _ v20 want := HWR.out ▸ ho; clear ho; obtain ⟨B20, b20, rfl⟩ := Kd.R_slice ho1; have OW' := Aside0.mk (OW.out.below hb); have OP' := Aside0.mk (OP.out.below hb); have HB' := Aside0.mk (below_step HB.out hb); clear OW OP Yd OR HB; have OW := OW'; clear OW'; have OP := OP'; clear OP'; have HB := HB'; clear HB'; have OQ := Aside0.mk ho1; (try clear ho1); (try clear hly); (try clear hb); (try clear hk); (try clear ht); (try clear hbb); have P20 := Aside0.mk True.intro; (try clear _p); clear P19)
    | (go_at_call 25; have _p := P18; refine (over_lays [(B17, b17, z1), (B18, b18, z2)] (by intro x hx; simp only [List.mem_cons, List.not_mem_nil, or_false] at hx; rcases hx with rfl | rfl; exact Ye.out; exact Yf.out) 22 (by simp) (by simp; omega)).mono ?_; rintro e w19 ⟨v19, rfl, ho, hb⟩; have ho1 : OwnV w19 _ _ v19 right := HRR.out ▸ ho; clear ho; obtain ⟨B19, b19, rfl⟩ := Kd.R_slice ho1; have OW' := Aside0.mk (OW.out.below hb); have OP' := Aside0.mk (OP.out.below hb); have Yd' := Aside0.mk (Yd.out.below hb); have HB' := Aside0.mk (below_step HB.out hb); clear OW OP Yd Ye Yf HB; have OW := OW'; clear OW'; have OP := OP'; clear OP'; have Yd := Yd'; clear Yd'; have HB := HB'; clear HB'; have OR := Aside0.mk ho1; (try clear ho1); (try clear hly); (try clear hb); (try clear hk); (try clear ht); (try clear hbb); have P19 := Aside0.mk True.intro; (try clear _p); clear P18)
    | (go_at_call 16; have _p := P17; refine (copy_at A2 c2 z2.length z2 _ (Kd.C_below L2.out.2 HB.out) hc2 rfl z2l).mono ?_; rintro e w18 ⟨B18, b18, rfl, hly, hb⟩; have OW' := Aside0.mk (OW.out.below hb); have OP' := Aside0.mk (OP.out.below hb); have Yd' := Aside0.mk (Yd.out.below hb); have Ye' := Aside0.mk (Ye.out.below hb); have HB' := Aside0.mk (below_step HB.out hb); clear OW OP Yd Ye HB; have OW := OW'; clear OW'; have OP := OP'; clear OP'; have Yd := Yd'; clear Yd'; have Ye := Ye'; clear Ye'; have HB := HB'; clear HB'; have Yf := Aside0.mk hly; (try clear ho1); (try clear hly); (try clear hb); (try clear hk); (try clear ht); (try clear hbb); have P18 := Aside0.mk True.intro; (try clear _p); clear P17)
    | (go_at_call 16; have _p := P16; refine (copy_at A1 c1 z1.length z1 _ (Kd.C_below L1.out.2 HB.out) hc1 rfl z1l).mono ?_; rintro e w17 ⟨B17, b17, rfl, hly, hb⟩; have OW' := Aside0.mk (OW.out.below hb); have OP' := Aside0.mk (OP.out.below hb); have Yd' := Aside0.mk (Yd.out.below hb); have HB' := Aside0.mk (below_step HB.out hb); clear OW OP Yd HB; have OW := OW'; clear OW'; have OP := OP'; clear OP'; have Yd := Yd'; clear Yd'; have HB := HB'; clear HB'; have Ye := Aside0.mk hly; (try clear ho1); (try clear hly); (try clear hb); (try clear hk); (try clear ht); (try clear hbb); have P17 := Aside0.mk True.intro; (try clear _p); clear P16)
    | (go_at_call 16; have _p := P15; refine (copy_at A0 c0 z0.length z0 _ (Kd.C_below L0.out.2 HB.out) hc0 rfl z0l).mono ?_; rintro e w16 ⟨B16, b16, rfl, hly, hb⟩; have OW' := Aside0.mk (OW.out.below hb); have OP' := Aside0.mk (OP.out.below hb); have HB' := Aside0.mk (below_step HB.out hb); clear OW OP HB; have OW := OW'; clear OW'; have OP := OP'; clear OP'; have HB := HB'; clear HB'; have Yd := Aside0.mk hly; (try clear ho1); (try clear hly); (try clear hb); (try clear hk); (try clear ht); (try clear hbb); have P16 := Aside0.mk True.intro; (try clear _p); clear P15)
    | (go_at_call 25; have _p := P14; refine (over_lays [(B13, b13, left), (B14, b14, z2)] (by intro x hx; simp only [List.mem_cons, List.not_mem_nil, or_false] at hx; rcases hx with rfl | rfl; exact (own_ly OL.out); exact Yc.out) 22 (by simp) (by simp; omega)).mono ?_; rintro e w15 ⟨v15, rfl, ho, hb⟩; have ho1 : OwnV w15 _ _ v15 want := HWL.out ▸ ho; clear ho; obtain ⟨B15, b15, rfl⟩ := Kd.R_slice ho1; have OW' := Aside0.mk (OW.out.below hb); have HB' := Aside0.mk (below_step HB.out hb); clear OW OL Yc HB; have OW := OW'; clear OW'; have HB := HB'; clear HB'; have OP := Aside0.mk ho1; (try clear ho1); (try clear hly); (try clear hb); (try clear hk); (try clear ht); (try clear hbb); have P15 := Aside0.mk True.intro; (try clear _p); clear P14)
    | (go_at_call 16; have _p := P13; refine (copy_at A2 c2 z2.length z2 _ (Kd.C_below L2.out.2 HB.out) hc2 rfl z2l).mono ?_; rintro e w14 ⟨B14, b14, rfl, hly, hb⟩; have OW' := Aside0.mk (OW.out.below hb); have OL' := Aside0.mk (OL.out.below hb); have HB' := Aside0.mk (below_step HB.out hb); clear OW OL HB; have OW := OW'; clear OW'; have OL := OL'; clear OL'; have HB := HB'; clear HB'; have Yc := Aside0.mk hly; (try clear ho1); (try clear hly); (try clear hb); (try clear hk); (try clear ht); (try clear hbb); have P14 := Aside0.mk True.intro; (try clear _p); clear P13)
    | (go_at_call 25; have _p := P12; refine (over_lays [(B11, b11, z0), (B12, b12, z1)] (by intro x hx; simp only [List.mem_cons, List.not_mem_nil, or_false] at hx; rcases hx with rfl | rfl; exact Ya.out; exact Yb.out) 22 (by simp) (by simp; omega)).mono ?_; rintro e w13 ⟨v13, rfl, ho, hb⟩; have ho1 : OwnV w13 _ _ v13 left := HLL.out ▸ ho; clear ho; obtain ⟨B13, b13, rfl⟩ := Kd.R_slice ho1; have OW' := Aside0.mk (OW.out.below hb); have HB' := Aside0.mk (below_step HB.out hb); clear OW Ya Yb HB; have OW := OW'; clear OW'; have HB := HB'; clear HB'; have OL := Aside0.mk ho1; (try clear ho1); (try clear hly); (try clear hb); (try clear hk); (try clear ht); (try clear hbb); have P13 := Aside0.mk True.intro; (try clear _p); clear P12)
    | (go_at_call 16; have _p := P11; refine (copy_at A1 c1 z1.length z1 _ (Kd.C_below L1.out.2 HB.out) hc1 rfl z1l).mono ?_; rintro e w12 ⟨B12, b12, rfl, hly, hb⟩; have OW' := Aside0.mk (OW.out.below hb); have Ya' := Aside0.mk (Ya.out.below hb); have HB' := Aside0.mk (below_step HB.out hb); clear OW Ya HB; have OW := OW'; clear OW'; have Ya := Ya'; clear Ya'; have HB := HB'; clear HB'; have Yb := Aside0.mk hly; (try clear ho1); (try clear hly); (try clear hb); (try clear hk); (try clear ht); (try clear hbb); have P12 := Aside0.mk True.intro; (try clear _p); clear P11)
    | (go_at_call 16; have _p := P10; refine (copy_at A0 c0 z0.length z0 _ (Kd.C_below L0.out.2 HB.out) hc0 rfl z0l).mono ?_; rintro e w11 ⟨B11, b11, rfl, hly, hb⟩; have OW' := Aside0.mk (OW.out.below hb); have HB' := Aside0.mk (below_step HB.out hb); clear OW HB; have OW := OW'; clear OW'; have HB := HB'; clear HB'; have Ya := Aside0.mk hly; (try clear ho1); (try clear hly); (try clear hb); (try clear hk); (try clear ht); (try clear hbb); have P11 := Aside0.mk True.intro; (try clear _p); clear P10)
    | (go_at_call 18; have _p := P9; refine (spoilVars_any Ao want.length co inner _ _ HIN.out (by omega)).mono ?_; rintro e w10 ⟨rfl, hk, ht⟩; have hbb := TK.below ht hk HB.out.size (fun k hs => by have := OO.out.at_ k hs; have := N1.out; have := N2.out; have := N3.out; have := N4.out; have := G0.out; have := G1.out; have := G2.out; omega); have OW' := Aside0.mk (OW.out.kept hk (fun k hs => .inr (by have := OO.out.at_ k hs; have := N1.out; have := N2.out; have := N3.out; have := N4.out; have := G0.out; have := G1.out; have := G2.out; omega))); have HB' := Aside0.mk (HB.out.trans hbb); clear OW OO HIN HB; have OW := OW'; clear OW'; have HB := HB'; clear HB'; (try clear ho1); (try clear hly); (try clear hb); (try clear hk); (try clear ht); (try clear hbb); have P10 := Aside0.mk True.intro; (try clear _p); clear P9)
    | (go_at_call 17; have _p := P8; refine (sameV_at Ao Aw co cw want.length want.length want _ OO.out.C OO.out.cap OW.out.C OW.out.cap rfl rfl).mono ?_; rintro e w9 ⟨rfl, hb⟩; have OW' := Aside0.mk (OW.out.below hb); have OO' := Aside0.mk (OO.out.below hb); have HB' := Aside0.mk (below_step HB.out hb); clear OW OO HB; have OW := OW'; clear OW'; have OO := OO'; clear OO'; have HB := HB'; clear HB'; obtain ⟨inner, hin⟩ := Kd.R_own OO.out; have HIN := Aside0.mk hin; clear hin; (try clear ho1); (try clear hly); (try clear hb); (try clear hk); (try clear ht); (try clear hbb); have P9 := Aside0.mk True.intro; (try clear _p); clear P8)
    | (go_at_call 15; have _p := P7; refine (kept2_any _ g2 cap2 A2 c2 z2 _ (Kd.C_below L2.out.2 HB.out) hc2 (by omega) (Kd.R_mono OX2.out (fun _ _ => trivial))).mono ?_; rintro e w8 ⟨rfl, hk, ht⟩; have hbb := TK.below ht hk HB.out.size (fun k hs => by subst hs; have := N1.out; have := N2.out; have := N3.out; have := N4.out; have := G0.out; have := G1.out; have := G2.out; omega); have OW' := Aside0.mk (OW.out.kept hk (fun k hs => by subst hs; have := N1.out; have := N2.out; have := N3.out; have := N4.out; have := G0.out; have := G1.out; have := G2.out; omega)); have OO' := Aside0.mk (OO.out.kept hk (fun k hs => by subst hs; have := N1.out; have := N2.out; have := N3.out; have := N4.out; have := G0.out; have := G1.out; have := G2.out; omega)); have HB' := Aside0.mk (HB.out.trans hbb); clear OW OO OX2 HB; have OW := OW'; clear OW'; have OO := OO'; clear OO'; have HB := HB'; clear HB'; (try clear ho1); (try clear hly); (try clear hb); (try clear hk); (try clear ht); (try clear hbb); have P8 := Aside0.mk True.intro; (try clear _p); clear P7)
    | (go_at_call 15; have _p := P6; refine (kept2_any _ g1 cap1 A1 c1 z1 _ (Kd.C_below L1.out.2 HB.out) hc1 (by omega) (Kd.R_mono OX1.out (fun _ _ => trivial))).mono ?_; rintro e w7 ⟨rfl, hk, ht⟩; have hbb := TK.below ht hk HB.out.size (fun k hs => by subst hs; have := N1.out; have := N2.out; have := N3.out; have := N4.out; have := G0.out; have := G1.out; have := G2.out; omega); have OW' := Aside0.mk (OW.out.kept hk (fun k hs => by subst hs; have := N1.out; have := N2.out; have := N3.out; have := N4.out; have := G0.out; have := G1.out; have := G2.out; omega)); have OX2' := Aside0.mk (OX2.out.kept hk (fun k hs => by subst hs; have := N1.out; have := N2.out; have := N3.out; have := N4.out; have := G0.out; have := G1.out; have := G2.out; omega)); have OO' := Aside0.mk (OO.out.kept hk (fun k hs => by subst hs; have := N1.out; have := N2.out; have := N3.out; have := N4.out; have := G0.out; have := G1.out; have := G2.out; omega)); have HB' := Aside0.mk (HB.out.trans hbb); clear OW OX2 OO OX1 HB; have OW := OW'; clear OW'; have OX2 := OX2'; clear OX2'; have OO := OO'; clear OO'; have HB := HB'; clear HB'; (try clear ho1); (try clear hly); (try clear hb); (try clear hk); (try clear ht); (try clear hbb); have P7 := Aside0.mk True.intro; (try clear _p); clear P6)
    | (go_at_call 15; have _p := P5; refine (kept2_any _ g0 cap0 A0 c0 z0 _ (Kd.C_below L0.out.2 HB.out) hc0 (by omega) (Kd.R_mono OX0.out (fun _ _ => trivial))).mono ?_; rintro e w6 ⟨rfl, hk, ht⟩; have hbb := TK.below ht hk HB.out.size (fun k hs => by subst hs; have := N1.out; have := N2.out; have := N3.out; have := N4.out; have := G0.out; have := G1.out; have := G2.out; omega); have OW' := Aside0.mk (OW.out.kept hk (fun k hs => by subst hs; have := N1.out; have := N2.out; have := N3.out; have := N4.out; have := G0.out; have := G1.out; have := G2.out; omega)); have OX1' := Aside0.mk (OX1.out.kept hk (fun k hs => by subst hs; have := N1.out; have := N2.out; have := N3.out; have := N4.out; have := G0.out; have := G1.out; have := G2.out; omega)); have OX2' := Aside0.mk (OX2.out.kept hk (fun k hs => by subst hs; have := N1.out; have := N2.out; have := N3.out; have := N4.out; have := G0.out; have := G1.out; have := G2.out; omega)); have OO' := Aside0.mk (OO.out.kept hk (fun k hs => by subst hs; have := N1.out; have := N2.out; have := N3.out; have := N4.out; have := G0.out; have := G1.out; have := G2.out; omega)); have HB' := Aside0.mk (HB.out.trans hbb); clear OW OX1 OX2 OO OX0 HB; have OW := OW'; clear OW'; have OX1 := OX1'; clear OX1'; have OX2 := OX2'; clear OX2'; have OO := OO'; clear OO'; have HB := HB'; clear HB'; (try clear ho1); (try clear hly); (try clear hb); (try clear hk); (try clear ht); (try clear hbb); have P6 := Aside0.mk True.intro; (try clear _p); clear P5)
    | (go_at_call 25; have _p := P4; refine (over_lays [(some ⟨g0, 0, none⟩, cap0, z0), (some ⟨g1, 0, none⟩, cap1, z1), (some ⟨g2, 0, none⟩, cap2, z2)] (by intro x hx; simp only [List.mem_cons, List.not_mem_nil, or_false] at hx; rcases hx with rfl | rfl | rfl; exact (lent_ly OX0.out); exact (lent_ly OX1.out); exact (lent_ly OX2.out)) 22 (by simp) (by simp; omega)).mono ?_; rintro e w5 ⟨v5, rfl, ho, hb⟩; have ho1 : OwnV w5 w4.heap.size w5.heap.size v5 want := HW.out ▸ ho; clear ho; obtain ⟨Ao, co, rfl⟩ := Kd.R_slice ho1; have N5 := Aside0.mk hb.size; have OW' := Aside0.mk (OW.out.below hb); have OX0' := Aside0.mk (OX0.out.below hb); have OX1' := Aside0.mk (OX1.out.below hb); have OX2' := Aside0.mk (OX2.out.below hb); have HB' := Aside0.mk (below_step HB.out hb); clear OW OX0 OX1 OX2 HB; have OW := OW'; clear OW'; have OX0 := OX0'; clear OX0'; have OX1 := OX1'; clear OX1'; have OX2 := OX2'; clear OX2'; have HB := HB'; clear HB'; have OO := Aside0.mk ho1; (try clear ho1); (try clear hly); (try clear hb); (try clear hk); (try clear ht); (try clear hbb); have P5 := Aside0.mk True.intro; (try clear _p); clear P4)
    | (go_at_call 13; have _p := P3; refine (lend_any A2 c2 z2 _ (Kd.C_below L2.out.2 HB.out) hc2 (by omega)).mono ?_; rintro e w4 ⟨g2, cap2, rfl, hq⟩; have hb := hq.below; have N4 := Aside0.mk hb.size; have G2 := Aside0.mk ((OwnV.of_R hq.own).at_g); have OW' := Aside0.mk (OW.out.below hb); have OX0' := Aside0.mk (OX0.out.below hb); have OX1' := Aside0.mk (OX1.out.below hb); have HB' := Aside0.mk (below_step HB.out hb); clear OW OX0 OX1 HB; have OW := OW'; clear OW'; have OX0 := OX0'; clear OX0'; have OX1 := OX1'; clear OX1'; have HB := HB'; clear HB'; have OX2 := Aside0.mk (OwnV.of_R hq.own); clear hq; (try clear ho1); (try clear hly); (try clear hb); (try clear hk); (try clear ht); (try clear hbb); have P4 := Aside0.mk True.intro; (try clear _p); clear P3)
    | (go_at_call 13; have _p := P2; refine (lend_any A1 c1 z1 _ (Kd.C_below L1.out.2 HB.out) hc1 (by omega)).mono ?_; rintro e w3 ⟨g1, cap1, rfl, hq⟩; have hb := hq.below; have N3 := Aside0.mk hb.size; have G1 := Aside0.mk ((OwnV.of_R hq.own).at_g); have OW' := Aside0.mk (OW.out.below hb); have OX0' := Aside0.mk (OX0.out.below hb); have HB' := Aside0.mk (below_step HB.out hb); clear OW OX0 HB; have OW := OW'; clear OW'; have OX0 := OX0'; clear OX0'; have HB := HB'; clear HB'; have OX1 := Aside0.mk (OwnV.of_R hq.own); clear hq; (try clear ho1); (try clear hly); (try clear hb); (try clear hk); (try clear ht); (try clear hbb); have P3 := Aside0.mk True.intro; (try clear _p); clear P2)
    | (go_at_call 13; have _p := P1; refine (lend_any A0 c0 z0 _ (Kd.C_below L0.out.2 HB.out) hc0 (by omega)).mono ?_; rintro e w2 ⟨g0, cap0, rfl, hq⟩; have hb := hq.below; have N2 := Aside0.mk hb.size; have G0 := Aside0.mk ((OwnV.of_R hq.own).at_g); have OW' := Aside0.mk (OW.out.below hb); have HB' := Aside0.mk (below_step HB.out hb); clear OW HB; have OW := OW'; clear OW'; have HB := HB'; clear HB'; have OX0 := Aside0.mk (OwnV.of_R hq.own); clear hq; (try clear ho1); (try clear hly); (try clear hb); (try clear hk); (try clear ht); (try clear hbb); have P2 := Aside0.mk True.intro; (try clear _p); clear P1)
    | (go_at_call 24; refine (rover_lays [(A0, c0, z0), (A1, c1, z1), (A2, c2, z2)] (by intro x hx; simp only [List.mem_cons, List.not_mem_nil, or_false] at hx; rcases hx with rfl | rfl | rfl; exact L0.out; exact L1.out; exact L2.out) 22 (by simp) (by simp; omega)).mono ?_; rintro e w1 ⟨v1, rfl, ho, hb⟩; have ho1 : OwnV w1 W.heap.size w1.heap.size v1 want := HW.out ▸ ho; clear ho; obtain ⟨Aw, cw, rfl⟩ := Kd.R_slice ho1; have N1 := Aside0.mk hb.size; have HB' := Aside0.mk (hb); have HB := HB'; clear HB'; have OW := Aside0.mk ho1; (try clear ho1); (try clear hly); (try clear hb); (try clear hk); (try clear ht); (try clear hbb); have P1 := Aside0.mk True.intro; (try clear _p)))
--END
  go_ret
  exact ⟨rfl, HB.out⟩
theorem varsOverlays_go (A0 : Option Addr) (c0 : Nat) (z0 : List SV) (A1 : Option Addr) (c1 : Nat) (z1 : List SV) (A2 : Option Addr) (c2 : Nat) (z2 : List SV) (W : World) (hgm : GM W)
    (hC0 : Kd.C k41 W A0 z0.length z0) (hc0 : z0.length ≤ c0) (hC1 : Kd.C k41 W A1 z1.length z1) (hc1 : z1.length ≤ c1) (hC2 : Kd.C k41 W A2 z2.length z2) (hc2 : z2.length ≤ c2)
    (hs : (z0.map bV).sum + (z1.map bV).sum + (z2.map bV).sum ≤ 1048576) :
    Calls Try.prog 5 #[.slice A0 z0.length c0, .slice A1 z1.length c1, .slice A2 z2.length c2] W fun e W' => e = .returned (.bool true) ∧ Below W.heap.size W W' :=
  overlays_walk A0 c0 z0 A1 c1 z1 A2 c2 z2 W hgm hC0 hc0 hC1 hc1 hC2 hc2 (by have := len_sum z0; have := len_sum z1; have := len_sum z2; omega)
end Go.Proofs.Ytfkibolpanlelaa.Q
