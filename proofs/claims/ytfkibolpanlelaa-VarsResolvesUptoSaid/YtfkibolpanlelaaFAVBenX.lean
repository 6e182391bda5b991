/- The document's bench: the walk of value. -/
import Derived.Test.YtfkibolpanlelaaFAVBenV
namespace Go.Proofs.Ytfkibolpanlelaa.Q
open Go Go.RowKit Go.Shelf Go.Proofs.YtfkibolpanlelaaW.PrintWords Go.Proofs.YtfkibolpanlelaaW.PrintLast Go.Proofs.YtfkibolpanlelaaW.PrintMore Go.Proofs.Ytfkibolpanlelaa.SMap
attribute [local go_sem] max2_int min2_int max_two min_two
set_option linter.unusedVariables false
set_option linter.unusedSimpArgs false
section
variable {W0 : World} {P g : Nat} {A : Option Addr} {c : Nat} {vs : List SV} (hc : Con W0 P g A c vs)
include hc
set_option maxHeartbeats 2000000 in
set_option maxRecDepth 100000 in
theorem value_any (f : Nat) (hrec : WorkC W0 P g A c vs f) (s : ByteArray) (hs : s.size ≤ 1073741824) (dn : DN) (w : World) (hB : Ben W0 w P g A c vs (rowW vs dn)) (hok : okD dn) (ht : todo vs dn ≤ f) :
    Calls Try.prog 45 #[.pointer (some ⟨P, 0, none⟩), .string s] w (VPost W0 P g A c vs w (piecesOf wkF (wkG (workP vs f) vs) s ([], 0, dn))) := by
  obtain ⟨R, hR⟩ : ∃ R, R = piecesOf wkF (wkG (workP vs f) vs) s ([], 0, dn) := ⟨_, rfl⟩
  rw [← hR]
  have HR := Aside0.mk hR
  have HC := Aside0.mk hc
  have HREC := Aside0.mk hrec
  have HB := Aside0.mk hB
  have HOK := Aside0.mk hok
  have hPw : P < w.heap.size := blk_lt hB.head
  have hgw : g < w.heap.size := blk_lt hB.row
  have hW0 : W0.heap.size ≤ w.heap.size := hB.below.size
  have hpP := hc.pP
  have hpg := hc.pg
  have hvl := hc.small
  have HNE := Aside0.mk hc.ne
  clear hR hc hrec hB hok
  go_enter Try.func45, Try.ntmps45
  go_wp2
  have hz1 : (w.alloc (.cells #[.int .i64 0, .string ⟨#[]⟩, .int .i64 0, .int .i64 0] 57)).heap.size = w.heap.size + 1 := by simp
  obtain ⟨r, hr⟩ : ∃ r, r = w.heap.size := ⟨_, rfl⟩
  have HRN := Aside0.mk hr
  rw [← hr] at hPw hgw hW0 ⊢
  clear hr
  go_loopg [5, 6, 7] (s.size + 1) (fun gk v5 v6 v7 wr => VRel W0 P g A c vs w f s R gk v5 v6 v7 wr)
  case atStart =>
    exact ⟨0, [], 0, dn, rfl, rfl, by omega, by omega, HR.out.symm, Nat.zero_le _, Int.le_refl _, by omega, HOK.out, ht, HB.out.step (below_alloc (Below.refl _ _) _), Kd.R_nil _ _ _ _ _, at_new w _ rfl, (Stp.refl g w).below (below_alloc (Below.refl _ _) _)⟩
  case round =>
    clear HB HOK ht HR hz1 dn
    obtain ⟨i, bs, dp, dn, rfl, rfl, hfu, hiu, hp, hbl, hd0, hd16, hok, ht, hben, hro, hres, hstp⟩ := hrel
    obtain ⟨A5, c5, rfl⟩ := Kd.R_slice hro
    have HP := Aside0.mk hp
    have HOK := Aside0.mk hok
    have HBEN := Aside0.mk hben
    have HRO := Aside0.mk hro
    have hres' : wr.heap[r]? = some (.cells #[.int .i64 0, .string ⟨#[]⟩, .int .i64 0, .int .i64 0] 57 (0, 0)) := by rw [HRN.out]; exact hres
    have HRES := Aside0.mk hres'
    have HST := Aside0.mk hstp
    have hrw : r + 1 ≤ wr.heap.size := by have := blk_lt hres'; omega
    clear hp hok hben hro hres hres' hstp
    by_cases hlt : i < s.size
    · have HCH := Aside0.mk (show bt s (i : Int) = (s[i].toNat : Int) from (bt_at s (i : Int) (by simpa using hlt)).symm)
      have hc0 : 0 ≤ (s[i].toNat : Int) := by omega
      have hc1 : (s[i].toNat : Int) ≤ 255 := by have := s[i].toNat_lt; omega
      obtain ⟨d, rfl⟩ : ∃ d, gk = d + 1 := ⟨gk - 1, by omega⟩
      by_cases h36 : (s[i].toNat : Int) = 36
      · have hb36 : bt s (i : Int) = 36 := by rw [HCH.out]; exact h36
        by_cases hp2 : prefAt s i [36, 36] = true
        · have hq : refQ s i = (⟨#[]⟩, ((i + 2 : Nat) : Int), true) := by unfold refQ; rw [if_pos hp2]
          have HQ := Aside0.mk hq
          have HB36 := Aside0.mk hb36
          have HS := Aside0.mk (show stepP wkF (wkG (workP vs f) vs) s i (bs, dp, dn) = (wkF (bs, dp, dn) 36 i, i + 2) by unfold stepP; rw [hb36, if_neg (by decide), if_pos hp2])
          have hl1 : (bs ++ [(36 : Int)]).length = bs.length + 1 := by simp
          clear hq hp2 hb36
          by_cases hlong : 4096 < bs.length + 1
          · have hlongI : (4096 : Int) < ((bs.length + 1 : Nat) : Int) := by omega
            have HE : Aside0 (R = .error (104, (i : Int))) := ⟨by rw [← HP.out]; exact piecesP_err hlt (by rw [HS.out]; congr 1; exact if_pos (by rw [hl1]; exact hlong))⟩
            go_wp2_with (first
              | (go_at_call 34; refine (ref_at s i hs hlt HB36.out _ HQ.out).mono ?_; rintro e w2 ⟨rfl, hb⟩; have HBEN' := Aside0.mk (HBEN.out.step hb); have HRO' := Aside0.mk (Kd.R_below HRO.out hb); have HRES' := Aside0.mk ((hb.block r (blk_lt HRES.out)).trans HRES.out); have HST' := Aside0.mk (HST.out.below hb); have hrw' := Nat.le_trans hrw hb.size; clear HBEN HRO HRES HST hrw hb; have HBEN := HBEN'; have HRO := HRO'; have HRES := HRES'; have HST := HST'; have hrw := hrw'; clear HBEN' HRO' HRES' HST' hrw'; have p0 := HBEN.out.h0; have p1 := HBEN.out.h1; have rc0 : w2.cell? ⟨r, 0, none⟩ = some (.int .i64 0) := blk_cell HRES.out 0; have rc1 : w2.cell? ⟨r, 1, none⟩ = some (.string ⟨#[]⟩) := blk_cell HRES.out 1; have rc2 : w2.cell? ⟨r, 2, none⟩ = some (.int .i64 0) := blk_cell HRES.out 2; have rc3 : w2.cell? ⟨r, 3, none⟩ = some (.int .i64 0) := blk_cell HRES.out 3; have rf0 := blk_frozen HRES.out 0; have rf1 := blk_frozen HRES.out 1; have rf2 := blk_frozen HRES.out 2; have rf3 := blk_frozen HRES.out 3
                )
              | (at_builtin; refine Kd.R_append (Kd.int .u8) (w0 := w2) (r + 1) rfl (.tmp 42) (.tmp 43) 46 5 (.int .u8 0) 1 rfl Try.underlying46 info5 rfl (by decide) (by omega) (.slice A5 bs.length c5) bs 36 [.int .u8 36] (fun _ => True) (fun _ => False) rfl (by first | (go_simp; done) | (go_simp; rfl)) rfl (fun _ h => h.elim) (fun _ _ => trivial) (by rw [HRN.out]; exact HRO.out) ((Below.refl _ _).mono hrw) hrw (by omega) ?_; intro v1 w1 ho1 hb1 hg1 hat1; obtain ⟨A1, c1, e1⟩ := Kd.R_slice ho1; rw [hl1] at e1; subst e1; have HO1 := Aside0.mk ho1; have HBEN1 := Aside0.mk (HBEN.out.grown hg1 (fun k e => by have h1_ := Kd.R_base HRO.out k e; have h2_ := HRN.out; refine ⟨by omega, by omega, by omega⟩)); have HRES1 := Aside0.mk ((hg1.block r (blk_lt HRES.out) (fun e => by have h1_ := Kd.R_base HRO.out r e.symm; have h2_ := HRN.out; omega)).trans HRES.out); have HST1 := Aside0.mk (HST.out.grown hg1 (fun k e => by have h1_ := Kd.R_base HRO.out k e; omega)); clear ho1 hb1 hg1 hat1; have rc0 : w1.cell? ⟨r, 0, none⟩ = some (.int .i64 0) := blk_cell HRES1.out 0; have rc1 : w1.cell? ⟨r, 1, none⟩ = some (.string ⟨#[]⟩) := blk_cell HRES1.out 1; have rc2 : w1.cell? ⟨r, 2, none⟩ = some (.int .i64 0) := blk_cell HRES1.out 2; have rc3 : w1.cell? ⟨r, 3, none⟩ = some (.int .i64 0) := blk_cell HRES1.out 3; have rf0 := blk_frozen HRES1.out 0; have rf1 := blk_frozen HRES1.out 1; have rf2 := blk_frozen HRES1.out 2; have rf3 := blk_frozen HRES1.out 3
                ))
            refine bodyPost_ret (val_results _ rfl (put4 HRES1.out _ _ _ _)) rfl ?_; rw [HE.out]; exact err_post HST1.out HBEN1.out HRN.out.symm hW0 (by omega) (by omega) rfl
          · have hlongI : ¬ (4096 : Int) < ((bs.length + 1 : Nat) : Int) := by omega
            have HE : Aside0 (piecesP wkF (wkG (workP vs f) vs) s d (i + 2) (bs ++ [(36 : Int)], dp, dn) = R) := ⟨by rw [← HP.out]; exact (piecesP_ok hlt (by rw [HS.out]; congr 1; exact if_neg (by rw [hl1]; exact hlong))).symm⟩
            go_wp2_with (first
              | (go_at_call 34; refine (ref_at s i hs hlt HB36.out _ HQ.out).mono ?_; rintro e w2 ⟨rfl, hb⟩; have HBEN' := Aside0.mk (HBEN.out.step hb); have HRO' := Aside0.mk (Kd.R_below HRO.out hb); have HRES' := Aside0.mk ((hb.block r (blk_lt HRES.out)).trans HRES.out); have HST' := Aside0.mk (HST.out.below hb); have hrw' := Nat.le_trans hrw hb.size; clear HBEN HRO HRES HST hrw hb; have HBEN := HBEN'; have HRO := HRO'; have HRES := HRES'; have HST := HST'; have hrw := hrw'; clear HBEN' HRO' HRES' HST' hrw'; have p0 := HBEN.out.h0; have p1 := HBEN.out.h1; have rc0 : w2.cell? ⟨r, 0, none⟩ = some (.int .i64 0) := blk_cell HRES.out 0; have rc1 : w2.cell? ⟨r, 1, none⟩ = some (.string ⟨#[]⟩) := blk_cell HRES.out 1; have rc2 : w2.cell? ⟨r, 2, none⟩ = some (.int .i64 0) := blk_cell HRES.out 2; have rc3 : w2.cell? ⟨r, 3, none⟩ = some (.int .i64 0) := blk_cell HRES.out 3; have rf0 := blk_frozen HRES.out 0; have rf1 := blk_frozen HRES.out 1; have rf2 := blk_frozen HRES.out 2; have rf3 := blk_frozen HRES.out 3
                )
              | (at_builtin; refine Kd.R_append (Kd.int .u8) (w0 := w2) (r + 1) rfl (.tmp 42) (.tmp 43) 46 5 (.int .u8 0) 1 rfl Try.underlying46 info5 rfl (by decide) (by omega) (.slice A5 bs.length c5) bs 36 [.int .u8 36] (fun _ => True) (fun _ => False) rfl (by first | (go_simp; done) | (go_simp; rfl)) rfl (fun _ h => h.elim) (fun _ _ => trivial) (by rw [HRN.out]; exact HRO.out) ((Below.refl _ _).mono hrw) hrw (by omega) ?_; intro v1 w1 ho1 hb1 hg1 hat1; obtain ⟨A1, c1, e1⟩ := Kd.R_slice ho1; rw [hl1] at e1; subst e1; have HO1 := Aside0.mk ho1; have HBEN1 := Aside0.mk (HBEN.out.grown hg1 (fun k e => by have h1_ := Kd.R_base HRO.out k e; have h2_ := HRN.out; refine ⟨by omega, by omega, by omega⟩)); have HRES1 := Aside0.mk ((hg1.block r (blk_lt HRES.out) (fun e => by have h1_ := Kd.R_base HRO.out r e.symm; have h2_ := HRN.out; omega)).trans HRES.out); have HST1 := Aside0.mk (HST.out.grown hg1 (fun k e => by have h1_ := Kd.R_base HRO.out k e; omega)); clear ho1 hb1 hg1 hat1; have rc0 : w1.cell? ⟨r, 0, none⟩ = some (.int .i64 0) := blk_cell HRES1.out 0; have rc1 : w1.cell? ⟨r, 1, none⟩ = some (.string ⟨#[]⟩) := blk_cell HRES1.out 1; have rc2 : w1.cell? ⟨r, 2, none⟩ = some (.int .i64 0) := blk_cell HRES1.out 2; have rc3 : w1.cell? ⟨r, 3, none⟩ = some (.int .i64 0) := blk_cell HRES1.out 3; have rf0 := blk_frozen HRES1.out 0; have rf1 := blk_frozen HRES1.out 1; have rf2 := blk_frozen HRES1.out 2; have rf3 := blk_frozen HRES1.out 3
                ))
            go_roundg d
            case measure => omega
            case rel => exact ⟨i + 2, bs ++ [(36 : Int)], dp, dn, by go_num, rfl, by omega, by omega, HE.out, by rw [hl1]; omega, hd0, hd16, HOK.out, ht, HBEN1.out, by rw [← HRN.out]; exact HO1.out, by rw [← HRN.out]; exact HRES1.out, HST1.out⟩
        · by_cases hro2 : refOk s i = true
          · obtain ⟨nm, hnm⟩ : ∃ nm, nm = nameAt s i := ⟨_, rfl⟩
            have hvn : varNameB nm = true := by
              rw [hnm]
              unfold refOk at hro2
              rw [Bool.and_eq_true] at hro2
              exact hro2.2
            have hq : refQ s i = (nm, ((i + (nm.size + 2) + 1 : Nat) : Int), true) := by unfold refQ; rw [if_neg hp2, if_pos hro2, hnm]
            have HS := Aside0.mk (show stepP wkF (wkG (workP vs f) vs) s i (bs, dp, dn) = (wkG (workP vs f) vs (bs, dp, dn) nm i, i + (nm.size + 2) + 1) by unfold stepP; rw [hb36, if_neg (by decide), if_neg hp2, if_pos hro2, hnm])
            have HNL := Aside0.mk (show nm.size ≤ s.size by rw [hnm]; exact name_le s i)
            have hn0 : (nm.toList == []) = false := beq_eq_false_iff_ne.2 (name_pos hvn)
            have hn1 : ¬ nm.toList = [] := name_pos hvn
            have HQ := Aside0.mk hq
            have HB36 := Aside0.mk hb36
            clear hq hp2 hb36 hvn hnm hro2
            rcases idx_get nm vs vs 0 rfl with ⟨h1, h2⟩ | ⟨j, hj, h1, h2⟩
            · have HIX := Aside0.mk h1
              have HE : Aside0 (R = .error (102, (i : Int))) := ⟨by rw [← HP.out]; exact piecesP_err hlt (by rw [HS.out]; congr 1; unfold wkG; rw [h2])⟩
              clear h1 h2
              go_wp2_with (first
                | (go_at_call 34; refine (ref_at s i hs hlt HB36.out _ HQ.out).mono ?_; rintro e w2 ⟨rfl, hb⟩; have HBEN' := Aside0.mk (HBEN.out.step hb); have HRO' := Aside0.mk (Kd.R_below HRO.out hb); have HRES' := Aside0.mk ((hb.block r (blk_lt HRES.out)).trans HRES.out); have HST' := Aside0.mk (HST.out.below hb); have hrw' := Nat.le_trans hrw hb.size; clear HBEN HRO HRES HST hrw hb; have HBEN := HBEN'; have HRO := HRO'; have HRES := HRES'; have HST := HST'; have hrw := hrw'; clear HBEN' HRO' HRES' HST' hrw'; have p0 := HBEN.out.h0; have p1 := HBEN.out.h1; have rc0 : w2.cell? ⟨r, 0, none⟩ = some (.int .i64 0) := blk_cell HRES.out 0; have rc1 : w2.cell? ⟨r, 1, none⟩ = some (.string ⟨#[]⟩) := blk_cell HRES.out 1; have rc2 : w2.cell? ⟨r, 2, none⟩ = some (.int .i64 0) := blk_cell HRES.out 2; have rc3 : w2.cell? ⟨r, 3, none⟩ = some (.int .i64 0) := blk_cell HRES.out 3; have rf0 := blk_frozen HRES.out 0; have rf1 := blk_frozen HRES.out 1; have rf2 := blk_frozen HRES.out 2; have rf3 := blk_frozen HRES.out 3
                  )
                | (go_at_call 30; refine (idx_at HC.out nm _ HBEN.out.below HIX.out).mono ?_; rintro e w3 ⟨rfl, hb⟩; have HBEN' := Aside0.mk (HBEN.out.step hb); have HRO' := Aside0.mk (Kd.R_below HRO.out hb); have HRES' := Aside0.mk ((hb.block r (blk_lt HRES.out)).trans HRES.out); have HST' := Aside0.mk (HST.out.below hb); have hrw' := Nat.le_trans hrw hb.size; clear HBEN HRO HRES HST hrw hb; have HBEN := HBEN'; have HRO := HRO'; have HRES := HRES'; have HST := HST'; have hrw := hrw'; clear HBEN' HRO' HRES' HST' hrw'; have p0 := HBEN.out.h0; have p1 := HBEN.out.h1; have rc0 : w3.cell? ⟨r, 0, none⟩ = some (.int .i64 0) := blk_cell HRES.out 0; have rc1 : w3.cell? ⟨r, 1, none⟩ = some (.string ⟨#[]⟩) := blk_cell HRES.out 1; have rc2 : w3.cell? ⟨r, 2, none⟩ = some (.int .i64 0) := blk_cell HRES.out 2; have rc3 : w3.cell? ⟨r, 3, none⟩ = some (.int .i64 0) := blk_cell HRES.out 3; have rf0 := blk_frozen HRES.out 0; have rf1 := blk_frozen HRES.out 1; have rf2 := blk_frozen HRES.out 2; have rf3 := blk_frozen HRES.out 3
                  ))
              refine bodyPost_ret (val_results _ rfl (put4 HRES.out _ _ _ _)) rfl ?_; rw [HE.out]; exact err_post HST.out HBEN.out HRN.out.symm hW0 (by omega) (by omega) rfl
            · have hnj : vs[j].f0 = nm := (findV_some h2).2
              have HIX := Aside0.mk h1
              have HFV := Aside0.mk h2
              have HNJ := Aside0.mk hnj
              by_cases hun : ∃ x, getDn dn nm = some x ∧ x.under = true
              · obtain ⟨x, hx1, hx2⟩ := hun
                have HST0 := Aside0.mk (show (rowW vs dn)[j * 4 + 0]? = some (.int .i64 1) by rw [rowW_at hj (by decide), hnj, hx1, show wkD (some x) = wkC 1 ⟨#[]⟩ 0 0 from if_pos hx2]; rfl)
                have HE : Aside0 (R = .error (103, (i : Int))) := ⟨by rw [← HP.out]; exact piecesP_err hlt (by rw [HS.out, g_known h2 hx1]; congr 1; unfold useD; rw [if_pos (.inl hx2)])⟩
                clear h1 h2 hnj hx1 hx2
                obtain ⟨st, hst⟩ : ∃ st : Int, st = 1 := ⟨_, rfl⟩
                rw [← hst] at HST0
                go_wp2_with (first
                  | (go_at_call 34; refine (ref_at s i hs hlt HB36.out _ HQ.out).mono ?_; rintro e w2 ⟨rfl, hb⟩; have HBEN' := Aside0.mk (HBEN.out.step hb); have HRO' := Aside0.mk (Kd.R_below HRO.out hb); have HRES' := Aside0.mk ((hb.block r (blk_lt HRES.out)).trans HRES.out); have HST' := Aside0.mk (HST.out.below hb); have hrw' := Nat.le_trans hrw hb.size; clear HBEN HRO HRES HST hrw hb; have HBEN := HBEN'; have HRO := HRO'; have HRES := HRES'; have HST := HST'; have hrw := hrw'; clear HBEN' HRO' HRES' HST' hrw'; have p0 := HBEN.out.h0; have p1 := HBEN.out.h1; have rc0 : w2.cell? ⟨r, 0, none⟩ = some (.int .i64 0) := blk_cell HRES.out 0; have rc1 : w2.cell? ⟨r, 1, none⟩ = some (.string ⟨#[]⟩) := blk_cell HRES.out 1; have rc2 : w2.cell? ⟨r, 2, none⟩ = some (.int .i64 0) := blk_cell HRES.out 2; have rc3 : w2.cell? ⟨r, 3, none⟩ = some (.int .i64 0) := blk_cell HRES.out 3; have rf0 := blk_frozen HRES.out 0; have rf1 := blk_frozen HRES.out 1; have rf2 := blk_frozen HRES.out 2; have rf3 := blk_frozen HRES.out 3
                    )
                  | (go_at_call 30; refine (idx_at HC.out nm _ HBEN.out.below HIX.out).mono ?_; rintro e w3 ⟨rfl, hb⟩; have HBEN' := Aside0.mk (HBEN.out.step hb); have HRO' := Aside0.mk (Kd.R_below HRO.out hb); have HRES' := Aside0.mk ((hb.block r (blk_lt HRES.out)).trans HRES.out); have HST' := Aside0.mk (HST.out.below hb); have hrw' := Nat.le_trans hrw hb.size; clear HBEN HRO HRES HST hrw hb; have HBEN := HBEN'; have HRO := HRO'; have HRES := HRES'; have HST := HST'; have hrw := hrw'; clear HBEN' HRO' HRES' HST' hrw'; have p0 := HBEN.out.h0; have p1 := HBEN.out.h1; have rc0 : w3.cell? ⟨r, 0, none⟩ = some (.int .i64 0) := blk_cell HRES.out 0; have rc1 : w3.cell? ⟨r, 1, none⟩ = some (.string ⟨#[]⟩) := blk_cell HRES.out 1; have rc2 : w3.cell? ⟨r, 2, none⟩ = some (.int .i64 0) := blk_cell HRES.out 2; have rc3 : w3.cell? ⟨r, 3, none⟩ = some (.int .i64 0) := blk_cell HRES.out 3; have rf0 := blk_frozen HRES.out 0; have rf1 := blk_frozen HRES.out 1; have rf2 := blk_frozen HRES.out 2; have rf3 := blk_frozen HRES.out 3
                    ; have s0 : w3.cell? ⟨g, j * 4, none⟩ = some (.int .i64 st) := (HBEN.out.cell (j * 4)).trans HST0.out
                    ))
                refine bodyPost_ret (val_results _ rfl (put4 HRES.out _ _ _ _)) rfl ?_; rw [HE.out]; exact err_post HST.out HBEN.out HRN.out.symm hW0 (by omega) (by omega) rfl
              · have hnu : ∀ x, getDn dn nm = some x → x.under = false := fun x hx => by
                  cases hb : x.under with
                  | false => rfl
                  | true => exact absurd ⟨x, hx, hb⟩ hun
                obtain ⟨st, hst, hcell⟩ : ∃ st : Int, ¬ st = 1 ∧ (rowW vs dn)[j * 4 + 0]? = some (.int .i64 st) := by
                  rw [rowW_at hj (by decide), hnj]
                  cases hg : getDn dn nm with
                  | none => exact ⟨0, by decide, rfl⟩
                  | some x =>
                    refine ⟨2, by decide, ?_⟩
                    rw [show wkD (some x) = wkC 2 x.text x.depth 0 from if_neg (by rw [hnu x hg]; decide)]
                    rfl
                have HST0 := Aside0.mk hcell
                clear hcell hun
                have hwg := wkG_eq (f := f) (bs := bs) (dp := dp) (dn := dn) (i := i) h2
                rcases hk : knownP vs f dn nm with y | p
                · have hy := known_ne hk
                  have HWK := Aside0.mk (show ∀ w3, Ben W0 w3 P g A c vs (rowW vs dn) → Calls Try.prog 31 #[.pointer (some ⟨P, 0, none⟩), .int .i64 j] w3 fun e w' => e = .returned (.agg #[.int .i64 2, .string ⟨#[]⟩, .int .i64 0, .int .i64 y.1]) ∧ Stp g w3 w' ∧ ∃ cells, Ben W0 w' P g A c vs cells by
                    intro w3 hb3
                    have := HREC.out dn j hj w3 hb3 HOK.out ht (by rw [hnj]; exact hnu)
                    rw [hnj, hk] at this
                    exact this.mono fun e w' h => ⟨h.2.1, h.1, h.2.2⟩)
                  have HE : Aside0 (R = .error y) := ⟨by rw [← HP.out]; exact piecesP_err hlt (by rw [HS.out]; congr 1; rw [hwg, hk])⟩
                  obtain ⟨co, hco⟩ : ∃ co, co = y.1 := ⟨_, rfl⟩
                  rw [← hco] at HWK hy
                  have HCO := Aside0.mk hco
                  clear h1 h2 hnj hk hwg hnu hco
                  go_upto_region 20 with (first
                    | (go_at_call 34; refine (ref_at s i hs hlt HB36.out _ HQ.out).mono ?_; rintro e w2 ⟨rfl, hb⟩; have HBEN' := Aside0.mk (HBEN.out.step hb); have HRO' := Aside0.mk (Kd.R_below HRO.out hb); have HRES' := Aside0.mk ((hb.block r (blk_lt HRES.out)).trans HRES.out); have HST' := Aside0.mk (HST.out.below hb); have hrw' := Nat.le_trans hrw hb.size; clear HBEN HRO HRES HST hrw hb; have HBEN := HBEN'; have HRO := HRO'; have HRES := HRES'; have HST := HST'; have hrw := hrw'; clear HBEN' HRO' HRES' HST' hrw'; have p0 := HBEN.out.h0; have p1 := HBEN.out.h1; have rc0 : w2.cell? ⟨r, 0, none⟩ = some (.int .i64 0) := blk_cell HRES.out 0; have rc1 : w2.cell? ⟨r, 1, none⟩ = some (.string ⟨#[]⟩) := blk_cell HRES.out 1; have rc2 : w2.cell? ⟨r, 2, none⟩ = some (.int .i64 0) := blk_cell HRES.out 2; have rc3 : w2.cell? ⟨r, 3, none⟩ = some (.int .i64 0) := blk_cell HRES.out 3; have rf0 := blk_frozen HRES.out 0; have rf1 := blk_frozen HRES.out 1; have rf2 := blk_frozen HRES.out 2; have rf3 := blk_frozen HRES.out 3
                      )
                    | (go_at_call 30; refine (idx_at HC.out nm _ HBEN.out.below HIX.out).mono ?_; rintro e w3 ⟨rfl, hb⟩; have HBEN' := Aside0.mk (HBEN.out.step hb); have HRO' := Aside0.mk (Kd.R_below HRO.out hb); have HRES' := Aside0.mk ((hb.block r (blk_lt HRES.out)).trans HRES.out); have HST' := Aside0.mk (HST.out.below hb); have hrw' := Nat.le_trans hrw hb.size; clear HBEN HRO HRES HST hrw hb; have HBEN := HBEN'; have HRO := HRO'; have HRES := HRES'; have HST := HST'; have hrw := hrw'; clear HBEN' HRO' HRES' HST' hrw'; have p0 := HBEN.out.h0; have p1 := HBEN.out.h1; have rc0 : w3.cell? ⟨r, 0, none⟩ = some (.int .i64 0) := blk_cell HRES.out 0; have rc1 : w3.cell? ⟨r, 1, none⟩ = some (.string ⟨#[]⟩) := blk_cell HRES.out 1; have rc2 : w3.cell? ⟨r, 2, none⟩ = some (.int .i64 0) := blk_cell HRES.out 2; have rc3 : w3.cell? ⟨r, 3, none⟩ = some (.int .i64 0) := blk_cell HRES.out 3; have rf0 := blk_frozen HRES.out 0; have rf1 := blk_frozen HRES.out 1; have rf2 := blk_frozen HRES.out 2; have rf3 := blk_frozen HRES.out 3
                      ; have s0 : w3.cell? ⟨g, j * 4, none⟩ = some (.int .i64 st) := (HBEN.out.cell (j * 4)).trans HST0.out
                      )
                    | (go_at_call 31; go_loud (refine (HWK.out _ HBEN.out).mono ?_); rintro e w4 ⟨rfl, hs4, hben4⟩; have HRO' := Aside0.mk (Kd.R_mono (Kd.R_kept (Kd.R_bound HRO.out) hs4.kept (fun k hk e => by have h1_ := hk.2.1; have h2_ := HRN.out; omega)) (fun _ _ => trivial)); have HRES' := Aside0.mk (hs4.blk (by omega) HRES.out); have HST' := Aside0.mk (HST.out.trans hs4); have hrw' := Nat.le_trans hrw hs4.kept.1; have HBEN4 := Aside0.mk hben4; clear HBEN HRO HRES HST hrw hs4 hben4 p0 p1 s0 rc0 rc1 rc2 rc3 rf0 rf1 rf2 rf3; have HRO := HRO'; have HRES := HRES'; have HST := HST'; have hrw := hrw'; clear HRO' HRES' HST' hrw'
                      ))
                  obtain ⟨cells, hben4⟩ := HBEN4.out
                  have HBEN := Aside0.mk hben4
                  clear HBEN4 hben4
                  have hb := below_alloc (Below.refl w4.heap.size w4) (.cells #[.int .i64 2, .string ⟨#[]⟩, .int .i64 0, .int .i64 co] 57)
                  obtain ⟨q, hq5⟩ : ∃ q, q = w4.heap.size := ⟨_, rfl⟩
                  have HX := Aside0.mk (at_new w4 (.cells #[.int .i64 2, .string ⟨#[]⟩, .int .i64 0, .int .i64 co] 57) hq5)
                  rw [← hq5]
                  have hqr : r < q := by omega
                  clear hq5
                  generalize w4.alloc (.cells #[.int .i64 2, .string ⟨#[]⟩, .int .i64 0, .int .i64 co] 57) = w5 at hb HX ⊢
                  have HBEN' := Aside0.mk (HBEN.out.step hb)
                  have HRO' := Aside0.mk (Kd.R_below HRO.out hb)
                  have HRES' := Aside0.mk ((hb.block r (blk_lt HRES.out)).trans HRES.out)
                  have HST' := Aside0.mk (HST.out.below hb)
                  have hrw' := Nat.le_trans hrw hb.size
                  clear HBEN HRO HRES HST hrw hb
                  have HBEN := HBEN'
                  have HRO := HRO'
                  have HRES := HRES'
                  have HST := HST'
                  have hrw := hrw'
                  clear HBEN' HRO' HRES' HST' hrw'
                  have p0 := HBEN.out.h0
                  have p1 := HBEN.out.h1
                  have rc0 : w5.cell? ⟨r, 0, none⟩ = some (.int .i64 0) := blk_cell HRES.out 0
                  have rc1 : w5.cell? ⟨r, 1, none⟩ = some (.string ⟨#[]⟩) := blk_cell HRES.out 1
                  have rc2 : w5.cell? ⟨r, 2, none⟩ = some (.int .i64 0) := blk_cell HRES.out 2
                  have rc3 : w5.cell? ⟨r, 3, none⟩ = some (.int .i64 0) := blk_cell HRES.out 3
                  have rf0 := blk_frozen HRES.out 0
                  have rf1 := blk_frozen HRES.out 1
                  have rf2 := blk_frozen HRES.out 2
                  have rf3 := blk_frozen HRES.out 3
                  have x0 : w5.cell? ⟨q, 0, none⟩ = some (.int .i64 2) := blk_cell HX.out 0
                  have x1 : w5.cell? ⟨q, 1, none⟩ = some (.string ⟨#[]⟩) := blk_cell HX.out 1
                  have x2 : w5.cell? ⟨q, 2, none⟩ = some (.int .i64 0) := blk_cell HX.out 2
                  have x3 : w5.cell? ⟨q, 3, none⟩ = some (.int .i64 co) := blk_cell HX.out 3
                  go_wp2
                  refine bodyPost_ret (val_results _ rfl (put4 HRES.out _ _ _ _)) rfl ?_
                  rw [HE.out]
                  exact err_post HST.out HBEN.out HRN.out.symm hW0 (by omega) (by omega) HCO.out.symm
                · obtain ⟨x, dn1⟩ := p
                  obtain ⟨k1, k2, k3, k4, k5, k6⟩ := known_facts HOK.out hnu hk
                  have HOK1 := Aside0.mk k1
                  have ht1 : todo vs dn1 ≤ f := Nat.le_trans (todo_ext k2) ht
                  have HWK := Aside0.mk (show ∀ w3, Ben W0 w3 P g A c vs (rowW vs dn) → Calls Try.prog 31 #[.pointer (some ⟨P, 0, none⟩), .int .i64 j] w3 fun e w' => e = .returned (.agg #[.int .i64 2, .string x.text, .int .i64 x.depth, .int .i64 0]) ∧ Stp g w3 w' ∧ ∃ cells, Ben W0 w' P g A c vs cells ∧ cells = rowW vs dn1 by
                    intro w3 hb3
                    have := HREC.out dn j hj w3 hb3 HOK.out ht (by rw [hnj]; exact hnu)
                    rw [hnj, hk] at this
                    exact this.mono fun e w' h => ⟨h.2.1, h.1, _, h.2.2, rfl⟩)
                  rw [hk] at hwg
                  have hwg : wkG (workP vs f) vs (bs, dp, dn) nm i = useD (bs, dp, dn) x dn1 i := hwg
                  have hbz := bytesOf_length x.text
                  obtain ⟨tx, htx⟩ : ∃ tx, tx = x.text := ⟨_, rfl⟩
                  obtain ⟨xd, hxd⟩ : ∃ xd, xd = x.depth := ⟨_, rfl⟩
                  have hl1 : (bs ++ bytesOf tx).length = bs.length + tx.size := by rw [List.length_append, bytesOf_length]
                  have hU : useD (bs, dp, dn) x dn1 i = if x.under = true ∨ x.depth = 16 then .error (103, (i : Int)) else if 4096 < (bs ++ bytesOf x.text).length then .error (104, (i : Int)) else .ok (bs ++ bytesOf x.text, max dp (x.depth + 1), dn1) := rfl
                  rw [← htx, ← hxd] at hU
                  rw [← htx, ← hxd] at HWK
                  rw [← htx] at k4
                  rw [← hxd] at k5 k6
                  by_cases h16 : xd = 16
                  · have HE : Aside0 (R = .error (103, (i : Int))) := ⟨by rw [← HP.out]; exact piecesP_err hlt (by rw [HS.out]; congr 1; rw [hwg, hU, if_pos (.inr h16)])⟩
                    have h16I : (16 : Int) ≤ xd := by omega
                    clear h1 h2 hnj hk hwg hnu hU htx hxd k1 k2 k3 hbz h16
                    go_upto_region 20 with (first
                      | (go_at_call 34; refine (ref_at s i hs hlt HB36.out _ HQ.out).mono ?_; rintro e w2 ⟨rfl, hb⟩; have HBEN' := Aside0.mk (HBEN.out.step hb); have HRO' := Aside0.mk (Kd.R_below HRO.out hb); have HRES' := Aside0.mk ((hb.block r (blk_lt HRES.out)).trans HRES.out); have HST' := Aside0.mk (HST.out.below hb); have hrw' := Nat.le_trans hrw hb.size; clear HBEN HRO HRES HST hrw hb; have HBEN := HBEN'; have HRO := HRO'; have HRES := HRES'; have HST := HST'; have hrw := hrw'; clear HBEN' HRO' HRES' HST' hrw'; have p0 := HBEN.out.h0; have p1 := HBEN.out.h1; have rc0 : w2.cell? ⟨r, 0, none⟩ = some (.int .i64 0) := blk_cell HRES.out 0; have rc1 : w2.cell? ⟨r, 1, none⟩ = some (.string ⟨#[]⟩) := blk_cell HRES.out 1; have rc2 : w2.cell? ⟨r, 2, none⟩ = some (.int .i64 0) := blk_cell HRES.out 2; have rc3 : w2.cell? ⟨r, 3, none⟩ = some (.int .i64 0) := blk_cell HRES.out 3; have rf0 := blk_frozen HRES.out 0; have rf1 := blk_frozen HRES.out 1; have rf2 := blk_frozen HRES.out 2; have rf3 := blk_frozen HRES.out 3
                        )
                      | (go_at_call 30; refine (idx_at HC.out nm _ HBEN.out.below HIX.out).mono ?_; rintro e w3 ⟨rfl, hb⟩; have HBEN' := Aside0.mk (HBEN.out.step hb); have HRO' := Aside0.mk (Kd.R_below HRO.out hb); have HRES' := Aside0.mk ((hb.block r (blk_lt HRES.out)).trans HRES.out); have HST' := Aside0.mk (HST.out.below hb); have hrw' := Nat.le_trans hrw hb.size; clear HBEN HRO HRES HST hrw hb; have HBEN := HBEN'; have HRO := HRO'; have HRES := HRES'; have HST := HST'; have hrw := hrw'; clear HBEN' HRO' HRES' HST' hrw'; have p0 := HBEN.out.h0; have p1 := HBEN.out.h1; have rc0 : w3.cell? ⟨r, 0, none⟩ = some (.int .i64 0) := blk_cell HRES.out 0; have rc1 : w3.cell? ⟨r, 1, none⟩ = some (.string ⟨#[]⟩) := blk_cell HRES.out 1; have rc2 : w3.cell? ⟨r, 2, none⟩ = some (.int .i64 0) := blk_cell HRES.out 2; have rc3 : w3.cell? ⟨r, 3, none⟩ = some (.int .i64 0) := blk_cell HRES.out 3; have rf0 := blk_frozen HRES.out 0; have rf1 := blk_frozen HRES.out 1; have rf2 := blk_frozen HRES.out 2; have rf3 := blk_frozen HRES.out 3
                        ; have s0 : w3.cell? ⟨g, j * 4, none⟩ = some (.int .i64 st) := (HBEN.out.cell (j * 4)).trans HST0.out
                        )
                      | (go_at_call 31; go_loud (refine (HWK.out _ HBEN.out).mono ?_); rintro e w4 ⟨rfl, hs4, hben4⟩; have HRO' := Aside0.mk (Kd.R_mono (Kd.R_kept (Kd.R_bound HRO.out) hs4.kept (fun k hk e => by have h1_ := hk.2.1; have h2_ := HRN.out; omega)) (fun _ _ => trivial)); have HRES' := Aside0.mk (hs4.blk (by omega) HRES.out); have HST' := Aside0.mk (HST.out.trans hs4); have hrw' := Nat.le_trans hrw hs4.kept.1; have HBEN4 := Aside0.mk hben4; clear HBEN HRO HRES HST hrw hs4 hben4 p0 p1 s0 rc0 rc1 rc2 rc3 rf0 rf1 rf2 rf3; have HRO := HRO'; have HRES := HRES'; have HST := HST'; have hrw := hrw'; clear HRO' HRES' HST' hrw'
                        ))
                    obtain ⟨cells, hben4, hcells⟩ := HBEN4.out
                    have HBEN := Aside0.mk hben4
                    clear HBEN4 hben4
                    have hb := below_alloc (Below.refl w4.heap.size w4) (.cells #[.int .i64 2, .string tx, .int .i64 xd, .int .i64 0] 57)
                    obtain ⟨q, hq5⟩ : ∃ q, q = w4.heap.size := ⟨_, rfl⟩
                    have HX := Aside0.mk (at_new w4 (.cells #[.int .i64 2, .string tx, .int .i64 xd, .int .i64 0] 57) hq5)
                    rw [← hq5]
                    have hqr : r < q := by omega
                    clear hq5
                    generalize w4.alloc (.cells #[.int .i64 2, .string tx, .int .i64 xd, .int .i64 0] 57) = w5 at hb HX ⊢
                    have HBEN' := Aside0.mk (HBEN.out.step hb)
                    have HRO' := Aside0.mk (Kd.R_below HRO.out hb)
                    have HRES' := Aside0.mk ((hb.block r (blk_lt HRES.out)).trans HRES.out)
                    have HST' := Aside0.mk (HST.out.below hb)
                    have hrw' := Nat.le_trans hrw hb.size
                    clear HBEN HRO HRES HST hrw hb
                    have HBEN := HBEN'
                    have HRO := HRO'
                    have HRES := HRES'
                    have HST := HST'
                    have hrw := hrw'
                    clear HBEN' HRO' HRES' HST' hrw'
                    have p0 := HBEN.out.h0
                    have p1 := HBEN.out.h1
                    have rc0 : w5.cell? ⟨r, 0, none⟩ = some (.int .i64 0) := blk_cell HRES.out 0
                    have rc1 : w5.cell? ⟨r, 1, none⟩ = some (.string ⟨#[]⟩) := blk_cell HRES.out 1
                    have rc2 : w5.cell? ⟨r, 2, none⟩ = some (.int .i64 0) := blk_cell HRES.out 2
                    have rc3 : w5.cell? ⟨r, 3, none⟩ = some (.int .i64 0) := blk_cell HRES.out 3
                    have rf0 := blk_frozen HRES.out 0
                    have rf1 := blk_frozen HRES.out 1
                    have rf2 := blk_frozen HRES.out 2
                    have rf3 := blk_frozen HRES.out 3
                    have x0 : w5.cell? ⟨q, 0, none⟩ = some (.int .i64 2) := blk_cell HX.out 0
                    have x1 : w5.cell? ⟨q, 1, none⟩ = some (.string tx) := blk_cell HX.out 1
                    have x2 : w5.cell? ⟨q, 2, none⟩ = some (.int .i64 xd) := blk_cell HX.out 2
                    have x3 : w5.cell? ⟨q, 3, none⟩ = some (.int .i64 0) := blk_cell HX.out 3
                    go_wp2
                    refine bodyPost_ret (val_results _ rfl (put4 HRES.out _ _ _ _)) rfl ?_
                    rw [HE.out]
                    exact err_post HST.out HBEN.out HRN.out.symm hW0 (by omega) (by omega) rfl
                  · have h16I : ¬ (16 : Int) ≤ xd := by omega
                    rw [if_neg (fun e => e.elim (fun e => by rw [k3] at e; cases e) h16)] at hU
                    by_cases hlong : 4096 < bs.length + tx.size
                    · have hlongI : (4096 : Int) < ((bs.length + tx.size : Nat) : Int) := by omega
                      have HE : Aside0 (R = .error (104, (i : Int))) := ⟨by rw [← HP.out]; exact piecesP_err hlt (by rw [HS.out]; congr 1; rw [hwg, hU, if_pos (by rw [hl1]; exact hlong)])⟩
                      clear h1 h2 hnj hk hwg hnu hU htx hxd k1 k2 k3 hbz h16
                      go_upto_region 20 with (first
                        | (go_at_call 34; refine (ref_at s i hs hlt HB36.out _ HQ.out).mono ?_; rintro e w2 ⟨rfl, hb⟩; have HBEN' := Aside0.mk (HBEN.out.step hb); have HRO' := Aside0.mk (Kd.R_below HRO.out hb); have HRES' := Aside0.mk ((hb.block r (blk_lt HRES.out)).trans HRES.out); have HST' := Aside0.mk (HST.out.below hb); have hrw' := Nat.le_trans hrw hb.size; clear HBEN HRO HRES HST hrw hb; have HBEN := HBEN'; have HRO := HRO'; have HRES := HRES'; have HST := HST'; have hrw := hrw'; clear HBEN' HRO' HRES' HST' hrw'; have p0 := HBEN.out.h0; have p1 := HBEN.out.h1; have rc0 : w2.cell? ⟨r, 0, none⟩ = some (.int .i64 0) := blk_cell HRES.out 0; have rc1 : w2.cell? ⟨r, 1, none⟩ = some (.string ⟨#[]⟩) := blk_cell HRES.out 1; have rc2 : w2.cell? ⟨r, 2, none⟩ = some (.int .i64 0) := blk_cell HRES.out 2; have rc3 : w2.cell? ⟨r, 3, none⟩ = some (.int .i64 0) := blk_cell HRES.out 3; have rf0 := blk_frozen HRES.out 0; have rf1 := blk_frozen HRES.out 1; have rf2 := blk_frozen HRES.out 2; have rf3 := blk_frozen HRES.out 3
                          )
                        | (go_at_call 30; refine (idx_at HC.out nm _ HBEN.out.below HIX.out).mono ?_; rintro e w3 ⟨rfl, hb⟩; have HBEN' := Aside0.mk (HBEN.out.step hb); have HRO' := Aside0.mk (Kd.R_below HRO.out hb); have HRES' := Aside0.mk ((hb.block r (blk_lt HRES.out)).trans HRES.out); have HST' := Aside0.mk (HST.out.below hb); have hrw' := Nat.le_trans hrw hb.size; clear HBEN HRO HRES HST hrw hb; have HBEN := HBEN'; have HRO := HRO'; have HRES := HRES'; have HST := HST'; have hrw := hrw'; clear HBEN' HRO' HRES' HST' hrw'; have p0 := HBEN.out.h0; have p1 := HBEN.out.h1; have rc0 : w3.cell? ⟨r, 0, none⟩ = some (.int .i64 0) := blk_cell HRES.out 0; have rc1 : w3.cell? ⟨r, 1, none⟩ = some (.string ⟨#[]⟩) := blk_cell HRES.out 1; have rc2 : w3.cell? ⟨r, 2, none⟩ = some (.int .i64 0) := blk_cell HRES.out 2; have rc3 : w3.cell? ⟨r, 3, none⟩ = some (.int .i64 0) := blk_cell HRES.out 3; have rf0 := blk_frozen HRES.out 0; have rf1 := blk_frozen HRES.out 1; have rf2 := blk_frozen HRES.out 2; have rf3 := blk_frozen HRES.out 3
                          ; have s0 : w3.cell? ⟨g, j * 4, none⟩ = some (.int .i64 st) := (HBEN.out.cell (j * 4)).trans HST0.out
                          )
                        | (go_at_call 31; go_loud (refine (HWK.out _ HBEN.out).mono ?_); rintro e w4 ⟨rfl, hs4, hben4⟩; have HRO' := Aside0.mk (Kd.R_mono (Kd.R_kept (Kd.R_bound HRO.out) hs4.kept (fun k hk e => by have h1_ := hk.2.1; have h2_ := HRN.out; omega)) (fun _ _ => trivial)); have HRES' := Aside0.mk (hs4.blk (by omega) HRES.out); have HST' := Aside0.mk (HST.out.trans hs4); have hrw' := Nat.le_trans hrw hs4.kept.1; have HBEN4 := Aside0.mk hben4; clear HBEN HRO HRES HST hrw hs4 hben4 p0 p1 s0 rc0 rc1 rc2 rc3 rf0 rf1 rf2 rf3; have HRO := HRO'; have HRES := HRES'; have HST := HST'; have hrw := hrw'; clear HRO' HRES' HST' hrw'
                          ))
                      obtain ⟨cells, hben4, hcells⟩ := HBEN4.out
                      have HBEN := Aside0.mk hben4
                      clear HBEN4 hben4
                      have hb := below_alloc (Below.refl w4.heap.size w4) (.cells #[.int .i64 2, .string tx, .int .i64 xd, .int .i64 0] 57)
                      obtain ⟨q, hq5⟩ : ∃ q, q = w4.heap.size := ⟨_, rfl⟩
                      have HX := Aside0.mk (at_new w4 (.cells #[.int .i64 2, .string tx, .int .i64 xd, .int .i64 0] 57) hq5)
                      rw [← hq5]
                      have hqr : r < q := by omega
                      clear hq5
                      generalize w4.alloc (.cells #[.int .i64 2, .string tx, .int .i64 xd, .int .i64 0] 57) = w5 at hb HX ⊢
                      have HBEN' := Aside0.mk (HBEN.out.step hb)
                      have HRO' := Aside0.mk (Kd.R_below HRO.out hb)
                      have HRES' := Aside0.mk ((hb.block r (blk_lt HRES.out)).trans HRES.out)
                      have HST' := Aside0.mk (HST.out.below hb)
                      have hrw' := Nat.le_trans hrw hb.size
                      clear HBEN HRO HRES HST hrw hb
                      have HBEN := HBEN'
                      have HRO := HRO'
                      have HRES := HRES'
                      have HST := HST'
                      have hrw := hrw'
                      clear HBEN' HRO' HRES' HST' hrw'
                      have p0 := HBEN.out.h0
                      have p1 := HBEN.out.h1
                      have rc0 : w5.cell? ⟨r, 0, none⟩ = some (.int .i64 0) := blk_cell HRES.out 0
                      have rc1 : w5.cell? ⟨r, 1, none⟩ = some (.string ⟨#[]⟩) := blk_cell HRES.out 1
                      have rc2 : w5.cell? ⟨r, 2, none⟩ = some (.int .i64 0) := blk_cell HRES.out 2
                      have rc3 : w5.cell? ⟨r, 3, none⟩ = some (.int .i64 0) := blk_cell HRES.out 3
                      have rf0 := blk_frozen HRES.out 0
                      have rf1 := blk_frozen HRES.out 1
                      have rf2 := blk_frozen HRES.out 2
                      have rf3 := blk_frozen HRES.out 3
                      have x0 : w5.cell? ⟨q, 0, none⟩ = some (.int .i64 2) := blk_cell HX.out 0
                      have x1 : w5.cell? ⟨q, 1, none⟩ = some (.string tx) := blk_cell HX.out 1
                      have x2 : w5.cell? ⟨q, 2, none⟩ = some (.int .i64 xd) := blk_cell HX.out 2
                      have x3 : w5.cell? ⟨q, 3, none⟩ = some (.int .i64 0) := blk_cell HX.out 3
                      go_wp2_with (at_builtin; go_loud (refine print_append_str (w0 := w5) (r + 1) rfl (.tmp 82) _ 46 9 5 rfl Try.underlying46 Try.underlying9 info5 (.slice A5 bs.length c5) bs tx rfl rfl (by rw [HRN.out]; exact Kd.own_of_R HRO.out) ((Below.refl _ _).mono hrw) hrw (by omega) ?_); intro v1 w1 ho2 hb1 hg1; have ho1 := Kd.R_of_own (h1 := fun _ => rfl) (ok := fun _ => True) ho2 (fun _ _ => trivial); change Kd.R (Kd.int .u8) 5 w1 (r + 1) (fun _ => True) v1 (bs ++ bytesOf tx) at ho1; obtain ⟨A1, c1, e1⟩ := Kd.R_slice ho1; rw [hl1] at e1; subst e1; have HO1 := Aside0.mk ho1; have HBEN1 := Aside0.mk (HBEN.out.grown hg1 (fun k e => by have h1_ := Kd.R_base HRO.out k e; have h2_ := HRN.out; refine ⟨by omega, by omega, by omega⟩)); have HRES1 := Aside0.mk ((hg1.block r (blk_lt HRES.out) (fun e => by have h1_ := Kd.R_base HRO.out r e.symm; have h2_ := HRN.out; omega)).trans HRES.out); have HST1 := Aside0.mk (HST.out.grown hg1 (fun k e => by have h1_ := Kd.R_base HRO.out k e; omega)); clear ho1 ho2 hb1 hg1; have rc0 : w1.cell? ⟨r, 0, none⟩ = some (.int .i64 0) := blk_cell HRES1.out 0; have rc1 : w1.cell? ⟨r, 1, none⟩ = some (.string ⟨#[]⟩) := blk_cell HRES1.out 1; have rc2 : w1.cell? ⟨r, 2, none⟩ = some (.int .i64 0) := blk_cell HRES1.out 2; have rc3 : w1.cell? ⟨r, 3, none⟩ = some (.int .i64 0) := blk_cell HRES1.out 3; have rf0 := blk_frozen HRES1.out 0; have rf1 := blk_frozen HRES1.out 1; have rf2 := blk_frozen HRES1.out 2; have rf3 := blk_frozen HRES1.out 3
                        )
                      all_goals (refine bodyPost_ret (val_results _ rfl (put4 HRES1.out _ _ _ _)) rfl ?_; rw [HE.out]; exact err_post HST1.out HBEN1.out HRN.out.symm hW0 (by omega) (by omega) rfl
                        )
                    · have hlongI : ¬ (4096 : Int) < ((bs.length + tx.size : Nat) : Int) := by omega
                      have HE : Aside0 (piecesP wkF (wkG (workP vs f) vs) s d (i + (nm.size + 2) + 1) (bs ++ bytesOf tx, max dp (xd + 1), dn1) = R) := ⟨by rw [← HP.out]; exact (piecesP_ok hlt (by rw [HS.out]; congr 1; rw [hwg, hU, if_neg (by rw [hl1]; exact hlong)])).symm⟩
                      clear h1 h2 hnj hk hwg hnu hU htx hxd k1 k2 k3 hbz h16
                      go_upto_region 20 with (first
                        | (go_at_call 34; refine (ref_at s i hs hlt HB36.out _ HQ.out).mono ?_; rintro e w2 ⟨rfl, hb⟩; have HBEN' := Aside0.mk (HBEN.out.step hb); have HRO' := Aside0.mk (Kd.R_below HRO.out hb); have HRES' := Aside0.mk ((hb.block r (blk_lt HRES.out)).trans HRES.out); have HST' := Aside0.mk (HST.out.below hb); have hrw' := Nat.le_trans hrw hb.size; clear HBEN HRO HRES HST hrw hb; have HBEN := HBEN'; have HRO := HRO'; have HRES := HRES'; have HST := HST'; have hrw := hrw'; clear HBEN' HRO' HRES' HST' hrw'; have p0 := HBEN.out.h0; have p1 := HBEN.out.h1; have rc0 : w2.cell? ⟨r, 0, none⟩ = some (.int .i64 0) := blk_cell HRES.out 0; have rc1 : w2.cell? ⟨r, 1, none⟩ = some (.string ⟨#[]⟩) := blk_cell HRES.out 1; have rc2 : w2.cell? ⟨r, 2, none⟩ = some (.int .i64 0) := blk_cell HRES.out 2; have rc3 : w2.cell? ⟨r, 3, none⟩ = some (.int .i64 0) := blk_cell HRES.out 3; have rf0 := blk_frozen HRES.out 0; have rf1 := blk_frozen HRES.out 1; have rf2 := blk_frozen HRES.out 2; have rf3 := blk_frozen HRES.out 3
                          )
                        | (go_at_call 30; refine (idx_at HC.out nm _ HBEN.out.below HIX.out).mono ?_; rintro e w3 ⟨rfl, hb⟩; have HBEN' := Aside0.mk (HBEN.out.step hb); have HRO' := Aside0.mk (Kd.R_below HRO.out hb); have HRES' := Aside0.mk ((hb.block r (blk_lt HRES.out)).trans HRES.out); have HST' := Aside0.mk (HST.out.below hb); have hrw' := Nat.le_trans hrw hb.size; clear HBEN HRO HRES HST hrw hb; have HBEN := HBEN'; have HRO := HRO'; have HRES := HRES'; have HST := HST'; have hrw := hrw'; clear HBEN' HRO' HRES' HST' hrw'; have p0 := HBEN.out.h0; have p1 := HBEN.out.h1; have rc0 : w3.cell? ⟨r, 0, none⟩ = some (.int .i64 0) := blk_cell HRES.out 0; have rc1 : w3.cell? ⟨r, 1, none⟩ = some (.string ⟨#[]⟩) := blk_cell HRES.out 1; have rc2 : w3.cell? ⟨r, 2, none⟩ = some (.int .i64 0) := blk_cell HRES.out 2; have rc3 : w3.cell? ⟨r, 3, none⟩ = some (.int .i64 0) := blk_cell HRES.out 3; have rf0 := blk_frozen HRES.out 0; have rf1 := blk_frozen HRES.out 1; have rf2 := blk_frozen HRES.out 2; have rf3 := blk_frozen HRES.out 3
                          ; have s0 : w3.cell? ⟨g, j * 4, none⟩ = some (.int .i64 st) := (HBEN.out.cell (j * 4)).trans HST0.out
                          )
                        | (go_at_call 31; go_loud (refine (HWK.out _ HBEN.out).mono ?_); rintro e w4 ⟨rfl, hs4, hben4⟩; have HRO' := Aside0.mk (Kd.R_mono (Kd.R_kept (Kd.R_bound HRO.out) hs4.kept (fun k hk e => by have h1_ := hk.2.1; have h2_ := HRN.out; omega)) (fun _ _ => trivial)); have HRES' := Aside0.mk (hs4.blk (by omega) HRES.out); have HST' := Aside0.mk (HST.out.trans hs4); have hrw' := Nat.le_trans hrw hs4.kept.1; have HBEN4 := Aside0.mk hben4; clear HBEN HRO HRES HST hrw hs4 hben4 p0 p1 s0 rc0 rc1 rc2 rc3 rf0 rf1 rf2 rf3; have HRO := HRO'; have HRES := HRES'; have HST := HST'; have hrw := hrw'; clear HRO' HRES' HST' hrw'
                          ))
                      obtain ⟨cells, hben4, hcells⟩ := HBEN4.out
                      have HBEN := Aside0.mk hben4
                      clear HBEN4 hben4
                      have hb := below_alloc (Below.refl w4.heap.size w4) (.cells #[.int .i64 2, .string tx, .int .i64 xd, .int .i64 0] 57)
                      obtain ⟨q, hq5⟩ : ∃ q, q = w4.heap.size := ⟨_, rfl⟩
                      have HX := Aside0.mk (at_new w4 (.cells #[.int .i64 2, .string tx, .int .i64 xd, .int .i64 0] 57) hq5)
                      rw [← hq5]
                      have hqr : r < q := by omega
                      clear hq5
                      generalize w4.alloc (.cells #[.int .i64 2, .string tx, .int .i64 xd, .int .i64 0] 57) = w5 at hb HX ⊢
                      have HBEN' := Aside0.mk (HBEN.out.step hb)
                      have HRO' := Aside0.mk (Kd.R_below HRO.out hb)
                      have HRES' := Aside0.mk ((hb.block r (blk_lt HRES.out)).trans HRES.out)
                      have HST' := Aside0.mk (HST.out.below hb)
                      have hrw' := Nat.le_trans hrw hb.size
                      clear HBEN HRO HRES HST hrw hb
                      have HBEN := HBEN'
                      have HRO := HRO'
                      have HRES := HRES'
                      have HST := HST'
                      have hrw := hrw'
                      clear HBEN' HRO' HRES' HST' hrw'
                      have p0 := HBEN.out.h0
                      have p1 := HBEN.out.h1
                      have rc0 : w5.cell? ⟨r, 0, none⟩ = some (.int .i64 0) := blk_cell HRES.out 0
                      have rc1 : w5.cell? ⟨r, 1, none⟩ = some (.string ⟨#[]⟩) := blk_cell HRES.out 1
                      have rc2 : w5.cell? ⟨r, 2, none⟩ = some (.int .i64 0) := blk_cell HRES.out 2
                      have rc3 : w5.cell? ⟨r, 3, none⟩ = some (.int .i64 0) := blk_cell HRES.out 3
                      have rf0 := blk_frozen HRES.out 0
                      have rf1 := blk_frozen HRES.out 1
                      have rf2 := blk_frozen HRES.out 2
                      have rf3 := blk_frozen HRES.out 3
                      have x0 : w5.cell? ⟨q, 0, none⟩ = some (.int .i64 2) := blk_cell HX.out 0
                      have x1 : w5.cell? ⟨q, 1, none⟩ = some (.string tx) := blk_cell HX.out 1
                      have x2 : w5.cell? ⟨q, 2, none⟩ = some (.int .i64 xd) := blk_cell HX.out 2
                      have x3 : w5.cell? ⟨q, 3, none⟩ = some (.int .i64 0) := blk_cell HX.out 3
                      subst hcells
                      go_wp2_with (at_builtin; go_loud (refine print_append_str (w0 := w5) (r + 1) rfl (.tmp 82) _ 46 9 5 rfl Try.underlying46 Try.underlying9 info5 (.slice A5 bs.length c5) bs tx rfl rfl (by rw [HRN.out]; exact Kd.own_of_R HRO.out) ((Below.refl _ _).mono hrw) hrw (by omega) ?_); intro v1 w1 ho2 hb1 hg1; have ho1 := Kd.R_of_own (h1 := fun _ => rfl) (ok := fun _ => True) ho2 (fun _ _ => trivial); change Kd.R (Kd.int .u8) 5 w1 (r + 1) (fun _ => True) v1 (bs ++ bytesOf tx) at ho1; obtain ⟨A1, c1, e1⟩ := Kd.R_slice ho1; rw [hl1] at e1; subst e1; have HO1 := Aside0.mk ho1; have HBEN1 := Aside0.mk (HBEN.out.grown hg1 (fun k e => by have h1_ := Kd.R_base HRO.out k e; have h2_ := HRN.out; refine ⟨by omega, by omega, by omega⟩)); have HRES1 := Aside0.mk ((hg1.block r (blk_lt HRES.out) (fun e => by have h1_ := Kd.R_base HRO.out r e.symm; have h2_ := HRN.out; omega)).trans HRES.out); have HST1 := Aside0.mk (HST.out.grown hg1 (fun k e => by have h1_ := Kd.R_base HRO.out k e; omega)); clear ho1 ho2 hb1 hg1; have rc0 : w1.cell? ⟨r, 0, none⟩ = some (.int .i64 0) := blk_cell HRES1.out 0; have rc1 : w1.cell? ⟨r, 1, none⟩ = some (.string ⟨#[]⟩) := blk_cell HRES1.out 1; have rc2 : w1.cell? ⟨r, 2, none⟩ = some (.int .i64 0) := blk_cell HRES1.out 2; have rc3 : w1.cell? ⟨r, 3, none⟩ = some (.int .i64 0) := blk_cell HRES1.out 3; have rf0 := blk_frozen HRES1.out 0; have rf1 := blk_frozen HRES1.out 1; have rf2 := blk_frozen HRES1.out 2; have rf3 := blk_frozen HRES1.out 3
                        )
                      all_goals
                        go_roundg d
                        case measure => omega
                        case rel => exact ⟨i + (nm.size + 2) + 1, bs ++ bytesOf tx, max dp (xd + 1), dn1, by go_num, by first | rfl | (congr 1; omega), by omega, by have := HNL.out; omega, HE.out, by rw [hl1]; omega, by omega, by omega, HOK1.out, ht1, HBEN1.out, by rw [← HRN.out]; exact HO1.out, by rw [← HRN.out]; exact HRES1.out, HST1.out⟩
          · have hq : refQ s i = (⟨#[]⟩, 0, false) := by unfold refQ; rw [if_neg hp2, if_neg hro2]
            have HE : Aside0 (R = .error (101, (i : Int))) := ⟨by rw [← HP.out]; exact piecesP_err (j := 0) hlt (by unfold stepP; rw [hb36, if_neg (by decide), if_neg hp2, if_neg hro2])⟩
            have HQ := Aside0.mk hq
            have HB36 := Aside0.mk hb36
            clear hq hp2 hro2 hb36
            go_wp2_with (go_at_call 34; refine (ref_at s i hs hlt HB36.out _ HQ.out).mono ?_; rintro e w2 ⟨rfl, hb⟩; have HBEN' := Aside0.mk (HBEN.out.step hb); have HRO' := Aside0.mk (Kd.R_below HRO.out hb); have HRES' := Aside0.mk ((hb.block r (blk_lt HRES.out)).trans HRES.out); have HST' := Aside0.mk (HST.out.below hb); have hrw' := Nat.le_trans hrw hb.size; clear HBEN HRO HRES HST hrw hb; have HBEN := HBEN'; have HRO := HRO'; have HRES := HRES'; have HST := HST'; have hrw := hrw'; clear HBEN' HRO' HRES' HST' hrw'; have p0 := HBEN.out.h0; have p1 := HBEN.out.h1; have rc0 : w2.cell? ⟨r, 0, none⟩ = some (.int .i64 0) := blk_cell HRES.out 0; have rc1 : w2.cell? ⟨r, 1, none⟩ = some (.string ⟨#[]⟩) := blk_cell HRES.out 1; have rc2 : w2.cell? ⟨r, 2, none⟩ = some (.int .i64 0) := blk_cell HRES.out 2; have rc3 : w2.cell? ⟨r, 3, none⟩ = some (.int .i64 0) := blk_cell HRES.out 3; have rf0 := blk_frozen HRES.out 0; have rf1 := blk_frozen HRES.out 1; have rf2 := blk_frozen HRES.out 2; have rf3 := blk_frozen HRES.out 3
              )
            refine bodyPost_ret (val_results _ rfl (put4 HRES.out _ _ _ _)) rfl ?_; rw [HE.out]; exact err_post HST.out HBEN.out HRN.out.symm hW0 (by omega) (by omega) rfl
      · have hl1 : (bs ++ [(s[i].toNat : Int)]).length = bs.length + 1 := by simp
        have HS := Aside0.mk (show stepP wkF (wkG (workP vs f) vs) s i (bs, dp, dn) = (wkF (bs, dp, dn) (s[i].toNat : Int) i, i + 1) by unfold stepP; rw [HCH.out, if_pos h36])
        by_cases hlong : 4096 < bs.length + 1
        · have hlongI : (4096 : Int) < ((bs.length + 1 : Nat) : Int) := by omega
          have HE : Aside0 (R = .error (104, (i : Int))) := ⟨by rw [← HP.out]; exact piecesP_err hlt (by rw [HS.out]; congr 1; exact if_pos (by rw [hl1]; exact hlong))⟩
          go_wp2_with (at_builtin; refine Kd.R_append (Kd.int .u8) (w0 := wr) (r + 1) rfl (.tmp 21) (.tmp 25) 46 5 (.int .u8 0) 1 rfl Try.underlying46 info5 rfl (by decide) (by omega) (.slice A5 bs.length c5) bs (s[i].toNat : Int) [.int .u8 (s[i].toNat : Int)] (fun _ => True) (fun _ => False) rfl (by first | (go_simp; done) | (go_simp; rfl)) rfl (fun _ h => h.elim) (fun _ _ => trivial) (by rw [HRN.out]; exact HRO.out) ((Below.refl _ _).mono hrw) hrw (by omega) ?_; intro v1 w1 ho1 hb1 hg1 hat1; obtain ⟨A1, c1, e1⟩ := Kd.R_slice ho1; rw [hl1] at e1; subst e1; have HO1 := Aside0.mk ho1; have HBEN1 := Aside0.mk (HBEN.out.grown hg1 (fun k e => by have h1_ := Kd.R_base HRO.out k e; have h2_ := HRN.out; refine ⟨by omega, by omega, by omega⟩)); have HRES1 := Aside0.mk ((hg1.block r (blk_lt HRES.out) (fun e => by have h1_ := Kd.R_base HRO.out r e.symm; have h2_ := HRN.out; omega)).trans HRES.out); have HST1 := Aside0.mk (HST.out.grown hg1 (fun k e => by have h1_ := Kd.R_base HRO.out k e; omega)); clear ho1 hb1 hg1 hat1; have rc0 : w1.cell? ⟨r, 0, none⟩ = some (.int .i64 0) := blk_cell HRES1.out 0; have rc1 : w1.cell? ⟨r, 1, none⟩ = some (.string ⟨#[]⟩) := blk_cell HRES1.out 1; have rc2 : w1.cell? ⟨r, 2, none⟩ = some (.int .i64 0) := blk_cell HRES1.out 2; have rc3 : w1.cell? ⟨r, 3, none⟩ = some (.int .i64 0) := blk_cell HRES1.out 3; have rf0 := blk_frozen HRES1.out 0; have rf1 := blk_frozen HRES1.out 1; have rf2 := blk_frozen HRES1.out 2; have rf3 := blk_frozen HRES1.out 3
            )
          refine bodyPost_ret (val_results _ rfl (put4 HRES1.out _ _ _ _)) rfl ?_; rw [HE.out]; exact err_post HST1.out HBEN1.out HRN.out.symm hW0 (by omega) (by omega) rfl
        · have hlongI : ¬ (4096 : Int) < ((bs.length + 1 : Nat) : Int) := by omega
          have HE : Aside0 (piecesP wkF (wkG (workP vs f) vs) s d (i + 1) (bs ++ [(s[i].toNat : Int)], dp, dn) = R) := ⟨by rw [← HP.out]; exact (piecesP_ok hlt (by rw [HS.out]; congr 1; exact if_neg (by rw [hl1]; exact hlong))).symm⟩
          go_wp2_with (at_builtin; refine Kd.R_append (Kd.int .u8) (w0 := wr) (r + 1) rfl (.tmp 21) (.tmp 25) 46 5 (.int .u8 0) 1 rfl Try.underlying46 info5 rfl (by decide) (by omega) (.slice A5 bs.length c5) bs (s[i].toNat : Int) [.int .u8 (s[i].toNat : Int)] (fun _ => True) (fun _ => False) rfl (by first | (go_simp; done) | (go_simp; rfl)) rfl (fun _ h => h.elim) (fun _ _ => trivial) (by rw [HRN.out]; exact HRO.out) ((Below.refl _ _).mono hrw) hrw (by omega) ?_; intro v1 w1 ho1 hb1 hg1 hat1; obtain ⟨A1, c1, e1⟩ := Kd.R_slice ho1; rw [hl1] at e1; subst e1; have HO1 := Aside0.mk ho1; have HBEN1 := Aside0.mk (HBEN.out.grown hg1 (fun k e => by have h1_ := Kd.R_base HRO.out k e; have h2_ := HRN.out; refine ⟨by omega, by omega, by omega⟩)); have HRES1 := Aside0.mk ((hg1.block r (blk_lt HRES.out) (fun e => by have h1_ := Kd.R_base HRO.out r e.symm; have h2_ := HRN.out; omega)).trans HRES.out); have HST1 := Aside0.mk (HST.out.grown hg1 (fun k e => by have h1_ := Kd.R_base HRO.out k e; omega)); clear ho1 hb1 hg1 hat1; have rc0 : w1.cell? ⟨r, 0, none⟩ = some (.int .i64 0) := blk_cell HRES1.out 0; have rc1 : w1.cell? ⟨r, 1, none⟩ = some (.string ⟨#[]⟩) := blk_cell HRES1.out 1; have rc2 : w1.cell? ⟨r, 2, none⟩ = some (.int .i64 0) := blk_cell HRES1.out 2; have rc3 : w1.cell? ⟨r, 3, none⟩ = some (.int .i64 0) := blk_cell HRES1.out 3; have rf0 := blk_frozen HRES1.out 0; have rf1 := blk_frozen HRES1.out 1; have rf2 := blk_frozen HRES1.out 2; have rf3 := blk_frozen HRES1.out 3
            )
          go_roundg d
          case measure => omega
          case rel => exact ⟨i + 1, bs ++ [(s[i].toNat : Int)], dp, dn, by go_num, rfl, by omega, by omega, HE.out, by rw [hl1]; omega, hd0, hd16, HOK.out, ht, HBEN1.out, by rw [← HRN.out]; exact HO1.out, by rw [← HRN.out]; exact HRES1.out, HST1.out⟩
    · have HE : Aside0 (R = .ok (bs, dp, dn)) := ⟨by rw [← HP.out, piecesP_end _ _ _ _ _ _ (by omega)]⟩
      have hcv := own_string (P := Try.prog) (src := 46) (dst := 9) Try.underlying46 Try.underlying5 Try.underlying9 (Kd.own_of_R HRO.out)
      have rc0 : wr.cell? ⟨r, 0, none⟩ = some (.int .i64 0) := blk_cell HRES.out 0
      have rc1 : wr.cell? ⟨r, 1, none⟩ = some (.string ⟨#[]⟩) := blk_cell HRES.out 1
      have rc2 : wr.cell? ⟨r, 2, none⟩ = some (.int .i64 0) := blk_cell HRES.out 2
      have rc3 : wr.cell? ⟨r, 3, none⟩ = some (.int .i64 0) := blk_cell HRES.out 3
      have rf0 := blk_frozen HRES.out 0
      have rf1 := blk_frozen HRES.out 1
      have rf2 := blk_frozen HRES.out 2
      have rf3 := blk_frozen HRES.out 3
      go_wp2
      refine bodyPost_ret (val_results _ rfl (put4 HRES.out _ _ _ _)) rfl ?_
      rw [HE.out]
      exact ⟨HST.out.put4 (by have := HRN.out; omega) _ _ _ _, rfl, HBEN.out.put4 hW0 (by omega) (by omega) _ _ _ _⟩
end
end Go.Proofs.Ytfkibolpanlelaa.Q
