/- Show of the document, walked. -/
import Derived.Test.YtofajjodonhdkaaEAKRefSL
import Derived.Deep.Cut
import Derived.Deep.CutRange
import Derived.Deep.CutBlock
namespace Go.Proofs.Ytofajjodonhdkaa.Q
open Go Go.RowKit Go.Shelf Go.Proofs.YtofajjodonhdkaaW.PrintWords Go.Proofs.YtofajjodonhdkaaW.PrintLast Go.Proofs.YtofajjodonhdkaaW.PrintMore
set_option linter.unusedVariables false
set_option linter.unusedSimpArgs false
set_option linter.unusedSectionVars false
set_option maxRecDepth 100000 in
set_option maxHeartbeats 4000000 in
theorem refShow_no (A : Option Addr) (c : Nat) (t : List SN) (w : World) (hr : Kd.C k31 w A t.length t) (hc : t.length ≤ c) (hlen : t.length ≤ 1048576) (hf : refP t = false) :
    Calls Try.prog 7 #[.slice A t.length c] w fun e w' => e = .returned (.tuple #[.string (refShowP t).1, .int .i64 (refShowP t).2]) ∧ Below w.heap.size w w' := by
  have HR := Aside0.mk hr
  have HF := Aside0.mk hf
  rw [show refShowP t = (⟨#[]⟩, 50) by unfold refShowP; rw [if_pos hf]]
  clear hr hf
  go_enter Try.func7, Try.ntmps7
  go_wp2_with (go_at_call 16; refine (refIs_at A c t _ HR.out hc hlen HF.out).mono ?_; rintro e w1 ⟨rfl, hb⟩; have HB1 := Aside0.mk hb; clear hb)
  go_ret2
  exact ⟨rfl, HB1.out⟩
set_option maxRecDepth 100000 in
set_option maxHeartbeats 4000000 in
theorem refShow_yes (A : Option Addr) (c : Nat) (t : List SN) (w : World) (hr : Kd.C k31 w A t.length t) (hc : t.length ≤ c) (hT : TinyT t) (hf : refP t = true) :
    Calls Try.prog 7 #[.slice A t.length c] w fun e w' => e = .returned (.tuple #[.string (refShowP t).1, .int .i64 (refShowP t).2]) ∧ Below w.heap.size w w' := by
  have HR := Aside0.mk hr
  have HF := Aside0.mk hf
  have HT := Aside0.mk hT
  have hlen := hT.len
  have HV := Aside0.mk (is_valid (ref_is t ▸ hf : isP t = true))
  have hpos : 1 ≤ t.length := HV.out.n1
  obtain ⟨res, hres⟩ : ∃ res, rs t (t.length - 1) 1 [] = res := ⟨_, rfl⟩
  rw [show refShowP t = res by unfold refShowP; rw [if_neg (by rw [hf]; decide), hres]]
  have HRES := Aside0.mk hres
  clear hr hf hT hres
  go_enter Try.func7, Try.ntmps7
  go_wp2_with (go_at_call 16; refine (refIs_at A c t _ HR.out hc hlen HF.out).mono ?_; rintro e w1 ⟨rfl, hb⟩; have HB1 := Aside0.mk hb; clear hb)
  have hrow0 : (w1.alloc (.cells kz 33)).heap[w1.heap.size]? = some (.cells (ksA ks0) 33 (0, 0)) := blk_new w1 _
  have hb0 : Below w.heap.size w (w1.alloc (.cells kz 33)) := below_alloc HB1.out _
  unfold kz at hrow0 hb0
  generalize w1.alloc (.cells _ 33) = w2 at hrow0 hb0 ⊢
  have HROW0 := Aside0.mk hrow0
  have HB0 := Aside0.mk hb0
  have hkb0 : w.heap.size ≤ w1.heap.size := HB1.out.size
  clear hrow0 hb0
  obtain ⟨kb, hkb⟩ : ∃ kb, kb = w1.heap.size := ⟨_, rfl⟩
  rw [← hkb] at HROW0 hkb0 ⊢
  clear hkb
  go_loopw [5, 6] (fun v i wr => ∃ k ks out, i = .int .i64 ((k : Nat) : Int) ∧ RsR w t kb res k ks out v wr) (fun _ i _ => t.length - (intOf i).toNat)
  case atStart =>
    refine ⟨1, ks0, [], rfl, Nat.le_refl _, hpos, rfl, fun j hj => ?_, by simp, HRES.out, HROW0.out, ?_, HB0.out⟩
    · rw [show (1 : Nat) - 1 = 0 from rfl, HV.out.d0] at hj
      have : j = 0 := by omega
      subst this
      unfold parGo
      rw [if_pos (by rw [HV.out.d0]; decide), HV.out.k0]
      rfl
    · exact Kd.R_nil _ _ _ _ _
  case round =>
    obtain ⟨k, ks, out, rfl, hrel⟩ := hrel
    have HREL := Aside0.mk hrel
    have hk1 := hrel.k1
    have hk2 := hrel.k2
    have hCw := Kd.C_below HR.out hrel.bel
    clear HROW0 HB0
    by_cases hlt : k < t.length
    · obtain ⟨ad, he, a0, a1, a2, a3, a4, a5, a6, a7⟩ := at_T31 hCw (k : Int) (by omega) (by omega)
      subst he
      have hrow := hrel.row
      have hks := hrel.len
      have hkk : (k : Int) < (t.length : Int) := by omega
      clear hrel hCw
      rw [show ((k : Int).toNat) = k from rfl] at a0 a1 a2 a3 a4 a5 a6 a7
      obtain ⟨x, hx⟩ : ∃ x, x = nd t k := ⟨_, rfl⟩
      rw [show rd_T31 t (k : Int) = x from hx.symm] at a0 a1 a2 a3 a4 a5 a6 a7
      have HX := Aside0.mk hx
      have hx1 : 1 ≤ x.f1 := by rw [hx]; exact HV.out.lo k hk1 hlt
      have hx2 : x.f1 ≤ 32 := by rw [hx]; exact (fits_parts (is_fits (ref_is t ▸ HF.out : isP t = true) k hk1 hlt)).2.2.1
      obtain ⟨d, hd⟩ : ∃ d : Nat, (d : Int) = x.f1 := ⟨x.f1.toNat, Int.toNat_of_nonneg (Int.le_trans (by decide) hx1)⟩
      obtain ⟨q1, q2, q3, q4, hwx, hdx, hd34, hd34', hwd⟩ := d_facts hd hx1 hx2
      have hrow8 : (wr.alloc (.cells #[.int .i64 x.f0, .int .i64 x.f1, .string x.f2, .string x.f3, .string x.f4, .int .i64 x.f5, .int .i64 x.f6, .int .i64 x.f7] 31)).heap[kb]? = some (.cells (ksA ks) 33 (0, 0)) := blk_alloc hrow _
      have hkc : (wr.alloc (.cells #[.int .i64 x.f0, .int .i64 x.f1, .string x.f2, .string x.f3, .string x.f4, .int .i64 x.f5, .int .i64 x.f6, .int .i64 x.f7] 31)).cell? ⟨kb, d, none⟩ = some (.int .i64 (ks.getD d 0)) := by rw [blk_cell hrow8]; exact ksA_get ks d (Nat.lt_of_lt_of_eq q4 hks.symm)
      have hkz := blk_frozen hrow8 d
      have HROW8 := Aside0.mk hrow8
      clear hrow8
      have HROW := Aside0.mk hrow
      have HD1 := Aside0.mk hd
      have HD34 := Aside0.mk (Nat.lt_of_lt_of_eq q4 hks.symm)
      have HD33 := Aside0.mk (show d - 1 < (ks.set d x.f0).length by rw [List.length_set]; exact Nat.lt_of_lt_of_eq hd34 hks.symm)
      have HD0 := Aside0.mk (d_pos hd hx1)
      clear hx hrow hd hks
      have hne : wr.heap.size ≠ kb := Nat.ne_of_gt (blk_lt HROW.out)
      go_wp2
      have hN9 : ((wr.alloc (.cells #[.int .i64 x.f0, .int .i64 x.f1, .string x.f2, .string x.f3, .string x.f4, .int .i64 x.f5, .int .i64 x.f6, .int .i64 x.f7] 31)).setCell ⟨kb, d, none⟩ (.int .i64 x.f0)).heap[wr.heap.size]? = some (.cells #[.int .i64 x.f0, .int .i64 x.f1, .string x.f2, .string x.f3, .string x.f4, .int .i64 x.f5, .int .i64 x.f6, .int .i64 x.f7] 31 (0, 0)) := blk_far (p := ⟨kb, d, none⟩) (blk_new wr _) hne _
      have hK9 : ((wr.alloc (.cells #[.int .i64 x.f0, .int .i64 x.f1, .string x.f2, .string x.f3, .string x.f4, .int .i64 x.f5, .int .i64 x.f6, .int .i64 x.f7] 31)).setCell ⟨kb, d, none⟩ (.int .i64 x.f0)).heap[kb]? = some (.cells (ksA (ks.set d x.f0)) 33 (0, 0)) := by have h := blk_set HROW8.out d (.int .i64 x.f0); rw [ksA_set] at h; exact h
      have hO9 := own_set (d := d) (Kd.R_below HREL.out.own (below_alloc (Below.refl wr.heap.size wr) (.cells #[.int .i64 x.f0, .int .i64 x.f1, .string x.f2, .string x.f3, .string x.f4, .int .i64 x.f5, .int .i64 x.f6, .int .i64 x.f7] 31))) HROW8.out (by decide) (.int .i64 x.f0)
      have hB9 := (below_alloc HREL.out.bel (.cells #[.int .i64 x.f0, .int .i64 x.f1, .string x.f2, .string x.f3, .string x.f4, .int .i64 x.f5, .int .i64 x.f6, .int .i64 x.f7] 31)).setCell (p := ⟨kb, d, none⟩) hkb0 (.int .i64 x.f0)
      have HL9 := Aside0.mk (LnR.mk hN9 hK9 hO9 hB9)
      clear hN9 hK9 hO9 hB9 HROW8 hkc hkz a0 a1 a2 a3 a4 a5 a6 a7 HROW
      generalize (wr.alloc (.cells #[.int .i64 x.f0, .int .i64 x.f1, .string x.f2, .string x.f3, .string x.f4, .int .i64 x.f5, .int .i64 x.f6, .int .i64 x.f7] 31)).setCell ⟨kb, d, none⟩ (.int .i64 x.f0) = W9 at HL9 ⊢
      obtain ⟨nb, hnb⟩ : ∃ nb, nb = wr.heap.size := ⟨_, rfl⟩
      rw [← hnb] at HL9 hne ⊢
      clear hnb
      obtain ⟨ks1, hks1⟩ : ∃ ks1, ks1 = ks.set d x.f0 := ⟨_, rfl⟩
      rw [← hks1] at HL9 HD33
      have HKL1 := Aside0.mk (show ks1.length = 34 by rw [hks1, List.length_set]; exact HREL.out.len)
      have HKS1 := Aside0.mk hks1
      have hsm := HREL.out.small
      clear hks1
      obtain ⟨kv, hkv⟩ : ∃ kv, kv = ks1.getD (d - 1) 0 := ⟨_, rfl⟩
      have HKV := Aside0.mk (show kv = (nd t (par t k)).f0 by rw [hkv, HKS1.out, HX.out]; exact rs_kv HV.out hk1 hlt (HX.out ▸ HD1.out) HD0.out HREL.out.kinds)
      have HKC := Aside0.mk (show (ksA ks1)[d - 1]? = some (.int .i64 kv) by rw [hkv]; exact ksA_get ks1 (d - 1) HD33.out)
      clear hkv
      obtain ⟨wo, rfl⟩ : ∃ wo : World, wo = wr := ⟨_, rfl⟩
      go_loopw [5, 8] (fun v i W => ∃ j : Nat, i = .int .i64 (j : Int) ∧ 1 ≤ j ∧ j ≤ d ∧ LnR w x kb nb ks1 (out ++ Lib.repeatL [32, 32] (j - 1)) v W) (fun _ i _ => d - (intOf i).toNat)
      case atStart => exact ⟨1, rfl, Nat.le_refl _, HD0.out, by rw [show Lib.repeatL [32, 32] (1 - 1) = ([] : List UInt8) from rfl, List.append_nil]; exact HL9.out⟩
      case round =>
        obtain ⟨j, rfl, hj1, hj2, hl⟩ := hrel
        have HL := Aside0.mk hl
        have c1 := blk_cell hl.node 1
        have HJ1 := Aside0.mk hj1
        clear hl HL9
        by_cases hjd : j < d
        · have hjx : (j : Int) < x.f1 := lt_d HD1.out hjd
          have HJD := Aside0.mk hjd
          have hsz : (out ++ Lib.repeatL [32, 32] (j - 1)).length + 2 ≤ 1099511627776 := big_of (ind_len out hsm HD33.out HKL1.out hj2) (by decide)
          clear hjd hj1 hj2
          go_wp2_with (at_builtin; refine ln_lit rfl (.tmp 35) (.tmp 36) rfl _ [32, 32] 2 rfl rfl rfl rfl HL.out hsz ?_; intro v1 w1 hl1; have HL1 := Aside0.mk hl1; clear hl1 HL hsz q1 q2 q3 q4 hwx hdx hd34 hd34' hwd)
          exact ⟨⟨j + 1, rfl, Nat.le_add_left _ _, HJD.out, by rw [rep_next out HJ1.out]; exact HL1.out⟩, meas_up HJD.out⟩
        · have hjx : ¬ (j : Int) < x.f1 := not_lt_d HD1.out hjd
          obtain rfl : j = d := Nat.le_antisymm hj2 (Nat.le_of_not_lt hjd)
          have hkc := (blk_cell HL.out.row (j - 1)).trans HKC.out
          have HSZ := Aside0.mk (ind_len out hsm HD33.out HKL1.out (Nat.le_refl j))
          have HKZ := Aside0.mk (show x.f2.size ≤ 1073741824 by rw [HX.out]; exact Nat.le_trans (HT.out.key k hlt) (by decide))
          have HVZ := Aside0.mk (show x.f3.size ≤ 1073741824 by rw [HX.out]; exact Nat.le_trans (HT.out.txt k hlt) (by decide))
          have HSG1 := Aside0.mk (show kv = 1 → signU t (par t k) k = keyU x.f2 ++ [58] from fun e => by unfold signU; rw [if_pos (by rw [← HKV.out]; exact e), HX.out])
          have HSG2 := Aside0.mk (show kv ≠ 1 → signU t (par t k) k = [45] from fun e => by unfold signU; rw [if_neg (by rw [← HKV.out]; exact e)])
          have HLT := Aside0.mk hlt
          obtain ⟨o1, ho1⟩ : ∃ o1, o1 = out ++ Lib.repeatL [32, 32] (j - 1) := ⟨_, rfl⟩
          rw [← ho1] at HL HSZ
          have HO1 := Aside0.mk ho1
          clear ho1 hlt hj2
          go_upto_if 43 with fail
          clear q1 q2 q3 q4 hwx hdx hd34 hd34' hwd hjx hkc
          go_cut [5] from 14 to 95 (fun v W => LnR w x kb nb ks1 (o1 ++ signU t (par t k) k) v W ∧ o1.length + (signU t (par t k) k).length ≤ 70000 + 4294967300)
          case first =>
            by_cases hm : kv = 1
            · have hm' : (kv == 1) = true := beq_iff_eq.2 hm
              have HM := Aside0.mk hm
              have HKL := Aside0.mk (key_big HKZ.out)
              have hsz1 := big_of HSZ.out (Nat.le_trans HKL.out (by decide))
              have hsz2 := big_of HSZ.out (Nat.le_trans (Nat.add_le_add_right HKL.out 1) (by decide))
              have c2 := blk_cell HL.out.node 2
              clear hm
              go_wp2_with (first
                | (go_at_call 17; refine (refKey_at x.f2 HKZ.out _).mono ?_; rintro e w2 ⟨rfl, hb2⟩; have HL2 := Aside0.mk (HL.out.below hb2); clear hb2)
                | (at_builtin; go_loud (refine ln_str rfl (.tmp 44) (.tmp 47) rfl _ rfl rfl HL2.out hsz1 ?_); intro v3 w3 hl3; have HL3 := Aside0.mk hl3; clear hl3)
                | (at_builtin; go_loud (refine ln_lit rfl (.tmp 49) (.tmp 50) rfl _ [58] 1 rfl rfl rfl rfl HL3.out (by rw [List.length_append]; exact hsz2) ?_); intro v4 w4 hl4; have HL4 := Aside0.mk hl4; clear hl4))
              go_meet
              rw [HSG1.out HM.out, ← List.append_assoc]
              exact ⟨HL4.out, Nat.add_le_add HSZ.out (by rw [List.length_append]; exact Nat.le_trans (Nat.add_le_add_right HKL.out 1) (by decide))⟩
            · have hm' : (kv == 1) = false := beq_eq_false_iff_ne.2 hm
              have HM := Aside0.mk hm
              have hsz1 : o1.length + 1 ≤ 1099511627776 := big_of HSZ.out (by decide)
              clear hm
              go_wp2_with (at_builtin; go_loud (refine ln_lit rfl (.tmp 52) (.tmp 53) rfl _ [45] 1 rfl rfl rfl rfl HL.out hsz1 ?_); intro v4 w4 hl4; have HL4 := Aside0.mk hl4; clear hl4)
              go_meet
              rw [HSG2.out HM.out]
              exact ⟨HL4.out, Nat.add_le_add HSZ.out (show 1 ≤ 4294967300 by decide)⟩
          case rest =>
            have hl5 := hcut.1
            have HS5 := Aside0.mk hcut.2
            have HL5 := Aside0.mk hl5
            obtain ⟨o2, ho2⟩ : ∃ o2, o2 = o1 ++ signU t (par t k) k := ⟨_, rfl⟩
            rw [← ho2] at HL5
            have HO2 := Aside0.mk ho2
            have HC5 := Aside0.mk (Kd.C_below HR.out hl5.bel)
            have hk16 := wrap_k hkk hlen
            clear hcut hl5 ho2
            go_upto_region 19 with fail
            go_cut [9] from 14 to 95 (fun b W => b = .bool (decide (endOf t k = k + 1)) ∧ LnR w x kb nb ks1 o2 u5 W)
            case first =>
              by_cases hbr : endOf t k = k + 1
              · have hbr' : (((endOf t k : Nat) : Int) == (k : Int) + 1) = true := beq_iff_eq.2 (by rw [hbr]; rfl)
                have HBR := Aside0.mk hbr
                clear hbr
                go_wp2_with (go_at_call 18; refine (refEnd_at (some ad) c t k _ HC5.out hc HLT.out hlen rfl).mono ?_; rintro e w2 ⟨rfl, hb2⟩; have HL6 := Aside0.mk (HL5.out.below hb2); clear hb2)
                go_meet
                exact ⟨by rw [decide_eq_true HBR.out], HL6.out⟩
              · have hbr' : (((endOf t k : Nat) : Int) == (k : Int) + 1) = false := beq_eq_false_iff_ne.2 (ne_next hbr)
                have HBR := Aside0.mk hbr
                clear hbr
                go_wp2_with (go_at_call 18; refine (refEnd_at (some ad) c t k _ HC5.out hc HLT.out hlen rfl).mono ?_; rintro e w2 ⟨rfl, hb2⟩; have HL6 := Aside0.mk (HL5.out.below hb2); clear hb2)
                go_meet
                exact ⟨by rw [decide_eq_false HBR.out], HL6.out⟩
            case rest =>
              obtain ⟨hb9, hl7⟩ := hcut
              obtain ⟨eb, heb⟩ : ∃ eb, eb = decide (endOf t k = k + 1) := ⟨_, rfl⟩
              rw [← heb] at hb9
              subst hb9
              have HEB := Aside0.mk heb
              have HL7 := Aside0.mk hl7
              have c0 := blk_cell hl7.node 0
              clear heb hl7
              go_upto_block 4 with fail
              have HB2 := fun (c : Nat) (hc : c ≤ 8589934592) => big2 HS5.out (HO2.out ▸ List.length_append) hc
              go_cut [5] from 14 to 95 (fun v W => LnR w x kb nb ks1 (o2 ++ saysU t k) v W)
              case first =>
                by_cases h3 : x.f0 = 3
                · have h3' : (x.f0 == 3) = true := beq_iff_eq.2 h3
                  have HSY := Aside0.mk (says3 HX.out h3)
                  have c3 := blk_cell HL7.out.node 3
                  have HB3 := Aside0.mk (HB2 1 (by decide))
                  have HB4 := Aside0.mk (show (o2 ++ [32]).length + (mkB (valueU x.f3)).size ≤ 1099511627776 by rw [List.length_append, Nat.add_assoc]; exact HB2 _ (Nat.le_trans (Nat.add_le_add_left (value_big HVZ.out) _) (by decide)))
                  clear h3 HB2
                  go_wp2_with (first
                    | (go_at_call 19; refine (refValue_at x.f3 HVZ.out _).mono ?_; rintro e w2 ⟨rfl, hb2⟩; have HL9 := Aside0.mk (HL8.out.below hb2); clear hb2)
                    | (at_builtin; refine ln_str rfl (.tmp 68) (.tmp 71) rfl _ rfl rfl HL9.out HB4.out ?_; intro v3 w3 hl3; have HL10 := Aside0.mk hl3; clear hl3)
                    | (at_builtin; go_loud (refine ln_lit rfl (.tmp 65) (.tmp 66) rfl _ [32] 1 rfl rfl rfl rfl HL7.out HB3.out ?_); intro v4 w4 hl4; have HL8 := Aside0.mk hl4; have c3 := blk_cell hl4.node 3; clear hl4))
                  go_meet
                  rw [HSY.out, ← List.append_assoc]
                  exact HL10.out
                · have h3' : (x.f0 == 3) = false := beq_eq_false_iff_ne.2 h3
                  by_cases hbr : endOf t k = k + 1
                  · obtain rfl : eb = true := by rw [HEB.out, decide_eq_true hbr]
                    by_cases h2 : x.f0 = 2
                    · have h2' : (x.f0 == 2) = true := beq_iff_eq.2 h2
                      have HSY := Aside0.mk (says2 HX.out h3 hbr h2)
                      have HB3 := Aside0.mk (HB2 3 (by decide))
                      clear h2 h3 hbr HB2
                      go_wp2_with (at_builtin; go_loud (refine ln_str rfl (.tmp 80) (.const (.string ⟨#[32, 91, 93]⟩)) rfl _ rfl rfl HL7.out HB3.out ?_); intro v4 w4 hl4; have HL8 := Aside0.mk hl4; clear hl4)
                      go_meet
                      rw [HSY.out]
                      exact HL8.out
                    · have h2' : (x.f0 == 2) = false := beq_eq_false_iff_ne.2 h2
                      have HSY := Aside0.mk (says1 HX.out h3 hbr h2)
                      have HB3 := Aside0.mk (HB2 3 (by decide))
                      clear h2 h3 hbr HB2
                      go_wp2_with (at_builtin; go_loud (refine ln_str rfl (.tmp 84) (.const (.string ⟨#[32, 123, 125]⟩)) rfl _ rfl rfl HL7.out HB3.out ?_); intro v4 w4 hl4; have HL8 := Aside0.mk hl4; clear hl4)
                      go_meet
                      rw [HSY.out]
                      exact HL8.out
                  · obtain rfl : eb = false := by rw [HEB.out, decide_eq_false hbr]
                    have HSY := Aside0.mk (saysN HX.out h3 hbr)
                    clear h3 hbr HB2
                    by_cases h2 : x.f0 = 2
                    · have h2' : (x.f0 == 2) = true := beq_iff_eq.2 h2
                      clear h2
                      go_wp2
                      go_meet
                      rw [HSY.out, List.append_nil]
                      exact HL7.out
                    · have h2' : (x.f0 == 2) = false := beq_eq_false_iff_ne.2 h2
                      clear h2
                      go_wp2
                      go_meet
                      rw [HSY.out, List.append_nil]
                      exact HL7.out
              case rest =>
                have HL11 := Aside0.mk hcut
                have HB3 := Aside0.mk (show (o2 ++ saysU t k).length + 1 ≤ 1099511627776 by rw [List.length_append, Nat.add_assoc]; exact HB2 _ (Nat.le_trans (Nat.add_le_add_right (says_big HX.out HVZ.out) 1) (by decide)))
                have HLN := Aside0.mk (line_eq HX.out HD1.out HO1.out HO2.out)
                clear hcut HB2 c0
                go_upto_region 28 with (at_builtin; go_loud (refine ln_lit rfl (.tmp 86) (.tmp 87) rfl _ [10] 1 rfl rfl rfl rfl HL11.out HB3.out ?_); intro v4 w4 hl4; have HL12 := Aside0.mk hl4; clear hl4)
                have h12 := HL12.out
                rw [HLN.out] at h12
                obtain ⟨o3, ho3⟩ : ∃ o3, o3 = out ++ lineU t (par t k) k := ⟨_, rfl⟩
                rw [← ho3] at h12
                have HO3 := Aside0.mk ho3
                obtain ⟨A4, c4, e4⟩ := Kd.R_slice h12.own
                obtain ⟨N, hN⟩ : ∃ N, N = o3.length := ⟨_, rfl⟩
                rw [numsU_len, ← hN] at e4
                subst e4
                have H12 := Aside0.mk h12
                have HN := Aside0.mk hN
                clear h12 ho3 hN HL12 HL11 HL7 HL5
                by_cases hlong : 65536 < N
                · have hg := gt_nat hlong
                  have HRS := Aside0.mk (rs_over HLT.out (.inl (by rw [← HO3.out, ← HN.out]; exact hlong)) HREL.out.go)
                  clear hlong
                  go_wp2
                  go_ret2
                  exact ⟨ret_pair HRS.out, H12.out.bel⟩
                · have hg := not_gt_nat hlong
                  have HLO := Aside0.mk hlong
                  clear hlong
                  by_cases hk4 : 4096 < k
                  · have hg4 := gt_nat2 hk4
                    have HRS := Aside0.mk (rs_over HLT.out (.inr hk4) HREL.out.go)
                    clear hk4
                    go_wp2
                    go_ret2
                    exact ⟨ret_pair HRS.out, H12.out.bel⟩
                  · have hg4 := not_gt_nat2 hk4
                    have HGO := Aside0.mk (rs_on HLT.out (fun q => q.elim (fun q => HLO.out (by rw [HN.out, HO3.out]; exact q)) hk4) HREL.out.go)
                    have HKI := Aside0.mk (rs_kinds HV.out hk1 HLT.out (HX.out ▸ HD1.out) HD34.out HREL.out.kinds)
                    clear hk4
                    go_wp2
                    go_roundw
                    case rel => exact ⟨k + 1, ks1, o3, rfl, ⟨Nat.le_add_left _ _, HLT.out, HKL1.out, by rw [HKS1.out, HX.out]; exact HKI.out, by rw [← HN.out]; exact Nat.le_of_not_lt HLO.out, by rw [HO3.out]; exact HGO.out, H12.out.row, H12.out.own, H12.out.bel⟩⟩
                    case measure => exact meas_up HLT.out
    · obtain rfl : k = t.length := Nat.le_antisymm hk2 (Nat.le_of_not_lt hlt)
      have HRS := Aside0.mk (rs_end rfl HREL.out.go)
      have hcv := own_string (P := Try.prog) (src := 34) (dst := 9) Try.underlying34 Try.underlying5 Try.underlying9 (Kd.own_of_R HREL.out.own)
      rw [str_numsU] at hcv
      clear hrel hCw hlt
      go_wp2
      go_ret2
      exact ⟨ret_pair HRS.out, HREL.out.bel⟩
theorem refShow_any (A : Option Addr) (c : Nat) (t : List SN) (w : World) (hr : Kd.C k31 w A t.length t) (hc : t.length ≤ c) (hT : TinyT t) :
    Calls Try.prog 7 #[.slice A t.length c] w fun e w' => e = .returned (.tuple #[.string (showP t).1, .int .i64 (showP t).2]) ∧ Below w.heap.size w w' := by
  rw [← refShow_eq]
  rcases Bool.eq_false_or_eq_true (refP t) with h | h
  · exact refShow_yes A c t w hr hc hT h
  · exact refShow_no A c t w hr hc hT.len h
end Go.Proofs.Ytofajjodonhdkaa.Q
