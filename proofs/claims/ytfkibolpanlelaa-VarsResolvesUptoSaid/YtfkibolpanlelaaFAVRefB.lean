/- The solver's second closure: the walk. -/
import Derived.Test.YtfkibolpanlelaaFAVRefA
namespace Go.Proofs.Ytfkibolpanlelaa.Q
open Go Go.RowKit Go.Shelf Go.Proofs.YtfkibolpanlelaaW.PrintWords Go.Proofs.YtfkibolpanlelaaW.PrintLast Go.Proofs.YtfkibolpanlelaaW.PrintMore Go.Proofs.Ytfkibolpanlelaa.SMap
attribute [local go_sem] max2_int min2_int max_two min_two max_three min_three max_four min_four
set_option linter.unusedVariables false
set_option linter.unusedSimpArgs false
def UPost (n : Nat) (w0 : World) (SB rb db : Nat) (raw : List SV) (dn0 : DN) (r : Except Er WS) (e : Ending) (w' : World) : Prop := Out (WInv n w0 SB rb db raw dn0) (Ch n (fun k => k = db) w0) r e w'
set_option maxHeartbeats 2000000 in
set_option maxRecDepth 100000 in
theorem refsW_any {n : Nat} {w0 : World} {SB rb db : Nat} {raw : List SV} {dn0 : DN} {st : WS} {f : Nat} (hrec : RecC SB rb db raw f) (nm : ByteArray) (i : Nat) (w : World) (h1 : SB < n) (h2 : rb < n) (h3 : db < n) (hf : todo raw dn0 ≤ f) (hgm : GM w) (hi : WInv n w0 SB rb db raw dn0 st w) :
    Calls Try.prog 56 #[.string nm, .int .i64 i, .pointer (some ⟨n, 0, none⟩), .pointer (some ⟨n + 1 + 1, 0, none⟩), .pointer (some ⟨n + 1 + 1 + 1, 0, none⟩)] w (UPost n w0 SB rb db raw dn0 (wkG (workP raw f) raw st nm i)) := by
  obtain ⟨r, hr⟩ : ∃ r, r = wkG (workP raw f) raw st nm i := ⟨_, rfl⟩
  rw [← hr]
  have HR := Aside0.mk hr
  have HI := Aside0.mk hi
  have HREC := Aside0.mk hrec
  have HGM := Aside0.mk hgm
  have HF := Aside0.mk hf
  have s0 : w.cell? ⟨n, 0, none⟩ = some (.pointer (some ⟨SB, 0, none⟩)) := blk_cell hi.sv 0
  have sb0 : w.cell? ⟨SB, 0, none⟩ = some (.map (some rb)) := blk_cell hi.solv.sb 0
  have sb1 : w.cell? ⟨SB, 1, none⟩ = some (.map (some db)) := blk_cell hi.solv.sb 1
  clear hr hi hrec hgm hf
  cases hv : findV raw nm with
  | none =>
    have HG0 := Aside0.mk (show (getS (kvV raw) nm).getD (.agg #[.string ⟨#[]⟩, .string ⟨#[]⟩]) = .agg #[.string ⟨#[]⟩, .string ⟨#[]⟩] by rw [get_kvV, hv]; rfl)
    have HG1 := Aside0.mk (show (getS (kvV raw) nm).isSome = false by rw [get_kvV, hv]; rfl)
    obtain rfl : r = .error (102, (i : Int)) := by rw [HR.out, wkG, hv]
    clear hv
    go_enter Try.func56, Try.ntmps56
    go_wp2_with (at_lookup; go_loud (refine wpList_lookupOk_sm _ rfl (.tmp 15) (.tmp 16) 60 rfl 9 41 Try.underlying60 Try.underlying9 (.agg #[.string ⟨#[]⟩, .string ⟨#[]⟩]) (zero41 _) rb (kvV raw) rfl HI.out.solv.rm nm rfl _ HG0.out _ HG1.out ?_))
    exact ⟨rfl, rfl, HI.out.ch.trans (Ch.below (below_alloc (Below.refl _ _) _) (by have := HI.out.size; omega))⟩
  | some rv =>
    have HG0 := Aside0.mk (show (getS (kvV raw) nm).getD (.agg #[.string ⟨#[]⟩, .string ⟨#[]⟩]) = .agg #[.string rv.f0, .string rv.f1] by rw [get_kvV, hv]; rfl)
    have HG1 := Aside0.mk (show (getS (kvV raw) nm).isSome = true by rw [get_kvV, hv]; rfl)
    have HV := Aside0.mk (show (findV raw nm).isSome = true by rw [hv]; rfl)
    have HRV := Aside0.mk (show r = (match getDn st.2.2 nm with | some x => useD st x st.2.2 i | none => match workP raw f st.2.2 nm with | .error x => .error x | .ok (x, dn) => useD st x dn i) by rw [HR.out, wkG, hv]; rfl)
    clear hv HR
    cases hd : getDn st.2.2 nm with
    | some x =>
      have HG2 := Aside0.mk (show (getS (kvD st.2.2) nm).getD (.agg #[.string ⟨#[]⟩, .int .i64 0, .bool false]) = .agg #[.string x.text, .int .i64 x.depth, .bool x.under] by rw [get_kvD, hd]; rfl)
      have HG3 := Aside0.mk (show (getS (kvD st.2.2) nm).isSome = true by rw [get_kvD, hd]; rfl)
      have HRX := Aside0.mk (show r = useD st x st.2.2 i by rw [HRV.out, hd])
      have HX := Aside0.mk (HI.out.okd nm x hd)
      obtain ⟨dn, hdn⟩ : ∃ dn, dn = st.2.2 := ⟨_, rfl⟩
      have HMI := Aside0.mk (show WInv n w0 SB rb db raw dn0 (st.1, st.2.1, dn) w by rw [hdn]; exact HI.out)
      rw [← hdn] at HRX
      have HDN := Aside0.mk hdn
      clear hd HRV hdn
      go_enter Try.func56, Try.ntmps56
      go_upto_region 3 with (at_lookup; refine wpList_lookupOk_sm _ rfl (.tmp 15) (.tmp 16) 60 rfl 9 41 Try.underlying60 Try.underlying9 (.agg #[.string ⟨#[]⟩, .string ⟨#[]⟩]) (zero41 _) rb (kvV raw) rfl HI.out.solv.rm nm rfl _ HG0.out _ HG1.out ?_)
      have HBA := Aside0.mk (below_alloc (Below.refl w.heap.size w) (.cells #[.string rv.f0, .string rv.f1] 41))
      generalize w.alloc (.cells #[.string rv.f0, .string rv.f1] 41) = wA at HBA ⊢
      have HIA := Aside0.mk (HI.out.below HBA.out h1 h2 h3)
      clear s0 sb0 sb1
      have s0 : wA.cell? ⟨n, 0, none⟩ = some (.pointer (some ⟨SB, 0, none⟩)) := blk_cell HIA.out.sv 0
      have sb1 : wA.cell? ⟨SB, 1, none⟩ = some (.map (some db)) := blk_cell HIA.out.solv.sb 1
      go_upto_region 6 with (at_lookup; refine wpList_lookupOk_sm _ rfl (.tmp 29) (.tmp 30) 61 rfl 9 85 Try.underlying61 Try.underlying9 (.agg #[.string ⟨#[]⟩, .int .i64 0, .bool false]) (zero85 _) db (kvD st.2.2) rfl HIA.out.solv.dm nm rfl _ HG2.out _ HG3.out ?_)
      have HBB := Aside0.mk (below_alloc (Below.refl wA.heap.size wA) (.cells #[.string x.text, .int .i64 x.depth, .bool x.under] 85))
      have HGX := Aside0.mk (blk_new wA (.cells #[.string x.text, .int .i64 x.depth, .bool x.under] 85))
      obtain ⟨g, hg⟩ : ∃ g, g = wA.heap.size := ⟨_, rfl⟩
      have hgn : n + 1 + 1 + 1 + 1 ≤ g := by have := HIA.out.size; omega
      rw [← hg] at HGX ⊢
      generalize wA.alloc (.cells #[.string x.text, .int .i64 x.depth, .bool x.under] 85) = W at HBB HGX ⊢
      have HM := Aside0.mk (show WInv n w0 SB rb db raw dn0 (st.1, st.2.1, dn) W by rw [HDN.out]; exact HIA.out.below HBB.out h1 h2 h3)
      clear s0 sb1 hg
      have x0 : W.cell? ⟨g, 0, none⟩ = some (.string x.text) := blk_cell HGX.out 0
      have x1 : W.cell? ⟨g, 1, none⟩ = some (.int .i64 x.depth) := blk_cell HGX.out 1
      have x2 : W.cell? ⟨g, 2, none⟩ = some (.bool x.under) := blk_cell HGX.out 2
      have d1 : W.cell? ⟨n + 1 + 1, 1, none⟩ = some (.int .i64 st.2.1) := blk_cell HM.out.vb 1
      have df1 := blk_frozen HM.out.vb 1
      have hxd0 := HX.out.2.1
      have hxd1 := HX.out.2.2
      have hxt := HX.out.1
      have hdp0 := HM.out.dp.1
      have hdp1 := HM.out.dp.2
      obtain ⟨dp, hdp⟩ : ∃ dp, dp = st.2.1 := ⟨_, rfl⟩
      obtain ⟨bs, hbs⟩ : ∃ bs, bs = st.1 := ⟨_, rfl⟩
      have HDP := Aside0.mk (show st = (bs, dp, st.2.2) by rw [hbs, hdp])
      replace HM := Aside0.mk (show WInv n w0 SB rb db raw dn0 (bs, dp, dn) W by rw [hbs, hdp]; exact HM.out)
      rw [← hdp] at d1
      replace hdp0 : 0 ≤ dp := by rw [hdp]; exact hdp0
      replace hdp1 : dp ≤ 16 := by rw [hdp]; exact hdp1
      have HUD := Aside0.mk (show r = (if x.under = true ∨ x.depth = 16 then .error (103, (i : Int)) else if 4096 < (bs ++ bytesOf x.text).length then .error (104, (i : Int)) else .ok (bs ++ bytesOf x.text, max dp (x.depth + 1), dn)) by rw [HRX.out, useD, ← hbs, ← hdp])
      clear hdp hbs
      by_cases hu : x.under = true ∨ x.depth = 16
      · obtain rfl : r = .error (103, (i : Int)) := by rw [HUD.out, if_pos hu]
        rcases hun : x.under with _ | _
        · have hd16 : x.depth = 16 := by rcases hu with h | h; rw [hun] at h; cases h; exact h
          rw [hun] at x2
          rw [hd16] at x1
          clear hu hun
          go_wp2
          exact ⟨rfl, rfl, HM.out.ch⟩
        · rw [hun] at x2
          clear hu hun
          go_wp2
          exact ⟨rfl, rfl, HM.out.ch⟩
      · have hun : x.under = false := by cases h : x.under; rfl; exact absurd (.inl h) hu
        have hd16 : ¬ x.depth = 16 := fun h => hu (.inr h)
        have HRR := Aside0.mk (show r = (if 4096 < (bs ++ bytesOf x.text).length then .error (104, (i : Int)) else .ok (bs ++ bytesOf x.text, max dp (x.depth + 1), dn)) by rw [HUD.out, if_neg hu])
        rw [hun] at x2
        clear hu HUD
        go_upto_region 9 with (fail)
        have hmx : (if dp < x.depth + 1 then x.depth + 1 else dp) = max dp (x.depth + 1) := by
          rw [Int.max_def]
          split <;> split <;> omega
        rw [hmx]
        obtain ⟨d2, hd2⟩ : ∃ d2, d2 = max dp (x.depth + 1) := ⟨_, rfl⟩
        rw [← hd2] at HRR ⊢
        have hd2r : 0 ≤ d2 ∧ d2 ≤ 16 := by
          rw [hd2, Int.max_def]
          split <;> omega
        have HM2 := Aside0.mk (HM.out.deep d2 hd2r h1 h2 h3)
        have HGX2 := Aside0.mk (blk_far HGX.out (p := ⟨n + 1 + 1, 1, none⟩) (show g ≠ n + 1 + 1 by omega) (.int .i64 d2))
        clear hd2 hmx x0 x1 x2 d1 df1 hdp0 hdp1 hd2r
        generalize W.setCell ⟨n + 1 + 1, 1, none⟩ (.int .i64 d2) = W2 at HM2 HGX2 ⊢
        have x0 : W2.cell? ⟨g, 0, none⟩ = some (.string x.text) := blk_cell HGX2.out 0
        obtain ⟨u, hbx, hrr⟩ := HM2.out.bx
        obtain ⟨A1, c1, e1⟩ := Kd.R_slice hrr
        subst e1
        have HBX := Aside0.mk hbx
        have HRO := Aside0.mk hrr
        have b0 : W2.cell? ⟨n + 1 + 1 + 1, 0, none⟩ = some (.slice A1 bs.length c1) := blk_cell hbx 0
        have bf := blk_frozen hbx 0
        have hbl : bs.length ≤ 4096 := HM2.out.len
        have hs2 : n + 1 + 1 + 1 + 1 ≤ W2.heap.size := HM2.out.size
        clear hbx hrr
        have hl1 : (bs ++ bytesOf x.text).length = bs.length + x.text.size := by rw [List.length_append, bytesOf_length]
        by_cases hlong : 4096 < bs.length + x.text.size
        · obtain rfl : r = .error (104, (i : Int)) := by rw [HRR.out, if_pos (by rw [hl1]; exact hlong)]
          go_wp2_with (first
            | (at_builtin; go_loud (refine print_append_str (w0 := W2) (n + 1 + 1 + 1 + 1) rfl (.tmp 56) _ 46 9 5 rfl Try.underlying46 Try.underlying9 info5 (.slice A1 bs.length c1) bs x.text rfl rfl (Kd.own_of_R HRO.out) ((Below.refl _ _).mono hs2) hs2 (by omega) ?_); intro v2 w2 ho2 hb2 hg2; have ho2' := Kd.R_of_own (h1 := fun _ => rfl) (ok := fun _ => True) ho2 (fun _ _ => trivial); change Kd.R (Kd.int .u8) 5 w2 (n + 1 + 1 + 1 + 1) (fun _ => True) v2 (bs ++ bytesOf x.text) at ho2'; obtain ⟨A2, c2, e2⟩ := Kd.R_slice ho2'; rw [hl1] at e2; subst e2; have hbb : w2.heap[n + 1 + 1 + 1]? = some (.cells #[.slice A1 bs.length c1] 46 (0, 0)) := (hg2.block (n + 1 + 1 + 1) (blk_lt HBX.out) (fun e => by have := Kd.R_base HRO.out (n + 1 + 1 + 1) e.symm; omega)).trans HBX.out; have b1 : w2.cell? ⟨n + 1 + 1 + 1, 0, none⟩ = some _ := blk_cell hbb 0; have bf1 := blk_frozen hbb 0; have HBB2 := Aside0.mk hbb; have HO2 := Aside0.mk ho2'; have HG2 := Aside0.mk hg2; clear hbb ho2 ho2' hb2 hg2 b0 bf)
            | (go_at_call 38; refine (long_any _ _ _ _ _).mono ?_; rintro e w' ⟨rfl, he⟩; rw [if_pos hlong] at he; subst he))
          exact ⟨rfl, rfl, (HM2.out.ch.trans ((Ch.grown (base := n + 1 + 1 + 1 + 1) (S := fun _ => False) HG2.out hs2 (fun k e => .inl (Kd.R_base HRO.out k e))).mono (by omega) (fun _ _ h => h.elim))).trans (Ch.set w2 ⟨n + 1 + 1 + 1, 0, none⟩ _ (.inl (by show n ≤ n + 1 + 1 + 1; omega)))⟩
        · obtain rfl : r = .ok (bs ++ bytesOf x.text, d2, dn) := by rw [HRR.out, if_neg (by rw [hl1]; exact hlong)]
          go_wp2_with (first
            | (at_builtin; go_loud (refine print_append_str (w0 := W2) (n + 1 + 1 + 1 + 1) rfl (.tmp 56) _ 46 9 5 rfl Try.underlying46 Try.underlying9 info5 (.slice A1 bs.length c1) bs x.text rfl rfl (Kd.own_of_R HRO.out) ((Below.refl _ _).mono hs2) hs2 (by omega) ?_); intro v2 w2 ho2 hb2 hg2; have ho2' := Kd.R_of_own (h1 := fun _ => rfl) (ok := fun _ => True) ho2 (fun _ _ => trivial); change Kd.R (Kd.int .u8) 5 w2 (n + 1 + 1 + 1 + 1) (fun _ => True) v2 (bs ++ bytesOf x.text) at ho2'; obtain ⟨A2, c2, e2⟩ := Kd.R_slice ho2'; rw [hl1] at e2; subst e2; have hbb : w2.heap[n + 1 + 1 + 1]? = some (.cells #[.slice A1 bs.length c1] 46 (0, 0)) := (hg2.block (n + 1 + 1 + 1) (blk_lt HBX.out) (fun e => by have := Kd.R_base HRO.out (n + 1 + 1 + 1) e.symm; omega)).trans HBX.out; have b1 : w2.cell? ⟨n + 1 + 1 + 1, 0, none⟩ = some _ := blk_cell hbb 0; have bf1 := blk_frozen hbb 0; have HBB2 := Aside0.mk hbb; have HO2 := Aside0.mk ho2'; have HG2 := Aside0.mk hg2; clear hbb ho2 ho2' hb2 hg2 b0 bf)
            | (go_at_call 38; refine (long_any _ _ _ _ _).mono ?_; rintro e w' ⟨rfl, he⟩; rw [if_neg hlong] at he; subst he))
          first | go_end0 | refine bodyPost_ret (results_none rfl _ _ _) rfl ?_
          exact ⟨rfl, HM2.out.gath ((Ch.grown HG2.out hs2 (fun k e => .inl (Kd.R_base HRO.out k e))).trans (Ch.set w2 ⟨n + 1 + 1 + 1, 0, none⟩ _ (.inr rfl))) ⟨_, put1 HBB2.out _, Kd.R_mono (Kd.R_far (p := ⟨n + 1 + 1 + 1, 0, none⟩) (Kd.R_bound HO2.out) (fun k hk => by have := hk.2.1; show k ≠ n + 1 + 1 + 1; omega) _) (fun _ _ => trivial)⟩ (by rw [hl1]; omega) h1 h2 h3⟩
    | none =>
      have HG2 := Aside0.mk (show (getS (kvD st.2.2) nm).getD (.agg #[.string ⟨#[]⟩, .int .i64 0, .bool false]) = .agg #[.string ⟨#[]⟩, .int .i64 0, .bool false] by rw [get_kvD, hd]; rfl)
      have HG3 := Aside0.mk (show (getS (kvD st.2.2) nm).isSome = false by rw [get_kvD, hd]; rfl)
      have HRX0 := Aside0.mk (show r = (match workP raw f st.2.2 nm with | .error x => .error x | .ok (x, dn) => useD st x dn i) by rw [HRV.out, hd])
      have HTD := Aside0.mk (Nat.le_trans (todo_ext HI.out.ext) HF.out)
      have HD := Aside0.mk hd
      clear hd HRV
      go_enter Try.func56, Try.ntmps56
      go_upto_region 3 with (at_lookup; refine wpList_lookupOk_sm _ rfl (.tmp 15) (.tmp 16) 60 rfl 9 41 Try.underlying60 Try.underlying9 (.agg #[.string ⟨#[]⟩, .string ⟨#[]⟩]) (zero41 _) rb (kvV raw) rfl HI.out.solv.rm nm rfl _ HG0.out _ HG1.out ?_)
      have HBA := Aside0.mk (below_alloc (Below.refl w.heap.size w) (.cells #[.string rv.f0, .string rv.f1] 41))
      generalize w.alloc (.cells #[.string rv.f0, .string rv.f1] 41) = wA at HBA ⊢
      have HIA := Aside0.mk (HI.out.below HBA.out h1 h2 h3)
      clear s0 sb0 sb1
      have s0 : wA.cell? ⟨n, 0, none⟩ = some (.pointer (some ⟨SB, 0, none⟩)) := blk_cell HIA.out.sv 0
      have sb1 : wA.cell? ⟨SB, 1, none⟩ = some (.map (some db)) := blk_cell HIA.out.solv.sb 1
      go_upto_region 5 with (at_lookup; refine wpList_lookupOk_sm _ rfl (.tmp 29) (.tmp 30) 61 rfl 9 85 Try.underlying61 Try.underlying9 (.agg #[.string ⟨#[]⟩, .int .i64 0, .bool false]) (zero85 _) db (kvD st.2.2) rfl HIA.out.solv.dm nm rfl _ HG2.out _ HG3.out ?_)
      have HBB := Aside0.mk (below_alloc (Below.refl wA.heap.size wA) (.cells #[.string ⟨#[]⟩, .int .i64 0, .bool false] 85))
      have HGX0 := Aside0.mk (blk_new wA (.cells #[.string ⟨#[]⟩, .int .i64 0, .bool false] 85))
      obtain ⟨g, hg⟩ : ∃ g, g = wA.heap.size := ⟨_, rfl⟩
      have hgn : n + 1 + 1 + 1 + 1 ≤ g := by have := HIA.out.size; omega
      rw [← hg] at HGX0 ⊢
      generalize wA.alloc (.cells #[.string ⟨#[]⟩, .int .i64 0, .bool false] 85) = wB at HBB HGX0 ⊢
      have HIB := Aside0.mk (HIA.out.below HBB.out h1 h2 h3)
      have HGMB := Aside0.mk ((HGM.out.below HBA.out).below HBB.out)
      have HCALL := Aside0.mk (HREC.out st.2.2 nm wB HGMB.out HIB.out.okd HTD.out HV.out HD.out HIB.out.solv)
      clear s0 sb1 hg
      have s0 : wB.cell? ⟨n, 0, none⟩ = some (.pointer (some ⟨SB, 0, none⟩)) := blk_cell HIB.out.sv 0
      obtain ⟨R, hR⟩ : ∃ R, R = workP raw f st.2.2 nm := ⟨_, rfl⟩
      rw [← hR] at HCALL HRX0
      clear hR
      rcases R with y | ⟨x, dn⟩
      · obtain rfl : r = .error y := HRX0.out
        go_wp2_with (go_at_call 48; refine HCALL.out.mono ?_; rintro e w1 ⟨hch, rfl⟩; have HCH := Aside0.mk hch; clear hch)
        exact ⟨rfl, rfl, HIB.out.ch.trans (HCH.out.mono (by have := HIB.out.size; omega) (fun _ _ e => e))⟩
      · have HRX := Aside0.mk (show r = useD st x dn i from HRX0.out)
        go_upto_region 6 with (go_at_call 48; refine HCALL.out.mono ?_; rintro e w1 ⟨hch, he, hs, hext, hok, hokv⟩; rw [show encD x = .agg #[.string x.text, .int .i64 x.depth, .bool x.under] from rfl] at he; subst he; have HM1 := Aside0.mk (HIB.out.again hch hs h3 hok hext); have HG1x := Aside0.mk (show w1.heap[g]? = some (.cells #[.string ⟨#[]⟩, .int .i64 0, .bool false] 85 (0, 0)) from (hch.block g (blk_lt HGX0.out) (by omega)).trans HGX0.out); have q0 : w1.cell? ⟨g, 0, none⟩ = some (.string ⟨#[]⟩) := blk_cell HG1x.out 0; have q1 : w1.cell? ⟨g, 1, none⟩ = some (.int .i64 0) := blk_cell HG1x.out 1; have q2 : w1.cell? ⟨g, 2, none⟩ = some (.bool false) := blk_cell HG1x.out 2; have qf0 := blk_frozen HG1x.out 0; have qf1 := blk_frozen HG1x.out 1; have qf2 := blk_frozen HG1x.out 2; have HX := Aside0.mk hokv; clear hch hs hext hok hokv s0)
        have HE1 := Aside0.mk (HM1.out.put HG1x.out hgn 0 (.string x.text) h1 h2 h3)
        have HS1 := Aside0.mk (blk_set HG1x.out 0 (.string x.text))
        have HE2 := Aside0.mk (HE1.out.put HS1.out hgn 1 (.int .i64 x.depth) h1 h2 h3)
        have HS2 := Aside0.mk (blk_set HS1.out 1 (.int .i64 x.depth))
        have HM := Aside0.mk (HE2.out.put HS2.out hgn 2 (.bool x.under) h1 h2 h3)
        have HGX := Aside0.mk (show (((w1.setCell ⟨g, 0, none⟩ (.string x.text)).setCell ⟨g, 1, none⟩ (.int .i64 x.depth)).setCell ⟨g, 2, none⟩ (.bool x.under)).heap[g]? = some (.cells #[.string x.text, .int .i64 x.depth, .bool x.under] 85 (0, 0)) from blk_set HS2.out 2 (.bool x.under))
        clear q0 q1 q2 qf0 qf1 qf2 HE1 HS1 HE2 HS2
        generalize ((w1.setCell ⟨g, 0, none⟩ (.string x.text)).setCell ⟨g, 1, none⟩ (.int .i64 x.depth)).setCell ⟨g, 2, none⟩ (.bool x.under) = W at HM HGX ⊢
        have x0 : W.cell? ⟨g, 0, none⟩ = some (.string x.text) := blk_cell HGX.out 0
        have x1 : W.cell? ⟨g, 1, none⟩ = some (.int .i64 x.depth) := blk_cell HGX.out 1
        have x2 : W.cell? ⟨g, 2, none⟩ = some (.bool x.under) := blk_cell HGX.out 2
        have d1 : W.cell? ⟨n + 1 + 1, 1, none⟩ = some (.int .i64 st.2.1) := blk_cell HM.out.vb 1
        have df1 := blk_frozen HM.out.vb 1
        have hxd0 := HX.out.2.1
        have hxd1 := HX.out.2.2
        have hxt := HX.out.1
        have hdp0 := HM.out.dp.1
        have hdp1 := HM.out.dp.2
        obtain ⟨dp, hdp⟩ : ∃ dp, dp = st.2.1 := ⟨_, rfl⟩
        obtain ⟨bs, hbs⟩ : ∃ bs, bs = st.1 := ⟨_, rfl⟩
        have HDP := Aside0.mk (show st = (bs, dp, st.2.2) by rw [hbs, hdp])
        replace HM := Aside0.mk (show WInv n w0 SB rb db raw dn0 (bs, dp, dn) W by rw [hbs, hdp]; exact HM.out)
        rw [← hdp] at d1
        replace hdp0 : 0 ≤ dp := by rw [hdp]; exact hdp0
        replace hdp1 : dp ≤ 16 := by rw [hdp]; exact hdp1
        have HUD := Aside0.mk (show r = (if x.under = true ∨ x.depth = 16 then .error (103, (i : Int)) else if 4096 < (bs ++ bytesOf x.text).length then .error (104, (i : Int)) else .ok (bs ++ bytesOf x.text, max dp (x.depth + 1), dn)) by rw [HRX.out, useD, ← hbs, ← hdp])
        clear hdp hbs
        by_cases hu : x.under = true ∨ x.depth = 16
        · obtain rfl : r = .error (103, (i : Int)) := by rw [HUD.out, if_pos hu]
          rcases hun : x.under with _ | _
          · have hd16 : x.depth = 16 := by rcases hu with h | h; rw [hun] at h; cases h; exact h
            rw [hun] at x2
            rw [hd16] at x1
            clear hu hun
            go_wp2
            exact ⟨rfl, rfl, HM.out.ch⟩
          · rw [hun] at x2
            clear hu hun
            go_wp2
            exact ⟨rfl, rfl, HM.out.ch⟩
        · have hun : x.under = false := by cases h : x.under; rfl; exact absurd (.inl h) hu
          have hd16 : ¬ x.depth = 16 := fun h => hu (.inr h)
          have HRR := Aside0.mk (show r = (if 4096 < (bs ++ bytesOf x.text).length then .error (104, (i : Int)) else .ok (bs ++ bytesOf x.text, max dp (x.depth + 1), dn)) by rw [HUD.out, if_neg hu])
          rw [hun] at x2
          clear hu HUD
          go_upto_region 9 with (fail)
          have hmx : (if dp < x.depth + 1 then x.depth + 1 else dp) = max dp (x.depth + 1) := by
            rw [Int.max_def]
            split <;> split <;> omega
          rw [hmx]
          obtain ⟨d2, hd2⟩ : ∃ d2, d2 = max dp (x.depth + 1) := ⟨_, rfl⟩
          rw [← hd2] at HRR ⊢
          have hd2r : 0 ≤ d2 ∧ d2 ≤ 16 := by
            rw [hd2, Int.max_def]
            split <;> omega
          have HM2 := Aside0.mk (HM.out.deep d2 hd2r h1 h2 h3)
          have HGX2 := Aside0.mk (blk_far HGX.out (p := ⟨n + 1 + 1, 1, none⟩) (show g ≠ n + 1 + 1 by omega) (.int .i64 d2))
          clear hd2 hmx x0 x1 x2 d1 df1 hdp0 hdp1 hd2r
          generalize W.setCell ⟨n + 1 + 1, 1, none⟩ (.int .i64 d2) = W2 at HM2 HGX2 ⊢
          have x0 : W2.cell? ⟨g, 0, none⟩ = some (.string x.text) := blk_cell HGX2.out 0
          obtain ⟨u, hbx, hrr⟩ := HM2.out.bx
          obtain ⟨A1, c1, e1⟩ := Kd.R_slice hrr
          subst e1
          have HBX := Aside0.mk hbx
          have HRO := Aside0.mk hrr
          have b0 : W2.cell? ⟨n + 1 + 1 + 1, 0, none⟩ = some (.slice A1 bs.length c1) := blk_cell hbx 0
          have bf := blk_frozen hbx 0
          have hbl : bs.length ≤ 4096 := HM2.out.len
          have hs2 : n + 1 + 1 + 1 + 1 ≤ W2.heap.size := HM2.out.size
          clear hbx hrr
          have hl1 : (bs ++ bytesOf x.text).length = bs.length + x.text.size := by rw [List.length_append, bytesOf_length]
          by_cases hlong : 4096 < bs.length + x.text.size
          · obtain rfl : r = .error (104, (i : Int)) := by rw [HRR.out, if_pos (by rw [hl1]; exact hlong)]
            go_wp2_with (first
              | (at_builtin; go_loud (refine print_append_str (w0 := W2) (n + 1 + 1 + 1 + 1) rfl (.tmp 56) _ 46 9 5 rfl Try.underlying46 Try.underlying9 info5 (.slice A1 bs.length c1) bs x.text rfl rfl (Kd.own_of_R HRO.out) ((Below.refl _ _).mono hs2) hs2 (by omega) ?_); intro v2 w2 ho2 hb2 hg2; have ho2' := Kd.R_of_own (h1 := fun _ => rfl) (ok := fun _ => True) ho2 (fun _ _ => trivial); change Kd.R (Kd.int .u8) 5 w2 (n + 1 + 1 + 1 + 1) (fun _ => True) v2 (bs ++ bytesOf x.text) at ho2'; obtain ⟨A2, c2, e2⟩ := Kd.R_slice ho2'; rw [hl1] at e2; subst e2; have hbb : w2.heap[n + 1 + 1 + 1]? = some (.cells #[.slice A1 bs.length c1] 46 (0, 0)) := (hg2.block (n + 1 + 1 + 1) (blk_lt HBX.out) (fun e => by have := Kd.R_base HRO.out (n + 1 + 1 + 1) e.symm; omega)).trans HBX.out; have b1 : w2.cell? ⟨n + 1 + 1 + 1, 0, none⟩ = some _ := blk_cell hbb 0; have bf1 := blk_frozen hbb 0; have HBB2 := Aside0.mk hbb; have HO2 := Aside0.mk ho2'; have HG2 := Aside0.mk hg2; clear hbb ho2 ho2' hb2 hg2 b0 bf)
              | (go_at_call 38; refine (long_any _ _ _ _ _).mono ?_; rintro e w' ⟨rfl, he⟩; rw [if_pos hlong] at he; subst he))
            exact ⟨rfl, rfl, (HM2.out.ch.trans ((Ch.grown (base := n + 1 + 1 + 1 + 1) (S := fun _ => False) HG2.out hs2 (fun k e => .inl (Kd.R_base HRO.out k e))).mono (by omega) (fun _ _ h => h.elim))).trans (Ch.set w2 ⟨n + 1 + 1 + 1, 0, none⟩ _ (.inl (by show n ≤ n + 1 + 1 + 1; omega)))⟩
          · obtain rfl : r = .ok (bs ++ bytesOf x.text, d2, dn) := by rw [HRR.out, if_neg (by rw [hl1]; exact hlong)]
            go_wp2_with (first
              | (at_builtin; go_loud (refine print_append_str (w0 := W2) (n + 1 + 1 + 1 + 1) rfl (.tmp 56) _ 46 9 5 rfl Try.underlying46 Try.underlying9 info5 (.slice A1 bs.length c1) bs x.text rfl rfl (Kd.own_of_R HRO.out) ((Below.refl _ _).mono hs2) hs2 (by omega) ?_); intro v2 w2 ho2 hb2 hg2; have ho2' := Kd.R_of_own (h1 := fun _ => rfl) (ok := fun _ => True) ho2 (fun _ _ => trivial); change Kd.R (Kd.int .u8) 5 w2 (n + 1 + 1 + 1 + 1) (fun _ => True) v2 (bs ++ bytesOf x.text) at ho2'; obtain ⟨A2, c2, e2⟩ := Kd.R_slice ho2'; rw [hl1] at e2; subst e2; have hbb : w2.heap[n + 1 + 1 + 1]? = some (.cells #[.slice A1 bs.length c1] 46 (0, 0)) := (hg2.block (n + 1 + 1 + 1) (blk_lt HBX.out) (fun e => by have := Kd.R_base HRO.out (n + 1 + 1 + 1) e.symm; omega)).trans HBX.out; have b1 : w2.cell? ⟨n + 1 + 1 + 1, 0, none⟩ = some _ := blk_cell hbb 0; have bf1 := blk_frozen hbb 0; have HBB2 := Aside0.mk hbb; have HO2 := Aside0.mk ho2'; have HG2 := Aside0.mk hg2; clear hbb ho2 ho2' hb2 hg2 b0 bf)
              | (go_at_call 38; refine (long_any _ _ _ _ _).mono ?_; rintro e w' ⟨rfl, he⟩; rw [if_neg hlong] at he; subst he))
            first | go_end0 | refine bodyPost_ret (results_none rfl _ _ _) rfl ?_
            exact ⟨rfl, HM2.out.gath ((Ch.grown HG2.out hs2 (fun k e => .inl (Kd.R_base HRO.out k e))).trans (Ch.set w2 ⟨n + 1 + 1 + 1, 0, none⟩ _ (.inr rfl))) ⟨_, put1 HBB2.out _, Kd.R_mono (Kd.R_far (p := ⟨n + 1 + 1 + 1, 0, none⟩) (Kd.R_bound HO2.out) (fun k hk => by have := hk.2.1; show k ≠ n + 1 + 1 + 1; omega) _) (fun _ _ => trivial)⟩ (by rw [hl1]; omega) h1 h2 h3⟩
end Go.Proofs.Ytfkibolpanlelaa.Q
