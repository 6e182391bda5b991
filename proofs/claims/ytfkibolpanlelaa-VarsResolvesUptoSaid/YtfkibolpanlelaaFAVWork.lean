/- What the solver's work does: one variable is worked out, and all that it names. -/
import Derived.Test.YtfkibolpanlelaaFAVRefB
namespace Go.Proofs.Ytfkibolpanlelaa.Q
open Go Go.RowKit Go.Shelf Go.Proofs.YtfkibolpanlelaaW.PrintWords Go.Proofs.YtfkibolpanlelaaW.PrintLast Go.Proofs.YtfkibolpanlelaaW.PrintMore Go.Proofs.Ytfkibolpanlelaa.SMap
set_option linter.unusedVariables false
set_option linter.unusedSimpArgs false
theorem eg55 : ∀ args w, (callFunc 55 args).run Try.prog w = .ok (.enter 55 args) w := enters_of Try.func55 (by kernel_rfl) rfl
theorem eg56 : ∀ args w, (callFunc 56 args).run Try.prog w = .ok (.enter 56 args) w := enters_of Try.func56 (by kernel_rfl) rfl
theorem GM.ch {n : Nat} {db : Nat} {kvs : KV} {w w' : World} (h : GM w) (hc : Ch n (fun k => k = db) w w') (hd : SM w db kvs) (hn : 0 < n) : GM w' := by
  obtain ⟨m, hm⟩ := h
  refine ⟨m, ?_⟩
  have hne : (0 : Nat) ≠ db := by
    rintro rfl
    unfold SM at hd
    unfold World.cell? at hm
    simp [hd] at hm
  rw [World.cell?_of_block (hc.block 0 hn hne)]
  exact hm
theorem field41 (a b : ByteArray) (W : World) : (Instr.field 41 (.agg #[.string a, .string b]) 1).run Try.prog W = .ok (.string b) W := by kernel_rfl
theorem field85 (a : ByteArray) (d : Int) (u : Bool) (W : World) : (Instr.field 85 (.agg #[.string a, .int .i64 d, .bool u]) 0).run Try.prog W = .ok (.string a) W := by kernel_rfl
/-- The texts are of a bounded size. -/
def okR (raw : List SV) : Prop := ∀ v ∈ raw, v.f1.size ≤ 1073741824
theorem pieces_w {n : Nat} {w0 : World} {SB rb db : Nat} {raw : List SV} {dn0 : DN} {f : Nat} (hrec : RecC SB rb db raw f) (h1 : SB < n) (h2 : rb < n) (h3 : db < n) (hf : todo raw dn0 ≤ f) (hgm : ∀ w, Ch n (fun k => k = db) w0 w → GM w)
    (s : ByteArray) (hs : s.size ≤ 1073741824) (st : WS) (w : World) (hi : WInv n w0 SB rb db raw dn0 st w) :
    Calls Try.prog 36 #[.string s, .func (.func 55) #[] #[.pointer (some ⟨n + 1 + 1 + 1, 0, none⟩)], .func (.func 56) #[] #[.pointer (some ⟨n, 0, none⟩), .pointer (some ⟨n + 1 + 1, 0, none⟩), .pointer (some ⟨n + 1 + 1 + 1, 0, none⟩)]] w
      (Out (WInv n w0 SB rb db raw dn0) (Ch n (fun k => k = db) w0) (piecesOf wkF (wkG (workP raw f) raw) s st)) :=
  pieces_any (σ := WS) (WInv n w0 SB rb db raw dn0) (Ch n (fun k => k = db) w0)
    (fun st w1 m h => ⟨h.ch.trans (Ch.drewN w1 m), h.size, h.sv, h.res, h.vb, h.bx.drewN m, ⟨h.solv.sb, h.solv.rm, h.solv.dm, h.solv.ne⟩, h.len, h.dp, h.okd, h.ext⟩)
    (fun st w1 h => hgm w1 h.ch) (fun st w1 h => h.ch)
    wkF (wkG (workP raw f) raw) 55 56 #[.pointer (some ⟨n + 1 + 1 + 1, 0, none⟩)] #[.pointer (some ⟨n, 0, none⟩), .pointer (some ⟨n + 1 + 1, 0, none⟩), .pointer (some ⟨n + 1 + 1 + 1, 0, none⟩)] s hs eg55 eg56
    (fun st c i w1 _ _ hi h => (saysW_any (n + 1 + 1 + 1) (n + 1 + 1 + 1 + 1) st.1 c (i : Int) w1 (by omega) h.size h.bx h.len).mono fun e w2 ⟨hch, hp⟩ => by
      unfold wkF
      split
      · rename_i hl
        rw [if_pos hl] at hp
        exact ⟨hp, h.ch.trans (hch.mono (by omega) (fun k hk e => by omega))⟩
      · rename_i hl
        rw [if_neg hl] at hp
        exact ⟨hp.1, h.gath hch hp.2 (by omega) h1 h2 h3⟩)
    (fun st i w1 hi h => refsW_any hrec (nameAt s i) i w1 h1 h2 h3 hf (hgm w1 h.ch) h)
    st w hi
theorem work_start {w : World} {SB rb db : Nat} {raw : List SV} {dn : DN} (hs : Solv SB rb db raw dn w) (nm : ByteArray) (hok : okD dn) {w1 w2 : World}
    (e1 : w1 = (w.alloc (.cells #[.pointer (some ⟨SB, 0, none⟩)] 59)).alloc (.cells #[.string ⟨#[]⟩, .int .i64 0, .bool false] 85))
    (hm : SM w2 db (kvD (setDn dn nm ⟨⟨#[]⟩, 0, true⟩))) (hg : w1.grownBy w2 (some db)) (hz2 : w2.heap.size = w1.heap.size) :
    WInv w.heap.size w SB rb db raw (setDn dn nm ⟨⟨#[]⟩, 0, true⟩) ([], 0, setDn dn nm ⟨⟨#[]⟩, 0, true⟩) ((w2.alloc (.cells #[.string ⟨#[]⟩, .int .i64 0, .bool false] 85)).alloc (.cells #[.slice none 0 0] 46)) := by
  have hb1 : Below w.heap.size w w1 := by rw [e1]; exact below_alloc (below_alloc (Below.refl _ _) _) _
  have hz : w1.heap.size = w.heap.size + 1 + 1 := by rw [e1]; simp
  have a0 : w1.heap[w.heap.size]? = some (.cells #[.pointer (some ⟨SB, 0, none⟩)] 59 (0, 0)) := by rw [e1]; exact blk_alloc (at_new w _ rfl) _
  have a1 : w1.heap[w.heap.size + 1]? = some (.cells #[.string ⟨#[]⟩, .int .i64 0, .bool false] 85 (0, 0)) := by rw [e1]; exact at_new _ _ (by simp)
  have l1 := blk_lt hs.sb
  have l2 := hs.rm.lt
  have l3 := hs.dm.lt
  have hsd : SB ≠ db := hs.dm.ne_cells hs.sb
  have hne := hs.ne
  have hbl : ∀ k, k < w1.heap.size → k ≠ db → w2.heap[k]? = w1.heap[k]? := fun k hk h => hg.block k hk (fun e => h (Option.some.inj e))
  clear e1
  exact {
    ch := (((Ch.below hb1 (Nat.le_refl _)).trans (Ch.grown hg (by omega) (fun k e => .inr (Option.some.inj e).symm))).trans (Ch.below (below_alloc (Below.refl _ _) _) (by omega))).trans (Ch.below (below_alloc (Below.refl _ _) _) (by simp; omega))
    size := by simp; omega
    sv := blk_alloc (blk_alloc ((hbl _ (by omega) (by omega)).trans a0) _) _
    res := blk_alloc (blk_alloc ((hbl _ (by omega) (by omega)).trans a1) _) _
    vb := blk_alloc (at_new _ _ (by omega)) _
    bx := ⟨_, at_new _ _ (by simp; omega), Kd.R_nil _ _ _ _ _⟩
    solv := {
      sb := blk_alloc (blk_alloc ((hbl _ (by omega) hsd).trans ((hb1.block _ l1).trans hs.sb)) _) _
      rm := (show SM w2 rb (kvV raw) from (hbl _ (by omega) hne).trans ((hb1.block _ l2).trans hs.rm)).alloc _ |>.alloc _
      dm := (hm.alloc _).alloc _
      ne := hne }
    len := Nat.zero_le _
    dp := ⟨Int.le_refl _, by show (0 : Int) ≤ 16; omega⟩
    okd := hok.set nm ⟨Nat.zero_le _, Int.le_refl _, by show (0 : Int) ≤ 16; omega⟩
    ext := Ext.refl _ }
theorem work_results {tmps : Array Value} {n : Nat} (w : World) (x : VD) (h4 : tmps[4]? = some (.pointer (some ⟨n + 1, 0, none⟩))) (hc : w.heap[n + 1]? = some (.cells #[.string x.text, .int .i64 x.depth, .bool x.under] 85 (0, 0))) :
    (results Try.f48 tmps).run Try.prog w = .ok (encD x) w := by
  have g4 : tmps[4]?.getD undef = .pointer (some ⟨n + 1, 0, none⟩) := by rw [h4]; rfl
  have c0 : w.cell? ⟨n + 1, 0, none⟩ = some (.string x.text) := blk_cell hc 0
  have c1 : w.cell? ⟨n + 1, 1, none⟩ = some (.int .i64 x.depth) := blk_cell hc 1
  have c2 : w.cell? ⟨n + 1, 2, none⟩ = some (.bool x.under) := blk_cell hc 2
  simp [results, Try.results48, g4, asAddr, go_sem, c0, c1, c2, encD]
set_option maxHeartbeats 2000000 in
set_option maxRecDepth 100000 in
theorem work_any {SB rb db : Nat} {raw : List SV} (hraw : okR raw) : ∀ f, RecC SB rb db raw f
  | 0 => by
    intro dn nm w _ _ ht hv hd _
    obtain ⟨rv, hrv⟩ := Option.isSome_iff_exists.1 hv
    have h1 := findV_some hrv
    have := todo_set (a := dn) h1.1 (by rw [h1.2]; exact hd) zVD
    omega
  | f + 1 => by
    have ih := work_any (SB := SB) (rb := rb) (db := db) hraw f
    intro dn nm w hgm hok ht hv hd hs
    have hmf : ∀ (fn : Fn) (first cap : Array Value) (w : World), (Instr.makeFunc fn first cap).run Try.prog w = .ok (.func fn first cap) w := fun _ _ _ _ => rfl
    have hfd := field41
    obtain ⟨rv, hrv⟩ := Option.isSome_iff_exists.1 hv
    have hrv2 := findV_some hrv
    have hsz := hraw rv hrv2.1
    have ht1 : todo raw (setDn dn nm ⟨⟨#[]⟩, 0, true⟩) ≤ f := by
      have := todo_set (a := dn) hrv2.1 (by rw [hrv2.2]; exact hd) ⟨⟨#[]⟩, 0, true⟩
      rw [hrv2.2] at this
      omega
    have HW := Aside0.mk (show workP raw (f + 1) dn nm = (match piecesOf wkF (wkG (workP raw f) raw) rv.f1 ([], 0, setDn dn nm ⟨⟨#[]⟩, 0, true⟩) with
      | .error x => .error x
      | .ok st => .ok (⟨strOfNums st.1, st.2.1, false⟩, setDn st.2.2 nm ⟨strOfNums st.1, st.2.1, false⟩)) by rw [workP, hrv]; rfl)
    have HG0 := Aside0.mk (show (getS (kvV raw) nm).getD (.agg #[.string ⟨#[]⟩, .string ⟨#[]⟩]) = .agg #[.string rv.f0, .string rv.f1] by rw [get_kvV, hrv]; rfl)
    have HS := Aside0.mk hs
    have HOK := Aside0.mk hok
    have l1 := blk_lt hs.sb
    have l2 := hs.rm.lt
    have l3 := hs.dm.lt
    have HPC := Aside0.mk (fun w1 hi => pieces_w (n := w.heap.size) (w0 := w) ih l1 l2 l3 ht1 (fun w' hc => hgm.ch hc hs.dm (by omega)) rv.f1 hsz ([], 0, setDn dn nm ⟨⟨#[]⟩, 0, true⟩) w1 hi)
    clear ih hgm hok ht hv hd hrv hrv2 hsz ht1
    obtain ⟨r, hr⟩ : ∃ r, r = workP raw (f + 1) dn nm := ⟨_, rfl⟩
    rw [← hr] at HW ⊢
    clear hr
    unfold WPost
    go_enter Try.func48, Try.ntmps48
    go_upto_region 1 with (fail)
    obtain ⟨w1, e1⟩ : ∃ w1, w1 = (w.alloc (.cells #[.pointer (some ⟨SB, 0, none⟩)] 59)).alloc (.cells #[.string ⟨#[]⟩, .int .i64 0, .bool false] 85) := ⟨_, rfl⟩
    have hb1 : Below w.heap.size w w1 := by rw [e1]; exact below_alloc (below_alloc (Below.refl _ _) _) _
    have hz1 : w1.heap.size = w.heap.size + 1 + 1 := by rw [e1]; simp
    have a0 : w1.heap[w.heap.size]? = some (.cells #[.pointer (some ⟨SB, 0, none⟩)] 59 (0, 0)) := by rw [e1]; exact blk_alloc (at_new w _ rfl) _
    rw [← e1]
    have HE1 := Aside0.mk e1
    have hdm1 := Aside0.mk (show SM w1 db (kvD dn) from (hb1.block _ l3).trans hs.dm)
    have s0 : w1.cell? ⟨w.heap.size, 0, none⟩ = some (.pointer (some ⟨SB, 0, none⟩)) := blk_cell a0 0
    have sb1 : w1.cell? ⟨SB, 1, none⟩ = some (.map (some db)) := blk_cell ((hb1.block _ l1).trans hs.sb) 1
    clear e1 hb1 a0 hs
    obtain ⟨n, hn⟩ : ∃ n, n = w.heap.size := ⟨_, rfl⟩
    rw [← hn] at l1 l2 l3 hz1 s0 HPC ⊢
    have HN := Aside0.mk hn
    clear hn
    go_upto_region 4 with (at_mapUpdate; refine wpList_update_sm2 _ rfl _ _ _ 61 rfl 9 85 Try.underlying61 Try.underlying9 db (kvD dn) rfl hdm1.out nm rfl (.agg #[.string ⟨#[]⟩, .int .i64 0, .bool true]) rfl ?_; intro w2 hm2 hg2 hz2; have HI0 := Aside0.mk (work_start HS.out nm HOK.out HE1.out (by rw [← set_kvD]; exact hm2) hg2 hz2); rw [hz1] at hz2; clear hm2 hg2 s0 sb1 hz1)
    have HI := Aside0.mk (show WInv n w SB rb db raw (setDn dn nm ⟨⟨#[]⟩, 0, true⟩) ([], 0, setDn dn nm ⟨⟨#[]⟩, 0, true⟩) ((w2.alloc (.cells #[.string ⟨#[]⟩, .int .i64 0, .bool false] 85)).alloc (.cells #[.slice none 0 0] 46)) by rw [HN.out]; exact HI0.out)
    clear HI0 hz2
    generalize (w2.alloc (.cells #[.string ⟨#[]⟩, .int .i64 0, .bool false] 85)).alloc (.cells #[.slice none 0 0] 46) = w3 at HI ⊢
    have HPC1 := Aside0.mk (HPC.out w3 HI.out)
    have s0 : w3.cell? ⟨n, 0, none⟩ = some (.pointer (some ⟨SB, 0, none⟩)) := blk_cell HI.out.sv 0
    have sb0 : w3.cell? ⟨SB, 0, none⟩ = some (.map (some rb)) := blk_cell HI.out.solv.sb 0
    obtain ⟨R, hR⟩ : ∃ R, R = piecesOf wkF (wkG (workP raw f) raw) rv.f1 ([], 0, setDn dn nm ⟨⟨#[]⟩, 0, true⟩) := ⟨_, rfl⟩
    rw [← hR] at HPC1 HW
    clear hR HPC
    have HE0 := Aside0.mk (Ext.set dn nm ⟨⟨#[]⟩, 0, true⟩)
    generalize setDn dn nm ⟨⟨#[]⟩, 0, true⟩ = dn1 at HI HPC1 HE0
    rcases R with y | st
    · obtain rfl : r = .error y := HW.out
      go_wp2_with (first
        | (at_lookup; refine wpList_lookup_sm _ rfl (.tmp 17) (.tmp 18) 60 rfl 9 41 Try.underlying60 Try.underlying9 (.agg #[.string ⟨#[]⟩, .string ⟨#[]⟩]) (zero41 _) rb (kvV raw) rfl HI.out.solv.rm nm rfl _ HG0.out ?_)
        | (go_at_call 36; go_loud (refine HPC1.out.mono ?_); rintro e w5 ⟨rfl, hc⟩; have HC := Aside0.mk hc; clear hc))
      exact ⟨rfl, by rw [← HN.out]; exact HC.out, rfl⟩
    · obtain rfl : r = .ok (⟨strOfNums st.1, st.2.1, false⟩, setDn st.2.2 nm ⟨strOfNums st.1, st.2.1, false⟩) := HW.out
      go_upto_region 6 with (first
        | (at_lookup; refine wpList_lookup_sm _ rfl (.tmp 17) (.tmp 18) 60 rfl 9 41 Try.underlying60 Try.underlying9 (.agg #[.string ⟨#[]⟩, .string ⟨#[]⟩]) (zero41 _) rb (kvV raw) rfl HI.out.solv.rm nm rfl _ HG0.out ?_)
        | (go_at_call 36; go_loud (refine HPC1.out.mono ?_); rintro e w5 ⟨rfl, hi5⟩; have HI5 := Aside0.mk hi5; obtain ⟨v, hv, hrr⟩ := hi5.bx; obtain ⟨A1, c1, e1⟩ := Kd.R_slice hrr; subst e1; have b0 : w5.cell? ⟨n + 1 + 1 + 1, 0, none⟩ = some (.slice A1 st.1.length c1) := blk_cell hv 0; have hcv1 := Kd.C_string (P := Try.prog) (src := 46) (dst := 9) (c := c1) Try.underlying46 Try.underlying5 Try.underlying9 (Kd.R_reads' hrr).2.2; have v0 : w5.cell? ⟨n + 1 + 1, 0, none⟩ = some (.string ⟨#[]⟩) := blk_cell hi5.vb 0; have vf := blk_frozen hi5.vb 0; clear hi5 hv hrr s0 sb0))
      obtain ⟨tx, htx⟩ : ∃ tx, tx = strOfNums st.1 := ⟨_, rfl⟩
      rw [← htx]
      have htz : tx.size ≤ 4096 := by
        have := HI5.out.len
        rw [htx]
        simpa [strOfNums, ByteArray.size] using this
      have HV6 := Aside0.mk (show (w5.setCell ⟨n + 1 + 1, 0, none⟩ (.string tx)).heap[n + 1 + 1]? = some (.cells #[.string tx, .int .i64 st.2.1, .bool false] 85 (0, 0)) from blk_set HI5.out.vb 0 (.string tx))
      have HCS := Aside0.mk (show Ch n (fun k => k = db) w (w5.setCell ⟨n + 1 + 1, 0, none⟩ (.string tx)) from HI5.out.ch.trans (Ch.set w5 ⟨n + 1 + 1, 0, none⟩ _ (.inl (by show n ≤ n + 1 + 1; omega))))
      have HSV := Aside0.mk (show (w5.setCell ⟨n + 1 + 1, 0, none⟩ (.string tx)).heap[n]? = some (.cells #[.pointer (some ⟨SB, 0, none⟩)] 59 (0, 0)) from blk_far HI5.out.sv (p := ⟨n + 1 + 1, 0, none⟩) (by show n ≠ n + 1 + 1; omega) _)
      have HRS := Aside0.mk (show (w5.setCell ⟨n + 1 + 1, 0, none⟩ (.string tx)).heap[n + 1]? = some (.cells #[.string ⟨#[]⟩, .int .i64 0, .bool false] 85 (0, 0)) from blk_far HI5.out.res (p := ⟨n + 1 + 1, 0, none⟩) (by show n + 1 ≠ n + 1 + 1; omega) _)
      have HSO := Aside0.mk (HI5.out.solv.ch (n := n) (S := fun _ => False) (Ch.set w5 ⟨n + 1 + 1, 0, none⟩ (.string tx) (.inl (by show n ≤ n + 1 + 1; omega))) l1 l2 l3 (fun h => h) (fun h => h) (fun h => h))
      have hdp := HI5.out.dp
      have HFIN := Aside0.mk (And.intro (HE0.out.trans HI5.out.ext) HI5.out.okd)
      have HTX := Aside0.mk htx
      obtain ⟨dn5, hdn5⟩ : ∃ d, d = st.2.2 := ⟨_, rfl⟩
      obtain ⟨dp, hdp5⟩ : ∃ d, d = st.2.1 := ⟨_, rfl⟩
      rw [← hdn5] at HSO HFIN
      rw [← hdp5] at HV6 hdp
      have HDN5 := Aside0.mk hdn5
      have HDP5 := Aside0.mk hdp5
      clear b0 hcv1 v0 vf htx hdn5 hdp5
      generalize w5.setCell ⟨n + 1 + 1, 0, none⟩ (.string tx) = w6 at HV6 HCS HSV HRS HSO ⊢
      obtain ⟨w7, hrun, hsm7, hg7, hz7⟩ := update2 (P := Try.prog) (show SM w6.drew db (kvD dn5) from HSO.out.dm) Try.underlying61 Try.underlying9 nm (.agg #[.string tx, .int .i64 dp, .bool false])
      have g0 : w6.cell? ⟨n, 0, none⟩ = some (.pointer (some ⟨SB, 0, none⟩)) := blk_cell HSV.out 0
      have g1 : w6.cell? ⟨SB, 1, none⟩ = some (.map (some db)) := blk_cell HSO.out.sb 1
      have g2 : w6.cell? ⟨n + 1 + 1, 0, none⟩ = some (.string tx) := blk_cell HV6.out 0
      have g3 : w6.cell? ⟨n + 1 + 1, 1, none⟩ = some (.int .i64 dp) := blk_cell HV6.out 1
      have g4 : w6.cell? ⟨n + 1 + 1, 2, none⟩ = some (.bool false) := blk_cell HV6.out 2
      refine start_ (n := 7) (S := fun w' => w'.cell? ⟨n, 0, none⟩ = some (.pointer (some ⟨SB, 0, none⟩)) ∧ w'.cell? ⟨SB, 1, none⟩ = some (.map (some db)) ∧ w'.cell? ⟨n + 1 + 1, 0, none⟩ = some (.string tx) ∧ w'.cell? ⟨n + 1 + 1, 1, none⟩ = some (.int .i64 dp) ∧ w'.cell? ⟨n + 1 + 1, 2, none⟩ = some (.bool false)) (ds := [6]) #[false, false, false, false, false, false, false] (by kernel_rfl) rfl rfl ⟨g0, g1, g2, g3, g4⟩ (fun hHeld => ?_)
      refine pure_ (i := 4) (N := some 31) (v := ?_) (a' := ?_) #[false, false, false, false, true, false, false] rfl rfl (by kernel_rfl) (fun _ _ _ h => h) (Or.inl ⟨by rfl, ?_⟩) ?_ ?_
      rotate_left
      · intro w'
        go_simp
        with_reducible rfl
      rotate_left
      · simp only [Act.put, List.setIfInBounds_toArray, List.set_cons_zero, List.set_cons_succ, i64_w, i32_w]
        rfl
      refine take_ (i := 0) (N := some 27) (v := ?_) (a' := ?_) #[true, false, false, false, true, false, false] rfl rfl (by kernel_rfl) (fun _ _ _ h => h) (Or.inl ⟨by rfl, ?_⟩) hHeld ?_ ?_
      rotate_left
      · rintro w' ⟨s0, s1, s2, s3, s4⟩
        go_simp
        with_reducible rfl
      rotate_left
      · simp only [Act.put, List.setIfInBounds_toArray, List.set_cons_zero, List.set_cons_succ, i64_w, i32_w]
        rfl
      refine pure_ (i := 1) (N := some 28) (v := ?_) (a' := ?_) #[true, true, false, false, true, false, false] rfl rfl (by kernel_rfl) (fun _ _ _ h => h) (Or.inl ⟨by rfl, ?_⟩) ?_ ?_
      rotate_left
      · intro w'
        go_simp
        with_reducible rfl
      rotate_left
      · simp only [Act.put, List.setIfInBounds_toArray, List.set_cons_zero, List.set_cons_succ, i64_w, i32_w]
        rfl
      refine pure_ (i := 2) (N := some 29) (v := ?_) (a' := ?_) #[true, true, true, false, true, false, false] rfl rfl (by kernel_rfl) (fun _ _ _ h => h) (Or.inl ⟨by rfl, ?_⟩) ?_ ?_
      rotate_left
      · intro w'
        go_simp
        with_reducible rfl
      rotate_left
      · simp only [Act.put, List.setIfInBounds_toArray, List.set_cons_zero, List.set_cons_succ, i64_w, i32_w]
        rfl
      refine take_ (i := 3) (N := some 30) (v := ?_) (a' := ?_) #[true, true, true, true, true, false, false] rfl rfl (by kernel_rfl) (fun _ _ _ h => h) (Or.inl ⟨by rfl, ?_⟩) hHeld ?_ ?_
      rotate_left
      · rintro w' ⟨s0, s1, s2, s3, s4⟩
        go_simp
        with_reducible rfl
      rotate_left
      · simp only [Act.put, List.setIfInBounds_toArray, List.set_cons_zero, List.set_cons_succ, i64_w, i32_w]
        rfl
      refine take_ (i := 5) (N := some 32) (v := ?_) (a' := ?_) #[true, true, true, true, true, true, false] rfl rfl (by kernel_rfl) (fun _ _ _ h => h) (Or.inl ⟨by rfl, ?_⟩) hHeld ?_ ?_
      rotate_left
      · rintro w' ⟨s0, s1, s2, s3, s4⟩
        go_simp
        with_reducible rfl
      rotate_left
      · simp only [Act.put, List.setIfInBounds_toArray, List.set_cons_zero, List.set_cons_succ, i64_w, i32_w]
        rfl
      refine last_ (i := 6) (N := none) #[true, true, true, true, true, true, true] rfl rfl (by kernel_rfl) (by decide) (fun K hK => ?_)
      refine skip_ (w1 := ?_) (by rfl) rfl ?_ ?_
      rotate_left
      · go_simp
        first | rfl | (rw [hrun]; rfl)
      refine hK.out _ _ ?_
      clear hK K
      refine done_ (by kernel_rfl) ?_
      have hbl : ∀ k, k < w6.heap.size → k ≠ db → w7.heap[k]? = w6.heap[k]? := fun k hk h => hg7.block k hk (fun e => h (Option.some.inj e))
      have HV7 := Aside0.mk ((hbl _ (blk_lt HV6.out) (by omega)).trans HV6.out)
      have HR7 := Aside0.mk ((hbl _ (blk_lt HRS.out) (by omega)).trans HRS.out)
      have HSO7 := Aside0.mk (show Solv SB rb db raw (setDn dn5 nm ⟨tx, dp, false⟩) w7 from { sb := (hbl _ (blk_lt HSO.out.sb) (HSO.out.dm.ne_cells HSO.out.sb)).trans HSO.out.sb, rm := (hbl _ HSO.out.rm.lt HSO.out.ne).trans HSO.out.rm, dm := by rw [← set_kvD]; exact hsm7, ne := HSO.out.ne })
      have HC7 := Aside0.mk (show Ch n (fun k => k = db) w w7 from HCS.out.trans ((Ch.drewN w6 1).trans (Ch.grown hg7 (by have := blk_lt HV6.out; show n ≤ w6.heap.size; omega) (fun k e => .inr (Option.some.inj e).symm))))
      clear hrun hsm7 hg7 hz7 g0 g1 g2 g3 g4 hHeld hbl
      have g2 : w7.cell? ⟨n + 1 + 1, 0, none⟩ = some (.string tx) := blk_cell HV7.out 0
      have g3 : w7.cell? ⟨n + 1 + 1, 1, none⟩ = some (.int .i64 dp) := blk_cell HV7.out 1
      have g4 : w7.cell? ⟨n + 1 + 1, 2, none⟩ = some (.bool false) := blk_cell HV7.out 2
      have r0 : w7.cell? ⟨n + 1, 0, none⟩ = some (.string ⟨#[]⟩) := blk_cell HR7.out 0
      have r1 : w7.cell? ⟨n + 1, 1, none⟩ = some (.int .i64 0) := blk_cell HR7.out 1
      have r2 : w7.cell? ⟨n + 1, 2, none⟩ = some (.bool false) := blk_cell HR7.out 2
      have rf0 := blk_frozen HR7.out 0
      have rf1 := blk_frozen HR7.out 1
      have rf2 := blk_frozen HR7.out 2
      go_wp2
      have HR8 := Aside0.mk (show (((w7.setCell ⟨n + 1, 0, none⟩ (.string tx)).setCell ⟨n + 1, 1, none⟩ (.int .i64 dp)).setCell ⟨n + 1, 2, none⟩ (.bool false)).heap[n + 1]? = some (.cells #[.string tx, .int .i64 dp, .bool false] 85 (0, 0)) from blk_set (blk_set (blk_set HR7.out 0 _) 1 _) 2 _)
      have HC8 := Aside0.mk (show Ch n (fun _ => False) w7 (((w7.setCell ⟨n + 1, 0, none⟩ (.string tx)).setCell ⟨n + 1, 1, none⟩ (.int .i64 dp)).setCell ⟨n + 1, 2, none⟩ (.bool false)) from ((Ch.set w7 ⟨n + 1, 0, none⟩ _ (.inl (by show n ≤ n + 1; omega))).trans (Ch.set _ ⟨n + 1, 1, none⟩ _ (.inl (by show n ≤ n + 1; omega)))).trans (Ch.set _ ⟨n + 1, 2, none⟩ _ (.inl (by show n ≤ n + 1; omega))))
      refine bodyPost_ret (work_results (n := n) _ ⟨tx, dp, false⟩ rfl HR8.out) rfl ?_
      rw [← HTX.out, ← HDP5.out, ← HDN5.out]
      refine ⟨by rw [← HN.out]; exact HC7.out.trans (HC8.out.mono (Nat.le_refl _) (fun _ _ h => h.elim)), rfl, HSO7.out.ch HC8.out l1 l2 l3 (fun h => h) (fun h => h) (fun h => h), HFIN.out.1.trans (Ext.set _ _ _), HFIN.out.2.set nm ⟨htz, hdp.1, hdp.2⟩, htz, hdp.1, hdp.2⟩
end Go.Proofs.Ytfkibolpanlelaa.Q
