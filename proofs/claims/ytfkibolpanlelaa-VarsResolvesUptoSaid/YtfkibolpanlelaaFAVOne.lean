/- What the solver's one does: a variable is worked out, if it is not yet; what is given up is caught. -/
import Derived.Test.YtfkibolpanlelaaFAVWork
namespace Go.Proofs.Ytfkibolpanlelaa.Q
open Go Go.RowKit Go.Shelf Go.Proofs.YtfkibolpanlelaaW.PrintWords Go.Proofs.YtfkibolpanlelaaW.PrintLast Go.Proofs.YtfkibolpanlelaaW.PrintMore Go.Proofs.Ytfkibolpanlelaa.SMap
set_option linter.unusedVariables false
set_option linter.unusedSimpArgs false
/-- What one answers: the text and OK, and what is worked out then; or why it is given up. -/
def oneP (raw : List SV) (dn : DN) (nm : ByteArray) : Except Int (ByteArray × DN) := match getDn dn nm with
  | some x => .ok (x.text, dn)
  | none => match workP raw (todo raw dn) dn nm with
    | .error x => .error x.1
    | .ok p => .ok (p.1.text, p.2)
def OnePost (SB rb db : Nat) (raw : List SV) (w0 : World) (r : Except Int (ByteArray × DN)) (e : Ending) (w' : World) : Prop :=
  Ch w0.heap.size (fun k => k = db) w0 w' ∧ match r with
    | .ok p => e = .returned (.tuple #[.string p.1, .int .i64 0]) ∧ Solv SB rb db raw p.2 w' ∧ okD p.2
    | .error x => e = .returned (.tuple #[.string ⟨#[]⟩, .int .i64 x])
theorem one_results {tmps : Array Value} {n : Nat} (w : World) (s : ByteArray) (why : Int) (h4 : tmps[4]? = some (.string s)) (h5 : tmps[5]? = some (.pointer (some ⟨n, 0, none⟩)))
    (he : w.heap[n]? = some (.cells #[.int .i64 why] 23 (0, 0))) :
    (results Try.f33 tmps).run Try.prog w = .ok (.tuple #[.string s, .int .i64 why]) w := by
  have g4 : tmps[4]?.getD undef = .string s := by rw [h4]; rfl
  have g5 : tmps[5]?.getD undef = .pointer (some ⟨n, 0, none⟩) := by rw [h5]; rfl
  have c4 : w.cell? ⟨n, 0, none⟩ = some (.int .i64 why) := blk_cell he 0
  simp [results, Try.results33, g4, g5, asAddr, go_sem, c4]
theorem one_panic {tmps : Array Value} {SB rb db n : Nat} {raw : List SV} {w0 w1 : World} {x : Er} (hn : n = w0.heap.size) (hd : db < n) (hc1 : Ch n (fun k => k = db) w0 w1) (he : w1.heap[n]? = some (.cells #[.int .i64 0] 23 (0, 0))) (hp : w1.heap[n + 1]? = some (.cells #[.int .i64 0] 3 (0, 0)))
    (h4 : tmps[4]? = some (.string ⟨#[]⟩)) (h5 : tmps[5]? = some (.pointer (some ⟨n, 0, none⟩))) :
    Leaves Try.prog Try.f33 tmps (OnePost SB rb db raw w0 (.error x.1)) [{ target := Target.fn (.func 35) #[], args := #[.pointer (some ⟨n + 1, 0, none⟩), .pointer (some ⟨n, 0, none⟩)] }] (.panicking (stopV x.1 x.2)) w1 := by
  refine leaves_cons (f := 35) (args := #[.pointer (some ⟨n + 1, 0, none⟩), .pointer (some ⟨n, 0, none⟩)]) (by simp) (by simp [go_sem]) ?_
  refine (catch_panicking (n + 1) n x.1 x.2 w1 hp he (by omega)).mono ?_
  rintro e u' w'' ⟨rfl, rfl, hc⟩
  refine ⟨_, one_results w'' ⟨#[]⟩ x.1 h4 h5 hc.why, ?_, rfl⟩
  rw [← hn]
  exact hc1.trans ⟨hc.os, hc.tape, hc.output, hc.size, fun k hk _ => hc.block k (by have := blk_lt he; omega) (by omega) (by omega)⟩
theorem one_return {tmps : Array Value} {SB rb db n : Nat} {raw : List SV} {w0 w1 : World} {p : ByteArray × DN} (hn : n = w0.heap.size) (hc1 : Ch n (fun k => k = db) w0 w1) (he : w1.heap[n]? = some (.cells #[.int .i64 0] 23 (0, 0))) (hs : Solv SB rb db raw p.2 w1) (hok : okD p.2)
    (h4 : tmps[4]? = some (.string p.1)) (h5 : tmps[5]? = some (.pointer (some ⟨n, 0, none⟩))) :
    Leaves Try.prog Try.f33 tmps (OnePost SB rb db raw w0 (.ok p)) [{ target := Target.fn (.func 35) #[], args := #[.pointer (some ⟨n + 1, 0, none⟩), .pointer (some ⟨n, 0, none⟩)] }] .returning w1 := by
  refine leaves_cons (f := 35) (args := #[.pointer (some ⟨n + 1, 0, none⟩), .pointer (some ⟨n, 0, none⟩)]) (by simp) (by simp [go_sem]) ?_
  refine (catch_idle ⟨n + 1, 0, none⟩ ⟨n, 0, none⟩ w1).mono ?_
  rintro e u' w'' ⟨rfl, rfl, rfl⟩
  exact ⟨_, one_results w'' p.1 0 h4 h5 he, by rw [← hn]; exact hc1, rfl, hs, hok⟩
set_option maxHeartbeats 2000000 in
set_option maxRecDepth 100000 in
theorem one_any {SB rb db : Nat} {raw : List SV} (hraw : okR raw) (dn : DN) (nm : ByteArray) (w : World) (hgm : GM w) (hok : okD dn) (hv : (findV raw nm).isSome = true) (hs : Solv SB rb db raw dn w) :
    Calls Try.prog 33 #[.pointer (some ⟨SB, 0, none⟩), .string nm] w (OnePost SB rb db raw w (oneP raw dn nm)) := by
  obtain ⟨r, hr⟩ : ∃ r, r = oneP raw dn nm := ⟨_, rfl⟩
  rw [← hr]
  have HR := Aside0.mk hr
  have HOK := Aside0.mk hok
  have HGM := Aside0.mk hgm
  have HV := Aside0.mk hv
  have HS := Aside0.mk hs
  have l1 := blk_lt hs.sb
  have l2 := hs.rm.lt
  have l3 := hs.dm.lt
  have hfd := field85
  clear hr hok hgm hv hs
  obtain ⟨n, hn⟩ : ∃ n, n = w.heap.size := ⟨_, rfl⟩
  have HN := Aside0.mk hn
  have hb1 := below_alloc (below_alloc (Below.refl w.heap.size w) (.cells #[.int .i64 0] 23)) (.cells #[.int .i64 0] 3)
  have a0 : ((w.alloc (.cells #[.int .i64 0] 23)).alloc (.cells #[.int .i64 0] 3)).heap[n]? = some (.cells #[.int .i64 0] 23 (0, 0)) := blk_alloc (at_new w _ hn) _
  have a1 : ((w.alloc (.cells #[.int .i64 0] 23)).alloc (.cells #[.int .i64 0] 3)).heap[n + 1]? = some (.cells #[.int .i64 0] 3 (0, 0)) := at_new _ _ (by simp; exact hn)
  go_enter_defers Try.func33, Try.ntmps33
  go_upto_region 3 with (fail)
  rw [← hn]
  have HB1 := Aside0.mk (show Below n w ((w.alloc (.cells #[.int .i64 0] 23)).alloc (.cells #[.int .i64 0] 3)) by rw [hn]; exact hb1)
  clear hb1
  generalize (w.alloc (.cells #[.int .i64 0] 23)).alloc (.cells #[.int .i64 0] 3) = w1 at HB1 a0 a1 ⊢
  have HA0 := Aside0.mk a0
  have HA1 := Aside0.mk a1
  rw [← hn] at l1 l2 l3
  have HS1 := Aside0.mk (show Solv SB rb db raw dn w1 from { sb := (HB1.out.block _ l1).trans HS.out.sb, rm := (HB1.out.block _ l2).trans HS.out.rm, dm := (HB1.out.block _ l3).trans HS.out.dm, ne := HS.out.ne })
  have HC1 := Aside0.mk (show Ch n (fun k => k = db) w w1 from ⟨HB1.out.os, HB1.out.tape, HB1.out.output, HB1.out.size, fun k hk _ => HB1.out.block k hk⟩)
  have hn1 : n + 1 < w1.heap.size := blk_lt a1
  have sb1 : w1.cell? ⟨SB, 1, none⟩ = some (.map (some db)) := blk_cell HS1.out.sb 1
  have HGM1 := Aside0.mk (HGM.out.ch HC1.out HS.out.dm (by omega))
  clear a0 a1 hn
  cases hd : getDn dn nm with
  | some x =>
    have HG2 := Aside0.mk (show (getS (kvD dn) nm).getD (.agg #[.string ⟨#[]⟩, .int .i64 0, .bool false]) = .agg #[.string x.text, .int .i64 x.depth, .bool x.under] by rw [get_kvD, hd]; rfl)
    have HG3 := Aside0.mk (show (getS (kvD dn) nm).isSome = true by rw [get_kvD, hd]; rfl)
    obtain rfl : r = .ok (x.text, dn) := by rw [HR.out, oneP, hd]
    clear hd
    go_upto_region 4 with (at_lookup; refine wpList_lookupOk_sm _ rfl (.tmp 13) (.tmp 14) 61 rfl 9 85 Try.underlying61 Try.underlying9 (.agg #[.string ⟨#[]⟩, .int .i64 0, .bool false]) (zero85 _) db (kvD dn) rfl HS1.out.dm nm rfl _ HG2.out _ HG3.out ?_)
    have HB2 := Aside0.mk (below_alloc (Below.refl w1.heap.size w1) (.cells #[.string x.text, .int .i64 x.depth, .bool x.under] 85))
    have HX := Aside0.mk (blk_new w1 (.cells #[.string x.text, .int .i64 x.depth, .bool x.under] 85))
    generalize w1.alloc (.cells #[.string x.text, .int .i64 x.depth, .bool x.under] 85) = w2 at HB2 HX ⊢
    have HE2 := Aside0.mk ((HB2.out.block n (by omega)).trans HA0.out)
    have x0 : w2.cell? ⟨w1.heap.size, 0, none⟩ = some (.string x.text) := blk_cell HX.out 0
    have e0 : w2.cell? ⟨n, 0, none⟩ = some (.int .i64 0) := blk_cell HE2.out 0
    have ef := blk_frozen HE2.out 0
    clear sb1
    go_wp2
    refine one_return (n := n) (p := (x.text, dn)) HN.out ?_ (put1 HE2.out _) ?_ HOK.out rfl rfl
    · exact (HC1.out.trans (Ch.below HB2.out (by omega))).trans (Ch.set w2 ⟨n, 0, none⟩ _ (.inl (Nat.le_refl _)))
    · exact (HS1.out.ch (Ch.below (base := n) (S := fun _ => False) HB2.out (by omega)) l1 l2 l3 (fun h => h) (fun h => h) (fun h => h)).ch (n := n) (S := fun _ => False) (Ch.set w2 ⟨n, 0, none⟩ _ (.inl (Nat.le_refl _))) l1 l2 l3 (fun h => h) (fun h => h) (fun h => h)
  | none =>
    have HG2 := Aside0.mk (show (getS (kvD dn) nm).getD (.agg #[.string ⟨#[]⟩, .int .i64 0, .bool false]) = .agg #[.string ⟨#[]⟩, .int .i64 0, .bool false] by rw [get_kvD, hd]; rfl)
    have HG3 := Aside0.mk (show (getS (kvD dn) nm).isSome = false by rw [get_kvD, hd]; rfl)
    have HRX := Aside0.mk (show r = (match workP raw (todo raw dn) dn nm with | .error x => .error x.1 | .ok p => .ok (p.1.text, p.2)) by rw [HR.out, oneP, hd])
    have HWK := Aside0.mk (fun (W : World) (hg : GM W) (hs : Solv SB rb db raw dn W) => work_any (SB := SB) (rb := rb) (db := db) hraw (todo raw dn) dn nm W hg HOK.out (Nat.le_refl _) HV.out hd hs)
    clear hd
    go_upto_region 6 with (at_lookup; refine wpList_lookupOk_sm _ rfl (.tmp 13) (.tmp 14) 61 rfl 9 85 Try.underlying61 Try.underlying9 (.agg #[.string ⟨#[]⟩, .int .i64 0, .bool false]) (zero85 _) db (kvD dn) rfl HS1.out.dm nm rfl _ HG2.out _ HG3.out ?_)
    have HB2 := Aside0.mk (below_alloc (Below.refl w1.heap.size w1) (.cells #[.string ⟨#[]⟩, .int .i64 0, .bool false] 85))
    generalize w1.alloc (.cells #[.string ⟨#[]⟩, .int .i64 0, .bool false] 85) = w2 at HB2 ⊢
    have HE2 := Aside0.mk ((HB2.out.block n (by omega)).trans HA0.out)
    have HP2 := Aside0.mk ((HB2.out.block (n + 1) hn1).trans HA1.out)
    have HS2 := Aside0.mk (HS1.out.ch (Ch.below (base := n) (S := fun _ => False) HB2.out (by omega)) l1 l2 l3 (fun h => h) (fun h => h) (fun h => h))
    have hz2 : n + 1 < w2.heap.size := blk_lt HP2.out
    have HCALL := Aside0.mk (HWK.out w2 (HGM1.out.below HB2.out) HS2.out)
    have HC2 := Aside0.mk (HC1.out.trans (Ch.below HB2.out (by omega)))
    obtain ⟨R, hR⟩ : ∃ R, R = workP raw (todo raw dn) dn nm := ⟨_, rfl⟩
    rw [← hR] at HCALL HRX
    clear hR sb1
    rcases R with y | q
    · obtain rfl : r = .error y.1 := HRX.out
      go_wp2_with (go_at_call 48; refine HCALL.out.mono ?_; rintro e w3 ⟨hch, rfl⟩; have HCH := Aside0.mk hch; clear hch)
      exact one_panic (n := n) (x := y) HN.out l3 (HC2.out.trans (HCH.out.mono (by omega) (fun _ _ e => e))) ((HCH.out.block n (by omega) (by omega)).trans HE2.out) ((HCH.out.block (n + 1) (by omega) (by omega)).trans HP2.out) rfl rfl
    · obtain rfl : r = .ok (q.1.text, q.2) := HRX.out
      go_wp2_with (go_at_call 48; refine HCALL.out.mono ?_; rintro e w3 ⟨hch, he, hs3, hx3, hok3, hv3⟩; rw [show encD q.1 = .agg #[.string q.1.text, .int .i64 q.1.depth, .bool q.1.under] from rfl] at he; subst he; have HCH := Aside0.mk hch; have HS3 := Aside0.mk hs3; have HOK3 := Aside0.mk hok3; have HE3 := Aside0.mk ((hch.block n (by omega) (by omega)).trans HE2.out); have e0 : w3.cell? ⟨n, 0, none⟩ = some (.int .i64 0) := blk_cell HE3.out 0; have ef := blk_frozen HE3.out 0; clear hch hs3 hx3 hok3 hv3)
      refine one_return (n := n) (p := (q.1.text, q.2)) HN.out ?_ (put1 HE3.out _) ?_ HOK3.out rfl rfl
      · exact (HC2.out.trans (HCH.out.mono (by omega) (fun _ _ e => e))).trans (Ch.set w3 ⟨n, 0, none⟩ _ (.inl (Nat.le_refl _)))
      · exact HS3.out.ch (n := n) (S := fun _ => False) (Ch.set w3 ⟨n, 0, none⟩ _ (.inl (Nat.le_refl _))) l1 l2 l3 (fun h => h) (fun h => h) (fun h => h)
end Go.Proofs.Ytfkibolpanlelaa.Q
