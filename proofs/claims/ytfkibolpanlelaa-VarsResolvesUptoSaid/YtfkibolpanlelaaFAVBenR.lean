/- The document's Resolve: what the program's Resolve answers. -/
import Derived.Test.YtfkibolpanlelaaFAVBenW
namespace Go.Proofs.Ytfkibolpanlelaa.Q
open Go Go.RowKit Go.Shelf Go.Proofs.YtfkibolpanlelaaW.PrintWords Go.Proofs.YtfkibolpanlelaaW.PrintLast Go.Proofs.YtfkibolpanlelaaW.PrintMore Go.Proofs.Ytfkibolpanlelaa.SMap
set_option linter.unusedVariables false
set_option linter.unusedSimpArgs false
theorem info57 : (Try.prog.info? 57).map (fun i => (i.zero, i.size, i.bytes)) = some (some (.agg #[.int .i64 0, .string ⟨#[]⟩, .int .i64 0, .int .i64 0]), 4, 40) := by kernel_rfl
theorem made_row (vs : List SV) : madeCells (Value.agg #[.int .i64 0, .string ⟨#[]⟩, .int .i64 0, .int .i64 0]).cells (vs.length * 4) = (rowW vs []).toArray := by
  apply Array.toList_inj.1
  show (madeCells _ _).toList = rowW vs []
  refine ext4 (n := vs.length) (by rw [Array.length_toList]; exact size_madeCells _ _) (rowW_len _ _) fun q k hq hk => ?_
  rw [rowW_at hq hk]
  have hs : (Value.agg #[.int .i64 0, .string ⟨#[]⟩, .int .i64 0, .int .i64 0]).cells = #[.int .i64 0, .string ⟨#[]⟩, .int .i64 0, .int .i64 0] := rfl
  rw [hs]
  unfold madeCells
  rw [Array.getElem?_toList, Array.getElem?_map, Array.getElem?_range, if_pos (by omega)]
  have h4 : k = 0 ∨ k = 1 ∨ k = 2 ∨ k = 3 := by omega
  have hmod : (q * 4 + k) % 4 = k := by omega
  show some ((#[.int .i64 0, .string ⟨#[]⟩, .int .i64 0, .int .i64 0] : Array Value)[(q * 4 + k) % 4]!) = _
  rw [hmod]
  rcases h4 with rfl | rfl | rfl | rfl <;> rfl
theorem make_row (vs : List SV) (hl : vs.length ≤ 256) (w : World) : (Instr.makeSlice 53 (.int .i64 (vs.length : Int)) (.int .i64 (vs.length : Int))).run Try.prog w = .ok (.slice (some ⟨w.heap.size, 0, none⟩) vs.length vs.length) (w.alloc (.cells (rowW vs []).toArray 57)) := by
  obtain ⟨i0, hi, hz⟩ := Option.map_eq_some_iff.1 info57
  simp only [Prod.mk.injEq] at hz
  obtain ⟨h1, h2, h3⟩ := hz
  have := run_makeSlice (P := Try.prog) (w := w) 53 57 i0 _ Try.underlying53 hi h1 .i64 .i64 (vs.length : Int) (vs.length : Int) (by omega) (Int.le_refl _) (by rw [h2]; omega) (by rw [h3]; omega) (by omega)
  rw [this, Int.toNat_natCast, h2, made_row]
theorem one_known (vs : List SV) (dn : DN) (nm : ByteArray) : oneP vs dn nm = match knownP vs (todo vs dn) dn nm with
    | .error y => .error y.1
    | .ok p => .ok (p.1.text, p.2) := by
  unfold oneP knownP
  cases getDn dn nm with
  | some x => rfl
  | none => rfl
theorem workP_nou {raw : List SV} : ∀ (f : Nat) (dn : DN) (nm : ByteArray) (x : VD) (dn' : DN), workP raw f dn nm = .ok (x, dn') → ∀ s y, getDn dn' s = some y → y.under = true → getDn dn s = some y
  | 0, _, _, _, _, h => by cases h
  | f + 1, dn, nm, x, dn', h => by
    rw [workP] at h
    cases hp : piecesOf wkF (wkG (workP raw f) raw) ((findV raw nm).getD z41).f1 ([], 0, setDn dn nm ⟨⟨#[]⟩, 0, true⟩) with
    | error y => rw [hp] at h; cases h
    | ok st =>
      rw [hp] at h
      have h := Except.ok.inj h
      have hw : ∀ s y, getDn st.2.2 s = some y → y.under = true → getDn (setDn dn nm ⟨⟨#[]⟩, 0, true⟩) s = some y := by
        refine piecesP_inv (P := fun st : WS => ∀ s y, getDn st.2.2 s = some y → y.under = true → getDn (setDn dn nm ⟨⟨#[]⟩, 0, true⟩) s = some y) (fun a c i t ha e => ?_) (fun a m i t ha e => ?_) _ _ _ _ (fun s y h _ => h) hp
        · unfold wkF at e
          split at e
          · cases e
          · obtain rfl := Except.ok.inj e
            exact ha
        · obtain ⟨bs, dp, d⟩ := a
          obtain ⟨v, y, d1, k, hv, hk, rfl, hcs⟩ := wkG_ok e
          rcases hcs with ⟨_, rfl⟩ | ⟨_, hr⟩
          · exact ha
          · exact fun s z hz hu => ha s z (workP_nou f d m y d1 hr s z hz hu) hu
      have ex : (⟨strOfNums st.1, st.2.1, false⟩ : VD) = x := congrArg Prod.fst h
      have ed : setDn st.2.2 nm x = dn' := by rw [← ex]; exact congrArg Prod.snd h
      subst ed
      intro s y hy hu
      by_cases e : s = nm
      · subst e
        rw [getDn_same] at hy
        obtain rfl := Option.some.inj hy
        rw [← ex] at hu
        cases hu
      · rw [getDn_other _ e] at hy
        have := hw s y hy hu
        rwa [getDn_other _ e] at this
theorem known_nou {vs : List SV} {f : Nat} {dn dn1 : DN} {nm : ByteArray} {x : VD} (hn : NoU dn) (h : knownP vs f dn nm = .ok (x, dn1)) : NoU dn1 := by
  unfold knownP at h
  cases hg : getDn dn nm with
  | some y =>
    rw [hg] at h
    have h := Except.ok.inj h
    have e : dn = dn1 := congrArg Prod.snd h
    rw [← e]
    exact hn
  | none =>
    rw [hg] at h
    intro s y hy
    cases hb : y.under with
    | false => rfl
    | true => exact absurd (hn s y (workP_nou f dn nm x dn1 h s y hy hb)) (by rw [hb]; decide)
def CkRel (w0 : World) (vs : List SV) (i : Value) (w : World) : Prop := ∃ k : Nat, k ≤ vs.length ∧ i = .int .i64 k ∧ chkV (vs.take k) (vs.drop k) = chkV [] vs ∧ Below w0.heap.size w0 w
theorem vname_at (s : ByteArray) (w : World) {b : Bool} (hb : varNameB s = b) : Calls Try.prog 29 #[.string s] w fun e w' => e = .returned (.bool b) ∧ Below w.heap.size w w' := by
  obtain ⟨k, hk⟩ := (vn_ev s).rounds
  rw [hb] at hk
  refine (shuttleref2_VarName.calls k s b w hk).mono ?_
  rintro e w' ⟨rfl, hd⟩
  exact ⟨rfl, hd.below⟩
theorem index_at (A : Option Addr) (c m : Nat) (l : List SV) (nm : ByteArray) (w : World) (hr : Kd.C k41 w A l.length l) (hm : l.length = m) (hc : m ≤ c) (hl : l.length ≤ 1048576) {j : Int} (hj : idxI l nm 0 = j) : Calls Try.prog 30 #[.slice A m c, .string nm] w fun e w' => e = .returned (.int .i64 j) ∧ ∃ n, w' = w.drewN n := by
  subst hm
  obtain ⟨k, hk⟩ := (idx_ev l nm hl).rounds
  rw [hj] at hk
  refine (shuttleref10_Index.calls k A c l nm _ w hr hc hk).mono ?_
  rintro e w' ⟨rfl, ⟨n, rfl⟩⟩
  exact ⟨rfl, n, rfl⟩
def RPost (w0 : World) (r : List SV × Int × Int) (e : Ending) (w' : World) : Prop :=
  ∃ v, e = .returned (.tuple #[v, .int .i64 r.2.1, .int .i64 r.2.2]) ∧ Kd.R k41 41 w' w0.heap.size (fun _ => True) v r.1 ∧ Below w0.heap.size w0 w'
def SvRel (W0 : World) (P g B0 : Nat) (A : Option Addr) (c : Nat) (vs : List SV) (R : Except (Nat × Int) (List SV)) (v7 v8 : Value) (w : World) : Prop :=
  ∃ (k : Nat) (dn : DN) (out : List SV), k ≤ vs.length ∧ v8 = .int .i64 k ∧ solveP vs dn out (vs.drop k) k = R ∧ out.length = k ∧ okD dn ∧ NoU dn ∧ Ben W0 w P g A c vs (rowW vs dn) ∧ Kd.R k41 41 w B0 (fun _ => True) v7 out
set_option maxHeartbeats 2000000 in
set_option maxRecDepth 100000 in
theorem rres_any (A : Option Addr) (c : Nat) (vs : List SV) (w : World) (hC : Kd.C k41 w A vs.length vs) (hcap : vs.length ≤ c) (htx : ∀ v ∈ vs, v.f1.size ≤ 1073741824) (hl : vs.length ≤ 1048576) :
    Calls Try.prog 12 #[.slice A vs.length c] w (RPost w (resolveP vs)) := by
  obtain ⟨R, hR⟩ : ∃ R, R = resolveP vs := ⟨_, rfl⟩
  rw [← hR]
  have HR := Aside0.mk hR
  have HC := Aside0.mk hC
  have HTX := Aside0.mk htx
  clear hR hC htx
  by_cases h256 : 256 < vs.length
  · have HE : Aside0 (R = ([], 256, 104)) := ⟨by rw [HR.out]; unfold resolveP; rw [if_pos h256]⟩
    have h256I : (256 : Int) < (vs.length : Int) := by omega
    go_enter Try.func12, Try.ntmps12
    go_wp2
    go_ret3
    rw [HE.out]
    exact ⟨_, rfl, Kd.R_nil _ _ _ _ _, Below.refl _ _⟩
  · have h256I : ¬ (256 : Int) < (vs.length : Int) := by omega
    have HR2 := Aside0.mk (show R = match chkV [] vs with
      | some x => ([], (x.1 : Int), x.2)
      | none => match solveP vs [] [] vs 0 with
        | .error x => ([], (x.1 : Int), x.2)
        | .ok out => (out, 0, 0) by
        rw [HR.out]
        unfold resolveP
        rw [if_neg h256]
        cases chkV [] vs with
        | some x => rfl
        | none => cases solveP vs [] [] vs 0 <;> rfl)
    clear HR
    go_enter Try.func12, Try.ntmps12
    go_wp2
    go_loopw [5] (fun i wr => CkRel w vs i wr) (fun i _ => vs.length - (intOf i).toNat)
    case atStart => exact ⟨0, Nat.zero_le _, rfl, rfl, Below.refl _ _⟩
    case round =>
      obtain ⟨k, hk, rfl, hck, hb⟩ := hrel
      have HB := Aside0.mk hb
      clear hb
      by_cases hlt : k < vs.length
      · have hdr : vs.drop k = vs[k] :: vs.drop (k + 1) := List.drop_eq_getElem_cons hlt
        obtain ⟨ad, ea, hx0, hx1⟩ := at_T41 HC.out (k : Int) (by omega) (by omega)
        subst ea
        have HXC := Aside0.mk (World.block_lt_of_cell? w _ hx0)
        rw [rd_var _ _ hlt] at hx0
        rw [Int.toNat_natCast] at hx0
        clear hx1
        have HTK := Aside0.mk (show Kd.C k41 w (some ad) (vs.take k).length (vs.take k) by
          have := Kd.C_take (xs := vs) (m := k) HC.out (by omega)
          exact this)
        have hstep : chkV (vs.take k) (vs.drop k) = if varNameB vs[k].f0 = false then some ((vs.take k).length, 101) else if (findV (vs.take k) vs[k].f0).isSome = true then some ((vs.take k).length, 100) else chkV (vs.take k ++ [vs[k]]) (vs.drop (k + 1)) := by rw [hdr, chkV]
        have hlk : (vs.take k).length = k := by rw [List.length_take]; omega
        have hsn : vs.take k ++ [vs[k]] = vs.take (k + 1) := (List.take_succ_eq_append_getElem hlt).symm
        have hii := idx_get vs[k].f0 (vs.take k) (vs.take k) 0 rfl
        obtain ⟨nm, hnm⟩ : ∃ nm, nm = vs[k].f0 := ⟨_, rfl⟩
        rw [← hnm] at hx0 hstep hii
        have HX0 := Aside0.mk hx0
        replace hx0 : wr.cell? (ad.add (k * 2)) = some (.string nm) := (HB.out.cell HXC.out).trans hx0
        clear hnm hdr
        cases hv : varNameB nm with
        | false =>
          have HE : Aside0 (R = ([], (k : Int), 101)) := ⟨by rw [HR2.out, ← hck, hstep, if_pos hv, hlk]⟩
          have HV := Aside0.mk hv
          clear hck hstep hlk hsn hii hv
          go_wp2_with (go_at_call 29; refine (vname_at nm _ HV.out).mono ?_; rintro e w2 ⟨rfl, hb⟩; have HB2 := Aside0.mk (below_step HB.out hb); clear hb)
          go_ret3
          rw [HE.out]
          exact ⟨_, rfl, Kd.R_nil _ _ _ _ _, HB2.out⟩
        | true =>
          have HV := Aside0.mk hv
          rw [if_neg (by rw [hv]; decide)] at hstep
          clear hv
          obtain ⟨i0, hi0, _, _, _⟩ := info_parts info41
          have hcut := cut_to (P := Try.prog) 22 41 .i64 Try.underlying22 hi0 (some ad) vs.length c (k : Int) (by omega) (by omega) hcap
          rw [Int.toNat_natCast] at hcut
          have HCUT := Aside0.mk hcut
          clear hcut hi0
          rcases hii with ⟨h1, h2⟩ | ⟨j, hj, h1, h2⟩
          · have HIX := Aside0.mk h1
            rw [h2, if_neg (by decide), hsn] at hstep
            have HNX := Aside0.mk (hstep.symm.trans hck)
            clear hck hstep hsn h1 h2
            go_upto_region 8 with (go_at_call 29; refine (vname_at nm _ HV.out).mono ?_; rintro e w2 ⟨rfl, hb⟩; have HB2 := Aside0.mk (below_step HB.out hb); have hx2 : w2.cell? (ad.add (k * 2)) = some (.string nm) := (HB2.out.cell HXC.out).trans HX0.out; have HTK2 := Aside0.mk (Kd.C_below HTK.out HB2.out); clear hb hx0)
            have hcut := HCUT.out
            go_quiet (first | (go_at_call 30; go_loud (refine Calls.quiet_of (index_at (some ad) c k (vs.take k) nm _ (Kd.C_drewN HTK2.out _) hlk (by omega) (by omega) HIX.out))))
            clear hcut
            go_wp2
            exact ⟨⟨k + 1, by omega, by go_num, HNX.out, pw_below_drewN HB2.out _⟩, by simp [intOf]; omega⟩
          · have HIX := Aside0.mk h1
            have hf : (findV (vs.take k) nm).isSome = true := by rw [h2]; rfl
            rw [if_pos hf, hlk] at hstep
            have HE : Aside0 (R = ([], (k : Int), 100)) := ⟨by rw [HR2.out, ← hck, hstep]⟩
            clear hck hstep hsn h1 h2 hf
            go_upto_region 8 with (go_at_call 29; refine (vname_at nm _ HV.out).mono ?_; rintro e w2 ⟨rfl, hb⟩; have HB2 := Aside0.mk (below_step HB.out hb); have hx2 : w2.cell? (ad.add (k * 2)) = some (.string nm) := (HB2.out.cell HXC.out).trans HX0.out; have HTK2 := Aside0.mk (Kd.C_below HTK.out HB2.out); clear hb hx0)
            have hcut := HCUT.out
            go_quiet (first | (go_at_call 30; go_loud (refine Calls.quiet_of (index_at (some ad) c k (vs.take k) nm _ (Kd.C_drewN HTK2.out _) hlk (by omega) (by omega) HIX.out))))
            clear hcut
            go_wp2
            go_ret3
            rw [HE.out]
            exact ⟨_, rfl, Kd.R_nil _ _ _ _ _, pw_below_drewN HB2.out _⟩
      · obtain rfl : k = vs.length := by omega
        rw [List.take_length, List.drop_length] at hck
        have hnone : chkV [] vs = none := by rw [← hck, chkV]
        have HR3 := Aside0.mk (show R = match solveP vs [] [] vs 0 with
          | .error x => ([], (x.1 : Int), x.2)
          | .ok out => (out, 0, 0) by rw [HR2.out, hnone])
        have HNM := Aside0.mk ((chk_iff _ _).1 hnone).2.2
        clear hck hnone HR2
        have hmk := make_row vs (by omega) wr
        go_upto_region 11 with (fail)
        clear hmk
        obtain ⟨g, hg⟩ : ∃ g, g = wr.heap.size := ⟨_, rfl⟩
        have hwg : w.heap.size ≤ g := by have := HB.out.size; omega
        have hb := below_alloc (below_alloc (Below.refl wr.heap.size wr) (.cells (rowW vs []).toArray 57)) (.cells #[.slice A vs.length c, .slice (some ⟨wr.heap.size, 0, none⟩) vs.length vs.length] 55)
        have HROW := Aside0.mk (blk_alloc (at_new wr (.cells (rowW vs []).toArray 57) hg) (.cells #[.slice A vs.length c, .slice (some ⟨wr.heap.size, 0, none⟩) vs.length vs.length] 55))
        have HHEAD := Aside0.mk (at_new (wr.alloc (.cells (rowW vs []).toArray 57)) (.cells #[.slice A vs.length c, .slice (some ⟨wr.heap.size, 0, none⟩) vs.length vs.length] 55) (show g + 1 = _ by simp [hg]))
        have hsz : ((wr.alloc (.cells (rowW vs []).toArray 57)).alloc (.cells #[.slice A vs.length c, .slice (some ⟨wr.heap.size, 0, none⟩) vs.length vs.length] 55)).heap.size = g + 1 + 1 := by simp [hg]
        rw [← hg] at HHEAD hb HROW hsz ⊢
        generalize hw3 : (wr.alloc (.cells (rowW vs []).toArray 57)).alloc (.cells #[.slice A vs.length c, .slice (some ⟨g, 0, none⟩) vs.length vs.length] 55) = w3 at HHEAD hb HROW hsz ⊢
        have HBW3 := Aside0.mk (HB.out.trans (hb.mono (by omega)))
        have HBEN0 := Aside0.mk (show Ben w w3 (g + 1) g A c vs (rowW vs []) from ⟨HBW3.out, HHEAD.out, HROW.out, rowW_len _ _⟩)
        have HCON := Aside0.mk (show Con w (g + 1) g A c vs from ⟨HC.out, hcap, by omega, HNM.out, HTX.out, by omega, hwg, by omega⟩)
        obtain ⟨B0, hB0⟩ : ∃ B0, B0 = g + 1 + 1 := ⟨_, rfl⟩
        obtain ⟨RS, hRS⟩ : ∃ RS, RS = solveP vs [] [] vs 0 := ⟨_, rfl⟩
        have HRS := Aside0.mk hRS
        rw [← hRS] at HR3
        clear hw3 hb hg hRS HB HROW HHEAD
        have hsz3 : B0 ≤ w3.heap.size := by omega
        clear hsz
        go_wp2
        go_loopw [7, 8] (fun v7 v8 wr => SvRel w (g + 1) g B0 A c vs RS v7 v8 wr) (fun _ i _ => vs.length - (intOf i).toNat)
        case atStart => exact ⟨0, [], [], Nat.zero_le _, rfl, by rw [List.drop_zero]; exact HRS.out.symm, rfl, (fun s x hx => by cases hx), (fun s x hx => by cases hx), HBEN0.out, Kd.R_nil _ _ _ _ _⟩
        case round =>
          obtain ⟨k, dn, out, hk, rfl, hsol, hol, hok, hno, hben, hout⟩ := hrel
          obtain ⟨A7, c7, rfl⟩ := Kd.R_slice hout
          rw [hol] at hout
          have HBEN := Aside0.mk hben
          have HOUT := Aside0.mk hout
          have HOK := Aside0.mk hok
          have HNO := Aside0.mk hno
          clear hben hout hok hno HBEN0 HBW3
          by_cases hlt : k < vs.length
          · have hs1 : solveP vs dn out (vs.drop k) k = match oneP vs dn vs[k].f0 with
              | .error e => .error (k, e)
              | .ok p => solveP vs p.2 (out ++ [⟨vs[k].f0, p.1⟩]) (vs.drop (k + 1)) (k + 1) := by
                rw [List.drop_eq_getElem_cons hlt, solveP]
                cases oneP vs dn vs[k].f0 <;> rfl
            rw [one_known] at hs1
            have hwk := bench_any HCON.out (todo vs dn) dn k hlt
            have hnu : ∀ x, getDn dn vs[k].f0 = some x → x.under = false := fun x hx => HNO.out _ _ hx
            rcases hkn : knownP vs (todo vs dn) dn vs[k].f0 with y | p
            · rw [hkn] at hs1 hwk
              have hy := known_ne hkn
              have HWK := Aside0.mk (show ∀ w3, Ben w w3 (g + 1) g A c vs (rowW vs dn) → Calls Try.prog 31 #[.pointer (some ⟨g + 1, 0, none⟩), .int .i64 k] w3 fun e w' => e = .returned (.agg #[.int .i64 2, .string ⟨#[]⟩, .int .i64 0, .int .i64 y.1]) ∧ Stp g w3 w' ∧ ∃ cells, Ben w w' (g + 1) g A c vs cells from
                fun w1 hb1 => (hwk w1 hb1 HOK.out (Nat.le_refl _) hnu).mono fun e w' h => ⟨h.2.1, h.1, h.2.2⟩)
              have hE : RS = .error (k, y.1) := by rw [← hsol, hs1]
              have HE : Aside0 (R = ([], (k : Int), y.1)) := ⟨by rw [HR3.out, hE]⟩
              obtain ⟨co, hco⟩ : ∃ co, co = y.1 := ⟨_, rfl⟩
              rw [← hco] at hy HE HWK
              clear hs1 hwk hnu hkn hsol hE hco
              go_upto_region 16 with (go_at_call 31; go_loud (refine (HWK.out _ HBEN.out).mono ?_); rintro e w4 ⟨rfl, hs4, cells4, hben4⟩; have HBEN4 := Aside0.mk hben4; clear hs4 hben4)
              have HB5 := Aside0.mk (HBEN4.out.below.trans ((below_alloc (Below.refl w4.heap.size w4) (.cells #[.int .i64 2, .string ⟨#[]⟩, .int .i64 0, .int .i64 co] 57)).mono HBEN4.out.below.size))
              obtain ⟨q, hq⟩ : ∃ q, q = w4.heap.size := ⟨_, rfl⟩
              have HX := Aside0.mk (at_new w4 (.cells #[.int .i64 2, .string ⟨#[]⟩, .int .i64 0, .int .i64 co] 57) hq)
              rw [← hq]
              clear hq HBEN4
              generalize w4.alloc (.cells #[.int .i64 2, .string ⟨#[]⟩, .int .i64 0, .int .i64 co] 57) = w5 at HB5 HX ⊢
              have x3 : w5.cell? ⟨q, 3, none⟩ = some (.int .i64 co) := blk_cell HX.out 3
              go_wp2
              go_quiet (fail)
              (try go_wp2)
              go_ret3
              rw [HE.out]
              exact ⟨_, rfl, Kd.R_nil _ _ _ _ _, pw_below_drewN HB5.out _⟩
            · obtain ⟨x, dn1⟩ := p
              rw [hkn] at hs1 hwk
              obtain ⟨k1, k2, k3, k4, k5, k6⟩ := known_facts HOK.out hnu hkn
              have HOK1 := Aside0.mk k1
              have HNO1 := Aside0.mk (show NoU dn1 from known_nou HNO.out hkn)
              have HWK := Aside0.mk (show ∀ w3, Ben w w3 (g + 1) g A c vs (rowW vs dn) → Calls Try.prog 31 #[.pointer (some ⟨g + 1, 0, none⟩), .int .i64 k] w3 fun e w' => e = .returned (.agg #[.int .i64 2, .string x.text, .int .i64 x.depth, .int .i64 0]) ∧ Stp g w3 w' ∧ Ben w w' (g + 1) g A c vs (rowW vs dn1) from
                fun w1 hb1 => (hwk w1 hb1 HOK.out (Nat.le_refl _) hnu).mono fun e w' h => ⟨h.2.1, h.1, h.2.2⟩)
              obtain ⟨ad, ea, hx0, hx1⟩ := at_T41 HC.out (k : Int) (by omega) (by omega)
              subst ea
              rw [rd_var _ _ hlt] at hx0
              rw [Int.toNat_natCast] at hx0
              have HXC := Aside0.mk (World.block_lt_of_cell? w _ hx0)
              have HX0 := Aside0.mk hx0
              have hs2 : solveP vs dn1 (out ++ [(⟨vs[k].f0, x.text⟩ : SV)]) (vs.drop (k + 1)) (k + 1) = RS := by rw [← hsol, hs1]
              have HS2 := Aside0.mk hs2
              obtain ⟨nm, hnm⟩ : ∃ nm, nm = vs[k].f0 := ⟨_, rfl⟩
              obtain ⟨tx, htx⟩ : ∃ tx, tx = x.text := ⟨_, rfl⟩
              obtain ⟨xd, hxd⟩ : ∃ xd, xd = x.depth := ⟨_, rfl⟩
              rw [← hnm, ← htx] at HS2
              rw [← hnm] at HX0
              rw [← htx, ← hxd] at HWK
              clear hs1 hwk hnu hkn hsol hx0 hx1 hs2 hnm htx hxd k1 k2 k3 k4 k5 k6
              go_upto_region 16 with (go_at_call 31; go_loud (refine (HWK.out _ HBEN.out).mono ?_); rintro e w4 ⟨rfl, hs4, hben4⟩; have HBEN4 := Aside0.mk hben4; have HOUT4 := Aside0.mk (Kd.R_mono (Kd.R_kept (Kd.R_bound HOUT.out) hs4.kept (fun j hj e => by have h1_ := hj.2.1; omega)) (fun _ _ => trivial)); have hsz4 : B0 ≤ w4.heap.size := (by have h1_ := blk_lt hben4.head; omega); clear hs4 hben4)
              have hb := below_alloc (Below.refl w4.heap.size w4) (.cells #[.int .i64 2, .string tx, .int .i64 xd, .int .i64 0] 57)
              obtain ⟨q, hq⟩ : ∃ q, q = w4.heap.size := ⟨_, rfl⟩
              have HX := Aside0.mk (at_new w4 (.cells #[.int .i64 2, .string tx, .int .i64 xd, .int .i64 0] 57) hq)
              rw [← hq]
              clear hq
              generalize w4.alloc (.cells #[.int .i64 2, .string tx, .int .i64 xd, .int .i64 0] 57) = w5 at hb HX ⊢
              have HBEN6 := Aside0.mk ((HBEN4.out.step hb).step (below_drew (Below.refl _ _)))
              have HOUT6 := Aside0.mk (Kd.R_drew (Kd.R_below HOUT4.out hb))
              have hb6 : B0 ≤ w5.drew.heap.size := Nat.le_trans hsz4 hb.size
              have x3 : w5.cell? ⟨q, 3, none⟩ = some (.int .i64 0) := blk_cell HX.out 3
              have s1 : w5.cell? ⟨q, 1, none⟩ = some (.string tx) := blk_cell HX.out 1
              have s0 : w5.cell? (ad.add (k * 2)) = some (.string nm) := ((HBEN4.out.step hb).below.cell HXC.out).trans HX0.out
              clear hb
              go_upto_region 18 with (fail)
              refine start_ (n := 12) (S := fun w' => w'.cell? (ad.add (k * 2)) = some (.string nm) ∧ w'.cell? ⟨q, 1, none⟩ = some (.string tx)) (ds := [9, 10]) #[false, false, false, false, false, false, false, false, false, false, false, false] (by kernel_rfl) rfl rfl ⟨s0, s1⟩ (fun hHeld => ?_)
              generalize w5.drew = w6 at hHeld HBEN6 HOUT6 hb6 ⊢
              refine pure_ (i := 0) (N := some 59) (v := ?_) (a' := ?_) #[true, false, false, false, false, false, false, false, false, false, false, false] rfl rfl (by kernel_rfl) (fun _ _ _ h => h) (Or.inl ⟨by rfl, ?_⟩) ?_ ?_
              rotate_left
              · intro w'
                go_simp
                with_reducible rfl
              rotate_left
              · simp only [Act.put, List.setIfInBounds_toArray, List.set_cons_zero, List.set_cons_succ, i64_w, i32_w]
                rfl
              refine pure_ (i := 1) (N := some 60) (v := ?_) (a' := ?_) #[true, true, false, false, false, false, false, false, false, false, false, false] rfl rfl (by kernel_rfl) (fun _ _ _ h => h) (Or.inl ⟨by rfl, ?_⟩) ?_ ?_
              rotate_left
              · intro w'
                go_simp
                with_reducible rfl
              rotate_left
              · simp only [Act.put, List.setIfInBounds_toArray, List.set_cons_zero, List.set_cons_succ, i64_w, i32_w]
                rfl
              refine pure_ (i := 2) (N := some 61) (v := ?_) (a' := ?_) #[true, true, true, false, false, false, false, false, false, false, false, false] rfl rfl (by kernel_rfl) (fun _ _ _ h => h) (Or.inl ⟨by rfl, ?_⟩) ?_ ?_
              rotate_left
              · intro w'
                go_simp
                with_reducible rfl
              rotate_left
              · simp only [Act.put, List.setIfInBounds_toArray, List.set_cons_zero, List.set_cons_succ, i64_w, i32_w]
                rfl
              refine pure_ (i := 3) (N := some 62) (v := ?_) (a' := ?_) #[true, true, true, true, false, false, false, false, false, false, false, false] rfl rfl (by kernel_rfl) (fun _ _ _ h => h) (Or.inl ⟨by rfl, ?_⟩) ?_ ?_
              rotate_left
              · intro w'
                go_simp
                with_reducible rfl
              rotate_left
              · simp only [Act.put, List.setIfInBounds_toArray, List.set_cons_zero, List.set_cons_succ, i64_w, i32_w]
                rfl
              refine pure_ (i := 4) (N := some 63) (v := ?_) (a' := ?_) #[true, true, true, true, true, false, false, false, false, false, false, false] rfl rfl (by kernel_rfl) (fun _ _ _ h => h) (Or.inl ⟨by rfl, ?_⟩) ?_ ?_
              rotate_left
              · intro w'
                go_simp
                with_reducible rfl
              rotate_left
              · simp only [Act.put, List.setIfInBounds_toArray, List.set_cons_zero, List.set_cons_succ, i64_w, i32_w]
                rfl
              refine pure_ (i := 6) (N := some 65) (v := ?_) (a' := ?_) #[true, true, true, true, true, false, true, false, false, false, false, false] rfl rfl (by kernel_rfl) (fun _ _ _ h => h) (Or.inl ⟨by rfl, ?_⟩) ?_ ?_
              rotate_left
              · intro w'
                go_simp
                with_reducible rfl
              rotate_left
              · simp only [Act.put, List.setIfInBounds_toArray, List.set_cons_zero, List.set_cons_succ, i64_w, i32_w]
                rfl
              refine take_ (i := 5) (N := some 64) (v := ?_) (a' := ?_) #[true, true, true, true, true, true, true, false, false, false, false, false] rfl rfl (by kernel_rfl) (fun _ _ _ h => h) (Or.inl ⟨by rfl, ?_⟩) hHeld ?_ ?_
              rotate_left
              · rintro w' ⟨s0, s1⟩
                go_simp
                with_reducible rfl
              rotate_left
              · simp only [Act.put, List.setIfInBounds_toArray, List.set_cons_zero, List.set_cons_succ, i64_w, i32_w]
                rfl
              refine take_ (i := 7) (N := some 66) (v := ?_) (a' := ?_) #[true, true, true, true, true, true, true, true, false, false, false, false] rfl rfl (by kernel_rfl) (fun _ _ _ h => h) (Or.inl ⟨by rfl, ?_⟩) hHeld ?_ ?_
              rotate_left
              · rintro w' ⟨s0, s1⟩
                go_simp
                with_reducible rfl
              rotate_left
              · simp only [Act.put, List.setIfInBounds_toArray, List.set_cons_zero, List.set_cons_succ, i64_w, i32_w]
                rfl
              refine pure_ (i := 8) (N := some 67) (v := ?_) (a' := ?_) #[true, true, true, true, true, true, true, true, true, false, false, false] rfl rfl (by kernel_rfl) (fun _ _ _ h => h) (Or.inl ⟨by rfl, ?_⟩) ?_ ?_
              rotate_left
              · intro w'
                go_simp
                with_reducible rfl
              rotate_left
              · simp only [Act.put, List.setIfInBounds_toArray, List.set_cons_zero, List.set_cons_succ, i64_w, i32_w]
                rfl
              refine last_ (i := 9) (N := some 68) #[true, true, true, true, true, true, true, true, true, true, false, false] rfl rfl (by kernel_rfl) (by decide) (fun K hK => ?_)
              refine value_ (w1 := ?_) (v := ?_) (by rfl) rfl ?_ ?_
              rotate_left 2
              · go_simp
                constructor
                · rfl
                · rfl
              refine hK.out _ _ ?_
              clear hK K
              refine norm_ (a' := ?_) ?_ ?_
              rotate_left
              · show Act.put _ (some 68) _ = _
                simp only [Act.put, List.setIfInBounds_toArray, List.set_cons_zero, List.set_cons_succ, i64_w, i32_w]
                rfl
              refine last_ (i := 10) (N := some 69) #[true, true, true, true, true, true, true, true, true, true, true, false] rfl rfl (by kernel_rfl) (by decide) (fun K hK => ?_)
              refine Kd.R_append_step k41 (w0 := w6) B0 (by rfl) (.tmp 59) (.tmp 68) 22 41 (.agg #[(.string ⟨#[]⟩), (.string ⟨#[]⟩)]) 32 rfl Try.underlying22 info41 rfl (by decide) (by omega) (.slice A7 k c7) out (⟨nm, tx⟩ : SV) [.string nm, .string tx] (fun _ => True) (fun _ => False) rfl rfl ?aP (fun _ hk => hk.elim) (fun _ _ => trivial) HOUT6.out ((Below.refl _ _).mono hb6) hb6 (by omega) ?_
              (case aP => exact k41_mkM _ _ _ (⟨nm, tx⟩ : SV))
              intro v9 w9 ho9 hb9 hg9 hat9
              have HOUT9 := Aside0.mk ho9
              have HBEN9 := Aside0.mk (HBEN6.out.grown hg9 (fun j e => by have h1_ := Kd.R_base HOUT6.out j e; refine ⟨by omega, by omega, by omega⟩))
              clear ho9 hb9 hg9 hat9
              refine hK.out _ _ ?_
              clear hK K
              refine norm_ (a' := ?_) ?_ ?_
              rotate_left
              · show Act.put _ (some 69) _ = _
                simp only [Act.put, List.setIfInBounds_toArray, List.set_cons_zero, List.set_cons_succ, i64_w, i32_w]
                rfl
              refine pure_ (i := 11) (N := some 7) (v := ?_) (a' := ?_) #[true, true, true, true, true, true, true, true, true, true, true, true] rfl rfl (by kernel_rfl) (fun _ _ _ h => h) (Or.inl ⟨by rfl, ?_⟩) ?_ ?_
              rotate_left
              · intro w'
                go_simp
                with_reducible rfl
              rotate_left
              · simp only [Act.put, List.setIfInBounds_toArray, List.set_cons_zero, List.set_cons_succ, i64_w, i32_w]
                rfl
              refine done_ (by kernel_rfl) ?_
              go_wp2
              exact ⟨⟨k + 1, dn1, out ++ [⟨nm, tx⟩], by omega, by go_num, HS2.out, by rw [List.length_append, hol]; rfl, HOK1.out, HNO1.out, HBEN9.out, HOUT9.out⟩, by simp [intOf]; omega⟩
          · obtain rfl : k = vs.length := by omega
            have hE : RS = .ok out := by rw [← hsol, List.drop_length, solveP]
            have HE : Aside0 (R = (out, 0, 0)) := ⟨by rw [HR3.out, hE]⟩
            clear hsol hE
            go_wp2
            go_ret3
            have HF := HOUT.out
            rw [← hol] at HF
            rw [HE.out]
            exact ⟨_, rfl, Kd.R_lower HF (show w.heap.size ≤ B0 by omega), HBEN.out.below⟩
end Go.Proofs.Ytfkibolpanlelaa.Q
