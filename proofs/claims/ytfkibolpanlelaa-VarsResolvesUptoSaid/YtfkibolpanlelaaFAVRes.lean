/- What Resolve of package vars does. -/
import Derived.Test.YtfkibolpanlelaaFAVOne
namespace Go.Proofs.Ytfkibolpanlelaa.Q
open Go Go.RowKit Go.Shelf Go.Proofs.YtfkibolpanlelaaW.PrintWords Go.Proofs.YtfkibolpanlelaaW.PrintLast Go.Proofs.YtfkibolpanlelaaW.PrintMore Go.Proofs.Ytfkibolpanlelaa.SMap
set_option linter.unusedVariables false
set_option linter.unusedSimpArgs false
/-- The first variable whose name is none, or stands ahead: where and why. -/
def chkV : List SV → List SV → Option (Nat × Int)
  | _, [] => none
  | pre, v :: r => if varNameB v.f0 = false then some (pre.length, 101) else if (findV pre v.f0).isSome = true then some (pre.length, 100) else chkV (pre ++ [v]) r
def solveP (raw : List SV) : DN → List SV → List SV → Nat → Except (Nat × Int) (List SV)
  | _, out, [], _ => .ok out
  | dn, out, v :: r, k => match oneP raw dn v.f0 with
    | .error e => .error (k, e)
    | .ok p => solveP raw p.2 (out ++ [⟨v.f0, p.1⟩]) r (k + 1)
/-- What Resolve answers. -/
def resolveP (vs : List SV) : List SV × Int × Int :=
  if 256 < vs.length then ([], 256, 104) else match chkV [] vs with
    | some x => ([], (x.1 : Int), x.2)
    | none => match solveP vs [] [] vs 0 with
      | .error x => ([], (x.1 : Int), x.2)
      | .ok out => (out, 0, 0)
theorem setV_new (v : SV) : ∀ l : List SV, (findV l v.f0).isSome = false → setV l v = l ++ [v]
  | [], _ => rfl
  | x :: r, h => by
    unfold findV at h
    by_cases e : v.f0 = x.f0
    · rw [List.find?_cons_of_pos (by simp [e])] at h; cases h
    · rw [List.find?_cons_of_neg (by simp; exact fun q => e q.symm)] at h
      unfold setV
      rw [if_neg e, setV_new v r h]; rfl
def ResPost (w0 : World) (r : List SV × Int × Int) (e : Ending) (w' : World) : Prop :=
  ∃ v0_ : Value, e = .returned (.tuple #[v0_, .int .i64 r.2.1, .int .i64 r.2.2]) ∧ Kd.R k41 41 w' w0.heap.size (fun _ => True) v0_ r.1 ∧ Below w0.heap.size w0 w'
structure Chk (w0 : World) (vs : List SV) (k : Nat) (w : World) : Prop where
  le : k ≤ vs.length
  solv : Solv (w0.heap.size + 1 + 1) w0.heap.size (w0.heap.size + 1) (vs.take k) [] w
  below : Below w0.heap.size w0 w
  same : chkV (vs.take k) (vs.drop k) = chkV [] vs
def CRel (w0 : World) (vs : List SV) (i : Value) (w : World) : Prop := ∃ k : Nat, i = .int .i64 k ∧ Chk w0 vs k w
structure Slv (w0 : World) (vs : List SV) (k : Nat) (dn : DN) (out : List SV) (v : Value) (w : World) : Prop where
  le : k ≤ vs.length
  solv : Solv (w0.heap.size + 1 + 1) w0.heap.size (w0.heap.size + 1) vs dn w
  below : Below w0.heap.size w0 w
  okd : okD dn
  row : Kd.R k41 41 w (w0.heap.size + 1 + 1 + 1) (fun _ => True) v out
  len : out.length = k
  same : solveP vs dn out (vs.drop k) k = solveP vs [] [] vs 0
def SRel (w0 : World) (vs : List SV) (v i : Value) (w : World) : Prop := ∃ (k : Nat) (dn : DN) (out : List SV), i = .int .i64 k ∧ Slv w0 vs k dn out v w
theorem Solv.below {SB rb db : Nat} {raw : List SV} {dn : DN} {w w' : World} (h : Solv SB rb db raw dn w) (hb : Below w.heap.size w w') : Solv SB rb db raw dn w' where
  sb := (hb.block _ (blk_lt h.sb)).trans h.sb
  rm := (hb.block _ h.rm.lt).trans h.rm
  dm := (hb.block _ h.dm.lt).trans h.dm
  ne := h.ne
theorem solv_start (w : World) : Solv (w.heap.size + 1 + 1) w.heap.size (w.heap.size + 1) [] [] (((w.alloc (.map #[] 0)).alloc (.map #[] 0)).alloc (.cells #[.map (some w.heap.size), .map (some (w.heap.size + 1))] 63)) where
  sb := at_new _ _ (by simp)
  rm := blk_alloc (blk_alloc (at_new w _ rfl) _) _
  dm := blk_alloc (at_new _ _ (by simp)) _
  ne := by omega
set_option maxHeartbeats 2000000 in
set_option maxRecDepth 100000 in
theorem resolve_any (A : Option Addr) (c : Nat) (vs : List SV) (w : World) (hC : Kd.C k41 w A vs.length vs) (hraw : okR vs) (hgm : GM w) :
    Calls Try.prog 14 #[.slice A vs.length c] w (ResPost w (resolveP vs)) := by
  have hlen : vs.length ≤ 9223372036854775807 := hC.2.1
  have HC := Aside0.mk hC
  have HRAW := Aside0.mk hraw
  have HGM := Aside0.mk (fun w' : World => fun h : Below w.heap.size w w' => hgm.below h)
  have hmm := @run_makeMap Try.prog
  clear hC hraw hgm
  obtain ⟨res, hres⟩ : ∃ r, r = resolveP vs := ⟨_, rfl⟩
  rw [← hres]
  by_cases hlong : 256 < vs.length
  · obtain rfl : res = ([], 256, 104) := by rw [hres, resolveP, if_pos hlong]
    clear hres
    go_enter Try.func14, Try.ntmps14
    go_wp2
    go_ret3
    exact ⟨_, rfl, Kd.R_nil _ _ _ _ _, Below.refl _ _⟩
  · have HRES := Aside0.mk (show res = (match chkV [] vs with
      | some x => ([], (x.1 : Int), x.2)
      | none => match solveP vs [] [] vs 0 with
        | .error x => ([], (x.1 : Int), x.2)
        | .ok out => (out, 0, 0)) by rw [hres, resolveP, if_neg hlong])
    clear hres
    go_enter Try.func14, Try.ntmps14
    go_wp2
    have HS0 := Aside0.mk (solv_start w)
    have HB0 := Aside0.mk (below_alloc (below_alloc (below_alloc (Below.refl w.heap.size w) (.map #[] 0)) (.map #[] 0)) (.cells #[.map (some w.heap.size), .map (some (w.heap.size + 1))] 63))
    generalize ((w.alloc (.map #[] 0)).alloc (.map #[] 0)).alloc (.cells #[.map (some w.heap.size), .map (some (w.heap.size + 1))] 63) = ws at HS0 HB0 ⊢
    go_loopw [24] (fun i wr => CRel w vs i wr) (fun i _ => vs.length - (intOf i).toNat)
    case atStart => exact ⟨0, rfl, Nat.zero_le _, HS0.out, HB0.out, rfl⟩
    case round =>
      obtain ⟨k, rfl, hk⟩ := hrel
      have HK := Aside0.mk hk
      have hkl := hk.le
      clear hk
      by_cases hlt : k < vs.length
      · obtain ⟨ad, e, hx, hx1⟩ := at_T41 HC.out (k : Int) (by omega) (by omega)
        subst e
        have hvk : rd_T41 vs (k : Int) = vs[k] := rd_var vs k hlt
        rw [hvk] at hx hx1
        have HDR := Aside0.mk (show vs.drop k = vs[k] :: vs.drop (k + 1) from List.drop_eq_getElem_cons hlt)
        have HTK := Aside0.mk (show vs.take (k + 1) = vs.take k ++ [vs[k]] from List.take_succ_eq_append_getElem hlt)
        have HTL := Aside0.mk (show (vs.take k).length = k by rw [List.length_take]; omega)
        generalize vs[k] = v at hx hx1 HDR HTK
        replace hx : wr.cell? (ad.add (k * 2)) = _ := pw_cell_below HK.out.below hx
        replace hx1 : wr.cell? ⟨(ad.add (k * 2)).block, (ad.add (k * 2)).off + 1, none⟩ = _ := pw_cell_below HK.out.below hx1
        clear hvk
        cases hvn : varNameB v.f0 with
        | false =>
          have HC0 := Aside0.mk (show chkV [] vs = some (k, 101) by rw [← HK.out.same, HDR.out, chkV, if_pos hvn, HTL.out])
          obtain rfl : res = ([], (k : Int), 101) := by rw [HRES.out, HC0.out]
          go_wp2_with (go_at_call 32; refine (varName_any _ _).mono ?_; rintro e w' ⟨rfl, rfl⟩; rw [hvn])
          go_ret3
          exact ⟨_, rfl, Kd.R_nil _ _ _ _ _, below_alloc HK.out.below _⟩
        | true =>
          go_upto_region 9 with (go_at_call 32; refine (varName_any _ _).mono ?_; rintro e w' ⟨rfl, rfl⟩; rw [hvn])
          have HBX := Aside0.mk (below_alloc (Below.refl wr.heap.size wr) (.cells #[.string v.f0, .string v.f1] 41))
          have HVB := Aside0.mk (blk_new wr (.cells #[.string v.f0, .string v.f1] 41))
          obtain ⟨b, hb⟩ : ∃ b, b = wr.heap.size := ⟨_, rfl⟩
          rw [← hb] at HVB ⊢
          generalize wr.alloc (.cells #[.string v.f0, .string v.f1] 41) = w1 at HBX HVB ⊢
          have HS1 := Aside0.mk (HK.out.solv.below HBX.out)
          have HB1 := Aside0.mk (show Below w.heap.size w w1 from below_step HK.out.below HBX.out)
          obtain ⟨n, hn⟩ : ∃ n, n = w.heap.size := ⟨_, rfl⟩
          have HN := Aside0.mk hn
          rw [← hn] at HS1 ⊢
          clear hx hx1 hb hn
          obtain ⟨tw, htw⟩ : ∃ tw, tw = (findV (vs.take k) v.f0).isSome := ⟨_, rfl⟩
          obtain ⟨za, zb, hz⟩ : ∃ za zb : ByteArray, (getS (kvV (vs.take k)) v.f0).getD (.agg #[.string ⟨#[]⟩, .string ⟨#[]⟩]) = .agg #[.string za, .string zb] := by
            rw [get_kvV]
            cases findV (vs.take k) v.f0 with
            | none => exact ⟨_, _, rfl⟩
            | some rv => exact ⟨_, _, rfl⟩
          have hlk : ∀ W : World, SM W n (kvV (vs.take k)) → (Instr.lookup 60 (.map (some n)) (.string v.f0) true).run Try.prog W = .ok (.tuple #[.agg #[.string za, .string zb], .bool tw]) W := fun W h => by
            have := h.lookupOk (P := Try.prog) Try.underlying60 Try.underlying9 (zero41 W) v.f0
            rw [hz, get_kvV, Option.isSome_map, ← htw] at this
            exact this
          have g0 : w1.cell? ⟨n + 1 + 1, 0, none⟩ = some (.map (some n)) := blk_cell HS1.out.sb 0
          have g1 : w1.cell? ⟨b, 0, none⟩ = some (.string v.f0) := blk_cell HVB.out 0
          have hsm := HS1.out.rm
          have g2 := hlk w1.drew hsm
          have HTW := Aside0.mk htw
          clear htw hz hsm
          refine start_ (n := 13) (S := fun w' => w'.cell? ⟨n + 1 + 1, 0, none⟩ = some (.map (some n)) ∧ w'.cell? ⟨b, 0, none⟩ = some (.string v.f0) ∧ (Instr.lookup 60 (.map (some n)) (.string v.f0) true).run Try.prog w' = .ok (.tuple #[.agg #[.string za, .string zb], .bool tw]) w') (ds := [11]) #[false, false, false, false, false, false, false, false, false, false, false, false, false] (by kernel_rfl) rfl rfl ⟨g0, g1, g2⟩ (fun hHeld => ?_)
          refine pure_ (i := 0) (N := some 35) (v := ?_) (a' := ?_) #[true, false, false, false, false, false, false, false, false, false, false, false, false] rfl rfl (by kernel_rfl) (fun _ _ _ h => h) (Or.inl ⟨by rfl, ?_⟩) ?_ ?_
          rotate_left
          · intro w'
            go_simp
            with_reducible rfl
          rotate_left
          · simp only [Act.put, List.setIfInBounds_toArray, List.set_cons_zero, List.set_cons_succ, i64_w, i32_w]
            rfl
          refine pure_ (i := 1) (N := some 36) (v := ?_) (a' := ?_) #[true, true, false, false, false, false, false, false, false, false, false, false, false] rfl rfl (by kernel_rfl) (fun _ _ _ h => h) (Or.inl ⟨by rfl, ?_⟩) ?_ ?_
          rotate_left
          · intro w'
            go_simp
            with_reducible rfl
          rotate_left
          · simp only [Act.put, List.setIfInBounds_toArray, List.set_cons_zero, List.set_cons_succ, i64_w, i32_w]
            rfl
          refine pure_ (i := 2) (N := some 37) (v := ?_) (a' := ?_) #[true, true, true, false, false, false, false, false, false, false, false, false, false] rfl rfl (by kernel_rfl) (fun _ _ _ h => h) (Or.inl ⟨by rfl, ?_⟩) ?_ ?_
          rotate_left
          · intro w'
            go_simp
            with_reducible rfl
          rotate_left
          · simp only [Act.put, List.setIfInBounds_toArray, List.set_cons_zero, List.set_cons_succ, i64_w, i32_w]
            rfl
          refine pure_ (i := 4) (N := some 39) (v := ?_) (a' := ?_) #[true, true, true, false, true, false, false, false, false, false, false, false, false] rfl rfl (by kernel_rfl) (fun _ _ _ h => h) (Or.inl ⟨by rfl, ?_⟩) ?_ ?_
          rotate_left
          · intro w'
            go_simp
            with_reducible rfl
          rotate_left
          · simp only [Act.put, List.setIfInBounds_toArray, List.set_cons_zero, List.set_cons_succ, i64_w, i32_w]
            rfl
          refine take_ (i := 3) (N := some 38) (v := ?_) (a' := ?_) #[true, true, true, true, true, false, false, false, false, false, false, false, false] rfl rfl (by kernel_rfl) (fun _ _ _ h => h) (Or.inl ⟨by rfl, ?_⟩) hHeld ?_ ?_
          rotate_left
          · rintro w' ⟨s0, s1, s2⟩
            go_simp
            with_reducible rfl
          rotate_left
          · simp only [Act.put, List.setIfInBounds_toArray, List.set_cons_zero, List.set_cons_succ, i64_w, i32_w]
            rfl
          refine take_ (i := 5) (N := some 40) (v := ?_) (a' := ?_) #[true, true, true, true, true, true, false, false, false, false, false, false, false] rfl rfl (by kernel_rfl) (fun _ _ _ h => h) (Or.inl ⟨by rfl, ?_⟩) hHeld ?_ ?_
          rotate_left
          · rintro w' ⟨s0, s1, s2⟩
            go_simp
            with_reducible rfl
          rotate_left
          · simp only [Act.put, List.setIfInBounds_toArray, List.set_cons_zero, List.set_cons_succ, i64_w, i32_w]
            rfl
          refine take_ (i := 6) (N := some 41) (v := ?_) (a' := ?_) #[true, true, true, true, true, true, true, false, false, false, false, false, false] rfl rfl (by kernel_rfl) (fun _ _ _ h => h) (Or.inl ⟨by rfl, ?_⟩) hHeld ?_ ?_
          rotate_left
          · rintro w' ⟨s0, s1, s2⟩
            go_simp
            with_reducible rfl
          rotate_left
          · simp only [Act.put, List.setIfInBounds_toArray, List.set_cons_zero, List.set_cons_succ, i64_w, i32_w]
            rfl
          refine pure_ (i := 7) (N := some 34) (v := ?_) (a' := ?_) #[true, true, true, true, true, true, true, true, false, false, false, false, false] rfl rfl (by kernel_rfl) (fun _ _ _ h => h) (Or.inl ⟨by rfl, ?_⟩) ?_ ?_
          rotate_left
          · intro w'
            go_simp
            with_reducible rfl
          rotate_left
          · simp only [Act.put, List.setIfInBounds_toArray, List.set_cons_zero, List.set_cons_succ, i64_w, i32_w]
            rfl
          refine pure_ (i := 8) (N := some 42) (v := ?_) (a' := ?_) #[true, true, true, true, true, true, true, true, true, false, false, false, false] rfl rfl (by kernel_rfl) (fun _ _ _ h => h) (Or.inl ⟨by rfl, ?_⟩) ?_ ?_
          rotate_left
          · intro w'
            go_simp
            with_reducible rfl
          rotate_left
          · simp only [Act.put, List.setIfInBounds_toArray, List.set_cons_zero, List.set_cons_succ, i64_w, i32_w]
            rfl
          refine pure_ (i := 9) (N := some 43) (v := ?_) (a' := ?_) #[true, true, true, true, true, true, true, true, true, true, false, false, false] rfl rfl (by kernel_rfl) (fun _ _ _ h => h) (Or.inl ⟨by rfl, ?_⟩) ?_ ?_
          rotate_left
          · intro w'
            go_simp
            with_reducible rfl
          rotate_left
          · simp only [Act.put, List.setIfInBounds_toArray, List.set_cons_zero, List.set_cons_succ, i64_w, i32_w]
            rfl
          refine one_ (i := 10) (N := some 8) #[true, true, true, true, true, true, true, true, true, true, true, false, false] rfl rfl (by kernel_rfl) (by decide) (fun K hK => ?_)
          refine value_ (w1 := ?_) (v := ?_) (by rfl) rfl ?_ ?_
          rotate_left 2
          · go_simp
            constructor
            · rfl
            · rfl
          refine hK.out _ _ ⟨pw_cell_below (below_alloc (Below.refl _ _) _) hHeld.1, pw_cell_below (below_alloc (Below.refl _ _) _) hHeld.2.1, hlk _ (SM.alloc (show SM w1.drew n (kvV (vs.take k)) from HS1.out.rm) _)⟩ (fun hHeld => ?_)
          clear hK K
          refine norm_ (a' := ?_) ?_ ?_
          rotate_left
          · show Act.put _ (some 8) _ = _
            simp only [Act.put, List.setIfInBounds_toArray, List.set_cons_zero, List.set_cons_succ, i64_w, i32_w]
            rfl
          refine last_ (i := 11) (N := none) #[true, true, true, true, true, true, true, true, true, true, true, true, false] rfl rfl (by kernel_rfl) (by decide) (fun K hK => ?_)
          refine skip_ (w1 := ?_) (by rfl) rfl ?_ ?_
          rotate_left
          · go_simp
            rfl
          refine hK.out _ _ ?_
          clear hK K
          refine pure_ (i := 12) (N := some 9) (v := ?_) (a' := ?_) #[true, true, true, true, true, true, true, true, true, true, true, true, true] rfl rfl (by kernel_rfl) (fun _ _ _ h => h) (Or.inl ⟨by rfl, ?_⟩) ?_ ?_
          rotate_left
          · intro w'
            go_simp
            with_reducible rfl
          rotate_left
          · simp only [Act.put, List.setIfInBounds_toArray, List.set_cons_zero, List.set_cons_succ, i64_w, i32_w]
            rfl
          refine done_ (by kernel_rfl) ?_
          have HB2 := Aside0.mk (show Below w1.heap.size w1 (w1.alloc (.cells #[.string za, .string zb] 41)).drew from (below_alloc (Below.refl _ _) _).trans ⟨rfl, rfl, rfl, by show _ ≤ (w1.alloc _).heap.size; simp, fun _ _ => rfl⟩)
          clear g0 g1 g2 hHeld hlk
          generalize (w1.alloc (.cells #[.string za, .string zb] 41)).drew = w2 at HB2 ⊢
          have HS2 := Aside0.mk (HS1.out.below HB2.out)
          have HVB2 := Aside0.mk ((HB2.out.block b (blk_lt HVB.out)).trans HVB.out)
          have HBW2 := Aside0.mk (below_step HB1.out HB2.out)
          cases tw with
          | true =>
            have HC0 := Aside0.mk (show chkV [] vs = some (k, 100) by rw [← HK.out.same, HDR.out, chkV, if_neg (by rw [hvn]; decide), if_pos HTW.out.symm, HTL.out])
            obtain rfl : res = ([], (k : Int), 100) := by rw [HRES.out, HC0.out]
            go_wp2
            go_ret3
            exact ⟨_, rfl, Kd.R_nil _ _ _ _ _, HBW2.out⟩
          | false =>
            have HNX := Aside0.mk (show chkV (vs.take (k + 1)) (vs.drop (k + 1)) = chkV [] vs by rw [← HK.out.same, HDR.out, chkV, if_neg (by rw [hvn]; decide), if_neg (by rw [← HTW.out]; decide), HTK.out])
            have HSN := Aside0.mk (show setV (vs.take k) v = vs.take (k + 1) by rw [HTK.out]; exact setV_new v _ HTW.out.symm)
            go_upto_region 12 with (fail)
            obtain ⟨w3, hrun, hsm3, hg3, hz3⟩ := update2 (P := Try.prog) (show SM w2.drew n (kvV (vs.take k)) from HS2.out.rm) Try.underlying60 Try.underlying9 v.f0 (.agg #[.string v.f0, .string v.f1])
            have g0 : w2.cell? ⟨n + 1 + 1, 0, none⟩ = some (.map (some n)) := blk_cell HS2.out.sb 0
            have g1 : w2.cell? ⟨b, 0, none⟩ = some (.string v.f0) := blk_cell HVB2.out 0
            have g2 : w2.cell? ⟨b, 1, none⟩ = some (.string v.f1) := blk_cell HVB2.out 1
            refine start_ (n := 8) (S := fun w' => w'.cell? ⟨n + 1 + 1, 0, none⟩ = some (.map (some n)) ∧ w'.cell? ⟨b, 0, none⟩ = some (.string v.f0) ∧ w'.cell? ⟨b, 1, none⟩ = some (.string v.f1)) (ds := [7]) #[false, false, false, false, false, false, false, false] (by kernel_rfl) rfl rfl ⟨g0, g1, g2⟩ (fun hHeld => ?_)
            refine pure_ (i := 0) (N := some 46) (v := ?_) (a' := ?_) #[true, false, false, false, false, false, false, false] rfl rfl (by kernel_rfl) (fun _ _ _ h => h) (Or.inl ⟨by rfl, ?_⟩) ?_ ?_
            rotate_left
            · intro w'
              go_simp
              with_reducible rfl
            rotate_left
            · simp only [Act.put, List.setIfInBounds_toArray, List.set_cons_zero, List.set_cons_succ, i64_w, i32_w]
              rfl
            refine pure_ (i := 1) (N := some 47) (v := ?_) (a' := ?_) #[true, true, false, false, false, false, false, false] rfl rfl (by kernel_rfl) (fun _ _ _ h => h) (Or.inl ⟨by rfl, ?_⟩) ?_ ?_
            rotate_left
            · intro w'
              go_simp
              with_reducible rfl
            rotate_left
            · simp only [Act.put, List.setIfInBounds_toArray, List.set_cons_zero, List.set_cons_succ, i64_w, i32_w]
              rfl
            refine pure_ (i := 2) (N := some 48) (v := ?_) (a' := ?_) #[true, true, true, false, false, false, false, false] rfl rfl (by kernel_rfl) (fun _ _ _ h => h) (Or.inl ⟨by rfl, ?_⟩) ?_ ?_
            rotate_left
            · intro w'
              go_simp
              with_reducible rfl
            rotate_left
            · simp only [Act.put, List.setIfInBounds_toArray, List.set_cons_zero, List.set_cons_succ, i64_w, i32_w]
              rfl
            refine pure_ (i := 4) (N := some 50) (v := ?_) (a' := ?_) #[true, true, true, false, true, false, false, false] rfl rfl (by kernel_rfl) (fun _ _ _ h => h) (Or.inl ⟨by rfl, ?_⟩) ?_ ?_
            rotate_left
            · intro w'
              go_simp
              with_reducible rfl
            rotate_left
            · simp only [Act.put, List.setIfInBounds_toArray, List.set_cons_zero, List.set_cons_succ, i64_w, i32_w]
              rfl
            refine take_ (i := 3) (N := some 49) (v := ?_) (a' := ?_) #[true, true, true, true, true, false, false, false] rfl rfl (by kernel_rfl) (fun _ _ _ h => h) (Or.inl ⟨by rfl, ?_⟩) hHeld ?_ ?_
            rotate_left
            · rintro w' ⟨s0, s1, s2⟩
              go_simp
              with_reducible rfl
            rotate_left
            · simp only [Act.put, List.setIfInBounds_toArray, List.set_cons_zero, List.set_cons_succ, i64_w, i32_w]
              rfl
            refine take_ (i := 5) (N := some 51) (v := ?_) (a' := ?_) #[true, true, true, true, true, true, false, false] rfl rfl (by kernel_rfl) (fun _ _ _ h => h) (Or.inl ⟨by rfl, ?_⟩) hHeld ?_ ?_
            rotate_left
            · rintro w' ⟨s0, s1, s2⟩
              go_simp
              with_reducible rfl
            rotate_left
            · simp only [Act.put, List.setIfInBounds_toArray, List.set_cons_zero, List.set_cons_succ, i64_w, i32_w]
              rfl
            refine take_ (i := 6) (N := some 52) (v := ?_) (a' := ?_) #[true, true, true, true, true, true, true, false] rfl rfl (by kernel_rfl) (fun _ _ _ h => h) (Or.inl ⟨by rfl, ?_⟩) hHeld ?_ ?_
            rotate_left
            · rintro w' ⟨s0, s1, s2⟩
              go_simp
              with_reducible rfl
            rotate_left
            · simp only [Act.put, List.setIfInBounds_toArray, List.set_cons_zero, List.set_cons_succ, i64_w, i32_w]
              rfl
            refine last_ (i := 7) (N := none) #[true, true, true, true, true, true, true, true] rfl rfl (by kernel_rfl) (by decide) (fun K hK => ?_)
            refine skip_ (w1 := ?_) (by rfl) rfl ?_ ?_
            rotate_left
            · go_simp
              first | rfl | (rw [hrun]; rfl)
            refine hK.out _ _ ?_
            clear hK K
            refine done_ (by kernel_rfl) ?_
            rw [set_kv, HSN.out] at hsm3
            have hbl : ∀ j, j < w2.heap.size → j ≠ n → w3.heap[j]? = w2.heap[j]? := fun j hj h => hg3.block j hj (fun e => h (Option.some.inj e))
            have HS3 := Aside0.mk (show Solv (n + 1 + 1) n (n + 1) (vs.take (k + 1)) [] w3 from { sb := (hbl _ (blk_lt HS2.out.sb) (by omega)).trans HS2.out.sb, rm := hsm3, dm := (hbl _ HS2.out.dm.lt (by omega)).trans HS2.out.dm, ne := HS2.out.ne })
            have HBW3 := Aside0.mk (show Below w.heap.size w w3 from HBW2.out.trans ⟨hg3.os, hg3.tape, hg3.output, hg3.size, fun j hj => hbl j (by have := HBW2.out.size; omega) (by rw [HN.out]; omega)⟩)
            clear hrun hsm3 hg3 hz3 g0 g1 g2 hHeld hbl
            go_wp2
            have hn := HN.out
            clear HN
            subst hn
            refine ⟨?_, by simp [intOf]; omega⟩
            (repeat apply Exists.intro)
            refine ⟨⟨k + 1, by go_num, by omega, HS3.out, HBW3.out, HNX.out⟩, ?_⟩
            rfl
      · have HT := Aside0.mk (show vs.take k = vs from List.take_of_length_le (by omega))
        have HD := Aside0.mk (show vs.drop k = [] from List.drop_eq_nil_of_le (by omega))
        have HC0 := Aside0.mk (show chkV [] vs = none by rw [← HK.out.same, HD.out]; rfl)
        have HSV0 := Aside0.mk (show Solv (w.heap.size + 1 + 1) w.heap.size (w.heap.size + 1) vs [] wr by have := HK.out.solv; rw [HT.out] at this; exact this)
        have HBW0 := Aside0.mk HK.out.below
        have HRS2 := Aside0.mk (show res = (match solveP vs [] [] vs 0 with
          | .error x => ([], (x.1 : Int), x.2)
          | .ok out => (out, 0, 0)) by rw [HRES.out, HC0.out])
        clear HK HT HD HC0
        obtain ⟨wo, rfl⟩ : ∃ wo : World, wo = wr := ⟨_, rfl⟩
        go_wp2
        go_loopw [10, 56] (fun v i wr => SRel w vs v i wr) (fun _ i _ => vs.length - (intOf i).toNat)
        case atStart => exact ⟨0, [], [], rfl, Nat.zero_le _, HSV0.out, HBW0.out, (fun _ _ h => by cases h), Kd.R_nil _ _ _ _ _, rfl, rfl⟩
        case round =>
          obtain ⟨k2, dn, out, rfl, hk2⟩ := hrel
          have HK := Aside0.mk hk2
          have hk2l := hk2.le
          clear hk2
          by_cases hlt2 : k2 < vs.length
          · obtain ⟨ad, e, hx, hx1⟩ := at_T41 HC.out (k2 : Int) (by omega) (by omega)
            subst e
            have hvk : rd_T41 vs (k2 : Int) = vs[k2] := rd_var vs k2 hlt2
            rw [hvk] at hx hx1
            have HDR := Aside0.mk (show vs.drop k2 = vs[k2] :: vs.drop (k2 + 1) from List.drop_eq_getElem_cons hlt2)
            have HFV := Aside0.mk (show (findV vs vs[k2].f0).isSome = true by
              unfold findV
              rw [List.find?_isSome]
              exact ⟨vs[k2], List.getElem_mem hlt2, by simp⟩)
            generalize vs[k2] = v at hx hx1 HDR HFV
            replace hx : wr.cell? (ad.add (k2 * 2)) = _ := pw_cell_below HK.out.below hx
            replace hx1 : wr.cell? ⟨(ad.add (k2 * 2)).block, (ad.add (k2 * 2)).off + 1, none⟩ = _ := pw_cell_below HK.out.below hx1
            clear hvk
            go_upto_region 18 with (fail)
            have HBX := Aside0.mk (below_alloc (Below.refl wr.heap.size wr) (.cells #[.string v.f0, .string v.f1] 41))
            have HVB := Aside0.mk (blk_new wr (.cells #[.string v.f0, .string v.f1] 41))
            obtain ⟨b, hb⟩ : ∃ b, b = wr.heap.size := ⟨_, rfl⟩
            have hbn : w.heap.size + 1 + 1 < b := by rw [hb]; exact blk_lt HK.out.solv.sb
            rw [← hb] at HVB ⊢
            generalize wr.alloc (.cells #[.string v.f0, .string v.f1] 41) = w1 at HBX HVB ⊢
            have HS1 := Aside0.mk (HK.out.solv.below HBX.out)
            have HB1 := Aside0.mk (show Below w.heap.size w w1 from below_step HK.out.below HBX.out)
            have HR1 := Aside0.mk (Kd.R_below HK.out.row HBX.out)
            have HONE := Aside0.mk (one_any HRAW.out dn v.f0 w1 (HGM.out w1 HB1.out) HK.out.okd HFV.out HS1.out)
            have g1 : w1.cell? ⟨b, 0, none⟩ = some (.string v.f0) := blk_cell HVB.out 0
            clear hx hx1 hb
            obtain ⟨R, hR⟩ : ∃ R, R = oneP vs dn v.f0 := ⟨_, rfl⟩
            have HRE := Aside0.mk hR
            rw [← hR] at HONE
            clear hR
            rcases R with e1 | p
            · have he1 : e1 ≠ 0 := by
                have := HRE.out
                unfold oneP at this
                cases hd : getDn dn v.f0 with
                | some x => rw [hd] at this; cases this
                | none =>
                  rw [hd] at this
                  cases hw : workP vs (todo vs dn) dn v.f0 with
                  | ok q => rw [hw] at this; cases this
                  | error y =>
                    rw [hw] at this
                    injection this with this
                    rw [this]
                    exact workP_ne _ _ _ _ _ hw
              obtain rfl : res = ([], (k2 : Int), e1) := by rw [HRS2.out, ← HK.out.same, HDR.out, solveP, ← HRE.out]
              go_wp2_with (go_at_call 33; refine HONE.out.mono ?_; rintro e w2 ⟨hch, rfl⟩; have HCH := Aside0.mk hch; clear hch)
              go_ret3
              exact ⟨_, rfl, Kd.R_nil _ _ _ _ _, HB1.out.trans ⟨HCH.out.os, HCH.out.tape, HCH.out.output, HCH.out.size, fun j hj => HCH.out.block j (by have := HB1.out.size; omega) (by omega)⟩⟩
            · have HNX := Aside0.mk (show solveP vs p.2 (out ++ [⟨v.f0, p.1⟩]) (vs.drop (k2 + 1)) (k2 + 1) = solveP vs [] [] vs 0 by rw [← HK.out.same, HDR.out, solveP, ← HRE.out])
              have hol := HK.out.len
              have hvl : vs.length ≤ 256 := by omega
              go_wp2_with (first
                | (go_at_call 33; refine HONE.out.mono ?_; rintro e w2 ⟨hch, rfl, hs2, hok2⟩; have HS2 := Aside0.mk hs2; have HOK2 := Aside0.mk hok2; have HB2 := Aside0.mk (show Below w.heap.size w w2 from HB1.out.trans ⟨hch.os, hch.tape, hch.output, hch.size, fun j hj => hch.block j (by have := HB1.out.size; omega) (by omega)⟩); have HR2 := Aside0.mk (Kd.R_mono (ok' := fun _ => True) (Kd.R_step (Kd.R_bound HR1.out) (fun j hj hl => hch.block j hl (by have := hj.2.1; omega))) (fun _ _ => trivial)); have hvb2 := (hch.block b (blk_lt HVB.out) (by omega)).trans HVB.out; have q0 : w2.cell? ⟨b, 0, none⟩ = some (.string v.f0) := blk_cell hvb2 0; have hsz2 : w.heap.size + 1 + 1 + 1 ≤ w2.heap.size := by have := blk_lt HS2.out.sb; omega
                   clear hch hs2 hok2 hvb2 g1)
                | (at_builtin; go_loud (refine Kd.R_append k41 (w0 := w2) (w.heap.size + 1 + 1 + 1) rfl (.tmp 72) (.tmp 77) 22 41 (.agg #[(.string ⟨#[]⟩), (.string ⟨#[]⟩)]) 32 rfl Try.underlying22 info41 rfl (by decide) (by omega) u10 out ⟨v.f0, p.1⟩ [.string v.f0, .string p.1] (fun _ => True) (fun _ => False) rfl (by first | (go_simp; done) | (go_simp; rfl)) (k41_mkM _ _ _ _) (fun _ h => h.elim) (fun _ _ => trivial) HR2.out ((Below.refl _ _).mono hsz2) hsz2 (by rw [hol]; omega) ?_); intro v3 w3 ho3 hb3 hg3 hat3))
              go_roundw
              case rel => exact ⟨k2 + 1, p.2, out ++ [⟨v.f0, p.1⟩], by go_num, by omega, HS2.out.ch (n := w.heap.size + 1 + 1 + 1) (S := fun _ => False) ⟨hb3.os, hb3.tape, hb3.output, hb3.size, fun j hj _ => hb3.block j hj⟩ (by omega) (by omega) (by omega) (fun h => h) (fun h => h) (fun h => h), HB2.out.trans (hb3.mono (by omega)), HOK2.out, ho3, by rw [List.length_append, hol]; rfl, HNX.out⟩
              case measure => simp [intOf]; omega
          · have HD2 := Aside0.mk (show vs.drop k2 = [] from List.drop_eq_nil_of_le (by omega))
            obtain rfl : res = (out, 0, 0) := by rw [HRS2.out, ← HK.out.same, HD2.out]; rfl
            go_wp2
            go_ret3
            exact ⟨_, rfl, Kd.R_lower HK.out.row (by omega), HK.out.below⟩
end Go.Proofs.Ytfkibolpanlelaa.Q
