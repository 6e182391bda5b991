/- What the matrix package's Build makes: the walk. -/
import Derived.Test.YtdgllnaeookddaaDAGStand
namespace Go.Proofs.Ytdgllnaeookddaa.Q
open Go.RowKit Go.Proofs.YtdgllnaeookddaaW.PrintWords Go.Proofs.YtdgllnaeookddaaW.PrintLast Go.Proofs.YtdgllnaeookddaaW.PrintMore
set_option linter.unusedVariables false
set_option linter.unusedSimpArgs false
def addInc : List (List SV) → List (List SV) → List (List SV)
  | out, [] => out
  | out, x :: r => addInc (if out.any (fun p => decide (p.length = x.length) && holdsB x p) then out else out ++ [x]) r
def keptP (axes : AX) (exc : List (List SV)) : List (List SV) := (allPicks axes).filter fun p => !hitB exc p
def buildP (axes : AX) (inc exc : List (List SV)) : List (List SV) × Int × Int :=
  if checkI axes inc exc = 0 then (if 256 < countI axes inc exc then ([], 0, 132) else if axes.length = 0 ∧ inc.length = 0 then ([[]], 1, 0) else (addInc (keptP axes exc) inc, countI axes inc exc, 0)) else ([], 0, checkI axes inc exc)
def BuildPost (w : World) (r : List (List SV) × Int × Int) (e : Ending) (w' : World) : Prop :=
  ∃ v0_ : Value, e = .returned (.tuple #[v0_, .int .i64 r.2.1, .int .i64 r.2.2]) ∧ Kd.S (Kd.slice 51 k51) 36 w' w.heap.size (fun _ => True) v0_ r.1 ∧ Below w.heap.size w w'
theorem box3 {W1 wr : World} {s : Nat} {a b c : Value} {t : TypeId} (h : W1.heap[s]? = some (.cells #[a, b, c] t (0, 0))) (hb : Below W1.heap.size W1 wr) :
    wr.cell? ⟨s, 0, none⟩ = some a ∧ wr.cell? ⟨s, 1, none⟩ = some b ∧ wr.cell? ⟨s, 2, none⟩ = some c :=
  ⟨(blk_cell (boxm h hb) 0).trans rfl, (blk_cell (boxm h hb) 1).trans rfl, (blk_cell (boxm h hb) 2).trans rfl⟩
theorem kept_step (axes : AX) (exc : List (List SV)) (n : Nat) (h : n < many axes) : ((allPicks axes).take (n + 1)).filter (fun q => !hitB exc q) = ((allPicks axes).take n).filter (fun q => !hitB exc q) ++ (if hitB exc ((allPicks axes).getD n []) then [] else [(allPicks axes).getD n []]) := by
  have hn : n < (allPicks axes).length := by rw [allPicks_length]; exact h
  have e : (allPicks axes).getD n [] = (allPicks axes)[n] := by simp [hn]
  rw [List.take_succ_eq_append_getElem hn, List.filter_append, e]
  congr 1
  cases hd : hitB exc (allPicks axes)[n] <;> simp [hd]
def incOk (x p : List SV) : Bool := decide (p.length = x.length) && holdsB x p
theorem addInc_snoc : ∀ (l : List (List SV)) (o : List (List SV)) (x : List SV), addInc o (l ++ [x]) = if (addInc o l).any (incOk x) then addInc o l else addInc o l ++ [x]
  | [], o, x => rfl
  | y :: r, o, x => addInc_snoc r _ x
theorem addInc_len : ∀ (l : List (List SV)) (o : List (List SV)), (addInc o l).length ≤ o.length + l.length
  | [], o => Nat.le_refl _
  | y :: r, o => by
    refine Nat.le_trans (addInc_len r _) ?_
    split <;> simp <;> omega
def IRel (w5 : World) (s : Nat) (K inc : List (List SV)) (v i : Value) (wr : World) : Prop :=
  ∃ k : Nat, k ≤ inc.length ∧ i = .int .i64 k ∧ Kd.S (Kd.slice 51 k51) 36 wr s (fun _ => True) v (addInc K (inc.take k)) ∧ s ≤ wr.heap.size ∧ Below s w5 wr
def FRel (wo : World) (x : List SV) (out : List (List SV)) (f i : Value) (wr : World) : Prop :=
  ∃ j : Nat, j ≤ out.length ∧ i = .int .i64 j ∧ f = .bool ((out.take j).any (incOk x)) ∧ Below wo.heap.size wo wr
def BRel (w5 : World) (s : Nat) (A0 : Option Addr) (c0 : Nat) (axes : AX) (exc : List (List SV)) (g : Nat) (v p o : Value) (wr : World) : Prop :=
  ∃ n : Nat, n ≤ many axes ∧ g = many axes - n ∧ o = .bool (decide (n < many axes)) ∧ Kd.S (Kd.slice 51 k51) 36 wr s (fun k => True ∧ some k ≠ p.ownBlock) v (((allPicks axes).take n).filter fun q => !hitB exc q) ∧
    Kd.R k51 51 wr s (fun _ => True) p ((allPicks axes).getD n []) ∧ Stand wr s A0 c0 axes (if n < many axes then n + 1 else n) ∧ Below s w5 wr
set_option maxHeartbeats 2000000 in
set_option maxRecDepth 100000 in
theorem build_any (A0 A1 A2 : Option Addr) (c0 c1 c2 : Nat) (axes : AX) (inc exc : List (List SV)) (w : World) (hr0 : Kd.C k46 w A0 axes.length axes) (hc0 : axes.length ≤ c0) (hr1 : Kd.C (Kd.slice 51 k51) w A1 inc.length inc) (hc1 : inc.length ≤ c1)
    (hr2 : Kd.C (Kd.slice 51 k51) w A2 exc.length exc) (hc2 : exc.length ≤ c2) (hs : smallB axes inc exc = true) (hsi : ∀ x, x ∈ inc → x.length ≤ 4398046511103) :
    Calls Try.prog 11 #[.agg #[.slice A0 axes.length c0, .slice A1 inc.length c1, .slice A2 exc.length c2]] w (BuildPost w (buildP axes inc exc)) := by
  have hbW := below_alloc (Below.refl w.heap.size w) (.cells #[.slice A0 axes.length c0, .slice A1 inc.length c1, .slice A2 exc.length c2] 25)
  have hbx := blk_new w (.cells #[.slice A0 axes.length c0, .slice A1 inc.length c1, .slice A2 exc.length c2] 25)
  have HR0 := Aside0.mk (Kd.C_alloc hr0 (.cells #[.slice A0 axes.length c0, .slice A1 inc.length c1, .slice A2 exc.length c2] 25))
  have HR1 := Aside0.mk (Kd.C_alloc hr1 (.cells #[.slice A0 axes.length c0, .slice A1 inc.length c1, .slice A2 exc.length c2] 25))
  have HR2 := Aside0.mk (Kd.C_alloc hr2 (.cells #[.slice A0 axes.length c0, .slice A1 inc.length c1, .slice A2 exc.length c2] 25))
  have HS := Aside0.mk hs
  have HSI := Aside0.mk hsi
  have HBW := Aside0.mk hbW
  have HBX := Aside0.mk hbx
  have HCK := Aside0.mk (show matrix_Check.f axes inc exc = some (checkI axes inc exc) from if_pos hs)
  obtain ⟨kC, hkC⟩ := (count_ev axes inc exc hs).rounds
  have HCO := Aside0.mk hkC
  have HBA := Aside0.mk (show matrix_bare.f axes inc exc = some (decide (axes.length = 0 ∧ inc.length = 0)) by
    unfold matrix_bare.f
    by_cases h : axes.length = 0
    · rw [if_pos (by omega), show ((inc.length : Int) == 0) = decide (axes.length = 0 ∧ inc.length = 0) by rw [Bool.eq_iff_iff]; simp [h]]
    · rw [if_neg (by omega)]
      simp [h])
  obtain ⟨res, hres⟩ : ∃ r, r = buildP axes inc exc := ⟨_, rfl⟩
  rw [← hres]
  obtain ⟨ck, hck⟩ : ∃ r, r = checkI axes inc exc := ⟨_, rfl⟩
  obtain ⟨co, hco⟩ : ∃ r, r = countI axes inc exc := ⟨_, rfl⟩
  rw [← hck] at HCK
  rw [← hco] at HCO
  have HRES := Aside0.mk hres
  have HCKE := Aside0.mk hck
  have HCOE := Aside0.mk hco
  clear hr0 hr1 hr2 hs hsi hbW hbx hkC hres hck hco
  by_cases hz : ck = 0
  case neg =>
    have hne : (ck != 0) = true := by simpa using hz
    obtain rfl : res = ([], 0, ck) := by rw [HRES.out, buildP, ← HCKE.out, if_neg hz]
    clear hz
    go_enter Try.func11, Try.ntmps11
    go_wp2_with (go_at_call 13; refine (matrix_Check.calls A0 c0 axes A1 c1 inc A2 c2 exc ck _ HR0.out hc0 HR1.out hc1 HR2.out hc2 HCK.out).mono ?_; rintro e w2 ⟨rfl, hb2⟩; have HB2 := Aside0.mk (below_step HBW.out hb2); clear hb2)
    go_ret3
    exact ⟨_, rfl, Kd.S_nil _ _ _ _ _, HB2.out⟩
  case pos =>
    have hne : (ck != 0) = false := by simpa using hz
    by_cases hbig : 256 < co
    · obtain rfl : res = ([], 0, 132) := by rw [HRES.out, buildP, ← HCKE.out, if_pos hz, ← HCOE.out, if_pos hbig]
      clear hz
      go_enter Try.func11, Try.ntmps11
      go_wp2_with (first
        | (go_at_call 13; refine (matrix_Check.calls A0 c0 axes A1 c1 inc A2 c2 exc ck _ HR0.out hc0 HR1.out hc1 HR2.out hc2 HCK.out).mono ?_; rintro e w2 ⟨rfl, hb2⟩; have HB1 := Aside0.mk hb2; have HB2 := Aside0.mk (below_step HBW.out hb2); obtain ⟨m0, m1, m2⟩ := box3 HBX.out hb2; clear hb2)
        | (go_at_call 12; refine (matrix_Count.calls kC A0 c0 axes A1 c1 inc A2 c2 exc co _ (Kd.C_below HR0.out HB1.out) hc0 (Kd.C_below HR1.out HB1.out) hc1 (Kd.C_below HR2.out HB1.out) hc2 HCO.out).mono ?_; rintro e w3 ⟨rfl, hb3⟩; have HB3 := Aside0.mk (below_step HB2.out hb3); clear hb3))
      go_ret3
      exact ⟨_, rfl, Kd.S_nil _ _ _ _ _, HB3.out⟩
    · by_cases hb0 : axes.length = 0 ∧ inc.length = 0
      · obtain rfl : res = ([[]], 1, 0) := by rw [HRES.out, buildP, ← HCKE.out, if_pos hz, ← HCOE.out, if_neg hbig, if_pos hb0]
        have hbd : decide (axes.length = 0 ∧ inc.length = 0) = true := decide_eq_true hb0
        obtain rfl : co = 1 := by rw [HCOE.out, countI, ← HCKE.out, if_pos hz, if_pos hb0]
        rw [hbd] at HBA
        clear hz hb0 hbd
        go_enter Try.func11, Try.ntmps11
        go_wp2_with (first
          | (go_at_call 13; refine (matrix_Check.calls A0 c0 axes A1 c1 inc A2 c2 exc ck _ HR0.out hc0 HR1.out hc1 HR2.out hc2 HCK.out).mono ?_; rintro e w2 ⟨rfl, hb2⟩; have HB1 := Aside0.mk hb2; have HB2 := Aside0.mk (below_step HBW.out hb2); obtain ⟨m0, m1, m2⟩ := box3 HBX.out hb2; clear hb2)
          | (go_at_call 12; refine (matrix_Count.calls kC A0 c0 axes A1 c1 inc A2 c2 exc 1 _ (Kd.C_below HR0.out HB1.out) hc0 (Kd.C_below HR1.out HB1.out) hc1 (Kd.C_below HR2.out HB1.out) hc2 HCO.out).mono ?_; rintro e w3 ⟨rfl, hb3⟩; have HB13 := Aside0.mk (below_step HB1.out hb3); have HB3 := Aside0.mk (below_step HB2.out hb3); clear m0 m1 m2; obtain ⟨m0, m1, m2⟩ := box3 HBX.out HB13.out; clear hb3)
          | (go_at_call 34; refine (matrix_bare.calls A0 c0 axes A1 c1 inc A2 c2 exc true _ (Kd.C_below HR0.out HB13.out) hc0 (Kd.C_below HR1.out HB13.out) hc1 (Kd.C_below HR2.out HB13.out) hc2 HBA.out).mono ?_; rintro e w4 ⟨rfl, hb4⟩; have HB4 := Aside0.mk (below_step HB3.out hb4); clear hb4)
          | ((with_reducible refine gate_dst (N := 27) rfl ?_); refine Kd.S_lit (Kd.slice 51 k51) w.heap.size 36 ?hg (N := 27) ?hd (xs := ([[]] : List (List SV))) (inner := [.slice none 0 0]) (ok := fun _ => True) (okp := fun _ => True) ?hr ?hp (fun _ hk => hk) trivial HB4.out HB4.out.size (by simp) ?_; (case hd => rfl); (case hg => rfl); (case hr => first | (go_simp; done) | (go_simp; rfl)); (case hp => exact (Reps.one (show Kd.M (Kd.slice 51 k51) _ _ _ [] [.slice none 0 0] from ⟨_, rfl, Kd.R_nil _ _ _ _ _⟩) (Reps.none _ _))); intro v5 w5 ho5 hb5 hg5 hnew5; have HO5 := Aside0.mk ho5; have HB5 := Aside0.mk hb5; clear ho5 hb5 hg5 hnew5))
        go_ret3
        exact ⟨_, rfl, HO5.out, HB5.out⟩
      · have HRV := Aside0.mk (show res = (addInc (keptP axes exc) inc, co, 0) by rw [HRES.out, buildP, ← HCKE.out, if_pos hz, ← HCOE.out, if_neg hbig, if_neg hb0])
        have hbd : decide (axes.length = 0 ∧ inc.length = 0) = false := decide_eq_false hb0
        rw [hbd] at HBA
        have hax8 : axes.length ≤ 8 := by
          have := HCKE.out
          rw [hz, checkI] at this
          split at this
          · omega
          · omega
        clear hbd
        go_enter Try.func11, Try.ntmps11
        go_wp2_with (first
          | (go_at_call 13; refine (matrix_Check.calls A0 c0 axes A1 c1 inc A2 c2 exc ck _ HR0.out hc0 HR1.out hc1 HR2.out hc2 HCK.out).mono ?_; rintro e w2 ⟨rfl, hb2⟩; have HB1 := Aside0.mk hb2; have HB2 := Aside0.mk (below_step HBW.out hb2); obtain ⟨m0, m1, m2⟩ := box3 HBX.out hb2; clear hb2)
          | (go_at_call 12; refine (matrix_Count.calls kC A0 c0 axes A1 c1 inc A2 c2 exc co _ (Kd.C_below HR0.out HB1.out) hc0 (Kd.C_below HR1.out HB1.out) hc1 (Kd.C_below HR2.out HB1.out) hc2 HCO.out).mono ?_; rintro e w3 ⟨rfl, hb3⟩; have HB13 := Aside0.mk (below_step HB1.out hb3); have HB3 := Aside0.mk (below_step HB2.out hb3); clear m0 m1 m2; obtain ⟨m0, m1, m2⟩ := box3 HBX.out HB13.out; clear hb3)
          | (go_at_call 34; refine (matrix_bare.calls A0 c0 axes A1 c1 inc A2 c2 exc false _ (Kd.C_below HR0.out HB13.out) hc0 (Kd.C_below HR1.out HB13.out) hc1 (Kd.C_below HR2.out HB13.out) hc2 HBA.out).mono ?_; rintro e w4 ⟨rfl, hb4⟩; have HB14 := Aside0.mk (below_step HB13.out hb4); have HB4 := Aside0.mk (below_step HB3.out hb4); clear m0 m1 m2; obtain ⟨m0, m1, m2⟩ := box3 HBX.out HB14.out; clear hb4)
          | (go_at_call 35; refine (picks_any A0 c0 axes _ (Kd.C_below HR0.out HB14.out) hax8).mono ?_; rintro e w5 ⟨rfl, hp5, hb5⟩; have HB15 := Aside0.mk (below_step HB14.out hb5); have HB5 := Aside0.mk (below_step HB4.out hb5); have HP5 := Aside0.mk (stand_zero ⟨hp5, hb5⟩); have HW4 := Aside0.mk HB14.out.size; clear m0 m1 m2; clear hb5 hp5))
        generalize w4.heap.size = s at HP5 HW4 ⊢
        generalize w.alloc (.cells #[.slice A0 axes.length c0, .slice A1 inc.length c1, .slice A2 exc.length c2] 25) = W1 at HR0 HR1 HR2 HBW HBX HB1 HB13 HB14 HB15 HW4 ⊢
        have HRW := Aside0.mk (show ∀ W, Below s w5 W → Kd.C k46 W A0 axes.length axes from fun W hW => Kd.C_below HR0.out (HB15.out.trans (hW.mono HW4.out)))
        have hms := many_small (HCKE.out.symm.trans hz) (by rw [← HCOE.out]; omega) hb0
        refine (next_any s A0 c0 axes 0 w5 HP5.out HRW.out hax8).mono ?_
        rintro e w6 ⟨v6, rfl, hg6⟩
        have HG6 := Aside0.mk hg6
        have HW0 := Aside0.mk (HBW.out.size)
        clear hg6 hb0
        go_wp2
        go_loopg [7, 9, 10] (many axes) (fun g v p o wr => BRel w5 s A0 c0 axes exc g v p o wr)
        case atStart =>
          exact ⟨0, Nat.zero_le _, rfl, rfl, Kd.S_nil _ _ _ _ _, Kd.R_lower HG6.out.made (by have := PickSt.lt HP5.out; omega), HG6.out.st, HG6.out.below⟩
        case round =>
          obtain ⟨n, hn, rfl, rfl, ho, hp, hst, hb5⟩ := hrel
          have hbw := HB15.out.trans (hb5.mono HW4.out)
          clear HG6
          by_cases hlt : n < many axes
          · obtain ⟨A9, c9, e9, hl9, hC9⟩ := Kd.R_reads hp
            subst e9
            have hks := Aside0.mk (kept_step axes exc n hlt)
            rw [if_pos hlt] at hst
            have hdt : decide (n < many axes) = true := decide_eq_true hlt
            rw [hdt]
            have hlp : ((allPicks axes).getD n []).length ≤ 8 := by
              rw [allPicks_at hlt, pickOf_length _ _ (by rw [digitsR_length, lens_length])]
              exact hax8
            have hlo : (((allPicks axes).take n).filter fun q => !hitB exc q).length ≤ n := by
              refine Nat.le_trans (List.length_filter_le _ _) ?_
              rw [List.length_take]
              omega
            generalize ((allPicks axes).take n).filter (fun q => !hitB exc q) = ks at ho hlo hks
            generalize (allPicks axes).getD n [] = p at ho hp hl9 hC9 hks hlp ⊢
            have HO := Aside0.mk ho
            have HP := Aside0.mk hp
            have HST := Aside0.mk hst
            have HB := Aside0.mk hbw
            have HBs := Aside0.mk hb5
            have HC9 := Aside0.mk hC9
            obtain ⟨m0, m1, m2⟩ := box3 HBX.out hbw
            have hsz := HS.out
            simp only [smallB, Bool.and_eq_true, decide_eq_true_eq, List.all_eq_true] at hsz
            obtain ⟨kH, hkH⟩ := (hit_ev axes inc exc p (by omega) (by omega) (fun x hx => Nat.le_trans (hsz.2 x (List.mem_append_right _ hx)) (by omega))).rounds
            have HH := Aside0.mk hkH
            clear hkH hsz ho hp hst hbw hb5 hC9
            have HRS := Aside0.mk (fun (wz : World) (hz : Below s w5 wz) (W : World) (hW : Below s wz W) => HRW.out W (hz.trans hW))
            rcases hhit : hitB exc p with _ | _
            · rw [hhit] at HH
              have HKS := Aside0.mk (show ((allPicks axes).take (n + 1)).filter (fun q => !hitB exc q) = ks ++ [p] by rw [hks.out, hhit]; rfl)
              clear hhit hks
              go_wp2_with (first
                | (go_at_call 36; refine (matrix_hit.calls kH A0 c0 axes A1 c1 inc A2 c2 exc A9 c9 p false _ (Kd.C_below HR0.out HB.out) hc0 (Kd.C_below HR1.out HB.out) hc1 (Kd.C_below HR2.out HB.out) hc2 HC9.out hl9 HH.out).mono ?_; rintro e w7 ⟨rfl, hb7⟩; have HBs7 := Aside0.mk (HBs.out.trans (hb7.mono (by have := PickSt.lt HST.out; omega))); have HO7 := Aside0.mk (Kd.S_below HO.out hb7); have HP7 := Aside0.mk (Kd.R_apart' (Kd.R_below HP.out hb7) (Kd.S_typed HO7.out) (by decide)); have HST7 := Aside0.mk (HST.out.below hb7); have HSZ7 := Aside0.mk (show s ≤ w7.heap.size by have := PickSt.lt HST7.out; omega); clear hb7)
                | (at_builtin; go_loud (refine Kd.S_append (Kd.slice 51 k51) (w0 := w5) s rfl (.tmp 47) (.tmp 49) 23 36 (.slice none 0 0) 24 rfl Try.underlying23 info36 rfl (by decide) (by omega) u7 ks p [.slice A9 p.length c9] (fun _ => True) (fun k_ => some k_ = (.slice A9 p.length c9 : Value).ownBlock) rfl rfl ?aP (fun k_ hk_ => HP7.out.1 k_ hk_.symm) (fun _ _ => trivial) ?aO HBs7.out HSZ7.out (by omega) ?_; (case aP => exact Kd.M_row (Kd.R_mono (Kd.R_tight rfl HP7.out) (fun _ h_ => h_))); (case aO => exact Kd.S_mono HO7.out (fun k_ hk => ⟨trivial, fun e_ => hk.2 e_⟩)); intro v8 w8 ho8 hb8 hg8 hat8; have HST8 := Aside0.mk (HST7.out.grown hg8 HO7.out); have HO8 := Aside0.mk ho8; have HBs8 := Aside0.mk hb8; clear ho8 hb8 hg8 hat8)))
              refine (next_any s A0 c0 axes (n + 1) w8 HST8.out (HRS.out w8 HBs8.out) hax8).mono ?_
              rintro e w9 ⟨v9, rfl, hg9⟩
              have HG9 := Aside0.mk hg9
              clear hg9
              go_wp2
              go_roundg (many axes - (n + 1))
              case measure => omega
              case rel => exact ⟨n + 1, by omega, rfl, rfl, by rw [HKS.out]; exact S_next HO8.out HG9.out.kept HST8.out.types (Kd.R_base HG9.out.made), Kd.R_lower HG9.out.made (by have := PickSt.lt HST8.out; omega), HG9.out.st, HBs8.out.trans HG9.out.below⟩
            · rw [hhit] at HH
              have HKS := Aside0.mk (show ((allPicks axes).take (n + 1)).filter (fun q => !hitB exc q) = ks by rw [hks.out, hhit]; simp)
              clear hhit hks
              go_wp2_with (go_at_call 36; refine (matrix_hit.calls kH A0 c0 axes A1 c1 inc A2 c2 exc A9 c9 p true _ (Kd.C_below HR0.out HB.out) hc0 (Kd.C_below HR1.out HB.out) hc1 (Kd.C_below HR2.out HB.out) hc2 HC9.out hl9 HH.out).mono ?_; rintro e w7 ⟨rfl, hb7⟩; have HBs7 := Aside0.mk (HBs.out.trans (hb7.mono (by have := PickSt.lt HST.out; omega))); have HO7 := Aside0.mk (Kd.S_mono (ok' := fun _ => True) (Kd.S_below HO.out hb7) (fun _ _ => trivial)); have HST7 := Aside0.mk (HST.out.below hb7); clear hb7)
              refine (next_any s A0 c0 axes (n + 1) w7 HST7.out (HRS.out w7 HBs7.out) hax8).mono ?_
              rintro e w9 ⟨v9, rfl, hg9⟩
              have HG9 := Aside0.mk hg9
              clear hg9
              go_wp2
              go_roundg (many axes - (n + 1))
              case measure => omega
              case rel => exact ⟨n + 1, by omega, rfl, rfl, by rw [HKS.out]; exact S_next HO7.out HG9.out.kept HST7.out.types (Kd.R_base HG9.out.made), Kd.R_lower HG9.out.made (by have := PickSt.lt HST7.out; omega), HG9.out.st, HBs7.out.trans HG9.out.below⟩
          · have hdt : decide (n < many axes) = false := decide_eq_false hlt
            rw [hdt]
            have HK := Aside0.mk (show Kd.S (Kd.slice 51 k51) 36 wr s (fun _ => True) _ (keptP axes exc) by
              have := Kd.S_mono (ok' := fun _ => True) ho (fun _ _ => trivial)
              rwa [List.take_of_length_le (by rw [allPicks_length]; omega)] at this)
            have HBs := Aside0.mk hb5
            have HSZ := Aside0.mk (show s ≤ wr.heap.size by have := PickSt.lt hst; omega)
            have hkl : (keptP axes exc).length ≤ 256 := by
              refine Nat.le_trans (List.length_filter_le _ _) ?_
              rw [allPicks_length]
              exact hms.1
            obtain ⟨m0, m1, m2⟩ := box3 HBX.out hbw
            clear ho hp hst hb5 hbw
            obtain ⟨wo, rfl⟩ : ∃ wo : World, wo = wr := ⟨_, rfl⟩
            go_wp2
            have HKL := Aside0.mk hkl
            go_loopw [7, 54] (fun v i wr => IRel w5 s (keptP axes exc) inc v i wr) (fun _ i _ => inc.length - (intOf i).toNat)
            case atStart => exact ⟨0, Nat.zero_le _, rfl, HK.out, HSZ.out, HBs.out⟩
            case round =>
              clear HK HSZ HBs m0 m1 m2
              obtain ⟨k, hk, rfl, ho, hsz, hbs⟩ := hrel
              have HB := Aside0.mk (HB15.out.trans (hbs.mono HW4.out))
              have HBs := Aside0.mk hbs
              have HSZ := Aside0.mk hsz
              clear hbs
              have hol := addInc_len (inc.take k) (keptP axes exc)
              rw [List.length_take] at hol
              by_cases hltk : k < inc.length
              · obtain ⟨ad, Ax, cx, e, hx, hxl, hxC⟩ := at_row HR1.out k hltk
                subst e
                have hxe : inc.getD k [] = inc[k] := by simp [hltk]
                have HADD := Aside0.mk (show addInc (keptP axes exc) (inc.take (k + 1)) = if (addInc (keptP axes exc) (inc.take k)).any (incOk (inc.getD k [])) then addInc (keptP axes exc) (inc.take k) else addInc (keptP axes exc) (inc.take k) ++ [inc.getD k []] by
                  rw [List.take_succ_eq_append_getElem hltk, addInc_snoc, hxe])
                have hxs := HSI.out _ (List.getElem_mem hltk)
                rw [← hxe] at hxs
                clear hxe
                generalize inc.getD k [] = x at hx hxl hxC HADD hxs
                generalize addInc (keptP axes exc) (inc.take k) = out at ho hol HADD
                replace hx : wr.cell? (ad.add k) = _ := pw_cell_below HB.out hx
                have HXC := Aside0.mk (Kd.C_below hxC HB.out)
                obtain ⟨Ao, cc, e9, hlo, hCo⟩ := Kd.S_reads ho
                subst e9
                have HO := Aside0.mk ho
                have HCO := Aside0.mk hCo
                clear ho hCo hxC
                have hout : out.length ≤ 512 := by omega
                obtain ⟨wo, rfl⟩ : ∃ wo : World, wo = wr := ⟨_, rfl⟩
                go_wp2
                go_loopw [13, 60] (fun f i wr => FRel wo x out f i wr) (fun _ i _ => out.length - (intOf i).toNat)
                case atStart => exact ⟨0, Nat.zero_le _, rfl, by simp, Below.refl _ _⟩
                case round =>
                  clear hx
                  obtain ⟨j, hj, rfl, rfl, hb⟩ := hrel
                  have HBj := Aside0.mk hb
                  clear hb
                  by_cases hltj : j < out.length
                  · obtain ⟨ad2, Ap, cp, e, hp, hpl, hpC⟩ := at_row HCO.out j hltj
                    subst e
                    have hpe : out.getD j [] = out[j] := by simp [hltj]
                    have HANY := Aside0.mk (show (out.take (j + 1)).any (incOk x) = ((out.take j).any (incOk x) || incOk x (out.getD j [])) by
                      rw [List.take_succ_eq_append_getElem hltj, List.any_append, hpe]
                      simp)
                    generalize out.getD j [] = p at hp hpl hpC HANY
                    clear hpe
                    replace hp : wr.cell? (ad2.add j) = _ := pw_cell_below HBj.out hp
                    have HPC := Aside0.mk (Kd.C_below hpC HBj.out)
                    have hpl2 : p.length ≤ 9223372036854775807 := hpC.2.1
                    clear hpC
                    rcases hf : (out.take j).any (incOk x) with _ | _
                    · have HF := Aside0.mk hf
                      clear hf
                      by_cases hpx : p.length = x.length
                      · have hpd : ((p.length : Int) == (x.length : Int)) = true := by rw [beq_iff_eq]; omega
                        obtain ⟨kh, hkh⟩ := (holds_ev x p (by omega) (by omega)).rounds
                        have HH := Aside0.mk hkh
                        have HPX := Aside0.mk hpx
                        clear hkh hpx
                        go_wp2_with (go_at_call 37; refine (matrix_holds.calls kh Ax cx x Ap cp p (holdsB x p) _ (Kd.C_below HXC.out HBj.out) hxl HPC.out hpl HH.out).mono ?_; rintro e w10 ⟨rfl, hb10⟩; have HB10 := Aside0.mk (below_step HBj.out hb10); clear hb10)
                        exact ⟨⟨j + 1, by omega, by go_num, by rw [HANY.out, HF.out, incOk, decide_eq_true HPX.out]; rfl, HB10.out⟩, by simp [intOf]; omega⟩
                      · have hpd : ((p.length : Int) == (x.length : Int)) = false := by rw [beq_eq_false_iff_ne]; omega
                        go_wp2
                        exact ⟨⟨j + 1, by omega, by go_num, by rw [HANY.out, HF.out, incOk, decide_eq_false hpx]; rfl, HBj.out⟩, by simp [intOf]; omega⟩
                    · have HF := Aside0.mk hf
                      clear hf
                      go_wp2
                      exact ⟨⟨j + 1, by omega, by go_num, by rw [HANY.out, HF.out]; rfl, HBj.out⟩, by simp [intOf]; omega⟩
                  · have hall : out.take j = out := List.take_of_length_le (by omega)
                    rw [hall]
                    have HBs10 := Aside0.mk (HBs.out.trans (HBj.out.mono HSZ.out))
                    have HSZ10 := Aside0.mk (Nat.le_trans HSZ.out HBj.out.size)
                    rcases hf : out.any (incOk x) with _ | _
                    · have HADD2 := Aside0.mk (show addInc (keptP axes exc) (inc.take (k + 1)) = out ++ [x] by rw [HADD.out, hf]; rfl)
                      have HO10 := Aside0.mk (Kd.S_below HO.out HBj.out)
                      have HX10 := Aside0.mk (Kd.C_below HXC.out HBj.out)
                      clear hf hall
                      go_wp2_with (first
                        | ((with_reducible refine gate_dst (N := 81) rfl ?_); refine Kd.R_lit k51 _ 51 ?hg (N := 81) ?hd (xs := ([] : List SV)) (inner := []) (ok := fun _ => True) (okp := fun _ => True) ?hr ?hp (fun _ hk => hk) trivial (Below.refl _ _) (Nat.le_refl _) (by simp) ?_; (case hd => rfl); (case hg => rfl); (case hr => first | (go_simp; done) | (go_simp; rfl)); (case hp => exact (Reps.none _ _)); intro v11 w11 ho11 hb11 hg11 hnew11; have HO11 := Aside0.mk (Kd.S_elder' HO10.out (Kd.R_base ho11) hb11); have HR11 := Aside0.mk (Kd.R_lower ho11 HSZ10.out); have HBs11 := Aside0.mk (HBs10.out.trans (hb11.mono HSZ10.out)); have HSZ11 := Aside0.mk (Nat.le_trans HSZ10.out hb11.size); have HX11 := Aside0.mk (Kd.C_below HX10.out hb11); clear ho11 hb11 hg11 hnew11)
                        | (at_builtin; refine Kd.R_append_rows k51 (w0 := w5) s rfl (.tmp 81) (.tmp 82) 36 51 (.agg #[(.string ⟨#[]⟩), (.string ⟨#[]⟩)]) 32 rfl Try.underlying36 info51 rfl (by decide) (by omega) v11 ([] : List SV) x _ _ _ (fun _ => True) (fun _ => False) rfl rfl HR11.out HX11.out (fun _ _ h => h) (fun _ h => h.elim) (fun _ _ => trivial) HBs11.out HSZ11.out (by simp; omega) ?_; intro v12 w12 ho12 hb12 hg12 hat12; have HR12 : Aside0 (Kd.R k51 51 w12 s (fun _ => True) v12 x) := ⟨ho12⟩; have HO12 := Aside0.mk (Kd.S_after HO11.out hg12 hat12); obtain ⟨A12, c12, e12⟩ := Kd.R_slice HR12.out; subst e12; have HP12 := Aside0.mk (Kd.R_apart' HR12.out (Kd.S_typed HO12.out) (by decide)); have HBs12 := Aside0.mk hb12; have HSZ12 := Aside0.mk (Nat.le_trans HSZ11.out hg12.size); clear ho12 hb12 hg12 hat12)
                        | (at_builtin; refine Kd.S_append (Kd.slice 51 k51) (w0 := w5) s rfl (.tmp 80) (.tmp 84) 23 36 (.slice none 0 0) 24 rfl Try.underlying23 info36 rfl (by decide) (by omega) (.slice Ao out.length cc) out x [.slice A12 x.length c12] (fun _ => True) (fun k_ => some k_ = (.slice A12 x.length c12 : Value).ownBlock) rfl rfl ?aP (fun k_ hk_ => HP12.out.1 k_ hk_.symm) (fun _ _ => trivial) ?aO HBs12.out HSZ12.out (by omega) ?_; (case aP => exact Kd.M_row (Kd.R_mono (Kd.R_tight rfl HP12.out) (fun _ h_ => h_))); (case aO => exact Kd.S_mono HO12.out (fun k_ hk => ⟨trivial, fun e_ => hk.2 e_⟩)); intro v13 w13 ho13 hb13 hg13 hat13; have HO13 := Aside0.mk ho13; have HBs13 := Aside0.mk hb13; have HSZ13 := Aside0.mk (Nat.le_trans HSZ12.out hg13.size); clear ho13 hb13 hg13 hat13))
                      go_roundw
                      case rel => exact ⟨k + 1, by omega, by go_num, by rw [HADD2.out]; exact HO13.out, HSZ13.out, HBs13.out⟩
                      case measure => simp [intOf]; omega
                    · have HADD2 := Aside0.mk (show addInc (keptP axes exc) (inc.take (k + 1)) = out by rw [HADD.out, hf]; rfl)
                      have HO10 := Aside0.mk (Kd.S_below HO.out HBj.out)
                      clear hf hall
                      go_wp2
                      go_roundw
                      case rel => exact ⟨k + 1, by omega, by go_num, by rw [HADD2.out]; exact HO10.out, HSZ10.out, HBs10.out⟩
                      case measure => simp [intOf]; omega
              · have HRES2 := Aside0.mk (show addInc (keptP axes exc) (inc.take k) = addInc (keptP axes exc) inc by rw [List.take_of_length_le (by omega)])
                have HFIN := Aside0.mk (show Kd.S (Kd.slice 51 k51) 36 wr w.heap.size (fun _ => True) _ (addInc (keptP axes exc) inc) by
                  have := Kd.S_lower ho (Nat.le_trans HW0.out HW4.out)
                  rwa [HRES2.out] at this)
                have HBF := Aside0.mk (below_step HBW.out HB.out)
                clear ho hol
                obtain rfl : res = (addInc (keptP axes exc) inc, co, 0) := HRV.out
                go_wp2
                go_ret3
                exact ⟨_, rfl, HFIN.out, HBF.out⟩
def matrix_Build.f (l0_0 : AX) (l0_1 l0_2 : List (List SV)) : Option (List (List SV) × Int × Int) := if (smallB l0_0 l0_1 l0_2 && l0_1.all fun x => decide (x.length ≤ 4398046511103)) = true then some (buildP l0_0 l0_1 l0_2) else none
theorem matrix_Build.calls (A0_0 : Option Addr) (c0_0 : Nat) (l0_0 : AX) (A0_1 : Option Addr) (c0_1 : Nat) (l0_1 : List (List SV)) (A0_2 : Option Addr) (c0_2 : Nat) (l0_2 : List (List SV)) (r1 : List (List SV)) (r2 : Int) (r3 : Int) (w : World) (hr0_0 : Kd.C k46 w A0_0 l0_0.length l0_0) (hc0_0 : l0_0.length ≤ c0_0)
    (hr0_1 : Kd.C (Kd.slice 51 k51) w A0_1 l0_1.length l0_1) (hc0_1 : l0_1.length ≤ c0_1) (hr0_2 : Kd.C (Kd.slice 51 k51) w A0_2 l0_2.length l0_2) (hc0_2 : l0_2.length ≤ c0_2) (h : matrix_Build.f l0_0 l0_1 l0_2 = some (r1, r2, r3)) :
    Calls Try.prog 11 #[.agg #[.slice A0_0 l0_0.length c0_0, .slice A0_1 l0_1.length c0_1, .slice A0_2 l0_2.length c0_2]] w fun e w' => ∃ v0_ : Value, e = .returned (.tuple #[v0_, .int .i64 r2, .int .i64 r3]) ∧ Kd.S (Kd.slice 51 k51) 36 w' w.heap.size (fun _ => True) v0_ r1 ∧ Below w.heap.size w w' := by
  unfold matrix_Build.f at h
  split at h
  case isFalse => cases h
  case isTrue hs =>
    rw [Bool.and_eq_true, List.all_eq_true] at hs
    have e := Option.some.inj h
    have := build_any A0_0 A0_1 A0_2 c0_0 c0_1 c0_2 l0_0 l0_1 l0_2 w hr0_0 hc0_0 hr0_1 hc0_1 hr0_2 hc0_2 hs.1 (fun x hx => by simpa using hs.2 x hx)
    rw [e] at this
    exact this
end Go.Proofs.Ytdgllnaeookddaa.Q
