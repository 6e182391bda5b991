/- The walk of statement MatrixTurned. -/
import Derived.Test.YtdgllnaeookddaaDAGTurnAt
import Derived.Test.YtdgllnaeookddaaDAGAwake
import Derived.Deep.CutRange
namespace Go.Proofs.Ytdgllnaeookddaa.Q
open Go.RowKit Go.Proofs.YtdgllnaeookddaaW.PrintWords Go.Proofs.YtdgllnaeookddaaW.PrintLast Go.Proofs.YtdgllnaeookddaaW.PrintMore
set_option linter.unusedVariables false
set_option linter.unusedSimpArgs false
theorem tiny_turn {axes : AX} {inc exc : List (List SV)} (ht : Tiny axes inc exc) : Tiny axes [] exc ∧ Tiny (turnA axes) [] exc :=
  ⟨⟨ht.n0, Nat.zero_le _, ht.n2, ht.l0, (fun x hx => by cases hx), ht.l2⟩, ⟨by rw [turnA_len]; exact ht.n0, Nat.zero_le _, ht.n2, (fun a ha => by
    obtain ⟨b, hb, rfl⟩ := List.mem_map.1 ha
    show b.f1.reverse.length ≤ _
    rw [List.length_reverse]
    exact ht.l0 b (List.mem_reverse.1 hb)), (fun x hx => by cases hx), ht.l2⟩⟩
theorem turnA_drop {axes : AX} {i : Nat} (hi : i < axes.length) : turnA (axes.drop i) = turnA (axes.drop (i + 1)) ++ [⟨axes[i].f0, axes[i].f1.reverse⟩] := by
  rw [List.drop_eq_getElem_cons hi, turnA_cons]
theorem vals_drop {vs : List ByteArray} {k : Nat} (hk : k < vs.length) : (vs.drop k).reverse = (vs.drop (k + 1)).reverse ++ [vs[k]] := by
  rw [List.drop_eq_getElem_cons hk, List.reverse_cons]
theorem low_one {n m : Nat} (h : n ≤ 1048576) : IntKind.i64.wrap ((n : Int) - 1) = (n : Int) - 1 := by rw [IntKind.wrap_i64]; omega
theorem wrap_back {n m : Nat} (h : n ≤ 1048576) (hm : m < n) : wrap64 ((n : Int) - 1 - ((n : Int) - 1 - (m : Int))) = (m : Int) := by unfold wrap64; omega
theorem wrap_upT {i n : Nat} (h : i < n) (hn : n ≤ 1048576) : wrap64 ((i : Int) + 1) = (i : Int) + 1 := by unfold wrap64; omega
theorem meas_down (k : Nat) : (intOf (.int .i64 ((k : Int) - 1)) + 1).toNat < (intOf (.int .i64 (k : Int)) + 1).toNat := by simp [intOf]
theorem meas_upT {k n : Nat} (h : k < n) : n - (intOf (.int .i64 ((k + 1 : Nat) : Int))).toNat < n - (intOf (.int .i64 ((k : Nat) : Int))).toNat := by simp [intOf]; omega
set_option maxHeartbeats 4000000 in
set_option maxRecDepth 100000 in
theorem turnedLaw (A0 A1 A2 : Option Addr) (c0 c1 c2 : Nat) (axes : AX) (inc exc : List (List SV)) (w : World) (hm : MC w A0 A1 A2 c0 c1 c2 axes inc exc) (ht : Tiny axes inc exc) :
    Calls Try.prog 8 #[.agg #[.slice A0 axes.length c0, .slice A1 inc.length c1, .slice A2 exc.length c2]] w fun e w' => e = .returned (.bool true) ∧ Below w.heap.size w w' := by
  have HM := Aside0.mk (hm.alloc (.cells #[.slice A0 axes.length c0, .slice A1 inc.length c1, .slice A2 exc.length c2] 25))
  have HBX := Aside0.mk (blk_new w (.cells #[.slice A0 axes.length c0, .slice A1 inc.length c1, .slice A2 exc.length c2] 25))
  have HBW := Aside0.mk (below_alloc (Below.refl w.heap.size w) (.cells #[.slice A0 axes.length c0, .slice A1 inc.length c1, .slice A2 exc.length c2] 25))
  have HT := Aside0.mk ht
  have HT1 := Aside0.mk (tiny_turn ht).1
  have HT2 := Aside0.mk (tiny_turn ht).2
  obtain ⟨P, built, code, hres⟩ : ∃ a b c, buildP axes [] exc = (a, b, c) := ⟨_, _, _, rfl⟩
  have T := build_turned axes exc
  have fP := few_build HT1.out
  have fQ := few_build HT2.out
  rw [hres] at T fP
  obtain ⟨Q, hQ⟩ : ∃ Q, buildP (turnA axes) [] exc = (Q, built, code) := ⟨_, Prod.ext rfl (Prod.ext T.count T.code)⟩
  rw [hQ] at T fQ
  have HFP := Aside0.mk fP
  have HFQ := Aside0.mk fQ
  have HPL := Aside0.mk T.len
  have HTH := Aside0.mk (show ∀ i (hi : i < P.length), ∃ j, ∃ hj : j < Q.length, Ov.overB [P[i]] = Ov.overB [Q[j]] from fun i hi => by
    have hp := List.getElem_mem hi
    obtain ⟨j, hj, e⟩ := List.getElem_of_mem (T.there _ hp)
    exact ⟨j, hj, by rw [e]; exact (over_reverse (T.names _ hp)).symm⟩)
  have HRES := Aside0.mk hres
  have HRES2 := Aside0.mk hQ
  have hn0 := ht.n0
  clear hm ht hres T fP fQ hQ
  go_enter Try.func8, Try.ntmps8
  go_upto_region 3 with (go_at_call 10; refine (m_copy_at HM.out HT.out).mono ?_; rintro e w3 ⟨B0, B1, B2, d0, d1, d2, rfl, hx, hb⟩; have HX3 := Aside0.mk hx; have HB3 := Aside0.mk hb; clear hx hb)
  have hXB := blk_new w3 (.cells #[.slice B0 axes.length d0, .slice none 0 0, .slice B2 exc.length d2] 25)
  have hXb : Below w3.heap.size w3 (w3.alloc (.cells #[.slice B0 axes.length d0, .slice none 0 0, .slice B2 exc.length d2] 25)) := below_alloc (Below.refl _ _) _
  generalize w3.alloc (.cells #[.slice B0 axes.length d0, .slice none 0 0, .slice B2 exc.length d2] 25) = X at hXB hXb ⊢
  have HX4 := Aside0.mk (MC.below HX3.out.mc hXb)
  have HX5 := Aside0.mk (show MC X B0 none B2 d0 0 d2 axes [] exc from ⟨HX4.out.r0, HX4.out.h0, ⟨rfl, by decide, fun h => absurd h (by decide)⟩, Nat.le_refl _, HX4.out.r2, HX4.out.h2⟩)
  have HB4 := Aside0.mk (below_step HB3.out hXb)
  have x0 := (blk_cell hXB 0).trans rfl
  have x1 := (blk_cell hXB 1).trans rfl
  have x2 := (blk_cell hXB 2).trans rfl
  clear hXB hXb
  go_upto_region 5 with (first
    | (go_at_call 29; refine (copyPicks_at (HM.out.below HB5.out).r2 HM.out.h2 HT.out.n2 HT.out.l2).mono ?_; rintro e w6 ⟨E, ce, rfl, hE, hb⟩; have HE6 := Aside0.mk hE; have HB6 := Aside0.mk (below_step HB5.out hb); have HP6 := Aside0.mk (HP5.out.below hb); clear hE hb m0 m1 m2)
    | (go_at_call 11; go_loud (refine (m_build_at HX5.out HT1.out HRES.out).mono ?_); rintro e w5 ⟨AP, cP, rfl, hp, hb⟩; have HP5 := Aside0.mk hp.fp; have HB5 := Aside0.mk (below_step HB4.out hb); obtain ⟨m0, m1, m2⟩ := box3 HBX.out (below_step HB4.out hb); clear hp hb x0 x1 x2))
  have hYB := blk_new w6 (.cells #[.slice none 0 0, .slice none 0 0, .slice E exc.length ce] 25)
  have HY0 := Aside0.mk (show YR w6 w6.heap.size E ce exc.length (.slice none 0 0) (turnA (axes.drop axes.length)) (w6.alloc (.cells #[.slice none 0 0, .slice none 0 0, .slice E exc.length ce] 25)) from ⟨hYB, by rw [List.drop_length]; exact Kd.R_nil _ _ _ _ _, below_alloc (Below.refl _ _) _, Nat.le_refl _⟩)
  clear hYB
  generalize w6.alloc (.cells #[.slice none 0 0, .slice none 0 0, .slice E exc.length ce] 25) = W6 at HY0 ⊢
  obtain ⟨m0, m1, m2⟩ := box3 HBX.out HB6.out
  have HM0 := Aside0.mk m0
  have HM1 := Aside0.mk m1
  have HM2 := Aside0.mk m2
  clear m0 m1 m2
  have m0 := pw_cell_below HY0.out.bel HM0.out
  have hw0 := low_one (m := 0) hn0
  have HMC := Aside0.mk (HM.out.below HB6.out)
  obtain ⟨mb, hmb⟩ : ∃ mb, mb = w.heap.size := ⟨_, rfl⟩
  rw [← hmb] at HM0 HM1 HM2 m0 ⊢
  have HMB := Aside0.mk hmb
  clear hmb
  go_wp2
  go_loopw [8] (fun v wr => ∃ n : Nat, n ≤ axes.length ∧ v = .int .i64 ((n : Int) - 1) ∧ ∃ u, YR w6 w6.heap.size E ce exc.length u (turnA (axes.drop n)) wr) (fun v _ => (intOf v + 1).toNat)
  case atStart => exact ⟨axes.length, Nat.le_refl _, rfl, _, HY0.out⟩
  case round =>
    clear m0 hw0 HY0
    obtain ⟨n, hn, rfl, u, hy⟩ := hrel
    have HY := Aside0.mk hy
    obtain ⟨Au, cu, eu⟩ := Kd.R_slice hy.own
    subst eu
    rcases Nat.eq_zero_or_pos n with hz | hz
    · subst hz
      rw [List.drop_zero] at HY
      have hdec : decide ((0 : Int) ≤ ((0 : Nat) : Int) - 1) = false := by decide
      have hdec' : ¬ ((0 : Int) ≤ ((0 : Nat) : Int) - 1) := by decide
      clear hy hn
      have y0 := (blk_cell HY.out.box 0).trans rfl
      have y1 := (blk_cell HY.out.box 1).trans rfl
      have y2 := (blk_cell HY.out.box 2).trans rfl
      have HYM := Aside0.mk (show MC wr Au none E cu 0 ce (turnA axes) [] exc from ⟨(Kd.R_reads' HY.out.own).2.2, (Kd.R_reads' HY.out.own).2.1, ⟨rfl, by decide, fun h => absurd h (by decide)⟩, Nat.le_refl _, Kd.C_below HE6.out.2 HY.out.bel, HE6.out.1⟩)
      have hcc : (code != code) = false := bne_self_eq_false _
      have hbb : (built != built) = false := bne_self_eq_false _
      have hll : ((P.length : Int) != (Q.length : Int)) = false := by rw [HPL.out]; exact bne_self_eq_false _
      have HTR := Aside0.mk (show MC wr A0 A1 A2 c0 c1 c2 axes inc exc ∧ FP wr AP cP P from ⟨HMC.out.below HY.out.bel, HP6.out.below HY.out.bel⟩)
      have HMW := Aside0.mk (And.intro (pw_cell_below HY.out.bel HM0.out) (And.intro (pw_cell_below HY.out.bel HM1.out) (pw_cell_below HY.out.bel HM2.out)))
      have HBW2 := Aside0.mk (HB6.out.trans (HY.out.bel.mono HB6.out.size))
      go_wp2_with (go_at_call 11; refine (m_build_at HYM.out HT2.out HRES2.out).mono ?_; rintro e w9 ⟨AQ, cQ, rfl, hq, hb⟩; have HQ9 := Aside0.mk hq.fp; have HB9 := Aside0.mk (below_step HBW2.out hb); have HC9 := Aside0.mk (And.intro (HTR.out.1.below hb) (HTR.out.2.below hb)); have HM9 := Aside0.mk (And.intro (pw_cell_below hb HMW.out.1) (And.intro (pw_cell_below hb HMW.out.2.1) (pw_cell_below hb HMW.out.2.2))); clear hq hb y0 y1 y2)
      go_loopw [14] (fun v wr => ∃ i : Nat, i ≤ P.length ∧ v = .int .i64 (i : Int) ∧ Below w9.heap.size w9 wr) (fun v _ => P.length - (intOf v).toNat)
      case atStart => exact ⟨0, Nat.zero_le _, rfl, Below.refl _ _⟩
      case round =>
        obtain ⟨i, hi, rfl, hb⟩ := hrel
        have HB := Aside0.mk hb
        have hpl := HFP.out.1
        have hql := HFQ.out.1
        by_cases hlt : i < P.length
        · obtain ⟨j, hj, hje⟩ := HTH.out i hlt
          obtain ⟨m, hmq, hme, hmv⟩ := turn_l0 P[i] Q (HFP.out.2 _ (List.getElem_mem hlt)) HFQ.out j hj hje j 0 (by omega)
          obtain ⟨ap, Ai, ci, hAP, t0, hlp, hF1⟩ := (HC9.out.2.below hb).at_ i hlt
          obtain ⟨aq, Aj, cj, hAQ, t4, hlq, hF2⟩ := (HQ9.out.below hb).at_ m hmq
          have hpn := HFP.out.2 _ (List.getElem_mem hlt)
          have hqn := HFQ.out.2 _ (List.getElem_mem hmq)
          have HFQw := Aside0.mk (HQ9.out.below hb)
          obtain ⟨p, hp⟩ : ∃ p, p = P[i] := ⟨_, rfl⟩
          obtain ⟨q, hq⟩ : ∃ q, q = Q[m] := ⟨_, rfl⟩
          rw [← hp] at hme hmv t0 hlp hF1 hpn
          rw [← hq] at hme t4 hlq hF2 hqn
          subst hAP hAQ
          obtain ⟨o, ho⟩ : ∃ o, Ov.overB [p] = o := ⟨_, rfl⟩
          have HO1 := Aside0.mk ho
          have HO2 := Aside0.mk (show Ov.overB [q] = o from hme.symm.trans ho)
          obtain ⟨r, hr⟩ : ∃ r, r = (Q.length : Int) - 1 - (m : Int) := ⟨_, rfl⟩
          have HMV := Aside0.mk (show Ev (fun k => shuttlelaw13_turn.l0 k p Q 0) r by rw [hr]; exact hmv)
          have hwq : wrap64 ((Q.length : Int) - 1) = (Q.length : Int) - 1 := wrap_down hql
          have hwm : wrap64 ((Q.length : Int) - 1 - r) = (m : Int) := by rw [hr]; exact wrap_back hql hmq
          have hwm0 : (0 : Int) ≤ (m : Int) := Int.natCast_nonneg m
          have hwm1 : (m : Int) < (Q.length : Int) := by omega
          have hii : (i : Int) < (P.length : Int) := by omega
          have hwi := wrap_upT hlt hpl
          have t1 := pw_cell_below hb HM9.out.1
          have t2 := pw_cell_below hb HM9.out.2.1
          have t3 := pw_cell_below hb HM9.out.2.2
          have TR9 := Aside0.mk (TR.mk (HC9.out.1.below hb) HFQw.out hF1 hF2 hb)
          have HLT := Aside0.mk hlt
          clear hb hj hje hme hmv hF1 hF2 hp hq ho hr hi hpl hql hlt hmq hcc hbb hll
          go_upto_region 20 with fail
          have TR10 := Aside0.mk (TR9.out.below (Below.refl _ _).drew)
          refine start_ (n := 24) (S := fun w' => w'.cell? (ap.add i) = some (.slice Ai p.length ci) ∧ w'.cell? ⟨mb, 0, none⟩ = some (.slice A0 axes.length c0) ∧ w'.cell? ⟨mb, 1, none⟩ = some (.slice A1 inc.length c1) ∧ w'.cell? ⟨mb, 2, none⟩ = some (.slice A2 exc.length c2) ∧ w'.cell? (aq.add m) = some (.slice Aj q.length cj)) (ds := []) #[false, false, false, false, false, false, false, false, false, false, false, false, false, false, false, false, false, false, false, false, false, false, false, false] (by kernel_rfl) rfl rfl ⟨t0, t1, t2, t3, t4⟩ (fun hHeld => ?_)
          clear t0 t1 t2 t3 t4
          generalize wr.drew = w10 at hHeld TR10 ⊢
          refine pure_ (i := 0) (N := some 102) (v := ?_) (a' := ?_) #[true, false, false, false, false, false, false, false, false, false, false, false, false, false, false, false, false, false, false, false, false, false, false, false] rfl rfl (by kernel_rfl) (fun _ _ _ h => h) (Or.inl ⟨by rfl, ?_⟩) ?_ ?_
          rotate_left
          · intro w'
            go_simp
            with_reducible rfl
          rotate_left
          · simp only [Act.put, List.setIfInBounds_toArray, List.set_cons_zero, List.set_cons_succ, i64_w, i32_w]
            rfl
          refine pure_ (i := 1) (N := some 103) (v := ?_) (a' := ?_) #[true, true, false, false, false, false, false, false, false, false, false, false, false, false, false, false, false, false, false, false, false, false, false, false] rfl rfl (by kernel_rfl) (fun _ _ _ h => h) (Or.inl ⟨by rfl, ?_⟩) ?_ ?_
          rotate_left
          · intro w'
            go_simp
            with_reducible rfl
          rotate_left
          · simp only [Act.put, List.setIfInBounds_toArray, List.set_cons_zero, List.set_cons_succ, i64_w, i32_w]
            rfl
          refine pure_ (i := 2) (N := some 104) (v := ?_) (a' := ?_) #[true, true, true, false, false, false, false, false, false, false, false, false, false, false, false, false, false, false, false, false, false, false, false, false] rfl rfl (by kernel_rfl) (fun _ _ _ h => h) (Or.inl ⟨by rfl, ?_⟩) ?_ ?_
          rotate_left
          · intro w'
            go_simp
            with_reducible rfl
          rotate_left
          · simp only [Act.put, List.setIfInBounds_toArray, List.set_cons_zero, List.set_cons_succ, i64_w, i32_w]
            rfl
          refine pure_ (i := 6) (N := some 108) (v := ?_) (a' := ?_) #[true, true, true, false, false, false, true, false, false, false, false, false, false, false, false, false, false, false, false, false, false, false, false, false] rfl rfl (by kernel_rfl) (fun _ _ _ h => h) (Or.inl ⟨by rfl, ?_⟩) ?_ ?_
          rotate_left
          · intro w'
            go_simp
            with_reducible rfl
          rotate_left
          · simp only [Act.put, List.setIfInBounds_toArray, List.set_cons_zero, List.set_cons_succ, i64_w, i32_w]
            rfl
          refine pure_ (i := 7) (N := some 109) (v := ?_) (a' := ?_) #[true, true, true, false, false, false, true, true, false, false, false, false, false, false, false, false, false, false, false, false, false, false, false, false] rfl rfl (by kernel_rfl) (fun _ _ _ h => h) (Or.inl ⟨by rfl, ?_⟩) ?_ ?_
          rotate_left
          · intro w'
            go_simp
            with_reducible rfl
          rotate_left
          · simp only [Act.put, List.setIfInBounds_toArray, List.set_cons_zero, List.set_cons_succ, i64_w, i32_w]
            rfl
          refine pure_ (i := 8) (N := some 110) (v := ?_) (a' := ?_) #[true, true, true, false, false, false, true, true, true, false, false, false, false, false, false, false, false, false, false, false, false, false, false, false] rfl rfl (by kernel_rfl) (fun _ _ _ h => h) (Or.inl ⟨by rfl, ?_⟩) ?_ ?_
          rotate_left
          · intro w'
            go_simp
            with_reducible rfl
          rotate_left
          · simp only [Act.put, List.setIfInBounds_toArray, List.set_cons_zero, List.set_cons_succ, i64_w, i32_w]
            rfl
          refine pure_ (i := 9) (N := some 111) (v := ?_) (a' := ?_) #[true, true, true, false, false, false, true, true, true, true, false, false, false, false, false, false, false, false, false, false, false, false, false, false] rfl rfl (by kernel_rfl) (fun _ _ _ h => h) (Or.inl ⟨by rfl, ?_⟩) ?_ ?_
          rotate_left
          · intro w'
            go_simp
            with_reducible rfl
          rotate_left
          · simp only [Act.put, List.setIfInBounds_toArray, List.set_cons_zero, List.set_cons_succ, i64_w, i32_w]
            rfl
          refine pure_ (i := 11) (N := some 113) (v := ?_) (a' := ?_) #[true, true, true, false, false, false, true, true, true, true, false, true, false, false, false, false, false, false, false, false, false, false, false, false] rfl rfl (by kernel_rfl) (fun _ _ _ h => h) (Or.inl ⟨by rfl, ?_⟩) ?_ ?_
          rotate_left
          · intro w'
            go_simp
            with_reducible rfl
          rotate_left
          · simp only [Act.put, List.setIfInBounds_toArray, List.set_cons_zero, List.set_cons_succ, i64_w, i32_w]
            rfl
          refine pure_ (i := 12) (N := some 114) (v := ?_) (a' := ?_) #[true, true, true, false, false, false, true, true, true, true, false, true, true, false, false, false, false, false, false, false, false, false, false, false] rfl rfl (by kernel_rfl) (fun _ _ _ h => h) (Or.inl ⟨by rfl, ?_⟩) ?_ ?_
          rotate_left
          · intro w'
            go_simp
            with_reducible rfl
          rotate_left
          · simp only [Act.put, List.setIfInBounds_toArray, List.set_cons_zero, List.set_cons_succ, i64_w, i32_w]
            rfl
          refine pure_ (i := 13) (N := some 115) (v := ?_) (a' := ?_) #[true, true, true, false, false, false, true, true, true, true, false, true, true, true, false, false, false, false, false, false, false, false, false, false] rfl rfl (by kernel_rfl) (fun _ _ _ h => h) (Or.inl ⟨by rfl, ?_⟩) ?_ ?_
          rotate_left
          · intro w'
            go_simp
            with_reducible rfl
          rotate_left
          · simp only [Act.put, List.setIfInBounds_toArray, List.set_cons_zero, List.set_cons_succ, i64_w, i32_w]
            rfl
          refine pure_ (i := 15) (N := some 117) (v := ?_) (a' := ?_) #[true, true, true, false, false, false, true, true, true, true, false, true, true, true, false, true, false, false, false, false, false, false, false, false] rfl rfl (by kernel_rfl) (fun _ _ _ h => h) (Or.inl ⟨by rfl, ?_⟩) ?_ ?_
          rotate_left
          · intro w'
            go_simp
            with_reducible rfl
          rotate_left
          · simp only [Act.put, List.setIfInBounds_toArray, List.set_cons_zero, List.set_cons_succ, i64_w, i32_w]
            rfl
          refine take_ (i := 3) (N := some 105) (v := ?_) (a' := ?_) #[true, true, true, true, false, false, true, true, true, true, false, true, true, true, false, true, false, false, false, false, false, false, false, false] rfl rfl (by kernel_rfl) (fun _ _ _ h => h) (Or.inl ⟨by rfl, ?_⟩) hHeld ?_ ?_
          rotate_left
          · rintro w' ⟨s0, s1, s2, s3, s4⟩
            go_simp
            with_reducible rfl
          rotate_left
          · simp only [Act.put, List.setIfInBounds_toArray, List.set_cons_zero, List.set_cons_succ, i64_w, i32_w]
            rfl
          refine take_ (i := 10) (N := some 112) (v := ?_) (a' := ?_) #[true, true, true, true, false, false, true, true, true, true, true, true, true, true, false, true, false, false, false, false, false, false, false, false] rfl rfl (by kernel_rfl) (fun _ _ _ h => h) (Or.inl ⟨by rfl, ?_⟩) hHeld ?_ ?_
          rotate_left
          · rintro w' ⟨s0, s1, s2, s3, s4⟩
            go_simp
            with_reducible rfl
          rotate_left
          · simp only [Act.put, List.setIfInBounds_toArray, List.set_cons_zero, List.set_cons_succ, i64_w, i32_w]
            rfl
          refine take_ (i := 14) (N := some 116) (v := ?_) (a' := ?_) #[true, true, true, true, false, false, true, true, true, true, true, true, true, true, true, true, false, false, false, false, false, false, false, false] rfl rfl (by kernel_rfl) (fun _ _ _ h => h) (Or.inl ⟨by rfl, ?_⟩) hHeld ?_ ?_
          rotate_left
          · rintro w' ⟨s0, s1, s2, s3, s4⟩
            go_simp
            with_reducible rfl
          rotate_left
          · simp only [Act.put, List.setIfInBounds_toArray, List.set_cons_zero, List.set_cons_succ, i64_w, i32_w]
            rfl
          refine one_ (i := 4) (N := some 106) #[true, true, true, true, true, false, true, true, true, true, true, true, true, true, true, true, false, false, false, false, false, false, false, false] rfl rfl (by kernel_rfl) (by decide) (fun K hK => ?_)
          refine value_ (w1 := ?_) (v := ?_) (by rfl) rfl ?_ ?_
          rotate_left 2
          · go_simp
            constructor
            · rfl
            · rfl
          have hb11 := below_alloc (Below.refl w10.heap.size w10) (.cells #[.slice Ai p.length ci] 36)
          have hbx11 := blk_new w10 (.cells #[.slice Ai p.length ci] 36)
          generalize w10.alloc (.cells #[.slice Ai p.length ci] 36) = w11 at hb11 hbx11 ⊢
          have TR11 := Aside0.mk (TR10.out.below hb11)
          refine hK.out _ _ ⟨pw_cell_below hb11 hHeld.1, pw_cell_below hb11 hHeld.2.1, pw_cell_below hb11 hHeld.2.2.1, pw_cell_below hb11 hHeld.2.2.2.1, pw_cell_below hb11 hHeld.2.2.2.2⟩ (fun hHeld => ?_)
          clear hK K
          refine norm_ (a' := ?_) ?_ ?_
          rotate_left
          · show Act.put _ (some 106) _ = _
            simp only [Act.put, List.setIfInBounds_toArray, List.set_cons_zero, List.set_cons_succ, i64_w, i32_w]
            rfl
          refine one_ (i := 5) (N := some 107) #[true, true, true, true, true, true, true, true, true, true, true, true, true, true, true, true, false, false, false, false, false, false, false, false] rfl rfl (by kernel_rfl) (by decide) (fun K hK => ?_)
          refine goes_ Try.func28 (by kernel_rfl) rfl #[.slice (some ⟨w10.heap.size, 0, none⟩) 1 1] (by rfl) rfl rfl (by simp only [List.map_toArray, List.map_cons, List.map_nil]; rfl) ?_
          with_reducible refine (over_at hbx11 hlp (Kd.F_now TR11.out.fi) hpn HO1.out).mono ?_
          rintro e w12 ⟨Ao, co, rfl, hO1, hb12⟩
          refine ⟨_, rfl, ?_⟩
          have TR12 := Aside0.mk (TR11.out.below hb12)
          refine hK.out _ _ ⟨pw_cell_below hb12 hHeld.1, pw_cell_below hb12 hHeld.2.1, pw_cell_below hb12 hHeld.2.2.1, pw_cell_below hb12 hHeld.2.2.2.1, pw_cell_below hb12 hHeld.2.2.2.2⟩ (fun hHeld => ?_)
          clear hK K
          refine norm_ (a' := ?_) ?_ ?_
          rotate_left
          · show Act.put _ (some 107) _ = _
            simp only [Act.put, List.setIfInBounds_toArray, List.set_cons_zero, List.set_cons_succ, i64_w, i32_w]
            rfl
          refine one_ (i := 16) (N := some 118) #[true, true, true, true, true, true, true, true, true, true, true, true, true, true, true, true, true, false, false, false, false, false, false, false] rfl rfl (by kernel_rfl) (by decide) (fun K hK => ?_)
          refine goes_ Try.func30 (by kernel_rfl) rfl #[.agg #[.slice A0 axes.length c0, .slice A1 inc.length c1, .slice A2 exc.length c2], .slice Ai p.length ci, .slice (some aq) Q.length cQ] (by rfl) rfl rfl (by simp only [List.map_toArray, List.map_cons, List.map_nil]; rfl) ?_
          with_reducible refine (turn_at TR12.out.mc hlp TR12.out.fi TR12.out.fq HMV.out).mono ?_
          rintro e w13 ⟨rfl, hb13⟩
          refine ⟨_, rfl, ?_⟩
          have TR13 := Aside0.mk (TR12.out.below hb13)
          refine hK.out _ _ ⟨pw_cell_below hb13 hHeld.1, pw_cell_below hb13 hHeld.2.1, pw_cell_below hb13 hHeld.2.2.1, pw_cell_below hb13 hHeld.2.2.2.1, pw_cell_below hb13 hHeld.2.2.2.2⟩ (fun hHeld => ?_)
          clear hK K
          refine norm_ (a' := ?_) ?_ ?_
          rotate_left
          · show Act.put _ (some 118) _ = _
            simp only [Act.put, List.setIfInBounds_toArray, List.set_cons_zero, List.set_cons_succ, i64_w, i32_w]
            rfl
          refine pure_ (i := 17) (N := some 119) (v := ?_) (a' := ?_) #[true, true, true, true, true, true, true, true, true, true, true, true, true, true, true, true, true, true, false, false, false, false, false, false] rfl rfl (by kernel_rfl) (fun _ _ _ h => h) (Or.inl ⟨by rfl, ?_⟩) ?_ ?_
          rotate_left
          · intro w'
            go_simp
            with_reducible rfl
          rotate_left
          · simp only [Act.put, List.setIfInBounds_toArray, List.set_cons_zero, List.set_cons_succ, i64_w, i32_w]
            rfl
          refine pure_ (i := 18) (N := some 120) (v := ?_) (a' := ?_) #[true, true, true, true, true, true, true, true, true, true, true, true, true, true, true, true, true, true, true, false, false, false, false, false] rfl rfl (by kernel_rfl) (fun _ _ _ h => h) (Or.inl ⟨by rfl, ?_⟩) ?_ ?_
          rotate_left
          · intro w'
            go_simp
            with_reducible rfl
          rotate_left
          · simp only [Act.put, List.setIfInBounds_toArray, List.set_cons_zero, List.set_cons_succ, i64_w, i32_w]
            rfl
          refine take_ (i := 19) (N := some 121) (v := ?_) (a' := ?_) #[true, true, true, true, true, true, true, true, true, true, true, true, true, true, true, true, true, true, true, true, false, false, false, false] rfl rfl (by kernel_rfl) (fun _ _ _ h => h) (Or.inl ⟨by rfl, ?_⟩) hHeld ?_ ?_
          rotate_left
          · rintro w' ⟨s0, s1, s2, s3, s4⟩
            go_simp
            with_reducible rfl
          rotate_left
          · simp only [Act.put, List.setIfInBounds_toArray, List.set_cons_zero, List.set_cons_succ, i64_w, i32_w]
            rfl
          refine one_ (i := 20) (N := some 122) #[true, true, true, true, true, true, true, true, true, true, true, true, true, true, true, true, true, true, true, true, true, false, false, false] rfl rfl (by kernel_rfl) (by decide) (fun K hK => ?_)
          refine value_ (w1 := ?_) (v := ?_) (by rfl) rfl ?_ ?_
          rotate_left 2
          · go_simp
            constructor
            · rfl
            · rfl
          have hb14 := below_alloc (Below.refl w13.heap.size w13) (.cells #[.slice Aj q.length cj] 36)
          have hbx14 := blk_new w13 (.cells #[.slice Aj q.length cj] 36)
          generalize w13.alloc (.cells #[.slice Aj q.length cj] 36) = w14 at hb14 hbx14 ⊢
          have TR14 := Aside0.mk (TR13.out.below hb14)
          refine hK.out _ _ ⟨pw_cell_below hb14 hHeld.1, pw_cell_below hb14 hHeld.2.1, pw_cell_below hb14 hHeld.2.2.1, pw_cell_below hb14 hHeld.2.2.2.1, pw_cell_below hb14 hHeld.2.2.2.2⟩ (fun hHeld => ?_)
          clear hK K
          refine norm_ (a' := ?_) ?_ ?_
          rotate_left
          · show Act.put _ (some 122) _ = _
            simp only [Act.put, List.setIfInBounds_toArray, List.set_cons_zero, List.set_cons_succ, i64_w, i32_w]
            rfl
          refine one_ (i := 21) (N := some 123) #[true, true, true, true, true, true, true, true, true, true, true, true, true, true, true, true, true, true, true, true, true, true, false, false] rfl rfl (by kernel_rfl) (by decide) (fun K hK => ?_)
          refine goes_ Try.func28 (by kernel_rfl) rfl #[.slice (some ⟨w13.heap.size, 0, none⟩) 1 1] (by rfl) rfl rfl (by simp only [List.map_toArray, List.map_cons, List.map_nil]; rfl) ?_
          with_reducible refine (over_at hbx14 hlq (Kd.F_now TR14.out.fj) hqn HO2.out).mono ?_
          rintro e w15 ⟨Ap2, cp2, rfl, hO2, hb15⟩
          refine ⟨_, rfl, ?_⟩
          have TR15 := Aside0.mk (TR14.out.below hb15)
          have hO1' := And.intro hO1.1 (Kd.C_below (Kd.C_below (Kd.C_below hO1.2 hb13) hb14) hb15)
          refine hK.out _ _ ⟨pw_cell_below hb15 hHeld.1, pw_cell_below hb15 hHeld.2.1, pw_cell_below hb15 hHeld.2.2.1, pw_cell_below hb15 hHeld.2.2.2.1, pw_cell_below hb15 hHeld.2.2.2.2⟩ (fun hHeld => ?_)
          clear hK K
          refine norm_ (a' := ?_) ?_ ?_
          rotate_left
          · show Act.put _ (some 123) _ = _
            simp only [Act.put, List.setIfInBounds_toArray, List.set_cons_zero, List.set_cons_succ, i64_w, i32_w]
            rfl
          refine one_ (i := 22) (N := some 124) #[true, true, true, true, true, true, true, true, true, true, true, true, true, true, true, true, true, true, true, true, true, true, true, false] rfl rfl (by kernel_rfl) (by decide) (fun K hK => ?_)
          refine goes_ Try.func20 (by kernel_rfl) rfl #[.slice Ao o.length co, .slice Ap2 o.length cp2] (by rfl) rfl rfl (by simp only [List.map_toArray, List.map_cons, List.map_nil]; rfl) ?_
          with_reducible refine (sameT_at hO1' hO2).mono ?_
          rintro e w16 ⟨rfl, hb16⟩
          refine ⟨_, rfl, ?_⟩
          have TR16 := Aside0.mk (TR15.out.below hb16)
          refine hK.out _ _ ⟨pw_cell_below hb16 hHeld.1, pw_cell_below hb16 hHeld.2.1, pw_cell_below hb16 hHeld.2.2.1, pw_cell_below hb16 hHeld.2.2.2.1, pw_cell_below hb16 hHeld.2.2.2.2⟩ (fun hHeld => ?_)
          clear hK K
          refine norm_ (a' := ?_) ?_ ?_
          rotate_left
          · show Act.put _ (some 124) _ = _
            simp only [Act.put, List.setIfInBounds_toArray, List.set_cons_zero, List.set_cons_succ, i64_w, i32_w]
            rfl
          refine pure_ (i := 23) (N := some 125) (v := ?_) (a' := ?_) #[true, true, true, true, true, true, true, true, true, true, true, true, true, true, true, true, true, true, true, true, true, true, true, true] rfl rfl (by kernel_rfl) (fun _ _ _ h => h) (Or.inl ⟨by rfl, ?_⟩) ?_ ?_
          rotate_left
          · intro w'
            go_simp
            with_reducible rfl
          rotate_left
          · simp only [Act.put, List.setIfInBounds_toArray, List.set_cons_zero, List.set_cons_succ, i64_w, i32_w]
            rfl
          refine done_ (by kernel_rfl) ?_
          go_wp2
          go_roundw
          case rel => exact ⟨i + 1, HLT.out, by rw [hwi]; rfl, TR16.out.bel⟩
          case measure => rw [hwi]; exact meas_upT HLT.out
        · have HBE := Aside0.mk (HB9.out.trans (hb.mono HB9.out.size))
          clear hb HB
          go_wp2_with (go_at_call 21; refine (awake_any _).mono ?_; rintro e w22 ⟨rfl, hb⟩; have HB22 := Aside0.mk (below_step HBE.out hb); clear hb)
          go_ret
          exact ⟨rfl, below_step HBW.out HB22.out⟩
    · obtain ⟨k, rfl⟩ : ∃ k, n = k + 1 := ⟨n - 1, by omega⟩
      have e8 : ((k + 1 : Nat) : Int) - 1 = (k : Int) := by omega
      rw [e8]
      have hk : k < axes.length := hn
      have m0 := pw_cell_below hy.bel HM0.out
      have HMw := Aside0.mk (HMC.out.below hy.bel)
      obtain ⟨ad, A3, c3, he, hx, hx1, hle, hi⟩ := at_T46 HMw.out.r0 (k : Int) (by omega) (by omega)
      subst he
      have hrd : rd_T46 axes (k : Int) = axes[k] := rd_axis axes k hk
      rw [hrd] at hx hx1 hle hi
      obtain ⟨ax, hax⟩ : ∃ ax, ax = axes[k] := ⟨_, rfl⟩
      rw [← hax] at hx hx1 hle hi
      replace hx : wr.cell? (ad.add (k * 2)) = _ := hx
      replace hx1 : wr.cell? ⟨(ad.add (k * 2)).block, (ad.add (k * 2)).off + 1, none⟩ = _ := hx1
      have HAX := Aside0.mk hax
      have hkk : (k : Int) < (axes.length : Int) := by omega
      have hal : ax.f1.length ≤ 1048576 := by rw [hax]; exact HT.out.l0 _ (List.getElem_mem hk)
      have HK := Aside0.mk hk
      clear hy hn hz e8 hrd hax
      go_upto_region 9 with fail
      have hAB := blk_new wr (.cells #[.string ax.f0, .slice none 0 0] 46)
      have HA0 := Aside0.mk (show AR wr wr.heap.size ax.f0 (.slice none 0 0) ((ax.f1.drop ax.f1.length).reverse) (wr.alloc (.cells #[.string ax.f0, .slice none 0 0] 46)) from ⟨hAB, by rw [List.drop_length]; exact Kd.R_nil _ _ _ _ _, below_alloc (Below.refl _ _) _⟩)
      have HC0 := Aside0.mk (And.intro m0 hx1)
      have HCV := Aside0.mk hi
      clear hAB m0 hx hx1 hi
      generalize wr.alloc (.cells #[.string ax.f0, .slice none 0 0] 46) = W7 at HA0 ⊢
      have m0 := pw_cell_below HA0.out.bel HC0.out.1
      have hx1 := pw_cell_below HA0.out.bel HC0.out.2
      have hw1 := low_one (m := 0) hal
      obtain ⟨wo, rfl⟩ : ∃ wo : World, wo = wr := ⟨_, rfl⟩
      go_wp2
      go_loopw [10] (fun v wi => ∃ j : Nat, j ≤ ax.f1.length ∧ v = .int .i64 ((j : Int) - 1) ∧ ∃ u2, AR wo wo.heap.size ax.f0 u2 ((ax.f1.drop j).reverse) wi) (fun v _ => (intOf v + 1).toNat)
      case atStart => exact ⟨ax.f1.length, Nat.le_refl _, rfl, _, HA0.out⟩
      case round =>
        clear m0 hx1 hw1 HA0
        obtain ⟨j, hj, rfl, u2, ha⟩ := hrel
        have HA := Aside0.mk ha
        obtain ⟨A4, c4, e4⟩ := Kd.R_slice ha.own
        subst e4
        have g0 := (blk_cell ha.box 0).trans rfl
        have g1 := (blk_cell ha.box 1).trans rfl
        rcases Nat.eq_zero_or_pos j with hz | hz
        · subst hz
          rw [List.drop_zero, List.length_reverse] at HA g1
          have hdec : ¬ ((0 : Int) ≤ ((0 : Nat) : Int) - 1) := by decide
          have HYi := Aside0.mk (HY.out.below ha.bel)
          have y0 := (blk_cell HYi.out.box 0).trans rfl
          have yf := blk_frozen HYi.out.box 0
          have HUB := Aside0.mk (show ∀ q, (Value.slice Au (turnA (axes.drop (k + 1))).length cu).ownBlock = some q → q < wo.heap.size from fun q hq => (Kd.R_bound HY.out.own).1 q hq |>.2.2.1)
          have HAR := Aside0.mk (show ∀ q, wo.heap.size ≤ q → True ∧ some q ≠ (Value.slice Au (turnA (axes.drop (k + 1))).length cu).ownBlock from fun q hq => ⟨trivial, fun e => by have := HUB.out q e.symm; omega⟩)
          have HVR := Aside0.mk (Kd.R_lower (Kd.R_mono (Kd.R_bound HA.out.own) (fun q hq => hq.2.1)) (show w6.heap.size ≤ wo.heap.size from HY.out.bel.size))
          have HLY := Aside0.mk (show ((turnA (axes.drop (k + 1))).length + 1) * 40 ≤ 140737488355328 by rw [turnA_len, List.length_drop]; omega)
          clear ha hj HUB
          go_wp2_with (at_builtin; go_loud (refine Kd.R_append k46 (w0 := w6) w6.heap.size rfl (.tmp 70) (.tmp 72) 22 46 (.agg #[(.string ⟨#[]⟩), (.slice none 0 0)]) 40 rfl Try.underlying22 info46 rfl (by decide) (by omega) (.slice Au (turnA (axes.drop (k + 1))).length cu) (turnA (axes.drop (k + 1))) (⟨ax.f0, ax.f1.reverse⟩ : S46) [.string ax.f0, .slice A4 ax.f1.length c4] (fun _ => True) (fun q => wo.heap.size ≤ q) rfl rfl (k46_mkM _ _ _ (⟨ax.f0, ax.f1.reverse⟩ : S46) HVR.out) HAR.out (fun _ _ => trivial) HYi.out.own HYi.out.bel HYi.out.bel.size HLY.out ?_); intro v1 w10 ho9 hb9 hg9 hat9; obtain ⟨A5, c5, e5⟩ := Kd.R_slice ho9; rw [List.length_append] at e5; subst e5; have hbx := (hg9.block w6.heap.size (blk_lt HYi.out.box) (Kd.R_away (axR_ne HYi.out.own HYi.out.box) (fun _ h => h))).trans HYi.out.box; have c10 := (blk_cell hbx 0).trans rfl; have f10 := blk_frozen hbx 0; have HYP := Aside0.mk (HYi.out.put ho9 hb9 hg9); clear ho9 hb9 hg9 hat9 hbx y0 yf g0 g1)
          have HTD := Aside0.mk (turnA_drop HK.out)
          rw [← HAX.out] at HTD
          rw [← HTD.out] at HYP
          go_roundw
          case rel => exact ⟨k, Nat.le_of_lt HK.out, rfl, _, HYP.out⟩
          case measure => exact meas_down k
        · obtain ⟨v, rfl⟩ : ∃ v, j = v + 1 := ⟨j - 1, by omega⟩
          have e10 : ((v + 1 : Nat) : Int) - 1 = (v : Int) := by omega
          rw [e10]
          have hv : v < ax.f1.length := hj
          have g2 := pw_cell_below ha.bel HC0.out.1
          have g3 := pw_cell_below ha.bel HC0.out.2
          obtain ⟨ad0, e0, hs0⟩ := Kd.at_string HCV.out (v : Int) (by omega) (by omega)
          subst e0
          have hsv : rdOf ByteArray.empty ax.f1 (v : Int) = ax.f1[v] := by simp [rdOf, hv]
          rw [hsv] at hs0
          have g4 := pw_cell_below ha.bel hs0
          replace g4 : wr.cell? (ad0.add v) = _ := g4
          have gf := blk_frozen ha.box 1
          have hvv : (v : Int) < (ax.f1.length : Int) := by omega
          have HV := Aside0.mk hv
          have HVE := Aside0.mk (vals_drop hv)
          have HL4 := Aside0.mk (show ((ax.f1.drop (v + 1)).reverse).length ≤ 1048576 by rw [List.length_reverse, List.length_drop]; omega)
          obtain ⟨vs, hvs⟩ : ∃ vs, vs = (ax.f1.drop (v + 1)).reverse := ⟨_, rfl⟩
          rw [← hvs] at HA HVE HL4 g1
          obtain ⟨sv, hsv'⟩ : ∃ sv, sv = ax.f1[v] := ⟨_, rfl⟩
          rw [← hsv'] at g4 HVE
          clear ha hz e10 hj hs0 hsv hv hvs hsv'
          go_upto_region 12 with fail
          have HA9 := Aside0.mk (show AR wo wo.heap.size ax.f0 (.slice A4 vs.length c4) vs wr.drew from HA.out.below (Below.refl _ _).drew)
          refine start_ (n := 15) (S := fun w' => w'.cell? ⟨wo.heap.size, 1, none⟩ = some (.slice A4 vs.length c4) ∧ w'.cell? ⟨mb, 0, none⟩ = some (.slice (some ad) axes.length c0) ∧ w'.cell? ⟨(ad.add (k * 2)).block, (ad.add (k * 2)).off + 1, none⟩ = some (.slice (some ad0) ax.f1.length c3) ∧ w'.cell? (ad0.add v) = some (.string sv)) (ds := [12, 14]) #[false, false, false, false, false, false, false, false, false, false, false, false, false, false, false] (by kernel_rfl) rfl rfl ⟨g1, g2, g3, g4⟩ (fun hHeld => ?_)
          clear g0 g1 g2 g3 g4 gf
          generalize wr.drew = w9 at hHeld HA9 ⊢
          refine pure_ (i := 0) (N := some 55) (v := ?_) (a' := ?_) #[true, false, false, false, false, false, false, false, false, false, false, false, false, false, false] rfl rfl (by kernel_rfl) (fun _ _ _ h => h) (Or.inl ⟨by rfl, ?_⟩) ?_ ?_
          rotate_left
          · intro w'
            go_simp
            with_reducible rfl
          rotate_left
          · simp only [Act.put, List.setIfInBounds_toArray, List.set_cons_zero, List.set_cons_succ, i64_w, i32_w]
            rfl
          refine pure_ (i := 2) (N := some 57) (v := ?_) (a' := ?_) #[true, false, true, false, false, false, false, false, false, false, false, false, false, false, false] rfl rfl (by kernel_rfl) (fun _ _ _ h => h) (Or.inl ⟨by rfl, ?_⟩) ?_ ?_
          rotate_left
          · intro w'
            go_simp
            with_reducible rfl
          rotate_left
          · simp only [Act.put, List.setIfInBounds_toArray, List.set_cons_zero, List.set_cons_succ, i64_w, i32_w]
            rfl
          refine pure_ (i := 4) (N := some 59) (v := ?_) (a' := ?_) #[true, false, true, false, true, false, false, false, false, false, false, false, false, false, false] rfl rfl (by kernel_rfl) (fun _ _ _ h => h) (Or.inl ⟨by rfl, ?_⟩) ?_ ?_
          rotate_left
          · intro w'
            go_simp
            with_reducible rfl
          rotate_left
          · simp only [Act.put, List.setIfInBounds_toArray, List.set_cons_zero, List.set_cons_succ, i64_w, i32_w]
            rfl
          refine pure_ (i := 8) (N := some 63) (v := ?_) (a' := ?_) #[true, false, true, false, true, false, false, false, true, false, false, false, false, false, false] rfl rfl (by kernel_rfl) (fun _ _ _ h => h) (Or.inl ⟨by rfl, ?_⟩) ?_ ?_
          rotate_left
          · intro w'
            go_simp
            with_reducible rfl
          rotate_left
          · simp only [Act.put, List.setIfInBounds_toArray, List.set_cons_zero, List.set_cons_succ, i64_w, i32_w]
            rfl
          refine take_ (i := 1) (N := some 56) (v := ?_) (a' := ?_) #[true, true, true, false, true, false, false, false, true, false, false, false, false, false, false] rfl rfl (by kernel_rfl) (fun _ _ _ h => h) (Or.inl ⟨by rfl, ?_⟩) hHeld ?_ ?_
          rotate_left
          · rintro w' ⟨s0, s1, s2, s3⟩
            go_simp
            with_reducible rfl
          rotate_left
          · simp only [Act.put, List.setIfInBounds_toArray, List.set_cons_zero, List.set_cons_succ, i64_w, i32_w]
            rfl
          refine take_ (i := 3) (N := some 58) (v := ?_) (a' := ?_) #[true, true, true, true, true, false, false, false, true, false, false, false, false, false, false] rfl rfl (by kernel_rfl) (fun _ _ _ h => h) (Or.inl ⟨by rfl, ?_⟩) hHeld ?_ ?_
          rotate_left
          · rintro w' ⟨s0, s1, s2, s3⟩
            go_simp
            with_reducible rfl
          rotate_left
          · simp only [Act.put, List.setIfInBounds_toArray, List.set_cons_zero, List.set_cons_succ, i64_w, i32_w]
            rfl
          refine pure_ (i := 5) (N := some 60) (v := ?_) (a' := ?_) #[true, true, true, true, true, true, false, false, true, false, false, false, false, false, false] rfl rfl (by kernel_rfl) (fun _ _ _ h => h) (Or.inl ⟨by rfl, ?_⟩) ?_ ?_
          rotate_left
          · intro w'
            go_simp
            with_reducible rfl
          rotate_left
          · simp only [Act.put, List.setIfInBounds_toArray, List.set_cons_zero, List.set_cons_succ, i64_w, i32_w]
            rfl
          refine pure_ (i := 6) (N := some 61) (v := ?_) (a' := ?_) #[true, true, true, true, true, true, true, false, true, false, false, false, false, false, false] rfl rfl (by kernel_rfl) (fun _ _ _ h => h) (Or.inl ⟨by rfl, ?_⟩) ?_ ?_
          rotate_left
          · intro w'
            go_simp
            with_reducible rfl
          rotate_left
          · simp only [Act.put, List.setIfInBounds_toArray, List.set_cons_zero, List.set_cons_succ, i64_w, i32_w]
            rfl
          refine take_ (i := 7) (N := some 62) (v := ?_) (a' := ?_) #[true, true, true, true, true, true, true, true, true, false, false, false, false, false, false] rfl rfl (by kernel_rfl) (fun _ _ _ h => h) (Or.inl ⟨by rfl, ?_⟩) hHeld ?_ ?_
          rotate_left
          · rintro w' ⟨s0, s1, s2, s3⟩
            go_simp
            with_reducible rfl
          rotate_left
          · simp only [Act.put, List.setIfInBounds_toArray, List.set_cons_zero, List.set_cons_succ, i64_w, i32_w]
            rfl
          refine pure_ (i := 9) (N := some 64) (v := ?_) (a' := ?_) #[true, true, true, true, true, true, true, true, true, true, false, false, false, false, false] rfl rfl (by kernel_rfl) (fun _ _ _ h => h) (Or.inl ⟨by rfl, ?_⟩) ?_ ?_
          rotate_left
          · intro w'
            go_simp
            with_reducible rfl
          rotate_left
          · simp only [Act.put, List.setIfInBounds_toArray, List.set_cons_zero, List.set_cons_succ, i64_w, i32_w]
            rfl
          refine take_ (i := 10) (N := some 65) (v := ?_) (a' := ?_) #[true, true, true, true, true, true, true, true, true, true, true, false, false, false, false] rfl rfl (by kernel_rfl) (fun _ _ _ h => h) (Or.inl ⟨by rfl, ?_⟩) hHeld ?_ ?_
          rotate_left
          · rintro w' ⟨s0, s1, s2, s3⟩
            go_simp
            with_reducible rfl
          rotate_left
          · simp only [Act.put, List.setIfInBounds_toArray, List.set_cons_zero, List.set_cons_succ, i64_w, i32_w]
            rfl
          refine one_ (i := 11) (N := some 66) #[true, true, true, true, true, true, true, true, true, true, true, true, false, false, false] rfl rfl (by kernel_rfl) (by decide) (fun K hK => ?_)
          refine value_ (w1 := ?_) (v := ?_) (by rfl) rfl ?_ ?_
          rotate_left 2
          · go_simp
            constructor
            · rfl
            · rfl
          refine hK.out _ _ ⟨pw_cell_below (below_alloc (Below.refl _ _) _) hHeld.1, pw_cell_below (below_alloc (Below.refl _ _) _) hHeld.2.1, pw_cell_below (below_alloc (Below.refl _ _) _) hHeld.2.2.1, pw_cell_below (below_alloc (Below.refl _ _) _) hHeld.2.2.2⟩ (fun hHeld => ?_)
          clear hK K
          refine norm_ (a' := ?_) ?_ ?_
          rotate_left
          · show Act.put _ (some 66) _ = _
            simp only [Act.put, List.setIfInBounds_toArray, List.set_cons_zero, List.set_cons_succ, i64_w, i32_w]
            rfl
          refine last_ (i := 12) (N := some 67) #[true, true, true, true, true, true, true, true, true, true, true, true, true, false, false] rfl rfl (by kernel_rfl) (by decide) (fun K hK => ?_)
          refine Kd.R_append_step Kd.string (w0 := wo) wo.heap.size (by rfl) (.tmp 56) (.tmp 66) 44 9 (.string ⟨#[]⟩) 16 rfl Try.underlying44 info9 rfl (by decide) (by omega) (.slice A4 vs.length c4) vs sv [.string sv] (fun _ => True) (fun _ => False) rfl rfl (by first | rfl | (go_simp; done) | (go_simp; rfl)) (fun _ h => h.elim) (fun _ _ => trivial) HA9.out.own HA9.out.bel (Nat.le_of_lt (blk_lt HA9.out.box)) (by have := HL4.out; omega) ?_
          intro v1 w10 ho9 hb9 hg9 hat9
          obtain ⟨A5, c5, e5⟩ := Kd.R_slice ho9
          rw [List.length_append] at e5
          subst e5
          have hbx := (hg9.block wo.heap.size (blk_lt HA9.out.box) (Kd.R_away (strR_ne HA9.out.own HA9.out.box (by decide)) (fun _ h => h))).trans HA9.out.box
          have c10 := (blk_cell hbx 1).trans rfl
          have f10 := blk_frozen hbx 1
          have HAP := Aside0.mk (HA9.out.put ho9 hb9 hg9)
          clear ho9 hb9 hg9 hat9 hbx
          refine hK.out _ _ ?_
          clear hK K
          refine norm_ (a' := ?_) ?_ ?_
          rotate_left
          · show Act.put _ (some 67) _ = _
            simp only [Act.put, List.setIfInBounds_toArray, List.set_cons_zero, List.set_cons_succ, i64_w, i32_w]
            rfl
          refine pure_ (i := 13) (N := some 68) (v := ?_) (a' := ?_) #[true, true, true, true, true, true, true, true, true, true, true, true, true, true, false] rfl rfl (by kernel_rfl) (fun _ _ _ h => h) (Or.inl ⟨by rfl, ?_⟩) ?_ ?_
          rotate_left
          · intro w'
            go_simp
            with_reducible rfl
          rotate_left
          · simp only [Act.put, List.setIfInBounds_toArray, List.set_cons_zero, List.set_cons_succ, i64_w, i32_w]
            rfl
          refine last_ (i := 14) (N := none) #[true, true, true, true, true, true, true, true, true, true, true, true, true, true, true] rfl rfl (by kernel_rfl) (by decide) (fun K hK => ?_)
          refine skip_ (w1 := ?_) (by rfl) rfl ?_ ?_
          rotate_left
          · go_simp
            rfl
          refine hK.out _ _ ?_
          clear hK K
          refine done_ (by kernel_rfl) ?_
          clear c10 f10
          rw [← HVE.out] at HAP
          go_wp2
          go_roundw
          case rel => exact ⟨v, Nat.le_of_lt HV.out, rfl, _, HAP.out⟩
          case measure => exact meas_down v
end Go.Proofs.Ytdgllnaeookddaa.Q
