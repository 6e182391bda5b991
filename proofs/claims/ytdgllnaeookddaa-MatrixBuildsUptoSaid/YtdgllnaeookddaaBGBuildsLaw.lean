/- The walk of statement MatrixBuilds. -/
import Derived.Test.YtdgllnaeookddaaBGBuildsAt
import Derived.Test.YtdgllnaeookddaaBGAwake
import Derived.Deep.QuietTactic
import Derived.BigQuiet
namespace Go.Proofs.Ytdgllnaeookddaa.Q
open Go.RowKit Go.Proofs.YtdgllnaeookddaaW.PrintWords Go.Proofs.YtdgllnaeookddaaW.PrintLast Go.Proofs.YtdgllnaeookddaaW.PrintMore
set_option linter.unusedVariables false
set_option linter.unusedSimpArgs false
def SpS (b3 hi g k : Nat) (f : Nat → Nat) (x : Nat) : Prop := (b3 ≤ x ∧ x < hi ∧ x ≠ g) ∧ f x < k
def LRel (w0 : World) (b3 hi : Nat) (f : Nat → Nat) (g n : Nat) (i : Value) (wr : World) : Prop := ∃ k : Nat, k ≤ n ∧ i = .int .i64 k ∧ TK w0 wr ∧ Kept w0 wr (SpS b3 hi g k f)
theorem kept_next {w0 w1 w2 : World} {b3 hi g k : Nat} {f : Nat → Nat} {B : Option Addr} (h : Kept w0 w1 (SpS b3 hi g k f)) (ho : ∀ x, ownS B x → (x < hi ∧ x ≠ g) ∧ f x = k) (hb : ∀ x, ownS B x → b3 ≤ x) (h2 : Kept w1 w2 (ownS B)) : Kept w0 w2 (SpS b3 hi g (k + 1) f) :=
  (h.mono (fun x hx => ⟨hx.1, Nat.lt_succ_of_lt hx.2⟩)).then_ h2 (fun x hx => .inl ⟨⟨hb x hx, (ho x hx).1.1, (ho x hx).1.2⟩, by have := (ho x hx).2; omega⟩)
set_option maxHeartbeats 1000000 in
set_option maxRecDepth 100000 in
theorem buildsLaw (A0 A1 A2 : Option Addr) (c0 c1 c2 : Nat) (axes : AX) (inc exc : List (List SV)) (w : World) (hm : MC w A0 A1 A2 c0 c1 c2 axes inc exc) (ht : Tiny axes inc exc) :
    Calls Try.prog 3 #[.agg #[.slice A0 axes.length c0, .slice A1 inc.length c1, .slice A2 exc.length c2]] w fun e w' => e = .returned (.bool true) ∧ Below w.heap.size w w' := by
  have HM := Aside0.mk (hm.alloc (.cells #[.slice A0 axes.length c0, .slice A1 inc.length c1, .slice A2 exc.length c2] 25))
  have HBX := Aside0.mk (blk_new w (.cells #[.slice A0 axes.length c0, .slice A1 inc.length c1, .slice A2 exc.length c2] 25))
  have HBW := Aside0.mk (below_alloc (Below.refl w.heap.size w) (.cells #[.slice A0 axes.length c0, .slice A1 inc.length c1, .slice A2 exc.length c2] 25))
  have HT := Aside0.mk ht
  obtain ⟨want, built, code, hres⟩ : ∃ a b c, buildP axes inc exc = (a, b, c) := ⟨_, _, _, rfl⟩
  have HRES := Aside0.mk hres
  have HFEW := Aside0.mk (show Few want by have := few_build ht; rw [hres] at this; exact this)
  obtain ⟨co, hco⟩ : ∃ co, countI axes inc exc = co := ⟨_, rfl⟩
  obtain ⟨ck, hck⟩ : ∃ ck, checkI axes inc exc = ck := ⟨_, rfl⟩
  have HCO := Aside0.mk hco
  have HCK := Aside0.mk hck
  clear hm ht hres hco hck
  go_enter Try.func3, Try.ntmps3
  go_wp2_with (first
    | (go_at_call 9; refine (m_refBuild_at HM.out HT.out HRES.out).mono ?_; rintro e w2 ⟨AW, cW, rfl, hs2, hb⟩; have HW2 := Aside0.mk hs2; have HB2 := Aside0.mk hb; obtain ⟨m0, m1, m2⟩ := box3 HBX.out hb; clear hs2 hb)
    | (go_at_call 10; refine (m_copy_at (HM.out.below HC12.out) HT.out).mono ?_; rintro e w13 ⟨E0, E1, E2, f0, f1, f2, rfl, hx, hb⟩; have HX13 := Aside0.mk hx; have HC13 := Aside0.mk (below_step HC12.out hb); have HP13 := Aside0.mk (HP12.out.below hb); have HW13 := Aside0.mk (HW12.out.below hb); have HS13 := Aside0.mk (Nat.le_trans HS12.out hb.size); clear hx hb; clear m0 m1 m2)
    | (go_at_call 10; refine (m_copy_at (HM.out.below HB2.out) HT.out).mono ?_; rintro e w3 ⟨B0, B1, B2, d0, d1, d2, rfl, hx, hb⟩; have HX3 := Aside0.mk (hx.below (below_alloc (Below.refl _ _) (.cells #[.slice B0 axes.length d0, .slice B1 inc.length d1, .slice B2 exc.length d2] 25))); have HBY := Aside0.mk (blk_new w3 (.cells #[.slice B0 axes.length d0, .slice B1 inc.length d1, .slice B2 exc.length d2] 25)); have HC3 := Aside0.mk (below_alloc (below_step HB2.out hb) (.cells #[.slice B0 axes.length d0, .slice B1 inc.length d1, .slice B2 exc.length d2] 25)); have HD3 := Aside0.mk (below_alloc hb (.cells #[.slice B0 axes.length d0, .slice B1 inc.length d1, .slice B2 exc.length d2] 25)); have HS3 := Aside0.mk hb.size; clear hx hb; clear m0 m1 m2)
    | (go_at_call 11; refine (m_build_at HX13.out.mc HT.out HRES.out).mono ?_; rintro e w14 ⟨AQ, cQ, rfl, hq, hb⟩; have HQ14 := Aside0.mk hq; have HC14 := Aside0.mk (below_step HC13.out hb); have HP14 := Aside0.mk (HP13.out.below hb); have HW14 := Aside0.mk (HW13.out.below hb); clear hq hb)
    | (go_at_call 11; refine (m_build_at HX3.out.mc HT.out HRES.out).mono ?_; rintro e w4 ⟨AP, cP, rfl, hp, hb⟩; have HP4 := Aside0.mk hp; have HY4 := Aside0.mk hb; have HC4 := Aside0.mk (below_step HC3.out hb); have HD4 := Aside0.mk (below_step HD3.out hb); have HZ4 := Aside0.mk (Nat.le_refl w4.heap.size); clear hp hb; obtain ⟨x0, x1, x2⟩ := box3 HBY.out HY4.out)
    | (go_at_call 12; refine (m_count_at (HX3.out.below HY4.out).mc HT.out HCO.out).mono ?_; rintro e w5 ⟨rfl, hb⟩; have HY5 := Aside0.mk (below_step HY4.out hb); have HC5 := Aside0.mk (below_step HC4.out hb); have HD5 := Aside0.mk (below_step HD4.out hb); have HP5 := Aside0.mk (HP4.out.below hb); have HZ5 := Aside0.mk (Nat.le_trans HZ4.out hb.size); clear x0 x1 x2; obtain ⟨x0, x1, x2⟩ := box3 HBY.out HY5.out; clear hb)
    | (go_at_call 13; refine (m_check_at (HX3.out.below HY5.out).mc HT.out HCK.out).mono ?_; rintro e w6 ⟨rfl, hb⟩; have HY6 := Aside0.mk (below_step HY5.out hb); have HC6 := Aside0.mk (below_step HC5.out hb); have HD6 := Aside0.mk (below_step HD5.out hb); have HP6 := Aside0.mk (HP5.out.below hb); have HZ6 := Aside0.mk (Nat.le_trans HZ5.out hb.size); clear x0 x1 x2; obtain ⟨x0, x1, x2⟩ := box3 HBY.out HY6.out; obtain ⟨m0, m1, m2⟩ := box3 HBX.out HC6.out; clear hb)
    | (go_at_call 14; refine (m_sameMatrix_at (HX3.out.below HY6.out).mc (HM.out.below HC6.out) HT.out).mono ?_; rintro e w7 ⟨rfl, hb⟩; have HY7 := Aside0.mk (below_step HY6.out hb); have HC7 := Aside0.mk (below_step HC6.out hb); have HD7 := Aside0.mk (below_step HD6.out hb); have HP7 := Aside0.mk (HP6.out.below hb); have HZ7 := Aside0.mk (Nat.le_trans HZ6.out hb.size); clear x0 x1 x2; clear m0 m1 m2; obtain ⟨m0, m1, m2⟩ := box3 HBX.out HC7.out; clear hb)
    | (go_at_call 15; refine (m_refCount_at (HM.out.below HC7.out) HT.out HCO.out).mono ?_; rintro e w8 ⟨rfl, hb⟩; have HY8 := Aside0.mk (below_step HY7.out hb); have HC8 := Aside0.mk (below_step HC7.out hb); have HD8 := Aside0.mk (below_step HD7.out hb); have HP8 := Aside0.mk (HP7.out.below hb); have HZ8 := Aside0.mk (Nat.le_trans HZ7.out hb.size); clear m0 m1 m2; obtain ⟨m0, m1, m2⟩ := box3 HBX.out HC8.out; clear hb)
    | (go_at_call 16; refine (m_refCheck_at (HM.out.below HC8.out) HT.out HCK.out).mono ?_; rintro e w9 ⟨rfl, hb⟩; have HY9 := Aside0.mk (below_step HY8.out hb); have HC9 := Aside0.mk (below_step HC8.out hb); have HD9 := Aside0.mk (below_step HD8.out hb); have HP9 := Aside0.mk (HP8.out.below hb); have HZ9 := Aside0.mk (Nat.le_trans HZ8.out hb.size); clear m0 m1 m2; clear hb)
    | (go_at_call 17; refine (m_same_made HP11.out HW11.out HFEW.out).mono ?_; rintro e w12 ⟨rfl, hb⟩; have HC12 := Aside0.mk (below_step HC11.out hb); have HP12 := Aside0.mk (HP11.out.below hb); have HW12 := Aside0.mk (HW11.out.below hb); have HS12 := Aside0.mk (Nat.le_trans HS11.out hb.size); obtain ⟨m0, m1, m2⟩ := box3 HBX.out HC12.out; clear hb)
    | (go_at_call 17; refine (m_same_made HP9.out (HW2.out.below HD9.out) HFEW.out).mono ?_; rintro e w10 ⟨rfl, hb⟩; have HY10 := Aside0.mk (below_step HY9.out hb); have HC10 := Aside0.mk (below_step HC9.out hb); have HD10 := Aside0.mk (below_step HD9.out hb); have HP10 := Aside0.mk (HP9.out.below hb); have HZ10 := Aside0.mk (Nat.le_trans HZ9.out hb.size); obtain ⟨x0, x1, x2⟩ := box3 HBY.out HY10.out; clear hb)
    | (go_at_call 18; refine (m_spoil_at HX3.out HT.out HY10.out).mono ?_; rintro e w11 ⟨rfl, hk, hq⟩; have HC11 := Aside0.mk (HC10.out.trans (hq.below hk HC10.out.size (fun k h => Nat.le_trans HB2.out.size h.1))); have HP11 := Aside0.mk (HP10.out.kept hk (fun k h => .inl h.2)); have HW11 := Aside0.mk ((HW2.out.below HD10.out).kept hk (fun k h => .inr h.1)); have HS11 := Aside0.mk (show w4.heap.size ≤ w11.heap.size from Nat.le_trans HZ10.out hk.1); clear hk hq; clear x0 x1 x2))
  obtain ⟨f, g, hop⟩ := HP14.out.opened
  have HOP := Aside0.mk hop
  have HB14 := Aside0.mk (below_step HBW.out HC14.out)
  have hfew := HFEW.out.1
  have HL := Aside0.mk (show w.heap.size ≤ (w3.alloc (.cells #[.slice B0 axes.length d0, .slice B1 inc.length d1, .slice B2 exc.length d2] 25)).heap.size from Nat.le_trans (Nat.le_trans HBW.out.size HB2.out.size) HD3.out.size)
  have HL2 := Aside0.mk (HD3.out.size)
  have HL4 := Aside0.mk (show w4.heap.size ≤ w13.heap.size from HS13.out)
  generalize (w3.alloc (.cells #[.slice B0 axes.length d0, .slice B1 inc.length d1, .slice B2 exc.length d2] 25)).heap.size = b3 at HOP HL HL2
  clear hop
  go_loopw [15] (fun i wr => LRel w14 b3 w4.heap.size f g want.length i wr) (fun i _ => want.length - (intOf i).toNat)
  case atStart => exact ⟨0, Nat.zero_le _, rfl, TK.refl _, Kept.refl _ _⟩
  case round =>
    obtain ⟨k, hk, rfl, ht, hkw⟩ := hrel
    have HK := Aside0.mk hkw
    have HTK := Aside0.mk ht
    clear hkw ht
    by_cases hlt : k < want.length
    · obtain ⟨hA, B, b, hcell, hR⟩ := HOP.out k want[k] (List.getElem?_eq_getElem hlt)
      subst hA
      have hpl := HFEW.out.2 _ (List.getElem_mem hlt)
      have hcr := cell_kept hcell HK.out (fun h => h.1.2.2 rfl)
      have hR2 := Kd.R_kept hR HK.out (fun x hx h => by have := hx.2; have := h.2; omega)
      have hown := own_ok hR2
      have hob : ∀ x, ownS B x → b3 ≤ x := fun x hx => by subst hx; exact Kd.R_base hR2 x (own_some x _ _)
      obtain ⟨inner, hin⟩ := Kd.R_own hR2
      have HIN := Aside0.mk hin
      have HOWN := Aside0.mk hown
      have HOB := Aside0.mk hob
      generalize want[k] = pk at hcr hpl HIN
      clear hcell hR hR2 hown hob hin
      by_cases hl2 : k + 1 < want.length
      · obtain ⟨_, B', b', hcell', hR'⟩ := HOP.out (k + 1) want[k + 1] (List.getElem?_eq_getElem hl2)
        have HCELL := Aside0.mk hcell'
        have HR' := Aside0.mk hR'
        have HWk := Aside0.mk (show ∀ W, Kept w14 W (SpS b3 w4.heap.size g (k + 1) f) → ∃ aw A' c', AW = some aw ∧ W.cell? (aw.add (k + 1)) = some (.slice A' want[k + 1].length c') ∧ want[k + 1].length ≤ c' ∧ Kd.C k51 W A' want[k + 1].length want[k + 1] from fun W hW => by
          have hpm := HW14.out.kept hW (fun x hx => .inr (by have := HL2.out; have := hx.1.1; omega))
          have := at_row hpm.reads.1 (k + 1) hl2
          have e : want.getD (k + 1) [] = want[k + 1] := by simp [hl2]
          rw [e] at this
          exact this)
        generalize want[k + 1] = pn at HCELL HR' HWk
        clear hcell' hR'
        go_wp2_with (go_at_call 19; refine (spoilVars_any B pk.length b inner _ _ HIN.out (by omega)).mono ?_; rintro e w20 ⟨rfl, hk2, ht2⟩; have HK2 := Aside0.mk (kept_next HK.out HOWN.out HOB.out hk2); have HT2 := Aside0.mk (HTK.out.trans ht2); clear hk2 ht2 hcr)
        obtain ⟨aw, A', c', hAW, hcw, hlw, hCw⟩ := HWk.out w20 HK2.out
        subst hAW
        have hcp := cell_kept HCELL.out HK2.out (fun h => h.1.2.2 rfl)
        have hRp := Kd.R_kept HR'.out HK2.out (fun x hx h => by have := hx.2; have := h.2; omega)
        have HCw := Aside0.mk hCw
        have HCp := Aside0.mk (Kd.R_reads' hRp).2.2
        have hlp := (Kd.R_reads' hRp).2.1
        have hwr : IntKind.i64.wrap ((k : Int) + 1) = ((k + 1 : Nat) : Int) := by rw [IntKind.wrap_i64]; omega
        have hi1 : ((k + 1 : Nat) : Int) < (want.length : Int) := by omega
        have hi0 : (0 : Int) ≤ ((k + 1 : Nat) : Int) := by omega
        clear hRp hCw
        have HLT := Aside0.mk hlt
        generalize hk1 : k + 1 = k1 at hwr hi1 hi0 hcw hcp HK2
        have HK1 := Aside0.mk hk1
        clear hk1
        go_quiet ((go_at_call 20; exact m_sameVars_q HCp.out hlp HCw.out hlw))
        go_wp2
        go_roundw
        case rel => exact ⟨k1, by have := HLT.out; have := HK1.out; omega, rfl, HT2.out.trans (TK.of_below (pw_below_drewN (Below.refl _ _) _)), HK2.out.drewN _⟩
        case measure => have := HLT.out; have := HK1.out; simp [intOf]; omega
      · go_wp2_with (go_at_call 19; refine (spoilVars_any B pk.length b inner _ _ HIN.out (by omega)).mono ?_; rintro e w20 ⟨rfl, hk2, ht2⟩; have HK2 := Aside0.mk (kept_next HK.out HOWN.out HOB.out hk2); have HT2 := Aside0.mk (HTK.out.trans ht2); clear hk2 ht2 hcr)
        have hi2 : decide ((k : Int) + 1 < (want.length : Int)) = false := decide_eq_false (by omega)
        go_quiet (fail)
        go_wp2
        go_roundw
        case rel => exact ⟨k + 1, by omega, by go_num, HT2.out.trans (TK.of_below (pw_below_drewN (Below.refl _ _) _)), HK2.out.drewN _⟩
        case measure => simp [intOf]; omega
    · have HQ := Aside0.mk (HQ14.out.kept HK.out (fun x h => .inl (by have := HL4.out; have := h.1.2.1; omega)))
      have HW := Aside0.mk (HW14.out.kept HK.out (fun x h => .inr (by have := HL2.out; have := h.1.1; omega)))
      have HBw := Aside0.mk (HB14.out.trans (HTK.out.below HK.out HB14.out.size (fun x h => Nat.le_trans HL.out h.1.1)))
      go_wp2_with (first
        | (go_at_call 17; refine (m_same_made HQ.out HW.out HFEW.out).mono ?_; rintro e w21 ⟨rfl, hb⟩; have HB21 := Aside0.mk (below_step HBw.out hb); clear hb)
        | (go_at_call 21; refine (awake_any _).mono ?_; rintro e w22 ⟨rfl, hb⟩; have HB22 := Aside0.mk (below_step HB21.out hb); clear hb))
      go_ret
      exact ⟨rfl, HB22.out⟩
end Go.Proofs.Ytdgllnaeookddaa.Q
