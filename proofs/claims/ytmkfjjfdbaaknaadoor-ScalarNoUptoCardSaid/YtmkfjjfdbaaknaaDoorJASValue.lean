/- What the reader's value does. -/
import Derived.Test.YtmkfjjfdbaaknaaDoorJASQuoted
import Derived.Test.YtmkfjjfdbaaknaaDoorJASBare
namespace Go.Proofs.YtmkfjjfdbaaknaaDoor.Q
open Go Go.RowKit Go.Shelf Go.Proofs.YtmkfjjfdbaaknaaDoorW.PrintWords Go.Proofs.YtmkfjjfdbaaknaaDoorW.PrintLast Go.Proofs.YtmkfjjfdbaaknaaDoorW.PrintMore
set_option linter.unusedVariables false
set_option linter.unusedSimpArgs false
set_option linter.unusedSectionVars false
section
variable {w w' : World} {B : Nat} {s : ByteArray} {i : Int} {c : CT}
theorem end_true (h : Rd w B s i c) (j : Int) (hj : (s.size : Int) ≤ j) : Calls Tryd.prog 45 #[.pointer (some ⟨B, 0, none⟩), .int .i64 j] w fun e w' => e = .returned (.bool true) ∧ w' = w := by
  refine (end_any h j).mono ?_
  rintro e w' ⟨rfl, rfl⟩
  exact ⟨by rw [decide_eq_true hj], rfl⟩
theorem end_false (h : Rd w B s i c) (j : Int) (hj : j < (s.size : Int)) : Calls Tryd.prog 45 #[.pointer (some ⟨B, 0, none⟩), .int .i64 j] w fun e w' => e = .returned (.bool false) ∧ w' = w := by
  refine (end_any h j).mono ?_
  rintro e w' ⟨rfl, rfl⟩
  exact ⟨by rw [decide_eq_false (by omega)], rfl⟩
end
theorem gapN_le (s : ByteArray) : ∀ d i, gapN s d i ≤ i + d
  | 0, i => Nat.le_refl _
  | d + 1, i => by
    unfold gapN
    split
    · have := gapN_le s d (i + 1)
      omega
    · omega
theorem gapOf_le (s : ByteArray) (i : Nat) (h : i ≤ s.size) : gapOf s i ≤ s.size := by
  have := gapN_le s (s.size - i) i
  unfold gapOf
  omega
/-- What a step of the reader comes to: 0 and the content, or why and where it gives up. -/
abbrev RP := Int × Int × CT
def StepPost (w : World) (B : Nat) (s : ByteArray) (r : RP) (e : Ending) (w' : World) : Prop :=
  KB B w w' ∧ if r.1 = 0 then e = .returned (.tuple #[]) ∧ ∃ j, Rd w' B s j r.2.2 else e = .panicked (stopV r.1 r.2.1)
def valueP (s : ByteArray) (i : Nat) (q : ByteArray × Int × Bool) (c : CT) : RP :=
  if s.size ≤ i then (0, 0, c)
  else if bt s (i : Int) = 35 then (0, 0, c)
  else if bt s (i : Int) = 34 then
    if q.2.2 = true then
      if gapOf s ((i : Int) + q.2.1).toNat < s.size ∧ (bt s (gapOf s ((i : Int) + q.2.1).toNat : Int) ≠ 35 ∨ gapOf s ((i : Int) + q.2.1).toNat = ((i : Int) + q.2.1).toNat) then (22, (gapOf s ((i : Int) + q.2.1).toNat : Int) + 1, c)
      else (0, 0, { c with f2 := true, f6 := (i : Int) + 1, f3 := q.1 })
    else (21, (i : Int) + q.2.1 + 1, c)
  else (0, 0, bareC (bareT s i) { c with f2 := true, f6 := (i : Int) + 1 })
set_option maxHeartbeats 2000000 in
set_option maxRecDepth 100000 in
theorem value_any {w : World} {B : Nat} {s : ByteArray} {c : CT} (i : Nat) (h : Rd w B s (i : Int) c) (hi : i ≤ s.size) (hs : s.size ≤ 1073741824) (hgm : ∀ w', KB B w w' → GM w') (q : ByteArray × Int × Bool)
    (hq : bt s (i : Int) = 34 → ∃ k, quote_Read.f k (s.extract i s.size) = some q) (hq0 : 0 ≤ q.2.1) (hq1 : (i : Int) + q.2.1 ≤ s.size) :
    Calls Tryd.prog 33 #[.pointer (some ⟨B, 0, none⟩)] w (StepPost w B s (valueP s i q c)) := by
  obtain ⟨r, hr⟩ : ∃ r, valueP s i q c = r := ⟨_, rfl⟩
  rw [hr]
  have HR0 := Aside0.mk h
  have HRES := Aside0.mk hr
  have HGM := Aside0.mk hgm
  have HQ := Aside0.mk hq
  have hc0 := h.c0
  have hc1 := h.c1
  clear h hr hgm hq
  by_cases hend : s.size ≤ i
  · obtain rfl : r = (0, 0, c) := HRES.out.symm.trans (if_pos hend)
    have hle : (s.size : Int) ≤ (i : Int) := by omega
    go_enter Tryd.func33, Tryd.ntmps33
    go_wp2
    go_quiet ((go_at_call 45; exact Calls.quiet_of_same (end_true (HR0.out.drewN _) _ hle)))
    go_wp2
    go_end0
    exact ⟨KB.drewN _ _ _, by rw [if_pos rfl]; exact ⟨rfl, _, HR0.out.drewN _⟩⟩
  · have hlt : (i : Int) < (s.size : Int) := by omega
    have hii : (0 : Int) ≤ (i : Int) := by omega
    have hz : i < s.size := by omega
    have hbt : bt s (i : Int) = (s[i].toNat : Int) := (bt_at s (i : Int) hz).symm
    by_cases h35 : (s[i].toNat : Int) = 35
    · obtain rfl : r = (0, 0, c) := HRES.out.symm.trans ((if_neg hend).trans (if_pos (hbt.trans h35)))
      clear hbt
      go_enter Tryd.func33, Tryd.ntmps33
      go_wp2
      go_quiet ((go_at_call 45; exact Calls.quiet_of_same (end_false (HR0.out.drewN _) _ hlt)))
      go_wp2
      go_end0
      exact ⟨KB.drewN _ _ _, by rw [if_pos rfl]; exact ⟨rfl, _, HR0.out.drewN _⟩⟩
    · by_cases h34 : (s[i].toNat : Int) = 34
      · have HBT := Aside0.mk (hbt.trans h34)
        clear hbt
        go_enter Tryd.func33, Tryd.ntmps33
        go_wp2
        go_quiet ((go_at_call 45; exact Calls.quiet_of_same (end_false (HR0.out.drewN _) _ hlt)))
        have HR1 := Aside0.mk (HR0.out.drewN nq)
        have HK1 := Aside0.mk (KB.drewN B w nq)
        have hd1 := HR1.out.c1
        have hd4 := blk_cell HR1.out 4
        have hd8 := blk_cell HR1.out 8
        have hf4 := blk_frozen HR1.out 4
        have hf8 := blk_frozen HR1.out 8
        clear hc0 hc1
        generalize w.drewN nq = w1 at HR1 HK1 hd1 hd4 hd8 hf4 hf8 ⊢
        go_wp2
        have HR2 := Aside0.mk (show Rd ((w1.setCell ⟨B, 4, none⟩ (.bool true)).setCell ⟨B, 8, none⟩ (.int .i64 ((i : Int) + 1))) B s (i : Int) { c with f2 := true, f6 := (i : Int) + 1 } from blk_put (blk_put HR1.out 4 _ rfl) 8 _ rfl)
        have HK2 := Aside0.mk ((HK1.out.setCell 4 (.bool true)).setCell 8 (.int .i64 ((i : Int) + 1)))
        clear hd1 hd4 hd8 hf4 hf8
        generalize (w1.setCell ⟨B, 4, none⟩ (.bool true)).setCell ⟨B, 8, none⟩ (.int .i64 ((i : Int) + 1)) = w2 at HR2 HK2 ⊢
        have hc0 := HR2.out.c0
        have hc1 := HR2.out.c1
        go_quiet (fail)
        have HR3 := Aside0.mk (HR2.out.drewN nq)
        have HK3 := Aside0.mk (HK2.out.trans (KB.drewN B w2 nq))
        clear hc0 hc1
        generalize w2.drewN nq = w3 at HR3 HK3 ⊢
        obtain ⟨says, n, ok⟩ := q
        obtain ⟨k, hk⟩ := HQ.out HBT.out
        have HQK := Aside0.mk hk
        clear hk
        cases ok with
        | false =>
          obtain rfl : r = (21, (i : Int) + n + 1, c) := HRES.out.symm.trans ((if_neg hend).trans ((if_neg (by rw [HBT.out]; decide)).trans ((if_pos HBT.out).trans (if_neg (show ¬ (false = true) by decide)))))
          go_wp2_with (go_at_call 43; refine (quoted_any i HR3.out hi hs k says n false HQK.out hq0 (by show n ≤ 1073741824; have : (i : Int) + n ≤ s.size := hq1; omega)).mono ?_; rintro e w4 ⟨hk4, hp4⟩; rw [if_neg (by decide)] at hp4; subst hp4)
          exact ⟨rfl, HK3.out.trans hk4, by rw [if_neg (show ¬ (21 : Int) = 0 by decide)]⟩
        | true =>
          obtain ⟨j, hj⟩ : ∃ j : Nat, (i : Int) + n = (j : Int) := ⟨((i : Int) + n).toNat, by have : 0 ≤ n := hq0; omega⟩
          have hjs : j ≤ s.size := by have : (i : Int) + n ≤ s.size := hq1; omega
          have HNB := Aside0.mk (show n ≤ 1073741824 by have : (i : Int) + n ≤ s.size := hq1; omega)
          have hj2 : ((i : Int) + n).toNat = j := by omega
          have hv := HRES.out
          unfold valueP at hv
          rw [if_neg hend, if_neg (by rw [HBT.out]; decide), if_pos HBT.out, if_pos rfl, hj2] at hv
          have HV := Aside0.mk hv
          have HJ := Aside0.mk hj
          clear hv HRES hj hj2 hq1
          obtain ⟨g, hg⟩ : ∃ g, gapOf s j = g := ⟨_, rfl⟩
          have HG := Aside0.mk hg
          have hgs : g ≤ s.size := hg ▸ gapOf_le s j hjs
          have HV2 := Aside0.mk (hg ▸ HV.out)
          clear hg HV
          go_wp2_with (first
            | (go_at_call 43; refine (quoted_any i HR3.out hi hs k says n true HQK.out hq0 HNB.out).mono ?_; rintro e w4 ⟨hk4, hp4⟩; rw [if_pos rfl, HJ.out] at hp4; obtain ⟨rfl, hr4⟩ := hp4; have HR4 := Aside0.mk hr4; have HK4 := Aside0.mk (HK3.out.trans hk4); have d1 := hr4.c1; have d5 := blk_cell hr4 5; have f5 := blk_frozen hr4 5; clear hr4 hk4)
            | (go_at_call 32; refine (gap_any j (show Rd _ B s (j : Int) { c with f2 := true, f6 := (i : Int) + 1, f3 := says } from blk_put HR4.out 5 _ rfl) hjs hs).mono ?_; rw [HG.out]; rintro e w5 ⟨rfl, hr5, hk5⟩; have HR5 := Aside0.mk hr5; have HK5 := Aside0.mk ((HK4.out.setCell 5 (.string says)).trans hk5); have e0 := hr5.c0; have e1 := hr5.c1; clear hr5 hk5 d1 d5 f5))
          by_cases hge : s.size ≤ g
          · obtain rfl : r = (0, 0, { c with f2 := true, f3 := says, f6 := (i : Int) + 1 }) := HV2.out.symm.trans (if_neg (fun h => by omega))
            have hle : (s.size : Int) ≤ (g : Int) := by omega
            go_quiet ((go_at_call 45; exact Calls.quiet_of_same (end_true (HR5.out.drewN _) _ hle)))
            go_wp2
            go_end0
            exact ⟨HK5.out.trans (KB.drewN _ _ _), by rw [if_pos rfl]; exact ⟨rfl, _, HR5.out.drewN _⟩⟩
          · have hlg : (g : Int) < (s.size : Int) := by omega
            have hgi : (0 : Int) ≤ (g : Int) := by omega
            have hzg : g < s.size := by omega
            have hbg : bt s (g : Int) = (s[g].toNat : Int) := (bt_at s (g : Int) hzg).symm
            by_cases hg35 : (s[g].toNat : Int) = 35
            · by_cases hgj : g = j
              · subst hgj
                obtain rfl : r = (22, (g : Int) + 1, c) := HV2.out.symm.trans (if_pos ⟨hzg, .inr rfl⟩)
                clear hbg
                go_quiet ((go_at_call 45; exact Calls.quiet_of_same (end_false (HR5.out.drewN _) _ hlg)))
                go_wp2_with (go_at_call 44; refine (fail_any _ _ _ _).mono ?_; rintro e w6 ⟨rfl, rfl⟩)
                exact ⟨rfl, HK5.out.trans (KB.drewN _ _ _), by rw [if_neg (show ¬ (22 : Int) = 0 by decide), wr2 _ (by omega) (by omega)]⟩
              · obtain rfl : r = (0, 0, { c with f2 := true, f3 := says, f6 := (i : Int) + 1 }) := HV2.out.symm.trans (if_neg (fun h => h.2.elim (fun h => h (hbg.trans hg35)) hgj))
                clear hbg
                have hgj' : ((g : Int) == (j : Int)) = false := beq_eq_false_iff_ne.mpr (by omega)
                go_quiet ((go_at_call 45; exact Calls.quiet_of_same (end_false (HR5.out.drewN _) _ hlg)))
                go_wp2
                go_end0
                exact ⟨HK5.out.trans (KB.drewN _ _ _), by rw [if_pos rfl]; exact ⟨rfl, _, HR5.out.drewN _⟩⟩
            · obtain rfl : r = (22, (g : Int) + 1, c) := HV2.out.symm.trans (if_pos ⟨hzg, .inl (by rw [hbg]; exact hg35)⟩)
              clear hbg
              have hg35' : ((s[g].toNat : Int) == 35) = false := beq_eq_false_iff_ne.mpr hg35
              go_quiet ((go_at_call 45; exact Calls.quiet_of_same (end_false (HR5.out.drewN _) _ hlg)))
              go_wp2_with (go_at_call 44; refine (fail_any _ _ _ _).mono ?_; rintro e w6 ⟨rfl, rfl⟩)
              exact ⟨rfl, HK5.out.trans (KB.drewN _ _ _), by rw [if_neg (show ¬ (22 : Int) = 0 by decide), wr2 _ (by omega) (by omega)]⟩
      · obtain rfl : r = (0, 0, bareC (bareT s i) { c with f2 := true, f6 := (i : Int) + 1 }) := HRES.out.symm.trans ((if_neg hend).trans ((if_neg (by rw [hbt]; exact h35)).trans (if_neg (by rw [hbt]; exact h34))))
        clear hbt
        go_enter Tryd.func33, Tryd.ntmps33
        go_wp2
        go_quiet ((go_at_call 45; exact Calls.quiet_of_same (end_false (HR0.out.drewN _) _ hlt)))
        have HR1 := Aside0.mk (HR0.out.drewN nq)
        have HK1 := Aside0.mk (KB.drewN B w nq)
        have hd1 := HR1.out.c1
        have hd4 := blk_cell HR1.out 4
        have hd8 := blk_cell HR1.out 8
        have hf4 := blk_frozen HR1.out 4
        have hf8 := blk_frozen HR1.out 8
        clear hc0 hc1
        generalize w.drewN nq = w1 at HR1 HK1 hd1 hd4 hd8 hf4 hf8 ⊢
        go_wp2
        have HR2 := Aside0.mk (show Rd ((w1.setCell ⟨B, 4, none⟩ (.bool true)).setCell ⟨B, 8, none⟩ (.int .i64 ((i : Int) + 1))) B s (i : Int) { c with f2 := true, f6 := (i : Int) + 1 } from blk_put (blk_put HR1.out 4 _ rfl) 8 _ rfl)
        have HK2 := Aside0.mk ((HK1.out.setCell 4 (.bool true)).setCell 8 (.int .i64 ((i : Int) + 1)))
        clear hd1 hd4 hd8 hf4 hf8
        generalize (w1.setCell ⟨B, 4, none⟩ (.bool true)).setCell ⟨B, 8, none⟩ (.int .i64 ((i : Int) + 1)) = w2 at HR2 HK2 ⊢
        have hc0 := HR2.out.c0
        have hc1 := HR2.out.c1
        go_quiet (fail)
        have HR3 := Aside0.mk (HR2.out.drewN nq)
        have HK3 := Aside0.mk (HK2.out.trans (KB.drewN B w2 nq))
        clear hc0 hc1
        generalize w2.drewN nq = w3 at HR3 HK3 ⊢
        go_wp2_with (go_at_call 47; refine (bare_any i HR3.out hi hs (HGM.out _ HK3.out)).mono ?_; rintro e w4 ⟨rfl, hr4, hk4⟩)
        go_end0
        exact ⟨HK3.out.trans hk4, by rw [if_pos rfl]; exact ⟨rfl, _, hr4⟩⟩
end Go.Proofs.YtmkfjjfdbaaknaaDoor.Q
