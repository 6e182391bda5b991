/- What the reader's head does. -/
import Derived.Test.YtmkfjjfdbaaknaaDoorJASValue
namespace Go.Proofs.YtmkfjjfdbaaknaaDoor.Q
open Go Go.RowKit Go.Shelf Go.Proofs.YtmkfjjfdbaaknaaDoorW.PrintWords Go.Proofs.YtmkfjjfdbaaknaaDoorW.PrintLast Go.Proofs.YtmkfjjfdbaaknaaDoorW.PrintMore
set_option linter.unusedVariables false
set_option linter.unusedSimpArgs false
set_option linter.unusedSectionVars false
def prefB (s p : ByteArray) : Bool := Lib.hasPrefix s.data.toList p.data.toList
/-- How many bytes of a name stand from place i on. -/
def namesN (s : ByteArray) : Nat → Nat → Nat
  | 0, i => i
  | d + 1, i => if namedB (bt s (i : Int)) = true then namesN s d (i + 1) else i
def namesOf (s : ByteArray) : Nat := namesN s s.size 0
abbrev HP := Int × Int × Nat × CT
def c1E : CT := ⟨1, ⟨#[]⟩, false, ⟨#[]⟩, 0, 1, 0⟩
/-- What stands behind the key: a colon, and a blank or the end. -/
def colonP (s key : ByteArray) (a : Nat) : HP :=
  if s.size ≤ a ∨ bt s (a : Int) ≠ 58 then (20, (a : Int) + 1, 0, c1E)
  else if a + 1 < s.size ∧ bt s ((a : Int) + 1) ≠ 32 then (20, (a : Int) + 2, 0, c1E)
  else (0, 0, a + 1, { c1E with f1 := key })
def headP (s : ByteArray) (q : ByteArray × Int × Bool) : HP :=
  if (s.toList == [45]) || prefB s ⟨#[45, 32]⟩ then (0, 0, 1, { c1E with f0 := 2 })
  else if prefB s ⟨#[34]⟩ then
    if q.2.2 = true then
      if 64 < q.1.size then (20, 1, 0, c1E) else colonP s q.1 q.2.1.toNat
    else (21, q.2.1 + 1, 0, c1E)
  else if nameB (s.extract 0 (namesOf s)) = true then colonP s (s.extract 0 (namesOf s)) (namesOf s)
  else (20, 1, 0, c1E)
def HeadPost (w : World) (B : Nat) (s : ByteArray) (r : HP) (e : Ending) (w' : World) : Prop :=
  KB B w w' ∧ if r.1 = 0 then e = .returned (.tuple #[]) ∧ Rd w' B s (r.2.2.1 : Int) r.2.2.2 else e = .panicked (stopV r.1 r.2.1)
section
variable {w : World} {B : Nat} {s : ByteArray} {i : Int} {c : CT}
theorem Rd.fresh (h : Rd w B s i c) : Rd (((((((w.setCell ⟨B, 2, none⟩ (.int .i64 1)).setCell ⟨B, 3, none⟩ (.string ⟨#[]⟩)).setCell ⟨B, 4, none⟩ (.bool false)).setCell ⟨B, 5, none⟩ (.string ⟨#[]⟩)).setCell ⟨B, 6, none⟩ (.int .i64 0)).setCell ⟨B, 7, none⟩ (.int .i64 1)).setCell ⟨B, 8, none⟩ (.int .i64 0)) B s i c1E := by
  have a1 : Rd (w.setCell ⟨B, 2, none⟩ (.int .i64 1)) B s i { c with f0 := 1 } := blk_put h 2 _ rfl
  have a2 : Rd ((w.setCell ⟨B, 2, none⟩ (.int .i64 1)).setCell ⟨B, 3, none⟩ (.string ⟨#[]⟩)) B s i { c with f0 := 1, f1 := ⟨#[]⟩ } := blk_put a1 3 _ rfl
  have a3 : Rd (((w.setCell ⟨B, 2, none⟩ (.int .i64 1)).setCell ⟨B, 3, none⟩ (.string ⟨#[]⟩)).setCell ⟨B, 4, none⟩ (.bool false)) B s i { c with f0 := 1, f1 := ⟨#[]⟩, f2 := false } := blk_put a2 4 _ rfl
  have a4 : Rd ((((w.setCell ⟨B, 2, none⟩ (.int .i64 1)).setCell ⟨B, 3, none⟩ (.string ⟨#[]⟩)).setCell ⟨B, 4, none⟩ (.bool false)).setCell ⟨B, 5, none⟩ (.string ⟨#[]⟩)) B s i { c with f0 := 1, f1 := ⟨#[]⟩, f2 := false, f3 := ⟨#[]⟩ } := blk_put a3 5 _ rfl
  generalize (((w.setCell ⟨B, 2, none⟩ (.int .i64 1)).setCell ⟨B, 3, none⟩ (.string ⟨#[]⟩)).setCell ⟨B, 4, none⟩ (.bool false)).setCell ⟨B, 5, none⟩ (.string ⟨#[]⟩) = w4 at a4 ⊢
  have a5 : Rd (w4.setCell ⟨B, 6, none⟩ (.int .i64 0)) B s i { c with f0 := 1, f1 := ⟨#[]⟩, f2 := false, f3 := ⟨#[]⟩, f4 := 0 } := blk_put a4 6 _ rfl
  have a6 : Rd ((w4.setCell ⟨B, 6, none⟩ (.int .i64 0)).setCell ⟨B, 7, none⟩ (.int .i64 1)) B s i { c with f0 := 1, f1 := ⟨#[]⟩, f2 := false, f3 := ⟨#[]⟩, f4 := 0, f5 := 1 } := blk_put a5 7 _ rfl
  exact blk_put a6 8 _ rfl
theorem KB.fresh (B : Nat) (w : World) : KB B w (((((((w.setCell ⟨B, 2, none⟩ (.int .i64 1)).setCell ⟨B, 3, none⟩ (.string ⟨#[]⟩)).setCell ⟨B, 4, none⟩ (.bool false)).setCell ⟨B, 5, none⟩ (.string ⟨#[]⟩)).setCell ⟨B, 6, none⟩ (.int .i64 0)).setCell ⟨B, 7, none⟩ (.int .i64 1)).setCell ⟨B, 8, none⟩ (.int .i64 0)) :=
  ((((((KB.set B w _ _).setCell _ _).setCell _ _).setCell _ _).setCell _ _).setCell _ _).setCell _ _
theorem named_t (c : Int) (h : namedB c = true) (w : World) : Calls Tryd.prog 35 #[.int .u8 c] w fun e w' => e = .returned (.bool true) ∧ w' = w := by
  refine (named_any c w).mono ?_
  rintro e w' ⟨rfl, rfl⟩
  exact ⟨by rw [h], rfl⟩
theorem named_f (c : Int) (h : namedB c = false) (w : World) : Calls Tryd.prog 35 #[.int .u8 c] w fun e w' => e = .returned (.bool false) ∧ w' = w := by
  refine (named_any c w).mono ?_
  rintro e w' ⟨rfl, rfl⟩
  exact ⟨by rw [h], rfl⟩
end
theorem namesN_step (s : ByteArray) (i : Nat) (hi : i < s.size) (h : namedB (bt s (i : Int)) = true) : namesN s (s.size - i) i = namesN s (s.size - (i + 1)) (i + 1) := by
  obtain ⟨d, hd⟩ : ∃ d, s.size - i = d + 1 := ⟨s.size - i - 1, by omega⟩
  rw [hd, namesN, if_pos h, show s.size - (i + 1) = d from by omega]
theorem namesN_stop (s : ByteArray) (i : Nat) (h : s.size ≤ i ∨ namedB (bt s (i : Int)) = false) : namesN s (s.size - i) i = i := by
  rcases h with h | h
  · rw [show s.size - i = 0 from by omega, namesN]
  · cases s.size - i with
    | zero => rfl
    | succ d => rw [namesN, if_neg (by rw [h]; decide)]
def NmRel (w0 : World) (B : Nat) (s : ByteArray) (c : CT) (g : Nat) (wr : World) : Prop := ∃ k : Nat, k ≤ s.size ∧ s.size - k ≤ g ∧ namesN s (s.size - k) k = namesOf s ∧ Rd wr B s (k : Int) c ∧ KB B w0 wr
set_option maxHeartbeats 4000000 in
set_option maxRecDepth 100000 in
theorem head_any {w : World} {B : Nat} {s : ByteArray} {c : CT} (h : Rd w B s 0 c) (hs : s.size ≤ 1073741824) (q : ByteArray × Int × Bool)
    (hq : prefB s ⟨#[34]⟩ = true → ∃ k, quote_Read.f k (s.extract 0 s.size) = some q) (hq0 : 0 ≤ q.2.1) (hq1 : q.2.1 ≤ s.size) :
    Calls Tryd.prog 31 #[.pointer (some ⟨B, 0, none⟩)] w (HeadPost w B s (headP s q)) := by
  obtain ⟨r, hr⟩ : ∃ r, headP s q = r := ⟨_, rfl⟩
  rw [hr]
  have HRES := Aside0.mk hr
  have HQ := Aside0.mk hq
  have HR1 := Aside0.mk (Rd.fresh h)
  have HK1 := Aside0.mk (KB.fresh B w)
  have hc0 := h.c0
  have hc1 := h.c1
  have m2 := (blk_cell h 2).trans rfl
  have m3 := (blk_cell h 3).trans rfl
  have m4 := (blk_cell h 4).trans rfl
  have m5 := (blk_cell h 5).trans rfl
  have m6 := (blk_cell h 6).trans rfl
  have m7 := (blk_cell h 7).trans rfl
  have m8 := (blk_cell h 8).trans rfl
  have f2 := blk_frozen h 2
  have f3 := blk_frozen h 3
  have f4 := blk_frozen h 4
  have f5 := blk_frozen h 5
  have f6 := blk_frozen h 6
  have f7 := blk_frozen h 7
  have f8 := blk_frozen h 8
  clear h hr hq
  go_enter Tryd.func31, Tryd.ntmps31
  go_upto_region 1 with (fail)
  clear m2 m3 m4 m5 m6 m7 m8 f2 f3 f4 f5 f6 f7 f8 hc0 hc1
  generalize ((((((w.setCell ⟨B, 2, none⟩ (.int .i64 1)).setCell ⟨B, 3, none⟩ (.string ⟨#[]⟩)).setCell ⟨B, 4, none⟩ (.bool false)).setCell ⟨B, 5, none⟩ (.string ⟨#[]⟩)).setCell ⟨B, 6, none⟩ (.int .i64 0)).setCell ⟨B, 7, none⟩ (.int .i64 1)).setCell ⟨B, 8, none⟩ (.int .i64 0) = w1 at HR1 HK1 ⊢
  have hc0 := HR1.out.c0
  have hc1 := HR1.out.c1
  have m2 := (blk_cell HR1.out 2).trans rfl
  have m3 := (blk_cell HR1.out 3).trans rfl
  have f1 := blk_frozen HR1.out 1
  have f2 := blk_frozen HR1.out 2
  have f3 := blk_frozen HR1.out 3
  cases h1 : (s.toList == [45]) with
  | true =>
    obtain rfl : r = (0, 0, 1, { c1E with f0 := 2 }) := HRES.out.symm.trans (if_pos (by rw [h1]; rfl))
    go_wp2
    first | go_end0 | refine bodyPost_ret (results_none rfl _ _ _) rfl ?_
    exact ⟨(HK1.out.setCell _ _).setCell _ _, by rw [if_pos rfl]; exact ⟨rfl, blk_put (blk_put HR1.out 2 _ rfl) 1 _ rfl⟩⟩
  | false =>
    cases h2 : prefB s ⟨#[45, 32]⟩ with
    | true =>
      obtain rfl : r = (0, 0, 1, { c1E with f0 := 2 }) := HRES.out.symm.trans (if_pos (by rw [h1, h2]; rfl))
      have HP2 := Aside0.mk h2
      clear h2
      go_wp2_with (go_at_call 42; refine (Tryd.strings_HasPrefix s ⟨#[45, 32]⟩ _).mono ?_; rintro e w' ⟨rfl, rfl⟩; rw [show Lib.hasPrefix s.data.toList (⟨#[45, 32]⟩ : ByteArray).data.toList = true from HP2.out])
      first | go_end0 | refine bodyPost_ret (results_none rfl _ _ _) rfl ?_
      exact ⟨(HK1.out.setCell _ _).setCell _ _, by rw [if_pos rfl]; exact ⟨rfl, blk_put (blk_put HR1.out 2 _ rfl) 1 _ rfl⟩⟩
    | false =>
      have HP2 := Aside0.mk h2
      have HV0 := Aside0.mk (HRES.out.symm.trans (if_neg (show ¬ (((s.toList == [45]) || prefB s ⟨#[45, 32]⟩) = true) by rw [h1, h2]; decide)))
      clear h2 HRES
      cases h3 : prefB s ⟨#[34]⟩ with
      | true =>
        have HV1 := Aside0.mk (HV0.out.trans (if_pos h3))
        obtain ⟨k, hk⟩ := HQ.out h3
        have HQK := Aside0.mk hk
        have HP3 := Aside0.mk h3
        clear h3 hk HV0 HQ
        obtain ⟨says, n, ok⟩ := q
        cases ok with
        | false =>
          obtain rfl : r = (21, n + 1, 0, c1E) := HV1.out.trans (if_neg (show ¬ (false = true) by decide))
          go_wp2_with (first
            | (go_at_call 42; refine (Tryd.strings_HasPrefix s ⟨#[45, 32]⟩ _).mono ?_; rintro e w' ⟨rfl, rfl⟩; rw [show Lib.hasPrefix s.data.toList (⟨#[45, 32]⟩ : ByteArray).data.toList = false from HP2.out])
            | (go_at_call 42; refine (Tryd.strings_HasPrefix s ⟨#[34]⟩ _).mono ?_; rintro e w' ⟨rfl, rfl⟩; rw [show Lib.hasPrefix s.data.toList (⟨#[34]⟩ : ByteArray).data.toList = true from HP3.out])
            | (go_at_call 43; refine (quoted_any 0 HR1.out (Nat.zero_le _) hs k says n false HQK.out hq0 (by show n ≤ 1073741824; have : n ≤ s.size := hq1; omega)).mono ?_; rintro e w4 ⟨hk4, hp4⟩; rw [if_neg (by decide)] at hp4; subst hp4))
          exact ⟨rfl, HK1.out.trans hk4, by rw [if_neg (show ¬ (21 : Int) = 0 by decide)]⟩
        | true =>
          obtain ⟨a, ha⟩ : ∃ a : Nat, n = (a : Int) := ⟨n.toNat, by have : 0 ≤ n := hq0; omega⟩
          subst ha
          have has : a ≤ s.size := by have : (a : Int) ≤ s.size := hq1; omega
          have HAS := Aside0.mk (show (a : Int) ≤ 1073741824 by omega)
          have HV2 := Aside0.mk (HV1.out.trans (if_pos (show true = true from rfl)))
          clear HV1 hq1
          by_cases hlong : 64 < says.size
          · obtain rfl : r = (20, 1, 0, c1E) := HV2.out.trans (if_pos hlong)
            have hl : (64 : Int) < (says.size : Int) := by omega
            go_wp2_with (first
              | (go_at_call 44; refine (fail_any _ _ _ _).mono ?_; rintro e w6 ⟨rfl, rfl⟩)
              | (go_at_call 42; refine (Tryd.strings_HasPrefix s ⟨#[45, 32]⟩ _).mono ?_; rintro e w' ⟨rfl, rfl⟩; rw [show Lib.hasPrefix s.data.toList (⟨#[45, 32]⟩ : ByteArray).data.toList = false from HP2.out])
              | (go_at_call 42; refine (Tryd.strings_HasPrefix s ⟨#[34]⟩ _).mono ?_; rintro e w' ⟨rfl, rfl⟩; rw [show Lib.hasPrefix s.data.toList (⟨#[34]⟩ : ByteArray).data.toList = true from HP3.out])
              | (go_at_call 43; refine (quoted_any 0 HR1.out (Nat.zero_le _) hs k says (a : Int) true HQK.out hq0 HAS.out).mono ?_; rintro e w4 ⟨hk4, hp4⟩; rw [if_pos rfl] at hp4; obtain ⟨rfl, hr4⟩ := hp4; have HR4 := Aside0.mk hr4; have HK4 := Aside0.mk (HK1.out.trans hk4); have d3 := blk_cell hr4 3; have e3 := blk_frozen hr4 3; clear hr4 hk4))
            exact ⟨rfl, HK4.out.setCell _ _, by rw [if_neg (show ¬ (20 : Int) = 0 by decide), show wrap64 1 = 1 by unfold wrap64; omega]⟩
          · have HV3 := Aside0.mk (HV2.out.trans (if_neg hlong))
            have hl : ¬ (64 : Int) < (says.size : Int) := by omega
            clear HV2
            go_wp2_with (first
              | (go_at_call 42; refine (Tryd.strings_HasPrefix s ⟨#[45, 32]⟩ _).mono ?_; rintro e w' ⟨rfl, rfl⟩; rw [show Lib.hasPrefix s.data.toList (⟨#[45, 32]⟩ : ByteArray).data.toList = false from HP2.out])
              | (go_at_call 42; refine (Tryd.strings_HasPrefix s ⟨#[34]⟩ _).mono ?_; rintro e w' ⟨rfl, rfl⟩; rw [show Lib.hasPrefix s.data.toList (⟨#[34]⟩ : ByteArray).data.toList = true from HP3.out])
              | (go_at_call 43; refine (quoted_any 0 HR1.out (Nat.zero_le _) hs k says (a : Int) true HQK.out hq0 HAS.out).mono ?_; rintro e w4 ⟨hk4, hp4⟩; rw [if_pos rfl] at hp4; obtain ⟨rfl, hr4⟩ := hp4; have HR4 := Aside0.mk hr4; have HK4 := Aside0.mk (HK1.out.trans hk4); have d3 := blk_cell hr4 3; have e3 := blk_frozen hr4 3; clear hr4 hk4))
            have HT := Aside0.mk (show r = colonP s says a by have := HV3.out; rwa [show ((a : Int)).toNat = a by omega] at this)
            have HRt := Aside0.mk (show Rd (w4.setCell ⟨B, 3, none⟩ (.string says)) B s (a : Int) { c1E with f1 := says } from blk_put (show Rd w4 B s (a : Int) c1E by have := HR4.out; rwa [show ((0 : Nat) : Int) + (a : Int) = (a : Int) by omega] at this) 3 _ rfl)
            have HKt := Aside0.mk (HK4.out.setCell 3 (.string says))
            clear HV3 hl HP2 HP3 HQK HAS hq0 hc0 hc1 m2 m3 f1 f2 f3 d3 e3 hlong
            generalize w4.setCell ⟨B, 3, none⟩ (.string says) = wt at HRt HKt ⊢
            have hc0 := HRt.out.c0
            have hc1 := HRt.out.c1
            have hai : (0 : Int) ≤ (a : Int) := by omega
            by_cases hae : s.size ≤ a
            · obtain rfl : r = (20, (a : Int) + 1, 0, c1E) := HT.out.trans (if_pos (.inl hae))
              have hle : (s.size : Int) ≤ (a : Int) := by omega
              go_quiet ((go_at_call 45; exact Calls.quiet_of_same (end_true (HRt.out.drewN _) _ hle)))
              go_wp2_with (go_at_call 44; refine (fail_any _ _ _ _).mono ?_; rintro e w6 ⟨rfl, rfl⟩)
              exact ⟨rfl, HKt.out.trans (KB.drewN _ _ _), by rw [if_neg (show ¬ (20 : Int) = 0 by decide), wr2 _ (by omega) (by omega)]⟩
            · have hlt : (a : Int) < (s.size : Int) := by omega
              have hz : a < s.size := by omega
              have hbt : bt s (a : Int) = (s[a].toNat : Int) := (bt_at s (a : Int) hz).symm
              by_cases h58 : (s[a].toNat : Int) = 58
              · have HT2 := Aside0.mk (HT.out.trans (if_neg (fun h => h.elim hae (fun h => h (hbt.trans h58)))))
                clear hbt HT
                go_quiet ((go_at_call 45; exact Calls.quiet_of_same (end_false (HRt.out.drewN _) _ hlt)))
                have HRu := Aside0.mk (HRt.out.drewN nq)
                have HKu := Aside0.mk (HKt.out.trans (KB.drewN B wt nq))
                clear hc0 hc1
                generalize wt.drewN nq = wu at HRu HKu ⊢
                have hc1 := HRu.out.c1
                have hf1 := blk_frozen HRu.out 1
                have HRv := Aside0.mk (show Rd (wu.setCell ⟨B, 1, none⟩ (.int .i64 ((a : Int) + 1))) B s ((a : Int) + 1) { c1E with f1 := says } from HRu.out.setAt ((a : Int) + 1))
                have HKv := Aside0.mk (HKu.out.setCell 1 (.int .i64 ((a : Int) + 1)))
                by_cases he2 : s.size ≤ a + 1
                · obtain rfl : r = (0, 0, a + 1, { c1E with f1 := says }) := HT2.out.trans (if_neg (fun h => by omega))
                  go_wp2_with (go_at_call 45; refine (end_true HRv.out _ (by omega)).mono ?_; rintro e w7 ⟨rfl, rfl⟩)
                  go_end0
                  exact ⟨HKv.out, by rw [if_pos rfl]; exact ⟨rfl, HRv.out⟩⟩
                · have hz2 : a + 1 < s.size := by omega
                  by_cases h32 : bt s ((a : Int) + 1) = 32
                  · obtain rfl : r = (0, 0, a + 1, { c1E with f1 := says }) := HT2.out.trans (if_neg (fun h => h.2 h32))
                    have HBL := Aside0.mk (show blankB s ((a : Int) + 1) = true by unfold blankB; rw [decide_eq_true (show (a : Int) + 1 < (s.size : Int) by omega), decide_eq_true h32]; rfl)
                    clear h32
                    go_wp2_with (first
                      | (go_at_call 45; refine (end_false HRv.out _ (by omega)).mono ?_; rintro e w7 ⟨rfl, rfl⟩)
                      | (go_at_call 46; refine (blank_any HRv.out ((a : Int) + 1) (by omega)).mono ?_; rintro e w7 ⟨rfl, rfl⟩; rw [HBL.out]))
                    go_end0
                    exact ⟨HKv.out, by rw [if_pos rfl]; exact ⟨rfl, HRv.out⟩⟩
                  · obtain rfl : r = (20, (a : Int) + 2, 0, c1E) := HT2.out.trans (if_pos ⟨hz2, h32⟩)
                    have HBL := Aside0.mk (show blankB s ((a : Int) + 1) = false by unfold blankB; rw [decide_eq_false h32, Bool.and_false])
                    clear h32
                    have hv1 := HRv.out.c1
                    go_wp2_with (first
                      | (go_at_call 45; refine (end_false HRv.out _ (by omega)).mono ?_; rintro e w7 ⟨rfl, rfl⟩)
                      | (go_at_call 46; refine (blank_any HRv.out ((a : Int) + 1) (by omega)).mono ?_; rintro e w7 ⟨rfl, rfl⟩; rw [HBL.out])
                      | (go_at_call 44; refine (fail_any _ _ _ _).mono ?_; rintro e w6 ⟨rfl, rfl⟩))
                    exact ⟨rfl, HKv.out, by rw [if_neg (show ¬ (20 : Int) = 0 by decide), wr2 _ (by omega) (by omega), show (a : Int) + 1 + 1 = (a : Int) + 2 by omega]⟩
              · obtain rfl : r = (20, (a : Int) + 1, 0, c1E) := HT.out.trans (if_pos (.inr (by rw [hbt]; exact h58)))
                clear hbt
                have h58' : ((s[a].toNat : Int) != 58) = true := bne_iff_ne.mpr h58
                go_quiet ((go_at_call 45; exact Calls.quiet_of_same (end_false (HRt.out.drewN _) _ hlt)))
                go_wp2_with (go_at_call 44; refine (fail_any _ _ _ _).mono ?_; rintro e w6 ⟨rfl, rfl⟩)
                exact ⟨rfl, HKt.out.trans (KB.drewN _ _ _), by rw [if_neg (show ¬ (20 : Int) = 0 by decide), wr2 _ (by omega) (by omega)]⟩
      | false =>
        have HV1 := Aside0.mk (HV0.out.trans (if_neg (show ¬ (prefB s ⟨#[34]⟩ = true) by rw [h3]; decide)))
        have HP3 := Aside0.mk h3
        clear h3 HV0 HQ hq0 hq1
        go_wp2_with (first
          | (go_at_call 42; refine (Tryd.strings_HasPrefix s ⟨#[45, 32]⟩ _).mono ?_; rintro e w' ⟨rfl, rfl⟩; rw [show Lib.hasPrefix s.data.toList (⟨#[45, 32]⟩ : ByteArray).data.toList = false from HP2.out])
          | (go_at_call 42; refine (Tryd.strings_HasPrefix s ⟨#[34]⟩ _).mono ?_; rintro e w' ⟨rfl, rfl⟩; rw [show Lib.hasPrefix s.data.toList (⟨#[34]⟩ : ByteArray).data.toList = false from HP3.out]))
        clear hc0 hc1 m2 m3 f1 f2 f3
        go_loopg [] s.size (fun g wr => NmRel w B s c1E g wr)
        case atStart => exact ⟨0, Nat.zero_le _, Nat.le_refl _, rfl, HR1.out, HK1.out⟩
        case round =>
          obtain ⟨k, hk, hg, hn, hr, hkb⟩ := hrel
          have HR := Aside0.mk hr
          have HKB := Aside0.mk hkb
          have HN := Aside0.mk hn
          have hc0 := hr.c0
          have hc1 := hr.c1
          have hki : (0 : Int) ≤ (k : Int) := by omega
          clear hr hkb hn
          by_cases hgo : k < s.size ∧ namedB (bt s (k : Int)) = true
          · have hst := Aside0.mk (namesN_step s k hgo.1 hgo.2)
            have hlt : (k : Int) < (s.size : Int) := by omega
            have hd : decide ((k : Int) < (s.size : Int)) = true := decide_eq_true hlt
            have hz : k < s.size := hgo.1
            have HB := Aside0.mk (show namedB (s[k].toNat : Int) = true by have := hgo.2; rwa [← bt_at s (k : Int) hz] at this)
            clear hgo
            go_wp2
            go_quiet ((go_at_call 35; exact Calls.quiet_of_same (named_t _ HB.out _)))
            have hq1 : (wr.drewN nq).cell? ⟨B, 1, none⟩ = some (.int .i64 (k : Int)) := (HR.out.drewN nq).c1
            have hf1 := blk_frozen (HR.out.drewN nq) 1
            clear hc0 hc1 hd
            go_wp2
            go_roundg (s.size - (k + 1))
            case measure => omega
            case rel => exact ⟨k + 1, by omega, Nat.le_refl _, hst.out.symm.trans HN.out, (HR.out.drewN nq).setAt ((k : Int) + 1), (HKB.out.trans (KB.drewN _ _ _)).setCell _ _⟩
          · have hst : namesOf s = k := by
              rw [← HN.out]
              refine namesN_stop s k ?_
              by_cases hlt : k < s.size
              · exact .inr (by simpa using fun h => hgo ⟨hlt, h⟩)
              · exact .inl (by omega)
            have HST := Aside0.mk hst
            have hexit : ∀ (F : World → Prop), True := fun _ => trivial
            have HV2 := Aside0.mk (show r = if nameB (s.extract 0 k) = true then colonP s (s.extract 0 k) k else (20, 1, 0, c1E) by have := HV1.out; rwa [hst] at this)
            clear hst hexit
            by_cases hlt0 : k < s.size
            · have hlt : (k : Int) < (s.size : Int) := by omega
              have hd : decide ((k : Int) < (s.size : Int)) = true := decide_eq_true hlt
              have HB := Aside0.mk (show namedB (s[k].toNat : Int) = false by rw [show (s[k].toNat : Int) = bt s (k : Int) from bt_at s (k : Int) hlt0]; simpa using fun h => hgo ⟨hlt0, h⟩)
              clear hgo
              go_wp2
              go_quiet ((go_at_call 35; exact Calls.quiet_of_same (named_f _ HB.out _)))
              have HR5 := Aside0.mk (HR.out.drewN nq)
              have HK5 := Aside0.mk (HKB.out.trans (KB.drewN B wr nq))
              clear hc0 hc1 hd
              generalize wr.drewN nq = w5 at HR5 HK5 ⊢
              go_wp2
              have hki2 : (k : Int) ≤ (s.size : Int) := by omega
              have g0 : w5.drew.cell? ⟨B, 0, none⟩ = some (.string s) := (HR5.out.drewN 1).c0
              have g1 : w5.drew.cell? ⟨B, 1, none⟩ = some (.int .i64 (k : Int)) := (HR5.out.drewN 1).c1
              have g3 : w5.drew.cell? ⟨B, 3, none⟩ = some (.string ⟨#[]⟩) := (blk_cell (HR5.out.drewN 1) 3).trans rfl
              have gf3 : w5.drew.frozen? ⟨B, 3, none⟩ = false := blk_frozen (HR5.out.drewN 1) 3
              have HR6 := Aside0.mk (show Rd (w5.drew.setCell ⟨B, 3, none⟩ (.string (s.extract 0 k))) B s (k : Int) { c1E with f1 := s.extract 0 k } from blk_put (HR5.out.drewN 1) 3 _ rfl)
              have HK6 := Aside0.mk ((HK5.out.trans (KB.drewN B w5 1)).setCell 3 (.string (s.extract 0 k)))
              refine start_ (n := 14) (S := fun w' => w'.cell? ⟨B, 0, none⟩ = some (.string s) ∧ w'.cell? ⟨B, 1, none⟩ = some (.int .i64 (k : Int))) (ds := [13]) #[false, false, false, false, false, false, false, false, false, false, false, false, false, false] (by kernel_rfl) rfl rfl ⟨g0, g1⟩ (fun hHeld => ?_)
              refine pure_ (i := 0) (N := some 74) (v := ?_) (a' := ?_) #[true, false, false, false, false, false, false, false, false, false, false, false, false, false] rfl rfl (by kernel_rfl) (fun _ _ _ h => h) (Or.inl ⟨by rfl, ?_⟩) ?_ ?_
              rotate_left
              · intro w'
                go_simp
                with_reducible rfl
              rotate_left
              · simp only [Act.put, List.setIfInBounds_toArray, List.set_cons_zero, List.set_cons_succ, i64_w, i32_w]
                rfl
              refine pure_ (i := 1) (N := some 75) (v := ?_) (a' := ?_) #[true, true, false, false, false, false, false, false, false, false, false, false, false, false] rfl rfl (by kernel_rfl) (fun _ _ _ h => h) (Or.inl ⟨by rfl, ?_⟩) ?_ ?_
              rotate_left
              · intro w'
                go_simp
                with_reducible rfl
              rotate_left
              · simp only [Act.put, List.setIfInBounds_toArray, List.set_cons_zero, List.set_cons_succ, i64_w, i32_w]
                rfl
              refine pure_ (i := 2) (N := some 76) (v := ?_) (a' := ?_) #[true, true, true, false, false, false, false, false, false, false, false, false, false, false] rfl rfl (by kernel_rfl) (fun _ _ _ h => h) (Or.inl ⟨by rfl, ?_⟩) ?_ ?_
              rotate_left
              · intro w'
                go_simp
                with_reducible rfl
              rotate_left
              · simp only [Act.put, List.setIfInBounds_toArray, List.set_cons_zero, List.set_cons_succ, i64_w, i32_w]
                rfl
              refine pure_ (i := 3) (N := some 77) (v := ?_) (a' := ?_) #[true, true, true, true, false, false, false, false, false, false, false, false, false, false] rfl rfl (by kernel_rfl) (fun _ _ _ h => h) (Or.inl ⟨by rfl, ?_⟩) ?_ ?_
              rotate_left
              · intro w'
                go_simp
                with_reducible rfl
              rotate_left
              · simp only [Act.put, List.setIfInBounds_toArray, List.set_cons_zero, List.set_cons_succ, i64_w, i32_w]
                rfl
              refine pure_ (i := 5) (N := some 79) (v := ?_) (a' := ?_) #[true, true, true, true, false, true, false, false, false, false, false, false, false, false] rfl rfl (by kernel_rfl) (fun _ _ _ h => h) (Or.inl ⟨by rfl, ?_⟩) ?_ ?_
              rotate_left
              · intro w'
                go_simp
                with_reducible rfl
              rotate_left
              · simp only [Act.put, List.setIfInBounds_toArray, List.set_cons_zero, List.set_cons_succ, i64_w, i32_w]
                rfl
              refine pure_ (i := 6) (N := some 80) (v := ?_) (a' := ?_) #[true, true, true, true, false, true, true, false, false, false, false, false, false, false] rfl rfl (by kernel_rfl) (fun _ _ _ h => h) (Or.inl ⟨by rfl, ?_⟩) ?_ ?_
              rotate_left
              · intro w'
                go_simp
                with_reducible rfl
              rotate_left
              · simp only [Act.put, List.setIfInBounds_toArray, List.set_cons_zero, List.set_cons_succ, i64_w, i32_w]
                rfl
              refine pure_ (i := 7) (N := some 81) (v := ?_) (a' := ?_) #[true, true, true, true, false, true, true, true, false, false, false, false, false, false] rfl rfl (by kernel_rfl) (fun _ _ _ h => h) (Or.inl ⟨by rfl, ?_⟩) ?_ ?_
              rotate_left
              · intro w'
                go_simp
                with_reducible rfl
              rotate_left
              · simp only [Act.put, List.setIfInBounds_toArray, List.set_cons_zero, List.set_cons_succ, i64_w, i32_w]
                rfl
              refine take_ (i := 4) (N := some 78) (v := ?_) (a' := ?_) #[true, true, true, true, true, true, true, true, false, false, false, false, false, false] rfl rfl (by kernel_rfl) (fun _ _ _ h => h) (Or.inl ⟨by rfl, ?_⟩) hHeld ?_ ?_
              rotate_left
              · rintro w' ⟨s0, s1⟩
                go_simp
                with_reducible rfl
              rotate_left
              · simp only [Act.put, List.setIfInBounds_toArray, List.set_cons_zero, List.set_cons_succ, i64_w, i32_w]
                rfl
              refine take_ (i := 8) (N := some 82) (v := ?_) (a' := ?_) #[true, true, true, true, true, true, true, true, true, false, false, false, false, false] rfl rfl (by kernel_rfl) (fun _ _ _ h => h) (Or.inl ⟨by rfl, ?_⟩) hHeld ?_ ?_
              rotate_left
              · rintro w' ⟨s0, s1⟩
                go_simp
                with_reducible rfl
              rotate_left
              · simp only [Act.put, List.setIfInBounds_toArray, List.set_cons_zero, List.set_cons_succ, i64_w, i32_w]
                rfl
              refine pure_ (i := 9) (N := some 83) (v := ?_) (a' := ?_) #[true, true, true, true, true, true, true, true, true, true, false, false, false, false] rfl rfl (by kernel_rfl) (fun _ _ _ h => h) (Or.inl ⟨by rfl, ?_⟩) ?_ ?_
              rotate_left
              · intro w'
                go_simp
                with_reducible rfl
              rotate_left
              · simp only [Act.put, List.setIfInBounds_toArray, List.set_cons_zero, List.set_cons_succ, i64_w, i32_w]
                rfl
              refine pure_ (i := 10) (N := some 84) (v := ?_) (a' := ?_) #[true, true, true, true, true, true, true, true, true, true, true, false, false, false] rfl rfl (by kernel_rfl) (fun _ _ _ h => h) (Or.inl ⟨by rfl, ?_⟩) ?_ ?_
              rotate_left
              · intro w'
                go_simp
                with_reducible rfl
              rotate_left
              · simp only [Act.put, List.setIfInBounds_toArray, List.set_cons_zero, List.set_cons_succ, i64_w, i32_w]
                rfl
              refine pure_ (i := 11) (N := some 85) (v := ?_) (a' := ?_) #[true, true, true, true, true, true, true, true, true, true, true, true, false, false] rfl rfl (by kernel_rfl) (fun _ _ _ h => h) (Or.inl ⟨by rfl, ?_⟩) ?_ ?_
              rotate_left
              · intro w'
                go_simp
                with_reducible rfl
              rotate_left
              · simp only [Act.put, List.setIfInBounds_toArray, List.set_cons_zero, List.set_cons_succ, i64_w, i32_w]
                rfl
              refine pure_ (i := 12) (N := some 86) (v := ?_) (a' := ?_) #[true, true, true, true, true, true, true, true, true, true, true, true, true, false] rfl rfl (by kernel_rfl) (fun _ _ _ h => h) (Or.inl ⟨by rfl, ?_⟩) ?_ ?_
              rotate_left
              · intro w'
                go_simp
                with_reducible rfl
              rotate_left
              · simp only [Act.put, List.setIfInBounds_toArray, List.set_cons_zero, List.set_cons_succ, i64_w, i32_w]
                rfl
              refine last_ (i := 13) (N := none) #[true, true, true, true, true, true, true, true, true, true, true, true, true, true] rfl rfl (by kernel_rfl) (by decide) (fun K hK => ?_)
              refine skip_ (w1 := ?_) (by rfl) rfl ?_ ?_
              rotate_left
              · go_simp
                rfl
              refine hK.out _ _ ?_
              clear hK K
              refine done_ (by kernel_rfl) ?_
              clear hHeld g0 g1 g3 gf3
              have HR7 := Aside0.mk (show Rd ((w5.setCell ⟨B, 3, none⟩ (.string (s.extract 0 k))).drew) B s (k : Int) { c1E with f1 := s.extract 0 k } from HR6.out)
              have HK7 := Aside0.mk (show KB B w ((w5.setCell ⟨B, 3, none⟩ (.string (s.extract 0 k))).drew) from HK6.out)
              generalize (w5.setCell ⟨B, 3, none⟩ (.string (s.extract 0 k))).drew = wt at HR7 HK7 ⊢
              generalize s.extract 0 k = key at HR7 HV2 HR6 HK6 ⊢
              clear HR6 HK6
              have d3 := (blk_cell HR7.out 3).trans rfl
              cases hnm : nameB key with
              | false =>
                obtain rfl : r = (20, 1, 0, c1E) := HV2.out.trans (if_neg (by rw [hnm]; decide))
                have HNM := Aside0.mk hnm
                go_wp2_with (first
                  | (go_at_call 13; refine (name_any key _).mono ?_; rintro e w8 ⟨rfl, rfl⟩; rw [HNM.out])
                  | (go_at_call 44; refine (fail_any _ _ _ _).mono ?_; rintro e w6 ⟨rfl, rfl⟩))
                exact ⟨rfl, HK7.out, by rw [if_neg (show ¬ (20 : Int) = 0 by decide), show wrap64 1 = 1 by unfold wrap64; omega]⟩
              | true =>
                have HNM := Aside0.mk hnm
                have HT := Aside0.mk (HV2.out.trans (if_pos hnm))
                clear hnm HV2
                go_wp2_with (go_at_call 13; refine (name_any key _).mono ?_; rintro e w8 ⟨rfl, rfl⟩; rw [HNM.out])
                have HRt := HR7
                have HKt := HK7
                clear d3
                obtain ⟨a, ha⟩ : ∃ a, a = k := ⟨_, rfl⟩
                subst ha
                have hc0 := HRt.out.c0
                have hc1 := HRt.out.c1
                have hai : (0 : Int) ≤ (a : Int) := by omega
                have hae : ¬ s.size ≤ a := by omega
                have hlt : (a : Int) < (s.size : Int) := by omega
                have hz : a < s.size := by omega
                have hbt : bt s (a : Int) = (s[a].toNat : Int) := (bt_at s (a : Int) hz).symm
                by_cases h58 : (s[a].toNat : Int) = 58
                · have HT2 := Aside0.mk (HT.out.trans (if_neg (fun h => h.elim hae (fun h => h (hbt.trans h58)))))
                  clear hbt HT
                  go_quiet ((go_at_call 45; exact Calls.quiet_of_same (end_false (HRt.out.drewN _) _ hlt)))
                  have HRu := Aside0.mk (HRt.out.drewN nq)
                  have HKu := Aside0.mk (HKt.out.trans (KB.drewN B wt nq))
                  clear hc0 hc1
                  generalize wt.drewN nq = wu at HRu HKu ⊢
                  have hc1 := HRu.out.c1
                  have hf1 := blk_frozen HRu.out 1
                  have HRv := Aside0.mk (show Rd (wu.setCell ⟨B, 1, none⟩ (.int .i64 ((a : Int) + 1))) B s ((a : Int) + 1) { c1E with f1 := key } from HRu.out.setAt ((a : Int) + 1))
                  have HKv := Aside0.mk (HKu.out.setCell 1 (.int .i64 ((a : Int) + 1)))
                  by_cases he2 : s.size ≤ a + 1
                  · obtain rfl : r = (0, 0, a + 1, { c1E with f1 := key }) := HT2.out.trans (if_neg (fun h => by omega))
                    go_wp2_with (go_at_call 45; refine (end_true HRv.out _ (by omega)).mono ?_; rintro e w7 ⟨rfl, rfl⟩)
                    go_end0
                    exact ⟨HKv.out, by rw [if_pos rfl]; exact ⟨rfl, HRv.out⟩⟩
                  · have hz2 : a + 1 < s.size := by omega
                    by_cases h32 : bt s ((a : Int) + 1) = 32
                    · obtain rfl : r = (0, 0, a + 1, { c1E with f1 := key }) := HT2.out.trans (if_neg (fun h => h.2 h32))
                      have HBL := Aside0.mk (show blankB s ((a : Int) + 1) = true by unfold blankB; rw [decide_eq_true (show (a : Int) + 1 < (s.size : Int) by omega), decide_eq_true h32]; rfl)
                      clear h32
                      go_wp2_with (first
                        | (go_at_call 45; refine (end_false HRv.out _ (by omega)).mono ?_; rintro e w7 ⟨rfl, rfl⟩)
                        | (go_at_call 46; refine (blank_any HRv.out ((a : Int) + 1) (by omega)).mono ?_; rintro e w7 ⟨rfl, rfl⟩; rw [HBL.out]))
                      go_end0
                      exact ⟨HKv.out, by rw [if_pos rfl]; exact ⟨rfl, HRv.out⟩⟩
                    · obtain rfl : r = (20, (a : Int) + 2, 0, c1E) := HT2.out.trans (if_pos ⟨hz2, h32⟩)
                      have HBL := Aside0.mk (show blankB s ((a : Int) + 1) = false by unfold blankB; rw [decide_eq_false h32, Bool.and_false])
                      clear h32
                      have hv1 := HRv.out.c1
                      go_wp2_with (first
                        | (go_at_call 45; refine (end_false HRv.out _ (by omega)).mono ?_; rintro e w7 ⟨rfl, rfl⟩)
                        | (go_at_call 46; refine (blank_any HRv.out ((a : Int) + 1) (by omega)).mono ?_; rintro e w7 ⟨rfl, rfl⟩; rw [HBL.out])
                        | (go_at_call 44; refine (fail_any _ _ _ _).mono ?_; rintro e w6 ⟨rfl, rfl⟩))
                      exact ⟨rfl, HKv.out, by rw [if_neg (show ¬ (20 : Int) = 0 by decide), wr2 _ (by omega) (by omega), show (a : Int) + 1 + 1 = (a : Int) + 2 by omega]⟩
                · obtain rfl : r = (20, (a : Int) + 1, 0, c1E) := HT.out.trans (if_pos (.inr (by rw [hbt]; exact h58)))
                  clear hbt
                  have h58' : ((s[a].toNat : Int) != 58) = true := bne_iff_ne.mpr h58
                  go_quiet ((go_at_call 45; exact Calls.quiet_of_same (end_false (HRt.out.drewN _) _ hlt)))
                  go_wp2_with (go_at_call 44; refine (fail_any _ _ _ _).mono ?_; rintro e w6 ⟨rfl, rfl⟩)
                  exact ⟨rfl, HKt.out.trans (KB.drewN _ _ _), by rw [if_neg (show ¬ (20 : Int) = 0 by decide), wr2 _ (by omega) (by omega)]⟩
            · have hd : decide ((k : Int) < (s.size : Int)) = false := decide_eq_false (by omega)
              clear hgo
              go_wp2
              go_quiet (fail)
              have HR5 := Aside0.mk (HR.out.drewN nq)
              have HK5 := Aside0.mk (HKB.out.trans (KB.drewN B wr nq))
              clear hc0 hc1 hd
              generalize wr.drewN nq = w5 at HR5 HK5 ⊢
              go_wp2
              have hki2 : (k : Int) ≤ (s.size : Int) := by omega
              have g0 : w5.drew.cell? ⟨B, 0, none⟩ = some (.string s) := (HR5.out.drewN 1).c0
              have g1 : w5.drew.cell? ⟨B, 1, none⟩ = some (.int .i64 (k : Int)) := (HR5.out.drewN 1).c1
              have g3 : w5.drew.cell? ⟨B, 3, none⟩ = some (.string ⟨#[]⟩) := (blk_cell (HR5.out.drewN 1) 3).trans rfl
              have gf3 : w5.drew.frozen? ⟨B, 3, none⟩ = false := blk_frozen (HR5.out.drewN 1) 3
              have HR6 := Aside0.mk (show Rd (w5.drew.setCell ⟨B, 3, none⟩ (.string (s.extract 0 k))) B s (k : Int) { c1E with f1 := s.extract 0 k } from blk_put (HR5.out.drewN 1) 3 _ rfl)
              have HK6 := Aside0.mk ((HK5.out.trans (KB.drewN B w5 1)).setCell 3 (.string (s.extract 0 k)))
              refine start_ (n := 14) (S := fun w' => w'.cell? ⟨B, 0, none⟩ = some (.string s) ∧ w'.cell? ⟨B, 1, none⟩ = some (.int .i64 (k : Int))) (ds := [13]) #[false, false, false, false, false, false, false, false, false, false, false, false, false, false] (by kernel_rfl) rfl rfl ⟨g0, g1⟩ (fun hHeld => ?_)
              refine pure_ (i := 0) (N := some 74) (v := ?_) (a' := ?_) #[true, false, false, false, false, false, false, false, false, false, false, false, false, false] rfl rfl (by kernel_rfl) (fun _ _ _ h => h) (Or.inl ⟨by rfl, ?_⟩) ?_ ?_
              rotate_left
              · intro w'
                go_simp
                with_reducible rfl
              rotate_left
              · simp only [Act.put, List.setIfInBounds_toArray, List.set_cons_zero, List.set_cons_succ, i64_w, i32_w]
                rfl
              refine pure_ (i := 1) (N := some 75) (v := ?_) (a' := ?_) #[true, true, false, false, false, false, false, false, false, false, false, false, false, false] rfl rfl (by kernel_rfl) (fun _ _ _ h => h) (Or.inl ⟨by rfl, ?_⟩) ?_ ?_
              rotate_left
              · intro w'
                go_simp
                with_reducible rfl
              rotate_left
              · simp only [Act.put, List.setIfInBounds_toArray, List.set_cons_zero, List.set_cons_succ, i64_w, i32_w]
                rfl
              refine pure_ (i := 2) (N := some 76) (v := ?_) (a' := ?_) #[true, true, true, false, false, false, false, false, false, false, false, false, false, false] rfl rfl (by kernel_rfl) (fun _ _ _ h => h) (Or.inl ⟨by rfl, ?_⟩) ?_ ?_
              rotate_left
              · intro w'
                go_simp
                with_reducible rfl
              rotate_left
              · simp only [Act.put, List.setIfInBounds_toArray, List.set_cons_zero, List.set_cons_succ, i64_w, i32_w]
                rfl
              refine pure_ (i := 3) (N := some 77) (v := ?_) (a' := ?_) #[true, true, true, true, false, false, false, false, false, false, false, false, false, false] rfl rfl (by kernel_rfl) (fun _ _ _ h => h) (Or.inl ⟨by rfl, ?_⟩) ?_ ?_
              rotate_left
              · intro w'
                go_simp
                with_reducible rfl
              rotate_left
              · simp only [Act.put, List.setIfInBounds_toArray, List.set_cons_zero, List.set_cons_succ, i64_w, i32_w]
                rfl
              refine pure_ (i := 5) (N := some 79) (v := ?_) (a' := ?_) #[true, true, true, true, false, true, false, false, false, false, false, false, false, false] rfl rfl (by kernel_rfl) (fun _ _ _ h => h) (Or.inl ⟨by rfl, ?_⟩) ?_ ?_
              rotate_left
              · intro w'
                go_simp
                with_reducible rfl
              rotate_left
              · simp only [Act.put, List.setIfInBounds_toArray, List.set_cons_zero, List.set_cons_succ, i64_w, i32_w]
                rfl
              refine pure_ (i := 6) (N := some 80) (v := ?_) (a' := ?_) #[true, true, true, true, false, true, true, false, false, false, false, false, false, false] rfl rfl (by kernel_rfl) (fun _ _ _ h => h) (Or.inl ⟨by rfl, ?_⟩) ?_ ?_
              rotate_left
              · intro w'
                go_simp
                with_reducible rfl
              rotate_left
              · simp only [Act.put, List.setIfInBounds_toArray, List.set_cons_zero, List.set_cons_succ, i64_w, i32_w]
                rfl
              refine pure_ (i := 7) (N := some 81) (v := ?_) (a' := ?_) #[true, true, true, true, false, true, true, true, false, false, false, false, false, false] rfl rfl (by kernel_rfl) (fun _ _ _ h => h) (Or.inl ⟨by rfl, ?_⟩) ?_ ?_
              rotate_left
              · intro w'
                go_simp
                with_reducible rfl
              rotate_left
              · simp only [Act.put, List.setIfInBounds_toArray, List.set_cons_zero, List.set_cons_succ, i64_w, i32_w]
                rfl
              refine take_ (i := 4) (N := some 78) (v := ?_) (a' := ?_) #[true, true, true, true, true, true, true, true, false, false, false, false, false, false] rfl rfl (by kernel_rfl) (fun _ _ _ h => h) (Or.inl ⟨by rfl, ?_⟩) hHeld ?_ ?_
              rotate_left
              · rintro w' ⟨s0, s1⟩
                go_simp
                with_reducible rfl
              rotate_left
              · simp only [Act.put, List.setIfInBounds_toArray, List.set_cons_zero, List.set_cons_succ, i64_w, i32_w]
                rfl
              refine take_ (i := 8) (N := some 82) (v := ?_) (a' := ?_) #[true, true, true, true, true, true, true, true, true, false, false, false, false, false] rfl rfl (by kernel_rfl) (fun _ _ _ h => h) (Or.inl ⟨by rfl, ?_⟩) hHeld ?_ ?_
              rotate_left
              · rintro w' ⟨s0, s1⟩
                go_simp
                with_reducible rfl
              rotate_left
              · simp only [Act.put, List.setIfInBounds_toArray, List.set_cons_zero, List.set_cons_succ, i64_w, i32_w]
                rfl
              refine pure_ (i := 9) (N := some 83) (v := ?_) (a' := ?_) #[true, true, true, true, true, true, true, true, true, true, false, false, false, false] rfl rfl (by kernel_rfl) (fun _ _ _ h => h) (Or.inl ⟨by rfl, ?_⟩) ?_ ?_
              rotate_left
              · intro w'
                go_simp
                with_reducible rfl
              rotate_left
              · simp only [Act.put, List.setIfInBounds_toArray, List.set_cons_zero, List.set_cons_succ, i64_w, i32_w]
                rfl
              refine pure_ (i := 10) (N := some 84) (v := ?_) (a' := ?_) #[true, true, true, true, true, true, true, true, true, true, true, false, false, false] rfl rfl (by kernel_rfl) (fun _ _ _ h => h) (Or.inl ⟨by rfl, ?_⟩) ?_ ?_
              rotate_left
              · intro w'
                go_simp
                with_reducible rfl
              rotate_left
              · simp only [Act.put, List.setIfInBounds_toArray, List.set_cons_zero, List.set_cons_succ, i64_w, i32_w]
                rfl
              refine pure_ (i := 11) (N := some 85) (v := ?_) (a' := ?_) #[true, true, true, true, true, true, true, true, true, true, true, true, false, false] rfl rfl (by kernel_rfl) (fun _ _ _ h => h) (Or.inl ⟨by rfl, ?_⟩) ?_ ?_
              rotate_left
              · intro w'
                go_simp
                with_reducible rfl
              rotate_left
              · simp only [Act.put, List.setIfInBounds_toArray, List.set_cons_zero, List.set_cons_succ, i64_w, i32_w]
                rfl
              refine pure_ (i := 12) (N := some 86) (v := ?_) (a' := ?_) #[true, true, true, true, true, true, true, true, true, true, true, true, true, false] rfl rfl (by kernel_rfl) (fun _ _ _ h => h) (Or.inl ⟨by rfl, ?_⟩) ?_ ?_
              rotate_left
              · intro w'
                go_simp
                with_reducible rfl
              rotate_left
              · simp only [Act.put, List.setIfInBounds_toArray, List.set_cons_zero, List.set_cons_succ, i64_w, i32_w]
                rfl
              refine last_ (i := 13) (N := none) #[true, true, true, true, true, true, true, true, true, true, true, true, true, true] rfl rfl (by kernel_rfl) (by decide) (fun K hK => ?_)
              refine skip_ (w1 := ?_) (by rfl) rfl ?_ ?_
              rotate_left
              · go_simp
                rfl
              refine hK.out _ _ ?_
              clear hK K
              refine done_ (by kernel_rfl) ?_
              clear hHeld g0 g1 g3 gf3
              have HR7 := Aside0.mk (show Rd ((w5.setCell ⟨B, 3, none⟩ (.string (s.extract 0 k))).drew) B s (k : Int) { c1E with f1 := s.extract 0 k } from HR6.out)
              have HK7 := Aside0.mk (show KB B w ((w5.setCell ⟨B, 3, none⟩ (.string (s.extract 0 k))).drew) from HK6.out)
              generalize (w5.setCell ⟨B, 3, none⟩ (.string (s.extract 0 k))).drew = wt at HR7 HK7 ⊢
              generalize s.extract 0 k = key at HR7 HV2 HR6 HK6 ⊢
              clear HR6 HK6
              have d3 := (blk_cell HR7.out 3).trans rfl
              cases hnm : nameB key with
              | false =>
                obtain rfl : r = (20, 1, 0, c1E) := HV2.out.trans (if_neg (by rw [hnm]; decide))
                have HNM := Aside0.mk hnm
                go_wp2_with (first
                  | (go_at_call 13; refine (name_any key _).mono ?_; rintro e w8 ⟨rfl, rfl⟩; rw [HNM.out])
                  | (go_at_call 44; refine (fail_any _ _ _ _).mono ?_; rintro e w6 ⟨rfl, rfl⟩))
                exact ⟨rfl, HK7.out, by rw [if_neg (show ¬ (20 : Int) = 0 by decide), show wrap64 1 = 1 by unfold wrap64; omega]⟩
              | true =>
                have HNM := Aside0.mk hnm
                have HT := Aside0.mk (HV2.out.trans (if_pos hnm))
                clear hnm HV2
                go_wp2_with (go_at_call 13; refine (name_any key _).mono ?_; rintro e w8 ⟨rfl, rfl⟩; rw [HNM.out])
                have HRt := HR7
                have HKt := HK7
                clear d3
                obtain ⟨a, ha⟩ : ∃ a, a = k := ⟨_, rfl⟩
                subst ha
                have hc0 := HRt.out.c0
                have hc1 := HRt.out.c1
                have hai : (0 : Int) ≤ (a : Int) := by omega
                have hae : s.size ≤ a := by omega
                obtain rfl : r = (20, (a : Int) + 1, 0, c1E) := HT.out.trans (if_pos (.inl hae))
                have hle : (s.size : Int) ≤ (a : Int) := by omega
                go_quiet ((go_at_call 45; exact Calls.quiet_of_same (end_true (HRt.out.drewN _) _ hle)))
                go_wp2_with (go_at_call 44; refine (fail_any _ _ _ _).mono ?_; rintro e w6 ⟨rfl, rfl⟩)
                exact ⟨rfl, HKt.out.trans (KB.drewN _ _ _), by rw [if_neg (show ¬ (20 : Int) = 0 by decide), wr2 _ (by omega) (by omega)]⟩
end Go.Proofs.YtmkfjjfdbaaknaaDoor.Q
