/- What a tree is written as: Show of package show. -/
import Derived.Test.YtofajjodonhdkaaEAKWr
import Derived.Test.YtofajjodonhdkaaEAKBldS
import Derived.Test.YtofajjodonhdkaaEAKIs
namespace Go.Proofs.Ytofajjodonhdkaa.Q
open Go Go.RowKit Go.Shelf Go.Proofs.YtofajjodonhdkaaW.PrintWords Go.Proofs.YtofajjodonhdkaaW.PrintLast Go.Proofs.YtofajjodonhdkaaW.PrintMore
set_option linter.unusedVariables false
set_option linter.unusedSimpArgs false
set_option linter.unusedSectionVars false
theorem go_fits (t : List SN) : ∀ (k : Nat) (os : OS) (i : Nat), isGo t os k i = true → ∀ j, i ≤ j → j < i + k → fitsB (nd t j) (nd t (j - 1)) = true
  | 0, os, i, h, j, h1, h2 => by omega
  | k + 1, os, i, h, j, h1, h2 => by
    unfold isGo at h
    cases hf : fitsB (nd t i) (nd t (i - 1)) with
    | false => rw [if_pos hf] at h; cases h
    | true =>
      rw [if_neg (by rw [hf]; decide)] at h
      by_cases e : j = i
      · subst e; exact hf
      · split at h
        · split at h
          · cases h
          · exact go_fits t k _ (i + 1) h j (by omega) (by omega)
        · split at h
          · cases h
          · exact go_fits t k _ (i + 1) h j (by omega) (by omega)
/-- What the sizes are bounded by. -/
structure TinyT (t : List SN) : Prop where
  len : t.length ≤ 1048576
  key : ∀ i, i < t.length → (nd t i).f2.size ≤ 1048576
  txt : ∀ i, i < t.length → (nd t i).f3.size ≤ 1048576
theorem fits_parts {n a : SN} (h : fitsB n a = true) : (n.f0 = 1 ∨ n.f0 = 2 ∨ n.f0 = 3) ∧ 1 ≤ n.f1 ∧ n.f1 ≤ 32 ∧ (n.f1 ≤ a.f1 ∨ (n.f1 = a.f1 + 1 ∧ a.f0 ≠ 3)) ∧ (n.f3.toList = [] ∨ n.f0 = 3) := by
  unfold fitsB at h
  simp only [Bool.and_eq_true, Bool.or_eq_true, decide_eq_true_eq, Bool.not_eq_true', decide_eq_false_iff_not, List.isEmpty_iff] at h
  obtain ⟨h1, h2, h3, h4, h5⟩ := h
  exact ⟨by omega, h2, h3, h4, h5⟩
theorem root_parts {t : List SN} (h : rootB t = true) : 1 ≤ t.length ∧ t.length ≤ 16384 ∧ (nd t 0).f0 = 1 ∧ (nd t 0).f1 = 0 ∧ (nd t 0).f2.toList = [] ∧ (nd t 0).f3.toList = [] := by
  unfold rootB at h
  simpa only [Bool.and_eq_true, decide_eq_true_eq, List.isEmpty_iff] using h
theorem is_fits {t : List SN} (h : isP t = true) (j : Nat) (h1 : 1 ≤ j) (h2 : j < t.length) : fitsB (nd t j) (nd t (j - 1)) = true := by
  unfold isP at h
  rw [Bool.and_eq_true] at h
  exact go_fits t _ _ _ h.2 j h1 (by omega)
theorem is_good {t : List SN} (hT : TinyT t) (h : isP t = true) : Good t := by
  have hr := root_parts (show rootB t = true by unfold isP at h; rw [Bool.and_eq_true] at h; exact h.1)
  refine ⟨hT.len, fun i h1 h2 => (fits_parts (is_fits h i h1 h2)).1, fun i h1 h2 => (fits_parts (is_fits h i h1 h2)).2.1, fun i h2 => ?_, fun i h2 => ?_, hT.key, hT.txt⟩
  · by_cases h1 : 1 ≤ i
    · have := (fits_parts (is_fits h i h1 h2)).2.1; omega
    · have : i = 0 := by omega
      subst this
      rw [hr.2.2.2.1]; decide
  · by_cases h1 : 1 ≤ i
    · exact (fits_parts (is_fits h i h1 h2)).2.2.1
    · have : i = 0 := by omega
      subst this
      rw [hr.2.2.2.1]; decide
def showP (t : List SN) : ByteArray × Int :=
  if isP t = false then (⟨#[]⟩, 50) else if 65536 < (wr t t.length 0 ([], 0)).1.length ∨ 4096 < (wr t t.length 0 ([], 0)).2 then (⟨#[]⟩, 51) else (mkB (wr t t.length 0 ([], 0)).1, 0)
set_option maxRecDepth 100000 in
set_option maxHeartbeats 4000000 in
theorem show_any (A : Option Addr) (c : Nat) (t : List SN) (w : World) (hr : Kd.C k31 w A t.length t) (hc : t.length ≤ c) (hT : TinyT t) (hgm : GM w) :
    Calls Try.prog 9 #[.slice A t.length c] w fun e w' => e = .returned (.tuple #[.string (showP t).1, .int .i64 (showP t).2]) ∧ Below w.heap.size w w' := by
  cases hi : isP t with
  | false =>
    have e : showP t = (⟨#[]⟩, 50) := by unfold showP; rw [if_pos hi]
    rw [e]
    have HI := Aside0.mk hi
    have HR := Aside0.mk hr
    clear e hi hr
    go_enter Try.func9, Try.ntmps9
    go_wp2_with (go_at_call 15; refine (is_any A c t _ HR.out hc hT.len).mono ?_; rw [HI.out]; rintro e w1 ⟨rfl, hb1⟩)
    go_ret2
    exact ⟨rfl, hb1⟩
  | true =>
    have G := is_good hT hi
    have HI := Aside0.mk hi
    have HR := Aside0.mk hr
    have HG := Aside0.mk G
    have HGM := Aside0.mk hgm
    have hpos := (root_parts (show rootB t = true by unfold isP at hi; rw [Bool.and_eq_true] at hi; exact hi.1)).1
    obtain ⟨s, hs⟩ : ∃ s, s = wr t t.length 0 ([], 0) := ⟨_, rfl⟩
    have hok : Okay s := by rw [hs]; exact wr_ok G _ _ _ ⟨Nat.le_refl _, by show 0 ≤ _; omega⟩
    have hres : showP t = if 65536 < s.1.length ∨ 4096 < s.2 then (⟨#[]⟩, 51) else (mkB s.1, 0) := by
      unfold showP
      rw [if_neg (by rw [hi]; decide), ← hs]
    have HRES := Aside0.mk hres
    have HS := Aside0.mk hs
    clear hi hr G hgm hs hres
    have fin : ∀ (r : ByteArray × Int), showP t = r → showP t = r := fun _ h => h
    go_enter Try.func9, Try.ntmps9
    go_wp2_with (first
      | (go_at_call 20; refine (wr_any w1 w1.heap.size A c t HG.out hc (Kd.C_below HR.out HB1.out) (GM.below HGM.out HB1.out) t.length 0 hpos (by omega) ([], 0) _ ⟨Nat.le_refl _, by show 0 ≤ _; omega⟩ (below_alloc (Below.refl _ _) _) ⟨Nat.le_refl _, .pointer none, .slice none 0 0, .inl rfl, blk_new w1 _, World.ownsRow_nil _ _ _ _⟩).mono ?_; rw [← HS.out]; rintro e w2 ⟨rfl, hwt2, hfr2⟩)
      | (go_at_call 15; refine (is_any A c t _ HR.out hc hT.len).mono ?_; rw [HI.out]; rintro e w1 ⟨rfl, hb1⟩; have HB1 := Aside0.mk hb1; clear hb1))
    have HWT := Aside0.mk hwt2
    have HBL := Aside0.mk (show Below w.heap.size w w2 from HB1.out.trans ((show Below w1.heap.size w1 w2 from (below_alloc (Below.refl _ _) _).trans (hfr2.to_below (by simp) (by simp))).mono HB1.out.size))
    clear hwt2 hfr2
    by_cases hb1 : 65536 < s.1.length
    · have hb1' : (65536 : Int) < (s.1.length : Int) := by omega
      have hres := HRES.out
      rw [if_pos (.inl hb1)] at hres
      have HRES2 := Aside0.mk hres
      clear hres hb1 HRES fin
      go_wp2_with (go_at_call 21; refine (len_any _ _ _ _ _ _ HWT.out).mono ?_; rintro e w3 ⟨rfl, rfl⟩)
      go_ret2
      exact ⟨by rw [HRES2.out]; rfl, HBL.out⟩
    · have hb1' : ¬ (65536 : Int) < (s.1.length : Int) := by omega
      have h3 := HWT.out.cell3
      by_cases hb2 : 4096 < s.2
      · have hb2' : (4096 : Int) < ((s.2 : Nat) : Int) := by omega
        have hres := HRES.out
        rw [if_pos (.inr hb2)] at hres
        have HRES2 := Aside0.mk hres
        clear hres hb1 hb2 HRES fin
        go_wp2_with (go_at_call 21; refine (len_any _ _ _ _ _ _ HWT.out).mono ?_; rintro e w3 ⟨rfl, rfl⟩)
        go_ret2
        exact ⟨by rw [HRES2.out]; rfl, HBL.out⟩
      · have hb2' : ¬ (4096 : Int) < ((s.2 : Nat) : Int) := by omega
        have hres := HRES.out
        rw [if_neg (fun h => h.elim hb1 hb2)] at hres
        have HRES2 := Aside0.mk hres
        clear hres hb1 hb2 HRES fin
        go_wp2_with (first
          | (go_at_call 22; refine (string_any _ _ _ _ _ _ HWT.out).mono ?_; rintro e w4 ⟨rfl, hb4⟩; have HB4 := Aside0.mk hb4; clear hb4)
          | (go_at_call 21; refine (len_any _ _ _ _ _ _ HWT.out).mono ?_; rintro e w3 ⟨rfl, rfl⟩))
        go_ret2
        exact ⟨by rw [HRES2.out]; rfl, HBL.out.trans (HB4.out.mono HB1.out.size)⟩
def tinyT (t : List SN) : Bool := decide (t.length ≤ 1048576) && t.all fun x => decide (x.f2.size ≤ 1048576) && decide (x.f3.size ≤ 1048576)
theorem tinyT_iff (t : List SN) : tinyT t = true → TinyT t := fun h => by
  unfold tinyT at h
  rw [Bool.and_eq_true, decide_eq_true_eq, List.all_eq_true] at h
  refine ⟨h.1, fun i hi => ?_, fun i hi => ?_⟩
  · have := h.2 t[i] (List.getElem_mem hi)
    rw [Bool.and_eq_true, decide_eq_true_eq, decide_eq_true_eq] at this
    rw [nd_at t i hi]
    exact this.1
  · have := h.2 t[i] (List.getElem_mem hi)
    rw [Bool.and_eq_true, decide_eq_true_eq, decide_eq_true_eq] at this
    rw [nd_at t i hi]
    exact this.2
def show_Show.f (l0 : List SN) : Option (ByteArray × Int) := if tinyT l0 = true then some (showP l0) else none
theorem show_Show.calls (A0 : Option Addr) (c0 : Nat) (l0 : List SN) (r1 : ByteArray) (r2 : Int) (w : World) (hr0 : Kd.C k31 w A0 l0.length l0) (hc0 : l0.length ≤ c0) (hgm : GM w) (h : show_Show.f l0 = some (r1, r2)) :
    Calls Try.prog 9 #[.slice A0 l0.length c0] w fun e w' => e = .returned (.tuple #[.string r1, .int .i64 r2]) ∧ Below w.heap.size w w' := by
  unfold show_Show.f at h
  split at h
  · have e := Option.some.inj h
    have := show_any A0 c0 l0 w hr0 hc0 (tinyT_iff l0 ‹_›) hgm
    rw [e] at this
    exact this
  · cases h
end Go.Proofs.Ytofajjodonhdkaa.Q
