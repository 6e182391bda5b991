/- The matrix package's iterator over picks: what one call of it tells, and where it then stands. -/
import Derived.Test.YtdgllnaeookddaaDAGPicks
namespace Go.Proofs.Ytdgllnaeookddaa.Q
open Go.RowKit Go.Proofs.YtdgllnaeookddaaW.PrintWords Go.Proofs.YtdgllnaeookddaaW.PrintLast
set_option linter.unusedVariables false
set_option linter.unusedSimpArgs false
theorem PickSt.lt {w : World} {s : Nat} {left : Bool} {A : Option Addr} {n c : Nat} {at_ : List Nat} (h : PickSt w s left A n c at_) : s + 1 + 1 + 1 < w.heap.size := blk_lt h.left
theorem PickSt.at_cell {w : World} {s : Nat} {left : Bool} {A : Option Addr} {n c : Nat} {at_ : List Nat} (h : PickSt w s left A n c at_) (k : Nat) (hk : k < at_.length) : w.cell? ⟨s + 1, k, none⟩ = some (.int .i64 ((at_.getD k 0 : Nat) : Int)) := by
  rw [blk_cell h.row]
  simp [hk]
/-- The closure, when nothing is left. -/
theorem next_none (s : Nat) (A : Option Addr) (n c : Nat) (at_ : List Nat) (w : World) (hp : PickSt w s false A n c at_) :
    Calls Try.prog 56 #[.pointer (some ⟨s + 1 + 1 + 1, 0, none⟩), .pointer (some ⟨s, 0, none⟩), .pointer (some ⟨s + 1 + 1, 0, none⟩)] w fun e w' => e = .returned (.tuple #[.slice none 0 0, .bool false]) ∧ w = w' := by
  have c1 : w.cell? ⟨s + 1 + 1 + 1, 0, none⟩ = some (.bool false) := (blk_cell hp.left 0).trans rfl
  go_enter Try.func56, Try.ntmps56
  go_wp2
  go_ret2
  exact ⟨rfl, rfl⟩
def NextRel (w : World) (s : Nat) (A : Option Addr) (c : Nat) (axes : AX) (at_ : List Nat) (v i : Value) (wr : World) : Prop :=
  ∃ k : Nat, k ≤ axes.length ∧ i = .int .i64 k ∧ Kd.R k51 51 wr w.heap.size (fun _ => True) v ((pickOf axes at_).take k) ∧ Below w.heap.size w wr
/-- Where the odometer stands while it carries: the places behind i are 0, those up to i as they were. -/
def carried (at_ : List Nat) (n i : Nat) : List Nat := at_.take i ++ List.replicate (n - i) 0
structure NextPost (w : World) (s : Nat) (A : Option Addr) (c : Nat) (axes : AX) (at_ : List Nat) (v : Value) (w' : World) : Prop where
  made : Kd.R k51 51 w' w.heap.size (fun _ => True) v (pickOf axes at_)
  st : PickSt w' s (!(carryF (lens axes) at_).1) A axes.length c (carryF (lens axes) at_).2
  below : Below s w w'
  kept : Kept w w' (fun k => k = s + 1 ∨ k = s + 1 + 1 + 1)
theorem carried_full (at_ : List Nat) (n : Nat) (h : at_.length = n) : carried at_ n n = at_ := by
  unfold carried
  rw [Nat.sub_self, List.take_of_length_le (by omega)]
  simp
theorem carried_at (at_ : List Nat) {n : Nat} (m : Nat) (h : m < at_.length) : (carried at_ n (m + 1)).getD m 0 = at_.getD m 0 := by
  unfold carried
  rw [List.getD_eq_getElem?_getD, List.getElem?_append_left (by simp; omega), List.getElem?_take_of_lt (by omega), List.getD_eq_getElem?_getD]
theorem carried_set (at_ : List Nat) (n m x : Nat) (h : at_.length = n) (hm : m < n) : (carried at_ n (m + 1)).set m x = at_.take m ++ x :: List.replicate (n - (m + 1)) 0 := by
  unfold carried
  rw [List.take_succ_eq_append_getElem (by omega), List.append_assoc, List.set_append_right _ _ (by rw [List.length_take]; exact Nat.min_le_left _ _)]
  simp [Nat.min_eq_left (show m ≤ at_.length by omega)]
theorem carried_zero (at_ : List Nat) (n m : Nat) (h : at_.length = n) (hm : m < n) : (carried at_ n (m + 1)).set m 0 = carried at_ n m := by
  rw [carried_set at_ n m 0 h hm]
  unfold carried
  have : n - m = (n - (m + 1)) + 1 := by omega
  rw [this, List.replicate_succ]
def CarryRel (w : World) (s : Nat) (A : Option Addr) (c : Nat) (axes : AX) (at_ : List Nat) (v i : Value) (wr : World) : Prop :=
  ∃ j : Nat, j ≤ axes.length ∧ i = .int .i64 ((j : Int) - 1) ∧ PickSt wr s true A axes.length c (carried at_ axes.length j) ∧ RunOver (lens axes) at_ j ∧ Kd.R k51 51 wr w.heap.size (fun _ => True) v (pickOf axes at_) ∧ Below s w wr ∧ Kept w wr (fun k => k = s + 1 ∨ k = s + 1 + 1 + 1)
theorem PickSt.setRow {w : World} {s n c : Nat} {left : Bool} {A : Option Addr} {at_ : List Nat} (h : PickSt w s left A n c at_) (m x : Nat) : PickSt (w.setCell ⟨s + 1, m, none⟩ (.int .i64 (x : Int))) s left A n c (at_.set m x) := by
  refine ⟨blk_far h.axes (show s ≠ s + 1 by omega) _, ?_, blk_far h.box (show s + 1 + 1 ≠ s + 1 by omega) _, blk_far h.left (show s + 1 + 1 + 1 ≠ s + 1 by omega) _⟩
  have := blk_set h.row m (.int .i64 (x : Int))
  simpa [List.map_set] using this
theorem PickSt.setLeft {w : World} {s n c : Nat} {left : Bool} {A : Option Addr} {at_ : List Nat} (h : PickSt w s left A n c at_) (left' : Bool) : PickSt (w.setCell ⟨s + 1 + 1 + 1, 0, none⟩ (.bool left')) s left' A n c at_ := by
  refine ⟨blk_far h.axes (show s ≠ s + 1 + 1 + 1 by omega) _, blk_far h.row (show s + 1 ≠ s + 1 + 1 + 1 by omega) _, blk_far h.box (show s + 1 + 1 ≠ s + 1 + 1 + 1 by omega) _, ?_⟩
  have := blk_set h.left 0 (.bool left')
  simpa using this
theorem PickSt.drewN {w : World} {s n c : Nat} {left : Bool} {A : Option Addr} {at_ : List Nat} (h : PickSt w s left A n c at_) (m : Nat) : PickSt (w.drewN m) s left A n c at_ := ⟨h.axes, h.row, h.box, h.left⟩
section
variable {w wr : World} {s c m u : Nat} {A : Option Addr} {axes : AX} {at_ : List Nat} {v : Value}
theorem R_row (ho : Kd.R k51 51 wr w.heap.size (fun _ => True) v (pickOf axes at_)) {left : Bool} {n : Nat} {at1 : List Nat} (hp : PickSt wr s left A n c at1) (j : Nat) (x : Value) : Kd.R k51 51 (wr.setCell ⟨s + 1, j, none⟩ x) w.heap.size (fun _ => True) v (pickOf axes at_) :=
  Kd.R_set ho hp.row (by decide) j x
theorem R_left (ho : Kd.R k51 51 wr w.heap.size (fun _ => True) v (pickOf axes at_)) {left : Bool} {n : Nat} {at1 : List Nat} (hp : PickSt wr s left A n c at1) (x : Value) : Kd.R k51 51 (wr.setCell ⟨s + 1 + 1 + 1, 0, none⟩ x) w.heap.size (fun _ => True) v (pickOf axes at_) :=
  Kd.R_set ho hp.left (by decide) 0 x
theorem carry_step (hl : at_.length = axes.length) (hp : PickSt wr s true A axes.length c (carried at_ axes.length (m + 1))) (hrun : RunOver (lens axes) at_ (m + 1)) (ho : Kd.R k51 51 wr w.heap.size (fun _ => True) v (pickOf axes at_)) (hbs : Below s w wr)
    (hkp : Kept w wr (fun k => k = s + 1 ∨ k = s + 1 + 1 + 1)) (hm : m < axes.length) (hmax : at_.getD m 0 + 1 = (lens axes).getD m 0) :
    PickSt ((wr.drewN u).setCell ⟨s + 1, m, none⟩ (.int .i64 0)) s true A axes.length c (carried at_ axes.length m) ∧ RunOver (lens axes) at_ m ∧ Kd.R k51 51 ((wr.drewN u).setCell ⟨s + 1, m, none⟩ (.int .i64 0)) w.heap.size (fun _ => True) v (pickOf axes at_) ∧
      Below s w ((wr.drewN u).setCell ⟨s + 1, m, none⟩ (.int .i64 0)) ∧ Kept w ((wr.drewN u).setCell ⟨s + 1, m, none⟩ (.int .i64 0)) (fun k => k = s + 1 ∨ k = s + 1 + 1 + 1) := by
  refine ⟨?_, runOver_step hrun (by rw [lens_length]; exact hl) (by rw [lens_length]; exact hm) hmax, R_row (Kd.R_drewN ho u) (hp.drewN u) m _, (pw_below_drewN hbs u).setCell (show s ≤ s + 1 by omega) _, (hkp.drewN u).setCell (.inl (.inl rfl)) _⟩
  have := (hp.drewN u).setRow m 0
  rwa [carried_zero at_ _ m hl hm] at this
theorem carry_done_all (hl : at_.length = axes.length) (hp : PickSt wr s true A axes.length c (carried at_ axes.length 0)) (hrun : RunOver (lens axes) at_ 0) (ho : Kd.R k51 51 wr w.heap.size (fun _ => True) v (pickOf axes at_)) (hbs : Below s w wr)
    (hkp : Kept w wr (fun k => k = s + 1 ∨ k = s + 1 + 1 + 1)) : NextPost w s A c axes at_ v ((wr.drewN u).setCell ⟨s + 1 + 1 + 1, 0, none⟩ (.bool false)) := by
  refine ⟨R_left (Kd.R_drewN ho u) (hp.drewN u) _, ?_, (pw_below_drewN hbs u).setCell (show s ≤ s + 1 + 1 + 1 by omega) _, (hkp.drewN u).setCell (.inl (.inr rfl)) _⟩
  rw [carry_all hrun, lens_length]
  have := (hp.drewN u).setLeft false
  simpa [carried] using this
theorem carry_done (hl : at_.length = axes.length) (hp : PickSt wr s true A axes.length c (carried at_ axes.length (m + 1))) (hrun : RunOver (lens axes) at_ (m + 1)) (ho : Kd.R k51 51 wr w.heap.size (fun _ => True) v (pickOf axes at_)) (hbs : Below s w wr)
    (hkp : Kept w wr (fun k => k = s + 1 ∨ k = s + 1 + 1 + 1)) (hm : m < axes.length) (hmax : at_.getD m 0 + 1 ≠ (lens axes).getD m 0) {d : Nat} (hd : d = at_.getD m 0) :
    NextPost w s A c axes at_ v (((wr.drewN u).setCell ⟨s + 1 + 1 + 1, 0, none⟩ (.bool true)).setCell ⟨s + 1, m, none⟩ (.int .i64 ((d : Int) + 1))) := by
  have h1 := (hp.drewN u).setLeft true
  refine ⟨R_row (R_left (Kd.R_drewN ho u) (hp.drewN u) _) h1 m _, ?_, ((pw_below_drewN hbs u).setCell (show s ≤ s + 1 + 1 + 1 by omega) _).setCell (show s ≤ s + 1 by omega) _, ((hkp.drewN u).setCell (.inl (.inr rfl)) _).setCell (.inl (.inl rfl)) _⟩
  rw [carry_stop hrun (by rw [lens_length]; exact hl) (by rw [lens_length]; exact hm) hmax, lens_length, ← hd]
  have := h1.setRow m (d + 1)
  rw [carried_set at_ _ m _ hl hm] at this
  simpa using this
end
set_option maxHeartbeats 1000000 in
set_option maxRecDepth 100000 in
theorem next_some (s : Nat) (A : Option Addr) (c : Nat) (axes : AX) (at_ : List Nat) (w : World) (hp : PickSt w s true A axes.length c at_) (hR : ∀ W, Below s w W → Kd.C k46 W A axes.length axes)
    (hl : at_.length = axes.length) (hv : ∀ i, i < axes.length → at_.getD i 0 < (lens axes).getD i 0) (h80 : axes.length ≤ 8) :
    Calls Try.prog 56 #[.pointer (some ⟨s + 1 + 1 + 1, 0, none⟩), .pointer (some ⟨s, 0, none⟩), .pointer (some ⟨s + 1 + 1, 0, none⟩)] w fun e w' => ∃ v, e = .returned (.tuple #[v, .bool true]) ∧ NextPost w s A c axes at_ v w' := by
  have c1 : w.cell? ⟨s + 1 + 1 + 1, 0, none⟩ = some (.bool true) := (blk_cell hp.left 0).trans rfl
  have c2 : w.cell? ⟨s, 0, none⟩ = some (.slice A axes.length c) := (blk_cell hp.axes 0).trans rfl
  have HP := Aside0.mk hp
  have HR := Aside0.mk hR
  have HL := Aside0.mk hl
  have HV := Aside0.mk hv
  have h8 := Aside0.mk h80
  clear hp hR hl hv
  go_enter Try.func56, Try.ntmps56
  go_wp2
  go_loopw [5, 13] (fun v i wr => NextRel w s A c axes at_ v i wr) (fun _ i _ => axes.length - (intOf i).toNat)
  case atStart => exact ⟨0, Nat.zero_le _, rfl, Kd.R_nil _ _ _ _ _, Below.refl _ _⟩
  case round =>
    obtain ⟨k, hk, rfl, ho, hbw⟩ := hrel
    clear c1 c2
    have HB0 := Aside0.mk hbw
    have HO0 := Aside0.mk ho
    have HP0 := Aside0.mk (HP.out.below hbw)
    have hps := HP.out.lt
    have hsz := hbw.size
    by_cases hlt : k < axes.length
    · have hbs : Below s w wr := hbw.mono (by omega)
      obtain ⟨ad, A0, c0, e, hx, hx1, hle, hi⟩ := at_T46 (HR.out wr hbs) (k : Int) (by omega) (by omega)
      subst e
      have hd := HV.out k hlt
      obtain ⟨d, hdd⟩ : ∃ d, d = at_.getD k 0 := ⟨_, rfl⟩
      have hlenk : (lens axes).getD k 0 = (rd_T46 axes (k : Int)).f1.length := by simp [lens, rd_T46, hlt]
      rw [hlenk, ← hdd] at hd
      have htk := pickOf_take axes at_ HL.out k hlt
      rw [← hdd] at htk
      have hrd : rd_T46 axes (k : Int) = axes.getD k z46 := rfl
      rw [← hrd] at htk
      obtain ⟨ax, hax⟩ : ∃ ax, ax = rd_T46 axes (k : Int) := ⟨_, rfl⟩
      rw [← hax] at hx hx1 hle hi hd htk
      obtain ⟨ad0, e0, hx2⟩ := Kd.at_string hi (d : Int) (by omega) (by omega)
      subst e0
      obtain ⟨sv, hsv⟩ : ∃ sv, sv = rdOf ByteArray.empty ax.f1 (d : Int) := ⟨_, rfl⟩
      rw [← hsv] at hx2
      have hsv' : ax.f1.getD d ByteArray.empty = sv := hsv.symm
      rw [hsv'] at htk
      replace hx : wr.cell? (ad.add (k * 2)) = _ := hx
      replace hx1 : wr.cell? ⟨(ad.add (k * 2)).block, (ad.add (k * 2)).off + 1, none⟩ = _ := hx1
      replace hx2 : wr.cell? (ad0.add d) = _ := hx2
      have hx3 := HP0.out.at_cell k (by rw [HL.out]; exact hlt)
      rw [← hdd] at hx3
      have hx4 : wr.cell? ⟨s + 1 + 1, 0, none⟩ = some (.slice (some ⟨s + 1, 0, none⟩) axes.length axes.length) := (blk_cell HP0.out.box 0).trans rfl
      have HTK := Aside0.mk htk
      have HX := Aside0.mk (And.intro hx2 (And.intro hx3 hx4))
      clear hdd hax hsv hsv' htk hx2 hx3 hx4 hlenk hi hrd hbw ho hbs
      go_wp2
      have HO : Aside0 (Kd.R k51 51 ((wr.alloc (.cells #[.string ax.f0, .slice (some ad0) ax.f1.length c0] 46)).drew) w.heap.size (fun _ => True) u5 ((pickOf axes at_).take k)) := ⟨Kd.R_drew (Kd.R_alloc HO0.out _)⟩
      have HB : Aside0 (Below w.heap.size w (wr.alloc (.cells #[.string ax.f0, .slice (some ad0) ax.f1.length c0] 46)).drew) := ⟨below_drew (below_alloc HB0.out _)⟩
      obtain ⟨wb, hwb⟩ : ∃ wb, wb = wr.heap.size := ⟨_, rfl⟩
      have hN := blk_new wr (.cells #[.string ax.f0, .slice (some ad0) ax.f1.length c0] 46)
      have b0 : (wr.alloc (.cells #[.string ax.f0, .slice (some ad0) ax.f1.length c0] 46)).drew.cell? ⟨wb, 0, none⟩ = some (.string ax.f0) := by rw [hwb]; exact (blk_cell hN 0).trans rfl
      have b1 : (wr.alloc (.cells #[.string ax.f0, .slice (some ad0) ax.f1.length c0] 46)).drew.cell? ⟨wb, 1, none⟩ = some (.slice (some ad0) ax.f1.length c0) := by rw [hwb]; exact (blk_cell hN 1).trans rfl
      have b2 : (wr.alloc (.cells #[.string ax.f0, .slice (some ad0) ax.f1.length c0] 46)).drew.cell? ⟨s + 1 + 1, 0, none⟩ = some (.slice (some ⟨s + 1, 0, none⟩) axes.length axes.length) := pw_cell_below (below_alloc (Below.refl _ _) _) HX.out.2.2
      have b3 : (wr.alloc (.cells #[.string ax.f0, .slice (some ad0) ax.f1.length c0] 46)).drew.cell? ⟨s + 1, k, none⟩ = some (.int .i64 (d : Int)) := pw_cell_below (below_alloc (Below.refl _ _) _) HX.out.2.1
      have b4 : (wr.alloc (.cells #[.string ax.f0, .slice (some ad0) ax.f1.length c0] 46)).drew.cell? (ad0.add d) = some (.string sv) := pw_cell_below (below_alloc (Below.refl _ _) _) HX.out.1
      rw [← hwb]
      have HWB := Aside0.mk hwb
      clear hwb hN hx hx1
      refine start_ (n := 15) (S := fun w' => w'.cell? ⟨wb, 0, none⟩ = some (.string ax.f0) ∧ w'.cell? ⟨wb, 1, none⟩ = some (.slice (some ad0) ax.f1.length c0) ∧ w'.cell? ⟨s + 1 + 1, 0, none⟩ = some (.slice (some ⟨s + 1, 0, none⟩) axes.length axes.length) ∧ w'.cell? ⟨s + 1, k, none⟩ = some (.int .i64 (d : Int)) ∧ w'.cell? (ad0.add d) = some (.string sv)) (ds := [12, 13]) #[false, false, false, false, false, false, false, false, false, false, false, false, false, false, false] (by kernel_rfl) rfl rfl ⟨b0, b1, b2, b3, b4⟩ (fun hHeld => ?_)
      clear b0 b1 b2 b3 b4
      generalize (wr.alloc (.cells #[.string ax.f0, .slice (some ad0) ax.f1.length c0] 46)).drew = w6 at HO HB hHeld ⊢
      refine pure_ (i := 0) (N := some 18) (v := ?_) (a' := ?_) #[true, false, false, false, false, false, false, false, false, false, false, false, false, false, false] rfl rfl (by kernel_rfl) (fun _ _ _ h => h) (Or.inl ⟨by rfl, ?_⟩) ?_ ?_
      rotate_left
      · intro w'
        go_simp
        with_reducible rfl
      rotate_left
      · simp only [Act.put, List.setIfInBounds_toArray, List.set_cons_zero, List.set_cons_succ, i64_w, i32_w]
        rfl
      refine pure_ (i := 1) (N := some 19) (v := ?_) (a' := ?_) #[true, true, false, false, false, false, false, false, false, false, false, false, false, false, false] rfl rfl (by kernel_rfl) (fun _ _ _ h => h) (Or.inl ⟨by rfl, ?_⟩) ?_ ?_
      rotate_left
      · intro w'
        go_simp
        with_reducible rfl
      rotate_left
      · simp only [Act.put, List.setIfInBounds_toArray, List.set_cons_zero, List.set_cons_succ, i64_w, i32_w]
        rfl
      refine pure_ (i := 3) (N := some 21) (v := ?_) (a' := ?_) #[true, true, false, true, false, false, false, false, false, false, false, false, false, false, false] rfl rfl (by kernel_rfl) (fun _ _ _ h => h) (Or.inl ⟨by rfl, ?_⟩) ?_ ?_
      rotate_left
      · intro w'
        go_simp
        with_reducible rfl
      rotate_left
      · simp only [Act.put, List.setIfInBounds_toArray, List.set_cons_zero, List.set_cons_succ, i64_w, i32_w]
        rfl
      refine pure_ (i := 6) (N := some 24) (v := ?_) (a' := ?_) #[true, true, false, true, false, false, true, false, false, false, false, false, false, false, false] rfl rfl (by kernel_rfl) (fun _ _ _ h => h) (Or.inl ⟨by rfl, ?_⟩) ?_ ?_
      rotate_left
      · intro w'
        go_simp
        with_reducible rfl
      rotate_left
      · simp only [Act.put, List.setIfInBounds_toArray, List.set_cons_zero, List.set_cons_succ, i64_w, i32_w]
        rfl
      refine take_ (i := 2) (N := some 20) (v := ?_) (a' := ?_) #[true, true, true, true, false, false, true, false, false, false, false, false, false, false, false] rfl rfl (by kernel_rfl) (fun _ _ _ h => h) (Or.inl ⟨by rfl, ?_⟩) hHeld ?_ ?_
      rotate_left
      · rintro w' ⟨s0, s1, s2, s3, s4⟩
        go_simp
        with_reducible rfl
      rotate_left
      · simp only [Act.put, List.setIfInBounds_toArray, List.set_cons_zero, List.set_cons_succ, i64_w, i32_w]
        rfl
      refine take_ (i := 4) (N := some 22) (v := ?_) (a' := ?_) #[true, true, true, true, true, false, true, false, false, false, false, false, false, false, false] rfl rfl (by kernel_rfl) (fun _ _ _ h => h) (Or.inl ⟨by rfl, ?_⟩) hHeld ?_ ?_
      rotate_left
      · rintro w' ⟨s0, s1, s2, s3, s4⟩
        go_simp
        with_reducible rfl
      rotate_left
      · simp only [Act.put, List.setIfInBounds_toArray, List.set_cons_zero, List.set_cons_succ, i64_w, i32_w]
        rfl
      refine take_ (i := 5) (N := some 23) (v := ?_) (a' := ?_) #[true, true, true, true, true, true, true, false, false, false, false, false, false, false, false] rfl rfl (by kernel_rfl) (fun _ _ _ h => h) (Or.inl ⟨by rfl, ?_⟩) hHeld ?_ ?_
      rotate_left
      · rintro w' ⟨s0, s1, s2, s3, s4⟩
        go_simp
        with_reducible rfl
      rotate_left
      · simp only [Act.put, List.setIfInBounds_toArray, List.set_cons_zero, List.set_cons_succ, i64_w, i32_w]
        rfl
      refine pure_ (i := 7) (N := some 25) (v := ?_) (a' := ?_) #[true, true, true, true, true, true, true, true, false, false, false, false, false, false, false] rfl rfl (by kernel_rfl) (fun _ _ _ h => h) (Or.inl ⟨by rfl, ?_⟩) ?_ ?_
      rotate_left
      · intro w'
        go_simp
        with_reducible rfl
      rotate_left
      · simp only [Act.put, List.setIfInBounds_toArray, List.set_cons_zero, List.set_cons_succ, i64_w, i32_w]
        rfl
      refine take_ (i := 8) (N := some 26) (v := ?_) (a' := ?_) #[true, true, true, true, true, true, true, true, true, false, false, false, false, false, false] rfl rfl (by kernel_rfl) (fun _ _ _ h => h) (Or.inl ⟨by rfl, ?_⟩) hHeld ?_ ?_
      rotate_left
      · rintro w' ⟨s0, s1, s2, s3, s4⟩
        go_simp
        with_reducible rfl
      rotate_left
      · simp only [Act.put, List.setIfInBounds_toArray, List.set_cons_zero, List.set_cons_succ, i64_w, i32_w]
        rfl
      refine pure_ (i := 9) (N := some 27) (v := ?_) (a' := ?_) #[true, true, true, true, true, true, true, true, true, true, false, false, false, false, false] rfl rfl (by kernel_rfl) (fun _ _ _ h => h) (Or.inl ⟨by rfl, ?_⟩) ?_ ?_
      rotate_left
      · intro w'
        go_simp
        with_reducible rfl
      rotate_left
      · simp only [Act.put, List.setIfInBounds_toArray, List.set_cons_zero, List.set_cons_succ, i64_w, i32_w]
        rfl
      refine take_ (i := 10) (N := some 28) (v := ?_) (a' := ?_) #[true, true, true, true, true, true, true, true, true, true, true, false, false, false, false] rfl rfl (by kernel_rfl) (fun _ _ _ h => h) (Or.inl ⟨by rfl, ?_⟩) hHeld ?_ ?_
      rotate_left
      · rintro w' ⟨s0, s1, s2, s3, s4⟩
        go_simp
        with_reducible rfl
      rotate_left
      · simp only [Act.put, List.setIfInBounds_toArray, List.set_cons_zero, List.set_cons_succ, i64_w, i32_w]
        rfl
      refine pure_ (i := 11) (N := some 29) (v := ?_) (a' := ?_) #[true, true, true, true, true, true, true, true, true, true, true, true, false, false, false] rfl rfl (by kernel_rfl) (fun _ _ _ h => h) (Or.inl ⟨by rfl, ?_⟩) ?_ ?_
      rotate_left
      · intro w'
        go_simp
        with_reducible rfl
      rotate_left
      · simp only [Act.put, List.setIfInBounds_toArray, List.set_cons_zero, List.set_cons_succ, i64_w, i32_w]
        rfl
      refine last_ (i := 12) (N := some 30) #[true, true, true, true, true, true, true, true, true, true, true, true, true, false, false] rfl rfl (by kernel_rfl) (by decide) (fun K hK => ?_)
      refine value_ (w1 := ?_) (v := ?_) (by rfl) rfl ?_ ?_
      rotate_left 2
      · go_simp
        constructor
        · rfl
        · rfl
      refine hK.out _ _ ?_
      clear hK K
      refine norm_ (a' := ?_) ?_ ?_
      rotate_left
      · show Act.put _ (some 30) _ = _
        simp only [Act.put, List.setIfInBounds_toArray, List.set_cons_zero, List.set_cons_succ, i64_w, i32_w]
        rfl
      refine last_ (i := 13) (N := some 31) #[true, true, true, true, true, true, true, true, true, true, true, true, true, true, false] rfl rfl (by kernel_rfl) (by decide) (fun K hK => ?_)
      refine Kd.R_append_step k51 (w0 := w) w.heap.size (by rfl) (.tmp 18) (.tmp 30) 36 51 (.agg #[(.string ⟨#[]⟩), (.string ⟨#[]⟩)]) 32 rfl Try.underlying36 info51 rfl (by decide) (by omega) u5 ((pickOf axes at_).take k) (⟨ax.f0, sv⟩ : S51) [.string ax.f0, .string sv] (fun _ => True) (fun _ => False) rfl rfl (k51_mkM _ _ _ _) (fun _ h => h.elim) (fun _ _ => trivial) HO.out HB.out HB.out.size (by rw [List.length_take]; have := h8.out; omega) ?_
      intro v1 w3 ho1 hb1 hg1 hat1
      refine hK.out _ _ ?_
      clear hK K
      refine norm_ (a' := ?_) ?_ ?_
      rotate_left
      · show Act.put _ (some 31) _ = _
        simp only [Act.put, List.setIfInBounds_toArray, List.set_cons_zero, List.set_cons_succ, i64_w, i32_w]
        rfl
      refine pure_ (i := 14) (N := some 5) (v := ?_) (a' := ?_) #[true, true, true, true, true, true, true, true, true, true, true, true, true, true, true] rfl rfl (by kernel_rfl) (fun _ _ _ h => h) (Or.inl ⟨by rfl, ?_⟩) ?_ ?_
      rotate_left
      · intro w'
        go_simp
        with_reducible rfl
      rotate_left
      · simp only [Act.put, List.setIfInBounds_toArray, List.set_cons_zero, List.set_cons_succ, i64_w, i32_w]
        rfl
      refine done_ (by kernel_rfl) ?_
      have HR1 := Aside0.mk (show Kd.R k51 51 w3 w.heap.size (fun _ => True) v1 ((pickOf axes at_).take (k + 1)) by rw [HTK.out]; exact ho1)
      have HB1 := Aside0.mk hb1
      clear ho1 hb1 hg1 hat1 HO HB HX HTK
      go_wp2
      go_roundw
      case rel => exact ⟨k + 1, by omega, by go_num, HR1.out, HB1.out⟩
      case measure => simp [intOf]; omega
    · have HO1 : Aside0 (Kd.R k51 51 wr w.heap.size (fun _ => True) u5 (pickOf axes at_)) := ⟨by have := HO0.out; rwa [List.take_of_length_le (by rw [pickOf_length _ _ HL.out]; omega)] at this⟩
      have HC0 := Aside0.mk (show CarryRel w s A c axes at_ u5 (.int .i64 ((axes.length : Int) - 1)) wr from
        ⟨axes.length, Nat.le_refl _, rfl, by rw [carried_full _ _ HL.out]; exact HP0.out, by have := runOver_end (lens axes) at_ (by rw [lens_length]; exact HL.out); rwa [lens_length] at this, HO1.out, hbw.mono (by omega), Kept.of_below hbw _⟩)
      have hb2 : wr.cell? ⟨s + 1 + 1, 0, none⟩ = some (.slice (some ⟨s + 1, 0, none⟩) axes.length axes.length) := (blk_cell HP0.out.box 0).trans rfl
      obtain ⟨wo, rfl⟩ : ∃ wo : World, wo = wr := ⟨_, rfl⟩
      clear ho hbw HO0 HP0 HO1 HB0
      go_wp2
      go_loopw [8] (fun i wr => CarryRel w s A c axes at_ u5 i wr) (fun i _ => (intOf i + 1).toNat)
      case atStart => exact HC0.out
      case round =>
        clear hb2 HC0
        obtain ⟨j, hj, rfl, hp, hrun, ho, hbs, hkp⟩ := hrel
        have HP0 := Aside0.mk hp
        have HRun := Aside0.mk hrun
        have HO0 := Aside0.mk ho
        have HBS := Aside0.mk hbs
        have HKP := Aside0.mk hkp
        have hb2 : wr.cell? ⟨s + 1 + 1, 0, none⟩ = some (.slice (some ⟨s + 1, 0, none⟩) axes.length axes.length) := (blk_cell hp.box 0).trans rfl
        have hb0 : wr.cell? ⟨s, 0, none⟩ = some (.slice A axes.length c) := (blk_cell hp.axes 0).trans rfl
        have hb3 : wr.cell? ⟨s + 1 + 1 + 1, 0, none⟩ = some (.bool true) := (blk_cell hp.left 0).trans rfl
        have hf3 := blk_frozen hp.left 0
        rcases Nat.eq_zero_or_pos j with hj0 | hj0
        · subst hj0
          have e8 : ((0 : Nat) : Int) - 1 = -1 := by omega
          rw [e8]
          clear hp hrun ho hbs hkp e8
          have HF := Aside0.mk (fun nq : Nat => carry_done_all (u := nq) HL.out HP0.out HRun.out HO0.out HBS.out HKP.out)
          have hd : decide ((0 : Int) ≤ -1) = false := by decide
          go_wp2
          go_quiet (fail)
          go_wp2
          go_ret2
          exact ⟨_, rfl, HF.out _⟩
        · obtain ⟨m, rfl⟩ : ∃ m, j = m + 1 := ⟨j - 1, by omega⟩
          have e8 : ((m + 1 : Nat) : Int) - 1 = (m : Int) := by omega
          rw [e8]
          obtain ⟨ad, A0, c0, e, hx, hx1, hle, hi⟩ := at_T46 (HR.out wr hbs) (m : Int) (by omega) (by omega)
          subst e
          have hlm : m < axes.length := by omega
          obtain ⟨d, hdd⟩ : ∃ d, d = at_.getD m 0 := ⟨_, rfl⟩
          have hd := HV.out m hlm
          obtain ⟨ln, hln⟩ : ∃ ln, ln = (rd_T46 axes (m : Int)).f1.length := ⟨_, rfl⟩
          have hlenk : (lens axes).getD m 0 = ln := by rw [hln]; simp [lens, rd_T46, hlm]
          rw [← hln] at hx1
          rw [hlenk, ← hdd] at hd
          have hx3 := hp.at_cell m (by simp [carried]; have := HL.out; omega)
          rw [carried_at at_ m (by have := HL.out; omega), ← hdd] at hx3
          replace hx1 : wr.cell? ⟨(ad.add (m * 2)).block, (ad.add (m * 2)).off + 1, none⟩ = _ := hx1
          have hf1 := blk_frozen hp.row m
          have HLK := Aside0.mk hlenk
          have HDD := Aside0.mk hdd
          have hlnc : ln ≤ c0 := by rw [hln]; exact hle
          have hln63 : ln ≤ 9223372036854775807 := by rw [hln]; exact hi.2.1
          have hd63 : d < 9223372036854775807 := by omega
          clear hp hrun ho hbs hkp e8 hi hle hln hlenk hdd hx
          by_cases hmax : d + 1 = ln
          · have ht : ((d : Int) == (ln : Int) - 1) = true := by rw [beq_iff_eq]; omega
            have HM := Aside0.mk hmax
            clear hmax
            have h0m : (0 : Int) ≤ (m : Int) := by omega
            have HF := Aside0.mk (fun nq : Nat => carry_step (u := nq) HL.out HP0.out HRun.out HO0.out HBS.out HKP.out (by omega) (by rw [HLK.out, ← HDD.out]; exact HM.out))
            go_wp2
            go_quiet (fail)
            go_wp2
            go_roundw
            case rel => exact ⟨m, by omega, rfl, (HF.out nq).1, (HF.out nq).2.1, (HF.out nq).2.2.1, (HF.out nq).2.2.2.1, (HF.out nq).2.2.2.2⟩
            case measure => simp [intOf]
          · have ht : ((d : Int) == (ln : Int) - 1) = false := by rw [beq_eq_false_iff_ne]; omega
            have HM := Aside0.mk hmax
            clear hmax
            have h0m : (0 : Int) ≤ (m : Int) := by omega
            have HF := Aside0.mk (fun nq : Nat => carry_done (u := nq) HL.out HP0.out HRun.out HO0.out HBS.out HKP.out (by omega) (by rw [HLK.out, ← HDD.out]; exact HM.out) HDD.out)
            go_wp2
            go_quiet (fail)
            go_wp2
            go_ret2
            exact ⟨_, rfl, HF.out nq⟩
end Go.Proofs.Ytdgllnaeookddaa.Q
