/- What the reader's bare does. -/
import Derived.Test.YtmkfjjfdbaaknaaDoorJASRead
import Derived.BigQuiet
namespace Go.Proofs.YtmkfjjfdbaaknaaDoor.Q
open Go Go.RowKit Go.Shelf Go.Proofs.YtmkfjjfdbaaknaaDoorW.PrintWords Go.Proofs.YtmkfjjfdbaaknaaDoorW.PrintLast Go.Proofs.YtmkfjjfdbaaknaaDoorW.PrintMore
set_option linter.unusedVariables false
set_option linter.unusedSimpArgs false
set_option linter.unusedSectionVars false
def bareT (s : ByteArray) (i : Nat) : ByteArray := ⟨(Lib.trimRightB (Lib.cut (s.extract i s.size).data.toList [32, 35]).1 32).toArray⟩
def bareC (t : ByteArray) (c : CT) : CT := if t.toList = [91, 93] then { c with f4 := 1 } else if t.toList = [123, 125] then { c with f4 := 2 } else { c with f3 := t }
theorem cut_len (l p : List UInt8) : (Lib.cut l p).1.length ≤ l.length := by
  unfold Lib.cut
  split
  · show (l.take _).length ≤ l.length
    rw [List.length_take]
    exact Nat.min_le_right _ _
  · exact Nat.le_refl _
theorem cutR (s : ByteArray) (i : Nat) (hi : i ≤ s.size) (hs : s.size ≤ 1073741824) (m : Int) : ∃ (T U : ByteArray) (b : Bool), bareT s i = ⟨(Lib.trimRightB T.data.toList 32).toArray⟩ ∧ T.size ≤ 9223372036854775807 ∧
    ∀ w : World, w.cell? ⟨0, 0, none⟩ = some (.int .i64 m) → Calls Tryd.prog 52 #[.string (s.extract i s.size), .string ⟨#[32, 35]⟩] w fun e w' => e = .returned (.tuple #[.string T, .string U, .bool b]) ∧ ∃ n, w' = w.drewN n := by
  refine ⟨⟨(Lib.cut (s.extract i s.size).data.toList [32, 35]).1.toArray⟩, ⟨(Lib.cut (s.extract i s.size).data.toList [32, 35]).2.1.toArray⟩, (Lib.cut (s.extract i s.size).data.toList [32, 35]).2.2, rfl, ?_, fun w hm => Tryd.strings_Cut (s.extract i s.size) ⟨#[32, 35]⟩ m w (by rw [ByteArray.size_extract]; omega) hm⟩
  rw [Go.Lib.size_mk]
  refine Nat.le_trans (cut_len _ _) ?_
  rw [← Go.Lib.size_eq, ByteArray.size_extract]
  omega
set_option maxHeartbeats 1000000 in
set_option maxRecDepth 100000 in
theorem bare_any {w : World} {B : Nat} {s : ByteArray} {c : CT} (i : Nat) (h : Rd w B s (i : Int) c) (hi : i ≤ s.size) (hs : s.size ≤ 1073741824) (hgm : GM w) :
    Calls Tryd.prog 47 #[.pointer (some ⟨B, 0, none⟩)] w fun e w' => e = .returned (.tuple #[]) ∧ Rd w' B s (i : Int) (bareC (bareT s i) c) ∧ KB B w w' := by
  obtain ⟨m, hm⟩ := hgm
  have HM := Aside0.mk hm
  have HR0 := Aside0.mk h
  have hii : (0 : Int) ≤ (i : Int) := by omega
  have hii2 : (i : Int) ≤ (s.size : Int) := by omega
  obtain ⟨T, U, b, hT, hTs, hcut⟩ := cutR s i hi hs m
  have HT := Aside0.mk hT
  have HTS := Aside0.mk hTs
  have HCUT := Aside0.mk hcut
  clear hT hTs hcut
  have hc0 := h.c0
  have hc1 := h.c1
  clear h hm
  go_enter Tryd.func47, Tryd.ntmps47
  go_wp2
  have HM1 := Aside0.mk (show w.drew.cell? ⟨0, 0, none⟩ = some (.int .i64 m) from HM.out)
  have hd0 : w.drew.cell? ⟨B, 0, none⟩ = some (.string s) := hc0
  have hd1 : w.drew.cell? ⟨B, 1, none⟩ = some (.int .i64 (i : Int)) := hc1
  clear hc0 hc1
  refine start_ (n := 17) (S := fun w' => w'.cell? ⟨B, 0, none⟩ = some (.string s) ∧ w'.cell? ⟨B, 1, none⟩ = some (.int .i64 (i : Int))) (ds := [9]) #[false, false, false, false, false, false, false, false, false, false, false, false, false, false, false, false, false] (by kernel_rfl) rfl rfl ⟨hd0, hd1⟩ (fun hHeld => ?_)
  refine pure_ (i := 0) (N := some 6) (v := ?_) (a' := ?_) #[true, false, false, false, false, false, false, false, false, false, false, false, false, false, false, false, false] rfl rfl (by kernel_rfl) (fun _ _ _ h => h) (Or.inl ⟨by rfl, ?_⟩) ?_ ?_
  rotate_left
  · intro w'
    go_simp
    with_reducible rfl
  rotate_left
  · simp only [Act.put, List.setIfInBounds_toArray, List.set_cons_zero, List.set_cons_succ, i64_w, i32_w]
    rfl
  refine pure_ (i := 1) (N := some 7) (v := ?_) (a' := ?_) #[true, true, false, false, false, false, false, false, false, false, false, false, false, false, false, false, false] rfl rfl (by kernel_rfl) (fun _ _ _ h => h) (Or.inl ⟨by rfl, ?_⟩) ?_ ?_
  rotate_left
  · intro w'
    go_simp
    with_reducible rfl
  rotate_left
  · simp only [Act.put, List.setIfInBounds_toArray, List.set_cons_zero, List.set_cons_succ, i64_w, i32_w]
    rfl
  refine pure_ (i := 2) (N := some 8) (v := ?_) (a' := ?_) #[true, true, true, false, false, false, false, false, false, false, false, false, false, false, false, false, false] rfl rfl (by kernel_rfl) (fun _ _ _ h => h) (Or.inl ⟨by rfl, ?_⟩) ?_ ?_
  rotate_left
  · intro w'
    go_simp
    with_reducible rfl
  rotate_left
  · simp only [Act.put, List.setIfInBounds_toArray, List.set_cons_zero, List.set_cons_succ, i64_w, i32_w]
    rfl
  refine pure_ (i := 4) (N := some 10) (v := ?_) (a' := ?_) #[true, true, true, false, true, false, false, false, false, false, false, false, false, false, false, false, false] rfl rfl (by kernel_rfl) (fun _ _ _ h => h) (Or.inl ⟨by rfl, ?_⟩) ?_ ?_
  rotate_left
  · intro w'
    go_simp
    with_reducible rfl
  rotate_left
  · simp only [Act.put, List.setIfInBounds_toArray, List.set_cons_zero, List.set_cons_succ, i64_w, i32_w]
    rfl
  refine pure_ (i := 5) (N := some 11) (v := ?_) (a' := ?_) #[true, true, true, false, true, true, false, false, false, false, false, false, false, false, false, false, false] rfl rfl (by kernel_rfl) (fun _ _ _ h => h) (Or.inl ⟨by rfl, ?_⟩) ?_ ?_
  rotate_left
  · intro w'
    go_simp
    with_reducible rfl
  rotate_left
  · simp only [Act.put, List.setIfInBounds_toArray, List.set_cons_zero, List.set_cons_succ, i64_w, i32_w]
    rfl
  refine pure_ (i := 6) (N := some 12) (v := ?_) (a' := ?_) #[true, true, true, false, true, true, true, false, false, false, false, false, false, false, false, false, false] rfl rfl (by kernel_rfl) (fun _ _ _ h => h) (Or.inl ⟨by rfl, ?_⟩) ?_ ?_
  rotate_left
  · intro w'
    go_simp
    with_reducible rfl
  rotate_left
  · simp only [Act.put, List.setIfInBounds_toArray, List.set_cons_zero, List.set_cons_succ, i64_w, i32_w]
    rfl
  refine take_ (i := 3) (N := some 9) (v := ?_) (a' := ?_) #[true, true, true, true, true, true, true, false, false, false, false, false, false, false, false, false, false] rfl rfl (by kernel_rfl) (fun _ _ _ h => h) (Or.inl ⟨by rfl, ?_⟩) hHeld ?_ ?_
  rotate_left
  · rintro w' ⟨s0, s1⟩
    go_simp
    with_reducible rfl
  rotate_left
  · simp only [Act.put, List.setIfInBounds_toArray, List.set_cons_zero, List.set_cons_succ, i64_w, i32_w]
    rfl
  refine take_ (i := 7) (N := some 13) (v := ?_) (a' := ?_) #[true, true, true, true, true, true, true, true, false, false, false, false, false, false, false, false, false] rfl rfl (by kernel_rfl) (fun _ _ _ h => h) (Or.inl ⟨by rfl, ?_⟩) hHeld ?_ ?_
  rotate_left
  · rintro w' ⟨s0, s1⟩
    go_simp
    with_reducible rfl
  rotate_left
  · simp only [Act.put, List.setIfInBounds_toArray, List.set_cons_zero, List.set_cons_succ, i64_w, i32_w]
    rfl
  refine pure_ (i := 8) (N := some 14) (v := ?_) (a' := ?_) #[true, true, true, true, true, true, true, true, true, false, false, false, false, false, false, false, false] rfl rfl (by kernel_rfl) (fun _ _ _ h => h) (Or.inl ⟨by rfl, ?_⟩) ?_ ?_
  rotate_left
  · intro w'
    go_simp
    with_reducible rfl
  rotate_left
  · simp only [Act.put, List.setIfInBounds_toArray, List.set_cons_zero, List.set_cons_succ, i64_w, i32_w]
    rfl
  refine last_ (i := 9) (N := some 15) #[true, true, true, true, true, true, true, true, true, true, false, false, false, false, false, false, false] rfl rfl (by kernel_rfl) (by decide) (fun K hK => ?_)
  refine goes_ Tryd.func52 (by kernel_rfl) rfl #[.string (s.extract i s.size), .string ⟨#[32, 35]⟩] (by rfl) rfl rfl (by simp only [List.map_toArray, List.map_cons, List.map_nil]; rfl) ?_
  with_reducible refine (HCUT.out _ HM1.out).mono ?_
  rintro e w3 ⟨rfl, nd, rfl⟩
  refine ⟨_, rfl, ?_⟩
  refine hK.out _ _ ?_
  clear hK K
  refine norm_ (a' := ?_) ?_ ?_
  rotate_left
  · show Act.put _ (some 15) _ = _
    simp only [Act.put, List.setIfInBounds_toArray, List.set_cons_zero, List.set_cons_succ, i64_w, i32_w]
    rfl
  refine pure_ (i := 10) (N := some 5) (v := ?_) (a' := ?_) #[true, true, true, true, true, true, true, true, true, true, true, false, false, false, false, false, false] rfl rfl (by kernel_rfl) (fun _ _ _ h => h) (Or.inl ⟨by rfl, ?_⟩) ?_ ?_
  rotate_left
  · intro w'
    go_simp
    with_reducible rfl
  rotate_left
  · simp only [Act.put, List.setIfInBounds_toArray, List.set_cons_zero, List.set_cons_succ, i64_w, i32_w]
    rfl
  refine pure_ (i := 11) (N := some 16) (v := ?_) (a' := ?_) #[true, true, true, true, true, true, true, true, true, true, true, true, false, false, false, false, false] rfl rfl (by kernel_rfl) (fun _ _ _ h => h) (Or.inl ⟨by rfl, ?_⟩) ?_ ?_
  rotate_left
  · intro w'
    go_simp
    with_reducible rfl
  rotate_left
  · simp only [Act.put, List.setIfInBounds_toArray, List.set_cons_zero, List.set_cons_succ, i64_w, i32_w]
    rfl
  refine pure_ (i := 12) (N := some 17) (v := ?_) (a' := ?_) #[true, true, true, true, true, true, true, true, true, true, true, true, true, false, false, false, false] rfl rfl (by kernel_rfl) (fun _ _ _ h => h) (Or.inl ⟨by rfl, ?_⟩) ?_ ?_
  rotate_left
  · intro w'
    go_simp
    with_reducible rfl
  rotate_left
  · simp only [Act.put, List.setIfInBounds_toArray, List.set_cons_zero, List.set_cons_succ, i64_w, i32_w]
    rfl
  refine pure_ (i := 13) (N := some 18) (v := ?_) (a' := ?_) #[true, true, true, true, true, true, true, true, true, true, true, true, true, true, false, false, false] rfl rfl (by kernel_rfl) (fun _ _ _ h => h) (Or.inl ⟨by rfl, ?_⟩) ?_ ?_
  rotate_left
  · intro w'
    go_simp
    with_reducible rfl
  rotate_left
  · simp only [Act.put, List.setIfInBounds_toArray, List.set_cons_zero, List.set_cons_succ, i64_w, i32_w]
    rfl
  refine pure_ (i := 14) (N := some 2) (v := ?_) (a' := ?_) #[true, true, true, true, true, true, true, true, true, true, true, true, true, true, true, false, false] rfl rfl (by kernel_rfl) (fun _ _ _ h => h) (Or.inl ⟨by rfl, ?_⟩) ?_ ?_
  rotate_left
  · intro w'
    go_simp
    with_reducible rfl
  rotate_left
  · simp only [Act.put, List.setIfInBounds_toArray, List.set_cons_zero, List.set_cons_succ, i64_w, i32_w]
    rfl
  refine pure_ (i := 15) (N := some 3) (v := ?_) (a' := ?_) #[true, true, true, true, true, true, true, true, true, true, true, true, true, true, true, true, false] rfl rfl (by kernel_rfl) (fun _ _ _ h => h) (Or.inl ⟨by rfl, ?_⟩) ?_ ?_
  rotate_left
  · intro w'
    go_simp
    with_reducible rfl
  rotate_left
  · simp only [Act.put, List.setIfInBounds_toArray, List.set_cons_zero, List.set_cons_succ, i64_w, i32_w]
    rfl
  refine pure_ (i := 16) (N := some 4) (v := ?_) (a' := ?_) #[true, true, true, true, true, true, true, true, true, true, true, true, true, true, true, true, true] rfl rfl (by kernel_rfl) (fun _ _ _ h => h) (Or.inl ⟨by rfl, ?_⟩) ?_ ?_
  rotate_left
  · intro w'
    go_simp
    with_reducible rfl
  rotate_left
  · simp only [Act.put, List.setIfInBounds_toArray, List.set_cons_zero, List.set_cons_succ, i64_w, i32_w]
    rfl
  refine done_ (by kernel_rfl) ?_
  have HK1 := Aside0.mk (KB.drewN B w (1 + nd))
  have HR1 := Aside0.mk (show Rd (w.drew.drewN nd) B s (i : Int) c from HR0.out)
  have HKB := Aside0.mk (show KB B w (w.drew.drewN nd) from ⟨rfl, rfl, rfl, Nat.le_refl _, fun _ _ _ => rfl⟩)
  clear hHeld hd0 hd1
  generalize w.drew.drewN nd = w3 at HR1 HKB ⊢
  generalize htt : (⟨(Lib.trimRightB T.data.toList 32).toArray⟩ : ByteArray) = tt at HT
  have hf5 := blk_frozen HR1.out 5
  have hf6 := blk_frozen HR1.out 6
  have hcall := fun w' : World => Tryd.strings_TrimRight_one T 32 (by decide) w' HTS.out
  rw [htt] at hcall
  have HCALL := Aside0.mk hcall
  clear hcall htt
  by_cases h1 : tt.toList = [91, 93]
  · have h1' : (tt.toList == [91, 93]) = true := beq_iff_eq.mpr h1
    have hc5 := blk_cell HR1.out 5
    have hc6 := blk_cell HR1.out 6
    have HB := Aside0.mk (show bareC tt c = { c with f4 := 1 } from if_pos h1)
    go_wp2_with (go_at_call 53; refine (HCALL.out _).mono ?_; rintro e w4 ⟨rfl, rfl⟩)
    go_end0
    exact ⟨rfl, by rw [HT.out, HB.out]; exact blk_put HR1.out 6 _ rfl, HKB.out.setCell _ _⟩
  · have h1' : (tt.toList == [91, 93]) = false := beq_eq_false_iff_ne.mpr h1
    by_cases h2 : tt.toList = [123, 125]
    · have h2' : (tt.toList == [123, 125]) = true := beq_iff_eq.mpr h2
      have hc5 := blk_cell HR1.out 5
      have hc6 := blk_cell HR1.out 6
      have HB := Aside0.mk (show bareC tt c = { c with f4 := 2 } from (if_neg h1).trans (if_pos h2))
      go_wp2_with (go_at_call 53; refine (HCALL.out _).mono ?_; rintro e w4 ⟨rfl, rfl⟩)
      go_end0
      exact ⟨rfl, by rw [HT.out, HB.out]; exact blk_put HR1.out 6 _ rfl, HKB.out.setCell _ _⟩
    · have h2' : (tt.toList == [123, 125]) = false := beq_eq_false_iff_ne.mpr h2
      have hc5 := blk_cell HR1.out 5
      have hc6 := blk_cell HR1.out 6
      have HB := Aside0.mk (show bareC tt c = { c with f3 := tt } from (if_neg h1).trans (if_neg h2))
      go_wp2_with (go_at_call 53; refine (HCALL.out _).mono ?_; rintro e w4 ⟨rfl, rfl⟩)
      go_end0
      exact ⟨rfl, by rw [HT.out, HB.out]; exact blk_put HR1.out 5 _ rfl, HKB.out.setCell _ _⟩
end Go.Proofs.YtmkfjjfdbaaknaaDoor.Q
