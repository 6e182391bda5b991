/- What stands behind a node's key or sign: says, its closures, its map. -/
import Derived.Test.YtofajjodonhdkaaEAKOf
import Derived.Test.YtofajjodonhdkaaEAKIMap
import Derived.Test.YtofajjodonhdkaaEAKWrite
import Derived.Test.YtofajjodonhdkaaEAQ2
import Derived.WalkMore
namespace Go.Proofs.Ytofajjodonhdkaa.Q
open Go Go.RowKit Go.Shelf Go.Proofs.YtofajjodonhdkaaW.PrintWords Go.Proofs.YtofajjodonhdkaaW.PrintLast Go.Proofs.YtofajjodonhdkaaW.PrintMore Go.Proofs.Ytofajjodonhdkaa.IMap
set_option linter.unusedVariables false
set_option linter.unusedSimpArgs false
set_option linter.unusedSectionVars false
def endFrom (t : List SN) (d : Int) : Nat → Nat → Nat
  | 0, n => n
  | k + 1, n => if d < (nd t n).f1 then endFrom t d k (n + 1) else n
/-- The place behind a node and all that is in it. -/
def endOf (t : List SN) (i : Nat) : Nat := endFrom t (nd t i).f1 (t.length - (i + 1)) (i + 1)
theorem endFrom_le (t : List SN) (d : Int) : ∀ k n, n ≤ endFrom t d k n ∧ endFrom t d k n ≤ n + k
  | 0, n => ⟨Nat.le_refl _, Nat.le_refl _⟩
  | k + 1, n => by
    unfold endFrom
    split
    · have := endFrom_le t d k (n + 1)
      omega
    · omega
theorem endL (t : List SN) (i : Nat) (hi : i < t.length) (hn : t.length ≤ 1048576) : ∀ (k n : Nat), n + k = t.length → i < n → Ev (fun j => parts_End.l0 j t (i : Int) (n : Int)) (endFrom t (nd t i).f1 k n : Int)
  | 0, n, h, hl => by
    refine Ev.step (fun j => by rw [parts_End.l0, if_neg (by omega)]) ?_
    exact Ev.now _
  | k + 1, n, h, hl => by
    refine Ev.step (fun j => by rw [parts_End.l0, if_pos (by omega), if_pos (by omega), if_pos (by omega), if_pos (by omega), wrN n (by omega)]) ?_
    unfold endFrom
    by_cases hd : (nd t i).f1 < (nd t n).f1
    · rw [if_pos hd]
      exact Ev.congr (fun j => if_pos hd) (endL t i hi hn k (n + 1) (by omega) (by omega))
    · rw [if_neg hd]
      exact Ev.congr (fun j => if_neg hd) (Ev.now _)
theorem end_ev (t : List SN) (i : Nat) (hi : i < t.length) (hn : t.length ≤ 1048576) : Ev (fun j => parts_End.f j t (i : Int)) (endOf t i : Int) := by
  refine Ev.congr (f := fun j => parts_End.l0 j t (i : Int) ((i + 1 : Nat) : Int)) (fun j => ?_) (endL t i hi hn (t.length - (i + 1)) (i + 1) (by omega) (by omega))
  rw [parts_End.f, wrN i (by omega)]
def keyU (s : ByteArray) : List UInt8 := if nameB s = true then s.data.toList else writeU s.data.toList
def valueU (s : ByteArray) : List UInt8 := if plainB s = true then s.data.toList else writeU s.data.toList
theorem key_any (s : ByteArray) (hs : s.size ≤ 1073741824) (w : World) : Calls Try.prog 31 #[.string s] w fun e w' => e = .returned (.string (mkB (keyU s))) ∧ Below w.heap.size w w' := by
  obtain ⟨k, hk⟩ := (key_evB s hs).rounds
  have e : (if nameB s = true then s else mkB (writeU s.data.toList)) = mkB (keyU s) := by unfold keyU; split <;> rfl
  rw [e] at hk
  exact scalar_Key.calls k s _ w hk
theorem value_any (s : ByteArray) (hs : s.size ≤ 1073741824) (w : World) (hgm : GM w) : Calls Try.prog 48 #[.string s] w fun e w' => e = .returned (.string (mkB (valueU s))) ∧ Below w.heap.size w w' := by
  obtain ⟨k, hk⟩ := (value_evB s hs).rounds
  have e : (if plainB s = true then s else mkB (writeU s.data.toList)) = mkB (valueU s) := by unfold valueU; split <;> rfl
  rw [e] at hk
  exact scalar_Value.calls k s _ w hgm hk
theorem valueU_len (s : ByteArray) : (valueU s).length ≤ 4 * s.size + 2 := by
  unfold valueU
  split
  · rw [Array.length_toList]; show s.size ≤ _; omega
  · have := (flat_len s.data.toList).2
    have e : s.data.toList.length = s.size := by rw [Array.length_toList]; rfl
    unfold writeU
    rw [List.length_cons, List.length_append, List.length_singleton]
    omega
/-- What the writer at b shows of the list, in world W; boxes wb and ab hold the writer's pointer and the node's number. -/
structure SaysAt (b wb ab : Nat) (A : Option Addr) (c : Nat) (t : List SN) (i : Nat) (W : World) : Prop where
  hw : W.heap[wb]? = some (.cells #[.pointer (some ⟨b, 0, none⟩)] 37 (0, 0))
  ha : W.heap[ab]? = some (.cells #[.int .i64 (i : Int)] 3 (0, 0))
  hb : W.cell? ⟨b, 0, none⟩ = some (.slice A t.length c)
  hC : Kd.C k31 W A t.length t
theorem SaysAt.drewN {b wb ab : Nat} {A : Option Addr} {c : Nat} {t : List SN} {i : Nat} {W : World} (h : SaysAt b wb ab A c t i W) (m : Nat) : SaysAt b wb ab A c t i (W.drewN m) := ⟨h.hw, h.ha, h.hb, Kd.C_drewN h.hC m⟩
theorem says11_any (b wb ab tb : Nat) (A : Option Addr) (c : Nat) (t : List SN) (i : Nat) (x : ByteArray) (W : World) (hS : SaysAt b wb ab A c t i W) (hi : i < t.length) (hn : t.length ≤ 1048576) (hc : t.length ≤ c) (ht : W.heap[tb]? = some (.cells #[.string x] 9 (0, 0))) :
    Calls Try.prog 45 #[.pointer (some ⟨wb, 0, none⟩), .pointer (some ⟨ab, 0, none⟩), .pointer (some ⟨tb, 0, none⟩)] W fun e W' => e = .returned (.string (if endOf t i > i + 1 then ⟨#[]⟩ else x)) ∧ ∃ m, W' = W.drewN m := by
  have c0 : W.cell? ⟨wb, 0, none⟩ = some (.pointer (some ⟨b, 0, none⟩)) := blk_cell hS.hw 0
  have c1 : W.cell? ⟨ab, 0, none⟩ = some (.int .i64 (i : Int)) := blk_cell hS.ha 0
  have c2 : W.cell? ⟨tb, 0, none⟩ = some (.string x) := blk_cell ht 0
  have c3 := hS.hb
  have HC := Aside0.mk hS.hC
  obtain ⟨k, hk⟩ := (end_ev t i hi hn).rounds
  have HK := Aside0.mk hk
  have hl := endFrom_le t (nd t i).f1 (t.length - (i + 1)) (i + 1)
  have hle : endOf t i ≤ t.length := by unfold endOf; omega
  have HI := Aside0.mk hi
  have hib : (i : Int) + 1 ≤ 1048576 := by omega
  have hw3 : IntKind.i64.wrap ((i : Int) + 1) = (i : Int) + 1 := by rw [IntKind.wrap_i64]; omega
  have hcq : ∀ n, Calls Try.prog 46 #[.slice A t.length c, .int .i64 (i : Int)] (W.drewN n) fun e w'' => e = .returned (.int .i64 (endOf t i : Int)) ∧ ∃ m, w'' = W.drewN m := fun n => by
    refine Calls.quiet_of ?_
    refine (parts_End.calls k A c t _ _ _ (Kd.C_drewN HC.out n) hc HK.out).mono ?_
    rintro e w' ⟨rfl, hd⟩
    exact ⟨rfl, hd.1⟩
  have HCQ := Aside0.mk hcq
  clear hcq hk hl hS ht hi
  generalize endOf t i = en at HK HCQ hle ⊢
  by_cases he : en > i + 1
  · rw [if_pos he]
    have hb1 : decide ((i : Int) + 1 < (en : Int)) = true := decide_eq_true (by omega)
    go_enter Try.func45, Try.ntmps45
    go_wp2
    go_quiet ((go_at_call 46; exact HCQ.out _))
    go_wp2
    go_ret
    exact ⟨rfl, _, rfl⟩
  · rw [if_neg he]
    have hb1 : decide ((i : Int) + 1 < (en : Int)) = false := decide_eq_false (by omega)
    go_enter Try.func45, Try.ntmps45
    go_wp2
    go_quiet ((go_at_call 46; exact HCQ.out _))
    go_wp2
    go_ret
    exact ⟨rfl, _, rfl⟩
theorem says1_any (b wb ab : Nat) (x : ByteArray) (W : World) :
    Calls Try.prog 44 #[.string x, .pointer (some ⟨wb, 0, none⟩), .pointer (some ⟨ab, 0, none⟩)] W fun e W' => e = .returned (.func (.func 45) #[] #[.pointer (some ⟨wb, 0, none⟩), .pointer (some ⟨ab, 0, none⟩), .pointer (some ⟨W.heap.size, 0, none⟩)]) ∧ W' = W.alloc (.cells #[.string x] 9) := by
  have hmf : ∀ (fn : Fn) (first cap : Array Value) (w : World), (Instr.makeFunc fn first cap).run Try.prog w = .ok (.func fn first cap) w := fun _ _ _ _ => rfl
  go_enter Try.func44, Try.ntmps44
  go_wp2
  go_ret
  exact ⟨rfl, rfl⟩
set_option maxRecDepth 100000 in
theorem says2_any (b wb ab : Nat) (A : Option Addr) (c : Nat) (t : List SN) (i : Nat) (W : World) (hS : SaysAt b wb ab A c t i W) (hi : i < t.length) (hx : (nd t i).f3.size ≤ 1073741824) (hgm : GM W) :
    Calls Try.prog 47 #[.pointer (some ⟨wb, 0, none⟩), .pointer (some ⟨ab, 0, none⟩)] W fun e W' => e = .returned (.string (mkB (32 :: valueU (nd t i).f3))) ∧ Below W.heap.size W W' := by
  have c0 : W.cell? ⟨wb, 0, none⟩ = some (.pointer (some ⟨b, 0, none⟩)) := blk_cell hS.hw 0
  have c1 : W.cell? ⟨ab, 0, none⟩ = some (.int .i64 (i : Int)) := blk_cell hS.ha 0
  have c3 := hS.hb
  obtain ⟨ad, he, -, -, -, hT, -⟩ := at_T31 hS.hC (i : Int) (by omega) (by omega)
  subst he
  have hT' : W.cell? ⟨(ad.add (i * 8)).block, (ad.add (i * 8)).off + 3, none⟩ = some (.string (nd t i).f3) := hT
  clear hT hS
  have hil : (i : Int) < (t.length : Int) := by omega
  have HX := Aside0.mk hx
  have HGM := Aside0.mk (show GM W.drew from hgm)
  have hl := valueU_len (nd t i).f3
  have hsz : ¬ 9223372036854775807 < 1 + (mkB (valueU (nd t i).f3)).size := by rw [mkB_size]; omega
  have e : (⟨#[32]⟩ : ByteArray) ++ mkB (valueU (nd t i).f3) = mkB (32 :: valueU (nd t i).f3) := by
    apply ByteArray.ext
    apply Array.toList_inj.1
    rw [ByteArray.data_append, Array.toList_append]
    rfl
  have HE := Aside0.mk e
  clear e hl hgm
  generalize (nd t i).f3 = x at HX hT' HE hsz ⊢
  go_enter Try.func47, Try.ntmps47
  go_wp2
  refine start_ (n := 11) (S := fun w' => w'.cell? ⟨wb, 0, none⟩ = some (.pointer (some ⟨b, 0, none⟩)) ∧ w'.cell? ⟨ab, 0, none⟩ = some (.int .i64 (i : Int)) ∧ w'.cell? ⟨b, 0, none⟩ = some (.slice (some ad) t.length c) ∧ w'.cell? ⟨(ad.add (i * 8)).block, (ad.add (i * 8)).off + 3, none⟩ = some (.string x)) (ds := [8]) #[false, false, false, false, false, false, false, false, false, false, false] (by kernel_rfl) rfl rfl ⟨c0, c1, c3, hT'⟩ (fun hHeld => ?_)
  refine take_ (i := 0) (N := some 3) (v := ?_) (a' := ?_) #[true, false, false, false, false, false, false, false, false, false, false] rfl rfl (by kernel_rfl) (fun _ _ _ h => h) (Or.inl ⟨by rfl, ?_⟩) hHeld ?_ ?_
  rotate_left
  · rintro w' ⟨s0, s1, s2, s3⟩
    go_simp
    with_reducible rfl
  rotate_left
  · simp only [Act.put, List.setIfInBounds_toArray, List.set_cons_zero, List.set_cons_succ, i64_w, i32_w]
    rfl
  refine pure_ (i := 1) (N := some 4) (v := ?_) (a' := ?_) #[true, true, false, false, false, false, false, false, false, false, false] rfl rfl (by kernel_rfl) (fun _ _ _ h => h) (Or.inl ⟨by rfl, ?_⟩) ?_ ?_
  rotate_left
  · intro w'
    go_simp
    with_reducible rfl
  rotate_left
  · simp only [Act.put, List.setIfInBounds_toArray, List.set_cons_zero, List.set_cons_succ, i64_w, i32_w]
    rfl
  refine pure_ (i := 2) (N := some 5) (v := ?_) (a' := ?_) #[true, true, true, false, false, false, false, false, false, false, false] rfl rfl (by kernel_rfl) (fun _ _ _ h => h) (Or.inl ⟨by rfl, ?_⟩) ?_ ?_
  rotate_left
  · intro w'
    go_simp
    with_reducible rfl
  rotate_left
  · simp only [Act.put, List.setIfInBounds_toArray, List.set_cons_zero, List.set_cons_succ, i64_w, i32_w]
    rfl
  refine take_ (i := 3) (N := some 6) (v := ?_) (a' := ?_) #[true, true, true, true, false, false, false, false, false, false, false] rfl rfl (by kernel_rfl) (fun _ _ _ h => h) (Or.inl ⟨by rfl, ?_⟩) hHeld ?_ ?_
  rotate_left
  · rintro w' ⟨s0, s1, s2, s3⟩
    go_simp
    with_reducible rfl
  rotate_left
  · simp only [Act.put, List.setIfInBounds_toArray, List.set_cons_zero, List.set_cons_succ, i64_w, i32_w]
    rfl
  refine take_ (i := 4) (N := some 7) (v := ?_) (a' := ?_) #[true, true, true, true, true, false, false, false, false, false, false] rfl rfl (by kernel_rfl) (fun _ _ _ h => h) (Or.inl ⟨by rfl, ?_⟩) hHeld ?_ ?_
  rotate_left
  · rintro w' ⟨s0, s1, s2, s3⟩
    go_simp
    with_reducible rfl
  rotate_left
  · simp only [Act.put, List.setIfInBounds_toArray, List.set_cons_zero, List.set_cons_succ, i64_w, i32_w]
    rfl
  refine pure_ (i := 5) (N := some 8) (v := ?_) (a' := ?_) #[true, true, true, true, true, true, false, false, false, false, false] rfl rfl (by kernel_rfl) (fun _ _ _ h => h) (Or.inl ⟨by rfl, ?_⟩) ?_ ?_
  rotate_left
  · intro w'
    go_simp
    with_reducible rfl
  rotate_left
  · simp only [Act.put, List.setIfInBounds_toArray, List.set_cons_zero, List.set_cons_succ, i64_w, i32_w]
    rfl
  refine pure_ (i := 6) (N := some 9) (v := ?_) (a' := ?_) #[true, true, true, true, true, true, true, false, false, false, false] rfl rfl (by kernel_rfl) (fun _ _ _ h => h) (Or.inl ⟨by rfl, ?_⟩) ?_ ?_
  rotate_left
  · intro w'
    go_simp
    with_reducible rfl
  rotate_left
  · simp only [Act.put, List.setIfInBounds_toArray, List.set_cons_zero, List.set_cons_succ, i64_w, i32_w]
    rfl
  refine take_ (i := 7) (N := some 10) (v := ?_) (a' := ?_) #[true, true, true, true, true, true, true, true, false, false, false] rfl rfl (by kernel_rfl) (fun _ _ _ h => h) (Or.inl ⟨by rfl, ?_⟩) hHeld ?_ ?_
  rotate_left
  · rintro w' ⟨s0, s1, s2, s3⟩
    go_simp
    with_reducible rfl
  rotate_left
  · simp only [Act.put, List.setIfInBounds_toArray, List.set_cons_zero, List.set_cons_succ, i64_w, i32_w]
    rfl
  refine last_ (i := 8) (N := some 11) #[true, true, true, true, true, true, true, true, true, false, false] rfl rfl (by kernel_rfl) (by decide) (fun K hK => ?_)
  refine goes_ Try.func48 (by kernel_rfl) rfl #[.string x] (by rfl) rfl rfl (by simp only [List.map_toArray, List.map_cons, List.map_nil]; rfl) ?_
  with_reducible refine (value_any x HX.out _ HGM.out).mono ?_
  rintro e w3 ⟨rfl, hb1⟩
  refine ⟨_, rfl, ?_⟩
  have HB1 := Aside0.mk (show Below W.heap.size W w3 from (show Below W.heap.size W W.drew from (Below.refl _ _).drew).trans hb1)
  clear hb1
  refine hK.out _ _ ?_
  clear hK K
  refine norm_ (a' := ?_) ?_ ?_
  rotate_left
  · show Act.put _ (some 11) _ = _
    simp only [Act.put, List.setIfInBounds_toArray, List.set_cons_zero, List.set_cons_succ, i64_w, i32_w]
    rfl
  refine pure_ (i := 9) (N := some 12) (v := ?_) (a' := ?_) #[true, true, true, true, true, true, true, true, true, true, false] rfl rfl (by kernel_rfl) (fun _ _ _ h => h) (Or.inl ⟨by rfl, ?_⟩) ?_ ?_
  rotate_left
  · intro w'
    go_simp
    with_reducible rfl
  rotate_left
  · simp only [Act.put, List.setIfInBounds_toArray, List.set_cons_zero, List.set_cons_succ, i64_w, i32_w]
    rfl
  refine pure_ (i := 10) (N := some 2) (v := ?_) (a' := ?_) #[true, true, true, true, true, true, true, true, true, true, true] rfl rfl (by kernel_rfl) (fun _ _ _ h => h) (Or.inl ⟨by rfl, ?_⟩) ?_ ?_
  rotate_left
  · intro w'
    go_simp
    with_reducible rfl
  rotate_left
  · simp only [Act.put, List.setIfInBounds_toArray, List.set_cons_zero, List.set_cons_succ, i64_w, i32_w]
    rfl
  refine done_ (by kernel_rfl) ?_
  go_wp2
  go_ret
  exact ⟨congrArg (fun s => Ending.returned (.string s)) HE.out, HB1.out⟩
end Go.Proofs.Ytofajjodonhdkaa.Q
