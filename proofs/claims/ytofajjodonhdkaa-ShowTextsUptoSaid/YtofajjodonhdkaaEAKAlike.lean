/- Are two lists of nodes alike but for their places: Alike of package show. -/
import Derived.Test.YtofajjodonhdkaaEAKOf
import Derived.WalkMore
namespace Go.Proofs.Ytofajjodonhdkaa.Q
open Go Go.RowKit Go.Shelf Go.Proofs.YtofajjodonhdkaaW.PrintWords Go.Proofs.YtofajjodonhdkaaW.PrintLast Go.Proofs.YtofajjodonhdkaaW.PrintMore
set_option linter.unusedVariables false
set_option linter.unusedSimpArgs false
set_option linter.unusedSectionVars false
def likeN (x y : SN) : Bool := decide (x.f0 = y.f0) && (decide (x.f1 = y.f1) && ((x.f2.toList == y.f2.toList) && (x.f3.toList == y.f3.toList)))
def alikeB : List SN → List SN → Bool
  | [], [] => true
  | x :: r, y :: s => likeN x y && alikeB r s
  | _, _ => false
theorem alike_len : ∀ a b : List SN, a.length ≠ b.length → alikeB a b = false
  | [], [], h => absurd rfl h
  | [], y :: s, _ => rfl
  | x :: r, [], _ => rfl
  | x :: r, y :: s, h => by
    unfold alikeB
    rw [alike_len r s (by simpa using h), Bool.and_false]
theorem alike_drop (a b : List SN) (k : Nat) (ha : k < a.length) (hb : k < b.length) : alikeB (a.drop k) (b.drop k) = (likeN (nd a k) (nd b k) && alikeB (a.drop (k + 1)) (b.drop (k + 1))) := by
  rw [List.drop_eq_getElem_cons ha, List.drop_eq_getElem_cons hb, nd_at a k ha, nd_at b k hb]
  rfl
def z8 : Array Value := #[.int .i64 0, .int .i64 0, .string ⟨#[]⟩, .string ⟨#[]⟩, .string ⟨#[]⟩, .int .i64 0, .int .i64 0, .int .i64 0]
/-- Two boxes, in whatever order they were made. -/
structure AF (W : World) (s : Nat × Nat) (w' : World) : Prop where
  ne : s.1 ≠ s.2
  lo1 : W.heap.size ≤ s.1
  lo2 : W.heap.size ≤ s.2
  h1 : w'.heap[s.1]? = some (.cells z8 31 (0, 0))
  h2 : w'.heap[s.2]? = some (.cells z8 31 (0, 0))
  bel : Below W.heap.size W w'
theorem AF.one (W : World) : AF W (W.heap.size, W.heap.size + 1) ((W.drew.alloc (.cells z8 31)).alloc (.cells z8 31)) := by
  refine ⟨by simp, Nat.le_refl _, Nat.le_succ _, blk_alloc (blk_new W.drew _) _, ?_, below_alloc (below_alloc ((Below.refl _ _).drew) _) _⟩
  have := blk_new (W.drew.alloc (.cells z8 31)) (.cells z8 31)
  rw [World.size_alloc] at this
  exact this
theorem AF.two (W : World) : AF W (W.heap.size + 1, W.heap.size) ((W.drew.alloc (.cells z8 31)).alloc (.cells z8 31)) := by
  have h := AF.one W
  exact ⟨fun e => h.ne e.symm, h.lo2, h.lo1, h.h2, h.h1, h.bel⟩
theorem ret_boolA {a b : Bool} (h : a = b) : Ending.returned (.bool a) = .returned (.bool b) := by rw [h]
set_option maxRecDepth 100000 in
set_option maxHeartbeats 4000000 in
theorem alike_any (A B : Option Addr) (c e : Nat) (a b : List SN) (w : World) (ha : Kd.C k31 w A a.length a) (hc : a.length ≤ c) (hb : Kd.C k31 w B b.length b) (he : b.length ≤ e) (hn : a.length ≤ 1099511627776) :
    Calls Try.prog 12 #[.slice A a.length c, .slice B b.length e] w fun en w' => en = .returned (.bool (alikeB a b)) ∧ Below w.heap.size w w' := by
  have HA := Aside0.mk ha
  have HB := Aside0.mk hb
  by_cases hl : a.length = b.length
  case neg =>
    have hres : alikeB a b = false := alike_len a b hl
    have hl' : ((a.length : Int) != (b.length : Int)) = true := by simp; omega
    rw [hres]
    clear ha hb hl hres
    go_enter Try.func12, Try.ntmps12
    go_wp2
    go_ret
    exact ⟨rfl, Below.refl _ _⟩
  have hl' : ((a.length : Int) != (b.length : Int)) = false := by rw [hl]; simp
  have HL := Aside0.mk hl
  clear ha hb hl
  go_enter Try.func12, Try.ntmps12
  go_wp2
  go_loopw [15] (fun i wr => ∃ k : Nat, i = .int .i64 k ∧ k ≤ a.length ∧ alikeB (a.drop k) (b.drop k) = alikeB a b ∧ Below w.heap.size w wr) (fun i _ => a.length - (intOf i).toNat)
  case atStart => exact ⟨0, rfl, Nat.zero_le _, rfl, Below.refl _ _⟩
  case round =>
    obtain ⟨k, rfl, hk, hrest, hbw⟩ := hrel
    have HREST := Aside0.mk hrest
    have HBW := Aside0.mk hbw
    have hCa := Kd.C_below HA.out hbw
    have hCb := Kd.C_below HB.out hbw
    clear hrest hbw
    by_cases hlt : k < a.length
    · have hltb : k < b.length := by have := HL.out; omega
      have hlt1 : (k : Int) < (a.length : Int) := by omega
      have hlt2 : (k : Int) < (b.length : Int) := by omega
      obtain ⟨ad, h1, a0, a1, a2, a3, a4, a5, a6, a7⟩ := at_T31 hCa (k : Int) (by omega) (by omega)
      obtain ⟨bd, h2, b0, b1, b2, b3, b4, b5, b6, b7⟩ := at_T31 hCb (k : Int) (by omega) (by omega)
      subst h1 h2
      rw [show ((k : Int).toNat) = k from rfl] at a0 a1 a2 a3 a4 a5 a6 a7 b0 b1 b2 b3 b4 b5 b6 b7
      obtain ⟨x, hx⟩ : ∃ x, x = nd a k := ⟨_, rfl⟩
      obtain ⟨y, hy⟩ : ∃ y, y = nd b k := ⟨_, rfl⟩
      rw [show rd_T31 a (k : Int) = x from hx.symm] at a0 a1 a2 a3 a4 a5 a6 a7
      rw [show rd_T31 b (k : Int) = y from hy.symm] at b0 b1 b2 b3 b4 b5 b6 b7
      have HSTEP := Aside0.mk (show alikeB a b = (likeN x y && alikeB (a.drop (k + 1)) (b.drop (k + 1))) by rw [← HREST.out, alike_drop a b k hlt hltb, hx, hy])
      clear hx hy hCa hCb
      go_wp2
      refine start_ (n := 12) (S := fun w' => w'.cell? (ad.add (k * 8)) = some (.int .i64 x.f0) ∧ w'.cell? ⟨(ad.add (k * 8)).block, (ad.add (k * 8)).off + 1, none⟩ = some (.int .i64 x.f1) ∧ w'.cell? ⟨(ad.add (k * 8)).block, (ad.add (k * 8)).off + 2, none⟩ = some (.string x.f2) ∧ w'.cell? ⟨(ad.add (k * 8)).block, (ad.add (k * 8)).off + 3, none⟩ = some (.string x.f3) ∧ w'.cell? ⟨(ad.add (k * 8)).block, (ad.add (k * 8)).off + 4, none⟩ = some (.string x.f4) ∧ w'.cell? ⟨(ad.add (k * 8)).block, (ad.add (k * 8)).off + 5, none⟩ = some (.int .i64 x.f5) ∧ w'.cell? ⟨(ad.add (k * 8)).block, (ad.add (k * 8)).off + 6, none⟩ = some (.int .i64 x.f6) ∧ w'.cell? ⟨(ad.add (k * 8)).block, (ad.add (k * 8)).off + 7, none⟩ = some (.int .i64 x.f7) ∧ w'.cell? (bd.add (k * 8)) = some (.int .i64 y.f0) ∧ w'.cell? ⟨(bd.add (k * 8)).block, (bd.add (k * 8)).off + 1, none⟩ = some (.int .i64 y.f1) ∧ w'.cell? ⟨(bd.add (k * 8)).block, (bd.add (k * 8)).off + 2, none⟩ = some (.string y.f2) ∧ w'.cell? ⟨(bd.add (k * 8)).block, (bd.add (k * 8)).off + 3, none⟩ = some (.string y.f3) ∧ w'.cell? ⟨(bd.add (k * 8)).block, (bd.add (k * 8)).off + 4, none⟩ = some (.string y.f4) ∧ w'.cell? ⟨(bd.add (k * 8)).block, (bd.add (k * 8)).off + 5, none⟩ = some (.int .i64 y.f5) ∧ w'.cell? ⟨(bd.add (k * 8)).block, (bd.add (k * 8)).off + 6, none⟩ = some (.int .i64 y.f6) ∧ w'.cell? ⟨(bd.add (k * 8)).block, (bd.add (k * 8)).off + 7, none⟩ = some (.int .i64 y.f7)) (ds := [11]) #[false, false, false, false, false, false, false, false, false, false, false, false] (by kernel_rfl) rfl rfl ⟨a0, a1, a2, a3, a4, a5, a6, a7, b0, b1, b2, b3, b4, b5, b6, b7⟩ (fun hHeld => ?_)
      refine pure_ (i := 0) (N := some 18) (v := ?_) (a' := ?_) #[true, false, false, false, false, false, false, false, false, false, false, false] rfl rfl (by kernel_rfl) (fun _ _ _ h => h) (Or.inl ⟨by rfl, ?_⟩) ?_ ?_
      rotate_left
      · intro w'
        go_simp
        with_reducible rfl
      rotate_left
      · simp only [Act.put, List.setIfInBounds_toArray, List.set_cons_zero, List.set_cons_succ, i64_w, i32_w]
        rfl
      refine pure_ (i := 1) (N := some 19) (v := ?_) (a' := ?_) #[true, true, false, false, false, false, false, false, false, false, false, false] rfl rfl (by kernel_rfl) (fun _ _ _ h => h) (Or.inl ⟨by rfl, ?_⟩) ?_ ?_
      rotate_left
      · intro w'
        go_simp
        with_reducible rfl
      rotate_left
      · simp only [Act.put, List.setIfInBounds_toArray, List.set_cons_zero, List.set_cons_succ, i64_w, i32_w]
        rfl
      refine pure_ (i := 2) (N := some 20) (v := ?_) (a' := ?_) #[true, true, true, false, false, false, false, false, false, false, false, false] rfl rfl (by kernel_rfl) (fun _ _ _ h => h) (Or.inl ⟨by rfl, ?_⟩) ?_ ?_
      rotate_left
      · intro w'
        go_simp
        with_reducible rfl
      rotate_left
      · simp only [Act.put, List.setIfInBounds_toArray, List.set_cons_zero, List.set_cons_succ, i64_w, i32_w]
        rfl
      refine pure_ (i := 4) (N := some 22) (v := ?_) (a' := ?_) #[true, true, true, false, true, false, false, false, false, false, false, false] rfl rfl (by kernel_rfl) (fun _ _ _ h => h) (Or.inl ⟨by rfl, ?_⟩) ?_ ?_
      rotate_left
      · intro w'
        go_simp
        with_reducible rfl
      rotate_left
      · simp only [Act.put, List.setIfInBounds_toArray, List.set_cons_zero, List.set_cons_succ, i64_w, i32_w]
        rfl
      refine pure_ (i := 5) (N := some 23) (v := ?_) (a' := ?_) #[true, true, true, false, true, true, false, false, false, false, false, false] rfl rfl (by kernel_rfl) (fun _ _ _ h => h) (Or.inl ⟨by rfl, ?_⟩) ?_ ?_
      rotate_left
      · intro w'
        go_simp
        with_reducible rfl
      rotate_left
      · simp only [Act.put, List.setIfInBounds_toArray, List.set_cons_zero, List.set_cons_succ, i64_w, i32_w]
        rfl
      refine pure_ (i := 6) (N := some 24) (v := ?_) (a' := ?_) #[true, true, true, false, true, true, true, false, false, false, false, false] rfl rfl (by kernel_rfl) (fun _ _ _ h => h) (Or.inl ⟨by rfl, ?_⟩) ?_ ?_
      rotate_left
      · intro w'
        go_simp
        with_reducible rfl
      rotate_left
      · simp only [Act.put, List.setIfInBounds_toArray, List.set_cons_zero, List.set_cons_succ, i64_w, i32_w]
        rfl
      refine take_ (i := 3) (N := some 21) (v := ?_) (a' := ?_) #[true, true, true, true, true, true, true, false, false, false, false, false] rfl rfl (by kernel_rfl) (fun _ _ _ h => h) (Or.inl ⟨by rfl, ?_⟩) hHeld ?_ ?_
      rotate_left
      · rintro w' ⟨s0, s1, s2, s3, s4, s5, s6, s7, s8, s9, s10, s11, s12, s13, s14, s15⟩
        go_simp
        with_reducible rfl
      rotate_left
      · simp only [Act.put, List.setIfInBounds_toArray, List.set_cons_zero, List.set_cons_succ, i64_w, i32_w]
        rfl
      refine take_ (i := 7) (N := some 25) (v := ?_) (a' := ?_) #[true, true, true, true, true, true, true, true, false, false, false, false] rfl rfl (by kernel_rfl) (fun _ _ _ h => h) (Or.inl ⟨by rfl, ?_⟩) hHeld ?_ ?_
      rotate_left
      · rintro w' ⟨s0, s1, s2, s3, s4, s5, s6, s7, s8, s9, s10, s11, s12, s13, s14, s15⟩
        go_simp
        with_reducible rfl
      rotate_left
      · simp only [Act.put, List.setIfInBounds_toArray, List.set_cons_zero, List.set_cons_succ, i64_w, i32_w]
        rfl
      refine join_ (σ := Nat × Nat) 2 #[true, true, true, true, true, true, true, true, true, true, false, false] (fun s => [(6, .pointer (some ⟨s.1, 0, none⟩)), (7, .pointer (some ⟨s.2, 0, none⟩))]) (fun s w' => AF wr s w') ?_ ?_
      rotate_left
      · intro hCont
        refine two_ (i := 8) (j := 9) (Ni := some 6) (Nj := some 7) #[true, true, true, true, true, true, true, true, true, false, false, false] #[true, true, true, true, true, true, true, true, false, true, false, false] rfl rfl rfl rfl (by kernel_rfl) (by decide) (by decide) (fun K hK => ?_) (fun K hK => ?_)
        · skip
          refine value_ (w1 := ?_) (v := ?_) (by rfl) rfl ?_ ?_
          rotate_left 2
          · go_simp
            constructor
            · rfl
            · rfl
          refine hK.out _ _ ⟨pw_cell_below (below_alloc (Below.refl _ _) _) hHeld.1, pw_cell_below (below_alloc (Below.refl _ _) _) hHeld.2.1, pw_cell_below (below_alloc (Below.refl _ _) _) hHeld.2.2.1, pw_cell_below (below_alloc (Below.refl _ _) _) hHeld.2.2.2.1, pw_cell_below (below_alloc (Below.refl _ _) _) hHeld.2.2.2.2.1, pw_cell_below (below_alloc (Below.refl _ _) _) hHeld.2.2.2.2.2.1, pw_cell_below (below_alloc (Below.refl _ _) _) hHeld.2.2.2.2.2.2.1, pw_cell_below (below_alloc (Below.refl _ _) _) hHeld.2.2.2.2.2.2.2.1, pw_cell_below (below_alloc (Below.refl _ _) _) hHeld.2.2.2.2.2.2.2.2.1, pw_cell_below (below_alloc (Below.refl _ _) _) hHeld.2.2.2.2.2.2.2.2.2.1, pw_cell_below (below_alloc (Below.refl _ _) _) hHeld.2.2.2.2.2.2.2.2.2.2.1, pw_cell_below (below_alloc (Below.refl _ _) _) hHeld.2.2.2.2.2.2.2.2.2.2.2.1, pw_cell_below (below_alloc (Below.refl _ _) _) hHeld.2.2.2.2.2.2.2.2.2.2.2.2.1, pw_cell_below (below_alloc (Below.refl _ _) _) hHeld.2.2.2.2.2.2.2.2.2.2.2.2.2.1, pw_cell_below (below_alloc (Below.refl _ _) _) hHeld.2.2.2.2.2.2.2.2.2.2.2.2.2.2.1, pw_cell_below (below_alloc (Below.refl _ _) _) hHeld.2.2.2.2.2.2.2.2.2.2.2.2.2.2.2⟩ (fun hHeld => ?_)
          clear hK K
          refine norm_ (a' := ?_) ?_ ?_
          rotate_left
          · show Act.put _ (some 6) _ = _
            simp only [Act.put, List.setIfInBounds_toArray, List.set_cons_zero, List.set_cons_succ, i64_w, i32_w]
            rfl
          refine one_ (i := 9) (N := some 7) #[true, true, true, true, true, true, true, true, true, true, false, false] rfl rfl (by kernel_rfl) (by decide) (fun K hK => ?_)
          refine value_ (w1 := ?_) (v := ?_) (by rfl) rfl ?_ ?_
          rotate_left 2
          · go_simp
            constructor
            · rfl
            · rfl
          refine hK.out _ _ ⟨pw_cell_below (below_alloc (Below.refl _ _) _) hHeld.1, pw_cell_below (below_alloc (Below.refl _ _) _) hHeld.2.1, pw_cell_below (below_alloc (Below.refl _ _) _) hHeld.2.2.1, pw_cell_below (below_alloc (Below.refl _ _) _) hHeld.2.2.2.1, pw_cell_below (below_alloc (Below.refl _ _) _) hHeld.2.2.2.2.1, pw_cell_below (below_alloc (Below.refl _ _) _) hHeld.2.2.2.2.2.1, pw_cell_below (below_alloc (Below.refl _ _) _) hHeld.2.2.2.2.2.2.1, pw_cell_below (below_alloc (Below.refl _ _) _) hHeld.2.2.2.2.2.2.2.1, pw_cell_below (below_alloc (Below.refl _ _) _) hHeld.2.2.2.2.2.2.2.2.1, pw_cell_below (below_alloc (Below.refl _ _) _) hHeld.2.2.2.2.2.2.2.2.2.1, pw_cell_below (below_alloc (Below.refl _ _) _) hHeld.2.2.2.2.2.2.2.2.2.2.1, pw_cell_below (below_alloc (Below.refl _ _) _) hHeld.2.2.2.2.2.2.2.2.2.2.2.1, pw_cell_below (below_alloc (Below.refl _ _) _) hHeld.2.2.2.2.2.2.2.2.2.2.2.2.1, pw_cell_below (below_alloc (Below.refl _ _) _) hHeld.2.2.2.2.2.2.2.2.2.2.2.2.2.1, pw_cell_below (below_alloc (Below.refl _ _) _) hHeld.2.2.2.2.2.2.2.2.2.2.2.2.2.2.1, pw_cell_below (below_alloc (Below.refl _ _) _) hHeld.2.2.2.2.2.2.2.2.2.2.2.2.2.2.2⟩ (fun hHeld => ?_)
          clear hK K
          refine norm_ (a' := ?_) ?_ ?_
          rotate_left
          · show Act.put _ (some 7) _ = _
            simp only [Act.put, List.setIfInBounds_toArray, List.set_cons_zero, List.set_cons_succ, i64_w, i32_w]
            rfl
          exact norm_ (by simp only [putAll, Act.put, List.setIfInBounds_toArray, List.set_cons_zero, List.set_cons_succ]) (hCont (wr.heap.size, wr.heap.size + 1) _ (AF.one wr))
        · skip
          refine value_ (w1 := ?_) (v := ?_) (by rfl) rfl ?_ ?_
          rotate_left 2
          · go_simp
            constructor
            · rfl
            · rfl
          refine hK.out _ _ ⟨pw_cell_below (below_alloc (Below.refl _ _) _) hHeld.1, pw_cell_below (below_alloc (Below.refl _ _) _) hHeld.2.1, pw_cell_below (below_alloc (Below.refl _ _) _) hHeld.2.2.1, pw_cell_below (below_alloc (Below.refl _ _) _) hHeld.2.2.2.1, pw_cell_below (below_alloc (Below.refl _ _) _) hHeld.2.2.2.2.1, pw_cell_below (below_alloc (Below.refl _ _) _) hHeld.2.2.2.2.2.1, pw_cell_below (below_alloc (Below.refl _ _) _) hHeld.2.2.2.2.2.2.1, pw_cell_below (below_alloc (Below.refl _ _) _) hHeld.2.2.2.2.2.2.2.1, pw_cell_below (below_alloc (Below.refl _ _) _) hHeld.2.2.2.2.2.2.2.2.1, pw_cell_below (below_alloc (Below.refl _ _) _) hHeld.2.2.2.2.2.2.2.2.2.1, pw_cell_below (below_alloc (Below.refl _ _) _) hHeld.2.2.2.2.2.2.2.2.2.2.1, pw_cell_below (below_alloc (Below.refl _ _) _) hHeld.2.2.2.2.2.2.2.2.2.2.2.1, pw_cell_below (below_alloc (Below.refl _ _) _) hHeld.2.2.2.2.2.2.2.2.2.2.2.2.1, pw_cell_below (below_alloc (Below.refl _ _) _) hHeld.2.2.2.2.2.2.2.2.2.2.2.2.2.1, pw_cell_below (below_alloc (Below.refl _ _) _) hHeld.2.2.2.2.2.2.2.2.2.2.2.2.2.2.1, pw_cell_below (below_alloc (Below.refl _ _) _) hHeld.2.2.2.2.2.2.2.2.2.2.2.2.2.2.2⟩ (fun hHeld => ?_)
          clear hK K
          refine norm_ (a' := ?_) ?_ ?_
          rotate_left
          · show Act.put _ (some 7) _ = _
            simp only [Act.put, List.setIfInBounds_toArray, List.set_cons_zero, List.set_cons_succ, i64_w, i32_w]
            rfl
          refine one_ (i := 8) (N := some 6) #[true, true, true, true, true, true, true, true, true, true, false, false] rfl rfl (by kernel_rfl) (by decide) (fun K hK => ?_)
          refine value_ (w1 := ?_) (v := ?_) (by rfl) rfl ?_ ?_
          rotate_left 2
          · go_simp
            constructor
            · rfl
            · rfl
          refine hK.out _ _ ⟨pw_cell_below (below_alloc (Below.refl _ _) _) hHeld.1, pw_cell_below (below_alloc (Below.refl _ _) _) hHeld.2.1, pw_cell_below (below_alloc (Below.refl _ _) _) hHeld.2.2.1, pw_cell_below (below_alloc (Below.refl _ _) _) hHeld.2.2.2.1, pw_cell_below (below_alloc (Below.refl _ _) _) hHeld.2.2.2.2.1, pw_cell_below (below_alloc (Below.refl _ _) _) hHeld.2.2.2.2.2.1, pw_cell_below (below_alloc (Below.refl _ _) _) hHeld.2.2.2.2.2.2.1, pw_cell_below (below_alloc (Below.refl _ _) _) hHeld.2.2.2.2.2.2.2.1, pw_cell_below (below_alloc (Below.refl _ _) _) hHeld.2.2.2.2.2.2.2.2.1, pw_cell_below (below_alloc (Below.refl _ _) _) hHeld.2.2.2.2.2.2.2.2.2.1, pw_cell_below (below_alloc (Below.refl _ _) _) hHeld.2.2.2.2.2.2.2.2.2.2.1, pw_cell_below (below_alloc (Below.refl _ _) _) hHeld.2.2.2.2.2.2.2.2.2.2.2.1, pw_cell_below (below_alloc (Below.refl _ _) _) hHeld.2.2.2.2.2.2.2.2.2.2.2.2.1, pw_cell_below (below_alloc (Below.refl _ _) _) hHeld.2.2.2.2.2.2.2.2.2.2.2.2.2.1, pw_cell_below (below_alloc (Below.refl _ _) _) hHeld.2.2.2.2.2.2.2.2.2.2.2.2.2.2.1, pw_cell_below (below_alloc (Below.refl _ _) _) hHeld.2.2.2.2.2.2.2.2.2.2.2.2.2.2.2⟩ (fun hHeld => ?_)
          clear hK K
          refine norm_ (a' := ?_) ?_ ?_
          rotate_left
          · show Act.put _ (some 6) _ = _
            simp only [Act.put, List.setIfInBounds_toArray, List.set_cons_zero, List.set_cons_succ, i64_w, i32_w]
            rfl
          exact norm_ (by simp only [putAll, Act.put, List.setIfInBounds_toArray, List.set_cons_zero, List.set_cons_succ]) (hCont (wr.heap.size + 1, wr.heap.size) _ (AF.two wr))
      rintro ⟨s1, s2⟩ w5 hAF
      have hne1 : ¬ s1 = s2 := hAF.ne
      have hne2 : ¬ s2 = s1 := fun e => hAF.ne e.symm
      have p10 : w5.cell? ⟨s1, 0, none⟩ = some (.int .i64 0) := blk_cell hAF.h1 0
      have q10 : w5.frozen? ⟨s1, 0, none⟩ = false := blk_frozen hAF.h1 0
      have p11 : w5.cell? ⟨s1, 1, none⟩ = some (.int .i64 0) := blk_cell hAF.h1 1
      have q11 : w5.frozen? ⟨s1, 1, none⟩ = false := blk_frozen hAF.h1 1
      have p12 : w5.cell? ⟨s1, 2, none⟩ = some (.string ⟨#[]⟩) := blk_cell hAF.h1 2
      have q12 : w5.frozen? ⟨s1, 2, none⟩ = false := blk_frozen hAF.h1 2
      have p13 : w5.cell? ⟨s1, 3, none⟩ = some (.string ⟨#[]⟩) := blk_cell hAF.h1 3
      have q13 : w5.frozen? ⟨s1, 3, none⟩ = false := blk_frozen hAF.h1 3
      have p14 : w5.cell? ⟨s1, 4, none⟩ = some (.string ⟨#[]⟩) := blk_cell hAF.h1 4
      have q14 : w5.frozen? ⟨s1, 4, none⟩ = false := blk_frozen hAF.h1 4
      have p15 : w5.cell? ⟨s1, 5, none⟩ = some (.int .i64 0) := blk_cell hAF.h1 5
      have q15 : w5.frozen? ⟨s1, 5, none⟩ = false := blk_frozen hAF.h1 5
      have p16 : w5.cell? ⟨s1, 6, none⟩ = some (.int .i64 0) := blk_cell hAF.h1 6
      have q16 : w5.frozen? ⟨s1, 6, none⟩ = false := blk_frozen hAF.h1 6
      have p17 : w5.cell? ⟨s1, 7, none⟩ = some (.int .i64 0) := blk_cell hAF.h1 7
      have q17 : w5.frozen? ⟨s1, 7, none⟩ = false := blk_frozen hAF.h1 7
      have p20 : w5.cell? ⟨s2, 0, none⟩ = some (.int .i64 0) := blk_cell hAF.h2 0
      have q20 : w5.frozen? ⟨s2, 0, none⟩ = false := blk_frozen hAF.h2 0
      have p21 : w5.cell? ⟨s2, 1, none⟩ = some (.int .i64 0) := blk_cell hAF.h2 1
      have q21 : w5.frozen? ⟨s2, 1, none⟩ = false := blk_frozen hAF.h2 1
      have p22 : w5.cell? ⟨s2, 2, none⟩ = some (.string ⟨#[]⟩) := blk_cell hAF.h2 2
      have q22 : w5.frozen? ⟨s2, 2, none⟩ = false := blk_frozen hAF.h2 2
      have p23 : w5.cell? ⟨s2, 3, none⟩ = some (.string ⟨#[]⟩) := blk_cell hAF.h2 3
      have q23 : w5.frozen? ⟨s2, 3, none⟩ = false := blk_frozen hAF.h2 3
      have p24 : w5.cell? ⟨s2, 4, none⟩ = some (.string ⟨#[]⟩) := blk_cell hAF.h2 4
      have q24 : w5.frozen? ⟨s2, 4, none⟩ = false := blk_frozen hAF.h2 4
      have p25 : w5.cell? ⟨s2, 5, none⟩ = some (.int .i64 0) := blk_cell hAF.h2 5
      have q25 : w5.frozen? ⟨s2, 5, none⟩ = false := blk_frozen hAF.h2 5
      have p26 : w5.cell? ⟨s2, 6, none⟩ = some (.int .i64 0) := blk_cell hAF.h2 6
      have q26 : w5.frozen? ⟨s2, 6, none⟩ = false := blk_frozen hAF.h2 6
      have p27 : w5.cell? ⟨s2, 7, none⟩ = some (.int .i64 0) := blk_cell hAF.h2 7
      have q27 : w5.frozen? ⟨s2, 7, none⟩ = false := blk_frozen hAF.h2 7
      have hHeld : w5.cell? (ad.add (k * 8)) = some (.int .i64 x.f0) ∧ w5.cell? ⟨(ad.add (k * 8)).block, (ad.add (k * 8)).off + 1, none⟩ = some (.int .i64 x.f1) ∧ w5.cell? ⟨(ad.add (k * 8)).block, (ad.add (k * 8)).off + 2, none⟩ = some (.string x.f2) ∧ w5.cell? ⟨(ad.add (k * 8)).block, (ad.add (k * 8)).off + 3, none⟩ = some (.string x.f3) ∧ w5.cell? ⟨(ad.add (k * 8)).block, (ad.add (k * 8)).off + 4, none⟩ = some (.string x.f4) ∧ w5.cell? ⟨(ad.add (k * 8)).block, (ad.add (k * 8)).off + 5, none⟩ = some (.int .i64 x.f5) ∧ w5.cell? ⟨(ad.add (k * 8)).block, (ad.add (k * 8)).off + 6, none⟩ = some (.int .i64 x.f6) ∧ w5.cell? ⟨(ad.add (k * 8)).block, (ad.add (k * 8)).off + 7, none⟩ = some (.int .i64 x.f7) ∧ w5.cell? (bd.add (k * 8)) = some (.int .i64 y.f0) ∧ w5.cell? ⟨(bd.add (k * 8)).block, (bd.add (k * 8)).off + 1, none⟩ = some (.int .i64 y.f1) ∧ w5.cell? ⟨(bd.add (k * 8)).block, (bd.add (k * 8)).off + 2, none⟩ = some (.string y.f2) ∧ w5.cell? ⟨(bd.add (k * 8)).block, (bd.add (k * 8)).off + 3, none⟩ = some (.string y.f3) ∧ w5.cell? ⟨(bd.add (k * 8)).block, (bd.add (k * 8)).off + 4, none⟩ = some (.string y.f4) ∧ w5.cell? ⟨(bd.add (k * 8)).block, (bd.add (k * 8)).off + 5, none⟩ = some (.int .i64 y.f5) ∧ w5.cell? ⟨(bd.add (k * 8)).block, (bd.add (k * 8)).off + 6, none⟩ = some (.int .i64 y.f6) ∧ w5.cell? ⟨(bd.add (k * 8)).block, (bd.add (k * 8)).off + 7, none⟩ = some (.int .i64 y.f7) := ⟨pw_cell_below hAF.bel a0, pw_cell_below hAF.bel a1, pw_cell_below hAF.bel a2, pw_cell_below hAF.bel a3, pw_cell_below hAF.bel a4, pw_cell_below hAF.bel a5, pw_cell_below hAF.bel a6, pw_cell_below hAF.bel a7, pw_cell_below hAF.bel b0, pw_cell_below hAF.bel b1, pw_cell_below hAF.bel b2, pw_cell_below hAF.bel b3, pw_cell_below hAF.bel b4, pw_cell_below hAF.bel b5, pw_cell_below hAF.bel b6, pw_cell_below hAF.bel b7⟩
      have HAF := Aside0.mk hAF
      clear hAF
      refine norm_ (a' := ?_) ?_ ?_
      rotate_left
      · simp only [putAll, Act.put, List.setIfInBounds_toArray, List.set_cons_zero, List.set_cons_succ]
        rfl
      refine one_ (i := 10) (N := none) #[true, true, true, true, true, true, true, true, true, true, true, false] rfl rfl (by kernel_rfl) (by decide) (fun K hK => ?_)
      refine skip_ (w1 := ?_) (by rfl) rfl ?_ ?_
      rotate_left
      · go_simp
        rfl
      have hb10 := ((((((((HAF.out.bel.setCell (p := ⟨s1, 0, none⟩) HAF.out.lo1 (.int .i64 x.f0)).setCell (p := ⟨s1, 1, none⟩) HAF.out.lo1 (.int .i64 x.f1)).setCell (p := ⟨s1, 2, none⟩) HAF.out.lo1 (.string x.f2)).setCell (p := ⟨s1, 3, none⟩) HAF.out.lo1 (.string x.f3)).setCell (p := ⟨s1, 4, none⟩) HAF.out.lo1 (.string x.f4)).setCell (p := ⟨s1, 5, none⟩) HAF.out.lo1 (.int .i64 x.f5)).setCell (p := ⟨s1, 6, none⟩) HAF.out.lo1 (.int .i64 x.f6)).setCell (p := ⟨s1, 7, none⟩) HAF.out.lo1 (.int .i64 x.f7))
      refine hK.out _ _ ⟨pw_cell_below hb10 a0, pw_cell_below hb10 a1, pw_cell_below hb10 a2, pw_cell_below hb10 a3, pw_cell_below hb10 a4, pw_cell_below hb10 a5, pw_cell_below hb10 a6, pw_cell_below hb10 a7, pw_cell_below hb10 b0, pw_cell_below hb10 b1, pw_cell_below hb10 b2, pw_cell_below hb10 b3, pw_cell_below hb10 b4, pw_cell_below hb10 b5, pw_cell_below hb10 b6, pw_cell_below hb10 b7⟩ (fun hHeld => ?_)
      clear hK K
      have K1 : ((((((((w5.setCell ⟨s1, 0, none⟩ (.int .i64 x.f0)).setCell ⟨s1, 1, none⟩ (.int .i64 x.f1)).setCell ⟨s1, 2, none⟩ (.string x.f2)).setCell ⟨s1, 3, none⟩ (.string x.f3)).setCell ⟨s1, 4, none⟩ (.string x.f4)).setCell ⟨s1, 5, none⟩ (.int .i64 x.f5)).setCell ⟨s1, 6, none⟩ (.int .i64 x.f6)).setCell ⟨s1, 7, none⟩ (.int .i64 x.f7)).heap[s1]? = some (.cells #[.int .i64 x.f0, .int .i64 x.f1, .string x.f2, .string x.f3, .string x.f4, .int .i64 x.f5, .int .i64 x.f6, .int .i64 x.f7] 31 (0, 0)) := (blk_put (blk_put (blk_put (blk_put (blk_put (blk_put (blk_put (blk_put HAF.out.h1 0 _ rfl) 1 _ rfl) 2 _ rfl) 3 _ rfl) 4 _ rfl) 5 _ rfl) 6 _ rfl) 7 _ rfl)
      have K2 : ((((((((w5.setCell ⟨s1, 0, none⟩ (.int .i64 x.f0)).setCell ⟨s1, 1, none⟩ (.int .i64 x.f1)).setCell ⟨s1, 2, none⟩ (.string x.f2)).setCell ⟨s1, 3, none⟩ (.string x.f3)).setCell ⟨s1, 4, none⟩ (.string x.f4)).setCell ⟨s1, 5, none⟩ (.int .i64 x.f5)).setCell ⟨s1, 6, none⟩ (.int .i64 x.f6)).setCell ⟨s1, 7, none⟩ (.int .i64 x.f7)).heap[s2]? = some (.cells z8 31 (0, 0)) := (blk_far (p := ⟨s1, 7, none⟩) (blk_far (p := ⟨s1, 6, none⟩) (blk_far (p := ⟨s1, 5, none⟩) (blk_far (p := ⟨s1, 4, none⟩) (blk_far (p := ⟨s1, 3, none⟩) (blk_far (p := ⟨s1, 2, none⟩) (blk_far (p := ⟨s1, 1, none⟩) (blk_far (p := ⟨s1, 0, none⟩) HAF.out.h2 hne2 _) hne2 _) hne2 _) hne2 _) hne2 _) hne2 _) hne2 _) hne2 _)
      clear p10 p11 p12 p13 p14 p15 p16 p17 q10 q11 q12 q13 q14 q15 q16 q17 p20 p21 p22 p23 p24 p25 p26 p27 q20 q21 q22 q23 q24 q25 q26 q27
      generalize ((((((((w5.setCell ⟨s1, 0, none⟩ (.int .i64 x.f0)).setCell ⟨s1, 1, none⟩ (.int .i64 x.f1)).setCell ⟨s1, 2, none⟩ (.string x.f2)).setCell ⟨s1, 3, none⟩ (.string x.f3)).setCell ⟨s1, 4, none⟩ (.string x.f4)).setCell ⟨s1, 5, none⟩ (.int .i64 x.f5)).setCell ⟨s1, 6, none⟩ (.int .i64 x.f6)).setCell ⟨s1, 7, none⟩ (.int .i64 x.f7)) = w6 at K1 K2 hb10 hHeld ⊢
      have p20 : w6.cell? ⟨s2, 0, none⟩ = some (.int .i64 0) := blk_cell K2 0
      have q20 : w6.frozen? ⟨s2, 0, none⟩ = false := blk_frozen K2 0
      have p21 : w6.cell? ⟨s2, 1, none⟩ = some (.int .i64 0) := blk_cell K2 1
      have q21 : w6.frozen? ⟨s2, 1, none⟩ = false := blk_frozen K2 1
      have p22 : w6.cell? ⟨s2, 2, none⟩ = some (.string ⟨#[]⟩) := blk_cell K2 2
      have q22 : w6.frozen? ⟨s2, 2, none⟩ = false := blk_frozen K2 2
      have p23 : w6.cell? ⟨s2, 3, none⟩ = some (.string ⟨#[]⟩) := blk_cell K2 3
      have q23 : w6.frozen? ⟨s2, 3, none⟩ = false := blk_frozen K2 3
      have p24 : w6.cell? ⟨s2, 4, none⟩ = some (.string ⟨#[]⟩) := blk_cell K2 4
      have q24 : w6.frozen? ⟨s2, 4, none⟩ = false := blk_frozen K2 4
      have p25 : w6.cell? ⟨s2, 5, none⟩ = some (.int .i64 0) := blk_cell K2 5
      have q25 : w6.frozen? ⟨s2, 5, none⟩ = false := blk_frozen K2 5
      have p26 : w6.cell? ⟨s2, 6, none⟩ = some (.int .i64 0) := blk_cell K2 6
      have q26 : w6.frozen? ⟨s2, 6, none⟩ = false := blk_frozen K2 6
      have p27 : w6.cell? ⟨s2, 7, none⟩ = some (.int .i64 0) := blk_cell K2 7
      have q27 : w6.frozen? ⟨s2, 7, none⟩ = false := blk_frozen K2 7
      have HK1 := Aside0.mk K1
      have HK2 := Aside0.mk K2
      have HB10 := Aside0.mk hb10
      clear K1 K2 hb10
      refine last_ (i := 11) (N := none) #[true, true, true, true, true, true, true, true, true, true, true, true] rfl rfl (by kernel_rfl) (by decide) (fun K hK => ?_)
      refine skip_ (w1 := ?_) (by rfl) rfl ?_ ?_
      rotate_left
      · go_simp
        rfl
      refine hK.out _ _ ?_
      clear hK K
      refine done_ (by kernel_rfl) ?_
      have K1 : ((((((((w6.setCell ⟨s2, 0, none⟩ (.int .i64 y.f0)).setCell ⟨s2, 1, none⟩ (.int .i64 y.f1)).setCell ⟨s2, 2, none⟩ (.string y.f2)).setCell ⟨s2, 3, none⟩ (.string y.f3)).setCell ⟨s2, 4, none⟩ (.string y.f4)).setCell ⟨s2, 5, none⟩ (.int .i64 y.f5)).setCell ⟨s2, 6, none⟩ (.int .i64 y.f6)).setCell ⟨s2, 7, none⟩ (.int .i64 y.f7)).heap[s1]? = some (.cells #[.int .i64 x.f0, .int .i64 x.f1, .string x.f2, .string x.f3, .string x.f4, .int .i64 x.f5, .int .i64 x.f6, .int .i64 x.f7] 31 (0, 0)) := (blk_far (p := ⟨s2, 7, none⟩) (blk_far (p := ⟨s2, 6, none⟩) (blk_far (p := ⟨s2, 5, none⟩) (blk_far (p := ⟨s2, 4, none⟩) (blk_far (p := ⟨s2, 3, none⟩) (blk_far (p := ⟨s2, 2, none⟩) (blk_far (p := ⟨s2, 1, none⟩) (blk_far (p := ⟨s2, 0, none⟩) HK1.out hne1 _) hne1 _) hne1 _) hne1 _) hne1 _) hne1 _) hne1 _) hne1 _)
      have K2 : ((((((((w6.setCell ⟨s2, 0, none⟩ (.int .i64 y.f0)).setCell ⟨s2, 1, none⟩ (.int .i64 y.f1)).setCell ⟨s2, 2, none⟩ (.string y.f2)).setCell ⟨s2, 3, none⟩ (.string y.f3)).setCell ⟨s2, 4, none⟩ (.string y.f4)).setCell ⟨s2, 5, none⟩ (.int .i64 y.f5)).setCell ⟨s2, 6, none⟩ (.int .i64 y.f6)).setCell ⟨s2, 7, none⟩ (.int .i64 y.f7)).heap[s2]? = some (.cells #[.int .i64 y.f0, .int .i64 y.f1, .string y.f2, .string y.f3, .string y.f4, .int .i64 y.f5, .int .i64 y.f6, .int .i64 y.f7] 31 (0, 0)) := (blk_put (blk_put (blk_put (blk_put (blk_put (blk_put (blk_put (blk_put HK2.out 0 _ rfl) 1 _ rfl) 2 _ rfl) 3 _ rfl) 4 _ rfl) 5 _ rfl) 6 _ rfl) 7 _ rfl)
      have hb11 : Below wr.heap.size wr ((((((((w6.setCell ⟨s2, 0, none⟩ (.int .i64 y.f0)).setCell ⟨s2, 1, none⟩ (.int .i64 y.f1)).setCell ⟨s2, 2, none⟩ (.string y.f2)).setCell ⟨s2, 3, none⟩ (.string y.f3)).setCell ⟨s2, 4, none⟩ (.string y.f4)).setCell ⟨s2, 5, none⟩ (.int .i64 y.f5)).setCell ⟨s2, 6, none⟩ (.int .i64 y.f6)).setCell ⟨s2, 7, none⟩ (.int .i64 y.f7)) := ((((((((HB10.out.setCell (p := ⟨s2, 0, none⟩) HAF.out.lo2 _).setCell (p := ⟨s2, 1, none⟩) HAF.out.lo2 _).setCell (p := ⟨s2, 2, none⟩) HAF.out.lo2 _).setCell (p := ⟨s2, 3, none⟩) HAF.out.lo2 _).setCell (p := ⟨s2, 4, none⟩) HAF.out.lo2 _).setCell (p := ⟨s2, 5, none⟩) HAF.out.lo2 _).setCell (p := ⟨s2, 6, none⟩) HAF.out.lo2 _).setCell (p := ⟨s2, 7, none⟩) HAF.out.lo2 _)
      clear p20 p21 p22 p23 p24 p25 p26 p27 q20 q21 q22 q23 q24 q25 q26 q27 hHeld
      generalize ((((((((w6.setCell ⟨s2, 0, none⟩ (.int .i64 y.f0)).setCell ⟨s2, 1, none⟩ (.int .i64 y.f1)).setCell ⟨s2, 2, none⟩ (.string y.f2)).setCell ⟨s2, 3, none⟩ (.string y.f3)).setCell ⟨s2, 4, none⟩ (.string y.f4)).setCell ⟨s2, 5, none⟩ (.int .i64 y.f5)).setCell ⟨s2, 6, none⟩ (.int .i64 y.f6)).setCell ⟨s2, 7, none⟩ (.int .i64 y.f7)) = w7 at K1 K2 hb11 ⊢
      have c0 : w7.cell? ⟨s1, 0, none⟩ = some (.int .i64 x.f0) := blk_cell K1 0
      have d0 : w7.cell? ⟨s2, 0, none⟩ = some (.int .i64 y.f0) := blk_cell K2 0
      have c1 : w7.cell? ⟨s1, 1, none⟩ = some (.int .i64 x.f1) := blk_cell K1 1
      have d1 : w7.cell? ⟨s2, 1, none⟩ = some (.int .i64 y.f1) := blk_cell K2 1
      have c2 : w7.cell? ⟨s1, 2, none⟩ = some (.string x.f2) := blk_cell K1 2
      have d2 : w7.cell? ⟨s2, 2, none⟩ = some (.string y.f2) := blk_cell K2 2
      have c3 : w7.cell? ⟨s1, 3, none⟩ = some (.string x.f3) := blk_cell K1 3
      have d3 : w7.cell? ⟨s2, 3, none⟩ = some (.string y.f3) := blk_cell K2 3
      have HBW7 := Aside0.mk (HBW.out.trans (hb11.mono HBW.out.size))
      clear K1 K2 hb11 HAF HK1 HK2 HB10 a0 a1 a2 a3 a4 a5 a6 a7 b0 b1 b2 b3 b4 b5 b6 b7
      by_cases e0 : x.f0 = y.f0
      case neg =>
        have HRS := Aside0.mk (show alikeB a b = false by rw [HSTEP.out]; unfold likeN; rw [decide_eq_false e0]; rfl)
        have t0 : (x.f0 != y.f0) = true := by simpa using e0
        clear e0
        go_wp2
        go_ret
        exact ⟨ret_boolA HRS.out.symm, HBW7.out⟩
      have t0 : (x.f0 != y.f0) = false := by simpa using e0
      by_cases e1 : x.f1 = y.f1
      case neg =>
        have HRS := Aside0.mk (show alikeB a b = false by rw [HSTEP.out]; unfold likeN; rw [decide_eq_false e1]; simp)
        have t1 : (x.f1 != y.f1) = true := by simpa using e1
        clear e0 e1
        go_wp2
        go_ret
        exact ⟨ret_boolA HRS.out.symm, HBW7.out⟩
      have t1 : (x.f1 != y.f1) = false := by simpa using e1
      by_cases e2 : x.f2.toList = y.f2.toList
      case neg =>
        have t2 : (x.f2.toList == y.f2.toList) = false := beq_eq_false_iff_ne.mpr e2
        have t2' : (x.f2.toList != y.f2.toList) = true := bne_iff_ne.mpr e2
        have HRS := Aside0.mk (show alikeB a b = false by rw [HSTEP.out]; unfold likeN; rw [t2]; simp)
        clear e0 e1
        go_wp2
        go_ret
        exact ⟨ret_boolA HRS.out.symm, HBW7.out⟩
      have t2 : (x.f2.toList == y.f2.toList) = true := beq_iff_eq.mpr e2
      have t2' : (x.f2.toList != y.f2.toList) = false := bne_eq_false_iff_eq.mpr e2
      by_cases e3 : x.f3.toList = y.f3.toList
      case neg =>
        have t3 : (x.f3.toList == y.f3.toList) = false := beq_eq_false_iff_ne.mpr e3
        have t3' : (x.f3.toList != y.f3.toList) = true := bne_iff_ne.mpr e3
        have HRS := Aside0.mk (show alikeB a b = false by rw [HSTEP.out]; unfold likeN; rw [t3]; simp)
        clear e0 e1
        go_wp2
        go_ret
        exact ⟨ret_boolA HRS.out.symm, HBW7.out⟩
      have t3 : (x.f3.toList == y.f3.toList) = true := beq_iff_eq.mpr e3
      have t3' : (x.f3.toList != y.f3.toList) = false := bne_eq_false_iff_eq.mpr e3
      have HNX := Aside0.mk (show alikeB (a.drop (k + 1)) (b.drop (k + 1)) = alikeB a b by rw [HSTEP.out]; unfold likeN; rw [decide_eq_true e0, decide_eq_true e1, t2, t3]; rfl)
      clear e0 e1
      go_wp2
      go_roundw
      case rel => exact ⟨k + 1, by go_num, by omega, HNX.out, HBW7.out⟩
      case measure => simp [intOf]; omega
    · have hlt1 : ¬ (k : Int) < (a.length : Int) := by omega
      have HE := Aside0.mk (show alikeB a b = true by
        rw [← HREST.out, List.drop_eq_nil_of_le (by omega), List.drop_eq_nil_of_le (by have := HL.out; omega)]
        rfl)
      clear hCa hCb
      go_wp2
      go_ret
      exact ⟨ret_boolA HE.out.symm, HBW.out⟩
def show_Alike.f (l0 l1 : List SN) : Option Bool := if l0.length ≤ 1099511627776 then some (alikeB l0 l1) else none
theorem show_Alike.calls (A0 : Option Addr) (c0 : Nat) (l0 : List SN) (A1 : Option Addr) (c1 : Nat) (l1 : List SN) (r : Bool) (w : World) (hr0 : Kd.C k31 w A0 l0.length l0) (hc0 : l0.length ≤ c0) (hr1 : Kd.C k31 w A1 l1.length l1) (hc1 : l1.length ≤ c1) (h : show_Alike.f l0 l1 = some r) :
    Calls Try.prog 12 #[.slice A0 l0.length c0, .slice A1 l1.length c1] w fun e w' => e = .returned (.bool r) ∧ Below w.heap.size w w' := by
  unfold show_Alike.f at h
  split at h
  · rw [← Option.some.inj h]
    exact alike_any A0 A1 c0 c1 l0 l1 w hr0 hc0 hr1 hc1 ‹_›
  · cases h
end Go.Proofs.Ytofajjodonhdkaa.Q
