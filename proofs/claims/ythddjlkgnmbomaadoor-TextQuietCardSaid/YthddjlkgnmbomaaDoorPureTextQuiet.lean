import Derived.Test.YthddjlkgnmbomaaDoorTLow
import Derived.Test.YthddjlkgnmbomaaDoorTSplit
namespace Go.Proofs.YthddjlkgnmbomaaDoor.Pure
open Go Go.RowKit Go.Proofs.YthddjlkgnmbomaaDoor.Q Go.Proofs.YthddjlkgnmbomaaDoorW.PrintWords Go.Proofs.YthddjlkgnmbomaaDoorW.PrintLast
open Go.Lib (trimB trimLeftB trimRightB indexByte)
theorem rdq_at (done : List LN) (x : LN) (r : List LN) : rd_T33 (done ++ x :: r) (done.length : Int) = x := by
  unfold rd_T33
  rw [Int.toNat_natCast, List.getD_eq_getElem?_getD, List.getElem?_append_right (Nat.le_refl _)]
  simp
theorem rdLq_at (pre : List (List UInt8)) (L : List UInt8) (r : List (List UInt8)) : rdOf ByteArray.empty ((pre ++ L :: r).map mkB) (pre.length : Int) = mkB L := by
  unfold rdOf
  rw [Int.toNat_natCast, List.map_append, List.map_cons, List.getD_eq_getElem?_getD, List.getElem?_append_right (by simp)]
  simp
theorem lineOf_pad (n n' : Int) (L : List UInt8) : lineOf (n', mkB (L ++ [32, 32])) = (lineOf (n, mkB L)).map fun y => ⟨n', y.f1, y.f2⟩ := by
  have ht : trimB (L ++ [32, 32]) 32 = trimB L 32 := by
    unfold trimB trimRightB
    rw [List.reverse_append]
    rfl
  have h1 : trimL (mkB (L ++ [32, 32])) = mkB (trimB L 32) := by
    rw [← ht]
    rfl
  have h2 : trimL (mkB L) = mkB (trimB L 32) := rfl
  unfold lineOf
  show (if skipB (trimL (mkB (L ++ [32, 32]))) = true then [] else [(⟨n', indexByte (L ++ [32, 32]) (bt (trimL (mkB (L ++ [32, 32]))) 0).toNat.toUInt8, trimL (mkB (L ++ [32, 32]))⟩ : LN)]) = (if skipB (trimL (mkB L)) = true then [] else [(⟨n, indexByte L (bt (trimL (mkB L)) 0).toNat.toUInt8, trimL (mkB L)⟩ : LN)]).map _
  rw [h1, h2]
  split
  · rfl
  · rename_i hs
    obtain ⟨a, b, e, h⟩ := trim_form L
    rcases h with ⟨h, _⟩ | ⟨⟨c, r, h, hc⟩, _⟩
    · rw [h] at hs
      exact absurd rfl hs
    · have hbt : bt (mkB (trimB L 32)) 0 = (c.toNat : Int) := by rw [h]; exact bt_mk _ 0 c rfl
      rw [h] at e
      have e1 : indexByte L c = (a : Int) := by rw [e, List.append_assoc]; exact index_form c _ hc a
      have e2 : indexByte (L ++ [32, 32]) c = (a : Int) := by rw [e, List.append_assoc, List.append_assoc]; exact index_form c _ hc a
      have e3 : ((c.toNat : Int)).toNat.toUInt8 = c := by simp
      rw [hbt, e3, e1, e2]
      rfl
section
variable (bw : List UInt8)
def dbl (LS : List (List UInt8)) : List (List UInt8) := LS.flatMap fun L => [L ++ [32, 32], bw]
def piece (L : List UInt8) : List UInt8 := L ++ [32, 32, 10] ++ bw ++ [10]
theorem linesU_dbl (hb : ∀ c ∈ bw, c ≠ 10) : ∀ LS : List (List UInt8), (∀ L ∈ LS, ∀ c ∈ L, c ≠ 10) → linesU (LS.flatMap (piece bw)) = dbl bw LS
  | [], _ => rfl
  | L :: LS, h => by
    have h0 : ∀ c ∈ L ++ [32, 32], c ≠ 10 := fun c hc => by
      rcases List.mem_append.1 hc with hc | hc
      · exact h L (List.mem_cons_self ..) c hc
      · simp at hc
        rw [hc]
        decide
    have e : (L :: LS).flatMap (piece bw) = (L ++ [32, 32]) ++ 10 :: (bw ++ 10 :: LS.flatMap (piece bw)) := by
      rw [List.flatMap_cons]
      unfold piece
      simp
    rw [e, linesU_line _ _ h0, linesU_line _ _ hb, linesU_dbl hb LS (fun M hM => h M (List.mem_cons_of_mem _ hM))]
    rfl
theorem dbl_numb (hb : ∀ c ∈ bw, okU c) (hl : ∀ n : Int, lineOf (n, mkB bw) = []) : ∀ (LS : List (List UInt8)) (m : Nat), (∀ L ∈ LS, ∀ c ∈ L, okU c) → 2 * (m + LS.length) ≤ 4096 →
    (∀ x ∈ numb (2 * m + 1) ((dbl bw LS).map mkB), goodB x = true) ∧
    (numb (2 * m + 1) ((dbl bw LS).map mkB)).flatMap lineOf = ((numb (m + 1) (LS.map mkB)).flatMap lineOf).map fun y => (⟨2 * y.f0 - 1, y.f1, y.f2⟩ : LN)
  | [], m, _, _ => ⟨fun x hx => (by cases hx), rfl⟩
  | L :: LS, m, h, hm => by
    rw [List.length_cons] at hm
    obtain ⟨ih1, ih2⟩ := dbl_numb hb hl LS (m + 1) (fun M hM => h M (List.mem_cons_of_mem _ hM)) (by omega)
    have e : numb (2 * m + 1) ((dbl bw (L :: LS)).map mkB) = (((2 * m + 1 : Nat) : Int), mkB (L ++ [32, 32])) :: (((2 * m + 1 + 1 : Nat) : Int), mkB bw) :: numb (2 * (m + 1) + 1) ((dbl bw LS).map mkB) := by
      show numb (2 * m + 1) ((([L ++ [32, 32], bw] : List (List UInt8)) ++ dbl bw LS).map mkB) = _
      rw [List.map_append, numb_app]
      rfl
    rw [e]
    constructor
    · intro x hx
      rcases List.mem_cons.1 hx with hx | hx
      · subst hx
        refine (goodB_iff _ _).2 ⟨by omega, fun c hc => ?_⟩
        rcases List.mem_append.1 hc with hc | hc
        · exact h L (List.mem_cons_self ..) c hc
        · simp at hc
          rw [hc]
          exact ⟨by decide, by decide⟩
      · rcases List.mem_cons.1 hx with hx | hx
        · subst hx
          exact (goodB_iff _ _).2 ⟨by omega, hb⟩
        · exact ih1 x hx
    · rw [List.flatMap_cons, List.flatMap_cons, hl, List.nil_append, ih2, lineOf_pad ((m + 1 : Nat) : Int), List.map_cons, numb, List.flatMap_cons, List.map_append]
      congr 1
      rcases line_form ((m + 1 : Nat) : Int) L with ⟨h1, _⟩ | ⟨a, b, c, r, _, _, _, _, h1⟩
      · rw [h1]
        rfl
      · rw [h1]
        have e2 : ((2 * m + 1 : Nat) : Int) = 2 * ((m + 1 : Nat) : Int) - 1 := by omega
        rw [e2]
        rfl
theorem quiet_l1 (ys : List LN) (hy : ∀ y ∈ ys, 0 ≤ y.f0 ∧ y.f0 ≤ 70000) (hn : ys.length ≤ 70000) : ∀ (rest pre : List LN), ys = pre ++ rest → Ev (fun k => shuttlelaw1_TextQuiet.l1 k ys (ys.map fun y => (⟨2 * y.f0 - 1, y.f1, y.f2⟩ : LN)) (pre.length : Int)) true
  | [], pre, h => by
    refine Ev.step (fun k => by rw [shuttlelaw1_TextQuiet.l1, if_neg (by rw [h]; simp), awake_f]) ?_
    exact Ev.now _
  | y :: rest, pre, h => by
    have hlt : (pre.length : Int) < (ys.length : Int) := by rw [h]; simp; omega
    have hlt2 : (pre.length : Int) < ((ys.map fun y => (⟨2 * y.f0 - 1, y.f1, y.f2⟩ : LN)).length : Int) := by rw [List.length_map]; exact hlt
    have hr1 : rd_T33 ys (pre.length : Int) = y := by rw [h]; exact rdq_at pre y rest
    have hr2 : rd_T33 (ys.map fun y => (⟨2 * y.f0 - 1, y.f1, y.f2⟩ : LN)) (pre.length : Int) = ⟨2 * y.f0 - 1, y.f1, y.f2⟩ := by
      rw [h, List.map_append, List.map_cons]
      have := rdq_at (pre.map fun y => (⟨2 * y.f0 - 1, y.f1, y.f2⟩ : LN)) ⟨2 * y.f0 - 1, y.f1, y.f2⟩ (rest.map fun y => (⟨2 * y.f0 - 1, y.f1, y.f2⟩ : LN))
      rwa [List.length_map] at this
    have hy1 := hy y (by rw [h]; simp)
    have hw : wrap64 (wrap64 (2 * y.f0) - 1) = 2 * y.f0 - 1 := by unfold wrap64; omega
    have hp : pre.length ≤ 70000 := by have := congrArg List.length h; simp at this; omega
    have ih := quiet_l1 ys hy hn rest (pre ++ [y]) (by rw [h]; simp)
    have e : (pre ++ [y]).length = pre.length + 1 := by simp
    rw [e] at ih
    refine Ev.step (fun k => by rw [shuttlelaw1_TextQuiet.l1, if_pos hlt2, if_pos (Int.natCast_nonneg _), if_pos hlt, hr1, hr2, if_pos rfl, if_pos rfl, if_pos hw.symm, wr pre.length (Nat.lt_of_le_of_lt hp (by decide))]) ih
theorem quiet_l0 (ys : List LN) (hbl : bw.length ≤ 6) (LS : List (List UInt8)) (hT : (LS.flatMap (piece bw)).length ≤ 20000) (hn : LS.length ≤ 1000) (hfin : linesP (mkB (LS.flatMap (piece bw))) = (ys.map fun y => (⟨2 * y.f0 - 1, y.f1, y.f2⟩ : LN), 0, 0, 0))
    (hy : ∀ y ∈ ys, 0 ≤ y.f0 ∧ y.f0 ≤ 70000) (hyn : ys.length ≤ 70000) : ∀ (rest pre : List (List UInt8)), LS = pre ++ rest →
    Ev (fun k => shuttlelaw1_TextQuiet.l0 k ys (LS.map mkB) (mkB bw) (mkB (pre.flatMap (piece bw))) (pre.length : Int)) true
  | [], pre, h => by
    rw [List.append_nil] at h
    subst h
    refine Ev.step (fun k => by rw [shuttlelaw1_TextQuiet.l0, if_neg (by simp), text_f _ (by rw [mkB_size]; omega), hfin, Option.bind_some, if_pos rfl]) ?_
    refine Ev.step (fun k => by rw [shuttlelaw1_TextQuiet.j2, if_neg (by simp)]) ?_
    exact quiet_l1 ys hy hyn ys [] rfl
  | L :: rest, pre, h => by
    have hlt : (pre.length : Int) < ((LS.map mkB).length : Int) := by rw [List.length_map, h]; simp; omega
    have hp : pre.length ≤ 1000 := by have := congrArg List.length h; simp at this; omega
    have hrd : rdOf ByteArray.empty (LS.map mkB) (pre.length : Int) = mkB L := by rw [h]; exact rdLq_at pre L rest
    have hs : (pre.flatMap (piece bw)).length + L.length ≤ 20000 := by
      rw [h, List.flatMap_append, List.flatMap_cons, List.length_append, List.length_append] at hT
      unfold piece at hT ⊢
      simp at hT ⊢
      omega
    have e3 : (⟨#[32, 32, 10]⟩ : ByteArray) = mkB [32, 32, 10] := rfl
    have e1 : (⟨#[10]⟩ : ByteArray) = mkB [10] := rfl
    have hcat : pre.flatMap (piece bw) ++ L ++ [32, 32, 10] ++ bw ++ [10] = (pre ++ [L]).flatMap (piece bw) := by
      rw [List.flatMap_append]
      unfold piece
      simp
    have ih := quiet_l0 ys hbl LS hT hn hfin hy hyn rest (pre ++ [L]) (by rw [h]; simp)
    have e : (pre ++ [L]).length = pre.length + 1 := by simp
    rw [e] at ih
    generalize pre.flatMap (piece bw) = T at hs hcat ⊢
    refine Ev.step (fun k => by
      rw [shuttlelaw1_TextQuiet.l0, if_pos hlt, if_pos (Int.natCast_nonneg _), hrd, e3, e1, mkB_app, mkB_app, mkB_app, mkB_app, hcat, mkB_size, mkB_size, mkB_size, mkB_size, mkB_size, mkB_size,
        if_pos (by omega), if_pos (by simp; omega), if_pos (by simp; omega), if_pos (by simp; omega), wr pre.length (by omega)]) ih
end
theorem flat_lines : ∀ l : List UInt8, ((linesU l).flatMap id).length ≤ l.length
  | [] => Nat.le_refl _
  | c :: r => by
    have ih := flat_lines r
    unfold linesU
    split
    · simp at ih ⊢
      omega
    · split
      · simp
      · rename_i l ls he
        rw [he] at ih
        simp at ih ⊢
        omega
theorem flat_piece (bw : List UInt8) (hb : bw.length ≤ 6) : ∀ LS : List (List UInt8), (LS.flatMap (piece bw)).length ≤ (LS.flatMap id).length + 10 * LS.length
  | [] => Nat.le_refl _
  | L :: LS => by
    have ih := flat_piece bw hb LS
    rw [List.flatMap_cons, List.flatMap_cons, List.length_append, List.length_append, List.length_cons]
    have : (piece bw L).length = L.length + 3 + bw.length + 1 := by unfold piece; simp; omega
    rw [this]
    show _ ≤ L.length + _ + _
    omega
theorem numb_f0 (LS : List ByteArray) (k : Nat) : ∀ y ∈ (numb k LS).flatMap lineOf, (k : Int) ≤ y.f0 ∧ y.f0 < (k : Int) + (LS.length : Int) := by
  intro y hy
  obtain ⟨x, hx, hy⟩ := List.mem_flatMap.1 hy
  have := numb_mem LS k x hx
  unfold lineOf at hy
  split at hy
  · cases hy
  · rw [List.mem_singleton.1 hy]
    exact ⟨this.1, this.2.1⟩
theorem quiet_yes (s : ByteArray) (a1 : Int) (x : List LN) : Ev (fun k => shuttlelaw1_TextQuiet.j0 k s a1 x true) true := by
  exact Ev.step (f := fun _ => some true) (fun k => by rw [shuttlelaw1_TextQuiet.j0, if_pos rfl, awake_f]; rfl) (Ev.now _)
theorem TextQuiet : shuttlelaw1_TextQuiet.Pure := by
  intro s a1 hs h1
  refine Ev.rounds ?_
  unfold shuttlelaw1_TextQuiet.f
  rw [text_f s (by omega)]
  simp only [Option.bind_some]
  rcases lines_cases s with ⟨h3, h4⟩ | ⟨h3, h4, h5⟩
  · exact Ev.congr (fun k => by rw [if_neg h3]) (quiet_yes s a1 _)
  · have he : (linesP s).2.2.2 = 0 := by rw [h5]
    refine Ev.congr (fun k => by rw [if_pos he]) ?_
    by_cases hbig : (s.size : Int) > 4000
    · exact Ev.congr (fun k => by rw [decide_eq_true hbig]) (quiet_yes s a1 _)
    · refine Ev.congr (fun k => by rw [decide_eq_false hbig]) ?_
      refine Ev.step (fun k => by rw [shuttlelaw1_TextQuiet.j0, if_neg (by decide)]) ?_
      refine Ev.bind (split_ev s h3) ?_
      by_cases hmany : ((linesB s).length : Int) > 1000
      · exact Ev.congr (fun k => by rw [if_pos hmany, awake_f]; rfl) (Ev.now true)
      · refine Ev.congr (fun k => by rw [if_neg hmany]) ?_
        obtain ⟨n, hn⟩ := low_nat a1
        have hK : Int.tmod (n : Int) 4 = ((n % 4 : Nat) : Int) := by rw [Int.tmod_eq_emod_of_nonneg (by omega)]; omega
        have hb : n % 4 < 4 := Nat.mod_lt _ (by decide)
        obtain ⟨bw, hbw, hok, hlen, hno, h10⟩ : ∃ bw : List UInt8, rdOf ByteArray.empty [(⟨#[]⟩ : ByteArray), (⟨#[32, 32, 32]⟩ : ByteArray), (⟨#[35, 32, 97, 58, 32, 49]⟩ : ByteArray), (⟨#[32, 32, 32, 35, 32, 98]⟩ : ByteArray)] ((n % 4 : Nat) : Int) = mkB bw ∧ (∀ c ∈ bw, okU c) ∧ bw.length ≤ 6 ∧ (∀ n : Int, lineOf (n, mkB bw) = []) ∧ ∀ c ∈ bw, c ≠ 10 := by
          have : n % 4 = 0 ∨ n % 4 = 1 ∨ n % 4 = 2 ∨ n % 4 = 3 := by omega
          have key : ∀ bw : List UInt8, (bw.all fun c => decide (32 ≤ c.toNat) && decide (c.toNat ≠ 127)) = true → skipB (mkB (trimB bw 32)) = true → bw.length ≤ 6 → (∀ c ∈ bw, okU c) ∧ bw.length ≤ 6 ∧ (∀ n : Int, lineOf (n, mkB bw) = []) ∧ ∀ c ∈ bw, c ≠ 10 := by
            intro bw ha hsk hl
            have h1 : ∀ c ∈ bw, okU c := fun c hc => by
              have := List.all_eq_true.1 ha c hc
              simp at this
              exact this
            refine ⟨h1, hl, fun n => ?_, fun c hc e => ?_⟩
            · unfold lineOf
              exact if_pos hsk
            · have := h1 c hc
              rw [e] at this
              exact absurd this.1 (by decide)
          rcases this with e | e | e | e
          · exact ⟨[], by rw [e]; rfl, key _ (by decide) (by decide) (by decide)⟩
          · exact ⟨[32, 32, 32], by rw [e]; rfl, key _ (by decide) (by decide) (by decide)⟩
          · exact ⟨[35, 32, 97, 58, 32, 49], by rw [e]; rfl, key _ (by decide) (by decide) (by decide)⟩
          · exact ⟨[32, 32, 32, 35, 32, 98], by rw [e]; rfl, key _ (by decide) (by decide) (by decide)⟩
        rw [hn]
        simp only [Option.bind_some, hK, hbw]
        refine Ev.congr (fun k => by rw [if_pos (by omega), if_pos (by show ((n % 4 : Nat) : Int) < 4; omega)]) ?_
        have hLn : (linesU s.data.toList).length ≤ 1000 := by
          unfold linesB at hmany
          rw [List.length_map] at hmany
          omega
        have hfl := flat_lines s.data.toList
        have hfp := flat_piece bw hlen (linesU s.data.toList)
        rw [← Go.Lib.size_eq] at hfl
        have hT : ((linesU s.data.toList).flatMap (piece bw)).length ≤ 20000 := by omega
        have hokL : ∀ L ∈ linesU s.data.toList, ∀ c ∈ L, okU c := by
          intro L hL
          obtain ⟨i, hi⟩ := List.getElem?_of_mem hL
          have hex : ∀ (ls : List (List UInt8)) (k : Nat), (∀ x ∈ numb k (ls.map mkB), goodB x = true) → ∀ L ∈ ls, ∀ c ∈ L, okU c := by
            intro ls
            induction ls with
            | nil => intro k _ L hL; cases hL
            | cons M ls ih =>
              intro k hk L hL
              rw [List.map_cons, numb] at hk
              rcases List.mem_cons.1 hL with hL | hL
              · subst hL
                exact ((goodB_iff _ _).1 (hk _ (List.mem_cons_self ..))).2
              · exact ih (k + 1) (fun x hx => hk x (List.mem_cons_of_mem _ hx)) L hL
          exact hex _ 1 h4 L hL
        obtain ⟨g1, g2⟩ := dbl_numb bw hok hno (linesU s.data.toList) 0 hokL (by omega)
        have hlb : linesB (mkB ((linesU s.data.toList).flatMap (piece bw))) = (dbl bw (linesU s.data.toList)).map mkB := by
          rw [linesB_mk, linesU_dbl bw h10 _ (fun L hL => linesU_no10 _ L hL)]
        have hfin : linesP (mkB ((linesU s.data.toList).flatMap (piece bw))) = ((linesP s).1.map fun y => (⟨2 * y.f0 - 1, y.f1, y.f2⟩ : LN), 0, 0, 0) := by
          rw [goL_all _ (by rw [mkB_size]; omega) (by rw [hlb]; exact g1), hlb, h5]
          show (_, _) = (_, _)
          congr 1
        have hys : (linesP s).1 = (numb 1 (linesB s)).flatMap lineOf := by rw [h5]
        refine quiet_l0 bw (linesP s).1 hlen (linesU s.data.toList) hT hLn hfin ?_ ?_ (linesU s.data.toList) [] rfl
        · intro y hy
          rw [hys] at hy
          have := numb_f0 _ _ y hy
          unfold linesB at this
          rw [List.length_map] at this
          omega
        · rw [hys]
          exact flat_len _ (by rw [numb_len]; unfold linesB; rw [List.length_map]; omega)
end Go.Proofs.YthddjlkgnmbomaaDoor.Pure
