import Derived.Test.YthddjlkgnmbomaaDoorTSplit
import Derived.Test.YthddjlkgnmbomaaDoorQ4
namespace Go.Proofs.YthddjlkgnmbomaaDoor.Pure
open Go Go.RowKit Go.Proofs.YthddjlkgnmbomaaDoor.Q Go.Proofs.YthddjlkgnmbomaaDoorW.PrintWords Go.Proofs.YthddjlkgnmbomaaDoorW.PrintLast
theorem rd_at (done : List LN) (x : LN) (r : List LN) : rd_T33 (done ++ x :: r) (done.length : Int) = x := by
  unfold rd_T33
  rw [Int.toNat_natCast, List.getD_eq_getElem?_getD, List.getElem?_append_right (Nat.le_refl _)]
  simp
theorem rep_end (a b : Nat) (T : List UInt8) (j : Nat) (h1 : a + T.length ≤ j) (h2 : j < a + T.length + b) : (List.replicate a 32 ++ T ++ List.replicate b 32)[j]? = some (32 : UInt8) := by
  have e : (List.replicate a (32 : UInt8) ++ T).length = a + T.length := by simp
  rw [List.getElem?_append_right (by rw [e]; exact h1), e]
  exact List.getElem?_replicate_of_lt (by omega)
theorem rdL_at (pre : List (List UInt8)) (L : List UInt8) (r : List (List UInt8)) : rdOf ByteArray.empty ((pre ++ L :: r).map mkB) (pre.length : Int) = mkB L := by
  unfold rdOf
  rw [Int.toNat_natCast, List.map_append, List.map_cons, List.getD_eq_getElem?_getD, List.getElem?_append_right (by simp)]
  simp
set_option maxHeartbeats 1000000 in
theorem says_l1 (ys : List LN) (ls : List ByteArray) (n i : Int) (t : ByteArray) (a b : Nat) (T : List UInt8) (hsz : a + T.length + b ≤ 65536) (ht : t.size = T.length) (h0 : 0 ≤ i) (hi : i < (ys.length : Int))
    (hf : (rd_T33 ys i).f1 = (a : Int)) (hgo : Ev (fun k => shuttlelaw1_TextSays.l0 k ys ls n (wrap64 (i + 1))) true) :
    ∀ (d j : Nat), j + d = a + T.length + b → Ev (fun k => shuttlelaw1_TextSays.l1 k ys ls n i t (mkB (List.replicate a 32 ++ T ++ List.replicate b 32)) (j : Int)) true
  | 0, j, hj => by
    have hs : (mkB (List.replicate a 32 ++ T ++ List.replicate b 32)).size = a + T.length + b := by rw [mkB_size]; simp; omega
    exact Ev.step (fun k => by rw [shuttlelaw1_TextSays.l1, hs, if_neg (by omega)]) hgo
  | d + 1, j, hj => by
    have hs : (mkB (List.replicate a 32 ++ T ++ List.replicate b 32)).size = a + T.length + b := by rw [mkB_size]; simp; omega
    have ih := says_l1 ys ls n i t a b T hsz ht h0 hi hf hgo d (j + 1) (by omega)
    have hw := Aside0.mk (show wrap64 ((a : Int) + (t.size : Int)) = ((a + T.length : Nat) : Int) by rw [ht]; unfold wrap64; omega)
    have hf' := Aside0.mk hf
    clear hf
    by_cases h1 : j < a
    · have hb := bt_mk (List.replicate a 32 ++ T ++ List.replicate b 32) j 32 (by rw [List.append_assoc]; exact rep_get a _ j h1)
      exact Ev.step (fun k => by rw [shuttlelaw1_TextSays.l1, hs, if_pos (by omega), if_pos h0, if_pos hi, hf'.out, if_pos (by omega), if_pos (by omega), if_pos (by rw [hb]; rfl), wr j (by omega)]) ih
    · by_cases h2 : a + T.length ≤ j
      · have hb := bt_mk (List.replicate a 32 ++ T ++ List.replicate b 32) j 32 (rep_end a b T j h2 (by omega))
        exact Ev.step (fun k => by rw [shuttlelaw1_TextSays.l1, hs, if_pos (by omega), if_pos h0, if_pos hi, hf'.out, hw.out, if_neg (by omega), if_pos (by omega), if_pos (by omega), if_pos (by rw [hb]; rfl), wr j (by omega)]) ih
      · exact Ev.step (fun k => by rw [shuttlelaw1_TextSays.l1, hs, if_pos (by omega), if_pos h0, if_pos hi, hf'.out, hw.out, if_neg (by omega), if_neg (by omega), wr j (by omega)]) ih
set_option maxHeartbeats 1000000 in
theorem says_l0 : ∀ (rest pre : List (List UInt8)) (done : List LN) (ahead : Int), pre.length + rest.length ≤ 65536 → done.length ≤ pre.length → ahead ≤ pre.length → (∀ L ∈ rest, L.length ≤ 65536) →
    Ev (fun k => shuttlelaw1_TextSays.l0 k (done ++ (numb (pre.length + 1) (rest.map mkB)).flatMap lineOf) ((pre ++ rest).map mkB) ahead (done.length : Int)) true
  | [], pre, done, ahead, _, _, _, _ => by
    refine Ev.step (fun k => by rw [shuttlelaw1_TextSays.l0, if_neg (by simp [numb]), awake_f]) ?_
    exact Ev.now _
  | L :: rest, pre, done, ahead, hl, hd, ha, hL => by
    have e1 : (pre ++ L :: rest).map mkB = ((pre ++ [L]) ++ rest).map mkB := by simp
    have e2 : (pre ++ [L]).length = pre.length + 1 := by simp
    have ih := fun done' ahead' h1 h2 => says_l0 rest (pre ++ [L]) done' ahead' (by rw [e2]; rw [List.length_cons] at hl; omega) h1 h2 (fun M hM => hL M (List.mem_cons_of_mem _ hM))
    rw [e2, ← e1] at ih
    have hn : (numb (pre.length + 1) ((L :: rest).map mkB)).flatMap lineOf = lineOf (((pre.length + 1 : Nat) : Int), mkB L) ++ (numb (pre.length + 1 + 1) (rest.map mkB)).flatMap lineOf := by
      rw [List.map_cons, numb, List.flatMap_cons]
    rw [hn]
    have hLs := hL L (List.mem_cons_self ..)
    rw [List.length_cons] at hl
    rcases line_form ((pre.length + 1 : Nat) : Int) L with ⟨h, _⟩ | ⟨a, b, c, r, h1, h2, h3, ⟨r', z, h4, h5⟩, h6⟩
    · rw [h, List.nil_append]
      exact ih done ahead (by omega) (by omega)
    · rw [h6]
      have hsz : a + (c :: r).length + b ≤ 65536 := by
        rw [h1] at hLs
        simp at hLs
        simp
        omega
      generalize hys : (numb (pre.length + 1 + 1) (rest.map mkB)).flatMap lineOf = more at ih ⊢
      have hrd := Aside0.mk <| rd_at done ⟨((pre.length + 1 : Nat) : Int), (a : Int), mkB (c :: r)⟩ more
      have hrl := (rdL_at pre L rest).trans (congrArg mkB h1)
      have hlen : (c :: r).length = r.length + 1 := rfl
      have hts : (mkB (c :: r)).size = r.length + 1 := mkB_size _
      have hb0 := bt_mk (c :: r) 0 c rfl
      have hc32 : ¬ ((c.toNat : Int) = 32) := fun h => h2 (UInt8.toNat_inj.1 (by rw [show (32 : UInt8).toNat = 32 from rfl]; omega))
      have hc35 : ¬ ((c.toNat : Int) = 35) := fun h => h3 (UInt8.toNat_inj.1 (by rw [show (35 : UInt8).toNat = 35 from rfl]; omega))
      have hz32 : ¬ ((z.toNat : Int) = 32) := fun h => h5 (UInt8.toNat_inj.1 (by rw [show (32 : UInt8).toNat = 32 from rfl]; omega))
      have hr' : r'.length = r.length := by have := congrArg List.length h4; simp at this; omega
      have hbz := bt_mk (c :: r) r.length z (by rw [h4, ← hr', List.getElem?_append_right (Nat.le_refl _)]; simp)
      have hwl := Aside0.mk (show wrap64 (((r.length + 1 : Nat) : Int) - 1) = (r.length : Int) by rw [hlen] at hsz; unfold wrap64; omega)
      have hw1 := Aside0.mk (show wrap64 (((pre.length + 1 : Nat) : Int) - 1) = (pre.length : Int) by unfold wrap64; omega)
      have hw2 := Aside0.mk (show wrap64 ((a : Int) + ((r.length + 1 : Nat) : Int)) = ((a + (r.length + 1) : Nat) : Int) by rw [hlen] at hsz; unfold wrap64; omega)
      have hls : (mkB (List.replicate a 32 ++ c :: r ++ List.replicate b 32)).size = a + (c :: r).length + b := by rw [mkB_size]; simp; omega
      have hnil : ¬ ((mkB (c :: r)).toList = ([] : List UInt8)) := by
        rw [ByteArray.toList_eq]
        simp [mkB]
      have hcut : (mkB (List.replicate a 32 ++ c :: r ++ List.replicate b 32)).extract a (a + (r.length + 1)) = mkB (c :: r) := by
        have := cut_mid (List.replicate a 32) (c :: r) (List.replicate b 32)
        rwa [List.length_replicate] at this
      have hlt : (done.length : Int) < ((done ++ ([(⟨((pre.length + 1 : Nat) : Int), (a : Int), mkB (c :: r)⟩ : LN)] ++ more)).length : Int) := by simp; omega
      have hll : (((pre ++ L :: rest).map mkB).length : Int) = (pre.length : Int) + (rest.length : Int) + 1 := by simp; omega
      rw [List.singleton_append] at hlt ⊢
      have ih1 := ih (done ++ [(⟨((pre.length + 1 : Nat) : Int), (a : Int), mkB (c :: r)⟩ : LN)]) ((pre.length + 1 : Nat) : Int) (by simp; omega) (by omega)
      have e3 : (done ++ [(⟨((pre.length + 1 : Nat) : Int), (a : Int), mkB (c :: r)⟩ : LN)]).length = done.length + 1 := by simp
      rw [List.append_assoc, List.singleton_append, e3] at ih1
      generalize hYS : done ++ (⟨((pre.length + 1 : Nat) : Int), (a : Int), mkB (c :: r)⟩ : LN) :: more = ys at hrd hlt ih1 ⊢
      have hr0 := Aside0.mk (show (rd_T33 ys (done.length : Int)).f0 = ((pre.length + 1 : Nat) : Int) by rw [hrd.out])
      have hr1 := Aside0.mk (show (rd_T33 ys (done.length : Int)).f1 = (a : Int) by rw [hrd.out])
      have hr2 := Aside0.mk (show (rd_T33 ys (done.length : Int)).f2 = mkB (c :: r) by rw [hrd.out])
      have hb0' : bt (mkB (c :: r)) 0 = (c.toNat : Int) := hb0
      refine Ev.step (fun k => by
        rw [shuttlelaw1_TextSays.l0, if_pos hlt, if_pos (by omega), hr0.out, hr1.out, hr2.out, if_neg (by omega), if_neg (by rw [hll]; omega), if_neg hnil, hts, if_pos (by omega), hb0', if_neg hc32, if_neg hc35, hwl.out, if_pos (by omega), if_pos (by omega), hbz, if_neg hz32, decide_eq_false (by omega)]) ?_
      refine Ev.step (fun k => by
        rw [shuttlelaw1_TextSays.j1, if_neg (by decide), if_pos (by omega), if_pos hlt, hr0.out, hr1.out, hw1.out, if_pos (by omega), if_pos (by rw [hll]; omega), hrl, hts, hls, hlen, hw2.out, if_neg (by omega), if_pos (by omega), if_pos (by omega), if_pos (by omega), Int.toNat_natCast, Int.toNat_natCast, hcut]) ?_
      refine Ev.step (fun k => by rw [shuttlelaw1_TextSays.j2, if_neg (by simp)]) ?_
      refine says_l1 ys _ _ _ (mkB (c :: r)) a b (c :: r) hsz hts (by omega) hlt (by rw [hrd.out]) ?_ _ 0 (Nat.zero_add _)
      rw [wr done.length (by omega)]
      exact ih1
theorem TextSays : shuttlelaw1_TextSays.Pure := by
  intro s hs
  refine Ev.rounds ?_
  unfold shuttlelaw1_TextSays.f
  rw [text_f s (by omega)]
  rcases lines_cases s with ⟨h1, h2⟩ | ⟨h1, h2, h3⟩
  · refine Ev.congr (fun k => ?_) (Ev.now true)
    show (if (linesP s).2.2.2 = 0 then _ else (if ((linesP s).1.length : Int) = 0 then _ else _)) = _
    rw [if_neg h1, h2, if_pos (by simp), awake_f]
    rfl
  · have h4 := says_l0 (linesU s.data.toList) [] [] 0 (by simpa using lines_count s h1) (Nat.le_refl _) (by simp) (linesU_short s h1)
    refine Ev.congr (f := fun k => (shuttleref1_Split.f k s).bind fun t => shuttlelaw1_TextSays.l0 k (linesP s).1 t 0 0) (fun k => ?_) (Ev.bind (split_ev s h1) ?_)
    · show (if (linesP s).2.2.2 = 0 then _ else _) = _
      rw [if_pos (by rw [h3])]
    · rw [h3]
      exact h4
end Go.Proofs.YthddjlkgnmbomaaDoor.Pure
