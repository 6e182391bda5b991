import Derived.Test.YthddjlkgnmbomaaDoorTLow
import Derived.Test.YthddjlkgnmbomaaDoorTSplit
import Derived.Test.YthddjlkgnmbomaaDoorQ6
namespace Go.Proofs.YthddjlkgnmbomaaDoor.Pure
open Go Go.RowKit Go.Proofs.YthddjlkgnmbomaaDoor.Q Go.Proofs.YthddjlkgnmbomaaDoorW.PrintWords Go.Proofs.YthddjlkgnmbomaaDoorW.PrintLast
/-- A byte that may not be, put behind n whole lines and P of the next one. -/
theorem lines_put (Z P B : List UInt8) (Ls : List (List UInt8)) (c : UInt8) (hZ : ∀ X, linesU (Z ++ X) = Ls ++ linesU X) (hP : ∀ d ∈ P, d ≠ 10) (hc : c ≠ 10) (hb : ¬ okU c) (hs : Z.length + P.length + B.length < 65536)
    (hg : ∀ x ∈ numb 1 (linesB (mkB (Z ++ P ++ B))), goodB x = true) :
    linesP (mkB (Z ++ P ++ c :: B)) = if 4096 < ((Ls.length + 1 : Nat) : Int) then ([], ((Ls.length + 1 : Nat) : Int), 0, 12) else ([], ((Ls.length + 1 : Nat) : Int), ((P.length + 1 : Nat) : Int), 11) := by
  obtain ⟨R, more, e⟩ := linesU_head (P ++ [c]) (fun d hd => by
    rcases List.mem_append.1 hd with hd | hd
    · exact hP d hd
    · rw [List.mem_singleton.1 hd]; exact hc) (by simp) B
  have e1 : P ++ c :: B = P ++ [c] ++ B := by simp
  have hl : linesB (mkB (Z ++ P ++ c :: B)) = Ls.map mkB ++ mkB (P ++ c :: R) :: more.map mkB := by
    rw [linesB_mk, List.append_assoc, hZ, e1, e]
    simp
  rw [linesB_mk, List.append_assoc, hZ, List.map_append, numb_app, List.length_map] at hg
  have hgP : ∀ d ∈ P, okU d := by
    by_cases h0 : P = []
    · subst h0; intro d hd; cases hd
    · obtain ⟨R2, more2, e2⟩ := linesU_head P hP h0 B
      have := hg (((1 + Ls.length : Nat) : Int), mkB (P ++ R2)) (List.mem_append_right _ (by rw [e2, List.map_cons, numb]; exact List.mem_cons_self ..))
      intro d hd
      exact ((goodB_iff _ _).1 this).2 d (List.mem_append_left _ hd)
  have hbad : badOf (mkB (P ++ c :: R)) = (P.length : Int) := badOf_at P R c hgP hb
  have hx : goodB (((1 + (Ls.map mkB).length : Nat) : Int), mkB (P ++ c :: R)) = false := by
    unfold goodB
    rw [hbad, decide_eq_false (show ¬ (P.length : Int) = -1 by omega), Bool.and_false]
  unfold linesP
  rw [if_neg (by rw [mkB_size]; simp; omega), hl, numb_app, numb]
  refine (goL_bad _ _ _ [] (fun y hy => hg y (List.mem_append_left _ hy)) hx).trans ?_
  unfold failOf
  rw [List.length_map, hbad, show 1 + Ls.length = Ls.length + 1 from by omega]
  split
  · rfl
  · rw [show ((P.length : Int)) + 1 = ((P.length + 1 : Nat) : Int) from by omega]
theorem bytes_l0 (c : UInt8) (B : List UInt8) (hc : c ≠ 10) (hb : ¬ okU c) : ∀ (A Z P : List UInt8) (Ls : List (List UInt8)) (N : Nat), N = Z.length + P.length + A.length → N + B.length < 65536 → (∀ X, linesU (Z ++ X) = Ls ++ linesU X) → (∀ d ∈ P, d ≠ 10) → Ls.length ≤ Z.length →
    (∀ x ∈ numb 1 (linesB (mkB (Z ++ P ++ A ++ B))), goodB x = true) →
    Ev (fun k => shuttlelaw1_TextBytes.l0 k (mkB (Z ++ P ++ A ++ B)) (c.toNat : Int) (N : Int) ((Ls.length + 1 : Nat) : Int) ((P.length + 1 : Nat) : Int) ((Z.length + P.length : Nat) : Int)) true
  | [], Z, P, Ls, N, hN, hs, hZ, hP, hL, hg => by
    obtain rfl : N = Z.length + P.length := by simpa using hN
    rw [List.append_nil] at hg ⊢
    have hsz : (mkB (Z ++ P ++ B)).size = Z.length + P.length + B.length := by rw [mkB_size]; simp; omega
    have hx1 : (mkB (Z ++ P ++ B)).extract 0 (Z.length + P.length) = mkB (Z ++ P) := by
      have := cut_mid [] (Z ++ P) B
      simpa using this
    have hx2 : (mkB (Z ++ P ++ B)).extract (Z.length + P.length) (Z.length + P.length + B.length) = mkB B := by
      have := cut_mid (Z ++ P) B []
      simpa using this
    have hst : strOfNums [(c.toNat : Int)] = mkB [c] := by
      unfold strOfNums mkB
      simp
    have hcat : mkB (Z ++ P) ++ mkB [c] ++ mkB B = mkB (Z ++ P ++ c :: B) := by
      rw [mkB_app, mkB_app]
      simp
    have hput := lines_put Z P B Ls c hZ hP hc hb (by omega) hg
    have hf := text_f (mkB (Z ++ P ++ c :: B)) (by rw [mkB_size]; simp; omega)
    have hs1 : (mkB (Z ++ P)).size + (mkB [c]).size ≤ 9223372036854775807 := by rw [mkB_size, mkB_size]; simp; omega
    have hs2 : (mkB (Z ++ P) ++ mkB [c]).size + (mkB B).size ≤ 9223372036854775807 := by rw [mkB_app, mkB_size, mkB_size]; simp; omega
    refine Ev.step (fun k => by
      rw [shuttlelaw1_TextBytes.l0, if_neg (by omega), hsz, if_pos (by omega), if_pos (by omega), Option.bind_some, Int.toNat_natCast, hx1, hx2, hst, if_pos hs1, if_pos hs2, hcat, hf, hput, Option.bind_some, awake_f]) ?_
    refine Ev.congr (fun k => ?_) (Ev.now true)
    by_cases h4 : 4096 < ((Ls.length + 1 : Nat) : Int)
    · rw [if_pos h4, if_pos h4]
      rfl
    · rw [if_neg h4, if_neg h4, if_pos (by rfl), if_pos rfl, if_pos rfl]
      rfl
  | d :: A, Z, P, Ls, N, hN, hs, hZ, hP, hL, hg => by
    rw [List.length_cons] at hN
    have hsz : (mkB (Z ++ P ++ d :: A ++ B)).size = N + B.length := by rw [mkB_size]; simp; omega
    have hgt : (Z ++ P ++ d :: A ++ B)[Z.length + P.length]? = some d := by
      rw [List.append_assoc, ← List.length_append, List.getElem?_append_right (Nat.le_refl _)]
      simp
    have hbt := bt_mk _ (Z.length + P.length) d hgt
    have hw1 := Aside0.mk (wr (Z.length + P.length) (by omega))
    by_cases hd : d = 10
    · subst hd
      have hw2 := Aside0.mk (wr (Ls.length + 1) (by omega))
      have e1 : Z ++ P ++ [10] ++ [] ++ A ++ B = Z ++ P ++ 10 :: A ++ B := by simp
      have ih := bytes_l0 c B hc hb A (Z ++ P ++ [10]) [] (Ls ++ [P]) N (by simp; omega) hs (fun X => by
        rw [List.append_assoc, List.append_assoc, hZ, List.singleton_append, linesU_line P X hP]
        simp) (by simp) (by simp; omega) (by rw [e1]; exact hg)
      rw [e1] at ih
      have e2 : (Ls ++ [P]).length + 1 = Ls.length + 1 + 1 := by simp
      have e3 : (Z ++ P ++ [10]).length + ([] : List UInt8).length = Z.length + P.length + 1 := by simp; omega
      rw [e2, e3] at ih
      refine Ev.step (fun k => by rw [shuttlelaw1_TextBytes.l0, if_pos (by omega), hsz, if_pos (by omega), if_pos (by omega), if_pos (by rw [hbt]; rfl), hw1.out, hw2.out]; rfl) ih
    · have hw2 := Aside0.mk (wr (P.length + 1) (by omega))
      have hd' : ¬ (d.toNat : Int) = 10 := fun h => hd (UInt8.toNat_inj.1 (by rw [show (10 : UInt8).toNat = 10 from rfl]; omega))
      have e1 : Z ++ (P ++ [d]) ++ A ++ B = Z ++ P ++ d :: A ++ B := by simp
      have ih := bytes_l0 c B hc hb A Z (P ++ [d]) Ls N (by simp; omega) hs hZ (fun x hx => by
        rcases List.mem_append.1 hx with hx | hx
        · exact hP x hx
        · rw [List.mem_singleton.1 hx]; exact hd) hL (by rw [e1]; exact hg)
      rw [e1] at ih
      have e2 : (P ++ [d]).length + 1 = P.length + 1 + 1 := by simp
      have e3 : Z.length + (P ++ [d]).length = Z.length + P.length + 1 := by simp; omega
      rw [e2, e3] at ih
      refine Ev.step (fun k => by rw [shuttlelaw1_TextBytes.l0, if_pos (by omega), hsz, if_pos (by omega), if_pos (by omega), if_neg (by rw [hbt]; exact hd'), hw1.out, hw2.out]) ih
theorem bytes_yes (s : ByteArray) (a1 c : Int) (x : List LN) (e : Int) (h : e = 0 ∨ x = []) : Ev (fun k => shuttlelaw1_TextBytes.j0 k s a1 c x e true) true := by
  refine Ev.step (fun k => by rw [shuttlelaw1_TextBytes.j0, if_pos rfl]) ?_
  by_cases he : e = 0
  · exact Ev.congr (fun k => by rw [if_pos he]) (Ev.now _)
  · have hx := h.resolve_left he
    subst hx
    refine Ev.congr (fun k => ?_) (Ev.now true)
    rw [if_neg he, if_pos (by rfl), awake_f]
    rfl
theorem TextBytes : shuttlelaw1_TextBytes.Pure := by
  intro s a1 a2 hs h1 h2
  refine Ev.rounds ?_
  unfold shuttlelaw1_TextBytes.f
  rw [text_f s (by omega)]
  simp only [Option.bind_some]
  obtain ⟨c, rfl⟩ := u8_wf a2 h2
  rcases lines_cases s with ⟨h3, h4⟩ | ⟨h3, h4, h5⟩
  · exact Ev.congr (fun k => by rw [if_neg h3]) (bytes_yes s a1 _ _ _ (.inr h4))
  · have he : (linesP s).2.2.2 = 0 := by rw [h5]
    refine Ev.congr (fun k => by rw [if_pos he]) ?_
    by_cases hbig : (s.size : Int) ≥ 65536
    · exact Ev.congr (fun k => by rw [if_pos hbig]) (bytes_yes s a1 _ _ _ (.inl he))
    · refine Ev.congr (fun k => by rw [if_neg hbig]) ?_
      by_cases hb : ¬ okU c ∧ c ≠ 10
      · obtain ⟨hb, hc10⟩ := hb
        have h10 : ((c.toNat : Int) == 10) = false := by
          rw [beq_eq_false_iff_ne]
          exact fun h => hc10 (UInt8.toNat_inj.1 (by rw [show (10 : UInt8).toNat = 10 from rfl]; omega))
        have hgo : Ev (fun k => shuttlelaw1_TextBytes.j0 k s a1 (c.toNat : Int) (linesP s).1 (linesP s).2.2.2 false) true := by
          obtain ⟨n, hn⟩ := low_nat a1
          have hw : wrap64 ((s.size : Int) + 1) = ((s.size + 1 : Nat) : Int) := wr s.size (by omega)
          have hK : Int.tmod (n : Int) ((s.size + 1 : Nat) : Int) = ((n % (s.size + 1) : Nat) : Int) := by rw [Int.tmod_eq_emod_of_nonneg (by omega)]; rfl
          have hKl : n % (s.size + 1) ≤ s.size := Nat.le_of_lt_succ (Nat.mod_lt _ (by omega))
          refine Ev.step (fun k => by rw [shuttlelaw1_TextBytes.j0, if_neg (by decide), hn, Option.bind_some, hw, if_neg (by clear hw hK; omega), hK]) ?_
          clear hw hK
          generalize n % (s.size + 1) = K at hKl ⊢
          have hsl : s.data.toList.length = s.size := (Go.Lib.size_eq s).symm
          have hlen : (s.data.toList.take K).length = K := by rw [List.length_take]; omega
          have := bytes_l0 c (s.data.toList.drop K) hc10 hb (s.data.toList.take K) [] [] [] K (by simp [hlen]) (by rw [List.length_drop]; omega) (fun X => rfl) (by simp) (Nat.le_refl _) (by
            rw [List.nil_append, List.nil_append, List.take_append_drop]
            exact h4)
          rw [List.nil_append, List.nil_append, List.take_append_drop] at this
          exact this
        by_cases h32 : (c.toNat : Int) ≥ 32
        · have h127 : (c.toNat : Int) = 127 := by unfold okU at hb; omega
          exact Ev.congr (fun k => by rw [if_pos h32, if_pos h127, h10]) hgo
        · exact Ev.congr (fun k => by rw [if_neg h32, h10]) hgo
      · by_cases h32 : (c.toNat : Int) ≥ 32
        · refine Ev.congr (fun k => by rw [if_pos h32]) ?_
          by_cases h127 : (c.toNat : Int) = 127
          · exfalso
            refine hb ⟨fun h => h.2 (by omega), fun h => ?_⟩
            subst h
            exact absurd h127 (by decide)
          · exact Ev.congr (fun k => by rw [if_neg h127]) (bytes_yes s a1 _ _ _ (.inl he))
        · have h10 : c = 10 := by
            by_cases h : c = 10
            · exact h
            · exact absurd ⟨fun h' => h32 (by have := h'.1; omega), h⟩ hb
          subst h10
          have e10 : (((10 : UInt8).toNat : Int) == 10) = true := rfl
          exact Ev.congr (fun k => by rw [if_neg h32, e10]) (bytes_yes s a1 _ _ _ (.inl he))
end Go.Proofs.YthddjlkgnmbomaaDoor.Pure
