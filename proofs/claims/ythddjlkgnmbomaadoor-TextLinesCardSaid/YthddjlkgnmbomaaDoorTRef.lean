/- The reference's Lines answers as the program's, and a list of lines is alike itself. -/
import Derived.Test.YthddjlkgnmbomaaDoorTSplit
namespace Go.Proofs.YthddjlkgnmbomaaDoor.Q
open Go Go.RowKit Go.Proofs.YthddjlkgnmbomaaDoorW.PrintWords Go.Proofs.YthddjlkgnmbomaaDoorW.PrintLast Go.Proofs.YthddjlkgnmbomaaDoorW.PrintMore
theorem rdR_at (pre : List (List UInt8)) (L : List UInt8) (r : List (List UInt8)) : rdOf ByteArray.empty ((pre ++ L :: r).map mkB) (pre.length : Int) = mkB L := by
  unfold rdOf
  rw [Int.toNat_natCast, List.map_append, List.map_cons, List.getD_eq_getElem?_getD, List.getElem?_append_right (by simp)]
  simp
def refEnd (k : Nat) (x6 : List LN) (x7 : List ByteArray) (x8 : Int) : Option (List LN × Int × Int × Int) :=
  (shuttleref1_Trim.f k (rdOf ByteArray.empty x7 x8)).bind fun bt114 => (if bt114.2.toList = ([] : List UInt8) then (shuttleref1_Lines.l0 k x6 x7 (wrap64 (x8 + 1))) else (if 0 < (bt114.2.size : Int) then (if (bt bt114.2 0) = 35 then (shuttleref1_Lines.l0 k x6 x7 (wrap64 (x8 + 1))) else (if x6.length < 4398046511104 then (shuttleref1_Lines.l0 k (x6 ++ [(⟨wrap64 (x8 + 1), bt114.1, bt114.2⟩ : LN)]) x7 (wrap64 (x8 + 1))) else (none))) else (none)))
theorem ref_l1 (pre rest : List (List UInt8)) (L : List UInt8) (out : List LN) (res : List LN × Int × Int × Int) (hp : pre.length ≤ 65536) (hL : L.length ≤ 65536)
    (hfin : (∀ c ∈ L, okU c) → Ev (fun k => refEnd k out ((pre ++ L :: rest).map mkB) (pre.length : Int)) res)
    (hbad : ∀ P c Q, L = P ++ c :: Q → (∀ d ∈ P, okU d) → ¬ okU c → res = ([], ((pre.length + 1 : Nat) : Int), ((P.length + 1 : Nat) : Int), 11)) : ∀ (Q P : List UInt8), L = P ++ Q → (∀ d ∈ P, okU d) →
    Ev (fun k => shuttleref1_Lines.l1 k out ((pre ++ L :: rest).map mkB) (pre.length : Int) (P.length : Int)) res
  | [], P, h, hP => by
    rw [List.append_nil] at h
    subst h
    have hlt : (pre.length : Int) < (((pre ++ L :: rest).map mkB).length : Int) := by simp; omega
    exact Ev.step (fun k => by rw [shuttleref1_Lines.l1, if_pos (Int.natCast_nonneg _), if_pos hlt, if_neg (by rw [rdR_at, mkB_size]; omega)]; rfl) (hfin hP)
  | c :: Q, P, h, hP => by
    have hlt : (pre.length : Int) < (((pre ++ L :: rest).map mkB).length : Int) := by simp; omega
    have hPl : P.length < L.length := by rw [h]; simp
    have hb : bt (mkB L) (P.length : Int) = (c.toNat : Int) := bt_mk L P.length c (by rw [h, List.getElem?_append_right (Nat.le_refl _)]; simp)
    have hw1 := Aside0.mk (wr pre.length (by omega))
    have hw2 := Aside0.mk (wr P.length (by omega))
    by_cases hok : okU c
    · have ih := ref_l1 pre rest L out res hp hL hfin hbad Q (P ++ [c]) (by rw [h]; simp) (fun d hd => by
        rcases List.mem_append.1 hd with hd | hd
        · exact hP d hd
        · rw [List.mem_singleton.1 hd]; exact hok)
      have e : (P ++ [c]).length = P.length + 1 := by simp
      rw [e] at ih
      have ho : ¬ (c.toNat : Int) < 32 ∧ ¬ (c.toNat : Int) = 127 := by unfold okU at hok; omega
      exact Ev.step (fun k => by rw [shuttleref1_Lines.l1, if_pos (Int.natCast_nonneg _), if_pos hlt, rdR_at, mkB_size, if_pos (by omega), if_pos (Int.natCast_nonneg _), hb, if_neg ho.1, if_neg ho.2, hw2.out]) ih
    · rw [hbad P c Q h hP hok]
      by_cases h32 : (c.toNat : Int) < 32
      · exact Ev.step (fun k => by rw [shuttleref1_Lines.l1, if_pos (Int.natCast_nonneg _), if_pos hlt, rdR_at, mkB_size, if_pos (by omega), if_pos (Int.natCast_nonneg _), hb, if_pos h32, hw1.out, hw2.out]) (Ev.now _)
      · have h127 : (c.toNat : Int) = 127 := by unfold okU at hok; omega
        exact Ev.step (fun k => by rw [shuttleref1_Lines.l1, if_pos (Int.natCast_nonneg _), if_pos hlt, rdR_at, mkB_size, if_pos (by omega), if_pos (Int.natCast_nonneg _), hb, if_neg h32, if_pos h127, hw1.out, hw2.out]) (Ev.now _)
theorem ref_l0 : ∀ (rest pre : List (List UInt8)) (out : List LN), pre.length + rest.length ≤ 65536 → pre.length ≤ 4096 → out.length ≤ pre.length → (∀ L ∈ rest, L.length ≤ 65536) →
    Ev (fun k => shuttleref1_Lines.l0 k out ((pre ++ rest).map mkB) (pre.length : Int)) (goL (numb (pre.length + 1) (rest.map mkB)) out)
  | [], pre, out, _, _, _, _ => Ev.step (f := fun _ => some (out, 0, 0, 0)) (fun k => by rw [shuttleref1_Lines.l0, if_neg (by simp)]) (Ev.now _)
  | L :: rest, pre, out, hl, hp, ho, hL => by
    have hlt : (pre.length : Int) < (((pre ++ L :: rest).map mkB).length : Int) := by simp; omega
    have hw1 := Aside0.mk (wr pre.length (by omega))
    rw [List.map_cons, numb, goL]
    by_cases h4 : pre.length = 4096
    · have hg : ¬ goodB (((pre.length + 1 : Nat) : Int), mkB L) = true := fun h => by have := ((goodB_iff _ _).1 h).1; omega
      rw [if_neg hg]
      have hf : failOf (((pre.length + 1 : Nat) : Int), mkB L) = (((pre.length + 1 : Nat) : Int), 0, 12) := if_pos (by show (4096 : Int) < ((pre.length + 1 : Nat) : Int); omega)
      rw [hf]
      exact Ev.step (fun k => by rw [shuttleref1_Lines.l0, if_pos hlt, if_pos (by omega), hw1.out]) (Ev.now _)
    · refine Ev.step (fun k => by rw [shuttleref1_Lines.l0, if_pos hlt, if_neg (by omega)]) ?_
      have hLs := hL L (List.mem_cons_self ..)
      rw [List.length_cons] at hl
      refine ref_l1 pre rest L out _ (by omega) hLs (fun hok => ?_) (fun P c Q h hP hc => ?_) L [] rfl (by simp)
      · have hg : goodB (((pre.length + 1 : Nat) : Int), mkB L) = true := (goodB_iff _ _).2 ⟨by omega, hok⟩
        rw [if_pos hg]
        have e1 : (pre ++ L :: rest).map mkB = ((pre ++ [L]) ++ rest).map mkB := by simp
        have e2 : (pre ++ [L]).length = pre.length + 1 := by simp
        have ih := fun out' h => ref_l0 rest (pre ++ [L]) out' (by rw [e2]; omega) (by rw [e2]; omega) h (fun M hM => hL M (List.mem_cons_of_mem _ hM))
        rw [e2, ← e1] at ih
        have hrl := rdR_at pre L rest
        rcases line_form ((pre.length + 1 : Nat) : Int) L with ⟨h, a, b, T, h1, h2⟩ | ⟨a, b, c, r, h1, h2, h3, h4, h6⟩
        · rw [h, List.append_nil]
          have hsz : a + T.length + b ≤ 65536 := by rw [h1] at hLs; simp at hLs; omega
          have htr := trim_ev a b T hsz (h2.imp id (fun h => ⟨by obtain ⟨r, e⟩ := h.1; exact ⟨35, r, e, by decide⟩, h.2⟩))
          rw [← h1, ← hrl] at htr
          refine Ev.bind htr ?_
          have hgo := ih out (by omega)
          by_cases hT : T = []
          · exact Ev.congr (fun k => by rw [if_pos (by rw [hT, ByteArray.toList_eq]; rfl), hw1.out]) hgo
          · rcases h2 with h2 | ⟨⟨r, rfl⟩, _⟩
            · exact absurd h2.1 hT
            · have hb : bt (mkB (35 :: r)) 0 = 35 := bt_mk (35 :: r) 0 35 rfl
              exact Ev.congr (fun k => by rw [if_neg (by rw [ByteArray.toList_eq]; simp [mkB]), if_pos (by rw [mkB_size]; simp), if_pos hb, hw1.out]) hgo
        · rw [h6]
          have hsz : a + (c :: r).length + b ≤ 65536 := by rw [h1] at hLs; simp at hLs; simp; omega
          have htr := trim_ev a b (c :: r) hsz (.inr ⟨⟨c, r, rfl, h2⟩, h4⟩)
          rw [← h1, ← hrl] at htr
          refine Ev.bind htr ?_
          have hgo := ih (out ++ [(⟨((pre.length + 1 : Nat) : Int), (a : Int), mkB (c :: r)⟩ : LN)]) (by simp; omega)
          have hb : bt (mkB (c :: r)) 0 = (c.toNat : Int) := bt_mk (c :: r) 0 c rfl
          have hc35 : ¬ ((c.toNat : Int) = 35) := fun h => h3 (UInt8.toNat_inj.1 (by rw [show (35 : UInt8).toNat = 35 from rfl]; omega))
          exact Ev.congr (fun k => by rw [if_neg (by rw [ByteArray.toList_eq]; simp [mkB]), if_pos (by rw [mkB_size]; simp), if_neg (by rw [hb]; exact hc35), if_pos (by omega), hw1.out]) hgo
      · have hbd : badOf (mkB L) = (P.length : Int) := by rw [h]; exact badOf_at P Q c hP hc
        have hg : ¬ goodB (((pre.length + 1 : Nat) : Int), mkB L) = true := fun hh => hc (((goodB_iff _ _).1 hh).2 c (by rw [h]; simp))
        rw [if_neg hg]
        have hf : failOf (((pre.length + 1 : Nat) : Int), mkB L) = (((pre.length + 1 : Nat) : Int), ((P.length + 1 : Nat) : Int), 11) := by
          unfold failOf
          rw [if_neg (by show ¬ (4096 : Int) < ((pre.length + 1 : Nat) : Int); omega), hbd]
          rw [show ((P.length : Int)) + 1 = ((P.length + 1 : Nat) : Int) from by omega]
        rw [hf]
theorem ref_lines (s : ByteArray) : Ev (fun k => shuttleref1_Lines.f k s) (linesP s) := by
  unfold shuttleref1_Lines.f linesP
  by_cases h : 65536 < s.size
  · exact Ev.congr (fun k => by rw [if_pos (by omega), if_pos h]) (Ev.now _)
  · rw [if_neg h]
    refine Ev.congr (fun k => by rw [if_neg (by omega)]) (Ev.bind (split_ev s (by omega)) ?_)
    exact ref_l0 (linesU s.data.toList) [] [] (by simpa using lines_count s (by omega)) (by decide) (Nat.le_refl _) (linesU_short s (by omega))
theorem same_l0 (l : List LN) (hl : l.length ≤ 70000) : ∀ (d i : Nat), i + d = l.length → Ev (fun k => shuttlelaw0_SameLines.l0 k l l (i : Int)) true
  | 0, i, hi => Ev.step (fun k => by rw [shuttlelaw0_SameLines.l0, if_neg (by omega)]) (Ev.now _)
  | d + 1, i, hi => Ev.step (fun k => by rw [shuttlelaw0_SameLines.l0, if_pos (by omega), if_pos (by omega), if_pos (by omega), if_neg (by simp), wr i (by omega)]) (same_l0 l hl d (i + 1) (by omega))
theorem same_lines (l : List LN) (hl : l.length ≤ 70000) : Ev (fun k => shuttlelaw0_SameLines.f k l l) true := by
  unfold shuttlelaw0_SameLines.f
  exact Ev.congr (fun k => by rw [if_pos rfl]; rfl) (same_l0 l hl l.length 0 (Nat.zero_add _))
theorem linesP_len (s : ByteArray) : (linesP s).1.length ≤ 70000 := by
  rcases lines_cases s with ⟨_, h⟩ | ⟨h1, _, h⟩
  · rw [h]
    exact Nat.zero_le _
  · rw [h]
    have := lines_len _ s (Nat.le_refl _)
    exact flat_len _ (by rw [numb_len]; omega)
end Go.Proofs.YthddjlkgnmbomaaDoor.Q
