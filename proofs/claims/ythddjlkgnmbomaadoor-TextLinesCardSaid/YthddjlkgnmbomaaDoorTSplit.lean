/- The reference's Split and Trim over lists of bytes. -/
import Derived.Test.YthddjlkgnmbomaaDoorTPure
namespace Go.Proofs.YthddjlkgnmbomaaDoor.Q
open Go Go.RowKit Go.Proofs.YthddjlkgnmbomaaDoorW.PrintWords Go.Proofs.YthddjlkgnmbomaaDoorW.PrintLast Go.Proofs.YthddjlkgnmbomaaDoorW.PrintMore
open Go.Lib (trimB trimLeftB trimRightB indexByte)
theorem cut_mid (A P R : List UInt8) : (mkB (A ++ P ++ R)).extract A.length (A.length + P.length) = mkB P := by
  unfold mkB
  rw [Go.Lib.extract_mk, List.append_assoc, List.drop_left, show A.length + P.length - A.length = P.length from by omega, List.take_left]
theorem split_l0 : ∀ (R A P : List UInt8) (out : List ByteArray), A.length + P.length + R.length ≤ 65536 → out.length ≤ A.length → (∀ c ∈ P, c ≠ 10) →
    Ev (fun k => shuttleref1_Split.l0 k (mkB (A ++ P ++ R)) out (A.length : Int) ((A.length + P.length : Nat) : Int)) (out ++ (linesU (P ++ R)).map mkB)
  | [], A, P, out, hs, ho, hP => by
    have hsz : (mkB (A ++ P ++ [])).size = A.length + P.length := by rw [mkB_size]; simp
    by_cases h0 : P = []
    · subst h0
      refine Ev.step (fun k => by rw [shuttleref1_Split.l0, hsz, if_neg (by omega), if_neg (by simp)]) ?_
      refine Ev.congr (fun k => ?_) (Ev.now _)
      simp [linesU]
    · have hp : 0 < P.length := List.length_pos_iff.2 h0
      refine Ev.step (fun k => by rw [shuttleref1_Split.l0, hsz, if_neg (by omega), if_pos (by omega), if_pos (by omega), if_pos (by omega), if_pos (by omega)]) ?_
      refine Ev.congr (fun k => ?_) (Ev.now _)
      rw [Int.toNat_natCast, cut_mid, List.append_nil, linesU_last P hP h0]
      rfl
  | c :: R, A, P, out, hs, ho, hP => by
    have hsz : (mkB (A ++ P ++ c :: R)).size = A.length + P.length + (R.length + 1) := by rw [mkB_size]; simp; omega
    have hg : (A ++ P ++ c :: R)[A.length + P.length]? = some c := by
      rw [← List.length_append, List.getElem?_append_right (Nat.le_refl _)]
      simp
    have hb := bt_mk (A ++ P ++ c :: R) (A.length + P.length) c hg
    have hw := wr (A.length + P.length) (by rw [List.length_cons] at hs; omega)
    rw [List.length_cons] at hs
    by_cases hc : c = 10
    · subst hc
      refine Ev.step (fun k => by rw [shuttleref1_Split.l0, hsz, if_pos (by omega), if_pos (by omega), if_pos (by rw [hb]; rfl), if_pos (by omega), if_pos (by omega), if_pos (by omega), if_pos (by omega), Int.toNat_natCast, Int.toNat_natCast, cut_mid, hw]) ?_
      have ih := split_l0 R (A ++ P ++ [10]) [] (out ++ [mkB P]) (by simp; omega) (by simp; omega) (by simp)
      rw [linesU_line P R hP]
      have e1 : A ++ P ++ [10] ++ [] ++ R = A ++ P ++ 10 :: R := by simp
      have e2 : (A ++ P ++ [10]).length = A.length + P.length + 1 := by simp; omega
      have e3 : out ++ [mkB P] ++ (linesU ([] ++ R)).map mkB = out ++ (P :: linesU R).map mkB := by simp
      rw [e1, e2, e3] at ih
      exact ih
    · have hc' : ¬ ((c.toNat : Int) = 10) := fun h => hc (UInt8.toNat_inj.1 (by rw [show (10 : UInt8).toNat = 10 from rfl]; omega))
      refine Ev.step (fun k => by rw [shuttleref1_Split.l0, hsz, if_pos (by omega), if_pos (by omega), if_neg (by rw [hb]; exact hc'), hw]) ?_
      have ih := split_l0 R A (P ++ [c]) out (by simp; omega) ho (by
        intro d hd
        rcases List.mem_append.1 hd with hd | hd
        · exact hP d hd
        · rw [List.mem_singleton.1 hd]; exact hc)
      have e1 : A ++ (P ++ [c]) ++ R = A ++ P ++ c :: R := by simp
      have e2 : A.length + (P ++ [c]).length = A.length + P.length + 1 := by simp; omega
      have e3 : P ++ [c] ++ R = P ++ c :: R := by simp
      rw [e1, e2, e3] at ih
      exact ih
theorem split_ev (s : ByteArray) (hs : s.size ≤ 65536) : Ev (fun k => shuttleref1_Split.f k s) (linesB s) := by
  have h := split_l0 s.data.toList [] [] [] (by rw [← Go.Lib.size_eq]; simpa using hs) (Nat.le_refl _) (by simp)
  exact h
theorem lines_count (s : ByteArray) (hs : s.size ≤ 65536) : (linesU s.data.toList).length ≤ 65536 := by
  have := lines_len _ s (Nat.le_refl _)
  unfold linesB at this
  rw [List.length_map] at this
  omega
theorem linesU_short (s : ByteArray) (hs : s.size ≤ 65536) : ∀ l ∈ linesU s.data.toList, l.length ≤ 65536 := fun l hl => by
  have := linesU_mem _ l hl
  rw [← Go.Lib.size_eq] at this
  omega
/-! Trim -/
theorem rep_get (a : Nat) (T : List UInt8) (i : Nat) (h : i < a) : (List.replicate a 32 ++ T)[i]? = some 32 := by
  rw [List.getElem?_append_left (by simpa using h)]
  simp [h]
theorem trim_l0 (a : Nat) (T : List UInt8) (r : Int × ByteArray) (ha : a + T.length ≤ 65536) (hT : ∀ c, T[0]? = some c → c ≠ 32)
    (hj : Ev (fun k => shuttleref1_Trim.j1 k (mkB (List.replicate a 32 ++ T)) (a : Int)) r) : ∀ (d i : Nat), i + d = a → Ev (fun k => shuttleref1_Trim.l0 k (mkB (List.replicate a 32 ++ T)) (i : Int)) r
  | 0, i, hi => by
    have hsz : (mkB (List.replicate a 32 ++ T)).size = a + T.length := by rw [mkB_size]; simp
    obtain rfl : i = a := by omega
    cases T with
    | nil => exact Ev.step (fun k => by rw [shuttleref1_Trim.l0, hsz, if_neg (by simp)]) hj
    | cons c r =>
      have hb := bt_mk (List.replicate i 32 ++ c :: r) i c (by rw [List.getElem?_append_right (by simp)]; simp)
      have hc := hT c rfl
      have hc' : ¬ ((c.toNat : Int) = 32) := fun h => hc (UInt8.toNat_inj.1 (by rw [show (32 : UInt8).toNat = 32 from rfl]; omega))
      rw [List.length_cons] at hsz
      exact Ev.step (fun k => by rw [shuttleref1_Trim.l0, hsz, if_pos (by omega), if_pos (by omega), if_neg (by rw [hb]; exact hc')]) hj
  | d + 1, i, hi => by
    have hsz : (mkB (List.replicate a 32 ++ T)).size = a + T.length := by rw [mkB_size]; simp
    have hb := bt_mk (List.replicate a 32 ++ T) i 32 (rep_get a T i (by omega))
    exact Ev.step (fun k => by rw [shuttleref1_Trim.l0, hsz, if_pos (by omega), if_pos (by omega), if_pos (by rw [hb]; rfl), wr i (by omega)]) (trim_l0 a T r ha hT hj d (i + 1) (by omega))
theorem trim_l1 (a b : Nat) (T : List UInt8) (ha : a + T.length + b ≤ 65536) (hT : T = [] ∨ ∃ r c, T = r ++ [c] ∧ c ≠ 32) : ∀ j, j ≤ b →
    Ev (fun k => shuttleref1_Trim.l1 k (mkB (List.replicate a 32 ++ T ++ List.replicate b 32)) (a : Int) ((a + T.length + j : Nat) : Int)) ((a : Int), mkB T)
  | 0, _ => by
    have hsz : (mkB (List.replicate a 32 ++ T ++ List.replicate b 32)).size = a + T.length + b := by rw [mkB_size]; simp; omega
    have he : (mkB (List.replicate a 32 ++ T ++ List.replicate b 32)).extract a (a + T.length) = mkB T := by
      have := cut_mid (List.replicate a 32) T (List.replicate b 32)
      rwa [List.length_replicate] at this
    rw [Nat.add_zero]
    rcases hT with rfl | ⟨r, c, rfl, hc⟩
    · refine Ev.step (fun k => by rw [shuttleref1_Trim.l1, hsz, if_neg (by simp), if_pos (by omega), if_pos (by omega), if_pos (by omega), Int.toNat_natCast, Int.toNat_natCast, he]) (Ev.now _)
    · have hl : (r ++ [c]).length = r.length + 1 := by simp
      have hg : (List.replicate a 32 ++ (r ++ [c]) ++ List.replicate b 32)[a + r.length]? = some c := by
        rw [List.append_assoc, List.getElem?_append_right (by simp), List.length_replicate, show a + r.length - a = r.length from by omega, List.append_assoc, List.getElem?_append_right (Nat.le_refl _)]
        simp
      have hb := bt_mk _ (a + r.length) c hg
      have hc' : ¬ ((c.toNat : Int) = 32) := fun h => hc (UInt8.toNat_inj.1 (by rw [show (32 : UInt8).toNat = 32 from rfl]; omega))
      have hw : wrap64 (((a + (r ++ [c]).length : Nat) : Int) - 1) = ((a + r.length : Nat) : Int) := by rw [hl]; unfold wrap64; omega
      refine Ev.step (fun k => by rw [shuttleref1_Trim.l1, hsz, hw, if_pos (by omega), if_pos (by omega), if_pos (by omega), if_neg (by rw [hb]; exact hc'), if_pos (by omega), if_pos (by omega), if_pos (by omega), Int.toNat_natCast, Int.toNat_natCast, he]) (Ev.now _)
  | j + 1, hj => by
    have hsz : (mkB (List.replicate a 32 ++ T ++ List.replicate b 32)).size = a + T.length + b := by rw [mkB_size]; simp; omega
    have hg : (List.replicate a 32 ++ T ++ List.replicate b 32)[a + T.length + j]? = some 32 := by
      rw [List.getElem?_append_right (by rw [List.length_append, List.length_replicate]; omega)]
      rw [List.length_append, List.length_replicate, show a + T.length + j - (a + T.length) = j from by omega]
      exact List.getElem?_replicate_of_lt (by omega)
    have hb := bt_mk _ (a + T.length + j) 32 hg
    have hw : wrap64 (((a + T.length + (j + 1) : Nat) : Int) - 1) = ((a + T.length + j : Nat) : Int) := by unfold wrap64; omega
    exact Ev.step (fun k => by rw [shuttleref1_Trim.l1, hsz, hw, if_pos (by omega), if_pos (by omega), if_pos (by omega), if_pos (by rw [hb]; rfl)]) (trim_l1 a b T ha hT j (by omega))
/-- What the reference's Trim says of a line. -/
theorem trim_ev (a b : Nat) (T : List UInt8) (ha : a + T.length + b ≤ 65536) (hT : (T = [] ∧ b = 0) ∨ (∃ c r, T = c :: r ∧ c ≠ 32) ∧ ∃ r c, T = r ++ [c] ∧ c ≠ 32) :
    Ev (fun k => shuttleref1_Trim.f k (mkB (List.replicate a 32 ++ T ++ List.replicate b 32))) ((a : Int), mkB T) := by
  have hsz : (mkB (List.replicate a 32 ++ T ++ List.replicate b 32)).size = a + T.length + b := by rw [mkB_size]; simp; omega
  have h1 := trim_l1 a b T ha (hT.elim (fun h => .inl h.1) (fun h => .inr h.2)) b (Nat.le_refl _)
  have h2 : Ev (fun k => shuttleref1_Trim.j1 k (mkB (List.replicate a 32 ++ T ++ List.replicate b 32)) (a : Int)) ((a : Int), mkB T) :=
    Ev.step (fun k => by rw [shuttleref1_Trim.j1, hsz]) h1
  rw [List.append_assoc] at h2 ⊢
  refine trim_l0 a (T ++ List.replicate b 32) _ (by simp; omega) ?_ h2 a 0 (by omega)
  intro c hc
  rcases hT with ⟨rfl, rfl⟩ | ⟨⟨d, r, rfl, hd⟩, _⟩
  · simp at hc
  · simp at hc
    exact hc ▸ hd
end Go.Proofs.YthddjlkgnmbomaaDoor.Q
