/- Lines, blanks and remarks over lists of bytes: no program in sight. -/
import Derived.Test.YthddjlkgnmbomaaDoorQ3
namespace Go.Proofs.YthddjlkgnmbomaaDoor.Q
open Go Go.RowKit Go.Proofs.YthddjlkgnmbomaaDoorW.PrintWords Go.Proofs.YthddjlkgnmbomaaDoorW.PrintLast Go.Proofs.YthddjlkgnmbomaaDoorW.PrintMore
open Go.Lib (trimB trimLeftB trimRightB indexByte)
def mkB (l : List UInt8) : ByteArray := ⟨l.toArray⟩
theorem mkB_list (l : List UInt8) : (mkB l).data.toList = l := rfl
theorem mkB_of (s : ByteArray) : mkB s.data.toList = s := rfl
theorem mkB_size (l : List UInt8) : (mkB l).size = l.length := Go.Lib.size_mk l
theorem bt_mk (l : List UInt8) (i : Nat) (c : UInt8) (h : l[i]? = some c) : bt (mkB l) (i : Int) = (c.toNat : Int) := by
  obtain ⟨hi, hc⟩ := List.getElem?_eq_some_iff.1 h
  have h1 : (i : Int).toNat < (mkB l).size := by rw [mkB_size]; exact hi
  rw [← bt_at (mkB l) (i : Int) h1]
  have h2 := Go.Lib.getElem_mk l i (by rw [mkB_size] at h1; simpa [ByteArray.size] using h1)
  rw [h] at h2
  injection h2 with h2
  rw [h2]
  rfl
theorem drop_form : ∀ l : List UInt8, ∃ a, l = List.replicate a 32 ++ l.dropWhile (· == 32) ∧ (l.dropWhile (· == 32) = [] ∨ ∃ c r, l.dropWhile (· == 32) = c :: r ∧ c ≠ 32)
  | [] => ⟨0, rfl, .inl rfl⟩
  | c :: r => by
    by_cases h : c = 32
    · subst h
      obtain ⟨a, h1, h2⟩ := drop_form r
      have e : (32 :: r : List UInt8).dropWhile (· == 32) = r.dropWhile (· == 32) := by simp
      rw [e]
      refine ⟨a + 1, ?_, h2⟩
      rw [List.replicate_succ, List.cons_append, ← h1]
    · have e : (c :: r).dropWhile (· == 32) = c :: r := by simp [h]
      rw [e]
      exact ⟨0, rfl, .inr ⟨c, r, rfl, h⟩⟩
/-- What a line is: blanks, its text, blanks. -/
theorem trim_form (L : List UInt8) : ∃ a b, L = List.replicate a 32 ++ trimB L 32 ++ List.replicate b 32 ∧
    ((trimB L 32 = [] ∧ b = 0) ∨ (∃ c r, trimB L 32 = c :: r ∧ c ≠ 32) ∧ ∃ r d, trimB L 32 = r ++ [d] ∧ d ≠ 32) := by
  obtain ⟨b, h1, h2⟩ := drop_form L.reverse
  have hR : L = trimRightB L 32 ++ List.replicate b 32 := by
    have := congrArg List.reverse h1
    rw [List.reverse_reverse, List.reverse_append, List.reverse_replicate] at this
    exact this
  have h2' : trimRightB L 32 = [] ∨ ∃ r d, trimRightB L 32 = r ++ [d] ∧ d ≠ 32 := by
    unfold trimRightB
    rcases h2 with h2 | ⟨c, r, h2, hc⟩
    · rw [h2]; exact .inl rfl
    · rw [h2]; exact .inr ⟨r.reverse, c, by simp, hc⟩
  obtain ⟨a, h3, h4⟩ := drop_form (trimRightB L 32)
  have e : (trimRightB L 32).dropWhile (· == 32) = trimB L 32 := rfl
  rw [e] at h3 h4
  rcases h4 with h4 | ⟨c, r, h4, hc⟩
  · refine ⟨a + b, 0, ?_, .inl ⟨h4, rfl⟩⟩
    rw [h4, List.append_nil] at h3
    rw [h4, List.append_nil, List.replicate_zero, List.append_nil, ← List.replicate_append_replicate, ← h3]
    exact hR
  · refine ⟨a, b, ?_, .inr ⟨⟨c, r, h4, hc⟩, ?_⟩⟩
    · rw [← h3]; exact hR
    · rcases h2' with h2' | ⟨r', d, h2', hd⟩
      · rw [h2'] at h3
        have := congrArg List.length h3
        rw [h4] at this
        simp at this
      · rcases List.eq_nil_or_concat (trimB L 32) with h5 | ⟨r5, d5, h5⟩
        · rw [h4] at h5; cases h5
        · rw [List.concat_eq_append] at h5
          rw [h2', h5, ← List.append_assoc] at h3
          have := List.append_inj' h3 rfl
          have e2 := List.cons.inj this.2
          exact ⟨r5, d5, h5, e2.1 ▸ hd⟩
theorem index_form (c : UInt8) (r : List UInt8) (hc : c ≠ 32) : ∀ a, indexByte (List.replicate a 32 ++ c :: r) c = (a : Int)
  | 0 => by simp [indexByte]
  | a + 1 => by
    rw [List.replicate_succ, List.cons_append]
    unfold indexByte
    rw [if_neg (by simpa using fun h => hc h.symm), index_form c r hc a, if_neg (by simp)]
    omega
/-- A line: it says nothing, or its text stands behind a blanks and ahead of b. -/
theorem line_form (n : Int) (L : List UInt8) :
    (lineOf (n, mkB L) = [] ∧ ∃ a b T, L = List.replicate a 32 ++ T ++ List.replicate b 32 ∧ ((T = [] ∧ b = 0) ∨ (∃ r, T = 35 :: r) ∧ ∃ r d, T = r ++ [d] ∧ d ≠ 32)) ∨
    ∃ a b c r, L = List.replicate a 32 ++ (c :: r) ++ List.replicate b 32 ∧ c ≠ 32 ∧ c ≠ 35 ∧ (∃ r' d, c :: r = r' ++ [d] ∧ d ≠ 32) ∧ lineOf (n, mkB L) = [⟨n, (a : Int), mkB (c :: r)⟩] := by
  obtain ⟨a, b, h1, h2⟩ := trim_form L
  have ht : trimL (mkB L) = mkB (trimB L 32) := rfl
  rcases h2 with ⟨h2, hb⟩ | ⟨⟨c, r, h2, hc⟩, h3⟩
  · refine .inl ⟨?_, a, b, [], h2 ▸ h1, .inl ⟨rfl, hb⟩⟩
    unfold lineOf
    rw [if_pos (by show skipB (trimL (mkB L)) = true; rw [ht, h2]; rfl)]
  · have hbt : bt (mkB (c :: r)) 0 = (c.toNat : Int) := bt_mk _ 0 c rfl
    rw [h2] at h1 h3
    by_cases h35 : c = 35
    · subst h35
      refine .inl ⟨?_, a, b, 35 :: r, h1, .inr ⟨⟨r, rfl⟩, h3⟩⟩
      unfold lineOf
      rw [if_pos (by show skipB (trimL (mkB L)) = true; rw [ht, h2]; unfold skipB; rw [hbt]; simp)]
    · refine .inr ⟨a, b, c, r, h1, hc, h35, h3, ?_⟩
      unfold lineOf
      have hs : skipB (trimL (mkB L)) = false := by
        rw [ht, h2]
        unfold skipB
        rw [hbt, mkB_size]
        simp
        intro h
        exact h35 (UInt8.toNat_inj.1 (by rw [show (35 : UInt8).toNat = 35 from rfl]; omega))
      rw [if_neg (by show ¬ skipB (trimL (mkB L)) = true; rw [hs]; decide)]
      have hi : indexByte L c = (a : Int) := by rw [h1, List.append_assoc]; exact index_form c _ hc a
      show [(⟨n, indexByte L (bt (trimL (mkB L)) 0).toNat.toUInt8, trimL (mkB L)⟩ : LN)] = _
      rw [ht, h2, hbt]
      have : ((c.toNat : Int)).toNat.toUInt8 = c := by simp
      rw [this, hi]
/-- A byte that may be. -/
def okU (c : UInt8) : Prop := 32 ≤ c.toNat ∧ c.toNat ≠ 127
theorem bad_none (L : List UInt8) : ∀ (d i : Nat), i + d ≤ L.length → (∀ j c, i ≤ j → L[j]? = some c → okU c) → badFrom (mkB L) d i = -1
  | 0, i, _, _ => rfl
  | d + 1, i, hd, h => by
    have hi : i < L.length := by omega
    have hg := List.getElem?_eq_getElem hi
    have := h i _ (Nat.le_refl _) hg
    unfold badFrom
    rw [bt_mk L i _ hg, if_neg (by unfold okU at this; omega)]
    exact bad_none L d (i + 1) (by omega) (fun j c hj => h j c (by omega))
theorem bad_some (L : List UInt8) (k : Nat) (c : UInt8) (hk : L[k]? = some c) (hc : ¬ okU c) : ∀ (d i : Nat), i + d ≤ L.length → i ≤ k → k < i + d → (∀ j c, i ≤ j → j < k → L[j]? = some c → okU c) → badFrom (mkB L) d i = (k : Int)
  | 0, i, _, _, _, _ => by omega
  | d + 1, i, hd, hik, hkd, h => by
    unfold badFrom
    by_cases he : i = k
    · subst he
      rw [bt_mk L i _ hk, if_pos (by unfold okU at hc; omega)]
    · have hi : i < L.length := by omega
      have hg := List.getElem?_eq_getElem hi
      have := h i _ (Nat.le_refl _) (by omega) hg
      rw [bt_mk L i _ hg, if_neg (by unfold okU at this; omega)]
      exact bad_some L k c hk hc d (i + 1) (by omega) (by omega) (by omega) (fun j c hj => h j c (by omega))
theorem bad_all (L : List UInt8) : ∀ (d i : Nat), i + d = L.length → badFrom (mkB L) d i = -1 → ∀ j c, i ≤ j → L[j]? = some c → okU c
  | 0, i, hd, _, j, c, hj, hc => by
    have := (List.getElem?_eq_some_iff.1 hc).1
    omega
  | d + 1, i, hd, h, j, c, hj, hc => by
    have hi : i < L.length := by omega
    have hg := List.getElem?_eq_getElem hi
    unfold badFrom at h
    rw [bt_mk L i _ hg] at h
    split at h
    · omega
    · rename_i hn
      by_cases he : i = j
      · subst he
        rw [hg] at hc
        injection hc with hc
        subst hc
        unfold okU
        omega
      · exact bad_all L d (i + 1) (by omega) h j c (by omega) hc
theorem badOf_ok (L : List UInt8) : badOf (mkB L) = -1 ↔ ∀ c ∈ L, okU c := by
  unfold badOf
  rw [mkB_size]
  constructor
  · intro h c hc
    obtain ⟨j, hj⟩ := List.getElem?_of_mem hc
    exact bad_all L L.length 0 (by omega) h j c (by omega) hj
  · intro h
    exact bad_none L L.length 0 (by omega) (fun j c _ hc => h c (List.mem_of_getElem? hc))
theorem badOf_at (P R : List UInt8) (c : UInt8) (hP : ∀ c ∈ P, okU c) (hc : ¬ okU c) : badOf (mkB (P ++ c :: R)) = (P.length : Int) := by
  unfold badOf
  rw [mkB_size]
  refine bad_some _ P.length c (by simp) hc _ 0 (by omega) (by omega) (by simp) ?_
  intro j d _ hj hd
  rw [List.getElem?_append_left hj] at hd
  exact hP d (List.mem_of_getElem? hd)
theorem goodB_iff (n : Int) (L : List UInt8) : goodB (n, mkB L) = true ↔ n ≤ 4096 ∧ ∀ c ∈ L, okU c := by
  unfold goodB
  rw [Bool.and_eq_true, decide_eq_true_eq, decide_eq_true_eq, ← badOf_ok]
/-! Lines -/
theorem linesU_line (P : List UInt8) (R : List UInt8) (h : ∀ c ∈ P, c ≠ 10) : linesU (P ++ 10 :: R) = P :: linesU R := by
  induction P with
  | nil => simp [linesU]
  | cons c P ih =>
    rw [List.cons_append, linesU, if_neg (h c (List.mem_cons_self ..)), ih (fun d hd => h d (List.mem_cons_of_mem _ hd))]
theorem linesU_last (P : List UInt8) (h : ∀ c ∈ P, c ≠ 10) (hP : P ≠ []) : linesU P = [P] := by
  induction P with
  | nil => exact absurd rfl hP
  | cons c P ih =>
    unfold linesU
    rw [if_neg (h c (List.mem_cons_self ..))]
    by_cases h0 : P = []
    · subst h0
      rfl
    · rw [ih (fun d hd => h d (List.mem_cons_of_mem _ hd)) h0]
theorem linesU_no10 : ∀ (s l : List UInt8), l ∈ linesU s → ∀ c ∈ l, c ≠ 10
  | [], l, h => by cases h
  | c :: r, l, h => by
    have ih := linesU_no10 r
    unfold linesU at h
    split at h
    · rcases List.mem_cons.1 h with h | h
      · subst h; intro c hc; cases hc
      · exact ih l h
    · rename_i hc
      split at h
      · rw [List.mem_singleton.1 h]
        intro d hd
        rw [List.mem_singleton.1 hd]
        exact hc
      · rename_i l0 ls he
        rcases List.mem_cons.1 h with h | h
        · subst h
          intro d hd
          rcases List.mem_cons.1 hd with hd | hd
          · subst hd; exact hc
          · exact ih l0 (by rw [he]; exact List.mem_cons_self ..) d hd
        · exact ih l (by rw [he]; exact List.mem_cons_of_mem _ h)
theorem linesB_mk (L : List UInt8) : linesB (mkB L) = (linesU L).map mkB := rfl
theorem goL_all (s : ByteArray) (hs : s.size ≤ 65536) (h : ∀ x ∈ numb 1 (linesB s), goodB x = true) : linesP s = ((numb 1 (linesB s)).flatMap lineOf, 0, 0, 0) := by
  unfold linesP
  rw [if_neg (by omega), goL_good _ _ h, List.nil_append]
theorem goL_ok : ∀ (l : List NL) (acc : List LN), (goL l acc).2.2.2 = 0 → ∀ x ∈ l, goodB x = true
  | [], acc, _, x, hx => by cases hx
  | y :: r, acc, h, x, hx => by
    unfold goL at h
    split at h
    · rename_i hy
      rcases List.mem_cons.1 hx with hx | hx
      · rw [hx]; exact hy
      · exact goL_ok r _ h x hx
    · exfalso
      unfold failOf at h
      split at h <;> simp at h
theorem goL_nil : ∀ (l : List NL) (acc : List LN), (goL l acc).2.2.2 ≠ 0 → (goL l acc).1 = []
  | [], acc, h => absurd rfl h
  | y :: r, acc, h => by
    unfold goL at h ⊢
    split
    · rename_i hy
      rw [if_pos hy] at h
      exact goL_nil r _ h
    · rfl
/-- A text is taken, or nothing comes out of it. -/
theorem lines_cases (s : ByteArray) : ((linesP s).2.2.2 ≠ 0 ∧ (linesP s).1 = []) ∨
    (s.size ≤ 65536 ∧ (∀ x ∈ numb 1 (linesB s), goodB x = true) ∧ linesP s = ((numb 1 (linesB s)).flatMap lineOf, 0, 0, 0)) := by
  by_cases h : 65536 < s.size
  · refine .inl ?_
    unfold linesP
    rw [if_pos h]
    exact ⟨by decide, rfl⟩
  · by_cases he : (linesP s).2.2.2 = 0
    · refine .inr ⟨by omega, ?_⟩
      have hg : ∀ x ∈ numb 1 (linesB s), goodB x = true := by
        unfold linesP at he
        rw [if_neg h] at he
        exact goL_ok _ _ he
      exact ⟨hg, goL_all s (by omega) hg⟩
    · refine .inl ⟨he, ?_⟩
      unfold linesP at he ⊢
      rw [if_neg h] at he ⊢
      exact goL_nil _ _ he
theorem text_f (s : ByteArray) (h : s.size ≤ 140737488355328) : text_Lines.f s = some (linesP s) := if_pos h
theorem awake_f : shuttlelaw1_awake.f = some true := by
  have h1 : text_Lines.f (⟨#[97, 58, 32, 49, 10, 32, 32, 35, 32, 114, 10, 32, 32, 98, 32]⟩ : ByteArray) = some ([⟨1, 0, mkB [97, 58, 32, 49]⟩, ⟨3, 2, mkB [98]⟩], 0, 0, 0) := by kernel_rfl
  have h2 : text_Lines.f (⟨#[97, 10, 9, 98]⟩ : ByteArray) = some ([], 2, 1, 11) := by kernel_rfl
  unfold shuttlelaw1_awake.f
  rw [h1, h2]
  have : (mkB [98]).toList = [98] := by rw [ByteArray.toList_eq]; rfl
  simp [rd_T33, this]
theorem wr (i : Nat) (h : i < 4611686018427387904) : wrap64 ((i : Int) + 1) = ((i + 1 : Nat) : Int) := by unfold wrap64; omega
end Go.Proofs.YthddjlkgnmbomaaDoor.Q
