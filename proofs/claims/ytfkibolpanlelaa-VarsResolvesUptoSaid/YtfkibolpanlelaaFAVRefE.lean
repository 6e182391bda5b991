/- What the document's names, references, places, looking up and expanding tell, with no program in sight: what the program's tell. -/
import Derived.Test.YtfkibolpanlelaaFAVFour
import Derived.Test.YtfkibolpanlelaaFAQ4
namespace Go.Proofs.Ytfkibolpanlelaa.Q
open Go Go.RowKit Go.Shelf Go.Proofs.YtfkibolpanlelaaW.PrintWords Go.Proofs.YtfkibolpanlelaaW.PrintLast Go.Proofs.YtfkibolpanlelaaW.PrintMore Go.Proofs.Ytfkibolpanlelaa.SMap
set_option linter.unusedVariables false
set_option linter.unusedSimpArgs false
theorem toList_eq_iff {a b : ByteArray} : a.toList = b.toList ↔ a = b := by
  rw [ByteArray.toList_eq, ByteArray.toList_eq]
  exact ⟨fun h => ByteArray.ext (Array.toList_inj.mp h), fun h => by rw [h]⟩
theorem word_some (c : Int) : shuttleref2_wordByte.f c = some (letterB c) := by
  unfold shuttleref2_wordByte.f
  repeat' split
  all_goals (congr 1; rw [Bool.eq_iff_iff]; simp [letterB] <;> omega)
theorem vn_l0 (s : ByteArray) (h63 : s.size ≤ 64) : ∀ (d i : Nat), i + d = s.size → Ev (fun k => shuttleref2_VarName.l0 k s (i : Int)) (allFrom letterB s i)
  | 0, i, h => by
    refine Ev.step (fun k => by rw [shuttleref2_VarName.l0, if_neg (by omega)]) ?_
    rw [allFrom_end _ _ _ (by omega)]
    exact Ev.now _
  | d + 1, i, h => by
    have hi : i < s.size := by omega
    have hb : bt s (i : Int) = (s[i].toNat : Int) := (bt_at s (i : Int) (by simpa using hi)).symm
    refine Ev.step (fun k => by rw [shuttleref2_VarName.l0, if_pos (by omega), if_pos (by omega), word_some, Option.bind_some, hb, wrap_up (by omega)]) ?_
    rw [allFrom_step letterB s i hi]
    cases letterB (s[i].toNat : Int) with
    | true =>
      refine Ev.congr (fun k => by rw [if_pos rfl]) ?_
      exact vn_l0 s h63 d (i + 1) (by omega)
    | false => exact Ev.now _
theorem vn_j0 (s : ByteArray) (h63 : s.size ≤ 64) (b : Bool) : Ev (fun k => shuttleref2_VarName.j0 k s b) (!b && allFrom letterB s 0) := by
  cases b with
  | true =>
    refine Ev.step (fun k => by rw [shuttleref2_VarName.j0, if_pos rfl]) ?_
    exact Ev.now _
  | false =>
    refine Ev.step (fun k => by rw [shuttleref2_VarName.j0, if_neg (by decide)]) ?_
    exact vn_l0 s h63 s.size 0 (by omega)
theorem vn_bad (s : ByteArray) : Ev (fun k => shuttleref2_VarName.j0 k s true) false := by
  refine Ev.step (fun k => by rw [shuttleref2_VarName.j0, if_pos rfl]) ?_
  exact Ev.now _
theorem vn_ev (s : ByteArray) : Ev (fun k => shuttleref2_VarName.f k s) (varNameB s) := by
  unfold shuttleref2_VarName.f varNameB madeB
  by_cases h0 : s.size < 1
  · refine Ev.congr (fun k => by rw [if_pos (by omega)]) ?_
    rw [show decide (1 ≤ s.size) = false from decide_eq_false (by omega)]
    exact vn_bad s
  · refine Ev.congr (fun k => by rw [if_neg (by omega)]) ?_
    by_cases h1 : 64 < s.size
    · refine Ev.congr (fun k => by rw [if_pos (by omega)]) ?_
      rw [show decide (s.size ≤ 64) = false from decide_eq_false (by omega)]
      simpa using vn_bad s
    · refine Ev.congr (fun k => by rw [if_neg (by omega), if_pos (by omega)]) ?_
      rw [show decide (1 ≤ s.size) = true from decide_eq_true (by omega), show decide (s.size ≤ 64) = true from decide_eq_true (by omega)]
      by_cases h2 : 48 ≤ bt s 0
      · refine Ev.congr (fun k => by rw [if_pos (by omega)]) ?_
        have := vn_j0 s (by omega) (decide (bt s 0 ≤ 57))
        rw [Bool.and_comm] at this
        simpa [h2] using this
      · refine Ev.congr (fun k => by rw [if_neg (by omega)]) ?_
        have := vn_j0 s (by omega) false
        simpa [h2] using this
theorem ib_hit (c : UInt8) : ∀ pre post : List UInt8, (∀ b ∈ pre, b ≠ c) → Lib.indexByte (pre ++ c :: post) c = (pre.length : Int)
  | [], post, _ => by
    show (if (c == c) = true then (0 : Int) else _) = _
    rw [if_pos (by simp)]
    rfl
  | b :: pre, post, h => by
    have ih := ib_hit c pre post (fun x hx => h x (List.mem_cons_of_mem _ hx))
    have hb : (b == c) = false := beq_eq_false_iff_ne.2 (h b List.mem_cons_self)
    show (if (b == c) = true then (0 : Int) else if (Lib.indexByte (pre ++ c :: post) c == -1) = true then -1 else Lib.indexByte (pre ++ c :: post) c + 1) = _
    rw [hb, if_neg (by decide), ih, if_neg (by simp), List.length_cons]
    omega
theorem ib_none (c : UInt8) : ∀ q : List UInt8, (∀ b ∈ q, b ≠ c) → Lib.indexByte q c = -1
  | [], _ => rfl
  | b :: q, h => by
    have ih := ib_none c q (fun x hx => h x (List.mem_cons_of_mem _ hx))
    have hb : (b == c) = false := beq_eq_false_iff_ne.2 (h b List.mem_cons_self)
    show (if (b == c) = true then (0 : Int) else if (Lib.indexByte q c == -1) = true then -1 else Lib.indexByte q c + 1) = _
    rw [hb, if_neg (by decide), ih]
    rfl
def nmQ (Q : List UInt8) : ByteArray := ⟨(Lib.cut Q [125]).1.toArray⟩
def refT (Q : List UInt8) (at_ : Nat) : ByteArray × Int × Bool := if ((Lib.cut Q [125]).2.2 && varNameB (nmQ Q)) = true then (nmQ Q, ((at_ + ((nmQ Q).size + 2) + 1 : Nat) : Int), true) else (⟨#[]⟩, 0, false)
theorem cut_hit (pre post : List UInt8) (h : ∀ b ∈ pre, b ≠ 125) : Lib.cut (pre ++ 125 :: post) [125] = (pre, post, true) := by
  unfold Lib.cut
  rw [Lib.index_one, ib_hit 125 pre post h, if_pos (by omega), Int.toNat_natCast, List.take_left' rfl]
  congr 2
  rw [show ([125] : List UInt8).length = 1 from rfl, List.drop_append]
  simp
theorem cut_none (q : List UInt8) (h : ∀ b ∈ q, b ≠ 125) : Lib.cut q [125] = (q, [], false) := by
  unfold Lib.cut
  rw [Lib.index_one, ib_none 125 q h, if_neg (by decide)]
theorem u125 (c : UInt8) : (c.toNat : Int) = 125 ↔ c = 125 := by
  constructor
  · intro h
    have : c.toNat = 125 := by omega
    exact UInt8.toNat_inj.1 (by rw [this]; rfl)
  · rintro rfl; rfl
theorem u123 (c : UInt8) : (c.toNat : Int) = 123 ↔ c = 123 := by
  constructor
  · intro h
    have : c.toNat = 123 := by omega
    exact UInt8.toNat_inj.1 (by rw [this]; rfl)
  · rintro rfl; rfl
theorem cut_bytes (s : ByteArray) (a n : Nat) : s.extract a (a + n) = ⟨((s.data.toList.drop a).take n).toArray⟩ := by
  apply ByteArray.ext
  apply Array.toList_inj.1
  rw [ByteArray.data_extract, Array.toList_extract]
  show (List.drop a s.data.toList).take (a + n - a) = _
  rw [Nat.add_sub_cancel_left]
theorem ref_scan (s : ByteArray) (at_ : Nat) (hs : s.size ≤ 1073741824) (h2 : at_ + 2 ≤ s.size) : ∀ (q pre : List UInt8), pre ++ q = s.data.toList.drop (at_ + 2) → (∀ b ∈ pre, b ≠ 125) →
    Ev (fun k => shuttleref10_ref.l0 k s (at_ : Int) ((at_ + 2 + pre.length : Nat) : Int)) (refT (s.data.toList.drop (at_ + 2)) at_)
  | [], pre, h, hp => by
    have hl := congrArg List.length h
    rw [List.append_nil, List.length_drop, data_length] at hl
    rw [List.append_nil] at h
    refine Ev.step (fun k => by rw [shuttleref10_ref.l0, if_neg (by omega), if_pos (by omega)]) ?_
    have hc := cut_none pre hp
    rw [← h]
    unfold refT
    rw [hc]
    exact Ev.now _
  | b :: q, pre, h, hp => by
    have hl := congrArg List.length h
    rw [List.length_append, List.length_cons, List.length_drop, data_length] at hl
    have hat : s.data.toList[at_ + 2 + pre.length]? = some b := by
      have : (s.data.toList.drop (at_ + 2))[pre.length]? = some b := by rw [← h, List.getElem?_append_right (Nat.le_refl _), Nat.sub_self]; rfl
      rwa [List.getElem?_drop] at this
    have hb := bt_u s _ b hat
    have hw2 : wrap64 ((at_ : Int) + 2) = ((at_ + 2 : Nat) : Int) := by unfold wrap64; omega
    by_cases h125 : b = 125
    · subst h125
      have hex : s.extract (wrap64 ((at_ : Int) + 2)).toNat (((at_ + 2 + pre.length : Nat) : Int)).toNat = ⟨pre.toArray⟩ := by
        rw [hw2, Int.toNat_natCast, Int.toNat_natCast, cut_bytes, ← h, List.take_left' rfl]
      refine Ev.step (fun k => by rw [shuttleref10_ref.l0, if_pos (by omega), if_pos (by omega), hb, if_pos (by rfl), if_neg (by omega), if_pos (by omega), if_pos (by omega), if_pos (by omega), hex]) ?_
      refine Ev.bind (vn_ev _) ?_
      have hc := cut_hit pre q hp
      rw [← h]
      unfold refT nmQ
      rw [hc, Bool.true_and]
      show Ev _ (if varNameB ⟨pre.toArray⟩ = true then ((⟨pre.toArray⟩ : ByteArray), ((at_ + (pre.length + 2) + 1 : Nat) : Int), true) else ((⟨#[]⟩ : ByteArray), (0 : Int), false))
      by_cases hv : varNameB ⟨pre.toArray⟩ = true
      · rw [if_pos hv]
        refine Ev.congr (fun k => by rw [if_pos hv, wrap_up (by omega), show at_ + 2 + pre.length + 1 = at_ + (pre.length + 2) + 1 by omega]) (Ev.now _)
      · rw [if_neg hv]
        exact Ev.congr (fun k => by rw [if_neg hv]) (Ev.now _)
    · refine Ev.step (fun k => by rw [shuttleref10_ref.l0, if_pos (by omega), if_pos (by omega), hb, if_neg (fun x => h125 ((u125 b).1 x)), wrap_up (by omega)]) ?_
      have ih := ref_scan s at_ hs h2 q (pre ++ [b]) (by rw [List.append_assoc]; exact h) (fun x hx => by
        rcases List.mem_append.1 hx with hx | hx
        · exact hp x hx
        · rw [List.mem_singleton.1 hx]; exact h125)
      rw [List.length_append] at ih
      exact ih
def refQ (s : ByteArray) (at_ : Nat) : ByteArray × Int × Bool :=
  if prefAt s at_ [36, 36] = true then (⟨#[]⟩, ((at_ + 2 : Nat) : Int), true)
  else if refOk s at_ = true then (nameAt s at_, ((at_ + ((nameAt s at_).size + 2) + 1 : Nat) : Int), true) else (⟨#[]⟩, 0, false)
theorem ref_ev (s : ByteArray) (at_ : Nat) (hs : s.size ≤ 1073741824) (h : at_ < s.size) (h36 : bt s (at_ : Int) = 36) : Ev (fun k => shuttleref10_ref.f k s (at_ : Int)) (refQ s at_) := by
  have hj1 : Ev (fun k => shuttleref10_ref.j1 k s (at_ : Int) true) (⟨#[]⟩, 0, false) := Ev.step (fun k => by rw [shuttleref10_ref.j1, if_pos rfl]) (Ev.now _)
  have hlen : at_ < s.data.toList.length := by rw [data_length]; exact h
  have h0 : s.data.toList[at_] = 36 := by
    have := bt_u s at_ _ (List.getElem?_eq_getElem hlen)
    rw [h36] at this
    exact (u36 _).1 this.symm
  have hfr : (fromB s at_).data.toList = 36 :: s.data.toList.drop (at_ + 1) := by rw [from_list, List.drop_eq_getElem_cons hlen, h0]
  have hw1 : wrap64 ((at_ : Int) + 1) = ((at_ + 1 : Nat) : Int) := wrap_up (by omega)
  unfold shuttleref10_ref.f
  by_cases h1 : at_ + 1 < s.size
  · have hlen1 : at_ + 1 < s.data.toList.length := by rw [data_length]; exact h1
    have hb := bt_u s (at_ + 1) _ (List.getElem?_eq_getElem hlen1)
    have hfr2 : (fromB s at_).data.toList = 36 :: s.data.toList[at_ + 1] :: s.data.toList.drop (at_ + 2) := by rw [hfr, List.drop_eq_getElem_cons hlen1]
    generalize s.data.toList[at_ + 1] = b at hb hfr2
    refine Ev.congr (fun k => by rw [hw1, if_pos (by omega), if_pos (by omega), hb]) ?_
    by_cases hb36 : b = 36
    · subst hb36
      have hp : prefAt s at_ [36, 36] = true := by unfold prefAt; rw [hfr2]; rfl
      unfold refQ
      rw [if_pos hp]
      refine Ev.step (fun k => by rw [show (((36 : UInt8).toNat : Int) == 36) = true from rfl, shuttleref10_ref.j0, if_pos rfl]) ?_
      rw [show wrap64 ((at_ : Int) + 2) = ((at_ + 2 : Nat) : Int) by unfold wrap64; omega]
      exact Ev.now _
    · have hp : prefAt s at_ [36, 36] = false := by
        unfold prefAt
        rw [hfr2]
        show ((36 : UInt8) == 36 && ([36] : List UInt8).isPrefixOf (b :: _)) = false
        rw [Bool.and_eq_false_iff]
        refine .inr ?_
        show ((36 : UInt8) == b && _) = false
        rw [show ((36 : UInt8) == b) = false from beq_eq_false_iff_ne.2 (fun e => hb36 e.symm)]
        rfl
      unfold refQ
      rw [if_neg (by rw [hp]; decide)]
      have hbe : ((b.toNat : Int) == 36) = false := beq_eq_false_iff_ne.2 (fun e => hb36 ((u36 b).1 e))
      refine Ev.step (fun k => by rw [hbe, shuttleref10_ref.j0, if_neg (by decide), hw1, if_neg (by omega), if_pos (by omega), if_pos (by omega), hb]) ?_
      by_cases hb123 : b = 123
      · subst hb123
        have hsc := ref_scan s at_ hs (by omega) _ [] rfl (fun x hx => by cases hx)
        have hcut : cutAt s at_ = Lib.cut (s.data.toList.drop (at_ + 2)) [125] := by
          unfold cutAt
          rw [hfr2]
          rfl
        have hpr : prefAt s at_ [36, 123] = true := by unfold prefAt; rw [hfr2]; rfl
        have hnm : nameAt s at_ = nmQ (s.data.toList.drop (at_ + 2)) := by unfold nameAt nmQ; rw [hcut]
        refine Ev.step (fun k => by rw [show (((123 : UInt8).toNat : Int) != 123) = false from rfl, shuttleref10_ref.j1, if_neg (by decide)]) ?_
        rw [show wrap64 ((at_ : Int) + 2) = ((at_ + 2 + ([] : List UInt8).length : Nat) : Int) by show _ = ((at_ + 2 : Nat) : Int); unfold wrap64; omega]
        have he : (if refOk s at_ = true then (nameAt s at_, ((at_ + ((nameAt s at_).size + 2) + 1 : Nat) : Int), true) else ((⟨#[]⟩ : ByteArray), (0 : Int), false)) = refT (s.data.toList.drop (at_ + 2)) at_ := by
          unfold refT refOk
          rw [hnm, hcut, hpr, Bool.and_true]
        rw [he]
        exact hsc
      · have hr : refOk s at_ = false := by
          unfold refOk
          have : prefAt s at_ [36, 123] = false := by
            unfold prefAt
            rw [hfr2]
            show ((36 : UInt8) == 36 && ((123 : UInt8) == b && _)) = false
            rw [show ((123 : UInt8) == b) = false from beq_eq_false_iff_ne.2 (fun e => hb123 e.symm)]
            rfl
          rw [this, Bool.and_false, Bool.false_and]
        rw [if_neg (by rw [hr]; decide)]
        rw [show ((b.toNat : Int) != 123) = true from by rw [bne_iff_ne]; exact fun e => hb123 ((u123 b).1 e)]
        exact hj1
  · have hnil : s.data.toList.drop (at_ + 1) = [] := List.drop_eq_nil_of_le (by rw [data_length]; omega)
    rw [hnil] at hfr
    have hp : prefAt s at_ [36, 36] = false := by unfold prefAt; rw [hfr]; rfl
    have hp2 : prefAt s at_ [36, 123] = false := by unfold prefAt; rw [hfr]; rfl
    have hr : refOk s at_ = false := by unfold refOk; rw [hp2, Bool.and_false, Bool.false_and]
    unfold refQ
    rw [if_neg (by rw [hp]; decide), if_neg (by rw [hr]; decide)]
    refine Ev.congr (fun k => by rw [hw1, if_neg (by omega)]) ?_
    refine Ev.step (fun k => by rw [shuttleref10_ref.j0, if_neg (by decide), hw1, if_pos (by omega)]) hj1
def idxI : List SV → ByteArray → Nat → Int
  | [], _, _ => -1
  | v :: r, nm, i => if v.f0 = nm then (i : Int) else idxI r nm (i + 1)
theorem idx_l0 (l : List SV) (nm : ByteArray) (hl : l.length ≤ 1048576) : ∀ (d i : Nat), i + d = l.length → Ev (fun k => shuttleref10_Index.l0 k l nm (i : Int)) (idxI (l.drop i) nm i)
  | 0, i, h => by
    refine Ev.step (fun k => by rw [shuttleref10_Index.l0, if_neg (by omega)]) ?_
    rw [List.drop_eq_nil_of_le (by omega)]
    exact Ev.now _
  | d + 1, i, h => by
    have hi : i < l.length := by omega
    rw [List.drop_eq_getElem_cons hi]
    refine Ev.step (fun k => by rw [shuttleref10_Index.l0, if_pos (by omega), if_pos (by omega), rd_var _ _ hi]) ?_
    unfold idxI
    by_cases he : l[i].f0 = nm
    · rw [if_pos he]
      exact Ev.congr (fun k => by rw [if_pos (toList_eq_iff.2 he)]) (Ev.now _)
    · rw [if_neg he]
      exact Ev.congr (fun k => by rw [if_neg (fun x => he (toList_eq_iff.1 x)), wrap_up (by omega)]) (idx_l0 l nm hl d (i + 1) (by omega))
theorem idx_ev (l : List SV) (nm : ByteArray) (hl : l.length ≤ 1048576) : Ev (fun k => shuttleref10_Index.f k l nm) (idxI l nm 0) := idx_l0 l nm hl l.length 0 (by omega)
theorem idx_get (nm : ByteArray) (l : List SV) : ∀ (r : List SV) (i : Nat), l.drop i = r → (idxI r nm i = -1 ∧ findV r nm = none) ∨ ∃ (j : Nat) (h : j < l.length), idxI r nm i = (j : Int) ∧ findV r nm = some l[j]
  | [], i, _ => .inl ⟨rfl, rfl⟩
  | v :: r, i, h => by
    have hi : i < l.length := by
      have := congrArg List.length h
      rw [List.length_drop, List.length_cons] at this
      omega
    have hv : l[i] = v ∧ l.drop (i + 1) = r := by
      rw [List.drop_eq_getElem_cons hi] at h
      injection h with h1 h2
      exact ⟨h1, h2⟩
    unfold idxI findV
    by_cases he : v.f0 = nm
    · rw [if_pos he, List.find?_cons_of_pos (by simp [he])]
      exact .inr ⟨i, hi, rfl, by rw [hv.1]⟩
    · rw [if_neg he, List.find?_cons_of_neg (by simp [he])]
      exact idx_get nm l r (i + 1) hv.2
theorem name_pos {s : ByteArray} (h : varNameB s = true) : s.toList ≠ [] := fun e => by
  have h0 := (empty_iff s).1 e
  unfold varNameB madeB at h
  rw [h0] at h
  simp at h
end Go.Proofs.Ytfkibolpanlelaa.Q
