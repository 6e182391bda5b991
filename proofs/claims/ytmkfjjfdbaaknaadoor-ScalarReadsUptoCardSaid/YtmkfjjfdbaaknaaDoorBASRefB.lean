/- The document's value and Read come to what the program's come to. -/
import Derived.Test.YtmkfjjfdbaaknaaDoorBASRef
import Derived.Lib.IndexMore
namespace Go.Proofs.YtmkfjjfdbaaknaaDoor.Q
open Go Go.RowKit Go.Proofs.YtmkfjjfdbaaknaaDoorW.PrintWords Go.Proofs.YtmkfjjfdbaaknaaDoorW.PrintLast Go.Proofs.YtmkfjjfdbaaknaaDoorW.PrintMore
set_option linter.unusedVariables false
set_option linter.unusedSimpArgs false
/-- The place of the first blank with a remark's sign behind it; else the end. -/
def hashN : List UInt8 → Nat
  | [] => 0
  | c :: r => if c = 32 ∧ r.head? = some 35 then 0 else hashN r + 1
theorem hashN_le : ∀ l, hashN l ≤ l.length
  | [] => Nat.le_refl _
  | c :: r => by
    unfold hashN
    split
    · omega
    · have := hashN_le r
      rw [List.length_cons]
      omega
theorem pre2 (c : UInt8) (r : List UInt8) : ([32, 35] : List UInt8).isPrefixOf (c :: r) = true ↔ c = 32 ∧ r.head? = some 35 := by
  have e : ([32, 35] : List UInt8).isPrefixOf (c :: r) = ((32 == c) && ([35] : List UInt8).isPrefixOf r) := rfl
  rw [e, Bool.and_eq_true, beq_iff_eq]
  cases r with
  | nil =>
    constructor
    · intro h
      cases h.2
    · intro h
      cases h.2
  | cons d r =>
    have e2 : ([35] : List UInt8).isPrefixOf (d :: r) = ((35 == d) && true) := by
      cases r <;> rfl
    rw [e2, Bool.and_true, beq_iff_eq]
    constructor
    · rintro ⟨h1, h2⟩
      exact ⟨h1.symm, by rw [← h2]; rfl⟩
    · rintro ⟨h1, h2⟩
      exact ⟨h1.symm, (Option.some.inj h2).symm⟩
theorem index_hash : ∀ l : List UInt8, Lib.index l [32, 35] = if hashN l < l.length then (hashN l : Int) else -1
  | [] => rfl
  | c :: r => by
    unfold Lib.index hashN
    by_cases h : c = 32 ∧ r.head? = some 35
    · rw [if_pos ((pre2 c r).2 h), if_pos h, if_pos (by simp)]
      rfl
    · rw [if_neg (fun h2 => h ((pre2 c r).1 h2)), if_neg h, index_hash r]
      have := hashN_le r
      by_cases h2 : hashN r < r.length
      · rw [if_pos h2, if_neg (show ¬ (((hashN r : Nat) : Int) == -1) = true by rw [beq_iff_eq]; omega), if_pos (by rw [List.length_cons]; omega)]
        rfl
      · rw [if_neg h2, if_pos (show ((-1 : Int) == -1) = true by decide), if_neg (by rw [List.length_cons]; omega)]
theorem cut_hash (l : List UInt8) : (Lib.cut l [32, 35]).1 = l.take (hashN l) := by
  unfold Lib.cut
  rw [index_hash]
  have := hashN_le l
  by_cases h : hashN l < l.length
  · rw [if_pos h, if_pos (by omega)]
    rfl
  · rw [if_neg h, if_neg (by decide)]
    rw [List.take_of_length_le (by omega)]
theorem trimR_nil : Lib.trimRightB [] 32 = [] := rfl
theorem trimR_blank (l : List UInt8) : Lib.trimRightB (l ++ [32]) 32 = Lib.trimRightB l 32 := by
  unfold Lib.trimRightB
  rw [List.reverse_append]
  rfl
theorem trimR_other (l : List UInt8) (c : UInt8) (h : c ≠ 32) : Lib.trimRightB (l ++ [c]) 32 = l ++ [c] := by
  unfold Lib.trimRightB
  rw [List.reverse_append, List.reverse_singleton, List.singleton_append, List.dropWhile_cons, if_neg (by simpa using h)]
  simp
theorem u32 (c : UInt8) : (c.toNat : Int) = 32 ↔ c = 32 := by
  constructor
  · intro h
    exact UInt8.toNat_inj.1 (by rw [show (32 : UInt8).toNat = 32 from rfl]; omega)
  · intro h
    subst h
    rfl
theorem u35 (c : UInt8) : (c.toNat : Int) = 35 ↔ c = 35 := by
  constructor
  · intro h
    exact UInt8.toNat_inj.1 (by rw [show (35 : UInt8).toNat = 35 from rfl]; omega)
  · intro h
    subst h
    rfl
section
variable (L : List UInt8) (hL : L.length ≤ 1073741824) (a : Nat) (c0 : Int) (c1 : ByteArray) (c2 : Bool) (c3 : ByteArray) (c4 c5 c6 : Int) (r : Int × ByteArray × Bool × ByteArray × Int × Int × Int × Int × Int)
include hL
theorem value_l1 : ∀ d : Nat, a + d ≤ L.length → Ev (fun k => shuttleref2_value.j4 k (mkB L) (a : Int) ((a + (Lib.trimRightB ((L.drop a).take d) 32).length : Nat) : Int) c0 c1 c2 c3 c4 c5 c6) r → Ev (fun k => shuttleref2_value.l1 k (mkB L) (a : Int) ((a + d : Nat) : Int) c0 c1 c2 c3 c4 c5 c6) r
  | 0, hd, h => by
    rw [List.take_zero, trimR_nil] at h
    exact Ev.step (fun k => by rw [shuttleref2_value.l1, if_neg (by omega)]; rfl) h
  | d + 1, hd, h => by
    have hlt : a + d < L.length := by omega
    have hw : wrap64 (((a + (d + 1) : Nat) : Int) - 1) = ((a + d : Nat) : Int) := by rw [wrI _ (by omega) (by omega)]; omega
    have hb : bt (mkB L) ((a + d : Nat) : Int) = (L[a + d].toNat : Int) := bt_mk L (a + d) _ (List.getElem?_eq_getElem hlt)
    have ht : (L.drop a).take (d + 1) = (L.drop a).take d ++ [L[a + d]] := by
      rw [List.take_succ_eq_append_getElem (by rw [List.length_drop]; omega), List.getElem_drop]
    rw [ht] at h
    by_cases hc : L[a + d] = 32
    · rw [hc, trimR_blank] at h
      refine Ev.step (f := fun k => shuttleref2_value.l1 k (mkB L) (a : Int) ((a + d : Nat) : Int) c0 c1 c2 c3 c4 c5 c6) (fun k => by
        rw [shuttleref2_value.l1, if_pos (by omega), hw, if_pos (by omega), mkB_size, if_pos (by omega), hb, if_pos ((u32 _).2 hc)]) (value_l1 d (by omega) h)
    · rw [trimR_other _ _ hc] at h
      have hlen : ((L.drop a).take d ++ [L[a + d]]).length = d + 1 := by
        rw [List.length_append, List.length_take, List.length_drop, List.length_singleton]
        omega
      rw [hlen] at h
      refine Ev.step (fun k => by
        rw [shuttleref2_value.l1, if_pos (by omega), hw, if_pos (by omega), mkB_size, if_pos (by omega), hb, if_neg (fun h => hc ((u32 _).1 h))]) h
theorem value_l0 : ∀ n x : Nat, x + n = L.length → a ≤ x → Ev (fun k => shuttleref2_value.j2 k (mkB L) (a : Int) ((x + hashN (L.drop x) : Nat) : Int) c0 c1 c2 c3 c4 c5 c6) r → Ev (fun k => shuttleref2_value.l0 k (mkB L) (a : Int) (x : Int) c0 c1 c2 c3 c4 c5 c6) r
  | 0, x, hx, ha, h => by
    have : x = L.length := by omega
    subst this
    rw [List.drop_length] at h
    exact Ev.step (fun k => by rw [shuttleref2_value.l0, mkB_size, if_neg (by omega)]; rfl) h
  | n + 1, x, hx, ha, h => by
    have hlt : x < L.length := by omega
    have hb : bt (mkB L) (x : Int) = (L[x].toNat : Int) := bt_mk L x _ (List.getElem?_eq_getElem hlt)
    have hw := wrN x (by omega)
    rw [drop_cons L x hlt] at h
    have hgo : ¬ (L[x] = 32 ∧ (L.drop (x + 1)).head? = some 35) → Ev (fun k => shuttleref2_value.l0 k (mkB L) (a : Int) ((x + 1 : Nat) : Int) c0 c1 c2 c3 c4 c5 c6) r := by
      intro hn
      refine value_l0 n (x + 1) (by omega) (by omega) ?_
      rw [hashN, if_neg hn] at h
      rwa [show x + 1 + hashN (L.drop (x + 1)) = x + (hashN (L.drop (x + 1)) + 1) from by omega]
    by_cases hc : L[x] = 32
    · by_cases h1 : x + 1 < L.length
      · have hb1 : bt (mkB L) ((x + 1 : Nat) : Int) = (L[x + 1].toNat : Int) := bt_mk L (x + 1) _ (List.getElem?_eq_getElem h1)
        have hd1 : (L.drop (x + 1)).head? = some L[x + 1] := by rw [drop_cons L (x + 1) h1]; rfl
        by_cases h35 : L[x + 1] = 35
        · rw [hashN, if_pos ⟨hc, by rw [hd1, h35]⟩] at h
          refine Ev.step (fun k => by
            rw [shuttleref2_value.l0, mkB_size, if_pos (by omega), if_pos (by omega), hb, if_pos ((u32 _).2 hc), hw, if_pos (by omega), if_pos (by omega), hb1, if_pos ((u35 _).2 h35)]; rfl) h
        · refine Ev.step (fun k => by
            rw [shuttleref2_value.l0, mkB_size, if_pos (by omega), if_pos (by omega), hb, if_pos ((u32 _).2 hc), hw, if_pos (by omega), if_pos (by omega), hb1, if_neg (fun h => h35 ((u35 _).1 h))]) (hgo (fun hh => h35 (by rw [hd1] at hh; exact Option.some.inj hh.2)))
      · refine Ev.step (fun k => by
          rw [shuttleref2_value.l0, mkB_size, if_pos (by omega), if_pos (by omega), hb, if_pos ((u32 _).2 hc), hw, if_neg (by omega)]) (hgo (fun hh => by rw [List.drop_eq_nil_of_le (by omega)] at hh; cases hh.2))
    · refine Ev.step (fun k => by
        rw [shuttleref2_value.l0, mkB_size, if_pos (by omega), if_pos (by omega), hb, if_neg (fun h => hc ((u32 _).1 h)), hw]) (hgo (fun hh => hc hh.1))
end
def tup9 (r : RP) : Int × ByteArray × Bool × ByteArray × Int × Int × Int × Int × Int := (r.2.2.f0, r.2.2.f1, r.2.2.f2, r.2.2.f3, r.2.2.f4, r.2.2.f5, r.2.2.f6, r.2.1, r.1)
/-- A value, from a place on, as an answer: where it gives up nothing comes out. -/
def finR (v : RP) : RP := if v.1 = 0 then (0, 0, v.2.2) else (v.1, v.2.1, zCT)
theorem finR_ok (c : CT) : finR (0, 0, c) = (0, 0, c) := if_pos rfl
theorem finR_err (w j : Int) (c : CT) (h : w ≠ 0) : finR (w, j, c) = (w, j, zCT) := if_neg h
def valR (s : ByteArray) (i : Nat) (c : CT) : RP := finR (valueP s i (qOf s i) c)
theorem mkB_cut (L : List UInt8) (i j : Nat) (hj : i + j ≤ L.length) : (mkB L).extract i (i + j) = mkB ((L.drop i).take j) := by
  apply ByteArray.ext
  apply Array.toList_inj.1
  rw [ByteArray.data_extract]
  show ((L.toArray).extract i (i + j)).toList = (L.drop i).take j
  simp
theorem trimR_le (l : List UInt8) : (Lib.trimRightB l 32).length ≤ l.length := by
  unfold Lib.trimRightB
  rw [List.length_reverse]
  have := (List.dropWhile_suffix (l := l.reverse) (fun x => x == 32)).length_le
  simpa using this
theorem trimR_take (l : List UInt8) : Lib.trimRightB l 32 = l.take (Lib.trimRightB l 32).length := by
  have h : Lib.trimRightB l 32 <+: l := by
    unfold Lib.trimRightB
    have := (List.dropWhile_suffix (l := l.reverse) (fun x => x == 32))
    have h2 := List.reverse_prefix.2 this
    rwa [List.reverse_reverse] at h2
  exact List.prefix_iff_eq_take.1 h
theorem value_bare (L : List UInt8) (hL : L.length ≤ 1073741824) (i : Nat) (hi : i ≤ L.length) (c : CT) (h3 : c.f3 = ⟨#[]⟩) :
    Ev (fun k => shuttleref2_value.l0 k (mkB L) (i : Int) (i : Int) c.f0 c.f1 c.f2 c.f3 c.f4 c.f5 c.f6) (tup9 (0, 0, bareC (bareT (mkB L) i) c)) := by
  refine value_l0 L hL i c.f0 c.f1 c.f2 c.f3 c.f4 c.f5 c.f6 _ (L.length - i) i (by omega) (Nat.le_refl _) ?_
  have hh := hashN_le (L.drop i)
  rw [List.length_drop] at hh
  refine Ev.step (f := fun k => shuttleref2_value.l1 k (mkB L) (i : Int) ((i + hashN (L.drop i) : Nat) : Int) c.f0 c.f1 c.f2 c.f3 c.f4 c.f5 c.f6) (fun k => by rw [shuttleref2_value.j2]) ?_
  refine value_l1 L hL i c.f0 c.f1 c.f2 c.f3 c.f4 c.f5 c.f6 _ (hashN (L.drop i)) (by omega) ?_
  have hbt : bareT (mkB L) i = mkB (Lib.trimRightB ((L.drop i).take (hashN (L.drop i))) 32) := by
    unfold bareT
    rw [mkB_extract, mkB_list, cut_hash]
    rfl
  have hle := trimR_le ((L.drop i).take (hashN (L.drop i)))
  rw [List.length_take, List.length_drop] at hle
  have htk := trimR_take ((L.drop i).take (hashN (L.drop i)))
  rw [hbt]
  generalize hT : Lib.trimRightB ((L.drop i).take (hashN (L.drop i))) 32 = T at hle htk ⊢
  have hcut : (mkB L).extract i (i + T.length) = mkB T := by
    rw [mkB_cut L i T.length (by omega)]
    congr 1
    rw [List.take_take, Nat.min_eq_left (by omega)] at htk
    exact htk.symm
  have htl : (mkB T).toList = T := mkB_nil T
  have hj : ∀ k, shuttleref2_value.j4 (k + 1) (mkB L) (i : Int) ((i + T.length : Nat) : Int) c.f0 c.f1 c.f2 c.f3 c.f4 c.f5 c.f6 = (if T = [91, 93] then (if ([] : List UInt8) = ([123, 125] : List UInt8) then (some (c.f0, c.f1, c.f2, (⟨#[]⟩ : ByteArray), 2, c.f5, c.f6, 0, 0)) else (some (c.f0, c.f1, c.f2, (⟨#[]⟩ : ByteArray), 1, c.f5, c.f6, 0, 0))) else (if T = [123, 125] then (some (c.f0, c.f1, c.f2, (⟨#[]⟩ : ByteArray), 2, c.f5, c.f6, 0, 0)) else (some (c.f0, c.f1, c.f2, mkB T, c.f4, c.f5, c.f6, 0, 0)))) := fun k => by
    rw [shuttleref2_value.j4, if_pos (by omega), if_pos (by omega), mkB_size, if_pos (by omega), Int.toNat_natCast, Int.toNat_natCast, hcut, htl]
  unfold bareC
  rw [htl]
  by_cases h1 : T = [91, 93]
  · rw [if_pos h1]
    rw [if_pos h1, if_neg (by decide), ← h3] at hj
    exact Ev.step hj (Ev.now _)
  · rw [if_neg h1]
    rw [if_neg h1] at hj
    by_cases h2 : T = [123, 125]
    · rw [if_pos h2]
      rw [if_pos h2, ← h3] at hj
      exact Ev.step hj (Ev.now _)
    · rw [if_neg h2]
      rw [if_neg h2] at hj
      exact Ev.step hj (Ev.now _)
/-- What stands behind a quoted value: g is the place behind the blanks. -/
def tailP (s : ByteArray) (g j i : Nat) (says : ByteArray) (c : CT) : RP := if g < s.size ∧ (bt s (g : Int) ≠ 35 ∨ g = j) then (22, (g : Int) + 1, c) else (0, 0, { c with f2 := true, f6 := (i : Int) + 1, f3 := says })
theorem value_q (s : ByteArray) (hs : s.size ≤ 1073741824) (i j : Nat) (hi : i ≤ s.size) (hj : j ≤ s.size) (says : ByteArray) (c : CT) :
    Ev (fun k => (shuttleref2_skip.f k s (j : Int)).bind fun t134 => (if t134 < (s.size : Int) then (if 0 ≤ t134 then (if (bt s t134) = 35 then (if t134 = (j : Int) then (some (0, (⟨#[]⟩ : ByteArray), false, (⟨#[]⟩ : ByteArray), 0, 0, 0, wrap64 (t134 + 1), 22)) else (some (c.f0, c.f1, true, says, c.f4, c.f5, wrap64 ((i : Int) + 1), 0, 0))) else (some (0, (⟨#[]⟩ : ByteArray), false, (⟨#[]⟩ : ByteArray), 0, 0, 0, wrap64 (t134 + 1), 22))) else (none)) else (some (c.f0, c.f1, true, says, c.f4, c.f5, wrap64 ((i : Int) + 1), 0, 0))))
      (tup9 (finR (tailP s (gapOf s j) j i says c))) := by
  have hgj := gapOf_le s j hj
  refine Ev.bind (skip_ev s hs j hj) ?_
  generalize gapOf s j = g at hgj ⊢
  have wi : wrap64 ((i : Int) + 1) = (i : Int) + 1 := wrI _ (by omega) (by omega)
  have wg : wrap64 ((g : Int) + 1) = (g : Int) + 1 := wrI _ (by omega) (by omega)
  rw [wi, wg]
  by_cases hg : g < s.size
  · have hg1 : (g : Int) < (s.size : Int) := by omega
    have hg0 : (0 : Int) ≤ (g : Int) := by omega
    by_cases h1 : bt s (g : Int) = 35
    · by_cases h2 : g = j
      · subst h2
        rw [show tailP s g g i says c = (22, (g : Int) + 1, c) from if_pos ⟨hg, .inr rfl⟩, finR_err _ _ _ (by decide)]
        exact Ev.congr (f := fun _ => some (0, (⟨#[]⟩ : ByteArray), false, (⟨#[]⟩ : ByteArray), 0, 0, 0, (g : Int) + 1, 22)) (fun k => by rw [if_pos hg1, if_pos hg0, if_pos h1, if_pos rfl]) (Ev.now _)
      · rw [show tailP s g j i says c = (0, 0, { c with f2 := true, f6 := (i : Int) + 1, f3 := says }) from if_neg (fun h => h.2.elim (fun h => h h1) h2), finR_ok]
        exact Ev.congr (f := fun _ => some (c.f0, c.f1, true, says, c.f4, c.f5, (i : Int) + 1, 0, 0)) (fun k => by rw [if_pos hg1, if_pos hg0, if_pos h1, if_neg (show ¬ (g : Int) = (j : Int) by omega)]) (Ev.now _)
    · rw [show tailP s g j i says c = (22, (g : Int) + 1, c) from if_pos ⟨hg, .inl h1⟩, finR_err _ _ _ (by decide)]
      exact Ev.congr (f := fun _ => some (0, (⟨#[]⟩ : ByteArray), false, (⟨#[]⟩ : ByteArray), 0, 0, 0, (g : Int) + 1, 22)) (fun k => by rw [if_pos hg1, if_pos hg0, if_neg h1]) (Ev.now _)
  · rw [show tailP s g j i says c = (0, 0, { c with f2 := true, f6 := (i : Int) + 1, f3 := says }) from if_neg (fun h => hg h.1), finR_ok]
    exact Ev.congr (f := fun _ => some (c.f0, c.f1, true, says, c.f4, c.f5, (i : Int) + 1, 0, 0)) (fun k => by rw [if_neg (show ¬ (g : Int) < (s.size : Int) by omega)]) (Ev.now _)
/-- The document's value at a place. -/
theorem value_ev (s : ByteArray) (hs : s.size ≤ 1073741824) (a : Nat) (ha : a ≤ s.size) (c : CT) (h3 : c.f3 = ⟨#[]⟩) :
    Ev (fun k => shuttleref2_value.f k s (a : Int) c.f0 c.f1 c.f2 c.f3 c.f4 c.f5 c.f6) (tup9 (valR s (gapOf s a) c)) := by
  have hg := gapOf_le s a ha
  refine Ev.bind (skip_ev s hs a ha) ?_
  generalize gapOf s a = i at hg ⊢
  unfold valR valueP
  by_cases hend : s.size ≤ i
  · rw [if_pos hend, finR_ok]
    refine Ev.congr (f := fun k => shuttleref2_value.j0 k s (i : Int) true c.f0 c.f1 c.f2 c.f3 c.f4 c.f5 c.f6) (fun k => if_pos (show (i : Int) = (s.size : Int) by omega)) ?_
    exact Ev.step (f := fun _ => some (c.f0, c.f1, c.f2, c.f3, c.f4, c.f5, c.f6, 0, 0)) (fun k => by rw [shuttleref2_value.j0, if_pos rfl]) (Ev.now _)
  · rw [if_neg hend]
    refine Ev.congr (f := fun k => shuttleref2_value.j0 k s (i : Int) (bt s (i : Int) == 35) c.f0 c.f1 c.f2 c.f3 c.f4 c.f5 c.f6) (fun k => by rw [if_neg (show ¬ (i : Int) = (s.size : Int) by omega), if_pos (show 0 ≤ (i : Int) by omega), if_pos (show (i : Int) < (s.size : Int) by omega)]) ?_
    by_cases h35 : bt s (i : Int) = 35
    · rw [if_pos h35, finR_ok]
      exact Ev.step (f := fun _ => some (c.f0, c.f1, c.f2, c.f3, c.f4, c.f5, c.f6, 0, 0)) (fun k => by rw [shuttleref2_value.j0, if_pos (by simp [h35])]) (Ev.now _)
    · rw [if_neg h35]
      by_cases h34 : bt s (i : Int) = 34
      · rw [if_pos h34]
        have hq := refquoted_ev s hs i (by omega)
        have hr := qOf_range s i (by omega)
        generalize qOf s i = q at hq hr ⊢
        obtain ⟨says, n, ok⟩ := q
        have hr' : 0 ≤ n ∧ (i : Int) + n ≤ s.size := hr
        obtain ⟨j, hj⟩ : ∃ j : Nat, (i : Int) + n = (j : Int) := ⟨((i : Int) + n).toNat, by omega⟩
        have hj2 : ((i : Int) + n).toNat = j := by omega
        have hq2 : Ev (fun k => shuttleref2_Quoted.f k s (i : Int)) (says, (j : Int), ok) := hj ▸ hq
        have hstep : ∀ k, shuttleref2_value.j0 (k + 1) s (i : Int) (bt s (i : Int) == 35) c.f0 c.f1 c.f2 c.f3 c.f4 c.f5 c.f6 = (shuttleref2_Quoted.f k s (i : Int)).bind fun bt131 => (if bt131.2.2 = true then ((shuttleref2_skip.f k s bt131.2.1).bind fun t134 => (if t134 < (s.size : Int) then (if 0 ≤ t134 then (if (bt s t134) = 35 then (if t134 = bt131.2.1 then (some (0, (⟨#[]⟩ : ByteArray), false, (⟨#[]⟩ : ByteArray), 0, 0, 0, wrap64 (t134 + 1), 22)) else (some (c.f0, c.f1, true, bt131.1, c.f4, c.f5, wrap64 ((i : Int) + 1), 0, 0))) else (some (0, (⟨#[]⟩ : ByteArray), false, (⟨#[]⟩ : ByteArray), 0, 0, 0, wrap64 (t134 + 1), 22))) else (none)) else (some (c.f0, c.f1, true, bt131.1, c.f4, c.f5, wrap64 ((i : Int) + 1), 0, 0)))) else (some (0, (⟨#[]⟩ : ByteArray), false, (⟨#[]⟩ : ByteArray), 0, 0, 0, wrap64 (bt131.2.1 + 1), 21))) := fun k => by
          rw [shuttleref2_value.j0, if_neg (by simp [h35]), if_pos (by omega), if_pos (by omega), if_pos h34]
        refine Ev.step hstep (Ev.bind hq2 ?_)
        cases ok with
        | false =>
          have e : (if ((says, n, false) : ByteArray × Int × Bool).2.2 = true then (if gapOf s ((i : Int) + ((says, n, false) : ByteArray × Int × Bool).2.1).toNat < s.size ∧ (bt s (gapOf s ((i : Int) + ((says, n, false) : ByteArray × Int × Bool).2.1).toNat : Int) ≠ 35 ∨ gapOf s ((i : Int) + ((says, n, false) : ByteArray × Int × Bool).2.1).toNat = ((i : Int) + ((says, n, false) : ByteArray × Int × Bool).2.1).toNat) then (22, (gapOf s ((i : Int) + ((says, n, false) : ByteArray × Int × Bool).2.1).toNat : Int) + 1, c) else (0, 0, { c with f2 := true, f6 := (i : Int) + 1, f3 := ((says, n, false) : ByteArray × Int × Bool).1 }) : RP) else (21, (i : Int) + ((says, n, false) : ByteArray × Int × Bool).2.1 + 1, c)) = (21, (i : Int) + n + 1, c) := if_neg (show ¬ (false = true) by decide)
          rw [e, finR_err _ _ _ (by decide)]
          exact Ev.congr (f := fun _ => some (0, (⟨#[]⟩ : ByteArray), false, (⟨#[]⟩ : ByteArray), 0, 0, 0, (i : Int) + n + 1, 21)) (fun k => by
            refine (if_neg (fun h => by cases h)).trans ?_
            show some (0, (⟨#[]⟩ : ByteArray), false, (⟨#[]⟩ : ByteArray), 0, 0, 0, wrap64 ((j : Int) + 1), 21) = _
            rw [wrI _ (by omega) (by omega), hj]) (Ev.now _)
        | true =>
          have e : (if ((says, n, true) : ByteArray × Int × Bool).2.2 = true then (if gapOf s ((i : Int) + ((says, n, true) : ByteArray × Int × Bool).2.1).toNat < s.size ∧ (bt s (gapOf s ((i : Int) + ((says, n, true) : ByteArray × Int × Bool).2.1).toNat : Int) ≠ 35 ∨ gapOf s ((i : Int) + ((says, n, true) : ByteArray × Int × Bool).2.1).toNat = ((i : Int) + ((says, n, true) : ByteArray × Int × Bool).2.1).toNat) then (22, (gapOf s ((i : Int) + ((says, n, true) : ByteArray × Int × Bool).2.1).toNat : Int) + 1, c) else (0, 0, { c with f2 := true, f6 := (i : Int) + 1, f3 := ((says, n, true) : ByteArray × Int × Bool).1 }) : RP) else (21, (i : Int) + ((says, n, true) : ByteArray × Int × Bool).2.1 + 1, c)) = tailP s (gapOf s j) j i says c := by
            rw [← hj2]
            exact if_pos rfl
          rw [e]
          exact Ev.congr (fun k => if_pos rfl) (value_q s hs i j (by omega) (by omega) says c)
      · rw [if_neg h34, finR_ok]
        have wi : wrap64 ((i : Int) + 1) = (i : Int) + 1 := wrI _ (by omega) (by omega)
        refine Ev.step (f := fun k => shuttleref2_value.l0 k s (i : Int) (i : Int) c.f0 c.f1 true c.f3 c.f4 c.f5 ((i : Int) + 1)) (fun k => by
          rw [shuttleref2_value.j0, if_neg (by simp [h35]), if_pos (by omega), if_pos (by omega), if_neg h34, wi]) ?_
        have h := value_bare s.data.toList hs i (by have : s.data.toList.length = s.size := rfl; omega) { c with f2 := true, f6 := (i : Int) + 1 } h3
        rw [mkB_of] at h
        exact h
/-- What a head comes to in the end. -/
def endP (s : ByteArray) (h : HP) : RP := if h.1 = 0 then valR s (gapOf s h.2.2.1) h.2.2.2 else (h.1, h.2.1, zCT)
theorem readP_end (s : ByteArray) : readP s = endP s (headP s (qOf s 0)) := rfl
theorem endP_err (s : ByteArray) (w j : Int) (n : Nat) (c : CT) (h : w ≠ 0) : endP s (w, j, n, c) = (w, j, zCT) := if_neg h
theorem endP_ok (s : ByteArray) (n : Nat) (c : CT) : endP s (0, 0, n, c) = valR s (gapOf s n) c := if_pos rfl
theorem colon_ev (s : ByteArray) (hs : s.size ≤ 1073741824) (key : ByteArray) (a : Nat) (ha : a ≤ s.size) :
    Ev (fun k => shuttleref2_Read.j3 k s (a : Int) 1 key false ⟨#[]⟩ 0 1 0) (tup9 (endP s (colonP s key a))) := by
  have w1 := wrN a (by omega)
  have w2 : wrap64 ((a : Int) + 2) = (a : Int) + 2 := wrI _ (by omega) (by omega)
  unfold colonP
  have hbad : ∀ j : Int, Ev (fun _ => some (0, (⟨#[]⟩ : ByteArray), false, (⟨#[]⟩ : ByteArray), 0, 0, 0, j, 20)) (tup9 (endP s (20, j, 0, c1E))) := fun j => by
    rw [endP_err _ _ _ _ _ (by decide)]
    exact Ev.now _
  by_cases h1 : s.size ≤ a ∨ bt s (a : Int) ≠ 58
  · rw [if_pos h1]
    have h4 : Ev (fun k => shuttleref2_Read.j4 k s (a : Int) true 1 key false ⟨#[]⟩ 0 1 0) (tup9 (endP s (20, (a : Int) + 1, 0, c1E))) :=
      Ev.step (fun k => by rw [shuttleref2_Read.j4, if_pos rfl, w1, show ((a + 1 : Nat) : Int) = (a : Int) + 1 from by omega]) (hbad _)
    by_cases h2 : (a : Int) = (s.size : Int)
    · exact Ev.step (fun k => by rw [shuttleref2_Read.j3, if_pos h2]) h4
    · refine Ev.step (fun k => ?_) h4
      have h3 : bt s (a : Int) ≠ 58 := h1.resolve_left (by omega)
      rw [shuttleref2_Read.j3, if_neg h2, if_pos (show 0 ≤ (a : Int) by omega), if_pos (show (a : Int) < (s.size : Int) by omega), show (bt s (a : Int) != 58) = true from bne_iff_ne.mpr h3]
  · rw [if_neg h1]
    have hlt : a < s.size := by omega
    have h58 : bt s (a : Int) = 58 := Decidable.byContradiction (fun h => h1 (.inr h))
    refine Ev.step (f := fun k => shuttleref2_Read.j4 k s (a : Int) false 1 key false ⟨#[]⟩ 0 1 0) (fun k => by
      rw [shuttleref2_Read.j3, if_neg (show ¬ (a : Int) = (s.size : Int) by omega), if_pos (show 0 ≤ (a : Int) by omega), if_pos (show (a : Int) < (s.size : Int) by omega), h58]; rfl) ?_
    have hv := value_ev s hs (a + 1) (by omega) { c1E with f1 := key } rfl
    have hv2 : Ev (fun k => (shuttleref2_value.f k s ((a + 1 : Nat) : Int) 1 key false ⟨#[]⟩ 0 1 0).bind fun b => (some (b.1, b.2.1, b.2.2.1, b.2.2.2.1, b.2.2.2.2.1, b.2.2.2.2.2.1, b.2.2.2.2.2.2.1, b.2.2.2.2.2.2.2.1, b.2.2.2.2.2.2.2.2))) (tup9 (endP s (0, 0, a + 1, { c1E with f1 := key }))) := by
      rw [endP_ok]
      exact Ev.bind hv (Ev.now _)
    by_cases h2 : a + 1 < s.size
    · have e1 : ((a + 1 : Nat) : Int) = (a : Int) + 1 := by omega
      by_cases h32 : bt s ((a : Int) + 1) = 32
      · rw [if_neg (fun h => h.2 h32)]
        exact Ev.step (fun k => by rw [shuttleref2_Read.j4, if_neg (by decide), w1, if_pos (by omega), if_pos (by omega), if_pos (by rw [e1]; exact h32)]) hv2
      · rw [if_pos ⟨h2, h32⟩]
        exact Ev.step (fun k => by rw [shuttleref2_Read.j4, if_neg (by decide), w1, if_pos (by omega), if_pos (by omega), if_neg (by rw [e1]; exact h32), w2]) (hbad _)
    · rw [if_neg (fun h => h2 h.1)]
      exact Ev.step (fun k => by rw [shuttleref2_Read.j4, if_neg (by decide), w1, if_neg (by omega)]) hv2
def keyP (s : ByteArray) (a : Nat) : HP := if nameB (s.extract 0 a) = true then colonP s (s.extract 0 a) a else (20, 1, 0, c1E)
theorem key_ev (s : ByteArray) (hs : s.size ≤ 1073741824) (a : Nat) (ha : a ≤ s.size) :
    Ev (fun k => (shuttleref2_Name.f k (s.extract 0 a)).bind fun t150 => (if t150 = true then (shuttleref2_Read.j3 k s (a : Int) 1 (s.extract 0 a) false ⟨#[]⟩ 0 1 0) else (some (0, (⟨#[]⟩ : ByteArray), false, (⟨#[]⟩ : ByteArray), 0, 0, 0, 1, 20)))) (tup9 (endP s (keyP s a))) := by
  have hn := refName_ev (s.extract 0 a) (by rw [ByteArray.size_extract]; omega)
  unfold keyP
  refine Ev.bind hn ?_
  cases hb : nameB (s.extract 0 a) with
  | true =>
    rw [if_pos rfl]
    exact Ev.congr (fun k => if_pos rfl) (colon_ev s hs _ a ha)
  | false =>
    rw [if_neg (by decide), endP_err _ _ _ _ _ (by decide)]
    exact Ev.congr (fun k => if_neg (by decide)) (Ev.now _)
theorem read_l0b (s : ByteArray) (hs : s.size ≤ 1073741824) : ∀ (d i : Nat), i + d = s.size → Ev (fun k => shuttleref2_Read.l0 k s (i : Int) 1 ⟨#[]⟩ false ⟨#[]⟩ 0 1 0) (tup9 (endP s (keyP s (namesN s d i))))
  | 0, i, h => by
    refine Ev.step (fun k => ?_) (key_ev s hs i (by omega))
    rw [shuttleref2_Read.l0, if_neg (show ¬ (i : Int) < (s.size : Int) by omega), if_pos (show 0 ≤ (i : Int) by omega), if_pos (show (i : Int) ≤ (s.size : Int) by omega), Int.toNat_natCast]
  | d + 1, i, h => by
    unfold namesN
    cases hn : namedB (bt s (i : Int)) with
    | true =>
      rw [if_pos rfl]
      refine Ev.step (f := fun k => shuttleref2_Read.l0 k s ((i + 1 : Nat) : Int) 1 ⟨#[]⟩ false ⟨#[]⟩ 0 1 0) (fun k => ?_) (read_l0b s hs d (i + 1) (by omega))
      rw [shuttleref2_Read.l0, if_pos (show (i : Int) < (s.size : Int) by omega), if_pos (show 0 ≤ (i : Int) by omega), nameByte_f, hn, wrN i (by omega)]
      rfl
    | false =>
      rw [if_neg (by decide)]
      refine Ev.step (fun k => ?_) (key_ev s hs i (by omega))
      rw [shuttleref2_Read.l0, if_pos (show (i : Int) < (s.size : Int) by omega), if_pos (show 0 ≤ (i : Int) by omega), nameByte_f, hn, Option.bind_some, if_neg (show ¬ (false = true) by decide), if_pos (show (i : Int) ≤ (s.size : Int) by omega), Int.toNat_natCast]
theorem pref_34 (s : ByteArray) : prefB s ⟨#[34]⟩ = (decide (0 < s.size) && decide (bt s 0 = 34)) := by
  obtain ⟨L, rfl⟩ : ∃ L, s = mkB L := ⟨s.data.toList, rfl⟩
  cases L with
  | nil => rfl
  | cons c r =>
    have h0 : bt (mkB (c :: r)) 0 = (c.toNat : Int) := bt_mk _ 0 c rfl
    rw [h0, mkB_size, decide_eq_true (show 0 < (c :: r).length by simp), Bool.true_and]
    have e : prefB (mkB (c :: r)) ⟨#[34]⟩ = ((34 == c) && true) := by
      cases r <;> rfl
    rw [e, Bool.and_true, Bool.eq_iff_iff, beq_iff_eq, decide_eq_true_eq]
    constructor
    · intro h
      subst h
      rfl
    · intro h
      exact UInt8.toNat_inj.1 (by rw [show (34 : UInt8).toNat = 34 from rfl]; omega)
theorem item_of (s : ByteArray) (k : Nat) : shuttleref2_Read.f k s = shuttleref2_Read.j0 k s ((s.toList == [45]) || prefB s ⟨#[45, 32]⟩) := by
  obtain ⟨L, rfl⟩ : ∃ L, s = mkB L := ⟨s.data.toList, rfl⟩
  rw [shuttleref2_Read.f, mkB_nil]
  match L with
  | [] => rfl
  | [c] =>
    by_cases h : [c] = ([45] : List UInt8)
    · rw [if_pos h, h]; rfl
    · rw [if_neg h, mkB_size, if_neg (show ¬ (([c].length : Nat) : Int) > 1 by simp)]
      have e : prefB (mkB [c]) ⟨#[45, 32]⟩ = ((45 == c) && false) := rfl
      rw [e, Bool.and_false, Bool.or_false, show (([c] : List UInt8) == [45]) = false from beq_eq_false_iff_ne.mpr h]
  | c :: d :: r =>
    have hne : ¬ (c :: d :: r : List UInt8) = [45] := fun h => by cases h
    have h0 : bt (mkB (c :: d :: r)) 0 = (c.toNat : Int) := bt_mk _ 0 c rfl
    have h1 : bt (mkB (c :: d :: r)) 1 = (d.toNat : Int) := bt_mk _ 1 d rfl
    have e : prefB (mkB (c :: d :: r)) ⟨#[45, 32]⟩ = ((45 == c) && ((32 == d) && true)) := by cases r <;> rfl
    rw [if_neg hne, mkB_size, if_pos (show (((c :: d :: r).length : Nat) : Int) > 1 by simp; omega), if_pos (show (0 : Int) < (((c :: d :: r).length : Nat) : Int) by simp; omega), h0, h1, if_pos (show (1 : Int) < (((c :: d :: r).length : Nat) : Int) by simp; omega), e, show ((c :: d :: r : List UInt8) == [45]) = false from beq_eq_false_iff_ne.mpr hne, Bool.false_or, Bool.and_true]
    by_cases h45 : (c.toNat : Int) = 45
    · rw [if_pos h45]
      have hc : c = 45 := UInt8.toNat_inj.1 (by rw [show (45 : UInt8).toNat = 45 from rfl]; omega)
      subst hc
      have e3 : ((45 : UInt8) == 45 && (32 == d)) = (32 == d) := rfl
      rw [e3]
      congr 1
      rw [Bool.eq_iff_iff, beq_iff_eq, beq_iff_eq, u32]
      exact eq_comm
    · rw [if_neg h45]
      congr 1
      have : ¬ (45 == c) = true := by
        rw [beq_iff_eq]
        intro h
        subst h
        exact h45 rfl
      rw [Bool.eq_false_iff.2 this]
      rfl
/-- The document's Read is the program's. -/
theorem refRead_ev (s : ByteArray) (hs : s.size ≤ 1073741824) : Ev (fun k => shuttleref2_Read.f k s) (tup9 (readP s)) := by
  refine Ev.congr (item_of s) ?_
  rw [readP_end]
  unfold headP
  cases hi : ((s.toList == [45]) || prefB s ⟨#[45, 32]⟩) with
  | true =>
    have hsz : 1 ≤ s.size := by
      have := headP_le s (qOf s 0) (by unfold headP; rw [hi]; rfl)
      unfold headP at this
      rw [hi] at this
      exact this
    rw [if_pos rfl, endP_ok]
    have hv := value_ev s hs 1 hsz { c1E with f0 := 2 } rfl
    have hv2 : Ev (fun k => (shuttleref2_value.f k s 1 2 (⟨#[]⟩ : ByteArray) false (⟨#[]⟩ : ByteArray) 0 1 0).bind fun b => (some (b.1, b.2.1, b.2.2.1, b.2.2.2.1, b.2.2.2.2.1, b.2.2.2.2.2.1, b.2.2.2.2.2.2.1, b.2.2.2.2.2.2.2.1, b.2.2.2.2.2.2.2.2))) (tup9 (valR s (gapOf s 1) { c1E with f0 := 2 })) := Ev.bind hv (Ev.now _)
    exact Ev.step (fun k => by rw [shuttleref2_Read.j0, if_pos rfl]) hv2
  | false =>
    rw [if_neg (by decide)]
    have hl := read_l0b s hs s.size 0 (Nat.zero_add _)
    have hns : Ev (fun k => shuttleref2_Read.j1 k s 0 false 1 ⟨#[]⟩ false ⟨#[]⟩ 0 1 0) (tup9 (endP s (keyP s (namesOf s)))) :=
      Ev.step (fun k => by rw [shuttleref2_Read.j1, if_neg (by decide)]; rfl) hl
    rw [pref_34]
    by_cases h0 : 0 < s.size
    · rw [decide_eq_true h0, Bool.true_and]
      refine Ev.step (f := fun k => shuttleref2_Read.j1 k s 0 (bt s 0 == 34) 1 ⟨#[]⟩ false ⟨#[]⟩ 0 1 0) (fun k => by
        rw [shuttleref2_Read.j0, if_neg (by decide), if_pos (by omega), if_pos (by omega)]) ?_
      by_cases h34 : bt s 0 = 34
      · rw [decide_eq_true h34, if_pos rfl]
        have hq := refquoted_ev s hs 0 h0
        have hr := qOf_range s 0 (by omega)
        generalize qOf s 0 = q at hq hr ⊢
        obtain ⟨says, n, ok⟩ := q
        have hr' : 0 ≤ n ∧ ((0 : Nat) : Int) + n ≤ s.size := hr
        obtain ⟨j, rfl⟩ : ∃ j : Nat, n = (j : Int) := ⟨n.toNat, by omega⟩
        have hq2 : Ev (fun k => shuttleref2_Quoted.f k s 0) (says, (j : Int), ok) := by
          have : ((0 : Nat) : Int) + (j : Int) = (j : Int) := by omega
          exact this ▸ hq
        have hstep : ∀ k, shuttleref2_Read.j1 (k + 1) s 0 (bt s 0 == 34) 1 ⟨#[]⟩ false ⟨#[]⟩ 0 1 0 = (shuttleref2_Quoted.f k s 0).bind fun bt146 => (if bt146.2.2 = true then (if (bt146.1.size : Int) > 64 then (some (0, (⟨#[]⟩ : ByteArray), false, (⟨#[]⟩ : ByteArray), 0, 0, 0, 1, 20)) else (shuttleref2_Read.j3 k s bt146.2.1 1 bt146.1 false ⟨#[]⟩ 0 1 0)) else (some (0, (⟨#[]⟩ : ByteArray), false, (⟨#[]⟩ : ByteArray), 0, 0, 0, wrap64 (bt146.2.1 + 1), 21))) := fun k => by
          rw [shuttleref2_Read.j1, if_pos (by simp [h34])]
        refine Ev.step hstep (Ev.bind hq2 ?_)
        cases ok with
        | false =>
          have e : (if ((says, (j : Int), false) : ByteArray × Int × Bool).2.2 = true then (if 64 < ((says, (j : Int), false) : ByteArray × Int × Bool).1.size then (20, 1, 0, c1E) else colonP s ((says, (j : Int), false) : ByteArray × Int × Bool).1 ((says, (j : Int), false) : ByteArray × Int × Bool).2.1.toNat) else ((21, ((says, (j : Int), false) : ByteArray × Int × Bool).2.1 + 1, 0, c1E) : HP)) = (21, (j : Int) + 1, 0, c1E) := if_neg (fun h => by cases h)
          rw [e, endP_err _ _ _ _ _ (by decide)]
          exact Ev.congr (f := fun _ => some (0, (⟨#[]⟩ : ByteArray), false, (⟨#[]⟩ : ByteArray), 0, 0, 0, (j : Int) + 1, 21)) (fun k => by
            refine (if_neg (fun h => by cases h)).trans ?_
            show some (0, (⟨#[]⟩ : ByteArray), false, (⟨#[]⟩ : ByteArray), 0, 0, 0, wrap64 ((j : Int) + 1), 21) = _
            rw [wrI _ (by omega) (by omega)]) (Ev.now _)
        | true =>
          by_cases hl64 : 64 < says.size
          · have e : (if ((says, (j : Int), true) : ByteArray × Int × Bool).2.2 = true then (if 64 < ((says, (j : Int), true) : ByteArray × Int × Bool).1.size then (20, 1, 0, c1E) else colonP s ((says, (j : Int), true) : ByteArray × Int × Bool).1 ((says, (j : Int), true) : ByteArray × Int × Bool).2.1.toNat) else ((21, ((says, (j : Int), true) : ByteArray × Int × Bool).2.1 + 1, 0, c1E) : HP)) = (20, 1, 0, c1E) := (if_pos rfl).trans (if_pos hl64)
            rw [e, endP_err _ _ _ _ _ (by decide)]
            exact Ev.congr (f := fun _ => some (0, (⟨#[]⟩ : ByteArray), false, (⟨#[]⟩ : ByteArray), 0, 0, 0, 1, 20)) (fun k => (if_pos rfl).trans (if_pos (show (says.size : Int) > 64 by omega))) (Ev.now _)
          · have e : (if ((says, (j : Int), true) : ByteArray × Int × Bool).2.2 = true then (if 64 < ((says, (j : Int), true) : ByteArray × Int × Bool).1.size then (20, 1, 0, c1E) else colonP s ((says, (j : Int), true) : ByteArray × Int × Bool).1 ((says, (j : Int), true) : ByteArray × Int × Bool).2.1.toNat) else ((21, ((says, (j : Int), true) : ByteArray × Int × Bool).2.1 + 1, 0, c1E) : HP)) = colonP s says j := by
              refine (if_pos rfl).trans ((if_neg hl64).trans ?_)
              show colonP s says ((j : Int)).toNat = _
              rw [Int.toNat_natCast]
            rw [e]
            exact Ev.congr (fun k => (if_pos rfl).trans (if_neg (show ¬ (says.size : Int) > 64 by omega))) (colon_ev s hs says j (by omega))
      · rw [decide_eq_false h34, if_neg (by decide), show (bt s 0 == 34) = false from beq_eq_false_iff_ne.mpr h34]
        exact hns
    · rw [decide_eq_false h0, Bool.false_and, if_neg (by decide)]
      exact Ev.step (fun k => by rw [shuttleref2_Read.j0, if_neg (by decide), if_neg (by omega)]) hns
end Go.Proofs.YtmkfjjfdbaaknaaDoor.Q
