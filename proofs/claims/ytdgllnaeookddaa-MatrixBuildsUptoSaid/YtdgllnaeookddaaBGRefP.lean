/- What the document's names, entries, twice, again and Check tell, with no program in sight: what the program's Check tells. -/
import Derived.Test.YtdgllnaeookddaaBGBuildP
import Derived.Test.YtdgllnaeookddaaBQ5
import Derived.Test.YtdgllnaeookddaaBGBuild
import Derived.Test.YtdgllnaeookddaaBQ7
namespace Go.Proofs.Ytdgllnaeookddaa.Q
open Go.RowKit Go.Proofs.YtdgllnaeookddaaW.PrintWords Go.Proofs.YtdgllnaeookddaaW.PrintLast Go.Proofs.YtdgllnaeookddaaW.PrintMore
set_option linter.unusedVariables false
set_option linter.unusedSimpArgs false
theorem toList_eq_iff {a b : ByteArray} : a.toList = b.toList ↔ a = b := by
  rw [ByteArray.toList_eq, ByteArray.toList_eq]
  exact ⟨fun h => ByteArray.ext (Array.toList_inj.mp h), fun h => by rw [h]⟩
theorem word_some (c : Int) : shuttleref2_wordByte.f c = some (letterB c) := by
  unfold shuttleref2_wordByte.f
  repeat' split
  all_goals (congr 1; rw [Bool.eq_iff_iff]; simp [letterB] <;> omega)
theorem vn_l0 (s : ByteArray) (h63 : s.size ≤ 64) : ∀ (d i : Nat), i + d = s.size → Ev (fun k => shuttleref2_VarName.l0 k s (i : Int)) (allFrom letterB s i)
  | 0, i, h => by
    refine Ev.step (fun k => by rw [shuttleref2_VarName.l0, if_neg (by omega)]) ?_
    rw [allFrom_end _ _ _ (by omega)]
    exact Ev.now _
  | d + 1, i, h => by
    have hi : i < s.size := by omega
    have hb : bt s (i : Int) = (s[i].toNat : Int) := (bt_at s (i : Int) (by simpa using hi)).symm
    refine Ev.step (fun k => by rw [shuttleref2_VarName.l0, if_pos (by omega), if_pos (by omega), word_some, Option.bind_some, hb, wrap_succ (n := s.size) (by omega) (by omega) (by omega)]) ?_
    rw [allFrom_step letterB s i hi]
    cases letterB (s[i].toNat : Int) with
    | true =>
      refine Ev.congr (fun k => by rw [if_pos rfl]) ?_
      exact vn_l0 s h63 d (i + 1) (by omega)
    | false => exact Ev.now _
theorem vn_j0 (s : ByteArray) (h63 : s.size ≤ 64) (b : Bool) : Ev (fun k => shuttleref2_VarName.j0 k s b) (!b && allFrom letterB s 0) := by
  cases b with
  | true =>
    refine Ev.step (fun k => by rw [shuttleref2_VarName.j0, if_pos rfl]) ?_
    exact Ev.now _
  | false =>
    refine Ev.step (fun k => by rw [shuttleref2_VarName.j0, if_neg (by decide)]) ?_
    exact vn_l0 s h63 s.size 0 (by omega)
theorem vn_bad (s : ByteArray) : Ev (fun k => shuttleref2_VarName.j0 k s true) false := by
  refine Ev.step (fun k => by rw [shuttleref2_VarName.j0, if_pos rfl]) ?_
  exact Ev.now _
theorem vn_ev (s : ByteArray) : Ev (fun k => shuttleref2_VarName.f k s) (varNameB s) := by
  unfold shuttleref2_VarName.f varNameB madeB
  by_cases h0 : s.size < 1
  · refine Ev.congr (fun k => by rw [if_pos (by omega)]) ?_
    rw [show decide (1 ≤ s.size) = false from decide_eq_false (by omega)]
    exact vn_bad s
  · refine Ev.congr (fun k => by rw [if_neg (by omega)]) ?_
    by_cases h1 : 64 < s.size
    · refine Ev.congr (fun k => by rw [if_pos (by omega)]) ?_
      rw [show decide (s.size ≤ 64) = false from decide_eq_false (by omega)]
      simpa using vn_bad s
    · refine Ev.congr (fun k => by rw [if_neg (by omega), if_pos (by omega)]) ?_
      rw [show decide (1 ≤ s.size) = true from decide_eq_true (by omega), show decide (s.size ≤ 64) = true from decide_eq_true (by omega)]
      by_cases h2 : 48 ≤ bt s 0
      · refine Ev.congr (fun k => by rw [if_pos (by omega)]) ?_
        have := vn_j0 s (by omega) (decide (bt s 0 ≤ 57))
        rw [Bool.and_comm] at this
        simpa [h2] using this
      · refine Ev.congr (fun k => by rw [if_neg (by omega)]) ?_
        have := vn_j0 s (by omega) false
        simpa [h2] using this
def okV (vs : List SV) : Bool := vs.all fun v => varNameB v.f0
def entriesB (es : List (List SV)) : Bool := es.all fun vs => decide (0 < vs.length) && okV vs
theorem en_l1 (es : List (List SV)) (j : Nat) (hj : j < es.length) (hl : es[j].length ≤ 4611686018427387904) (r : Bool) (hK : Ev (fun k => shuttleref13_entries.l0 k es (wrap64 ((j : Int) + 1))) r) :
    ∀ (d i : Nat), i + d = es[j].length → Ev (fun k => shuttleref13_entries.l1 k es (j : Int) (i : Int)) (okV (es[j].drop i) && r)
  | 0, i, h => by
    refine Ev.step (fun k => by rw [shuttleref13_entries.l1, if_pos (by omega), if_pos (by omega), rd_row es j hj, if_neg (by omega)]) ?_
    rw [List.drop_eq_nil_of_le (by omega)]
    exact hK
  | d + 1, i, h => by
    have hi : i < es[j].length := by omega
    refine Ev.step (fun k => by rw [shuttleref13_entries.l1, if_pos (by omega), if_pos (by omega), rd_row es j hj, if_pos (by omega), if_pos (by omega), rd_var es[j] i hi, wrap_succ (n := es[j].length) (by omega) (by omega) (by omega)]) ?_
    refine Ev.bind (vn_ev _) ?_
    rw [List.drop_eq_getElem_cons hi]
    show Ev _ ((varNameB es[j][i].f0 && okV (es[j].drop (i + 1))) && r)
    cases varNameB es[j][i].f0 with
    | true =>
      refine Ev.congr (fun k => by rw [if_pos rfl]) ?_
      exact en_l1 es j hj hl r hK d (i + 1) (by omega)
    | false => exact Ev.now _
theorem en_l0 (es : List (List SV)) (hn : es.length ≤ 4611686018427387904) (hl : ∀ x, x ∈ es → x.length ≤ 4611686018427387904) : ∀ (d i : Nat), i + d = es.length → Ev (fun k => shuttleref13_entries.l0 k es (i : Int)) (entriesB (es.drop i))
  | 0, i, h => by
    refine Ev.step (fun k => by rw [shuttleref13_entries.l0, if_neg (by omega)]) ?_
    rw [List.drop_eq_nil_of_le (by omega)]
    exact Ev.now _
  | d + 1, i, h => by
    have hi : i < es.length := by omega
    refine Ev.step (fun k => by rw [shuttleref13_entries.l0, if_pos (by omega), if_pos (by omega), rd_row es i hi]) ?_
    rw [List.drop_eq_getElem_cons hi]
    show Ev _ ((decide (0 < es[i].length) && okV es[i]) && entriesB (es.drop (i + 1)))
    by_cases h0 : es[i].length = 0
    · refine Ev.congr (fun k => by rw [if_pos (by omega)]) ?_
      rw [show decide (0 < es[i].length) = false from decide_eq_false (by omega)]
      exact Ev.now _
    · refine Ev.congr (fun k => by rw [if_neg (by omega)]) ?_
      rw [show decide (0 < es[i].length) = true from decide_eq_true (by omega)]
      refine en_l1 es i hi (hl _ (List.getElem_mem hi)) _ ?_ es[i].length 0 (by omega)
      refine Ev.congr (fun k => by rw [wrap_succ (n := es.length) (by omega) (by omega) (by omega)]) ?_
      exact en_l0 es hn hl d (i + 1) (by omega)
/-- The place of the first of a name; -1: none. -/
def idxR : List SV → ByteArray → Nat → Int
  | [], _, _ => -1
  | v :: r, s, i => if v.f0.toList = s.toList then (i : Int) else idxR r s (i + 1)
theorem ix_l0 (l : List SV) (s : ByteArray) (hn : l.length ≤ 4611686018427387904) : ∀ (d i : Nat), i + d = l.length → Ev (fun k => shuttleref10_Index.l0 k l s (i : Int)) (idxR (l.drop i) s i)
  | 0, i, h => by
    refine Ev.step (fun k => by rw [shuttleref10_Index.l0, if_neg (by omega)]) ?_
    rw [List.drop_eq_nil_of_le (by omega)]
    exact Ev.now _
  | d + 1, i, h => by
    have hi : i < l.length := by omega
    refine Ev.step (fun k => by rw [shuttleref10_Index.l0, if_pos (by omega), if_pos (by omega), rd_var l i hi, wrap_succ (n := l.length) (by omega) (by omega) (by omega)]) ?_
    rw [List.drop_eq_getElem_cons hi]
    by_cases he : l[i].f0.toList = s.toList
    · refine Ev.congr (fun k => by rw [if_pos he]) ?_
      rw [idxR, if_pos he]
      exact Ev.now _
    · refine Ev.congr (fun k => by rw [if_neg he]) ?_
      rw [idxR, if_neg he]
      exact ix_l0 l s hn d (i + 1) (by omega)
theorem ix_ev (l : List SV) (s : ByteArray) (hn : l.length ≤ 4611686018427387904) : Ev (fun k => shuttleref10_Index.f k l s) (idxR l s 0) := ix_l0 l s hn l.length 0 (by omega)
theorem idxR_pos (s : ByteArray) : ∀ (l : List SV) (i : Nat), 0 ≤ idxR l s i ↔ memB s (l.map (·.f0)) = true
  | [], i => by simp [idxR, memB]
  | v :: r, i => by
    have ih := idxR_pos s r (i + 1)
    rw [memB_iff] at ih ⊢
    rw [idxR, List.map_cons, List.mem_cons]
    split
    · rename_i h
      have := toList_eq_iff.1 h
      exact ⟨fun _ => .inl this.symm, fun _ => by omega⟩
    · rename_i h
      rw [ih]
      refine ⟨.inr, fun h2 => h2.resolve_left fun e => h (by rw [e])⟩
theorem take_names {i : Nat} (l : List SV) (hi : i < l.length) : (l.map (·.f0)).take (i + 1) = (l.map (·.f0)).take i ++ [l[i].f0] := by
  rw [List.take_succ_eq_append_getElem (by simpa using hi)]
  simp
theorem tw_l1 (es : List (List SV)) (j : Nat) (hj : j < es.length) (hl : es[j].length ≤ 4611686018427387904) (r : Bool) (hK : Ev (fun k => shuttleref13_twice.l0 k es (wrap64 ((j : Int) + 1))) r) :
    ∀ (d i : Nat), i + d = es[j].length → dupB ((es[j].map (·.f0)).take i) = false → Ev (fun k => shuttleref13_twice.l1 k es (j : Int) (i : Int)) (dupB (es[j].map (·.f0)) || r)
  | 0, i, h, hp => by
    refine Ev.step (fun k => by rw [shuttleref13_twice.l1, if_pos (by omega), if_pos (by omega), rd_row es j hj, if_neg (by omega)]) ?_
    rw [List.take_of_length_le (by simp; omega)] at hp
    rw [hp]
    exact hK
  | d + 1, i, h, hp => by
    have hi : i < es[j].length := by omega
    have ht := take_names es[j] hi
    refine Ev.step (fun k => by rw [shuttleref13_twice.l1, if_pos (by omega), if_pos (by omega), rd_row es j hj, if_pos (by omega), if_pos (by omega), if_pos (by omega), rd_var es[j] i hi, wrap_succ (n := es[j].length) (by omega) (by omega) (by omega)]) ?_
    refine Ev.bind (ix_ev _ _ (by rw [List.length_take]; omega)) ?_
    have hx := idxR_pos es[j][i].f0 (es[j].take ((i : Int)).toNat) 0
    rw [List.map_take, Int.toNat_natCast] at hx
    rw [Int.toNat_natCast]
    by_cases hm : memB es[j][i].f0 ((es[j].map (·.f0)).take i) = true
    · refine Ev.congr (fun k => by rw [if_pos (hx.2 hm)]) ?_
      have : dupB (es[j].map (·.f0)) = true := dupB_of_prefix _ (i + 1) (by rw [ht, dupB_snoc, hm, Bool.or_true])
      rw [this]
      exact Ev.now _
    · refine Ev.congr (fun k => by rw [if_neg (fun hc => hm (hx.1 hc))]) ?_
      exact tw_l1 es j hj hl r hK d (i + 1) (by omega) (by rw [ht, dupB_snoc, hp]; simpa using hm)
def twiceB (es : List (List SV)) : Bool := es.any fun vs => dupB (vs.map (·.f0))
theorem tw_l0 (es : List (List SV)) (hn : es.length ≤ 4611686018427387904) (hl : ∀ x, x ∈ es → x.length ≤ 4611686018427387904) : ∀ (d i : Nat), i + d = es.length → Ev (fun k => shuttleref13_twice.l0 k es (i : Int)) (twiceB (es.drop i))
  | 0, i, h => by
    refine Ev.step (fun k => by rw [shuttleref13_twice.l0, if_neg (by omega)]) ?_
    rw [List.drop_eq_nil_of_le (by omega)]
    exact Ev.now _
  | d + 1, i, h => by
    have hi : i < es.length := by omega
    refine Ev.step (fun k => by rw [shuttleref13_twice.l0, if_pos (by omega)]) ?_
    rw [List.drop_eq_getElem_cons hi]
    refine tw_l1 es i hi (hl _ (List.getElem_mem hi)) _ ?_ es[i].length 0 (by omega) rfl
    refine Ev.congr (fun k => by rw [wrap_succ (n := es.length) (by omega) (by omega) (by omega)]) ?_
    exact tw_l0 es hn hl d (i + 1) (by omega)
theorem rd_str (l : List ByteArray) (i : Nat) (h : i < l.length) : rdOf ByteArray.empty l (i : Int) = l[i] := by simp [rdOf, h]
theorem ag_l1 (l : List ByteArray) (hn : l.length ≤ 4611686018427387904) (i : Nat) (hi : i < l.length) (r : Bool) (hK : Ev (fun k => shuttleref13_again.l0 k l (wrap64 ((i : Int) + 1))) r) :
    ∀ (d j : Nat), j + d = i → Ev (fun k => shuttleref13_again.l1 k l (i : Int) (j : Int)) (memB l[i] ((l.take i).drop j) || r)
  | 0, j, h => by
    refine Ev.step (fun k => by rw [shuttleref13_again.l1, if_neg (by omega)]) ?_
    rw [List.drop_eq_nil_of_le (by rw [List.length_take]; omega)]
    exact hK
  | d + 1, j, h => by
    refine Ev.step (fun k => by rw [shuttleref13_again.l1, if_pos (by omega), if_pos (by omega), if_pos (by omega), if_pos (by omega), if_pos (by omega), rd_str l i hi, rd_str l j (by omega), wrap_succ (n := l.length) (by omega) (by omega) (by omega)]) ?_
    have e : (l.take i).drop j = l[j] :: (l.take i).drop (j + 1) := by
      rw [List.drop_eq_getElem_cons (by rw [List.length_take]; omega), List.getElem_take]
    rw [e]
    show Ev _ ((decide (l[j] = l[i]) || memB l[i] ((l.take i).drop (j + 1))) || r)
    by_cases he : l[i].toList = l[j].toList
    · refine Ev.congr (fun k => by rw [if_pos he]) ?_
      rw [decide_eq_true (toList_eq_iff.1 he).symm]
      exact Ev.now _
    · refine Ev.congr (fun k => by rw [if_neg he]) ?_
      rw [decide_eq_false (fun hc => he (by rw [hc]))]
      exact ag_l1 l hn i hi r hK d (j + 1) (by omega)
theorem ag_l0 (l : List ByteArray) (hn : l.length ≤ 4611686018427387904) : ∀ (d i : Nat), i + d = l.length → dupB (l.take i) = false → Ev (fun k => shuttleref13_again.l0 k l (i : Int)) (dupB l)
  | 0, i, h, hp => by
    refine Ev.step (fun k => by rw [shuttleref13_again.l0, if_neg (by omega)]) ?_
    rw [List.take_of_length_le (by omega)] at hp
    rw [hp]
    exact Ev.now _
  | d + 1, i, h, hp => by
    have hi : i < l.length := by omega
    refine Ev.step (fun k => by rw [shuttleref13_again.l0, if_pos (by omega)]) ?_
    have ht : dupB (l.take (i + 1)) = memB l[i] (l.take i) := by rw [List.take_succ_eq_append_getElem hi, dupB_snoc, hp, Bool.false_or]
    have hE : dupB l = (memB l[i] (l.take i) || dupB l) := by
      cases hm : memB l[i] (l.take i) with
      | false => rfl
      | true => rw [dupB_of_prefix l (i + 1) (ht.trans hm)]; rfl
    rw [hE]
    have e0 : memB l[i] (l.take i) = memB l[i] ((l.take i).drop 0) := rfl
    cases hm : memB l[i] (l.take i) with
    | false =>
      have ih := ag_l0 l hn d (i + 1) (by omega) (ht.trans hm)
      have := ag_l1 l hn i hi (dupB l) (Ev.congr (fun k => by rw [wrap_succ (n := l.length) (by omega) (by omega) (by omega)]; rfl) ih) i 0 (by omega)
      rwa [← e0, hm] at this
    | true =>
      exact ag_true l hn i hi i 0 (by omega) (e0 ▸ hm)
where
  ag_true (l : List ByteArray) (hn : l.length ≤ 4611686018427387904) (i : Nat) (hi : i < l.length) : ∀ (d j : Nat), j + d = i → memB l[i] ((l.take i).drop j) = true → Ev (fun k => shuttleref13_again.l1 k l (i : Int) (j : Int)) true
  | 0, j, h, hm => by
    rw [List.drop_eq_nil_of_le (by rw [List.length_take]; omega)] at hm
    cases hm
  | d + 1, j, h, hm => by
    refine Ev.step (fun k => by rw [shuttleref13_again.l1, if_pos (by omega), if_pos (by omega), if_pos (by omega), if_pos (by omega), if_pos (by omega), rd_str l i hi, rd_str l j (by omega), wrap_succ (n := l.length) (by omega) (by omega) (by omega)]) ?_
    have e : (l.take i).drop j = l[j] :: (l.take i).drop (j + 1) := by
      rw [List.drop_eq_getElem_cons (by rw [List.length_take]; omega), List.getElem_take]
    rw [e, memB_iff, List.mem_cons] at hm
    by_cases he : l[i].toList = l[j].toList
    · refine Ev.congr (fun k => by rw [if_pos he]) ?_
      exact Ev.now _
    · refine Ev.congr (fun k => by rw [if_neg he]) ?_
      exact ag_true l hn i hi d (j + 1) (by omega) ((memB_iff _ _).2 (hm.resolve_left fun hc => he (by rw [hc])))
theorem ag_ev (l : List ByteArray) (hn : l.length ≤ 4611686018427387904) : Ev (fun k => shuttleref13_again.f k l) (dupB l) := ag_l0 l hn l.length 0 (by omega) rfl
def dupAx (axes : AX) : Bool := axes.any fun a => dupB a.f1
def okAx (axes : AX) : Bool := axes.all fun a => varNameB a.f0
def lastI (b : Bool) : Int := if b = true then 131 else 0
theorem ck_l0 (axes : AX) (inc exc : List (List SV)) (hn : axes.length ≤ 8) (hl : ∀ a, a ∈ axes → a.f1.length ≤ 4611686018427387904) (dbl : Bool) : ∀ (d i : Nat), i + d = axes.length →
    Ev (fun k => shuttleref13_Check.l0 k ((axes.take i).map (·.f0)) (dbl || dupAx (axes.take i)) (i : Int) axes inc exc) (if okAx (axes.drop i) = true then lastI ((dbl || dupAx axes) || dupB (axes.map (·.f0))) else 130)
  | 0, i, h => by
    refine Ev.step (fun k => by rw [shuttleref13_Check.l0, if_neg (by omega)]) ?_
    rw [List.drop_eq_nil_of_le (by omega), List.take_of_length_le (by omega)]
    show Ev _ (lastI _)
    cases dbl || dupAx axes with
    | true => exact Ev.congr (fun k => by rw [if_pos rfl]; rfl) (Ev.now _)
    | false =>
      refine Ev.congr (fun k => by rw [if_neg (by decide)]) ?_
      refine Ev.bind (ag_ev _ (by simp; omega)) ?_
      cases dupB (axes.map (·.f0)) with
      | true => exact Ev.now _
      | false => exact Ev.now _
  | d + 1, i, h => by
    have hi : i < axes.length := by omega
    refine Ev.step (fun k => by rw [shuttleref13_Check.l0, if_pos (by omega), if_pos (by omega), rd_axis axes i hi, wrap_succ (n := axes.length) (by omega) (by omega) (by omega)]) ?_
    refine Ev.bind (vn_ev _) ?_
    rw [List.drop_eq_getElem_cons hi]
    show Ev _ (if (varNameB axes[i].f0 && okAx (axes.drop (i + 1))) = true then _ else _)
    cases varNameB axes[i].f0 with
    | false => exact Ev.now _
    | true =>
      rw [Bool.true_and]
      refine Ev.congr (fun k => by rw [if_pos rfl, if_pos (by simp; omega), Option.bind_some]) ?_
      have ih := ck_l0 axes inc exc hn hl dbl d (i + 1) (by omega)
      have e1 : (axes.take (i + 1)).map (·.f0) = (axes.take i).map (·.f0) ++ [axes[i].f0] := by rw [List.take_succ_eq_append_getElem hi, List.map_append]; rfl
      have e2 : dupAx (axes.take (i + 1)) = (dupAx (axes.take i) || dupB axes[i].f1) := by
        unfold dupAx
        rw [List.take_succ_eq_append_getElem hi, List.any_append]
        simp
      rw [e1, e2, ← Bool.or_assoc] at ih
      cases hd : dbl || dupAx (axes.take i) with
      | true =>
        rw [hd, Bool.true_or] at ih
        exact Ev.congr (fun k => by rw [if_pos rfl]; rfl) ih
      | false =>
        rw [hd, Bool.false_or] at ih
        exact Ev.congr (fun k => by rw [if_neg (by decide)]) (Ev.bind (ag_ev _ (hl _ (List.getElem_mem hi))) ih)
def checkR (axes : AX) (inc exc : List (List SV)) : Int :=
  if 8 < axes.length ∨ entriesB inc = false ∨ entriesB exc = false then 130 else if okAx axes = true then lastI (((twiceB inc || twiceB exc) || dupAx axes) || dupB (axes.map (·.f0))) else 130
structure Tiny (axes : AX) (inc exc : List (List SV)) : Prop where
  n0 : axes.length ≤ 1048576
  n1 : inc.length ≤ 1048576
  n2 : exc.length ≤ 1048576
  l0 : ∀ a, a ∈ axes → a.f1.length ≤ 1048576
  l1 : ∀ x, x ∈ inc → x.length ≤ 1048576
  l2 : ∀ x, x ∈ exc → x.length ≤ 1048576
theorem ck_j1 (axes : AX) (inc exc : List (List SV)) (ht : Tiny axes inc exc) (h8 : axes.length ≤ 8) (dbl : Bool) :
    Ev (fun k => shuttleref13_Check.j1 k [] dbl axes inc exc) (if okAx axes = true then lastI ((dbl || dupAx axes) || dupB (axes.map (·.f0))) else 130) := by
  refine Ev.step (fun k => by rw [shuttleref13_Check.j1]) ?_
  have := ck_l0 axes inc exc h8 (fun a ha => Nat.le_trans (ht.l0 a ha) (by omega)) dbl axes.length 0 (by omega)
  simpa [dupAx] using this
theorem ck_j0 (axes : AX) (inc exc : List (List SV)) (ht : Tiny axes inc exc) (h8 : axes.length ≤ 8) :
    Ev (fun k => shuttleref13_Check.j0 k false axes inc exc) (if okAx axes = true then lastI (((twiceB inc || twiceB exc) || dupAx axes) || dupB (axes.map (·.f0))) else 130) := by
  refine Ev.step (fun k => by rw [shuttleref13_Check.j0, if_neg (by decide)]) ?_
  refine Ev.bind (tw_l0 inc (Nat.le_trans ht.n1 (by omega)) (fun x hx => Nat.le_trans (ht.l1 x hx) (by omega)) inc.length 0 (by omega)) ?_
  rw [List.drop_zero]
  cases twiceB inc with
  | true => exact Ev.congr (fun k => by rw [if_pos rfl]) (ck_j1 axes inc exc ht h8 true)
  | false =>
    refine Ev.congr (fun k => by rw [if_neg (by decide)]) ?_
    refine Ev.bind (tw_l0 exc (Nat.le_trans ht.n2 (by omega)) (fun x hx => Nat.le_trans (ht.l2 x hx) (by omega)) exc.length 0 (by omega)) ?_
    rw [List.drop_zero, Bool.false_or]
    exact ck_j1 axes inc exc ht h8 _
theorem ck_bad (axes : AX) (inc exc : List (List SV)) : Ev (fun k => shuttleref13_Check.j0 k true axes inc exc) 130 := by
  refine Ev.step (fun k => by rw [shuttleref13_Check.j0, if_pos rfl]) ?_
  exact Ev.now _
theorem ckR_ev (axes : AX) (inc exc : List (List SV)) (ht : Tiny axes inc exc) : Ev (fun k => shuttleref13_Check.f k axes inc exc) (checkR axes inc exc) := by
  unfold shuttleref13_Check.f checkR
  by_cases h8 : 8 < axes.length
  · rw [if_pos (.inl h8)]
    exact Ev.congr (fun k => by rw [if_pos (by omega)]) (ck_bad axes inc exc)
  · refine Ev.congr (fun k => by rw [if_neg (by omega)]) ?_
    refine Ev.bind (en_l0 inc (Nat.le_trans ht.n1 (by omega)) (fun x hx => Nat.le_trans (ht.l1 x hx) (by omega)) inc.length 0 (by omega)) ?_
    rw [List.drop_zero]
    cases entriesB inc with
    | false =>
      rw [if_pos (.inr (.inl rfl))]
      exact Ev.congr (fun k => by rw [if_neg (by decide)]) (ck_bad axes inc exc)
    | true =>
      refine Ev.congr (fun k => by rw [if_pos rfl]) ?_
      refine Ev.bind (en_l0 exc (Nat.le_trans ht.n2 (by omega)) (fun x hx => Nat.le_trans (ht.l2 x hx) (by omega)) exc.length 0 (by omega)) ?_
      rw [List.drop_zero]
      cases entriesB exc with
      | false =>
        rw [if_pos (.inr (.inr rfl))]
        exact ck_bad axes inc exc
      | true =>
        rw [if_neg (by simp; omega)]
        exact ck_j0 axes inc exc ht (by omega)
theorem finI_eq : ∀ (L : List Int) (m : Int), (∀ x ∈ L, x = 0 ∨ x = 130 ∨ x = 131) → (m = 0 ∨ m = 131) → finI m L = if 130 ∈ L then 130 else if m = 131 ∨ 131 ∈ L then 131 else 0
  | [], m, _, hm => by
    rcases hm with rfl | rfl <;> simp [finI]
  | x :: r, m, hL, hm => by
    have hr : ∀ y ∈ r, y = 0 ∨ y = 130 ∨ y = 131 := fun y hy => hL y (List.mem_cons_of_mem _ hy)
    rcases hL x (List.mem_cons_self ..) with rfl | rfl | rfl
    · have ih := finI_eq r (mx m 0) hr (by rcases hm with rfl | rfl <;> simp [mx])
      rw [finI, if_neg (by decide), ih]
      rcases hm with rfl | rfl <;> simp [mx]
    · rw [finI, if_pos rfl]
      simp
    · have ih := finI_eq r (mx m 131) hr (by rcases hm with rfl | rfl <;> simp [mx])
      rw [finI, if_neg (by decide), ih]
      rcases hm with rfl | rfl <;> simp [mx]
theorem namesI_vals (l : List ByteArray) : (namesI l = 0 ∨ namesI l = 130 ∨ namesI l = 131) ∧ (namesI l = 130 ↔ l.all varNameB = false) ∧ (namesI l = 131 ↔ (l.all varNameB = true ∧ dupB l = true)) := by
  unfold namesI
  cases l.all varNameB <;> cases dupB l <;> simp
theorem okV_eq (vs : List SV) : okV vs = (vs.map (·.f0)).all varNameB := by unfold okV; rw [List.all_map]; rfl
theorem entryI_vals (vs : List SV) : (entryI vs = 0 ∨ entryI vs = 130 ∨ entryI vs = 131) ∧ (entryI vs = 130 ↔ (decide (0 < vs.length) && okV vs) = false) ∧ (entryI vs = 131 → dupB (vs.map (·.f0)) = true) ∧ ((decide (0 < vs.length) && okV vs) = true → dupB (vs.map (·.f0)) = true → entryI vs = 131) := by
  obtain ⟨h1, h2, h3⟩ := namesI_vals (vs.map (·.f0))
  unfold entryI
  rw [okV_eq]
  by_cases h0 : vs.length = 0
  · have : vs = [] := List.length_eq_zero_iff.1 h0
    subst this
    simp
  · rw [if_neg h0, show decide (0 < vs.length) = true by simp; omega, Bool.true_and]
    exact ⟨h1, h2, fun h => (h3.1 h).2, fun ha hd => h3.2 ⟨ha, hd⟩⟩
theorem entriesB_bad (es : List (List SV)) : entriesB es = false ↔ ∃ x ∈ es, entryI x = 130 := by
  unfold entriesB
  rw [← Bool.not_eq_true, List.all_eq_true]
  constructor
  · intro h
    refine Classical.byContradiction fun hc => h fun x hx => ?_
    cases hb : decide (0 < x.length) && okV x with
    | true => rfl
    | false => exact absurd ⟨x, hx, (entryI_vals x).2.1.2 hb⟩ hc
  · rintro ⟨x, hx, he⟩ h
    have := (entryI_vals x).2.1.1 he
    rw [h x hx] at this
    cases this
theorem twice_of (es : List (List SV)) (h : entriesB es = true) : twiceB es = true ↔ ∃ x ∈ es, entryI x = 131 := by
  unfold entriesB at h
  unfold twiceB
  rw [List.all_eq_true] at h
  rw [List.any_eq_true]
  constructor
  · rintro ⟨x, hx, hd⟩
    exact ⟨x, hx, (entryI_vals x).2.2.2 (h x hx) hd⟩
  · rintro ⟨x, hx, he⟩
    exact ⟨x, hx, (entryI_vals x).2.2.1 he⟩
theorem check_same (axes : AX) (inc exc : List (List SV)) : checkI axes inc exc = checkR axes inc exc := by
  unfold checkI checkR
  by_cases h8 : 8 < axes.length
  · rw [if_pos h8, if_pos (.inl h8)]
  · rw [if_neg h8]
    obtain ⟨n1, n2, n3⟩ := namesI_vals (axes.map (·.f0))
    have hok : (axes.map (·.f0)).all varNameB = okAx axes := by unfold okAx; rw [List.all_map]; rfl
    rw [hok] at n2 n3
    have hL : ∀ x ∈ checkL axes inc exc ++ dupL axes, x = 0 ∨ x = 130 ∨ x = 131 := by
      intro x hx
      rcases List.mem_append.1 hx with hx | hx
      · rcases List.mem_cons.1 hx with rfl | hx
        · exact n1
        · obtain ⟨e, _, rfl⟩ := List.mem_map.1 hx
          exact (entryI_vals e).1
      · obtain ⟨a, _, rfl⟩ := List.mem_map.1 hx
        exact .inr (.inr rfl)
    have m130 : 130 ∈ checkL axes inc exc ++ dupL axes ↔ okAx axes = false ∨ entriesB inc = false ∨ entriesB exc = false := by
      rw [entriesB_bad, entriesB_bad, ← n2]
      unfold checkL dupL
      simp only [List.mem_append, List.mem_cons, List.mem_map, List.mem_filter]
      constructor
      · rintro ((h | ⟨e, he | he, h⟩) | ⟨a, _, h⟩)
        · exact .inl h.symm
        · exact .inr (.inl ⟨e, he, h⟩)
        · exact .inr (.inr ⟨e, he, h⟩)
        · cases h
      · rintro (h | ⟨e, he, h⟩ | ⟨e, he, h⟩)
        · exact .inl (.inl h.symm)
        · exact .inl (.inr ⟨e, .inl he, h⟩)
        · exact .inl (.inr ⟨e, .inr he, h⟩)
    rw [finI_eq _ 0 hL (.inl rfl)]
    by_cases hb : entriesB inc = false ∨ entriesB exc = false
    · rw [if_pos (m130.2 (.inr hb)), if_pos (.inr hb)]
    · rw [if_neg (show ¬ (8 < axes.length ∨ entriesB inc = false ∨ entriesB exc = false) from fun h => h.elim h8 hb)]
      have hi : entriesB inc = true := by simpa using fun h => hb (.inl h)
      have he : entriesB exc = true := by simpa using fun h => hb (.inr h)
      cases ho : okAx axes with
      | false => rw [if_pos (m130.2 (.inl ho))]; rfl
      | true =>
        rw [if_neg (fun h => (m130.1 h).elim (fun h => by rw [ho] at h; cases h) hb), if_pos rfl]
        have t1 := twice_of inc hi
        have t2 := twice_of exc he
        unfold lastI
        have m131 : 131 ∈ checkL axes inc exc ++ dupL axes ↔ (((twiceB inc || twiceB exc) || dupAx axes) || dupB (axes.map (·.f0))) = true := by
          rw [Bool.or_eq_true, Bool.or_eq_true, Bool.or_eq_true, t1, t2]
          unfold checkL dupL dupAx
          rw [List.any_eq_true]
          simp only [List.mem_append, List.mem_cons, List.mem_map, List.mem_filter]
          rw [ho] at n3
          constructor
          · rintro ((h | ⟨e, he | he, h⟩) | ⟨a, ⟨h1, h2⟩, _⟩)
            · exact .inr (n3.1 h.symm).2
            · exact .inl (.inl (.inl ⟨e, he, h⟩))
            · exact .inl (.inl (.inr ⟨e, he, h⟩))
            · exact .inl (.inr ⟨a, h1, h2⟩)
          · rintro (((⟨e, he, h⟩ | ⟨e, he, h⟩) | ⟨a, h1, h2⟩) | h)
            · exact .inl (.inr ⟨e, .inl he, h⟩)
            · exact .inl (.inr ⟨e, .inr he, h⟩)
            · exact .inr ⟨a, ⟨h1, h2⟩, trivial⟩
            · exact .inl (.inl (n3.2 ⟨rfl, h⟩).symm)
        by_cases hq : (((twiceB inc || twiceB exc) || dupAx axes) || dupB (axes.map (·.f0))) = true
        · rw [if_pos (.inr (m131.2 hq)), if_pos hq]
        · rw [if_neg (fun h => h.elim (by decide) (fun h => hq (m131.1 h))), if_neg hq]
theorem ck_ev (axes : AX) (inc exc : List (List SV)) (ht : Tiny axes inc exc) : Ev (fun k => shuttleref13_Check.f k axes inc exc) (checkI axes inc exc) := by
  rw [check_same]
  exact ckR_ev axes inc exc ht
end Go.Proofs.Ytdgllnaeookddaa.Q
namespace Go.Proofs.Ytdgllnaeookddaa.Q
open Go.RowKit Go.Proofs.YtdgllnaeookddaaW.PrintWords Go.Proofs.YtdgllnaeookddaaW.PrintLast Go.Proofs.YtdgllnaeookddaaW.PrintMore
set_option linter.unusedVariables false
set_option linter.unusedSimpArgs false
theorem mul_most (n l : Nat) (hn : n ≤ most) (hl : l ≤ 1048576) : mn (wrap64 ((n : Int) * mn (l : Int) 1048576)) 1048576 = ((min (n * l) most : Nat) : Int) := by
  unfold most at *
  have e1 : mn (l : Int) 1048576 = (l : Int) := by unfold mn; rw [if_neg (by omega)]
  have h2 : n * l ≤ 1048576 * 1048576 := Nat.mul_le_mul hn hl
  have e2 : wrap64 ((n : Int) * (l : Int)) = ((n * l : Nat) : Int) := by
    rw [← Int.natCast_mul]
    unfold wrap64
    omega
  rw [e1, e2]
  unfold mn
  split <;> omega
theorem last_add (n m : Nat) (hn : n ≤ most) (hm : m ≤ 1048576) : mn (wrap64 ((n : Int) + (m : Int))) 1048576 = ((min (n + m) most : Nat) : Int) := by
  unfold most at *
  have e2 : wrap64 ((n : Int) + (m : Int)) = ((n + m : Nat) : Int) := by unfold wrap64; omega
  rw [e2]
  unfold mn
  split <;> omega
theorem ct_l0 (axes : AX) (inc exc : List (List SV)) (ht : Tiny axes inc exc) : ∀ (d i n : Nat) (z : Bool), i + d = axes.length → n ≤ most → (z = true → n = 0) →
    Ev (fun k => shuttleref13_Count.l0 k (n : Int) z (i : Int) axes inc exc) ((min (min (n * prodL (lens (axes.drop i))) most + inc.length) most : Nat) : Int)
  | 0, i, n, z, h, hn, hz => by
    refine Ev.step (fun k => by rw [shuttleref13_Count.l0, if_neg (by omega)]) ?_
    rw [List.drop_eq_nil_of_le (by omega)]
    have e1 : min (n * prodL (lens [])) most = n := by
      rw [show prodL (lens []) = 1 from rfl, Nat.mul_one, Nat.min_eq_left hn]
    rw [e1]
    cases z with
    | true =>
      obtain rfl := hz rfl
      refine Ev.congr (fun k => by rw [if_pos rfl]) ?_
      have := last_add 0 inc.length hn ht.n1
      rw [← this]
      exact Ev.now _
    | false =>
      refine Ev.congr (fun k => by rw [if_neg (by decide)]) ?_
      rw [← last_add n inc.length hn ht.n1]
      exact Ev.now _
  | d + 1, i, n, z, h, hn, hz => by
    have hlt : i < axes.length := by omega
    have n0 := ht.n0
    have hl := ht.l0 _ (List.getElem_mem hlt)
    refine Ev.step (fun k => by rw [shuttleref13_Count.l0, if_pos (by omega), rd_axis axes i hlt, mul_most n _ hn hl, wrap_succ (n := axes.length) (by omega) (by omega) (by omega)]) ?_
    have e : prodL (lens (axes.drop i)) = axes[i].f1.length * prodL (lens (axes.drop (i + 1))) := by rw [List.drop_eq_getElem_cons hlt]; rfl
    have ih := fun (z' : Bool) (hz' : z' = true → min (n * axes[i].f1.length) most = 0) => ct_l0 axes inc exc ht d (i + 1) (min (n * axes[i].f1.length) most) z' (by omega) (Nat.min_le_right _ _) hz'
    rw [min_times, Nat.mul_assoc, ← e] at ih
    cases z with
    | true =>
      refine Ev.congr (fun k => by rw [if_pos rfl, if_pos (by omega)]) ?_
      exact ih true (fun _ => by rw [hz rfl]; simp)
    | false =>
      refine Ev.congr (fun k => by rw [if_neg (by decide), if_pos (by omega)]) ?_
      exact ih _ (fun h0 => by
        have : axes[i].f1.length = 0 := by simpa using h0
        rw [this]
        simp)
theorem ct_ev (axes : AX) (inc exc : List (List SV)) (ht : Tiny axes inc exc) : Ev (fun k => shuttleref13_Count.f k axes inc exc) (countI axes inc exc) := by
  unfold shuttleref13_Count.f countI
  refine Ev.bind (ck_ev axes inc exc ht) ?_
  by_cases hz : checkI axes inc exc = 0
  · refine Ev.congr (fun k => by rw [if_pos hz]) ?_
    rw [if_pos hz]
    by_cases hl : axes.length = 0
    · refine Ev.congr (fun k => by rw [if_pos (show (axes.length : Int) = 0 by omega)]) ?_
      by_cases hi : inc.length = 0
      · rw [if_pos ⟨hl, hi⟩]
        refine Ev.step (fun k => by rw [shuttleref13_Count.j0, if_pos (by simp [hi])]) ?_
        exact Ev.now _
      · rw [if_neg (fun h => hi h.2), if_pos hl]
        refine Ev.step (fun k => by rw [shuttleref13_Count.j0, if_neg (by simp; intro h; simp [h] at hi), if_neg (by omega)]) ?_
        refine Ev.step (fun k => by rw [shuttleref13_Count.j1]) ?_
        have := ct_l0 axes inc exc ht axes.length 0 0 false (by omega) (by decide) (fun _ => rfl)
        simpa using this
    · refine Ev.congr (fun k => by rw [if_neg (show ¬ (axes.length : Int) = 0 by omega)]) ?_
      rw [if_neg (fun h => hl h.1), if_neg hl]
      refine Ev.step (fun k => by rw [shuttleref13_Count.j0, if_neg (by decide), if_pos (by omega)]) ?_
      refine Ev.step (fun k => by rw [shuttleref13_Count.j1]) ?_
      have := ct_l0 axes inc exc ht axes.length 0 1 false (by omega) (by decide) (fun h => by cases h)
      simpa using this
  · refine Ev.congr (fun k => by rw [if_neg hz]) ?_
    rw [if_neg hz]
    exact Ev.now _
theorem digitsR_get : ∀ (ls : List Nat) (n m : Nat), m < ls.length → (digitsR ls n).getD m 0 = (n / prodL (ls.drop (m + 1))) % ls.getD m 0
  | [], n, m, h => by simp at h
  | k :: r, n, 0, h => by simp [digitsR]
  | k :: r, n, m + 1, h => by
    have := digitsR_get r n m (by simpa using h)
    simpa [digitsR] using this
theorem pick_at (axes : AX) (n m : Nat) (hm : m < axes.length) : ∃ h : m < (pickOf axes (digitsR (lens axes) n)).length, (pickOf axes (digitsR (lens axes) n))[m] = ⟨axes[m].f0, axes[m].f1.getD ((n / prodL ((lens axes).drop (m + 1))) % axes[m].f1.length) ByteArray.empty⟩ := by
  have hl : (digitsR (lens axes) n).length = axes.length := by rw [digitsR_length, lens_length]
  refine ⟨by rw [pickOf_length _ _ hl]; exact hm, ?_⟩
  have hd := digitsR_get (lens axes) n m (by rw [lens_length]; exact hm)
  have hk : (lens axes).getD m 0 = axes[m].f1.length := by simp [lens, hm]
  rw [hk] at hd
  have hd2 : (digitsR (lens axes) n)[m]'(by omega) = (n / prodL ((lens axes).drop (m + 1))) % axes[m].f1.length := by
    rw [← hd, List.getD_eq_getElem?_getD, List.getElem?_eq_getElem (by omega)]
    rfl
  simp only [pickOf, List.getElem_zipWith, hd2]
theorem pk_l0 (axes : AX) (n : Nat) (h8 : axes.length ≤ 8) (hn : n ≤ 256) (hpos : ∀ a, a ∈ axes → 0 < a.f1.length) (hlen : ∀ a, a ∈ axes → a.f1.length ≤ 1048576) : ∀ (m : Nat), m ≤ axes.length →
    Ev (fun k => shuttleref13_pick.l0 k axes ((n / prodL ((lens axes).drop m) : Nat) : Int) (List.replicate m z51 ++ (pickOf axes (digitsR (lens axes) n)).drop m) ((m : Int) - 1)) (pickOf axes (digitsR (lens axes) n))
  | 0, _ => by
    refine Ev.step (fun k => by rw [shuttleref13_pick.l0, if_neg (by omega)]) ?_
    exact Ev.now _
  | m + 1, hm => by
    have hlt : m < axes.length := by omega
    have ih := pk_l0 axes n h8 hn hpos hlen m (by omega)
    obtain ⟨hpl, hpe⟩ := pick_at axes n m hlt
    have hk := hpos _ (List.getElem_mem hlt)
    have hl := hlen _ (List.getElem_mem hlt)
    have hdk : prodL ((lens axes).drop m) = axes[m].f1.length * prodL ((lens axes).drop (m + 1)) := by
      rw [List.drop_eq_getElem_cons (by rw [lens_length]; exact hlt)]
      simp [prodL, lens]
    have hq : n / prodL ((lens axes).drop (m + 1)) ≤ 256 := Nat.le_trans (Nat.div_le_self _ _) hn
    have hdd : n / prodL ((lens axes).drop (m + 1)) / axes[m].f1.length = n / prodL ((lens axes).drop m) := by rw [Nat.div_div_eq_div_mul, hdk, Nat.mul_comm]
    have e1 : ((m + 1 : Nat) : Int) - 1 = (m : Int) := by omega
    have hpd : (pickOf axes (digitsR (lens axes) n)).drop m = (⟨axes[m].f0, axes[m].f1.getD ((n / prodL ((lens axes).drop (m + 1))) % axes[m].f1.length) ByteArray.empty⟩ : SV) :: (pickOf axes (digitsR (lens axes) n)).drop (m + 1) := by
      rw [List.drop_eq_getElem_cons hpl, hpe]
    rw [hpd] at ih
    have hpl2 : (pickOf axes (digitsR (lens axes) n)).length = axes.length := pickOf_length _ _ (by rw [digitsR_length, lens_length])
    generalize pickOf axes (digitsR (lens axes) n) = P at ih hpl hpl2 ⊢
    rw [← hdd] at ih
    generalize n / prodL ((lens axes).drop (m + 1)) = q at ih hq ⊢
    have e2 : Int.tmod (q : Int) (axes[m].f1.length : Int) = ((q % axes[m].f1.length : Nat) : Int) := rfl
    have e3 : wrap64 (Int.tdiv (q : Int) (axes[m].f1.length : Int)) = ((q / axes[m].f1.length : Nat) : Int) := by
      have h1 : q / axes[m].f1.length ≤ q := Nat.div_le_self _ _
      have h2 : Int.tdiv (q : Int) (axes[m].f1.length : Int) = ((q / axes[m].f1.length : Nat) : Int) := rfl
      rw [h2]
      generalize q / axes[m].f1.length = y at h1
      unfold wrap64
      omega
    have hml := Nat.mod_lt q hk
    have e4 : wrap64 ((m : Int) - 1) = (m : Int) - 1 := by unfold wrap64; omega
    have e5 : rdOf ByteArray.empty axes[m].f1 ((q % axes[m].f1.length : Nat) : Int) = axes[m].f1.getD (q % axes[m].f1.length) ByteArray.empty := by unfold rdOf; rw [Int.toNat_natCast]
    have e6 : (List.replicate (m + 1) z51 ++ P.drop (m + 1)).set m (⟨axes[m].f0, axes[m].f1.getD (q % axes[m].f1.length) ByteArray.empty⟩ : SV) = List.replicate m z51 ++ (⟨axes[m].f0, axes[m].f1.getD (q % axes[m].f1.length) ByteArray.empty⟩ : SV) :: P.drop (m + 1) := by
      rw [List.replicate_succ', List.append_assoc, List.set_append_right _ _ (by simp)]
      simp
    refine Ev.step (fun k => by rw [shuttleref13_pick.l0, e1, if_pos (by omega), if_pos (by omega), if_pos (by omega), rd_axis axes m hlt, if_neg (by omega), e2, if_pos (by omega), if_pos (by omega), if_pos (by simp; omega), e3, e4, e5, Int.toNat_natCast, e6]) ?_
    exact ih
theorem pk_ev (axes : AX) (n : Nat) (h8 : axes.length ≤ 8) (hn : n ≤ 256) (hpos : ∀ a, a ∈ axes → 0 < a.f1.length) (hlen : ∀ a, a ∈ axes → a.f1.length ≤ 1048576) : Ev (fun k => shuttleref13_pick.f k axes (n : Int)) (pickOf axes (digitsR (lens axes) n)) := by
  unfold shuttleref13_pick.f
  have hpl2 : (pickOf axes (digitsR (lens axes) n)).length = axes.length := pickOf_length _ _ (by rw [digitsR_length, lens_length])
  have h := pk_l0 axes n h8 hn hpos hlen axes.length (Nat.le_refl _)
  have e4 : wrap64 ((axes.length : Int) - 1) = (axes.length : Int) - 1 := by unfold wrap64; omega
  rw [List.drop_eq_nil_of_le (by rw [lens_length]; exact Nat.le_refl _), List.drop_eq_nil_of_le (by omega), List.append_nil, show prodL [] = 1 from rfl, Nat.div_one] at h
  refine Ev.congr (fun k => by rw [if_pos (by omega), if_pos (by simp; omega), e4, Int.toNat_natCast]) ?_
  exact h
def getV : List SV → ByteArray → Option ByteArray
  | [], _ => none
  | v :: r, s => if v.f0.toList = s.toList then some v.f1 else getV r s
def GotAt (l : List SV) (t : Int) : Option ByteArray → Prop
  | some x => ∃ (j : Nat) (hj : j < l.length), t = (j : Int) ∧ l[j].f1 = x
  | none => t = -1
theorem idx_get (l : List SV) (s : ByteArray) : ∀ (r : List SV) (i : Nat), l.drop i = r → GotAt l (idxR r s i) (getV r s)
  | [], i, h => rfl
  | v :: r, i, h => by
    have hi : i < l.length := by
      rcases Nat.lt_or_ge i l.length with h1 | h1
      · exact h1
      · rw [List.drop_eq_nil_of_le h1] at h; cases h
    rw [List.drop_eq_getElem_cons hi] at h
    injection h with h1 h2
    unfold idxR getV
    split
    · exact ⟨i, hi, rfl, by rw [h1]⟩
    · exact idx_get l s r (i + 1) h2
theorem get_ev (l : List SV) (s : ByteArray) (hn : l.length ≤ 4611686018427387904) : Ev (fun k => shuttleref10_Get.f k l s) (match getV l s with | some x => (x, true) | none => ((⟨#[]⟩ : ByteArray), false)) := by
  unfold shuttleref10_Get.f
  refine Ev.bind (ix_ev l s hn) ?_
  have h := idx_get l s l 0 rfl
  cases hg : getV l s with
  | some x =>
    rw [hg] at h
    obtain ⟨j, hj, ht, hx⟩ := h
    rw [ht]
    refine Ev.congr (fun k => by rw [if_pos (by omega), if_pos (by omega), if_pos (by omega), rd_var l j hj, hx]) ?_
    exact Ev.now _
  | none =>
    rw [hg] at h
    have ht : idxR l s 0 = -1 := h
    rw [ht]
    refine Ev.congr (fun k => by rw [if_neg (by omega)]) ?_
    exact Ev.now _
def hasV (pick : List SV) (v : SV) : Bool := match getV pick v.f0 with | some x => x.toList == v.f1.toList | none => false
theorem hasV_eq (v : SV) : ∀ pick : List SV, dupB (pick.map (·.f0)) = false → hasV pick v = pick.any fun u => eqV v u
  | [], _ => rfl
  | u :: r, h => by
    have hd : (memB u.f0 (r.map (·.f0)) || dupB (r.map (·.f0))) = false := h
    rw [Bool.or_eq_false_iff] at hd
    have ih := hasV_eq v r hd.2
    unfold hasV at ih ⊢
    unfold getV
    rw [List.any_cons]
    by_cases he : u.f0.toList = v.f0.toList
    · rw [if_pos he]
      have e1 : eqV v u = (u.f1.toList == v.f1.toList) := by
        unfold eqV
        rw [← he, beq_self_eq_true, Bool.true_and]
        exact BEq.comm
      have e2 : (r.any fun u => eqV v u) = false := by
        rw [← Bool.not_eq_true, List.any_eq_true]
        rintro ⟨x, hx, hxv⟩
        unfold eqV at hxv
        rw [Bool.and_eq_true, beq_iff_eq] at hxv
        have : memB u.f0 (r.map (·.f0)) = true := (memB_iff _ _).2 (by
          rw [List.mem_map]
          exact ⟨x, hx, toList_eq_iff.1 (by rw [← hxv.1, he])⟩)
        rw [hd.1] at this
        cases this
      rw [e1, e2, Bool.or_false]
    · rw [if_neg he, ih]
      have e1 : eqV v u = false := by
        unfold eqV
        rw [show (v.f0.toList == u.f0.toList) = false from beq_eq_false_iff_ne.2 (fun hc => he hc.symm), Bool.false_and]
      rw [e1, Bool.false_or]
theorem hits_l0 (x p : List SV) (hx : x.length ≤ 4611686018427387904) (hp : p.length ≤ 4611686018427387904) : ∀ (d i : Nat), i + d = x.length → Ev (fun k => shuttleref13_Hits.l0 k x p (i : Int)) ((x.drop i).all (hasV p))
  | 0, i, h => by
    refine Ev.step (fun k => by rw [shuttleref13_Hits.l0, if_neg (by omega)]) ?_
    rw [List.drop_eq_nil_of_le (by omega)]
    exact Ev.now _
  | d + 1, i, h => by
    have hi : i < x.length := by omega
    refine Ev.step (fun k => by rw [shuttleref13_Hits.l0, if_pos (by omega), if_pos (by omega), rd_var x i hi, wrap_succ (n := x.length) (by omega) (by omega) (by omega)]) ?_
    refine Ev.bind (get_ev p _ hp) ?_
    rw [List.drop_eq_getElem_cons hi, List.all_cons]
    have ih := hits_l0 x p hx hp d (i + 1) (by omega)
    unfold hasV
    cases getV p x[i].f0 with
    | none => exact Ev.now _
    | some y =>
      by_cases he : y.toList = x[i].f1.toList
      · refine Ev.congr (fun k => by rw [if_pos rfl, if_pos he]) ?_
        show Ev _ ((y.toList == x[i].f1.toList) && _)
        rw [he, beq_self_eq_true, Bool.true_and]
        exact ih
      · refine Ev.congr (fun k => by rw [if_pos rfl, if_neg he]) ?_
        show Ev _ ((y.toList == x[i].f1.toList) && _)
        rw [show (y.toList == x[i].f1.toList) = false from beq_eq_false_iff_ne.2 he]
        exact Ev.now _
theorem hits_ev (x p : List SV) (hx : x.length ≤ 4611686018427387904) (hp : p.length ≤ 4611686018427387904) (hd : dupB (p.map (·.f0)) = false) : Ev (fun k => shuttleref13_Hits.f k x p) (holdsB x p) := by
  have h := hits_l0 x p hx hp x.length 0 (by omega)
  rw [List.drop_zero] at h
  have e : x.all (hasV p) = holdsB x p := by
    unfold holdsB
    congr 1
    funext v
    exact hasV_eq v p hd
  rw [← e]
  exact h
end Go.Proofs.Ytdgllnaeookddaa.Q
namespace Go.Proofs.Ytdgllnaeookddaa.Q
open Go.RowKit Go.Proofs.YtdgllnaeookddaaW.PrintWords Go.Proofs.YtdgllnaeookddaaW.PrintLast Go.Proofs.YtdgllnaeookddaaW.PrintMore
set_option linter.unusedVariables false
set_option linter.unusedSimpArgs false
def uniq (p : List SV) : Prop := dupB (p.map (·.f0)) = false ∧ p.length ≤ 1048576
theorem fine_of {axes : AX} {inc exc : List (List SV)} (h : checkI axes inc exc = 0) : axes.length ≤ 8 ∧ dupB (axes.map (·.f0)) = false ∧ ∀ x, x ∈ inc → dupB (x.map (·.f0)) = false := by
  rw [check_same] at h
  unfold checkR at h
  split at h
  · omega
  · rename_i hn
    split at h
    · unfold lastI at h
      split at h
      · omega
      · rename_i hb
        simp only [Bool.or_eq_true, not_or, Bool.not_eq_true] at hb
        obtain ⟨⟨⟨h1, h2⟩, h3⟩, h4⟩ := hb
        refine ⟨Nat.not_lt.1 (fun hc => hn (.inl hc)), h4, fun x hx => ?_⟩
        cases hd : dupB (x.map (·.f0)) with
        | false => rfl
        | true =>
          have : twiceB inc = true := List.any_eq_true.2 ⟨x, hx, hd⟩
          rw [h1] at this
          cases this
    · omega
theorem pick_names : ∀ (axes : AX) (ds : List Nat), ds.length = axes.length → (pickOf axes ds).map (·.f0) = axes.map (·.f0)
  | [], ds, _ => by simp [pickOf]
  | a :: r, [], h => by simp at h
  | a :: r, d :: ds, h => by
    have := pick_names r ds (by simpa using h)
    simpa [pickOf] using this
theorem pick_uniq {axes : AX} (h8 : axes.length ≤ 8) (hd : dupB (axes.map (·.f0)) = false) (n : Nat) : uniq (pickOf axes (digitsR (lens axes) n)) := by
  have hl : (digitsR (lens axes) n).length = axes.length := by rw [digitsR_length, lens_length]
  exact ⟨by rw [pick_names _ _ hl]; exact hd, by rw [pickOf_length _ _ hl]; omega⟩
theorem kept_uniq {axes : AX} (h8 : axes.length ≤ 8) (hd : dupB (axes.map (·.f0)) = false) (exc : List (List SV)) : ∀ p, p ∈ keptP axes exc → uniq p := by
  intro p hp
  unfold keptP at hp
  have := (List.mem_filter.1 hp).1
  rw [allPicks_eq] at this
  obtain ⟨n, _, rfl⟩ := List.mem_map.1 this
  exact pick_uniq h8 hd n
theorem addInc_mem : ∀ (l o : List (List SV)) (p : List SV), p ∈ addInc o l → p ∈ o ∨ p ∈ l
  | [], o, p, h => .inl h
  | x :: r, o, p, h => by
    have ih := addInc_mem r _ p h
    rcases ih with h1 | h1
    · split at h1
      · exact .inl h1
      · rcases List.mem_append.1 h1 with h2 | h2
        · exact .inl h2
        · exact .inr (by rw [List.mem_singleton.1 h2]; exact List.mem_cons_self ..)
    · exact .inr (List.mem_cons_of_mem _ h1)
section
variable (axes : AX) (inc exc : List (List SV)) (c : Int)
theorem bd_l1 (ht : Tiny axes inc exc) (out : List (List SV)) (n : Int) (p : List SV) (hp : uniq p) (R : List (List SV) × Int × Int)
    (hK : Ev (fun k => if hitB exc p = true then shuttleref13_Build.l0 k c out (wrap64 (n + 1)) axes inc exc else (if out.length < 5864062014805 then shuttleref13_Build.l0 k c (out ++ [p]) (wrap64 (n + 1)) axes inc exc else none)) R) :
    ∀ (d i : Nat) (b : Bool), i + d = exc.length → (b || hitB (exc.drop i) p) = hitB exc p → Ev (fun k => shuttleref13_Build.l1 k c out n p b (i : Int) axes inc exc) R
  | 0, i, b, h, hb => by
    refine Ev.step (fun k => by rw [shuttleref13_Build.l1, if_neg (by omega)]) ?_
    rw [List.drop_eq_nil_of_le (by omega)] at hb
    have : b = hitB exc p := by rw [← hb]; simp [hitB]
    rw [this]
    exact hK
  | d + 1, i, b, h, hb => by
    have hi : i < exc.length := by omega
    have n2 := ht.n2
    refine Ev.step (fun k => by rw [shuttleref13_Build.l1, if_pos (by omega), wrap_succ (n := exc.length) (by omega) (by omega) (by omega)]) ?_
    cases b with
    | true =>
      refine Ev.congr (fun k => by rw [if_pos rfl]) ?_
      exact bd_l1 ht out n p hp R hK d (i + 1) true (by omega) (by rw [Bool.true_or] at hb ⊢; exact hb)
    | false =>
      have hl := ht.l2 _ (List.getElem_mem hi)
      refine Ev.congr (fun k => by rw [if_neg (by decide), if_pos (by omega), rd_row exc i hi]) ?_
      refine Ev.bind (hits_ev exc[i] p (by omega) (Nat.le_trans hp.2 (by omega)) hp.1) ?_
      refine bd_l1 ht out n p hp R hK d (i + 1) _ (by omega) ?_
      rw [Bool.false_or, List.drop_eq_getElem_cons hi] at hb
      exact hb
theorem bd_l0 (ht : Tiny axes inc exc) (h8 : axes.length ≤ 8) (hd : dupB (axes.map (·.f0)) = false) (hm : many axes ≤ 256) (hc : wrap64 (c - (inc.length : Int)) = (many axes : Int)) (R : List (List SV) × Int × Int)
    (hK : Ev (fun k => shuttleref13_Build.l2 k c (keptP axes exc) 0 axes inc exc) R) :
    ∀ (d n : Nat), n + d = many axes → Ev (fun k => shuttleref13_Build.l0 k c (((allPicks axes).take n).filter fun q => !hitB exc q) (n : Int) axes inc exc) R
  | 0, n, h => by
    refine Ev.step (fun k => by rw [shuttleref13_Build.l0, hc, if_neg (by omega)]) ?_
    rw [List.take_of_length_le (by rw [allPicks_length]; omega)]
    exact hK
  | d + 1, n, h => by
    have hlt : n < many axes := by omega
    have hpos : ∀ a, a ∈ axes → 0 < a.f1.length := by
      have hl : leftB axes = true := by rw [many_pos]; simp; omega
      intro a ha
      exact (leftB_pos hl).2 _ (List.mem_map.2 ⟨a, ha, rfl⟩)
    refine Ev.step (fun k => by rw [shuttleref13_Build.l0, hc, if_pos (by omega)]) ?_
    refine Ev.bind (pk_ev axes n h8 (by omega) hpos ht.l0) ?_
    have hu := pick_uniq h8 hd n
    have hs := kept_step axes exc n hlt
    rw [allPicks_at hlt] at hs
    have ih := bd_l0 ht h8 hd hm hc R hK d (n + 1) (by omega)
    rw [hs] at ih
    have hol : (((allPicks axes).take n).filter fun q => !hitB exc q).length ≤ n := by
      refine Nat.le_trans (List.length_filter_le _ _) ?_
      rw [List.length_take]
      omega
    refine bd_l1 axes inc exc c ht _ _ _ hu R ?_ exc.length 0 false (by omega) (by simp)
    refine Ev.congr (fun k => by rw [wrap_succ (n := many axes) (by omega) (by omega) (by omega)]) ?_
    cases hh : hitB exc (pickOf axes (digitsR (lens axes) n)) with
    | true =>
      rw [hh, if_pos rfl, List.append_nil] at ih
      exact Ev.congr (fun k => by rw [if_pos rfl]; rfl) ih
    | false =>
      rw [hh, if_neg (by decide)] at ih
      exact Ev.congr (fun k => by rw [if_neg (by decide), if_pos (Nat.lt_of_le_of_lt hol (by omega))]; rfl) ih
theorem bd_l3 (ht : Tiny axes inc exc) (out : List (List SV)) (ho : ∀ p, p ∈ out → uniq p) (hol : out.length ≤ 1000000000) (i : Nat) (hi : i < inc.length) (R : List (List SV) × Int × Int)
    (hK : Ev (fun k => shuttleref13_Build.l2 k c (if out.any (incOk inc[i]) = true then out else out ++ [inc[i]]) (wrap64 ((i : Int) + 1)) axes inc exc) R) :
    ∀ (d j : Nat) (b : Bool), j + d = out.length → (b || (out.drop j).any (incOk inc[i])) = out.any (incOk inc[i]) → Ev (fun k => shuttleref13_Build.l3 k c out (i : Int) b (j : Int) axes inc exc) R
  | 0, j, b, h, hb => by
    have hl := ht.l1 _ (List.getElem_mem hi)
    refine Ev.step (fun k => by rw [shuttleref13_Build.l3, if_neg (by omega)]) ?_
    rw [List.drop_eq_nil_of_le (by omega)] at hb
    have : b = out.any (incOk inc[i]) := by rw [← hb]; simp
    rw [← this] at hK
    cases b with
    | true =>
      rw [if_pos rfl] at hK
      exact Ev.congr (fun k => by rw [if_pos rfl]) hK
    | false =>
      rw [if_neg (by decide)] at hK
      exact Ev.congr (fun k => by rw [if_neg (by decide), Option.bind_some, if_pos (by omega), if_pos (by omega), rd_row inc i hi, if_pos (by simp; omega), if_pos (by omega), List.nil_append]) hK
  | d + 1, j, b, h, hb => by
    have hj : j < out.length := by omega
    refine Ev.step (fun k => by rw [shuttleref13_Build.l3, if_pos (by omega), wrap_succ (n := out.length) (by omega) (by omega) (by omega)]) ?_
    cases b with
    | true =>
      refine Ev.congr (fun k => by rw [if_pos rfl]) ?_
      exact bd_l3 ht out ho hol i hi R hK d (j + 1) true (by omega) (by rw [Bool.true_or] at hb ⊢; exact hb)
    | false =>
      have hu := ho _ (List.getElem_mem hj)
      have hl := ht.l1 _ (List.getElem_mem hi)
      refine Ev.congr (fun k => by rw [if_neg (by decide), if_pos (by omega), if_pos (by omega), if_pos (by omega), rd_row out j hj, rd_row inc i hi]) ?_
      rw [Bool.false_or, List.drop_eq_getElem_cons hj, List.any_cons] at hb
      by_cases he : out[j].length = inc[i].length
      · refine Ev.congr (fun k => by rw [if_pos (by omega)]) ?_
        refine Ev.bind (hits_ev inc[i] out[j] (by omega) (Nat.le_trans hu.2 (by omega)) hu.1) ?_
        refine bd_l3 ht out ho hol i hi R hK d (j + 1) _ (by omega) ?_
        rw [← hb]
        unfold incOk
        rw [decide_eq_true he, Bool.true_and]
      · refine Ev.congr (fun k => by rw [if_neg (by omega)]) ?_
        refine bd_l3 ht out ho hol i hi R hK d (j + 1) false (by omega) ?_
        rw [← hb]
        have : incOk inc[i] out[j] = false := by
          unfold incOk
          rw [decide_eq_false he, Bool.false_and]
        rw [this]
theorem bd_l2 (ht : Tiny axes inc exc) (K : List (List SV)) (hk : ∀ p, p ∈ K → uniq p) (hi : ∀ x, x ∈ inc → uniq x) (hkl : K.length ≤ 1048576) : ∀ (d i : Nat), i + d = inc.length → Ev (fun k => shuttleref13_Build.l2 k c (addInc K (inc.take i)) (i : Int) axes inc exc) (addInc K inc, c, 0)
  | 0, i, h => by
    refine Ev.step (fun k => by rw [shuttleref13_Build.l2, if_neg (by omega)]) ?_
    rw [List.take_of_length_le (by omega)]
    exact Ev.now _
  | d + 1, i, h => by
    have hlt : i < inc.length := by omega
    have n1 := ht.n1
    refine Ev.step (fun k => by rw [shuttleref13_Build.l2, if_pos (by omega)]) ?_
    have ih := bd_l2 ht K hk hi hkl d (i + 1) (by omega)
    rw [List.take_succ_eq_append_getElem hlt, addInc_snoc] at ih
    have hol := addInc_len (inc.take i) K
    rw [List.length_take] at hol
    refine bd_l3 axes inc exc c ht _ (fun p hp => (addInc_mem _ _ p hp).elim (hk p) (fun h2 => hi p (List.mem_of_mem_take h2))) (by omega) i hlt _ ?_ (addInc K (inc.take i)).length 0 false (by omega) (by simp)
    exact Ev.congr (fun k => by rw [wrap_succ (n := inc.length) (by omega) (by omega) (by omega)]; rfl) ih
end
theorem bd_ev (axes : AX) (inc exc : List (List SV)) (ht : Tiny axes inc exc) : Ev (fun k => shuttleref13_Build.f k axes inc exc) (buildP axes inc exc) := by
  unfold shuttleref13_Build.f buildP
  refine Ev.bind (ck_ev axes inc exc ht) ?_
  by_cases hz : checkI axes inc exc = 0
  · refine Ev.congr (fun k => by rw [if_pos hz]) ?_
    rw [if_pos hz]
    refine Ev.bind (ct_ev axes inc exc ht) ?_
    by_cases hbig : 256 < countI axes inc exc
    · refine Ev.congr (fun k => by rw [if_pos (by omega)]) ?_
      rw [if_pos hbig]
      exact Ev.now _
    · refine Ev.congr (fun k => by rw [if_neg (by omega)]) ?_
      rw [if_neg hbig]
      by_cases hb0 : axes.length = 0 ∧ inc.length = 0
      · rw [if_pos hb0]
        have hco : countI axes inc exc = 1 := by rw [countI, if_pos hz, if_pos hb0]
        refine Ev.congr (fun k => by rw [if_pos (by omega)]) ?_
        refine Ev.step (fun k => by rw [shuttleref13_Build.j0, if_pos (by simp; exact List.length_eq_zero_iff.1 hb0.2)]) ?_
        exact Ev.now _
      · rw [if_neg hb0]
        obtain ⟨h8, hd, hi⟩ := fine_of hz
        obtain ⟨hm, hil⟩ := many_small hz hbig hb0
        have hc : wrap64 (countI axes inc exc - (inc.length : Int)) = (many axes : Int) := by
          have hcm : countI axes inc exc = ((many axes + inc.length : Nat) : Int) := by
            unfold countI most at hbig ⊢
            rw [if_pos hz, if_neg hb0] at hbig ⊢
            by_cases h0 : axes.length = 0
            · rw [if_pos h0] at hbig ⊢
              have : many axes = 0 := by unfold many leftB; simp [h0]
              omega
            · rw [if_neg h0] at hbig ⊢
              rw [many_eq (by omega)]
              omega
          rw [hcm]
          unfold wrap64
          omega
        have hkl : (keptP axes exc).length ≤ 1048576 := by
          unfold keptP
          refine Nat.le_trans (List.length_filter_le _ _) ?_
          rw [allPicks_length]
          omega
        have h2 := bd_l2 axes inc exc (countI axes inc exc) ht (keptP axes exc) (kept_uniq h8 hd exc) (fun x hx => ⟨hi x hx, ht.l1 x hx⟩) hkl inc.length 0 (by omega)
        have h0 := bd_l0 axes inc exc (countI axes inc exc) ht h8 hd hm hc _ h2 (many axes) 0 (by omega)
        have h1 : Ev (fun k => shuttleref13_Build.j0 k (countI axes inc exc) false axes inc exc) (addInc (keptP axes exc) inc, countI axes inc exc, 0) := by
          refine Ev.step (fun k => by rw [shuttleref13_Build.j0, if_neg (by decide)]) ?_
          exact h0
        by_cases hl : axes.length = 0
        · refine Ev.congr (fun k => by rw [if_pos (by omega), show ((inc.length : Int) == 0) = false from beq_eq_false_iff_ne.2 (fun hc => hb0 ⟨hl, by omega⟩)]) ?_
          exact h1
        · refine Ev.congr (fun k => by rw [if_neg (by omega)]) ?_
          exact h1
  · refine Ev.congr (fun k => by rw [if_neg hz]) ?_
    rw [if_neg hz]
    exact Ev.now _
end Go.Proofs.Ytdgllnaeookddaa.Q
