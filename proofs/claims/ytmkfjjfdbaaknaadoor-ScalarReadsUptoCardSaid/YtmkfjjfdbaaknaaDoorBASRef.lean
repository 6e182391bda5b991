/- The document's reading of a line's text comes to what the program's Read comes to: over lists of bytes. -/
import Derived.Test.YtmkfjjfdbaaknaaDoorBASRun
import Derived.Test.YtmkfjjfdbaaknaaDoorBAQ6
namespace Go.Proofs.YtmkfjjfdbaaknaaDoor.Q
open Go Go.RowKit Go.Proofs.YtmkfjjfdbaaknaaDoorW.PrintWords Go.Proofs.YtmkfjjfdbaaknaaDoorW.PrintLast Go.Proofs.YtmkfjjfdbaaknaaDoorW.PrintMore
set_option linter.unusedVariables false
set_option linter.unusedSimpArgs false
theorem wordByte_f (c : Int) : shuttleref2_wordByte.f c = some (letterB c) := by
  unfold shuttleref2_wordByte.f letterB
  by_cases h1 : 97 ≤ c <;> by_cases h2 : c ≤ 122 <;> by_cases h3 : 65 ≤ c <;> by_cases h4 : c ≤ 90 <;> by_cases h5 : 48 ≤ c <;> by_cases h6 : c ≤ 57 <;> by_cases h7 : c = 95 <;> first | omega | simp [h1, h2, h3, h4, h5, h6, h7]
theorem nameByte_f (c : Int) : shuttleref2_nameByte.f c = some (namedB c) := by
  unfold shuttleref2_nameByte.f namedB
  rw [wordByte_f]
  show (if letterB c = true then some true else if c = 46 then some true else some (c == 45)) = _
  cases letterB c
  · by_cases h : c = 46
    · simp [h]
    · by_cases h2 : c = 45
      · simp [h2]
      · simp [h, h2]
  · rfl
theorem allFrom_bt (p : Int → Bool) (s : ByteArray) (i : Nat) (h : i < s.size) : allFrom p s i = (p (bt s (i : Int)) && allFrom p s (i + 1)) := by
  rw [allFrom_step p s i h, ← bt_at s (i : Int) h]
  rfl
theorem refName_l0 (s : ByteArray) (hs : s.size ≤ 1073741824) : ∀ (d i : Nat), i + d = s.size → Ev (fun k => shuttleref2_Name.l0 k s (i : Int)) (allFrom namedB s i)
  | 0, i, h => by
    rw [allFrom_end _ _ _ (by omega)]
    exact Ev.step (fun k => by rw [shuttleref2_Name.l0, if_neg (by omega)]) (Ev.now _)
  | d + 1, i, h => by
    rw [allFrom_bt _ _ _ (by omega)]
    have hw := wrN i (by omega)
    cases hn : namedB (bt s (i : Int)) with
    | true =>
      refine Ev.step (f := fun k => shuttleref2_Name.l0 k s ((i + 1 : Nat) : Int)) (fun k => by
        rw [shuttleref2_Name.l0, if_pos (by omega), if_pos (by omega), nameByte_f, hn, hw]
        rfl) ?_
      exact refName_l0 s hs d (i + 1) (by omega)
    | false =>
      refine Ev.step (fun k => by
        rw [shuttleref2_Name.l0, if_pos (by omega), if_pos (by omega), nameByte_f, hn]
        rfl) (Ev.now _)
theorem refName_ev (s : ByteArray) (hs : s.size ≤ 1073741824) : Ev (fun k => shuttleref2_Name.f k s) (nameB s) := by
  unfold nameB madeB
  by_cases h1 : (s.size : Int) < 1
  · refine Ev.congr (f := fun k => shuttleref2_Name.j0 k s true) (fun k => by rw [shuttleref2_Name.f, if_pos h1]) ?_
    rw [decide_eq_false (show ¬ 1 ≤ s.size by omega)]
    exact Ev.step (fun k => by rw [shuttleref2_Name.j0, if_pos rfl]; simp) (Ev.now _)
  · by_cases h2 : (s.size : Int) > 64
    · refine Ev.congr (f := fun k => shuttleref2_Name.j0 k s true) (fun k => by rw [shuttleref2_Name.f, if_neg h1, if_pos h2]) ?_
      rw [decide_eq_false (show ¬ s.size ≤ 64 by omega)]
      exact Ev.step (fun k => by rw [shuttleref2_Name.j0, if_pos rfl]; simp) (Ev.now _)
    · rw [decide_eq_true (show 1 ≤ s.size by omega), decide_eq_true (show s.size ≤ 64 by omega)]
      refine Ev.congr (f := fun k => shuttleref2_Name.j0 k s (bt s 0 == 45)) (fun k => by rw [shuttleref2_Name.f, if_neg h1, if_neg h2, if_pos (by omega)]) ?_
      by_cases h3 : bt s 0 = 45
      · refine Ev.step (fun k => by rw [shuttleref2_Name.j0, if_pos (by simp [h3])]) ?_
        rw [h3]
        simp
        exact Ev.now _
      · refine Ev.step (f := fun k => shuttleref2_Name.l0 k s ((0 : Nat) : Int)) (fun k => by rw [shuttleref2_Name.j0, if_neg (by simp [h3])]; rfl) ?_
        rw [decide_eq_false h3]
        simp
        exact refName_l0 s hs s.size 0 (Nat.zero_add _)
/-- The document's escape. -/
theorem refescape_ev (L : List UInt8) (hL : L.length ≤ 1073741824) (a : Nat) (ha : a ≤ L.length) : Ev (fun k => shuttleref2_escape.f k (mkB L) (a : Int)) (if (escL (L.drop a)).2 = 0 then (0, 0, false) else ((escL (L.drop a)).1, ((a + (escL (L.drop a)).2 : Nat) : Int), true)) := by
  by_cases he : a = L.length
  · subst he
    rw [List.drop_length]
    exact Ev.congr (f := fun _ => some (0, 0, false)) (fun k => by rw [shuttleref2_escape.f, mkB_size, if_pos (by omega)]) (Ev.now _)
  · have hlt : a < L.length := by omega
    rw [drop_cons L a hlt]
    have h0 : bt (mkB L) (a : Int) = (L[a].toNat : Int) := bt_mk L a _ (List.getElem?_eq_getElem hlt)
    generalize hc : L[a] = c at h0 ⊢
    generalize hr : L.drop (a + 1) = r
    have hlr : r.length = L.length - (a + 1) := by rw [← hr, List.length_drop]
    have hs : ((mkB L).size : Int) = L.length := by rw [mkB_size]
    refine Ev.congr (f := fun k => shuttleref2_escape.j0 k (mkB L) (a : Int) (c.toNat : Int) (decide (c.toNat = 34 ∨ c.toNat = 92))) (fun k => ?_) ?_
    · rw [shuttleref2_escape.f, hs, if_neg (by omega), if_pos (by omega), if_pos (by omega), h0]
      by_cases h : c.toNat = 34
      · rw [if_pos (by omega), h]
        rfl
      · rw [if_neg (by omega)]
        congr 1
        rw [Bool.eq_iff_iff]
        simp [h]
        omega
    · show Ev _ (if (escC c r).2 = 0 then (0, 0, false) else ((escC c r).1, ((a + (escC c r).2 : Nat) : Int), true))
      unfold escC
      by_cases h1 : c.toNat = 34 ∨ c.toNat = 92
      · rw [if_pos h1]
        refine Ev.step (fun k => by rw [shuttleref2_escape.j0, if_pos (decide_eq_true h1), if_pos (by omega), hs, if_pos (by omega), h0, wrN a (by omega)]; rfl) (Ev.now _)
      · rw [if_neg h1]
        by_cases h2 : c.toNat = 110
        · rw [if_pos h2]
          refine Ev.step (fun k => by rw [shuttleref2_escape.j0, if_neg (by simpa using h1), if_pos (by omega), wrN a (by omega)]; rfl) (Ev.now _)
        · rw [if_neg h2]
          have hf : Ev (fun k => shuttleref2_escape.j1 k (mkB L) (a : Int) false) ((0, 0, false) : Int × Int × Bool) := Ev.step (fun k => by rw [shuttleref2_escape.j1, if_neg (by decide)]) (Ev.now _)
          have w1 : wrap64 ((a : Int) + 1) = ((a + 1 : Nat) : Int) := wrN a (by omega)
          have w2 : wrap64 ((a : Int) + 2) = ((a + 2 : Nat) : Int) := by rw [wrI _ (by omega) (by omega)]; omega
          have w3 : wrap64 ((a : Int) + 3) = ((a + 3 : Nat) : Int) := by rw [wrI _ (by omega) (by omega)]; omega
          by_cases h3 : c.toNat = 120
          · rw [if_pos h3]
            by_cases hlong : a + 2 < L.length
            · obtain ⟨x, y, r', hr'⟩ : ∃ x y r', r = x :: y :: r' := by
                match r, hlr with
                | [], h => simp at h; omega
                | [_], h => simp at h; omega
                | x :: y :: r', _ => exact ⟨x, y, r', rfl⟩
              have e1 : L[a + 1]? = some x := by
                have := congrArg (fun l => l[0]?) hr
                simp only [List.getElem?_drop, hr'] at this
                simpa using this
              have e2 : L[a + 2]? = some y := by
                have := congrArg (fun l => l[1]?) hr
                simp only [List.getElem?_drop, hr'] at this
                simpa using this
              have b1 := bt_mk L (a + 1) x e1
              have b2 := bt_mk L (a + 2) y e2
              have hx := digU_range x
              have hy := digU_range y
              subst hr'
              refine Ev.step (f := fun k => (shuttleref2_digit.f k (x.toNat : Int)).bind fun t115 => (if t115 ≥ 0 then ((shuttleref2_digit.f k (y.toNat : Int)).bind fun t116 => (shuttleref2_escape.j1 k (mkB L) (a : Int) (decide (t116 ≥ 0)))) else (shuttleref2_escape.j1 k (mkB L) (a : Int) false))) (fun k => by
                rw [shuttleref2_escape.j0, if_neg (by simpa using h1), if_neg (by omega), if_pos (by omega), w2, hs, if_pos (by omega), w1, if_pos (by omega), if_pos (by omega), b1]
                congr 1
                funext t
                by_cases ht : t ≥ 0
                · rw [if_pos ht, if_pos ht, if_pos (by omega), b2]
                · rw [if_neg ht, if_neg ht]) (Ev.bind (refdigit_ev x) ?_)
              by_cases hx0 : digU x ≥ 0
              · refine Ev.congr (fun k => if_pos hx0) (Ev.bind (refdigit_ev y) ?_)
                by_cases hy0 : digU y ≥ 0
                · rw [show escX (x :: y :: r') = (16 * digU x + digU y, 3) from if_pos ⟨hx0, hy0⟩, if_neg (show ¬ (3 : Nat) = 0 by decide), decide_eq_true hy0]
                  refine Ev.step (f := fun k => (shuttleref2_digit.f k (x.toNat : Int)).bind fun t117 => ((shuttleref2_digit.f k (y.toNat : Int)).bind fun t118 => (some ((wrap64 ((wrap64 (16 * t117)) + t118)) % 256, ((a + 3 : Nat) : Int), true)))) (fun k => by
                    rw [shuttleref2_escape.j1, if_pos rfl, w1, w2, w3, hs, if_pos (by omega), if_pos (by omega), b1]
                    congr 1
                    funext t
                    rw [if_pos (by omega), if_pos (by omega), b2]) (Ev.bind (refdigit_ev x) (Ev.bind (refdigit_ev y) ?_))
                  rw [wrI (16 * digU x) (by omega) (by omega), wrI _ (by omega) (by omega), show (16 * digU x + digU y) % 256 = 16 * digU x + digU y from by omega]
                  exact Ev.now _
                · rw [show escX (x :: y :: r') = (0, 0) from if_neg (fun h => hy0 h.2), if_pos rfl, decide_eq_false hy0]
                  exact hf
              · rw [show escX (x :: y :: r') = (0, 0) from if_neg (fun h => hx0 h.1), if_pos rfl]
                exact Ev.congr (fun k => if_neg hx0) hf
            · have hz : escX r = (0, 0) := by
                match r, hlr with
                | [], _ => rfl
                | [_], _ => rfl
                | x :: y :: r', h => simp at h; omega
              rw [hz, if_pos rfl]
              refine Ev.step (f := fun k => shuttleref2_escape.j1 k (mkB L) (a : Int) false) (fun k => by rw [shuttleref2_escape.j0, if_neg (by simpa using h1), if_neg (by omega), if_pos (by omega), w2, hs, if_neg (by omega)]) hf
          · rw [if_neg h3, if_pos rfl]
            refine Ev.step (fun k => by rw [shuttleref2_escape.j0, if_neg (by simpa using h1), if_neg (by omega), if_neg (by omega)]) (Ev.now _)
theorem refquoted_l0 (L : List UInt8) (hL : L.length ≤ 1073741824) : ∀ (n at_ : Nat) (acc : List Int), at_ ≤ L.length → L.length ≤ n + at_ → acc.length ≤ at_ → Ev (fun k => shuttleref2_Quoted.l0 k (mkB L) acc (at_ : Int)) (readL n (L.drop at_) acc at_)
  | 0, at_, acc, h1, h2, h3 => by
    have h : at_ = L.length := by omega
    subst h
    rw [List.drop_length]
    refine Ev.step (fun k => by rw [shuttleref2_Quoted.l0, mkB_size, if_neg (by omega)]; rfl) (Ev.now _)
  | n + 1, at_, acc, h1, h2, h3 => by
    by_cases hlt : at_ < L.length
    · have hb : bt (mkB L) (at_ : Int) = (L[at_].toNat : Int) := bt_mk L at_ _ (List.getElem?_eq_getElem hlt)
      rw [drop_cons L at_ hlt]
      have hw := wrN at_ (by omega)
      unfold readL
      generalize hc : L[at_] = c at hb ⊢
      split
      · rename_i h34
        refine Ev.step (fun k => by rw [shuttleref2_Quoted.l0, mkB_size, if_pos (by omega), if_pos (by omega), hb, if_pos (by omega), hw]) (Ev.now _)
      · rename_i h34
        split
        · rename_i h92
          have hesc := refescape_ev L hL (at_ + 1) (by omega)
          have hle := escL_le (L.drop (at_ + 1))
          rw [List.length_drop] at hle
          generalize escL (L.drop (at_ + 1)) = e at hesc hle ⊢
          obtain ⟨v, n1⟩ := e
          have hle' : n1 ≤ L.length - (at_ + 1) := hle
          have hstep : ∀ k, shuttleref2_Quoted.l0 (k + 1) (mkB L) acc (at_ : Int) = (shuttleref2_escape.f k (mkB L) ((at_ + 1 : Nat) : Int)).bind fun bt119 => (if bt119.2.2 = true then (if acc.length < 140737488355328 then (shuttleref2_Quoted.l0 k (mkB L) (acc ++ [bt119.1]) bt119.2.1) else (none)) else (some ((⟨#[]⟩ : ByteArray), (at_ : Int), false))) := fun k => by
            rw [shuttleref2_Quoted.l0, if_pos (by rw [mkB_size]; omega), if_pos (by omega), hb, if_neg (by omega), if_pos (by omega), hw]
          show Ev _ (if n1 = 0 then ((⟨#[]⟩ : ByteArray), (at_ : Int), false) else readL n ((L.drop (at_ + 1)).drop n1) (acc ++ [v]) (at_ + 1 + n1))
          by_cases h0 : n1 = 0
          · subst h0
            rw [if_pos rfl]
            exact Ev.step hstep (Ev.bind hesc (Ev.now _))
          · rw [if_neg h0]
            rw [if_neg h0] at hesc
            have ih := refquoted_l0 L hL n (at_ + 1 + n1) (acc ++ [v]) (by omega) (by omega) (by simp; omega)
            rw [List.drop_drop]
            refine Ev.step hstep (Ev.bind hesc (Ev.congr (fun k => ?_) ih))
            show (if true = true then (if acc.length < 140737488355328 then (shuttleref2_Quoted.l0 k (mkB L) (acc ++ [v]) ((at_ + 1 + n1 : Nat) : Int)) else none) else _) = _
            rw [if_pos rfl, if_pos (by omega)]
        · rename_i h92
          refine Ev.step (f := fun k => shuttleref2_Quoted.l0 k (mkB L) (acc ++ [(c.toNat : Int)]) ((at_ + 1 : Nat) : Int)) (fun k => by
            rw [shuttleref2_Quoted.l0, mkB_size, if_pos (by omega), if_pos (by omega), hb, if_neg (by omega), if_neg (by omega), if_pos (by omega), hw]) ?_
          exact refquoted_l0 L hL n (at_ + 1) _ (by omega) (by omega) (by simp; omega)
    · have h : at_ = L.length := by omega
      subst h
      rw [List.drop_length]
      refine Ev.step (fun k => by rw [shuttleref2_Quoted.l0, mkB_size, if_neg (by omega)]; rfl) (Ev.now _)
theorem refquoted_ev (s : ByteArray) (hs : s.size ≤ 1073741824) (i : Nat) (hi : i < s.size) : Ev (fun k => shuttleref2_Quoted.f k s (i : Int)) ((qOf s i).1, (i : Int) + (qOf s i).2.1, (qOf s i).2.2) := by
  have hl : s.data.toList.length = s.size := rfl
  have h := refquoted_l0 s.data.toList (by omega) s.size (i + 1) [] (by omega) (by omega) (Nat.zero_le _)
  rw [mkB_of] at h
  unfold qOf
  rw [if_pos hi]
  unfold quotedQ
  have e := readL_shift i s.size (s.data.toList.drop (i + 1)) [] 1
  rw [show 1 + i = i + 1 from by omega] at e
  rw [e] at h
  have h2 : ((readL s.size (s.data.toList.drop (i + 1)) [] 1).1, (i : Int) + (readL s.size (s.data.toList.drop (i + 1)) [] 1).2.1, (readL s.size (s.data.toList.drop (i + 1)) [] 1).2.2) = ((readL s.size (s.data.toList.drop (i + 1)) [] 1).1, (readL s.size (s.data.toList.drop (i + 1)) [] 1).2.1 + (i : Int), (readL s.size (s.data.toList.drop (i + 1)) [] 1).2.2) := by rw [Int.add_comm]
  rw [h2]
  exact Ev.congr (fun k => by rw [shuttleref2_Quoted.f, wrN i (by omega)]) h
theorem skip_l0 (s : ByteArray) (hs : s.size ≤ 1073741824) : ∀ (d i : Nat), i + d = s.size → Ev (fun k => shuttleref2_skip.l0 k s (i : Int)) (gapN s d i : Int)
  | 0, i, h => Ev.step (fun k => by rw [shuttleref2_skip.l0, if_neg (by omega)]; rfl) (Ev.now _)
  | d + 1, i, h => by
    have hd : decide ((i : Int) < (s.size : Int)) = true := decide_eq_true (by omega)
    unfold gapN blankB
    rw [hd, Bool.true_and]
    by_cases hb : bt s (i : Int) = 32
    · rw [if_pos (decide_eq_true hb)]
      refine Ev.step (f := fun k => shuttleref2_skip.l0 k s ((i + 1 : Nat) : Int)) (fun k => by rw [shuttleref2_skip.l0, if_pos (by omega), if_pos (by omega), if_pos hb, wrN i (by omega)]) ?_
      exact skip_l0 s hs d (i + 1) (by omega)
    · rw [if_neg (by simpa using hb)]
      exact Ev.step (fun k => by rw [shuttleref2_skip.l0, if_pos (by omega), if_pos (by omega), if_neg hb]) (Ev.now _)
theorem skip_ev (s : ByteArray) (hs : s.size ≤ 1073741824) (i : Nat) (hi : i ≤ s.size) : Ev (fun k => shuttleref2_skip.f k s (i : Int)) (gapOf s i : Int) :=
  skip_l0 s hs (s.size - i) i (by omega)
end Go.Proofs.YtmkfjjfdbaaknaaDoor.Q
