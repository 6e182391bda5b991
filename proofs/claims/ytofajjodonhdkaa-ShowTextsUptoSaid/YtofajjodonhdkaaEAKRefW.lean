/- Keys and values as the document writes them: over lists of bytes. -/
import Derived.Test.YtofajjodonhdkaaEAKWrite
import Derived.Test.YtofajjodonhdkaaEAQ5
namespace Go.Proofs.Ytofajjodonhdkaa.Q
open Go Go.RowKit Go.Proofs.YtofajjodonhdkaaW.PrintWords Go.Proofs.YtofajjodonhdkaaW.PrintLast Go.Proofs.YtofajjodonhdkaaW.PrintMore
set_option linter.unusedVariables false
set_option linter.unusedSimpArgs false
theorem wordByte_f (c : Int) : shuttleref2_wordByte.f c = some (letterB c) := by
  unfold shuttleref2_wordByte.f letterB
  by_cases h1 : 97 ≤ c <;> by_cases h2 : c ≤ 122 <;> by_cases h3 : 65 ≤ c <;> by_cases h4 : c ≤ 90 <;> by_cases h5 : 48 ≤ c <;> by_cases h6 : c ≤ 57 <;> by_cases h7 : c = 95 <;> first | omega | simp [h1, h2, h3, h4, h5, h6, h7]
theorem nameByte_f (c : Int) : shuttleref2_nameByte.f c = some (namedB c) := by
  unfold shuttleref2_nameByte.f namedB
  rw [wordByte_f]
  show (if letterB c = true then some true else if c = 46 then some true else some (c == 45)) = _
  cases letterB c
  · by_cases h : c = 46
    · simp [h]
    · by_cases h2 : c = 45
      · simp [h2]
      · simp [h, h2]
  · rfl
theorem refName_l0 (s : ByteArray) (hs : s.size ≤ 1073741824) : ∀ (d i : Nat), i + d = s.size → Ev (fun k => shuttleref2_Name.l0 k s (i : Int)) (allFrom namedB s i)
  | 0, i, h => by
    rw [allFrom_end _ _ _ (by omega)]
    exact Ev.step (fun k => by rw [shuttleref2_Name.l0, if_neg (by omega)]) (Ev.now _)
  | d + 1, i, h => by
    rw [allFrom_bt _ _ _ (by omega)]
    have hw := wrN i (by omega)
    cases hn : namedB (bt s (i : Int)) with
    | true =>
      refine Ev.step (f := fun k => shuttleref2_Name.l0 k s ((i + 1 : Nat) : Int)) (fun k => by
        rw [shuttleref2_Name.l0, if_pos (by omega), if_pos (by omega), nameByte_f, hn, hw]
        rfl) ?_
      exact refName_l0 s hs d (i + 1) (by omega)
    | false =>
      refine Ev.step (fun k => by
        rw [shuttleref2_Name.l0, if_pos (by omega), if_pos (by omega), nameByte_f, hn]
        rfl) (Ev.now _)
theorem refName_ev (s : ByteArray) (hs : s.size ≤ 1073741824) : Ev (fun k => shuttleref2_Name.f k s) (nameB s) := by
  unfold nameB madeB
  by_cases h1 : (s.size : Int) < 1
  · refine Ev.congr (f := fun k => shuttleref2_Name.j0 k s true) (fun k => by rw [shuttleref2_Name.f, if_pos h1]) ?_
    rw [decide_eq_false (show ¬ 1 ≤ s.size by omega)]
    exact Ev.step (fun k => by rw [shuttleref2_Name.j0, if_pos rfl]; simp) (Ev.now _)
  · by_cases h2 : (s.size : Int) > 64
    · refine Ev.congr (f := fun k => shuttleref2_Name.j0 k s true) (fun k => by rw [shuttleref2_Name.f, if_neg h1, if_pos h2]) ?_
      rw [decide_eq_false (show ¬ s.size ≤ 64 by omega)]
      exact Ev.step (fun k => by rw [shuttleref2_Name.j0, if_pos rfl]; simp) (Ev.now _)
    · rw [decide_eq_true (show 1 ≤ s.size by omega), decide_eq_true (show s.size ≤ 64 by omega)]
      refine Ev.congr (f := fun k => shuttleref2_Name.j0 k s (bt s 0 == 45)) (fun k => by rw [shuttleref2_Name.f, if_neg h1, if_neg h2, if_pos (by omega)]) ?_
      by_cases h3 : bt s 0 = 45
      · refine Ev.step (fun k => by rw [shuttleref2_Name.j0, if_pos (by simp [h3])]) ?_
        rw [h3]
        simp
        exact Ev.now _
      · refine Ev.step (f := fun k => shuttleref2_Name.l0 k s ((0 : Nat) : Int)) (fun k => by rw [shuttleref2_Name.j0, if_neg (by simp [h3])]; rfl) ?_
        rw [decide_eq_false h3]
        simp
        exact refName_l0 s hs s.size 0 (Nat.zero_add _)
theorem refplain_l0 (L : List UInt8) (hL : L.length ≤ 1073741824) : ∀ d i : Nat, i + 1 + d = L.length → ∀ p, L[i]? = some p → Ev (fun k => shuttleref2_Plain.l0 k (mkB L) ((i + 1 : Nat) : Int)) (allOk (mkB L) (i + 1) && !hasH (p :: L.drop (i + 1)))
  | 0, i, h, p, hp => by
    unfold allOk
    rw [allFrom_end _ _ _ (by rw [mkB_size]; omega), List.drop_eq_nil_of_le (by omega), hasH_one]
    exact Ev.step (fun k => by rw [shuttleref2_Plain.l0, mkB_size, if_neg (by omega)]; rfl) (Ev.now _)
  | d + 1, i, h, p, hp => by
    have hlt : i + 1 < L.length := by omega
    have ih := refplain_l0 L hL d (i + 1) (by omega) L[i + 1] (List.getElem?_eq_getElem hlt)
    have hb0 := bt_mk L i p hp
    have hb : bt (mkB L) ((i + 1 : Nat) : Int) = (L[i + 1].toNat : Int) := bt_mk L (i + 1) _ (List.getElem?_eq_getElem hlt)
    have hw := wrN (i + 1) (by omega)
    have hw0 : wrap64 (((i + 1 : Nat) : Int) - 1) = (i : Int) := by rw [wrI _ (by omega) (by omega)]; omega
    unfold allOk at ih ⊢
    rw [allFrom_bt _ _ _ (by rw [mkB_size]; omega), hb, drop_cons L (i + 1) hlt, hasH_two]
    generalize hc : L[i + 1] = c at hb ih ⊢
    have hstep : ∀ k, shuttleref2_Plain.l0 (k + 1) (mkB L) ((i + 1 : Nat) : Int) = (if (c.toNat : Int) < 32 then (some false) else (if (c.toNat : Int) = 127 then (some false) else (if (c.toNat : Int) = 35 then (if (p.toNat : Int) = 32 then (some false) else (shuttleref2_Plain.l0 k (mkB L) ((i + 1 + 1 : Nat) : Int))) else (shuttleref2_Plain.l0 k (mkB L) ((i + 1 + 1 : Nat) : Int))))) := fun k => by
      rw [shuttleref2_Plain.l0, mkB_size, if_pos (show ((i + 1 : Nat) : Int) < (L.length : Int) by omega), if_pos (show 0 ≤ ((i + 1 : Nat) : Int) by omega), hb, hw0, if_pos (show 0 ≤ (i : Int) by omega), if_pos (show (i : Int) < (L.length : Int) by omega), hb0, hw]
    by_cases h1 : (c.toNat : Int) < 32
    · rw [show decide (32 ≤ (c.toNat : Int)) = false from decide_eq_false (by omega), Bool.false_and, Bool.false_and, Bool.false_and]
      exact Ev.step (fun k => by rw [hstep, if_pos h1]) (Ev.now _)
    · rw [show decide (32 ≤ (c.toNat : Int)) = true from decide_eq_true (by omega), Bool.true_and]
      by_cases h2 : (c.toNat : Int) = 127
      · rw [show decide ((c.toNat : Int) ≠ 127) = false from decide_eq_false (fun h => h h2), Bool.false_and, Bool.false_and]
        exact Ev.step (fun k => by rw [hstep, if_neg h1, if_pos h2]) (Ev.now _)
      · rw [show decide ((c.toNat : Int) ≠ 127) = true from decide_eq_true h2, Bool.true_and]
        by_cases h3 : (c.toNat : Int) = 35
        · by_cases h4 : (p.toNat : Int) = 32
          · rw [show decide (p = 32 ∧ c = 35) = true from decide_eq_true ⟨(u32 p).1 h4, (u35 c).1 h3⟩, Bool.true_or, Bool.not_true, Bool.and_false]
            exact Ev.step (fun k => by rw [hstep, if_neg h1, if_neg h2, if_pos h3, if_pos h4]) (Ev.now _)
          · rw [show decide (p = 32 ∧ c = 35) = false from decide_eq_false (fun h => h4 ((u32 p).2 h.1)), Bool.false_or]
            exact Ev.step (fun k => by rw [hstep, if_neg h1, if_neg h2, if_pos h3, if_neg h4]) ih
        · rw [show decide (p = 32 ∧ c = 35) = false from decide_eq_false (fun h => h3 ((u35 c).2 h.2)), Bool.false_or]
          exact Ev.step (fun k => by rw [hstep, if_neg h1, if_neg h2, if_neg h3]) ih
theorem refPlain_ev (s : ByteArray) (hs : s.size ≤ 1073741824) : Ev (fun k => shuttleref2_Plain.f k s) (plainB s) := by
  have hbad : Ev (fun k => shuttleref2_Plain.j0 k s true) false := Ev.step (fun k => by rw [shuttleref2_Plain.j0, if_pos rfl]) (Ev.now _)
  unfold plainB
  by_cases h0 : s.toList = []
  · rw [if_pos h0]
    exact Ev.congr (fun k => by rw [shuttleref2_Plain.f, if_pos h0]) hbad
  · rw [if_neg h0]
    have hz : 0 < s.size := by
      have := mt (empty_iff s).2 h0
      omega
    have hw : wrap64 ((s.size : Int) - 1) = (s.size : Int) - 1 := wrI _ (by omega) (by omega)
    have hf : ∀ k, shuttleref2_Plain.f k s = (if s.toList = ([91, 93] : List UInt8) then (shuttleref2_Plain.j0 k s true) else (if s.toList = ([123, 125] : List UInt8) then (shuttleref2_Plain.j0 k s true) else (if (bt s 0) = 32 then (shuttleref2_Plain.j0 k s true) else (if (bt s ((s.size : Int) - 1)) = 32 then (shuttleref2_Plain.j0 k s true) else (if (bt s 0) = 34 then (shuttleref2_Plain.j0 k s true) else (shuttleref2_Plain.j0 k s ((bt s 0) == 35))))))) := fun k => by
      rw [shuttleref2_Plain.f, if_neg h0, if_pos (show (0 : Int) < (s.size : Int) by omega), hw, if_pos (show (0 : Int) ≤ (s.size : Int) - 1 by omega), if_pos (show (s.size : Int) - 1 < (s.size : Int) by omega)]
    by_cases h5 : s.toList = [91, 93]
    · rw [if_pos (.inr (.inr (.inr (.inr (.inl h5)))))]
      exact Ev.congr (fun k => by rw [hf, if_pos h5]) hbad
    · by_cases h6 : s.toList = [123, 125]
      · rw [if_pos (.inr (.inr (.inr (.inr (.inr (.inl h6))))))]
        exact Ev.congr (fun k => by rw [hf, if_neg h5, if_pos h6]) hbad
      · by_cases h1 : bt s 0 = 32
        · rw [if_pos (.inl h1)]
          exact Ev.congr (fun k => by rw [hf, if_neg h5, if_neg h6, if_pos h1]) hbad
        · by_cases h4 : bt s ((s.size : Int) - 1) = 32
          · rw [if_pos (.inr (.inr (.inr (.inl h4))))]
            exact Ev.congr (fun k => by rw [hf, if_neg h5, if_neg h6, if_neg h1, if_pos h4]) hbad
          · by_cases h2 : bt s 0 = 34
            · rw [if_pos (.inr (.inl h2))]
              exact Ev.congr (fun k => by rw [hf, if_neg h5, if_neg h6, if_neg h1, if_neg h4, if_pos h2]) hbad
            · by_cases h3 : bt s 0 = 35
              · rw [if_pos (.inr (.inr (.inl h3)))]
                exact Ev.congr (fun k => by rw [hf, if_neg h5, if_neg h6, if_neg h1, if_neg h4, if_neg h2, h3]; rfl) hbad
              · have hf' : ∀ k, shuttleref2_Plain.f k s = shuttleref2_Plain.j0 k s false := fun k => by
                  rw [hf, if_neg h5, if_neg h6, if_neg h1, if_neg h4, if_neg h2, show (bt s 0 == 35) = false from beq_eq_false_iff_ne.mpr h3]
                refine Ev.congr hf' (Ev.step (f := fun k => shuttleref2_Plain.l0 k s ((0 : Nat) : Int)) (fun k => by rw [shuttleref2_Plain.j0, if_neg (by decide)]; rfl) ?_)
                obtain ⟨L, rfl⟩ : ∃ L, s = mkB L := ⟨s.data.toList, rfl⟩
                rw [mkB_size] at hz
                rw [mkB_size] at hs
                have hb : bt (mkB L) ((0 : Nat) : Int) = (L[0].toNat : Int) := bt_mk L 0 _ (List.getElem?_eq_getElem hz)
                have hl := refplain_l0 L hs (L.length - 1) 0 (by omega) L[0] (List.getElem?_eq_getElem hz)
                have hL0 : L[0] :: L.drop (0 + 1) = L := by rw [← drop_cons L 0 hz, List.drop_zero]
                rw [hL0] at hl
                have hv : (if bt (mkB L) 0 = 32 ∨ bt (mkB L) 0 = 34 ∨ bt (mkB L) 0 = 35 ∨ bt (mkB L) (((mkB L).size : Int) - 1) = 32 ∨ (mkB L).toList = [91, 93] ∨ (mkB L).toList = [123, 125] ∨ Lib.contains (mkB L).data.toList [32, 35] = true then false else allOk (mkB L) 0) = (allOk (mkB L) 0 && !hasH L) := by
                  rw [mkB_list, hasH_contains]
                  cases h7 : hasH L with
                  | true =>
                    rw [if_pos (.inr (.inr (.inr (.inr (.inr (.inr rfl))))))]
                    simp
                  | false =>
                    rw [if_neg (fun h => by rcases h with h | h | h | h | h | h | h; exact h1 h; exact h2 h; exact h3 h; exact h4 h; exact h5 h; exact h6 h; cases h)]
                    simp
                rw [hv]
                have ha : allOk (mkB L) 0 = ((decide (32 ≤ (L[0].toNat : Int)) && decide ((L[0].toNat : Int) ≠ 127)) && allOk (mkB L) 1) := by
                  unfold allOk
                  rw [allFrom_bt _ _ _ (by rw [mkB_size]; exact hz), hb]
                  rfl
                rw [ha, Bool.and_assoc]
                have h35 : ¬ (L[0].toNat : Int) = 35 := fun h => h3 (by rw [← h, ← hb]; rfl)
                have hstep : ∀ k, shuttleref2_Plain.l0 (k + 1) (mkB L) ((0 : Nat) : Int) = (if (L[0].toNat : Int) < 32 then (some false) else (if (L[0].toNat : Int) = 127 then (some false) else (shuttleref2_Plain.l0 k (mkB L) ((0 + 1 : Nat) : Int)))) := fun k => by
                  rw [shuttleref2_Plain.l0, mkB_size, if_pos (show ((0 : Nat) : Int) < (L.length : Int) by omega), if_pos (show 0 ≤ ((0 : Nat) : Int) by omega), hb, wrN 0 (by omega), if_neg h35]
                by_cases g1 : (L[0].toNat : Int) < 32
                · rw [show decide (32 ≤ (L[0].toNat : Int)) = false from decide_eq_false (by omega), Bool.false_and, Bool.false_and]
                  exact Ev.step (fun k => by rw [hstep, if_pos g1]) (Ev.now _)
                · rw [show decide (32 ≤ (L[0].toNat : Int)) = true from decide_eq_true (by omega), Bool.true_and]
                  by_cases g2 : (L[0].toNat : Int) = 127
                  · rw [show decide ((L[0].toNat : Int) ≠ 127) = false from decide_eq_false (fun h => h g2), Bool.false_and]
                    exact Ev.step (fun k => by rw [hstep, if_neg g1, if_pos g2]) (Ev.now _)
                  · rw [show decide ((L[0].toNat : Int) ≠ 127) = true from decide_eq_true g2, Bool.true_and]
                    exact Ev.step (fun k => by rw [hstep, if_neg g1, if_neg g2]) hl
def hexS : ByteArray := ⟨#[48, 49, 50, 51, 52, 53, 54, 55, 56, 57, 97, 98, 99, 100, 101, 102]⟩
section
variable (L : List UInt8) (hL : L.length ≤ 1073741824)
include hL
theorem refwrite_l0 : ∀ (d i : Nat) (acc : List Int), i + d = L.length → acc.length ≤ 4 * i + 1 → Ev (fun k => shuttleref2_Quote.l0 k (mkB L) hexS acc (i : Int)) (strOfNums (acc ++ (numsU ((L.drop i).flatMap encU) ++ [34])))
  | 0, i, acc, hi, ha => by
    have : i = L.length := by omega
    subst this
    rw [List.drop_length]
    exact Ev.step (fun k => by rw [shuttleref2_Quote.l0, mkB_size, if_neg (show ¬ ((L.length : Nat) : Int) < (L.length : Int) by omega), if_pos (by omega)]; rfl) (Ev.now _)
  | d + 1, i, acc, hi, ha => by
    have hlt : i < L.length := by omega
    have hb : bt (mkB L) (i : Int) = (L[i].toNat : Int) := bt_mk L i _ (List.getElem?_eq_getElem hlt)
    have hw := wrN i (by omega)
    rw [drop_cons L i hlt, List.flatMap_cons, numsU_app]
    have ih := fun e : List UInt8 => fun he : e.length ≤ 4 => refwrite_l0 d (i + 1) (acc ++ numsU e) (by omega) (by rw [List.length_append, numsU, List.length_map]; omega)
    generalize hc : L[i] = c at hb ⊢
    have hc256 := c.toNat_lt
    have hgo : Ev (fun k => shuttleref2_Quote.j1 k (mkB L) hexS acc (i : Int) (c.toNat : Int) (decide (c.toNat = 34 ∨ c.toNat = 92))) (strOfNums (acc ++ ((numsU (encU c) ++ numsU ((L.drop (i + 1)).flatMap encU)) ++ [34]))) := by
      rw [List.append_assoc, ← List.append_assoc]
      unfold encU
      by_cases h1 : c.toNat = 34 ∨ c.toNat = 92
      · rw [if_pos h1]
        refine Ev.step (fun k => ?_) (ih [92, c] (by simp))
        rw [shuttleref2_Quote.j1, if_pos (decide_eq_true h1), hw]
        show (if acc.length + 2 < 140737488355328 then _ else none) = _
        rw [if_pos (by omega)]
        rfl
      · rw [if_neg h1]
        by_cases h2 : c.toNat = 10
        · rw [if_pos h2]
          refine Ev.step (fun k => ?_) (ih [92, 110] (by simp))
          rw [shuttleref2_Quote.j1, if_neg (by simpa using h1), if_pos (show (c.toNat : Int) = 10 by omega), hw]
          show (if acc.length + 2 < 140737488355328 then _ else none) = _
          rw [if_pos (by omega)]
          rfl
        · rw [if_neg h2]
          have hlo := hex_lo c
          have e1 : (c.toNat : Int) / 16 = ((c.toNat / 16 : Nat) : Int) := by omega
          have b1 : bt hexS ((c.toNat / 16 : Nat) : Int) = _ := hex_bt (c.toNat / 16) (by omega)
          have b2 : bt hexS ((c.toNat % 16 : Nat) : Int) = _ := hex_bt (c.toNat % 16) (by omega)
          have hz : ((hexS.size : Nat) : Int) = 16 := rfl
          by_cases h3 : c.toNat < 32 ∨ c.toNat = 127
          · rw [if_pos h3]
            refine Ev.step (fun k => ?_) (ih [92, 120, hexU (c.toNat / 16), hexU (c.toNat % 16)] (by simp))
            by_cases h4 : c.toNat < 32
            · rw [shuttleref2_Quote.j1, if_neg (by simpa using h1), if_neg (show ¬ (c.toNat : Int) = 10 by omega), if_pos (show (c.toNat : Int) < 32 by omega), e1, hlo, b1, b2, hz, if_pos (show (0 : Int) ≤ ((c.toNat / 16 : Nat) : Int) by omega), if_pos (show ((c.toNat / 16 : Nat) : Int) < 16 by omega), if_pos (show (0 : Int) ≤ ((c.toNat % 16 : Nat) : Int) by omega), if_pos (show ((c.toNat % 16 : Nat) : Int) < 16 by omega), hw]
              show (if acc.length + 4 < 140737488355328 then _ else none) = _
              rw [if_pos (by omega)]
              rfl
            · rw [shuttleref2_Quote.j1, if_neg (by simpa using h1), if_neg (show ¬ (c.toNat : Int) = 10 by omega), if_neg (show ¬ (c.toNat : Int) < 32 by omega), if_pos (show (c.toNat : Int) = 127 by omega), e1, hlo, b1, b2, hz, if_pos (show (0 : Int) ≤ ((c.toNat / 16 : Nat) : Int) by omega), if_pos (show ((c.toNat / 16 : Nat) : Int) < 16 by omega), if_pos (show (0 : Int) ≤ ((c.toNat % 16 : Nat) : Int) by omega), if_pos (show ((c.toNat % 16 : Nat) : Int) < 16 by omega), hw]
              show (if acc.length + 4 < 140737488355328 then _ else none) = _
              rw [if_pos (by omega)]
              rfl
          · rw [if_neg h3]
            refine Ev.step (fun k => ?_) (ih [c] (by simp))
            rw [shuttleref2_Quote.j1, if_neg (by simpa using h1), if_neg (show ¬ (c.toNat : Int) = 10 by omega), if_neg (show ¬ (c.toNat : Int) < 32 by omega), if_neg (show ¬ (c.toNat : Int) = 127 by omega), if_pos (by omega), hw]
            rfl
    refine Ev.step (fun k => ?_) hgo
    rw [shuttleref2_Quote.l0, mkB_size, if_pos (show (i : Int) < (L.length : Int) by omega), if_pos (show 0 ≤ (i : Int) by omega), hb]
    by_cases h : c.toNat = 34
    · rw [if_pos (show (c.toNat : Int) = 34 by omega), h]
      rfl
    · rw [if_neg (show ¬ (c.toNat : Int) = 34 by omega)]
      congr 1
      rw [Bool.eq_iff_iff]
      simp [h]
      omega
theorem refwrite_ev : Ev (fun k => shuttleref2_Quote.f k (mkB L)) (mkB (writeU L)) := by
  have h := refwrite_l0 L hL L.length 0 [34] (Nat.zero_add _) (by simp)
  rw [List.drop_zero] at h
  have e : ([34] : List Int) ++ (numsU (L.flatMap encU) ++ [34]) = numsU (writeU L) := by
    unfold writeU numsU
    simp
  rw [e, str_numsU] at h
  exact h
end
theorem refKey_ev (s : ByteArray) (hs : s.size ≤ 1073741824) : Ev (fun k => shuttleref2_Key.f k s) (if nameB s = true then s else mkB (writeU s.data.toList)) := by
  refine Ev.bind (refName_ev s hs) ?_
  cases h : nameB s with
  | true => exact Ev.congr (fun k => if_pos rfl) (Ev.now _)
  | false =>
    rw [if_neg (by decide)]
    exact Ev.congr (fun k => if_neg (by decide)) (Ev.bind (refwrite_ev s.data.toList hs) (Ev.now _))
theorem refValue_ev (s : ByteArray) (hs : s.size ≤ 1073741824) : Ev (fun k => shuttleref2_Value.f k s) (if plainB s = true then s else mkB (writeU s.data.toList)) := by
  refine Ev.bind (refPlain_ev s hs) ?_
  cases h : plainB s with
  | true => exact Ev.congr (fun k => if_pos rfl) (Ev.now _)
  | false =>
    rw [if_neg (by decide)]
    exact Ev.congr (fun k => if_neg (by decide)) (Ev.bind (refwrite_ev s.data.toList hs) (Ev.now _))
end Go.Proofs.Ytofajjodonhdkaa.Q
