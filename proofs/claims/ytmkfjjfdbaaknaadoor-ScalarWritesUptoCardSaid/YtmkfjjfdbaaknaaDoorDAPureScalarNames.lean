/- The plain law behind ScalarNames: names and plain texts are told as the document says. -/
import Derived.Test.YtmkfjjfdbaaknaaDoorDASWrite
import Derived.Test.YtmkfjjfdbaaknaaDoorDAQ10
namespace Go.Proofs.YtmkfjjfdbaaknaaDoor.Q
open Go Go.RowKit Go.Proofs.YtmkfjjfdbaaknaaDoorW.PrintWords Go.Proofs.YtmkfjjfdbaaknaaDoorW.PrintLast Go.Proofs.YtmkfjjfdbaaknaaDoorW.PrintMore
set_option linter.unusedVariables false
set_option linter.unusedSimpArgs false
theorem refplain_l0 (L : List UInt8) (hL : L.length ≤ 1073741824) : ∀ d i : Nat, i + 1 + d = L.length → ∀ p, L[i]? = some p → Ev (fun k => shuttleref2_Plain.l0 k (mkB L) ((i + 1 : Nat) : Int)) (allOk (mkB L) (i + 1) && !hasH (p :: L.drop (i + 1)))
  | 0, i, h, p, hp => by
    unfold allOk
    rw [allFrom_end _ _ _ (by rw [mkB_size]; omega), List.drop_eq_nil_of_le (by omega), hasH_one]
    exact Ev.step (fun k => by rw [shuttleref2_Plain.l0, mkB_size, if_neg (by omega)]; rfl) (Ev.now _)
  | d + 1, i, h, p, hp => by
    have hlt : i + 1 < L.length := by omega
    have ih := refplain_l0 L hL d (i + 1) (by omega) L[i + 1] (List.getElem?_eq_getElem hlt)
    have hb0 := bt_mk L i p hp
    have hb : bt (mkB L) ((i + 1 : Nat) : Int) = (L[i + 1].toNat : Int) := bt_mk L (i + 1) _ (List.getElem?_eq_getElem hlt)
    have hw := wrN (i + 1) (by omega)
    have hw0 : wrap64 (((i + 1 : Nat) : Int) - 1) = (i : Int) := by rw [wrI _ (by omega) (by omega)]; omega
    unfold allOk at ih ⊢
    rw [allFrom_bt _ _ _ (by rw [mkB_size]; omega), hb, drop_cons L (i + 1) hlt, hasH_two]
    generalize hc : L[i + 1] = c at hb ih ⊢
    have hstep : ∀ k, shuttleref2_Plain.l0 (k + 1) (mkB L) ((i + 1 : Nat) : Int) = (if (c.toNat : Int) < 32 then (some false) else (if (c.toNat : Int) = 127 then (some false) else (if (c.toNat : Int) = 35 then (if (p.toNat : Int) = 32 then (some false) else (shuttleref2_Plain.l0 k (mkB L) ((i + 1 + 1 : Nat) : Int))) else (shuttleref2_Plain.l0 k (mkB L) ((i + 1 + 1 : Nat) : Int))))) := fun k => by
      rw [shuttleref2_Plain.l0, mkB_size, if_pos (show ((i + 1 : Nat) : Int) < (L.length : Int) by omega), if_pos (show 0 ≤ ((i + 1 : Nat) : Int) by omega), hb, hw0, if_pos (show 0 ≤ (i : Int) by omega), if_pos (show (i : Int) < (L.length : Int) by omega), hb0, hw]
    by_cases h1 : (c.toNat : Int) < 32
    · rw [show decide (32 ≤ (c.toNat : Int)) = false from decide_eq_false (by omega), Bool.false_and, Bool.false_and, Bool.false_and]
      exact Ev.step (fun k => by rw [hstep, if_pos h1]) (Ev.now _)
    · rw [show decide (32 ≤ (c.toNat : Int)) = true from decide_eq_true (by omega), Bool.true_and]
      by_cases h2 : (c.toNat : Int) = 127
      · rw [show decide ((c.toNat : Int) ≠ 127) = false from decide_eq_false (fun h => h h2), Bool.false_and, Bool.false_and]
        exact Ev.step (fun k => by rw [hstep, if_neg h1, if_pos h2]) (Ev.now _)
      · rw [show decide ((c.toNat : Int) ≠ 127) = true from decide_eq_true h2, Bool.true_and]
        by_cases h3 : (c.toNat : Int) = 35
        · by_cases h4 : (p.toNat : Int) = 32
          · rw [show decide (p = 32 ∧ c = 35) = true from decide_eq_true ⟨(u32 p).1 h4, (u35 c).1 h3⟩, Bool.true_or, Bool.not_true, Bool.and_false]
            exact Ev.step (fun k => by rw [hstep, if_neg h1, if_neg h2, if_pos h3, if_pos h4]) (Ev.now _)
          · rw [show decide (p = 32 ∧ c = 35) = false from decide_eq_false (fun h => h4 ((u32 p).2 h.1)), Bool.false_or]
            exact Ev.step (fun k => by rw [hstep, if_neg h1, if_neg h2, if_pos h3, if_neg h4]) ih
        · rw [show decide (p = 32 ∧ c = 35) = false from decide_eq_false (fun h => h3 ((u35 c).2 h.2)), Bool.false_or]
          exact Ev.step (fun k => by rw [hstep, if_neg h1, if_neg h2, if_neg h3]) ih
theorem refPlain_ev (s : ByteArray) (hs : s.size ≤ 1073741824) : Ev (fun k => shuttleref2_Plain.f k s) (plainB s) := by
  have hbad : Ev (fun k => shuttleref2_Plain.j0 k s true) false := Ev.step (fun k => by rw [shuttleref2_Plain.j0, if_pos rfl]) (Ev.now _)
  unfold plainB
  by_cases h0 : s.toList = []
  · rw [if_pos h0]
    exact Ev.congr (fun k => by rw [shuttleref2_Plain.f, if_pos h0]) hbad
  · rw [if_neg h0]
    have hz : 0 < s.size := by
      have := mt (empty_iff s).2 h0
      omega
    have hw : wrap64 ((s.size : Int) - 1) = (s.size : Int) - 1 := wrI _ (by omega) (by omega)
    have hf : ∀ k, shuttleref2_Plain.f k s = (if s.toList = ([91, 93] : List UInt8) then (shuttleref2_Plain.j0 k s true) else (if s.toList = ([123, 125] : List UInt8) then (shuttleref2_Plain.j0 k s true) else (if (bt s 0) = 32 then (shuttleref2_Plain.j0 k s true) else (if (bt s ((s.size : Int) - 1)) = 32 then (shuttleref2_Plain.j0 k s true) else (if (bt s 0) = 34 then (shuttleref2_Plain.j0 k s true) else (shuttleref2_Plain.j0 k s ((bt s 0) == 35))))))) := fun k => by
      rw [shuttleref2_Plain.f, if_neg h0, if_pos (show (0 : Int) < (s.size : Int) by omega), hw, if_pos (show (0 : Int) ≤ (s.size : Int) - 1 by omega), if_pos (show (s.size : Int) - 1 < (s.size : Int) by omega)]
    by_cases h5 : s.toList = [91, 93]
    · rw [if_pos (.inr (.inr (.inr (.inr (.inl h5)))))]
      exact Ev.congr (fun k => by rw [hf, if_pos h5]) hbad
    · by_cases h6 : s.toList = [123, 125]
      · rw [if_pos (.inr (.inr (.inr (.inr (.inr (.inl h6))))))]
        exact Ev.congr (fun k => by rw [hf, if_neg h5, if_pos h6]) hbad
      · by_cases h1 : bt s 0 = 32
        · rw [if_pos (.inl h1)]
          exact Ev.congr (fun k => by rw [hf, if_neg h5, if_neg h6, if_pos h1]) hbad
        · by_cases h4 : bt s ((s.size : Int) - 1) = 32
          · rw [if_pos (.inr (.inr (.inr (.inl h4))))]
            exact Ev.congr (fun k => by rw [hf, if_neg h5, if_neg h6, if_neg h1, if_pos h4]) hbad
          · by_cases h2 : bt s 0 = 34
            · rw [if_pos (.inr (.inl h2))]
              exact Ev.congr (fun k => by rw [hf, if_neg h5, if_neg h6, if_neg h1, if_neg h4, if_pos h2]) hbad
            · by_cases h3 : bt s 0 = 35
              · rw [if_pos (.inr (.inr (.inl h3)))]
                exact Ev.congr (fun k => by rw [hf, if_neg h5, if_neg h6, if_neg h1, if_neg h4, if_neg h2, h3]; rfl) hbad
              · have hf' : ∀ k, shuttleref2_Plain.f k s = shuttleref2_Plain.j0 k s false := fun k => by
                  rw [hf, if_neg h5, if_neg h6, if_neg h1, if_neg h4, if_neg h2, show (bt s 0 == 35) = false from beq_eq_false_iff_ne.mpr h3]
                refine Ev.congr hf' (Ev.step (f := fun k => shuttleref2_Plain.l0 k s ((0 : Nat) : Int)) (fun k => by rw [shuttleref2_Plain.j0, if_neg (by decide)]; rfl) ?_)
                obtain ⟨L, rfl⟩ : ∃ L, s = mkB L := ⟨s.data.toList, rfl⟩
                rw [mkB_size] at hz
                rw [mkB_size] at hs
                have hb : bt (mkB L) ((0 : Nat) : Int) = (L[0].toNat : Int) := bt_mk L 0 _ (List.getElem?_eq_getElem hz)
                have hl := refplain_l0 L hs (L.length - 1) 0 (by omega) L[0] (List.getElem?_eq_getElem hz)
                have hL0 : L[0] :: L.drop (0 + 1) = L := by rw [← drop_cons L 0 hz, List.drop_zero]
                rw [hL0] at hl
                have hv : (if bt (mkB L) 0 = 32 ∨ bt (mkB L) 0 = 34 ∨ bt (mkB L) 0 = 35 ∨ bt (mkB L) (((mkB L).size : Int) - 1) = 32 ∨ (mkB L).toList = [91, 93] ∨ (mkB L).toList = [123, 125] ∨ Lib.contains (mkB L).data.toList [32, 35] = true then false else allOk (mkB L) 0) = (allOk (mkB L) 0 && !hasH L) := by
                  rw [mkB_list, hasH_contains]
                  cases h7 : hasH L with
                  | true =>
                    rw [if_pos (.inr (.inr (.inr (.inr (.inr (.inr rfl))))))]
                    simp
                  | false =>
                    rw [if_neg (fun h => by rcases h with h | h | h | h | h | h | h; exact h1 h; exact h2 h; exact h3 h; exact h4 h; exact h5 h; exact h6 h; cases h)]
                    simp
                rw [hv]
                have ha : allOk (mkB L) 0 = ((decide (32 ≤ (L[0].toNat : Int)) && decide ((L[0].toNat : Int) ≠ 127)) && allOk (mkB L) 1) := by
                  unfold allOk
                  rw [allFrom_bt _ _ _ (by rw [mkB_size]; exact hz), hb]
                  rfl
                rw [ha, Bool.and_assoc]
                have h35 : ¬ (L[0].toNat : Int) = 35 := fun h => h3 (by rw [← h, ← hb]; rfl)
                have hstep : ∀ k, shuttleref2_Plain.l0 (k + 1) (mkB L) ((0 : Nat) : Int) = (if (L[0].toNat : Int) < 32 then (some false) else (if (L[0].toNat : Int) = 127 then (some false) else (shuttleref2_Plain.l0 k (mkB L) ((0 + 1 : Nat) : Int)))) := fun k => by
                  rw [shuttleref2_Plain.l0, mkB_size, if_pos (show ((0 : Nat) : Int) < (L.length : Int) by omega), if_pos (show 0 ≤ ((0 : Nat) : Int) by omega), hb, wrN 0 (by omega), if_neg h35]
                by_cases g1 : (L[0].toNat : Int) < 32
                · rw [show decide (32 ≤ (L[0].toNat : Int)) = false from decide_eq_false (by omega), Bool.false_and, Bool.false_and]
                  exact Ev.step (fun k => by rw [hstep, if_pos g1]) (Ev.now _)
                · rw [show decide (32 ≤ (L[0].toNat : Int)) = true from decide_eq_true (by omega), Bool.true_and]
                  by_cases g2 : (L[0].toNat : Int) = 127
                  · rw [show decide ((L[0].toNat : Int) ≠ 127) = false from decide_eq_false (fun h => h g2), Bool.false_and]
                    exact Ev.step (fun k => by rw [hstep, if_neg g1, if_pos g2]) (Ev.now _)
                  · rw [show decide ((L[0].toNat : Int) ≠ 127) = true from decide_eq_true g2, Bool.true_and]
                    exact Ev.step (fun k => by rw [hstep, if_neg g1, if_neg g2]) hl
end Go.Proofs.YtmkfjjfdbaaknaaDoor.Q
namespace Go.Proofs.YtmkfjjfdbaaknaaDoor.Pure
open Go Go.RowKit Go.Proofs.YtmkfjjfdbaaknaaDoor.Q Go.Proofs.YtmkfjjfdbaaknaaDoorW.PrintWords
end Go.Proofs.YtmkfjjfdbaaknaaDoor.Pure
