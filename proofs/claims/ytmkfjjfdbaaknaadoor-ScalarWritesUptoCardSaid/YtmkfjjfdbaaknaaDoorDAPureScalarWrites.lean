/- The plain law behind ScalarWrites: quoted texts, keys and values are written as the document says. -/
import Derived.Test.YtmkfjjfdbaaknaaDoorDAPureScalarNames
import Derived.Test.YtmkfjjfdbaaknaaDoorDAQ11
namespace Go.Proofs.YtmkfjjfdbaaknaaDoor.Q
open Go Go.RowKit Go.Proofs.YtmkfjjfdbaaknaaDoorW.PrintWords Go.Proofs.YtmkfjjfdbaaknaaDoorW.PrintLast Go.Proofs.YtmkfjjfdbaaknaaDoorW.PrintMore
set_option linter.unusedVariables false
set_option linter.unusedSimpArgs false
def hexS : ByteArray := ⟨#[48, 49, 50, 51, 52, 53, 54, 55, 56, 57, 97, 98, 99, 100, 101, 102]⟩
section
variable (L : List UInt8) (hL : L.length ≤ 1073741824)
include hL
theorem refwrite_l0 : ∀ (d i : Nat) (acc : List Int), i + d = L.length → acc.length ≤ 4 * i + 1 → Ev (fun k => shuttleref2_Quote.l0 k (mkB L) hexS acc (i : Int)) (strOfNums (acc ++ (numsU ((L.drop i).flatMap encU) ++ [34])))
  | 0, i, acc, hi, ha => by
    have : i = L.length := by omega
    subst this
    rw [List.drop_length]
    exact Ev.step (fun k => by rw [shuttleref2_Quote.l0, mkB_size, if_neg (show ¬ ((L.length : Nat) : Int) < (L.length : Int) by omega), if_pos (by omega)]; rfl) (Ev.now _)
  | d + 1, i, acc, hi, ha => by
    have hlt : i < L.length := by omega
    have hb : bt (mkB L) (i : Int) = (L[i].toNat : Int) := bt_mk L i _ (List.getElem?_eq_getElem hlt)
    have hw := wrN i (by omega)
    rw [drop_cons L i hlt, List.flatMap_cons, numsU_app]
    have ih := fun e : List UInt8 => fun he : e.length ≤ 4 => refwrite_l0 d (i + 1) (acc ++ numsU e) (by omega) (by rw [List.length_append, numsU, List.length_map]; omega)
    generalize hc : L[i] = c at hb ⊢
    have hc256 := c.toNat_lt
    have hgo : Ev (fun k => shuttleref2_Quote.j1 k (mkB L) hexS acc (i : Int) (c.toNat : Int) (decide (c.toNat = 34 ∨ c.toNat = 92))) (strOfNums (acc ++ ((numsU (encU c) ++ numsU ((L.drop (i + 1)).flatMap encU)) ++ [34]))) := by
      rw [List.append_assoc, ← List.append_assoc]
      unfold encU
      by_cases h1 : c.toNat = 34 ∨ c.toNat = 92
      · rw [if_pos h1]
        refine Ev.step (fun k => ?_) (ih [92, c] (by simp))
        rw [shuttleref2_Quote.j1, if_pos (decide_eq_true h1), hw]
        show (if acc.length + 2 < 140737488355328 then _ else none) = _
        rw [if_pos (by omega)]
        rfl
      · rw [if_neg h1]
        by_cases h2 : c.toNat = 10
        · rw [if_pos h2]
          refine Ev.step (fun k => ?_) (ih [92, 110] (by simp))
          rw [shuttleref2_Quote.j1, if_neg (by simpa using h1), if_pos (show (c.toNat : Int) = 10 by omega), hw]
          show (if acc.length + 2 < 140737488355328 then _ else none) = _
          rw [if_pos (by omega)]
          rfl
        · rw [if_neg h2]
          have hlo := hex_lo c
          have e1 : (c.toNat : Int) / 16 = ((c.toNat / 16 : Nat) : Int) := by omega
          have b1 : bt hexS ((c.toNat / 16 : Nat) : Int) = _ := hex_bt (c.toNat / 16) (by omega)
          have b2 : bt hexS ((c.toNat % 16 : Nat) : Int) = _ := hex_bt (c.toNat % 16) (by omega)
          have hz : ((hexS.size : Nat) : Int) = 16 := rfl
          by_cases h3 : c.toNat < 32 ∨ c.toNat = 127
          · rw [if_pos h3]
            refine Ev.step (fun k => ?_) (ih [92, 120, hexU (c.toNat / 16), hexU (c.toNat % 16)] (by simp))
            by_cases h4 : c.toNat < 32
            · rw [shuttleref2_Quote.j1, if_neg (by simpa using h1), if_neg (show ¬ (c.toNat : Int) = 10 by omega), if_pos (show (c.toNat : Int) < 32 by omega), e1, hlo, b1, b2, hz, if_pos (show (0 : Int) ≤ ((c.toNat / 16 : Nat) : Int) by omega), if_pos (show ((c.toNat / 16 : Nat) : Int) < 16 by omega), if_pos (show (0 : Int) ≤ ((c.toNat % 16 : Nat) : Int) by omega), if_pos (show ((c.toNat % 16 : Nat) : Int) < 16 by omega), hw]
              show (if acc.length + 4 < 140737488355328 then _ else none) = _
              rw [if_pos (by omega)]
              rfl
            · rw [shuttleref2_Quote.j1, if_neg (by simpa using h1), if_neg (show ¬ (c.toNat : Int) = 10 by omega), if_neg (show ¬ (c.toNat : Int) < 32 by omega), if_pos (show (c.toNat : Int) = 127 by omega), e1, hlo, b1, b2, hz, if_pos (show (0 : Int) ≤ ((c.toNat / 16 : Nat) : Int) by omega), if_pos (show ((c.toNat / 16 : Nat) : Int) < 16 by omega), if_pos (show (0 : Int) ≤ ((c.toNat % 16 : Nat) : Int) by omega), if_pos (show ((c.toNat % 16 : Nat) : Int) < 16 by omega), hw]
              show (if acc.length + 4 < 140737488355328 then _ else none) = _
              rw [if_pos (by omega)]
              rfl
          · rw [if_neg h3]
            refine Ev.step (fun k => ?_) (ih [c] (by simp))
            rw [shuttleref2_Quote.j1, if_neg (by simpa using h1), if_neg (show ¬ (c.toNat : Int) = 10 by omega), if_neg (show ¬ (c.toNat : Int) < 32 by omega), if_neg (show ¬ (c.toNat : Int) = 127 by omega), if_pos (by omega), hw]
            rfl
    refine Ev.step (fun k => ?_) hgo
    rw [shuttleref2_Quote.l0, mkB_size, if_pos (show (i : Int) < (L.length : Int) by omega), if_pos (show 0 ≤ (i : Int) by omega), hb]
    by_cases h : c.toNat = 34
    · rw [if_pos (show (c.toNat : Int) = 34 by omega), h]
      rfl
    · rw [if_neg (show ¬ (c.toNat : Int) = 34 by omega)]
      congr 1
      rw [Bool.eq_iff_iff]
      simp [h]
      omega
theorem refwrite_ev : Ev (fun k => shuttleref2_Quote.f k (mkB L)) (mkB (writeU L)) := by
  have h := refwrite_l0 L hL L.length 0 [34] (Nat.zero_add _) (by simp)
  rw [List.drop_zero] at h
  have e : ([34] : List Int) ++ (numsU (L.flatMap encU) ++ [34]) = numsU (writeU L) := by
    unfold writeU numsU
    simp
  rw [e, str_numsU] at h
  exact h
end
theorem refKey_ev (s : ByteArray) (hs : s.size ≤ 1073741824) : Ev (fun k => shuttleref2_Key.f k s) (if nameB s = true then s else mkB (writeU s.data.toList)) := by
  refine Ev.bind (refName_ev s hs) ?_
  cases h : nameB s with
  | true => exact Ev.congr (fun k => if_pos rfl) (Ev.now _)
  | false =>
    rw [if_neg (by decide)]
    exact Ev.congr (fun k => if_neg (by decide)) (Ev.bind (refwrite_ev s.data.toList hs) (Ev.now _))
theorem refValue_ev (s : ByteArray) (hs : s.size ≤ 1073741824) : Ev (fun k => shuttleref2_Value.f k s) (if plainB s = true then s else mkB (writeU s.data.toList)) := by
  refine Ev.bind (refPlain_ev s hs) ?_
  cases h : plainB s with
  | true => exact Ev.congr (fun k => if_pos rfl) (Ev.now _)
  | false =>
    rw [if_neg (by decide)]
    exact Ev.congr (fun k => if_neg (by decide)) (Ev.bind (refwrite_ev s.data.toList hs) (Ev.now _))
end Go.Proofs.YtmkfjjfdbaaknaaDoor.Q
namespace Go.Proofs.YtmkfjjfdbaaknaaDoor.Pure
open Go Go.RowKit Go.Proofs.YtmkfjjfdbaaknaaDoor.Q Go.Proofs.YtmkfjjfdbaaknaaDoorW.PrintWords
theorem ScalarWrites (a0 : ByteArray) (hs : a0.size ≤ 1048576) : ∃ k, shuttlelaw2_ScalarWrites.f k a0 = some true := by
  refine Ev.rounds ?_
  refine Ev.bind (quote_ev a0 (by omega)) (Ev.bind (refwrite_ev a0.data.toList (show a0.size ≤ 1073741824 by omega)) (Ev.congr (fun k => if_pos rfl) ?_))
  refine Ev.bind (key_evB a0 (by omega)) (Ev.bind (refKey_ev a0 (by omega)) (Ev.congr (fun k => if_pos rfl) ?_))
  refine Ev.bind (value_evB a0 (by omega)) (Ev.bind (refValue_ev a0 (by omega)) (Ev.congr (fun k => if_pos rfl) ?_))
  exact Ev.bind awake_ev (Ev.now _)
end Go.Proofs.YtmkfjjfdbaaknaaDoor.Pure
