/- Quoted texts are written, over lists of bytes; plain texts; names: no program in sight. -/
import Derived.Test.YtmkfjjfdbaaknaaDoorHASAw
namespace Go.Proofs.YtmkfjjfdbaaknaaDoor.Q
open Go Go.RowKit Go.Proofs.YtmkfjjfdbaaknaaDoorW.PrintWords Go.Proofs.YtmkfjjfdbaaknaaDoorW.PrintLast Go.Proofs.YtmkfjjfdbaaknaaDoorW.PrintMore
set_option linter.unusedVariables false
set_option linter.unusedSimpArgs false
def hexU (n : Nat) : UInt8 := if n < 10 then UInt8.ofNat (48 + n) else UInt8.ofNat (87 + n)
/-- How a byte is written in a quoted text. -/
def encU (c : UInt8) : List UInt8 := if c.toNat = 34 ∨ c.toNat = 92 then [92, c] else if c.toNat = 10 then [92, 110] else if c.toNat < 32 ∨ c.toNat = 127 then [92, 120, hexU (c.toNat / 16), hexU (c.toNat % 16)] else [c]
def writeU (L : List UInt8) : List UInt8 := 34 :: (L.flatMap encU ++ [34])
def numsU (L : List UInt8) : List Int := L.map fun b => (b.toNat : Int)
theorem numsU_app (a b : List UInt8) : numsU (a ++ b) = numsU a ++ numsU b := List.map_append
theorem str_numsU (l : List UInt8) : strOfNums (numsU l) = mkB l := by
  unfold strOfNums numsU mkB
  congr 2
  rw [List.map_map]
  conv => rhs; rw [← List.map_id l]
  apply List.map_congr_left
  intro b _
  simp
theorem encU_len (c : UInt8) : 1 ≤ (encU c).length ∧ (encU c).length ≤ 4 := by
  unfold encU
  split
  · constructor <;> simp
  · split
    · constructor <;> simp
    · split
      · constructor <;> simp
      · constructor <;> simp
theorem flat_len : ∀ l : List UInt8, l.length ≤ (l.flatMap encU).length ∧ (l.flatMap encU).length ≤ 4 * l.length
  | [] => by simp
  | c :: r => by
    have := flat_len r
    have := encU_len c
    rw [List.flatMap_cons, List.length_append, List.length_cons]
    omega
theorem and15 : ∀ n : Fin 256, Go.bits .and .u8 (((n : Nat) : Int)) 15 = (((n : Nat) % 16 : Nat) : Int) := by decide +kernel
theorem hex_at : ∀ n : Fin 16, bt (⟨#[48, 49, 50, 51, 52, 53, 54, 55, 56, 57, 97, 98, 99, 100, 101, 102]⟩ : ByteArray) (((n : Nat) : Int)) = ((hexU n).toNat : Int) := by decide +kernel
theorem hex_lo (c : UInt8) : Go.bits .and .u8 (c.toNat : Int) 15 = ((c.toNat % 16 : Nat) : Int) := and15 ⟨c.toNat, c.toNat_lt⟩
theorem hex_bt (n : Nat) (h : n < 16) : bt (⟨#[48, 49, 50, 51, 52, 53, 54, 55, 56, 57, 97, 98, 99, 100, 101, 102]⟩ : ByteArray) (n : Int) = ((hexU n).toNat : Int) := hex_at ⟨n, h⟩
section
variable (L : List UInt8) (hL : L.length ≤ 1073741824)
include hL
theorem write_l0 : ∀ (d i : Nat) (acc : List Int), i + d = L.length → acc.length ≤ 4 * i + 1 → Ev (fun k => quote_Write.l0 k (mkB L) acc (i : Int)) (strOfNums (acc ++ (numsU ((L.drop i).flatMap encU) ++ [34])))
  | 0, i, acc, hi, ha => by
    have : i = L.length := by omega
    subst this
    rw [List.drop_length]
    exact Ev.step (fun k => by rw [quote_Write.l0, mkB_size, if_neg (show ¬ ((L.length : Nat) : Int) < (L.length : Int) by omega), if_pos (by omega)]; rfl) (Ev.now _)
  | d + 1, i, acc, hi, ha => by
    have hlt : i < L.length := by omega
    have hb : bt (mkB L) (i : Int) = (L[i].toNat : Int) := bt_mk L i _ (List.getElem?_eq_getElem hlt)
    have hw := wrN i (by omega)
    rw [drop_cons L i hlt, List.flatMap_cons, numsU_app]
    have ih := fun e : List UInt8 => fun he : e.length ≤ 4 => write_l0 d (i + 1) (acc ++ numsU e) (by omega) (by rw [List.length_append, numsU, List.length_map]; omega)
    generalize hc : L[i] = c at hb ⊢
    have hc256 := c.toNat_lt
    have hgo : Ev (fun k => quote_Write.j1 k (mkB L) acc (i : Int) (c.toNat : Int) (decide (c.toNat = 34 ∨ c.toNat = 92))) (strOfNums (acc ++ ((numsU (encU c) ++ numsU ((L.drop (i + 1)).flatMap encU)) ++ [34]))) := by
      rw [List.append_assoc, ← List.append_assoc]
      unfold encU
      by_cases h1 : c.toNat = 34 ∨ c.toNat = 92
      · rw [if_pos h1]
        refine Ev.step (fun k => ?_) (ih [92, c] (by simp))
        rw [quote_Write.j1, if_pos (decide_eq_true h1), hw]
        show (if acc.length + 2 < 140737488355328 then _ else none) = _
        rw [if_pos (by omega)]
        rfl
      · rw [if_neg h1]
        by_cases h2 : c.toNat = 10
        · rw [if_pos h2]
          refine Ev.step (fun k => ?_) (ih [92, 110] (by simp))
          rw [quote_Write.j1, if_neg (by simpa using h1), if_pos (show (c.toNat : Int) = 10 by omega), hw]
          show (if acc.length + 2 < 140737488355328 then _ else none) = _
          rw [if_pos (by omega)]
          rfl
        · rw [if_neg h2]
          have hlo := hex_lo c
          have e1 : (c.toNat : Int) / 16 = ((c.toNat / 16 : Nat) : Int) := by omega
          have b1 := hex_bt (c.toNat / 16) (by omega)
          have b2 := hex_bt (c.toNat % 16) (by omega)
          by_cases h3 : c.toNat < 32 ∨ c.toNat = 127
          · rw [if_pos h3]
            refine Ev.step (fun k => ?_) (ih [92, 120, hexU (c.toNat / 16), hexU (c.toNat % 16)] (by simp))
            by_cases h4 : c.toNat < 32
            · rw [quote_Write.j1, if_neg (by simpa using h1), if_neg (show ¬ (c.toNat : Int) = 10 by omega), if_pos (show (c.toNat : Int) < 32 by omega), e1, hlo, b1, b2, if_pos (show (0 : Int) ≤ ((c.toNat / 16 : Nat) : Int) by omega), if_pos (show ((c.toNat / 16 : Nat) : Int) < 16 by omega), if_pos (show (0 : Int) ≤ ((c.toNat % 16 : Nat) : Int) by omega), if_pos (show ((c.toNat % 16 : Nat) : Int) < 16 by omega), hw]
              show (if acc.length + 4 < 140737488355328 then _ else none) = _
              rw [if_pos (by omega)]
              rfl
            · rw [quote_Write.j1, if_neg (by simpa using h1), if_neg (show ¬ (c.toNat : Int) = 10 by omega), if_neg (show ¬ (c.toNat : Int) < 32 by omega), if_pos (show (c.toNat : Int) = 127 by omega), e1, hlo, b1, b2, if_pos (show (0 : Int) ≤ ((c.toNat / 16 : Nat) : Int) by omega), if_pos (show ((c.toNat / 16 : Nat) : Int) < 16 by omega), if_pos (show (0 : Int) ≤ ((c.toNat % 16 : Nat) : Int) by omega), if_pos (show ((c.toNat % 16 : Nat) : Int) < 16 by omega), hw]
              show (if acc.length + 4 < 140737488355328 then _ else none) = _
              rw [if_pos (by omega)]
              rfl
          · rw [if_neg h3]
            refine Ev.step (fun k => ?_) (ih [c] (by simp))
            rw [quote_Write.j1, if_neg (by simpa using h1), if_neg (show ¬ (c.toNat : Int) = 10 by omega), if_neg (show ¬ (c.toNat : Int) < 32 by omega), if_neg (show ¬ (c.toNat : Int) = 127 by omega), if_pos (by omega), hw]
            rfl
    refine Ev.step (fun k => ?_) hgo
    rw [quote_Write.l0, mkB_size, if_pos (show (i : Int) < (L.length : Int) by omega), if_pos (show 0 ≤ (i : Int) by omega), hb]
    by_cases h : c.toNat = 34
    · rw [if_pos (show (c.toNat : Int) = 34 by omega), h]
      rfl
    · rw [if_neg (show ¬ (c.toNat : Int) = 34 by omega)]
      congr 1
      rw [Bool.eq_iff_iff]
      simp [h]
      omega
theorem write_ev : Ev (fun k => quote_Write.f k (mkB L)) (mkB (writeU L)) := by
  have h := write_l0 L hL L.length 0 [34] (Nat.zero_add _) (by simp)
  rw [List.drop_zero] at h
  have e : ([34] : List Int) ++ (numsU (L.flatMap encU) ++ [34]) = numsU (writeU L) := by
    unfold writeU numsU
    simp
  rw [e, str_numsU] at h
  exact h
end
theorem quote_ev (s : ByteArray) (hs : s.size ≤ 1073741824) : Ev (fun k => scalar_Quote.f k s) (mkB (writeU s.data.toList)) :=
  Ev.bind (write_ev s.data.toList hs) (Ev.now _)
end Go.Proofs.YtmkfjjfdbaaknaaDoor.Q
