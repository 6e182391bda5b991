/- Keys and values as they are written: over lists of bytes. -/
import Derived.Test.YtofajjodonhdkaaEAQ7
import Derived.Test.YtofajjodonhdkaaEAKName
import Derived.Lib.TrimByte
import Derived.Lib.IndexMore
namespace Go.Proofs.Ytofajjodonhdkaa.Q
open Go Go.RowKit Go.Proofs.YtofajjodonhdkaaW.PrintWords Go.Proofs.YtofajjodonhdkaaW.PrintLast Go.Proofs.YtofajjodonhdkaaW.PrintMore
set_option linter.unusedVariables false
set_option linter.unusedSimpArgs false
def mkB (l : List UInt8) : ByteArray := ⟨l.toArray⟩
theorem mkB_list (l : List UInt8) : (mkB l).data.toList = l := rfl
theorem mkB_of (s : ByteArray) : mkB s.data.toList = s := rfl
theorem mkB_size (l : List UInt8) : (mkB l).size = l.length := Go.Lib.size_mk l
theorem bt_mk (l : List UInt8) (i : Nat) (c : UInt8) (h : l[i]? = some c) : bt (mkB l) (i : Int) = (c.toNat : Int) := by
  obtain ⟨hi, hc⟩ := List.getElem?_eq_some_iff.1 h
  have h1 : (i : Int).toNat < (mkB l).size := by rw [mkB_size]; exact hi
  rw [← bt_at (mkB l) (i : Int) h1]
  have h2 := Go.Lib.getElem_mk l i (by rw [mkB_size] at h1; simpa [ByteArray.size] using h1)
  rw [h] at h2
  injection h2 with h2
  rw [h2]
  rfl
theorem wrN (i : Nat) (h : i < 4611686018427387904) : wrap64 ((i : Int) + 1) = ((i + 1 : Nat) : Int) := by unfold wrap64; omega
theorem wrI (x : Int) (h : -4611686018427387904 < x) (h2 : x < 4611686018427387904) : wrap64 x = x := by unfold wrap64; omega
theorem drop_cons (L : List UInt8) (i : Nat) (h : i < L.length) : L.drop i = L[i] :: L.drop (i + 1) := List.drop_eq_getElem_cons h
theorem allFrom_bt (p : Int → Bool) (s : ByteArray) (i : Nat) (h : i < s.size) : allFrom p s i = (p (bt s (i : Int)) && allFrom p s (i + 1)) := by
  rw [allFrom_step p s i h, ← bt_at s (i : Int) h]
  rfl
/-- The place of the first blank with a remark's sign behind it; else the end. -/
def hashN : List UInt8 → Nat
  | [] => 0
  | c :: r => if c = 32 ∧ r.head? = some 35 then 0 else hashN r + 1
theorem hashN_le : ∀ l, hashN l ≤ l.length
  | [] => Nat.le_refl _
  | c :: r => by
    unfold hashN
    split
    · omega
    · have := hashN_le r
      rw [List.length_cons]
      omega
theorem pre2 (c : UInt8) (r : List UInt8) : ([32, 35] : List UInt8).isPrefixOf (c :: r) = true ↔ c = 32 ∧ r.head? = some 35 := by
  have e : ([32, 35] : List UInt8).isPrefixOf (c :: r) = ((32 == c) && ([35] : List UInt8).isPrefixOf r) := rfl
  rw [e, Bool.and_eq_true, beq_iff_eq]
  cases r with
  | nil =>
    constructor
    · intro h
      cases h.2
    · intro h
      cases h.2
  | cons d r =>
    have e2 : ([35] : List UInt8).isPrefixOf (d :: r) = ((35 == d) && true) := by
      cases r <;> rfl
    rw [e2, Bool.and_true, beq_iff_eq]
    constructor
    · rintro ⟨h1, h2⟩
      exact ⟨h1.symm, by rw [← h2]; rfl⟩
    · rintro ⟨h1, h2⟩
      exact ⟨h1.symm, (Option.some.inj h2).symm⟩
theorem index_hash : ∀ l : List UInt8, Lib.index l [32, 35] = if hashN l < l.length then (hashN l : Int) else -1
  | [] => rfl
  | c :: r => by
    unfold Lib.index hashN
    by_cases h : c = 32 ∧ r.head? = some 35
    · rw [if_pos ((pre2 c r).2 h), if_pos h, if_pos (by simp)]
      rfl
    · rw [if_neg (fun h2 => h ((pre2 c r).1 h2)), if_neg h, index_hash r]
      have := hashN_le r
      by_cases h2 : hashN r < r.length
      · rw [if_pos h2, if_neg (show ¬ (((hashN r : Nat) : Int) == -1) = true by rw [beq_iff_eq]; omega), if_pos (by rw [List.length_cons]; omega)]
        rfl
      · rw [if_neg h2, if_pos (show ((-1 : Int) == -1) = true by decide), if_neg (by rw [List.length_cons]; omega)]
theorem u32 (c : UInt8) : (c.toNat : Int) = 32 ↔ c = 32 := by
  constructor
  · intro h
    exact UInt8.toNat_inj.1 (by rw [show (32 : UInt8).toNat = 32 from rfl]; omega)
  · intro h
    subst h
    rfl
theorem u35 (c : UInt8) : (c.toNat : Int) = 35 ↔ c = 35 := by
  constructor
  · intro h
    exact UInt8.toNat_inj.1 (by rw [show (35 : UInt8).toNat = 35 from rfl]; omega)
  · intro h
    subst h
    rfl
def hexU (n : Nat) : UInt8 := if n < 10 then UInt8.ofNat (48 + n) else UInt8.ofNat (87 + n)
/-- How a byte is written in a quoted text. -/
def encU (c : UInt8) : List UInt8 := if c.toNat = 34 ∨ c.toNat = 92 then [92, c] else if c.toNat = 10 then [92, 110] else if c.toNat < 32 ∨ c.toNat = 127 then [92, 120, hexU (c.toNat / 16), hexU (c.toNat % 16)] else [c]
def writeU (L : List UInt8) : List UInt8 := 34 :: (L.flatMap encU ++ [34])
def numsU (L : List UInt8) : List Int := L.map fun b => (b.toNat : Int)
theorem numsU_app (a b : List UInt8) : numsU (a ++ b) = numsU a ++ numsU b := List.map_append
theorem str_numsU (l : List UInt8) : strOfNums (numsU l) = mkB l := by
  unfold strOfNums numsU mkB
  congr 2
  rw [List.map_map]
  conv => rhs; rw [← List.map_id l]
  apply List.map_congr_left
  intro b _
  simp
theorem encU_len (c : UInt8) : 1 ≤ (encU c).length ∧ (encU c).length ≤ 4 := by
  unfold encU
  split
  · constructor <;> simp
  · split
    · constructor <;> simp
    · split
      · constructor <;> simp
      · constructor <;> simp
theorem flat_len : ∀ l : List UInt8, l.length ≤ (l.flatMap encU).length ∧ (l.flatMap encU).length ≤ 4 * l.length
  | [] => by simp
  | c :: r => by
    have := flat_len r
    have := encU_len c
    rw [List.flatMap_cons, List.length_append, List.length_cons]
    omega
theorem and15 : ∀ n : Fin 256, Go.bits .and .u8 (((n : Nat) : Int)) 15 = (((n : Nat) % 16 : Nat) : Int) := by decide +kernel
theorem hex_at : ∀ n : Fin 16, bt (⟨#[48, 49, 50, 51, 52, 53, 54, 55, 56, 57, 97, 98, 99, 100, 101, 102]⟩ : ByteArray) (((n : Nat) : Int)) = ((hexU n).toNat : Int) := by decide +kernel
theorem hex_lo (c : UInt8) : Go.bits .and .u8 (c.toNat : Int) 15 = ((c.toNat % 16 : Nat) : Int) := and15 ⟨c.toNat, c.toNat_lt⟩
theorem hex_bt (n : Nat) (h : n < 16) : bt (⟨#[48, 49, 50, 51, 52, 53, 54, 55, 56, 57, 97, 98, 99, 100, 101, 102]⟩ : ByteArray) (n : Int) = ((hexU n).toNat : Int) := hex_at ⟨n, h⟩
section
variable (L : List UInt8) (hL : L.length ≤ 1073741824)
include hL
theorem write_l0 : ∀ (d i : Nat) (acc : List Int), i + d = L.length → acc.length ≤ 4 * i + 1 → Ev (fun k => quote_Write.l0 k (mkB L) acc (i : Int)) (strOfNums (acc ++ (numsU ((L.drop i).flatMap encU) ++ [34])))
  | 0, i, acc, hi, ha => by
    have : i = L.length := by omega
    subst this
    rw [List.drop_length]
    exact Ev.step (fun k => by rw [quote_Write.l0, mkB_size, if_neg (show ¬ ((L.length : Nat) : Int) < (L.length : Int) by omega), if_pos (by omega)]; rfl) (Ev.now _)
  | d + 1, i, acc, hi, ha => by
    have hlt : i < L.length := by omega
    have hb : bt (mkB L) (i : Int) = (L[i].toNat : Int) := bt_mk L i _ (List.getElem?_eq_getElem hlt)
    have hw := wrN i (by omega)
    rw [drop_cons L i hlt, List.flatMap_cons, numsU_app]
    have ih := fun e : List UInt8 => fun he : e.length ≤ 4 => write_l0 d (i + 1) (acc ++ numsU e) (by omega) (by rw [List.length_append, numsU, List.length_map]; omega)
    generalize hc : L[i] = c at hb ⊢
    have hc256 := c.toNat_lt
    have hgo : Ev (fun k => quote_Write.j1 k (mkB L) acc (i : Int) (c.toNat : Int) (decide (c.toNat = 34 ∨ c.toNat = 92))) (strOfNums (acc ++ ((numsU (encU c) ++ numsU ((L.drop (i + 1)).flatMap encU)) ++ [34]))) := by
      rw [List.append_assoc, ← List.append_assoc]
      unfold encU
      by_cases h1 : c.toNat = 34 ∨ c.toNat = 92
      · rw [if_pos h1]
        refine Ev.step (fun k => ?_) (ih [92, c] (by simp))
        rw [quote_Write.j1, if_pos (decide_eq_true h1), hw]
        show (if acc.length + 2 < 140737488355328 then _ else none) = _
        rw [if_pos (by omega)]
        rfl
      · rw [if_neg h1]
        by_cases h2 : c.toNat = 10
        · rw [if_pos h2]
          refine Ev.step (fun k => ?_) (ih [92, 110] (by simp))
          rw [quote_Write.j1, if_neg (by simpa using h1), if_pos (show (c.toNat : Int) = 10 by omega), hw]
          show (if acc.length + 2 < 140737488355328 then _ else none) = _
          rw [if_pos (by omega)]
          rfl
        · rw [if_neg h2]
          have hlo := hex_lo c
          have e1 : (c.toNat : Int) / 16 = ((c.toNat / 16 : Nat) : Int) := by omega
          have b1 := hex_bt (c.toNat / 16) (by omega)
          have b2 := hex_bt (c.toNat % 16) (by omega)
          by_cases h3 : c.toNat < 32 ∨ c.toNat = 127
          · rw [if_pos h3]
            refine Ev.step (fun k => ?_) (ih [92, 120, hexU (c.toNat / 16), hexU (c.toNat % 16)] (by simp))
            by_cases h4 : c.toNat < 32
            · rw [quote_Write.j1, if_neg (by simpa using h1), if_neg (show ¬ (c.toNat : Int) = 10 by omega), if_pos (show (c.toNat : Int) < 32 by omega), e1, hlo, b1, b2, if_pos (show (0 : Int) ≤ ((c.toNat / 16 : Nat) : Int) by omega), if_pos (show ((c.toNat / 16 : Nat) : Int) < 16 by omega), if_pos (show (0 : Int) ≤ ((c.toNat % 16 : Nat) : Int) by omega), if_pos (show ((c.toNat % 16 : Nat) : Int) < 16 by omega), hw]
              show (if acc.length + 4 < 140737488355328 then _ else none) = _
              rw [if_pos (by omega)]
              rfl
            · rw [quote_Write.j1, if_neg (by simpa using h1), if_neg (show ¬ (c.toNat : Int) = 10 by omega), if_neg (show ¬ (c.toNat : Int) < 32 by omega), if_pos (show (c.toNat : Int) = 127 by omega), e1, hlo, b1, b2, if_pos (show (0 : Int) ≤ ((c.toNat / 16 : Nat) : Int) by omega), if_pos (show ((c.toNat / 16 : Nat) : Int) < 16 by omega), if_pos (show (0 : Int) ≤ ((c.toNat % 16 : Nat) : Int) by omega), if_pos (show ((c.toNat % 16 : Nat) : Int) < 16 by omega), hw]
              show (if acc.length + 4 < 140737488355328 then _ else none) = _
              rw [if_pos (by omega)]
              rfl
          · rw [if_neg h3]
            refine Ev.step (fun k => ?_) (ih [c] (by simp))
            rw [quote_Write.j1, if_neg (by simpa using h1), if_neg (show ¬ (c.toNat : Int) = 10 by omega), if_neg (show ¬ (c.toNat : Int) < 32 by omega), if_neg (show ¬ (c.toNat : Int) = 127 by omega), if_pos (by omega), hw]
            rfl
    refine Ev.step (fun k => ?_) hgo
    rw [quote_Write.l0, mkB_size, if_pos (show (i : Int) < (L.length : Int) by omega), if_pos (show 0 ≤ (i : Int) by omega), hb]
    by_cases h : c.toNat = 34
    · rw [if_pos (show (c.toNat : Int) = 34 by omega), h]
      rfl
    · rw [if_neg (show ¬ (c.toNat : Int) = 34 by omega)]
      congr 1
      rw [Bool.eq_iff_iff]
      simp [h]
      omega
theorem write_ev : Ev (fun k => quote_Write.f k (mkB L)) (mkB (writeU L)) := by
  have h := write_l0 L hL L.length 0 [34] (Nat.zero_add _) (by simp)
  rw [List.drop_zero] at h
  have e : ([34] : List Int) ++ (numsU (L.flatMap encU) ++ [34]) = numsU (writeU L) := by
    unfold writeU numsU
    simp
  rw [e, str_numsU] at h
  exact h
end
theorem quote_ev (s : ByteArray) (hs : s.size ≤ 1073741824) : Ev (fun k => scalar_Quote.f k s) (mkB (writeU s.data.toList)) :=
  Ev.bind (write_ev s.data.toList hs) (Ev.now _)
theorem key_evB (s : ByteArray) (hs : s.size ≤ 1073741824) : Ev (fun k => scalar_Key.f k s) (if nameB s = true then s else mkB (writeU s.data.toList)) := by
  cases h : nameB s with
  | true =>
    refine Ev.congr (f := fun _ => some s) (fun k => ?_) (Ev.now _)
    show (some (nameB s)).bind _ = _
    rw [h]
    rfl
  | false =>
    rw [if_neg (by decide)]
    refine Ev.congr (f := fun k => (scalar_Quote.f k s).bind fun t => some t) (fun k => ?_) (Ev.bind (quote_ev s hs) (Ev.now _))
    show (some (nameB s)).bind _ = _
    rw [h]
    rfl
def allOk (s : ByteArray) (i : Nat) : Bool := allFrom (fun c => decide (32 ≤ c) && decide (c ≠ 127)) s i
/-- Would a text, written bare, be read as itself? -/
def plainB (s : ByteArray) : Bool :=
  if s.toList = [] then false else if bt s 0 = 32 ∨ bt s 0 = 34 ∨ bt s 0 = 35 ∨ bt s ((s.size : Int) - 1) = 32 ∨ s.toList = [91, 93] ∨ s.toList = [123, 125] ∨ Lib.contains s.data.toList [32, 35] = true then false else allOk s 0
theorem plain_l0 (s : ByteArray) (hs : s.size ≤ 1073741824) : ∀ d i : Nat, i + d = s.size → Ev (fun k => scalar_Plain.l0 k s (i : Int)) (allOk s i)
  | 0, i, h => by
    unfold allOk
    rw [allFrom_end _ _ _ (by omega)]
    exact Ev.step (fun k => by rw [scalar_Plain.l0, if_neg (by omega)]) (Ev.now _)
  | d + 1, i, h => by
    have ih := plain_l0 s hs d (i + 1) (by omega)
    unfold allOk at ih ⊢
    rw [allFrom_bt _ _ _ (by omega)]
    have hstep : ∀ k, scalar_Plain.l0 (k + 1) s (i : Int) = (if (bt s (i : Int)) < 32 then (some false) else (if (bt s (i : Int)) = 127 then (some false) else (scalar_Plain.l0 k s ((i + 1 : Nat) : Int)))) := fun k => by
      rw [scalar_Plain.l0, if_pos (show (i : Int) < (s.size : Int) by omega), if_pos (show 0 ≤ (i : Int) by omega), wrN i (by omega)]
    generalize bt s (i : Int) = c at hstep ⊢
    by_cases h1 : c < 32
    · rw [show decide (32 ≤ c) = false from decide_eq_false (by omega), Bool.false_and, Bool.false_and]
      exact Ev.step (fun k => by rw [hstep, if_pos h1]) (Ev.now _)
    · rw [show decide (32 ≤ c) = true from decide_eq_true (by omega), Bool.true_and]
      by_cases h2 : c = 127
      · rw [show decide (c ≠ 127) = false from decide_eq_false (fun h => h h2), Bool.false_and]
        exact Ev.step (fun k => by rw [hstep, if_neg h1, if_pos h2]) (Ev.now _)
      · rw [show decide (c ≠ 127) = true from decide_eq_true h2, Bool.true_and]
        exact Ev.step (fun k => by rw [hstep, if_neg h1, if_neg h2]) ih
theorem plain_ev (s : ByteArray) (hs : s.size ≤ 1073741824) : Ev (fun k => scalar_Plain.f k s) (plainB s) := by
  have hbad : Ev (fun k => scalar_Plain.j0 k s true) false := Ev.step (fun k => by rw [scalar_Plain.j0, if_pos rfl]) (Ev.now _)
  unfold plainB
  by_cases h0 : s.toList = []
  · rw [if_pos h0]
    exact Ev.congr (fun k => by rw [scalar_Plain.f, if_pos h0]) hbad
  · rw [if_neg h0]
    have hz : 0 < s.size := by
      have := mt (empty_iff s).2 h0
      omega
    have hw : wrap64 ((s.size : Int) - 1) = (s.size : Int) - 1 := wrI _ (by omega) (by omega)
    have hf : ∀ k, scalar_Plain.f k s = (if (bt s 0) = 32 then (scalar_Plain.j0 k s true) else (if (bt s 0) = 34 then (scalar_Plain.j0 k s true) else (if (bt s 0) = 35 then (scalar_Plain.j0 k s true) else (if (bt s ((s.size : Int) - 1)) = 32 then (scalar_Plain.j0 k s true) else (if s.toList = ([91, 93] : List UInt8) then (scalar_Plain.j0 k s true) else (if s.toList = ([123, 125] : List UInt8) then (scalar_Plain.j0 k s true) else (scalar_Plain.j0 k s (Lib.contains s.data.toList [32, 35])))))))) := fun k => by
      rw [scalar_Plain.f, if_neg h0, if_pos (show (0 : Int) < (s.size : Int) by omega), hw, if_pos (show (0 : Int) ≤ (s.size : Int) - 1 by omega), if_pos (show (s.size : Int) - 1 < (s.size : Int) by omega)]
      have hc : strings_Contains.f s (⟨#[32, 35]⟩ : ByteArray) = some (Lib.contains s.data.toList [32, 35]) := if_pos (by omega)
      rw [hc]
      rfl
    by_cases h1 : bt s 0 = 32
    · rw [if_pos (.inl h1)]
      exact Ev.congr (fun k => by rw [hf, if_pos h1]) hbad
    · by_cases h2 : bt s 0 = 34
      · rw [if_pos (.inr (.inl h2))]
        exact Ev.congr (fun k => by rw [hf, if_neg h1, if_pos h2]) hbad
      · by_cases h3 : bt s 0 = 35
        · rw [if_pos (.inr (.inr (.inl h3)))]
          exact Ev.congr (fun k => by rw [hf, if_neg h1, if_neg h2, if_pos h3]) hbad
        · by_cases h4 : bt s ((s.size : Int) - 1) = 32
          · rw [if_pos (.inr (.inr (.inr (.inl h4))))]
            exact Ev.congr (fun k => by rw [hf, if_neg h1, if_neg h2, if_neg h3, if_pos h4]) hbad
          · by_cases h5 : s.toList = [91, 93]
            · rw [if_pos (.inr (.inr (.inr (.inr (.inl h5)))))]
              exact Ev.congr (fun k => by rw [hf, if_neg h1, if_neg h2, if_neg h3, if_neg h4, if_pos h5]) hbad
            · by_cases h6 : s.toList = [123, 125]
              · rw [if_pos (.inr (.inr (.inr (.inr (.inr (.inl h6))))))]
                exact Ev.congr (fun k => by rw [hf, if_neg h1, if_neg h2, if_neg h3, if_neg h4, if_neg h5, if_pos h6]) hbad
              · have hf' : ∀ k, scalar_Plain.f k s = scalar_Plain.j0 k s (Lib.contains s.data.toList [32, 35]) := fun k => by
                  rw [hf, if_neg h1, if_neg h2, if_neg h3, if_neg h4, if_neg h5, if_neg h6]
                cases h7 : Lib.contains s.data.toList [32, 35] with
                | true =>
                  rw [if_pos (.inr (.inr (.inr (.inr (.inr (.inr rfl))))))]
                  exact Ev.congr (fun k => by rw [hf', h7]) hbad
                | false =>
                  rw [if_neg (fun h => by rcases h with h | h | h | h | h | h | h; exact h1 h; exact h2 h; exact h3 h; exact h4 h; exact h5 h; exact h6 h; cases h)]
                  refine Ev.congr (fun k => by rw [hf', h7]) ?_
                  exact Ev.step (f := fun k => scalar_Plain.l0 k s ((0 : Nat) : Int)) (fun k => by rw [scalar_Plain.j0, if_neg (by decide)]; rfl) (plain_l0 s hs s.size 0 (Nat.zero_add _))
theorem value_evB (s : ByteArray) (hs : s.size ≤ 1073741824) : Ev (fun k => scalar_Value.f k s) (if plainB s = true then s else mkB (writeU s.data.toList)) := by
  refine Ev.bind (plain_ev s hs) ?_
  cases h : plainB s with
  | true => exact Ev.congr (fun k => if_pos rfl) (Ev.now _)
  | false =>
    rw [if_neg (by decide)]
    exact Ev.congr (fun k => if_neg (by decide)) (Ev.bind (quote_ev s hs) (Ev.now _))
def hasH (l : List UInt8) : Bool := decide (hashN l < l.length)
theorem hasH_contains (l : List UInt8) : Lib.contains l [32, 35] = hasH l := by
  unfold Lib.contains hasH
  rw [index_hash]
  by_cases h : hashN l < l.length
  · rw [if_pos h, decide_eq_true h, decide_eq_true (by omega)]
  · rw [if_neg h, decide_eq_false h]
    rfl
theorem hasH_one (p : UInt8) : hasH [p] = false := by
  unfold hasH hashN
  rw [if_neg (fun h => by cases h.2)]
  rfl
theorem hasH_two (p c : UInt8) (r : List UInt8) : hasH (p :: c :: r) = (decide (p = 32 ∧ c = 35) || hasH (c :: r)) := by
  unfold hasH
  rw [hashN]
  by_cases h : p = 32 ∧ c = 35
  · rw [if_pos ⟨h.1, by rw [h.2]; rfl⟩, decide_eq_true h, Bool.true_or]
    rfl
  · rw [if_neg (fun h2 => h ⟨h2.1, Option.some.inj h2.2⟩), decide_eq_false h, Bool.false_or]
    rw [Bool.eq_iff_iff, decide_eq_true_eq, decide_eq_true_eq, List.length_cons (a := p)]
    omega
end Go.Proofs.Ytofajjodonhdkaa.Q
