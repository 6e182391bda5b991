/- What Read says of lines that are put together: over lists of bytes. -/
import Derived.Test.YtmkfjjfdbaaknaaDoorHASWrite
namespace Go.Proofs.YtmkfjjfdbaaknaaDoor.Q
open Go Go.RowKit Go.Proofs.YtmkfjjfdbaaknaaDoorW.PrintWords Go.Proofs.YtmkfjjfdbaaknaaDoorW.PrintLast Go.Proofs.YtmkfjjfdbaaknaaDoorW.PrintMore
set_option linter.unusedVariables false
set_option linter.unusedSimpArgs false
/-- How many blanks stand ahead. -/
def lead : List UInt8 → Nat
  | [] => 0
  | c :: r => if c = 32 then lead r + 1 else 0
theorem lead_le : ∀ l, lead l ≤ l.length
  | [] => Nat.le_refl _
  | c :: r => by
    unfold lead
    have := lead_le r
    split <;> simp <;> omega
theorem bt_app (P : List UInt8) (c : UInt8) (r : List UInt8) : bt (mkB (P ++ c :: r)) (P.length : Int) = (c.toNat : Int) :=
  bt_mk _ _ c (by rw [List.getElem?_append_right (Nat.le_refl _)]; simp)
theorem gapN_lead (L : List UInt8) : ∀ d i, i + d = L.length → gapN (mkB L) d i = i + lead (L.drop i)
  | 0, i, h => by
    rw [List.drop_eq_nil_of_le (by omega)]
    rfl
  | d + 1, i, h => by
    have hlt : i < L.length := by omega
    have hb : bt (mkB L) (i : Int) = (L[i].toNat : Int) := bt_mk L i _ (List.getElem?_eq_getElem hlt)
    rw [drop_cons L i hlt]
    unfold gapN blankB lead
    rw [hb, mkB_size, decide_eq_true (show (i : Int) < (L.length : Int) by omega), Bool.true_and]
    by_cases hc : L[i] = 32
    · rw [if_pos (decide_eq_true ((u32 _).2 hc)), if_pos hc, gapN_lead L d (i + 1) (by omega)]
      omega
    · rw [if_neg (fun h => hc ((u32 _).1 (of_decide_eq_true h))), if_neg hc]
      rfl
theorem gapOf_lead (L : List UInt8) (i : Nat) (h : i ≤ L.length) : gapOf (mkB L) i = i + lead (L.drop i) := by
  unfold gapOf
  exact gapN_lead L _ i (by rw [mkB_size]; omega)
theorem nameB_iff (K : List UInt8) : nameB (mkB K) = true ↔ 1 ≤ K.length ∧ K.length ≤ 64 ∧ (∀ c ∈ K, namedB (c.toNat : Int) = true) ∧ bt (mkB K) 0 ≠ 45 := by
  unfold nameB madeB
  rw [mkB_size, Bool.and_eq_true, Bool.and_eq_true, Bool.and_eq_true, decide_eq_true_eq, decide_eq_true_eq]
  have : allFrom namedB (mkB K) 0 = true ↔ ∀ c ∈ K, namedB (c.toNat : Int) = true := by
    unfold allFrom
    rw [List.drop_zero, mkB_list]
    simp
  rw [this]
  constructor
  · rintro ⟨⟨⟨h1, h2⟩, h3⟩, h4⟩
    exact ⟨h1, h2, h3, by simpa using h4⟩
  · rintro ⟨h1, h2, h3, h4⟩
    exact ⟨⟨⟨h1, h2⟩, h3⟩, by simpa using h4⟩
theorem namesN_app (K T : List UInt8) (hT : T = [] ∨ ∃ c r, T = c :: r ∧ namedB (c.toNat : Int) = false) : ∀ (K1 K0 : List UInt8), K0 ++ K1 = K → (∀ c ∈ K1, namedB (c.toNat : Int) = true) → namesN (mkB (K ++ T)) (K1 ++ T).length K0.length = K.length
  | [], K0, h, _ => by
    rw [List.append_nil] at h
    subst h
    rcases hT with rfl | ⟨c, r, rfl, hc⟩
    · rfl
    · rw [List.nil_append, List.length_cons, namesN, bt_app, if_neg (by rw [hc]; decide)]
  | c :: K1, K0, h, hK => by
    have e : K ++ T = K0 ++ c :: (K1 ++ T) := by rw [← h]; simp
    rw [List.cons_append, List.length_cons, namesN, e, bt_app, if_pos (hK c (List.mem_cons_self ..))]
    have ih := namesN_app K T hT K1 (K0 ++ [c]) (by rw [← h]; simp) (fun d hd => hK d (List.mem_cons_of_mem _ hd))
    have e2 : (K0 ++ [c]).length = K0.length + 1 := by simp
    rw [e, e2] at ih
    exact ih
theorem names_pre (K T : List UInt8) (hK : ∀ c ∈ K, namedB (c.toNat : Int) = true) (hT : T = [] ∨ ∃ c r, T = c :: r ∧ namedB (c.toNat : Int) = false) : namesOf (mkB (K ++ T)) = K.length := by
  unfold namesOf
  rw [mkB_size]
  exact namesN_app K T hT K [] rfl hK
theorem extract_pre (K T : List UInt8) : (mkB (K ++ T)).extract 0 K.length = mkB K := by
  have := mkB_cut (K ++ T) 0 K.length (by simp)
  rw [Nat.zero_add] at this
  rw [this, List.drop_zero, List.take_left]
theorem item_name (c : UInt8) (r : List UInt8) (hc : c ≠ 45) : (((mkB (c :: r)).toList == [45]) || prefB (mkB (c :: r)) ⟨#[45, 32]⟩) = false := by
  have h1 : ((mkB (c :: r)).toList == [45]) = false := by
    rw [mkB_nil]
    exact beq_eq_false_iff_ne.mpr (fun h => hc (List.cons.inj h).1)
  have h2 : prefB (mkB (c :: r)) ⟨#[45, 32]⟩ = false := by
    have e : prefB (mkB (c :: r)) ⟨#[45, 32]⟩ = ((45 == c) && ([32] : List UInt8).isPrefixOf r) := rfl
    rw [e, show (45 == c) = false from beq_eq_false_iff_ne.mpr (Ne.symm hc), Bool.false_and]
  rw [h1, h2]
  rfl
theorem head_name (K T : List UInt8) (hn : nameB (mkB K) = true) (hT : T = [] ∨ ∃ c r, T = c :: r ∧ namedB (c.toNat : Int) = false) (q : ByteArray × Int × Bool) : headP (mkB (K ++ T)) q = colonP (mkB (K ++ T)) (mkB K) K.length := by
  obtain ⟨h1, h2, h3, h4⟩ := (nameB_iff K).1 hn
  obtain ⟨c, r, rfl⟩ : ∃ c r, K = c :: r := by
    cases K with
    | nil => simp at h1
    | cons c r => exact ⟨c, r, rfl⟩
  have hb : bt (mkB (c :: r)) 0 = (c.toNat : Int) := bt_mk _ 0 c rfl
  have hc45 : c ≠ 45 := by
    rintro rfl
    exact h4 (by rw [hb]; rfl)
  have hc34 : c ≠ 34 := by
    rintro rfl
    have := h3 34 (List.mem_cons_self ..)
    exact absurd this (by decide)
  unfold headP
  rw [show ((c :: r) ++ T : List UInt8) = c :: (r ++ T) from rfl, item_name c (r ++ T) hc45, if_neg (by decide), pref_34]
  have hb2 : bt (mkB (c :: (r ++ T))) 0 = (c.toNat : Int) := bt_mk _ 0 c rfl
  rw [hb2, decide_eq_false (show ¬ (c.toNat : Int) = 34 from fun h => hc34 (UInt8.toNat_inj.1 (by rw [show (34 : UInt8).toNat = 34 from rfl]; omega))), Bool.and_false, if_neg (by decide)]
  have hN : namesOf (mkB (c :: (r ++ T))) = (c :: r).length := names_pre (c :: r) T h3 hT
  have hE : (mkB (c :: (r ++ T))).extract 0 (c :: r).length = mkB (c :: r) := extract_pre (c :: r) T
  rw [hN, hE, if_pos hn]
theorem bt_app1 (P : List UInt8) (b c : UInt8) (r : List UInt8) : bt (mkB (P ++ b :: c :: r)) ((P.length : Int) + 1) = (c.toNat : Int) := by
  have := bt_app (P ++ [b]) c r
  rw [List.append_assoc, List.length_append, List.length_singleton] at this
  exact this
theorem colon_blank (K r key : List UInt8) : colonP (mkB (K ++ 58 :: 32 :: r)) (mkB key) K.length = (0, 0, K.length + 1, { c1E with f1 := mkB key }) := by
  unfold colonP
  rw [if_neg (by
    rintro (h | h)
    · rw [mkB_size] at h
      simp at h
      omega
    · exact h (bt_app K 58 (32 :: r))), if_neg (fun h => h.2 (bt_app1 K 58 32 r))]
theorem dig_hex : ∀ n : Fin 16, digU (hexU n) = ((n : Nat) : Int) := by decide +kernel
theorem dig_hexU (n : Nat) (h : n < 16) : digU (hexU n) = (n : Int) := dig_hex ⟨n, h⟩
theorem readL_write (T : List UInt8) : ∀ (K : List UInt8) (n : Nat) (acc : List Int) (at_ : Nat), (K.flatMap encU).length < n → readL n (K.flatMap encU ++ 34 :: T) acc at_ = (strOfNums (acc ++ numsU K), ((at_ + (K.flatMap encU).length + 1 : Nat) : Int), true)
  | [], 0, acc, at_, h => by simp at h
  | [], n + 1, acc, at_, h => by
    show readL (n + 1) (34 :: T) acc at_ = _
    rw [readL, if_pos (by decide)]
    simp [numsU]
  | c :: K, 0, acc, at_, h => by simp at h
  | c :: K, n + 1, acc, at_, h => by
    have hlen := encU_len c
    rw [List.flatMap_cons, List.length_append] at h
    have hc := c.toNat_lt
    have e : numsU (c :: K) = (c.toNat : Int) :: numsU K := rfl
    rw [List.flatMap_cons, List.append_assoc, e]
    have ih := fun n' at' h' => readL_write T K n' (acc ++ [(c.toNat : Int)]) at' h'
    rw [show acc ++ (c.toNat : Int) :: numsU K = (acc ++ [(c.toNat : Int)]) ++ numsU K from by simp]
    by_cases h1 : c.toNat = 34 ∨ c.toNat = 92
    · have hE : encU c = [92, c] := if_pos h1
      have he : escL (c :: (K.flatMap encU ++ 34 :: T)) = ((c.toNat : Int), 1) := if_pos h1
      rw [hE] at h ⊢
      rw [List.length_cons, List.length_singleton] at h
      show readL (n + 1) (92 :: c :: (K.flatMap encU ++ 34 :: T)) acc at_ = _
      rw [readL, if_neg (by decide), if_pos (by decide), he, if_neg (show ¬ (1 : Nat) = 0 by decide)]
      show readL n (K.flatMap encU ++ 34 :: T) (acc ++ [(c.toNat : Int)]) (at_ + 1 + 1) = _
      rw [ih n (at_ + 1 + 1) (by omega)]
      congr 2
      simp
      omega
    · by_cases h2 : c.toNat = 10
      · have hE : encU c = [92, 110] := (if_neg h1).trans (if_pos h2)
        have he : escL (110 :: (K.flatMap encU ++ 34 :: T)) = ((c.toNat : Int), 1) := by
          rw [h2]
          rfl
        rw [hE] at h ⊢
        rw [List.length_cons, List.length_singleton] at h
        show readL (n + 1) (92 :: 110 :: (K.flatMap encU ++ 34 :: T)) acc at_ = _
        rw [readL, if_neg (by decide), if_pos (by decide), he, if_neg (show ¬ (1 : Nat) = 0 by decide)]
        show readL n (K.flatMap encU ++ 34 :: T) (acc ++ [(c.toNat : Int)]) (at_ + 1 + 1) = _
        rw [ih n (at_ + 1 + 1) (by omega)]
        congr 2
        simp
        omega
      · by_cases h3 : c.toNat < 32 ∨ c.toNat = 127
        · have hE : encU c = [92, 120, hexU (c.toNat / 16), hexU (c.toNat % 16)] := (if_neg h1).trans ((if_neg h2).trans (if_pos h3))
          have d1 := dig_hexU (c.toNat / 16) (by omega)
          have d2 := dig_hexU (c.toNat % 16) (by omega)
          have he : escL (120 :: hexU (c.toNat / 16) :: hexU (c.toNat % 16) :: (K.flatMap encU ++ 34 :: T)) = ((c.toNat : Int), 3) := by
            show (if 0 ≤ digU (hexU (c.toNat / 16)) ∧ 0 ≤ digU (hexU (c.toNat % 16)) then (16 * digU (hexU (c.toNat / 16)) + digU (hexU (c.toNat % 16)), 3) else (0, 0) : Int × Nat) = _
            rw [d1, d2, if_pos (by omega)]
            congr 1
            omega
          rw [hE] at h ⊢
          simp only [List.length_cons, List.length_nil] at h
          show readL (n + 1) (92 :: 120 :: hexU (c.toNat / 16) :: hexU (c.toNat % 16) :: (K.flatMap encU ++ 34 :: T)) acc at_ = _
          rw [readL, if_neg (by decide), if_pos (by decide), he, if_neg (show ¬ (3 : Nat) = 0 by decide)]
          show readL n (K.flatMap encU ++ 34 :: T) (acc ++ [(c.toNat : Int)]) (at_ + 1 + 3) = _
          rw [ih n (at_ + 1 + 3) (by omega)]
          congr 2
          simp
          omega
        · have hE : encU c = [c] := (if_neg h1).trans ((if_neg h2).trans (if_neg h3))
          rw [hE] at h ⊢
          rw [List.length_singleton] at h
          show readL (n + 1) (c :: (K.flatMap encU ++ 34 :: T)) acc at_ = _
          rw [readL, if_neg (by omega), if_neg (by omega), ih n (at_ + 1) (by omega)]
          congr 2
          simp
          omega
theorem writeU_len (K : List UInt8) : (writeU K).length = (K.flatMap encU).length + 2 := by
  unfold writeU
  simp
theorem qOf_write (P K T : List UInt8) : qOf (mkB (P ++ (writeU K ++ T))) P.length = (mkB K, ((writeU K).length : Int), true) := by
  unfold qOf
  rw [if_pos (by rw [mkB_size, List.length_append, List.length_append, writeU_len]; omega)]
  unfold quotedQ
  rw [mkB_list, mkB_size]
  have e : (P ++ (writeU K ++ T)).drop (P.length + 1) = K.flatMap encU ++ 34 :: T := by
    rw [← List.drop_drop, List.drop_left]
    unfold writeU
    simp
  rw [e, readL_write T K _ [] 1 (by rw [List.length_append, List.length_append, writeU_len]; omega)]
  have : ([] : List Int) ++ numsU K = numsU K := rfl
  rw [this, str_numsU, writeU_len]
  congr 2
  omega
theorem writeU_cons (K : List UInt8) : ∃ r, writeU K = 34 :: r := ⟨_, rfl⟩
theorem val_quoted (P V T : List UInt8) (c : CT) : valR (mkB (P ++ (writeU V ++ T))) P.length c = finR (tailP (mkB (P ++ (writeU V ++ T))) (P.length + (writeU V).length + lead T) (P.length + (writeU V).length) P.length (mkB V) c) := by
  unfold valR valueP
  obtain ⟨r, hr⟩ := writeU_cons V
  have hb : bt (mkB (P ++ (writeU V ++ T))) (P.length : Int) = 34 := by rw [hr]; exact bt_app P 34 (r ++ T)
  rw [if_neg (by rw [mkB_size, List.length_append, List.length_append, writeU_len]; omega), hb, if_neg (by decide), if_pos rfl, qOf_write]
  have hg : gapOf (mkB (P ++ (writeU V ++ T))) (P.length + (writeU V).length) = P.length + (writeU V).length + lead T := by
    rw [gapOf_lead _ _ (by simp)]
    rw [← List.drop_drop, List.drop_left, List.drop_left]
  have ht : ((P.length : Int) + ((writeU V).length : Int)).toNat = P.length + (writeU V).length := by omega
  show finR (if true = true then (if gapOf (mkB (P ++ (writeU V ++ T))) ((P.length : Int) + ((writeU V).length : Int)).toNat < (mkB (P ++ (writeU V ++ T))).size ∧ (bt (mkB (P ++ (writeU V ++ T))) (gapOf (mkB (P ++ (writeU V ++ T))) ((P.length : Int) + ((writeU V).length : Int)).toNat : Int) ≠ 35 ∨ gapOf (mkB (P ++ (writeU V ++ T))) ((P.length : Int) + ((writeU V).length : Int)).toNat = ((P.length : Int) + ((writeU V).length : Int)).toNat) then (22, (gapOf (mkB (P ++ (writeU V ++ T))) ((P.length : Int) + ((writeU V).length : Int)).toNat : Int) + 1, c) else (0, 0, { c with f2 := true, f6 := (P.length : Int) + 1, f3 := mkB V })) else _) = _
  rw [if_pos rfl, ht, hg]
  rfl
theorem mkB_app (a b : List UInt8) : mkB a ++ mkB b = mkB (a ++ b) := by
  apply ByteArray.ext
  apply Array.toList_inj.1
  rw [ByteArray.data_append]
  show (a.toArray ++ b.toArray).toList = a ++ b
  simp
end Go.Proofs.YtmkfjjfdbaaknaaDoor.Q
