/- What Read says of lines that are put together: over lists of bytes. -/
import Derived.Test.YtmkfjjfdbaaknaaDoorJASWrite
namespace Go.Proofs.YtmkfjjfdbaaknaaDoor.Q
open Go Go.RowKit Go.Proofs.YtmkfjjfdbaaknaaDoorW.PrintWords Go.Proofs.YtmkfjjfdbaaknaaDoorW.PrintLast Go.Proofs.YtmkfjjfdbaaknaaDoorW.PrintMore
set_option linter.unusedVariables false
set_option linter.unusedSimpArgs false
/-- How many blanks stand ahead. -/
def lead : List UInt8 → Nat
  | [] => 0
  | c :: r => if c = 32 then lead r + 1 else 0
theorem bt_app (P : List UInt8) (c : UInt8) (r : List UInt8) : bt (mkB (P ++ c :: r)) (P.length : Int) = (c.toNat : Int) :=
  bt_mk _ _ c (by rw [List.getElem?_append_right (Nat.le_refl _)]; simp)
theorem gapN_lead (L : List UInt8) : ∀ d i, i + d = L.length → gapN (mkB L) d i = i + lead (L.drop i)
  | 0, i, h => by
    rw [List.drop_eq_nil_of_le (by omega)]
    rfl
  | d + 1, i, h => by
    have hlt : i < L.length := by omega
    have hb : bt (mkB L) (i : Int) = (L[i].toNat : Int) := bt_mk L i _ (List.getElem?_eq_getElem hlt)
    rw [drop_cons L i hlt]
    unfold gapN blankB lead
    rw [hb, mkB_size, decide_eq_true (show (i : Int) < (L.length : Int) by omega), Bool.true_and]
    by_cases hc : L[i] = 32
    · rw [if_pos (decide_eq_true ((u32 _).2 hc)), if_pos hc, gapN_lead L d (i + 1) (by omega)]
      omega
    · rw [if_neg (fun h => hc ((u32 _).1 (of_decide_eq_true h))), if_neg hc]
      rfl
theorem gapOf_lead (L : List UInt8) (i : Nat) (h : i ≤ L.length) : gapOf (mkB L) i = i + lead (L.drop i) := by
  unfold gapOf
  exact gapN_lead L _ i (by rw [mkB_size]; omega)
theorem nameB_iff (K : List UInt8) : nameB (mkB K) = true ↔ 1 ≤ K.length ∧ K.length ≤ 64 ∧ (∀ c ∈ K, namedB (c.toNat : Int) = true) ∧ bt (mkB K) 0 ≠ 45 := by
  unfold nameB madeB
  rw [mkB_size, Bool.and_eq_true, Bool.and_eq_true, Bool.and_eq_true, decide_eq_true_eq, decide_eq_true_eq]
  have : allFrom namedB (mkB K) 0 = true ↔ ∀ c ∈ K, namedB (c.toNat : Int) = true := by
    unfold allFrom
    rw [List.drop_zero, mkB_list]
    simp
  rw [this]
  constructor
  · rintro ⟨⟨⟨h1, h2⟩, h3⟩, h4⟩
    exact ⟨h1, h2, h3, by simpa using h4⟩
  · rintro ⟨h1, h2, h3, h4⟩
    exact ⟨⟨⟨h1, h2⟩, h3⟩, by simpa using h4⟩
theorem namesN_app (K T : List UInt8) (hT : T = [] ∨ ∃ c r, T = c :: r ∧ namedB (c.toNat : Int) = false) : ∀ (K1 K0 : List UInt8), K0 ++ K1 = K → (∀ c ∈ K1, namedB (c.toNat : Int) = true) → namesN (mkB (K ++ T)) (K1 ++ T).length K0.length = K.length
  | [], K0, h, _ => by
    rw [List.append_nil] at h
    subst h
    rcases hT with rfl | ⟨c, r, rfl, hc⟩
    · rfl
    · rw [List.nil_append, List.length_cons, namesN, bt_app, if_neg (by rw [hc]; decide)]
  | c :: K1, K0, h, hK => by
    have e : K ++ T = K0 ++ c :: (K1 ++ T) := by rw [← h]; simp
    rw [List.cons_append, List.length_cons, namesN, e, bt_app, if_pos (hK c (List.mem_cons_self ..))]
    have ih := namesN_app K T hT K1 (K0 ++ [c]) (by rw [← h]; simp) (fun d hd => hK d (List.mem_cons_of_mem _ hd))
    have e2 : (K0 ++ [c]).length = K0.length + 1 := by simp
    rw [e, e2] at ih
    exact ih
theorem names_pre (K T : List UInt8) (hK : ∀ c ∈ K, namedB (c.toNat : Int) = true) (hT : T = [] ∨ ∃ c r, T = c :: r ∧ namedB (c.toNat : Int) = false) : namesOf (mkB (K ++ T)) = K.length := by
  unfold namesOf
  rw [mkB_size]
  exact namesN_app K T hT K [] rfl hK
theorem extract_pre (K T : List UInt8) : (mkB (K ++ T)).extract 0 K.length = mkB K := by
  have := mkB_cut (K ++ T) 0 K.length (by simp)
  rw [Nat.zero_add] at this
  rw [this, List.drop_zero, List.take_left]
theorem item_name (c : UInt8) (r : List UInt8) (hc : c ≠ 45) : (((mkB (c :: r)).toList == [45]) || prefB (mkB (c :: r)) ⟨#[45, 32]⟩) = false := by
  have h1 : ((mkB (c :: r)).toList == [45]) = false := by
    rw [mkB_nil]
    exact beq_eq_false_iff_ne.mpr (fun h => hc (List.cons.inj h).1)
  have h2 : prefB (mkB (c :: r)) ⟨#[45, 32]⟩ = false := by
    have e : prefB (mkB (c :: r)) ⟨#[45, 32]⟩ = ((45 == c) && ([32] : List UInt8).isPrefixOf r) := rfl
    rw [e, show (45 == c) = false from beq_eq_false_iff_ne.mpr (Ne.symm hc), Bool.false_and]
  rw [h1, h2]
  rfl
theorem head_name (K T : List UInt8) (hn : nameB (mkB K) = true) (hT : T = [] ∨ ∃ c r, T = c :: r ∧ namedB (c.toNat : Int) = false) (q : ByteArray × Int × Bool) : headP (mkB (K ++ T)) q = colonP (mkB (K ++ T)) (mkB K) K.length := by
  obtain ⟨h1, h2, h3, h4⟩ := (nameB_iff K).1 hn
  obtain ⟨c, r, rfl⟩ : ∃ c r, K = c :: r := by
    cases K with
    | nil => simp at h1
    | cons c r => exact ⟨c, r, rfl⟩
  have hb : bt (mkB (c :: r)) 0 = (c.toNat : Int) := bt_mk _ 0 c rfl
  have hc45 : c ≠ 45 := by
    rintro rfl
    exact h4 (by rw [hb]; rfl)
  have hc34 : c ≠ 34 := by
    rintro rfl
    have := h3 34 (List.mem_cons_self ..)
    exact absurd this (by decide)
  unfold headP
  rw [show ((c :: r) ++ T : List UInt8) = c :: (r ++ T) from rfl, item_name c (r ++ T) hc45, if_neg (by decide), pref_34]
  have hb2 : bt (mkB (c :: (r ++ T))) 0 = (c.toNat : Int) := bt_mk _ 0 c rfl
  rw [hb2, decide_eq_false (show ¬ (c.toNat : Int) = 34 from fun h => hc34 (UInt8.toNat_inj.1 (by rw [show (34 : UInt8).toNat = 34 from rfl]; omega))), Bool.and_false, if_neg (by decide)]
  have hN : namesOf (mkB (c :: (r ++ T))) = (c :: r).length := names_pre (c :: r) T h3 hT
  have hE : (mkB (c :: (r ++ T))).extract 0 (c :: r).length = mkB (c :: r) := extract_pre (c :: r) T
  rw [hN, hE, if_pos hn]
theorem colon_end (K key : List UInt8) : colonP (mkB K) (mkB key) K.length = (20, (K.length : Int) + 1, 0, c1E) := by
  unfold colonP
  rw [mkB_size, if_pos (.inl (Nat.le_refl _))]
theorem colon_other (K : List UInt8) (c : UInt8) (r key : List UInt8) (hc : c ≠ 58) : colonP (mkB (K ++ c :: r)) (mkB key) K.length = (20, (K.length : Int) + 1, 0, c1E) := by
  unfold colonP
  rw [if_pos (.inr (by rw [bt_app]; intro h; exact hc (UInt8.toNat_inj.1 (by rw [show (58 : UInt8).toNat = 58 from rfl]; omega))))]
theorem bt_app1 (P : List UInt8) (b c : UInt8) (r : List UInt8) : bt (mkB (P ++ b :: c :: r)) ((P.length : Int) + 1) = (c.toNat : Int) := by
  have := bt_app (P ++ [b]) c r
  rw [List.append_assoc, List.length_append, List.length_singleton] at this
  exact this
theorem colon_blank (K r key : List UInt8) : colonP (mkB (K ++ 58 :: 32 :: r)) (mkB key) K.length = (0, 0, K.length + 1, { c1E with f1 := mkB key }) := by
  unfold colonP
  rw [if_neg (by
    rintro (h | h)
    · rw [mkB_size] at h
      simp at h
      omega
    · exact h (bt_app K 58 (32 :: r))), if_neg (fun h => h.2 (bt_app1 K 58 32 r))]
theorem colon_wrong (K r key : List UInt8) (c : UInt8) (hc : c ≠ 32) : colonP (mkB (K ++ 58 :: c :: r)) (mkB key) K.length = (20, (K.length : Int) + 2, 0, c1E) := by
  unfold colonP
  rw [if_neg (by
    rintro (h | h)
    · rw [mkB_size] at h
      simp at h
      omega
    · exact h (bt_app K 58 (c :: r))), if_pos ⟨by rw [mkB_size]; simp, by rw [bt_app1]; intro h; exact hc ((u32 c).1 h)⟩]
theorem val_none (P : List UInt8) (c : CT) : valR (mkB P) P.length c = (0, 0, c) := by
  unfold valR valueP
  rw [if_pos (by rw [mkB_size]; exact Nat.le_refl _)]
  exact finR_ok _
theorem mkB_app (a b : List UInt8) : mkB a ++ mkB b = mkB (a ++ b) := by
  apply ByteArray.ext
  apply Array.toList_inj.1
  rw [ByteArray.data_append]
  show (a.toArray ++ b.toArray).toList = a ++ b
  simp
end Go.Proofs.YtmkfjjfdbaaknaaDoor.Q
