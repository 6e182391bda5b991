/- What a line says can be read out of it: the written forms of keys and values, told apart. -/
import Derived.Test.YtofajjodonhdkaaBAKShow
namespace Go.Proofs.Ytofajjodonhdkaa.Q
open Go Go.RowKit Go.Shelf Go.Proofs.YtofajjodonhdkaaW.PrintWords Go.Proofs.YtofajjodonhdkaaW.PrintLast Go.Proofs.YtofajjodonhdkaaW.PrintMore
set_option linter.unusedVariables false
set_option linter.unusedSimpArgs false
theorem hex_okD : ∀ n : Fin 16, 32 ≤ (hexU n).toNat := by decide +kernel
theorem hex_injD : ∀ n m : Fin 16, hexU n = hexU m → n = m := by decide +kernel
theorem hex_injN (a b : Nat) (ha : a < 16) (hb : b < 16) (h : hexU a = hexU b) : a = b := congrArg Fin.val (hex_injD ⟨a, ha⟩ ⟨b, hb⟩ h)
theorem enc_ge (c : UInt8) : ∀ d ∈ encU c, 32 ≤ d.toNat := by
  intro d hd
  have hc := c.toNat_lt
  unfold encU at hd
  split at hd
  · simp only [List.mem_cons, List.not_mem_nil, or_false] at hd
    rcases hd with rfl | rfl
    · decide
    · omega
  split at hd
  · simp only [List.mem_cons, List.not_mem_nil, or_false] at hd
    rcases hd with rfl | rfl <;> decide
  split at hd
  · simp only [List.mem_cons, List.not_mem_nil, or_false] at hd
    rcases hd with rfl | rfl | rfl | rfl
    · decide
    · decide
    · exact hex_okD ⟨c.toNat / 16, by omega⟩
    · exact hex_okD ⟨c.toNat % 16, by omega⟩
  · simp only [List.mem_cons, List.not_mem_nil, or_false] at hd
    subst hd
    omega
theorem write_ge (V : List UInt8) : ∀ d ∈ writeU V, 32 ≤ d.toNat := by
  intro d hd
  unfold writeU at hd
  simp only [List.mem_cons, List.mem_append, List.mem_flatMap, List.not_mem_nil, or_false] at hd
  rcases hd with rfl | ⟨c, _, hc⟩ | rfl
  · decide
  · exact enc_ge c d hc
  · decide
theorem enc_cases (c : UInt8) : (encU c = [92, c] ∧ (c.toNat = 34 ∨ c.toNat = 92)) ∨ (encU c = [92, 110] ∧ c.toNat = 10) ∨ (encU c = [92, 120, hexU (c.toNat / 16), hexU (c.toNat % 16)]) ∨ (encU c = [c] ∧ c.toNat ≠ 34 ∧ c.toNat ≠ 92) := by
  unfold encU
  split
  case isTrue h => exact .inl ⟨rfl, h⟩
  case isFalse h =>
    split
    case isTrue h2 => exact .inr (.inl ⟨rfl, h2⟩)
    case isFalse h2 =>
      split
      · exact .inr (.inr (.inl rfl))
      · exact .inr (.inr (.inr ⟨rfl, by omega, by omega⟩))
theorem enc_step (c d : UInt8) (X Y : List UInt8) (h : encU c ++ X = encU d ++ Y) : c = d ∧ X = Y := by
  have hc := c.toNat_lt
  have hd := d.toNat_lt
  have n92 : (92 : UInt8).toNat = 92 := rfl
  have n110 : (110 : UInt8).toNat = 110 := rfl
  have n120 : (120 : UInt8).toNat = 120 := rfl
  have q : (110 : UInt8) ≠ 120 := by decide
  rcases enc_cases c with ⟨e, hc1⟩ | ⟨e, hc1⟩ | e | ⟨e, hc1, hc2⟩ <;> rcases enc_cases d with ⟨f, hd1⟩ | ⟨f, hd1⟩ | f | ⟨f, hd1, hd2⟩ <;> rw [e, f] at h <;> simp only [List.cons_append, List.nil_append, List.cons.injEq, true_and] at h
  · exact h
  · obtain ⟨h1, h2⟩ := h; subst h1; omega
  · obtain ⟨h1, h2⟩ := h; subst h1; omega
  · obtain ⟨h1, h2⟩ := h; subst h1; omega
  · obtain ⟨h1, h2⟩ := h; subst h1; omega
  · exact ⟨UInt8.toNat_inj.1 (by omega), h⟩
  · exact absurd h.1 q
  · obtain ⟨h1, h2⟩ := h; subst h1; omega
  · obtain ⟨h1, h2⟩ := h; subst h1; omega
  · exact absurd h.1.symm q
  · have h1 := hex_injN _ _ (by omega) (by omega) h.1
    have h2 := hex_injN _ _ (by omega) (by omega) h.2.1
    exact ⟨UInt8.toNat_inj.1 (by omega), h.2.2⟩
  · obtain ⟨h1, h2⟩ := h; subst h1; omega
  · obtain ⟨h1, h2⟩ := h; subst h1; omega
  · obtain ⟨h1, h2⟩ := h; subst h1; omega
  · obtain ⟨h1, h2⟩ := h; subst h1; omega
  · exact h
theorem enc_head (c : UInt8) : ∃ x r, encU c = x :: r ∧ x.toNat ≠ 34 := by
  rcases enc_cases c with ⟨e, _⟩ | ⟨e, _⟩ | e | ⟨e, h, _⟩
  · exact ⟨_, _, e, by decide⟩
  · exact ⟨_, _, e, by decide⟩
  · exact ⟨_, _, e, by decide⟩
  · exact ⟨_, _, e, h⟩
theorem enc_inj : ∀ L M r s : List UInt8, L.flatMap encU ++ 34 :: r = M.flatMap encU ++ 34 :: s → L = M ∧ r = s
  | [], [], r, s, h => ⟨rfl, by simpa using h⟩
  | [], d :: M, r, s, h => by
    obtain ⟨x, q, e, hx⟩ := enc_head d
    rw [List.flatMap_cons, e] at h
    simp only [List.flatMap_nil, List.nil_append, List.cons_append, List.cons.injEq] at h
    exact absurd (by rw [← h.1]; rfl) hx
  | c :: L, [], r, s, h => by
    obtain ⟨x, q, e, hx⟩ := enc_head c
    rw [List.flatMap_cons, e] at h
    simp only [List.flatMap_nil, List.nil_append, List.cons_append, List.cons.injEq] at h
    exact absurd (by rw [h.1]; rfl) hx
  | c :: L, d :: M, r, s, h => by
    rw [List.flatMap_cons, List.flatMap_cons, List.append_assoc, List.append_assoc] at h
    obtain ⟨e1, e2⟩ := enc_step c d _ _ h
    obtain ⟨e3, e4⟩ := enc_inj L M r s e2
    exact ⟨by rw [e1, e3], e4⟩
theorem write_inj (L M r s : List UInt8) (h : writeU L ++ r = writeU M ++ s) : L = M ∧ r = s := by
  unfold writeU at h
  simp only [List.cons_append, List.cons.injEq, true_and, List.append_assoc, List.nil_append] at h
  exact enc_inj L M r s h
theorem split_first {α : Type} (x : α) : ∀ A B r s : List α, x ∉ A → x ∉ B → A ++ x :: r = B ++ x :: s → A = B ∧ r = s
  | [], [], r, s, _, _, h => ⟨rfl, by simpa using h⟩
  | [], b :: B, r, s, _, hB, h => by
    simp only [List.nil_append, List.cons_append, List.cons.injEq] at h
    exact absurd (by rw [h.1]; exact List.mem_cons_self) hB
  | a :: A, [], r, s, hA, _, h => by
    simp only [List.nil_append, List.cons_append, List.cons.injEq] at h
    exact absurd (by rw [← h.1]; exact List.mem_cons_self) hA
  | a :: A, b :: B, r, s, hA, hB, h => by
    simp only [List.cons_append, List.cons.injEq] at h
    obtain ⟨e1, e2⟩ := split_first x A B r s (fun h => hA (List.mem_cons_of_mem _ h)) (fun h => hB (List.mem_cons_of_mem _ h)) h.2
    exact ⟨by rw [h.1, e1], e2⟩
theorem named_range (c : Int) (h : namedB c = true) : 45 ≤ c ∧ c ≠ 58 ∧ c ≠ 34 ∧ c ≠ 32 := by
  unfold namedB letterB at h
  simp only [Bool.or_eq_true, Bool.and_eq_true, decide_eq_true_eq] at h
  omega
theorem name_bytes (s : ByteArray) (h : nameB s = true) : (∀ b ∈ s.data.toList, 45 ≤ b.toNat ∧ b.toNat ≠ 58 ∧ b.toNat ≠ 34) ∧ ∃ c r, s.data.toList = c :: r ∧ c.toNat ≠ 45 := by
  unfold nameB at h
  simp only [Bool.and_eq_true, madeB, decide_eq_true_eq, Bool.not_eq_true', decide_eq_false_iff_not] at h
  obtain ⟨⟨⟨h1, _⟩, h2⟩, h3⟩ := h
  constructor
  · intro b hb
    unfold allFrom at h2
    rw [List.drop_zero, List.all_map, List.all_eq_true] at h2
    have := named_range _ (h2 b hb)
    omega
  · have hl : s.data.toList.length = s.size := by rw [Array.length_toList]; rfl
    cases e : s.data.toList with
    | nil => rw [e] at hl; simp at hl; omega
    | cons c r =>
      refine ⟨c, r, rfl, fun hc => h3 ?_⟩
      have hb := bt_mk s.data.toList 0 c (by rw [e]; rfl)
      rw [mkB_of] at hb
      have hb' : bt s 0 = (c.toNat : Int) := hb
      rw [hb', hc]
      rfl
theorem of_bytes {s t : ByteArray} (h : s.data.toList = t.data.toList) : s = t := by rw [← mkB_of s, ← mkB_of t, h]
theorem key_head (s : ByteArray) : ∃ c r, keyU s = c :: r ∧ c.toNat ≠ 45 ∧ c.toNat ≠ 32 := by
  unfold keyU
  split
  case isTrue h =>
    obtain ⟨h1, c, r, e, h2⟩ := name_bytes s h
    have := h1 c (by rw [e]; exact List.mem_cons_self)
    exact ⟨c, r, e, h2, by omega⟩
  case isFalse => exact ⟨34, _, rfl, by decide, by decide⟩
theorem key_ge (s : ByteArray) : ∀ b ∈ keyU s, 32 ≤ b.toNat := by
  unfold keyU
  split
  case isTrue h =>
    intro b hb
    have := (name_bytes s h).1 b hb
    omega
  case isFalse => exact write_ge _
theorem key_inj (s t : ByteArray) (r q : List UInt8) (h : keyU s ++ 58 :: r = keyU t ++ 58 :: q) : s = t ∧ r = q := by
  have nm : ∀ (s : ByteArray), nameB s = true → (58 : UInt8) ∉ s.data.toList := fun s hs hm => ((name_bytes s hs).1 58 hm).2.1 rfl
  have dif : ∀ (s t : ByteArray) (r q : List UInt8), nameB s = true → s.data.toList ++ 58 :: r = writeU t.data.toList ++ 58 :: q → False := fun s t r q hs h => by
    obtain ⟨h1, c, l, e, h2⟩ := name_bytes s hs
    have hc := h1 c (by rw [e]; exact List.mem_cons_self)
    rw [e] at h
    unfold writeU at h
    simp only [List.cons_append, List.cons.injEq] at h
    exact hc.2.2 (by rw [h.1]; rfl)
  unfold keyU at h
  cases hs : nameB s <;> cases ht : nameB t <;> rw [hs, ht] at h
  · obtain ⟨e1, e2⟩ := write_inj _ _ _ _ h
    exact ⟨of_bytes e1, by simpa using e2⟩
  · exact (dif t s q r ht h.symm).elim
  · exact (dif s t r q hs h).elim
  · obtain ⟨e1, e2⟩ := split_first 58 _ _ _ _ (nm s hs) (nm t ht) h
    exact ⟨of_bytes e1, e2⟩
theorem plain_facts (s : ByteArray) (h : plainB s = true) : s.data.toList ≠ [91, 93] ∧ s.data.toList ≠ [123, 125] ∧ (∀ b ∈ s.data.toList, 32 ≤ b.toNat) ∧ ∃ c r, s.data.toList = c :: r ∧ c.toNat ≠ 34 := by
  unfold plainB at h
  split at h
  case isTrue => cases h
  case isFalse h0 =>
    split at h
    case isTrue => cases h
    case isFalse h1 =>
      simp only [not_or] at h1
      obtain ⟨_, h34, _, _, h91, h123, _⟩ := h1
      rw [ByteArray.toList_eq] at h0 h91 h123
      refine ⟨h91, h123, ?_, ?_⟩
      · intro b hb
        unfold allOk allFrom at h
        rw [List.drop_zero, List.all_map, List.all_eq_true] at h
        have := h b hb
        simp only [Function.comp, id, Bool.and_eq_true, decide_eq_true_eq] at this
        omega
      · cases e : s.data.toList with
        | nil => exact absurd e h0
        | cons c r =>
          refine ⟨c, r, rfl, fun hc => h34 ?_⟩
          have hb := bt_mk s.data.toList 0 c (by rw [e]; rfl)
          rw [mkB_of] at hb
          have hb' : bt s 0 = (c.toNat : Int) := hb
          rw [hb', hc]
          rfl
theorem value_ge (s : ByteArray) : ∀ b ∈ valueU s, 32 ≤ b.toNat := by
  unfold valueU
  split
  case isTrue h => exact (plain_facts s h).2.2.1
  case isFalse => exact write_ge _
theorem value_not (s : ByteArray) : valueU s ≠ [91, 93] ∧ valueU s ≠ [123, 125] := by
  unfold valueU
  split
  case isTrue h => exact ⟨(plain_facts s h).1, (plain_facts s h).2.1⟩
  case isFalse =>
    unfold writeU
    constructor <;> (intro h; simp only [List.cons.injEq] at h; exact absurd h.1 (by decide))
theorem value_inj (s t : ByteArray) (h : valueU s = valueU t) : s = t := by
  have dif : ∀ (s t : ByteArray), plainB s = true → s.data.toList = writeU t.data.toList → False := fun s t hs h => by
    obtain ⟨_, _, _, c, r, e, h2⟩ := plain_facts s hs
    rw [e] at h
    unfold writeU at h
    simp only [List.cons.injEq] at h
    exact h2 (by rw [h.1]; rfl)
  unfold valueU at h
  cases hs : plainB s <;> cases ht : plainB t <;> rw [hs, ht] at h
  · exact of_bytes (write_inj _ _ [] [] (by simpa using h)).1
  · exact (dif t s ht h.symm).elim
  · exact (dif s t hs h).elim
  · exact of_bytes h
end Go.Proofs.Ytofajjodonhdkaa.Q
