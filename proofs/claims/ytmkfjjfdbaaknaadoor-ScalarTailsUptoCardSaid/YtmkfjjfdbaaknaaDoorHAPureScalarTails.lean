/- The plain law behind ScalarTails: what stands behind a quoted value. -/
import Derived.Test.YtmkfjjfdbaaknaaDoorHASLaw
import Derived.Test.YtmkfjjfdbaaknaaDoorHAQ14
namespace Go.Proofs.YtmkfjjfdbaaknaaDoor.Q
open Go Go.RowKit Go.Proofs.YtmkfjjfdbaaknaaDoorW.PrintWords Go.Proofs.YtmkfjjfdbaaknaaDoorW.PrintLast Go.Proofs.YtmkfjjfdbaaknaaDoorW.PrintMore
set_option linter.unusedVariables false
set_option linter.unusedSimpArgs false
def cA : CT := { c1E with f1 := mkB [97] }
theorem read_tail (V A : List UInt8) : readP (mkB (97 :: 58 :: 32 :: (writeU V ++ A))) = finR (tailP (mkB (97 :: 58 :: 32 :: (writeU V ++ A))) (3 + (writeU V).length + lead A) (3 + (writeU V).length) 3 (mkB V) cA) := by
  have hn : nameB (mkB [97]) = true := by decide +kernel
  have h1 := head_name [97] (58 :: 32 :: (writeU V ++ A)) hn (.inr ⟨58, _, rfl, by decide⟩) (qOf (mkB (97 :: 58 :: 32 :: (writeU V ++ A))) 0)
  have h2 := colon_blank [97] (writeU V ++ A) [97]
  have h3 := h1.trans h2
  have hg : gapOf (mkB (97 :: 58 :: 32 :: (writeU V ++ A))) 2 = 3 := by
    rw [gapOf_lead _ 2 (by simp)]
    rfl
  have h4 := val_quoted [97, 58, 32] V A cA
  rw [readP_end]
  refine (congrArg (endP _) h3).trans ?_
  show endP _ (0, 0, 2, cA) = _
  rw [endP_ok]
  rw [hg]
  exact h4
section
variable (V A : List UInt8) (t : ByteArray) (col err : Int) (c0 : Int) (c1 : ByteArray) (c2 : Bool) (c3 : ByteArray) (c4 c5 c6 : Int) (hA : A.length ≤ 1073741824)
include hA
theorem tails_l0 : ∀ d i : Nat, i + d = A.length → Ev (fun k => shuttlelaw2_ScalarTails.j1 k (mkB V) (mkB A) t col err ((i + lead (A.drop i) : Nat) : Int) c0 c1 c2 c3 c4 c5 c6) true → Ev (fun k => shuttlelaw2_ScalarTails.l0 k (mkB V) (mkB A) t col err (i : Int) c0 c1 c2 c3 c4 c5 c6) true
  | 0, i, h, H => by
    rw [List.drop_eq_nil_of_le (by omega)] at H
    exact Ev.step (fun k => by rw [shuttlelaw2_ScalarTails.l0, mkB_size, if_neg (show ¬ (i : Int) < (A.length : Int) by omega)]; rfl) H
  | d + 1, i, h, H => by
    have hlt : i < A.length := by omega
    have hb : bt (mkB A) (i : Int) = (A[i].toNat : Int) := bt_mk A i _ (List.getElem?_eq_getElem hlt)
    rw [drop_cons A i hlt] at H
    unfold lead at H
    by_cases hc : A[i] = 32
    · rw [if_pos hc] at H
      refine Ev.step (f := fun k => shuttlelaw2_ScalarTails.l0 k (mkB V) (mkB A) t col err ((i + 1 : Nat) : Int) c0 c1 c2 c3 c4 c5 c6) (fun k => by
        rw [shuttlelaw2_ScalarTails.l0, mkB_size, if_pos (show (i : Int) < (A.length : Int) by omega), if_pos (show 0 ≤ (i : Int) by omega), hb, if_pos ((u32 _).2 hc), wrN i (by omega)]) ?_
      refine tails_l0 d (i + 1) (by omega) ?_
      rwa [show i + 1 + lead (A.drop (i + 1)) = i + (lead (A.drop (i + 1)) + 1) from by omega]
    · rw [if_neg hc] at H
      exact Ev.step (fun k => by rw [shuttlelaw2_ScalarTails.l0, mkB_size, if_pos (show (i : Int) < (A.length : Int) by omega), if_pos (show 0 ≤ (i : Int) by omega), hb, if_neg (fun h => hc ((u32 _).1 h))]; rfl) H
end
end Go.Proofs.YtmkfjjfdbaaknaaDoor.Q
namespace Go.Proofs.YtmkfjjfdbaaknaaDoor.Pure
open Go Go.RowKit Go.Proofs.YtmkfjjfdbaaknaaDoor.Q Go.Proofs.YtmkfjjfdbaaknaaDoorW.PrintWords
theorem ScalarTails (a0 a1 : ByteArray) (hs : a0.size + a1.size ≤ 1048576) : ∃ k, shuttlelaw2_ScalarTails.f k a0 a1 = some true := by
  refine Ev.rounds ?_
  obtain ⟨V, rfl⟩ : ∃ V, a0 = mkB V := ⟨a0.data.toList, rfl⟩
  obtain ⟨A, rfl⟩ : ∃ A, a1 = mkB A := ⟨a1.data.toList, rfl⟩
  rw [mkB_size, mkB_size] at hs
  have hq := quote_ev (mkB V) (by rw [mkB_size]; omega)
  rw [mkB_list] at hq
  have hW : (writeU V).length ≤ 4 * V.length + 2 := by
    have := (flat_len V).2
    rw [writeU_len]
    omega
  refine Ev.bind hq ?_
  have e1 : ((⟨#[97, 58, 32]⟩ : ByteArray) ++ mkB (writeU V)) = mkB (97 :: 58 :: 32 :: writeU V) := mkB_app [97, 58, 32] (writeU V)
  have e2 : mkB (97 :: 58 :: 32 :: writeU V) ++ mkB A = mkB (97 :: 58 :: 32 :: (writeU V ++ A)) := mkB_app (97 :: 58 :: 32 :: writeU V) A
  have hr := scalarRead_f (mkB (97 :: 58 :: 32 :: (writeU V ++ A))) (by rw [mkB_size]; simp; omega)
  have hm := lead_le A
  have hsz : (mkB (97 :: 58 :: 32 :: (writeU V ++ A))).size = 3 + (writeU V).length + A.length := by rw [mkB_size]; simp; omega
  have hbt : ∀ c r, A.drop (lead A) = c :: r → bt (mkB (97 :: 58 :: 32 :: (writeU V ++ A))) ((3 + (writeU V).length + lead A : Nat) : Int) = (c.toNat : Int) := fun c r h => by
    have e : 97 :: 58 :: 32 :: (writeU V ++ A) = (97 :: 58 :: 32 :: (writeU V ++ A.take (lead A))) ++ c :: r := by
      rw [← h]
      simp
    have hl : (97 :: 58 :: 32 :: (writeU V ++ A.take (lead A))).length = 3 + (writeU V).length + lead A := by
      simp [Nat.min_eq_left hm]
      omega
    rw [e, ← hl]
    exact bt_app _ c r
  have hba : ∀ c r, A.drop (lead A) = c :: r → bt (mkB A) ((lead A : Nat) : Int) = (c.toNat : Int) := fun c r h => by
    have e : A = A.take (lead A) ++ c :: r := by rw [← h]; simp
    have := bt_app (A.take (lead A)) c r
    rw [← e, List.length_take, Nat.min_eq_left hm] at this
    exact this
  have hw : wrap64 (wrap64 (wrap64 (3 + ((writeU V).length : Int)) + ((lead A : Nat) : Int)) + 1) = ((3 + (writeU V).length + lead A : Nat) : Int) + 1 := by
    rw [wrI (3 + ((writeU V).length : Int)) (by omega) (by omega), wrI (3 + ((writeU V).length : Int) + ((lead A : Nat) : Int)) (by omega) (by omega), wrI _ (by omega) (by omega)]
    omega
  refine Ev.congr (f := fun k => shuttlelaw2_ScalarTails.l0 k (mkB V) (mkB A) (mkB (writeU V)) (tup9 (readP (mkB (97 :: 58 :: 32 :: (writeU V ++ A))))).2.2.2.2.2.2.2.1 (tup9 (readP (mkB (97 :: 58 :: 32 :: (writeU V ++ A))))).2.2.2.2.2.2.2.2 ((0 : Nat) : Int) (tup9 (readP (mkB (97 :: 58 :: 32 :: (writeU V ++ A))))).1 (tup9 (readP (mkB (97 :: 58 :: 32 :: (writeU V ++ A))))).2.1 (tup9 (readP (mkB (97 :: 58 :: 32 :: (writeU V ++ A))))).2.2.1 (tup9 (readP (mkB (97 :: 58 :: 32 :: (writeU V ++ A))))).2.2.2.1 (tup9 (readP (mkB (97 :: 58 :: 32 :: (writeU V ++ A))))).2.2.2.2.1 (tup9 (readP (mkB (97 :: 58 :: 32 :: (writeU V ++ A))))).2.2.2.2.2.1 (tup9 (readP (mkB (97 :: 58 :: 32 :: (writeU V ++ A))))).2.2.2.2.2.2.1) (fun k => ?_) ?_
  · rw [e1, e2, hr, mkB_size, mkB_size, mkB_size, if_pos (by omega), if_pos (by simp; omega)]
    rfl
  refine tails_l0 V A _ _ _ _ _ _ _ _ _ _ (by omega) A.length 0 (Nat.zero_add _) ?_
  rw [List.drop_zero, Nat.zero_add, read_tail]
  unfold tailP
  rw [hsz]
  have haw : Ev (fun k => (shuttlelaw2_awake.f k).bind fun t => some t) true := Ev.bind awake_ev (Ev.now _)
  by_cases hend : lead A = A.length
  · rw [if_neg (fun h => by have := h.1; omega), finR_ok]
    refine Ev.step (f := fun k => shuttlelaw2_ScalarTails.j2 k (mkB V) (mkB (writeU V)) 0 0 (lead A : Int) true 1 (mkB [97]) true (mkB V) 0 1 4) (fun k => by rw [shuttlelaw2_ScalarTails.j1, mkB_size, if_pos (by omega)]; rfl) ?_
    exact Ev.step (fun k => by rw [shuttlelaw2_ScalarTails.j2, if_pos rfl, if_pos rfl, if_pos rfl]) haw
  · have hlt : lead A < A.length := by omega
    obtain ⟨c, r, hcr⟩ : ∃ c r, A.drop (lead A) = c :: r := ⟨_, _, drop_cons A (lead A) hlt⟩
    rw [hbt c r hcr]
    by_cases hgood : (c.toNat : Int) = 35 ∧ 0 < lead A
    · rw [if_neg (fun h => h.2.elim (fun h => h hgood.1) (fun h => by omega)), finR_ok]
      refine Ev.step (f := fun k => shuttlelaw2_ScalarTails.j2 k (mkB V) (mkB (writeU V)) 0 0 (lead A : Int) true 1 (mkB [97]) true (mkB V) 0 1 4) (fun k => by
        rw [shuttlelaw2_ScalarTails.j1, mkB_size, if_neg (by omega), if_pos (by omega), if_pos (by omega), if_pos (by omega), hba c r hcr, hgood.1]; rfl) ?_
      exact Ev.step (fun k => by rw [shuttlelaw2_ScalarTails.j2, if_pos rfl, if_pos rfl, if_pos rfl]) haw
    · rw [if_pos ⟨by omega, by
        by_cases h : (c.toNat : Int) = 35
        · exact .inr (by have : ¬ 0 < lead A := fun h2 => hgood ⟨h, h2⟩; omega)
        · exact .inl h⟩, finR_err _ _ _ (by decide)]
      refine Ev.step (f := fun k => shuttlelaw2_ScalarTails.j2 k (mkB V) (mkB (writeU V)) (((3 + (writeU V).length + lead A : Nat) : Int) + 1) 22 (lead A : Int) false 0 ⟨#[]⟩ false ⟨#[]⟩ 0 0 0) (fun k => ?_) ?_
      · rw [shuttlelaw2_ScalarTails.j1, mkB_size, if_neg (by omega)]
        by_cases h0 : (lead A : Int) > 0
        · rw [if_pos h0, if_pos (by omega), if_pos (by omega), hba c r hcr, show ((c.toNat : Int) == 35) = false from beq_eq_false_iff_ne.mpr (fun h => hgood ⟨h, by omega⟩)]
          rfl
        · rw [if_neg h0]
          rfl
      · exact Ev.step (fun k => by
          rw [shuttlelaw2_ScalarTails.j2, if_neg (by decide), if_pos rfl, mkB_size, hw, if_pos rfl, if_pos (by decide +kernel)]) haw
end Go.Proofs.YtmkfjjfdbaaknaaDoor.Pure
