/- The plain law behind ScalarBack: what is written is read back. -/
import Derived.Test.YtmkfjjfdbaaknaaDoorFASLaw
import Derived.Test.YtmkfjjfdbaaknaaDoorFAQ12
namespace Go.Proofs.YtmkfjjfdbaaknaaDoor.Q
open Go Go.RowKit Go.Proofs.YtmkfjjfdbaaknaaDoorW.PrintWords Go.Proofs.YtmkfjjfdbaaknaaDoorW.PrintLast Go.Proofs.YtmkfjjfdbaaknaaDoorW.PrintMore
set_option linter.unusedVariables false
set_option linter.unusedSimpArgs false
theorem hashN_app (T : List UInt8) (hT : T.head? ≠ some 35) : ∀ V : List UInt8, hasH V = false → hashN (V ++ T) = V.length + hashN T
  | [], _ => by simp
  | [c], h => by
    show hashN (c :: T) = _
    rw [hashN, if_neg (fun h => hT h.2)]
    simp
    omega
  | c :: d :: r, h => by
    rw [hasH_two, Bool.or_eq_false_iff] at h
    have ih := hashN_app T hT (d :: r) h.2
    show hashN (c :: d :: (r ++ T)) = _
    rw [hashN, if_neg (fun hh => of_decide_eq_false h.1 ⟨hh.1, Option.some.inj hh.2⟩)]
    have e : d :: (r ++ T) = (d :: r) ++ T := rfl
    rw [e, ih]
    simp
    omega
def remark : List UInt8 := [32, 32, 32, 35, 32, 97, 32, 114, 101, 109, 97, 114, 107]
structure PlainL (V : List UInt8) : Prop where
  cons : ∃ v r, V = v :: r ∧ v ≠ 32 ∧ v ≠ 34 ∧ v ≠ 35
  last : ∃ r d, V = r ++ [d] ∧ d ≠ 32
  noList : V ≠ [91, 93]
  noMap : V ≠ [123, 125]
  noHash : hasH V = false
theorem u34 (c : UInt8) : (c.toNat : Int) = 34 ↔ c = 34 := by
  constructor
  · intro h
    exact UInt8.toNat_inj.1 (by rw [show (34 : UInt8).toNat = 34 from rfl]; omega)
  · intro h
    subst h
    rfl
theorem plainL_of (V : List UInt8) (h : plainB (mkB V) = true) : PlainL V := by
  unfold plainB at h
  rw [mkB_nil] at h
  by_cases h0 : V = []
  · rw [if_pos h0] at h
    cases h
  · rw [if_neg h0] at h
    split at h
    · cases h
    · rename_i hn
      have hn1 : ¬ bt (mkB V) 0 = 32 := fun h => hn (.inl h)
      have hn2 : ¬ bt (mkB V) 0 = 34 := fun h => hn (.inr (.inl h))
      have hn3 : ¬ bt (mkB V) 0 = 35 := fun h => hn (.inr (.inr (.inl h)))
      have hn4 : ¬ bt (mkB V) (((mkB V).size : Int) - 1) = 32 := fun h => hn (.inr (.inr (.inr (.inl h))))
      have hn5 : ¬ V = [91, 93] := fun h => hn (.inr (.inr (.inr (.inr (.inl h)))))
      have hn6 : ¬ V = [123, 125] := fun h => hn (.inr (.inr (.inr (.inr (.inr (.inl h))))))
      have hn7 : ¬ Lib.contains V [32, 35] = true := fun h => hn (.inr (.inr (.inr (.inr (.inr (.inr h))))))
      rw [hasH_contains] at hn7
      refine ⟨?_, ?_, hn5, hn6, Bool.eq_false_iff.2 hn7⟩
      · cases V with
        | nil => exact absurd rfl h0
        | cons v r =>
          have hb : bt (mkB (v :: r)) 0 = (v.toNat : Int) := bt_mk _ 0 v rfl
          rw [hb] at hn1 hn2 hn3
          exact ⟨v, r, rfl, fun h => hn1 ((u32 v).2 h), fun h => hn2 ((u34 v).2 h), fun h => hn3 ((u35 v).2 h)⟩
      · rcases List.eq_nil_or_concat V with h | ⟨r, d, h⟩
        · exact absurd h h0
        · rw [List.concat_eq_append] at h
          refine ⟨r, d, h, fun hd => hn4 ?_⟩
          have hb := bt_app r d []
          rw [← h] at hb
          have e : ((mkB V).size : Int) - 1 = (r.length : Int) := by rw [mkB_size, h]; simp
          rw [e, hb, hd]
          rfl
/-- A text that says V. -/
def Says (V W : List UInt8) : Prop := W = writeU V ∨ (W = V ∧ PlainL V)
theorem says_head (V W : List UInt8) (h : Says V W) : ∃ v r, W = v :: r ∧ v ≠ 32 := by
  rcases h with rfl | ⟨rfl, h⟩
  · exact ⟨34, _, rfl, by decide⟩
  · obtain ⟨v, r, h1, h2, _⟩ := h.cons
    exact ⟨v, r, h1, h2⟩
theorem val_text (V W T P : List UInt8) (c : CT) (hW : Says V W) (hT : T = [] ∨ T = remark) : valR (mkB (P ++ (W ++ T))) P.length c = (0, 0, { c with f2 := true, f6 := (P.length : Int) + 1, f3 := mkB V }) := by
  rcases hW with rfl | ⟨rfl, hp⟩
  · rw [val_quoted]
    have hneg : tailP (mkB (P ++ (writeU V ++ T))) (P.length + (writeU V).length + lead T) (P.length + (writeU V).length) P.length (mkB V) c = (0, 0, { c with f2 := true, f6 := (P.length : Int) + 1, f3 := mkB V }) := by
      refine if_neg ?_
      rintro ⟨h1, h2⟩
      rcases hT with rfl | rfl
      · rw [mkB_size] at h1
        have e : lead [] = 0 := rfl
        rw [e] at h1
        simp at h1
      · have e : lead remark = 3 := rfl
        rw [e] at h1 h2
        rcases h2 with h2 | h2
        · apply h2
          have hb := bt_app (P ++ (writeU V ++ [32, 32, 32])) 35 [32, 97, 32, 114, 101, 109, 97, 114, 107]
          have e1 : (P ++ (writeU V ++ [32, 32, 32])) ++ 35 :: [32, 97, 32, 114, 101, 109, 97, 114, 107] = P ++ (writeU V ++ remark) := by
            unfold remark
            simp
          have e2 : (P ++ (writeU V ++ [32, 32, 32])).length = P.length + (writeU V).length + 3 := by
            simp
            omega
          rw [e1, e2] at hb
          exact hb
        · omega
    rw [hneg, finR_ok]
  · obtain ⟨v, r, h1, h2, h3, h4⟩ := hp.cons
    have hTh : T.head? ≠ some 35 := by
      rcases hT with rfl | rfl
      · intro h; cases h
      · intro h; cases h
    have hh := hashN_app T hTh W hp.noHash
    rw [val_bare P (W ++ T) c v (r ++ T) (by rw [h1]; rfl) h3 h4, hh]
    obtain ⟨r', d, h5, h6⟩ := hp.last
    have htr : Lib.trimRightB ((W ++ T).take (W.length + hashN T)) 32 = W := by
      rcases hT with rfl | rfl
      · have e : hashN [] = 0 := rfl
        rw [e, List.append_nil, Nat.add_zero, List.take_length, h5, trimR_other _ _ h6]
      · have e : hashN remark = 2 := rfl
        rw [e, List.take_length_add_append]
        have e2 : W ++ remark.take 2 = (W ++ [32]) ++ [32] := by
          unfold remark
          simp
        rw [e2, trimR_blank, trimR_blank, h5, trimR_other _ _ h6]
    rw [htr]
    unfold bareC
    rw [mkB_nil, if_neg hp.noList, if_neg hp.noMap]
def keyT (K : List UInt8) : List UInt8 := if nameB (mkB K) = true then K else writeU K
theorem head_key (K T : List UInt8) (hK : K.length ≤ 64) : headP (mkB (keyT K ++ 58 :: T)) (qOf (mkB (keyT K ++ 58 :: T)) 0) = colonP (mkB (keyT K ++ 58 :: T)) (mkB K) (keyT K).length := by
  unfold keyT
  cases hn : nameB (mkB K) with
  | true => exact head_name K (58 :: T) hn (.inr ⟨58, T, rfl, by decide⟩) _
  | false => exact head_quoted K (58 :: T) hK
theorem read_entry (K V W T : List UInt8) (hK : K.length ≤ 64) (hW : Says V W) (hT : T = [] ∨ T = remark) : readP (mkB (keyT K ++ 58 :: 32 :: (W ++ T))) = (0, 0, ⟨1, mkB K, true, mkB V, 0, 1, ((keyT K).length : Int) + 3⟩) := by
  obtain ⟨v, r, h1, h2⟩ := says_head V W hW
  have hg : gapOf (mkB (keyT K ++ 58 :: 32 :: (W ++ T))) ((keyT K).length + 1) = (keyT K).length + 2 := by
    rw [gapOf_lead _ _ (by simp), ← List.drop_drop, List.drop_left, h1]
    show (keyT K).length + 1 + lead (32 :: v :: (r ++ T)) = _
    rw [lead, if_pos rfl, lead, if_neg h2]
  have hv := val_text V W T (keyT K ++ [58, 32]) { c1E with f1 := mkB K } hW hT
  have e1 : (keyT K ++ [58, 32]) ++ (W ++ T) = keyT K ++ 58 :: 32 :: (W ++ T) := by simp
  have e2 : (keyT K ++ [58, 32]).length = (keyT K).length + 2 := by simp
  rw [e1, e2] at hv
  rw [readP_end, head_key K _ hK, colon_blank, endP_ok, hg, hv]
  have e3 : (((keyT K).length + 2 : Nat) : Int) + 1 = ((keyT K).length : Int) + 3 := by omega
  rw [e3]
  rfl
section
variable (K V : List UInt8) (hK : K.length ≤ 64) (hV : V.length ≤ 1048576)
include hK hV
end
end Go.Proofs.YtmkfjjfdbaaknaaDoor.Q
namespace Go.Proofs.YtmkfjjfdbaaknaaDoor.Pure
open Go Go.RowKit Go.Proofs.YtmkfjjfdbaaknaaDoor.Q Go.Proofs.YtmkfjjfdbaaknaaDoorW.PrintWords
end Go.Proofs.YtmkfjjfdbaaknaaDoor.Pure
