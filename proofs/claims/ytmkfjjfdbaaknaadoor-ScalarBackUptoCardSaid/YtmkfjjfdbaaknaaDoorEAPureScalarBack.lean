/- The plain law behind ScalarBack: what is written is read back. -/
import Derived.Test.YtmkfjjfdbaaknaaDoorEASLaw
import Derived.Test.YtmkfjjfdbaaknaaDoorEAQ12
namespace Go.Proofs.YtmkfjjfdbaaknaaDoor.Q
open Go Go.RowKit Go.Proofs.YtmkfjjfdbaaknaaDoorW.PrintWords Go.Proofs.YtmkfjjfdbaaknaaDoorW.PrintLast Go.Proofs.YtmkfjjfdbaaknaaDoorW.PrintMore
set_option linter.unusedVariables false
set_option linter.unusedSimpArgs false
theorem hashN_app (T : List UInt8) (hT : T.head? ≠ some 35) : ∀ V : List UInt8, hasH V = false → hashN (V ++ T) = V.length + hashN T
  | [], _ => by simp
  | [c], h => by
    show hashN (c :: T) = _
    rw [hashN, if_neg (fun h => hT h.2)]
    simp
    omega
  | c :: d :: r, h => by
    rw [hasH_two, Bool.or_eq_false_iff] at h
    have ih := hashN_app T hT (d :: r) h.2
    show hashN (c :: d :: (r ++ T)) = _
    rw [hashN, if_neg (fun hh => of_decide_eq_false h.1 ⟨hh.1, Option.some.inj hh.2⟩)]
    have e : d :: (r ++ T) = (d :: r) ++ T := rfl
    rw [e, ih]
    simp
    omega
def remark : List UInt8 := [32, 32, 32, 35, 32, 97, 32, 114, 101, 109, 97, 114, 107]
structure PlainL (V : List UInt8) : Prop where
  cons : ∃ v r, V = v :: r ∧ v ≠ 32 ∧ v ≠ 34 ∧ v ≠ 35
  last : ∃ r d, V = r ++ [d] ∧ d ≠ 32
  noList : V ≠ [91, 93]
  noMap : V ≠ [123, 125]
  noHash : hasH V = false
theorem u34 (c : UInt8) : (c.toNat : Int) = 34 ↔ c = 34 := by
  constructor
  · intro h
    exact UInt8.toNat_inj.1 (by rw [show (34 : UInt8).toNat = 34 from rfl]; omega)
  · intro h
    subst h
    rfl
theorem plainL_of (V : List UInt8) (h : plainB (mkB V) = true) : PlainL V := by
  unfold plainB at h
  rw [mkB_nil] at h
  by_cases h0 : V = []
  · rw [if_pos h0] at h
    cases h
  · rw [if_neg h0] at h
    split at h
    · cases h
    · rename_i hn
      have hn1 : ¬ bt (mkB V) 0 = 32 := fun h => hn (.inl h)
      have hn2 : ¬ bt (mkB V) 0 = 34 := fun h => hn (.inr (.inl h))
      have hn3 : ¬ bt (mkB V) 0 = 35 := fun h => hn (.inr (.inr (.inl h)))
      have hn4 : ¬ bt (mkB V) (((mkB V).size : Int) - 1) = 32 := fun h => hn (.inr (.inr (.inr (.inl h))))
      have hn5 : ¬ V = [91, 93] := fun h => hn (.inr (.inr (.inr (.inr (.inl h)))))
      have hn6 : ¬ V = [123, 125] := fun h => hn (.inr (.inr (.inr (.inr (.inr (.inl h))))))
      have hn7 : ¬ Lib.contains V [32, 35] = true := fun h => hn (.inr (.inr (.inr (.inr (.inr (.inr h))))))
      rw [hasH_contains] at hn7
      refine ⟨?_, ?_, hn5, hn6, Bool.eq_false_iff.2 hn7⟩
      · cases V with
        | nil => exact absurd rfl h0
        | cons v r =>
          have hb : bt (mkB (v :: r)) 0 = (v.toNat : Int) := bt_mk _ 0 v rfl
          rw [hb] at hn1 hn2 hn3
          exact ⟨v, r, rfl, fun h => hn1 ((u32 v).2 h), fun h => hn2 ((u34 v).2 h), fun h => hn3 ((u35 v).2 h)⟩
      · rcases List.eq_nil_or_concat V with h | ⟨r, d, h⟩
        · exact absurd h h0
        · rw [List.concat_eq_append] at h
          refine ⟨r, d, h, fun hd => hn4 ?_⟩
          have hb := bt_app r d []
          rw [← h] at hb
          have e : ((mkB V).size : Int) - 1 = (r.length : Int) := by rw [mkB_size, h]; simp
          rw [e, hb, hd]
          rfl
/-- A text that says V. -/
def Says (V W : List UInt8) : Prop := W = writeU V ∨ (W = V ∧ PlainL V)
theorem says_head (V W : List UInt8) (h : Says V W) : ∃ v r, W = v :: r ∧ v ≠ 32 := by
  rcases h with rfl | ⟨rfl, h⟩
  · exact ⟨34, _, rfl, by decide⟩
  · obtain ⟨v, r, h1, h2, _⟩ := h.cons
    exact ⟨v, r, h1, h2⟩
theorem val_text (V W T P : List UInt8) (c : CT) (hW : Says V W) (hT : T = [] ∨ T = remark) : valR (mkB (P ++ (W ++ T))) P.length c = (0, 0, { c with f2 := true, f6 := (P.length : Int) + 1, f3 := mkB V }) := by
  rcases hW with rfl | ⟨rfl, hp⟩
  · rw [val_quoted]
    have hneg : tailP (mkB (P ++ (writeU V ++ T))) (P.length + (writeU V).length + lead T) (P.length + (writeU V).length) P.length (mkB V) c = (0, 0, { c with f2 := true, f6 := (P.length : Int) + 1, f3 := mkB V }) := by
      refine if_neg ?_
      rintro ⟨h1, h2⟩
      rcases hT with rfl | rfl
      · rw [mkB_size] at h1
        have e : lead [] = 0 := rfl
        rw [e] at h1
        simp at h1
      · have e : lead remark = 3 := rfl
        rw [e] at h1 h2
        rcases h2 with h2 | h2
        · apply h2
          have hb := bt_app (P ++ (writeU V ++ [32, 32, 32])) 35 [32, 97, 32, 114, 101, 109, 97, 114, 107]
          have e1 : (P ++ (writeU V ++ [32, 32, 32])) ++ 35 :: [32, 97, 32, 114, 101, 109, 97, 114, 107] = P ++ (writeU V ++ remark) := by
            unfold remark
            simp
          have e2 : (P ++ (writeU V ++ [32, 32, 32])).length = P.length + (writeU V).length + 3 := by
            simp
            omega
          rw [e1, e2] at hb
          exact hb
        · omega
    rw [hneg, finR_ok]
  · obtain ⟨v, r, h1, h2, h3, h4⟩ := hp.cons
    have hTh : T.head? ≠ some 35 := by
      rcases hT with rfl | rfl
      · intro h; cases h
      · intro h; cases h
    have hh := hashN_app T hTh W hp.noHash
    rw [val_bare P (W ++ T) c v (r ++ T) (by rw [h1]; rfl) h3 h4, hh]
    obtain ⟨r', d, h5, h6⟩ := hp.last
    have htr : Lib.trimRightB ((W ++ T).take (W.length + hashN T)) 32 = W := by
      rcases hT with rfl | rfl
      · have e : hashN [] = 0 := rfl
        rw [e, List.append_nil, Nat.add_zero, List.take_length, h5, trimR_other _ _ h6]
      · have e : hashN remark = 2 := rfl
        rw [e, List.take_length_add_append]
        have e2 : W ++ remark.take 2 = (W ++ [32]) ++ [32] := by
          unfold remark
          simp
        rw [e2, trimR_blank, trimR_blank, h5, trimR_other _ _ h6]
    rw [htr]
    unfold bareC
    rw [mkB_nil, if_neg hp.noList, if_neg hp.noMap]
def keyT (K : List UInt8) : List UInt8 := if nameB (mkB K) = true then K else writeU K
theorem key_evT (K : List UInt8) (hs : K.length ≤ 1073741824) : Ev (fun k => scalar_Key.f k (mkB K)) (mkB (keyT K)) := by
  have h := key_evB (mkB K) (by rw [mkB_size]; exact hs)
  unfold keyT
  cases hn : nameB (mkB K) with
  | true =>
    rw [hn] at h
    exact h
  | false =>
    rw [hn] at h
    exact h
theorem head_key (K T : List UInt8) (hK : K.length ≤ 64) : headP (mkB (keyT K ++ 58 :: T)) (qOf (mkB (keyT K ++ 58 :: T)) 0) = colonP (mkB (keyT K ++ 58 :: T)) (mkB K) (keyT K).length := by
  unfold keyT
  cases hn : nameB (mkB K) with
  | true => exact head_name K (58 :: T) hn (.inr ⟨58, T, rfl, by decide⟩) _
  | false => exact head_quoted K (58 :: T) hK
theorem read_entry (K V W T : List UInt8) (hK : K.length ≤ 64) (hW : Says V W) (hT : T = [] ∨ T = remark) : readP (mkB (keyT K ++ 58 :: 32 :: (W ++ T))) = (0, 0, ⟨1, mkB K, true, mkB V, 0, 1, ((keyT K).length : Int) + 3⟩) := by
  obtain ⟨v, r, h1, h2⟩ := says_head V W hW
  have hg : gapOf (mkB (keyT K ++ 58 :: 32 :: (W ++ T))) ((keyT K).length + 1) = (keyT K).length + 2 := by
    rw [gapOf_lead _ _ (by simp), ← List.drop_drop, List.drop_left, h1]
    show (keyT K).length + 1 + lead (32 :: v :: (r ++ T)) = _
    rw [lead, if_pos rfl, lead, if_neg h2]
  have hv := val_text V W T (keyT K ++ [58, 32]) { c1E with f1 := mkB K } hW hT
  have e1 : (keyT K ++ [58, 32]) ++ (W ++ T) = keyT K ++ 58 :: 32 :: (W ++ T) := by simp
  have e2 : (keyT K ++ [58, 32]).length = (keyT K).length + 2 := by simp
  rw [e1, e2] at hv
  rw [readP_end, head_key K _ hK, colon_blank, endP_ok, hg, hv]
  have e3 : (((keyT K).length + 2 : Nat) : Int) + 1 = ((keyT K).length : Int) + 3 := by omega
  rw [e3]
  rfl
theorem read_item (V W T : List UInt8) (hW : Says V W) (hT : T = [] ∨ T = remark) : readP (mkB (45 :: 32 :: 32 :: (W ++ T))) = (0, 0, ⟨2, ⟨#[]⟩, true, mkB V, 0, 1, 4⟩) := by
  obtain ⟨v, r, h1, h2⟩ := says_head V W hW
  have hitem : prefB (mkB (45 :: 32 :: 32 :: (W ++ T))) ⟨#[45, 32]⟩ = true := rfl
  have hh : headP (mkB (45 :: 32 :: 32 :: (W ++ T))) (qOf (mkB (45 :: 32 :: 32 :: (W ++ T))) 0) = (0, 0, 1, { c1E with f0 := 2 }) := by
    unfold headP
    rw [hitem, Bool.or_true, if_pos rfl]
  have hg : gapOf (mkB (45 :: 32 :: 32 :: (W ++ T))) 1 = 3 := by
    rw [gapOf_lead _ _ (by simp), h1]
    show 1 + lead (32 :: 32 :: v :: (r ++ T)) = 3
    rw [lead, if_pos rfl, lead, if_pos rfl, lead, if_neg h2]
  have hv := val_text V W T [45, 32, 32] { c1E with f0 := 2 } hW hT
  rw [readP_end, hh, endP_ok, hg]
  exact hv
section
variable (K V : List UInt8) (hK : K.length ≤ 64) (hV : V.length ≤ 1048576)
include hK hV
theorem back_round (W T : List UInt8) (hW : Says V W) (hl : W.length ≤ 4 * V.length + 2) (hT : T = [] ∨ T = remark) (i : Int) (hgo : Ev (fun k => shuttlelaw2_ScalarBack.l0 k (mkB K) (mkB V) (wrap64 (i + 1))) true) : Ev (fun k => shuttlelaw2_ScalarBack.j2 k (mkB K) (mkB V) i (mkB W) (mkB T)) true := by
  have hkt : (keyT K).length ≤ 258 := by
    unfold keyT
    split
    · omega
    · have := (flat_len K).2
      rw [writeU_len]
      omega
  have hTl : T.length ≤ 13 := by rcases hT with rfl | rfl <;> decide
  have e1 : mkB (keyT K) ++ (⟨#[58, 32]⟩ : ByteArray) = mkB (keyT K ++ [58, 32]) := mkB_app (keyT K) [58, 32]
  have e2 : mkB (keyT K ++ [58, 32]) ++ mkB W = mkB (keyT K ++ 58 :: 32 :: W) := by rw [mkB_app]; simp
  have e3 : mkB (keyT K ++ 58 :: 32 :: W) ++ mkB T = mkB (keyT K ++ 58 :: 32 :: (W ++ T)) := by rw [mkB_app]; simp
  have e4 : (⟨#[45, 32, 32]⟩ : ByteArray) ++ mkB W = mkB (45 :: 32 :: 32 :: W) := mkB_app [45, 32, 32] W
  have e5 : mkB (45 :: 32 :: 32 :: W) ++ mkB T = mkB (45 :: 32 :: 32 :: (W ++ T)) := by rw [mkB_app]; simp
  have r1 := scalarRead_f (mkB (keyT K ++ 58 :: 32 :: (W ++ T))) (by rw [mkB_size]; simp; omega)
  rw [read_entry K V W T hK hW hT] at r1
  have r2 := scalarRead_f (mkB (45 :: 32 :: 32 :: (W ++ T))) (by rw [mkB_size]; simp; omega)
  rw [read_item V W T hW hT] at r2
  have hw : wrap64 (((keyT K).length : Int) + 3) = ((keyT K).length : Int) + 3 := wrI _ (by omega) (by omega)
  refine Ev.step (f := fun k => (scalar_Key.f k (mkB K)).bind fun t312 => (if t312.size + 2 ≤ 9223372036854775807 then (if (t312 ++ (⟨#[58, 32]⟩ : ByteArray)).size + (mkB W).size ≤ 9223372036854775807 then (if ((t312 ++ (⟨#[58, 32]⟩ : ByteArray)) ++ mkB W).size + (mkB T).size ≤ 9223372036854775807 then ((scalar_Read.f (((t312 ++ (⟨#[58, 32]⟩ : ByteArray)) ++ mkB W) ++ mkB T)).bind fun bt313 => (if 3 + (mkB W).size ≤ 9223372036854775807 then (if ((⟨#[45, 32, 32]⟩ : ByteArray) ++ mkB W).size + (mkB T).size ≤ 9223372036854775807 then ((scalar_Read.f (((⟨#[45, 32, 32]⟩ : ByteArray) ++ mkB W) ++ mkB T)).bind fun bt323 => (if bt313.2.2.2.2.2.2.2.2 = 0 then (shuttlelaw2_ScalarBack.j3 k (mkB K) (mkB V) i bt323.2.2.2.2.2.2.2.2 (!(bt313.1 == 1) || (!(bt313.2.1.toList == (mkB K).toList) || (!bt313.2.2.1 || (!(bt313.2.2.2.1.toList == (mkB V).toList) || (!(bt313.2.2.2.2.1 == 0) || (!(bt313.2.2.2.2.2.1 == 1) || (!(bt313.2.2.2.2.2.2.1 == (wrap64 ((t312.size : Int) + 3)))))))))) bt323.1 bt323.2.1 bt323.2.2.1 bt323.2.2.2.1 bt323.2.2.2.2.1 bt323.2.2.2.2.2.1 bt323.2.2.2.2.2.2.1) else (shuttlelaw2_ScalarBack.j3 k (mkB K) (mkB V) i bt323.2.2.2.2.2.2.2.2 true bt323.1 bt323.2.1 bt323.2.2.1 bt323.2.2.2.1 bt323.2.2.2.2.1 bt323.2.2.2.2.2.1 bt323.2.2.2.2.2.2.1))) else (none)) else (none))) else (none)) else (none)) else (none))) (fun k => by rw [shuttlelaw2_ScalarBack.j2]) (Ev.bind (key_evT K (by omega)) ?_)
  refine Ev.congr (f := fun k => shuttlelaw2_ScalarBack.j3 k (mkB K) (mkB V) i 0 false 2 ⟨#[]⟩ true (mkB V) 0 1 4) (fun k => ?_) ?_
  · rw [e1, e2, e3, e4, e5, mkB_size, mkB_size, mkB_size, mkB_size, mkB_size, mkB_size, if_pos (show (keyT K).length + 2 ≤ 9223372036854775807 by omega), if_pos (show (keyT K ++ ([58, 32] : List UInt8) : List UInt8).length + W.length ≤ 9223372036854775807 by simp; omega), if_pos (show (keyT K ++ (58 :: 32 :: W : List UInt8) : List UInt8).length + T.length ≤ 9223372036854775807 by simp; omega), r1, Option.bind_some, if_pos (show 3 + W.length ≤ 9223372036854775807 by omega), if_pos (show (45 :: 32 :: 32 :: W : List UInt8).length + T.length ≤ 9223372036854775807 by simp; omega), r2, Option.bind_some, hw]
    refine (if_pos rfl).trans ?_
    have hb : (!((1 : Int) == 1) || (!((mkB K).toList == (mkB K).toList) || (!true || (!((mkB V).toList == (mkB V).toList) || (!((0 : Int) == 0) || (!((1 : Int) == 1) || (!(((keyT K).length : Int) + 3 == ((keyT K).length : Int) + 3)))))))) = false := by
      rw [beq_self_eq_true (mkB K).toList, beq_self_eq_true (mkB V).toList, beq_self_eq_true (((keyT K).length : Int) + 3)]
      rfl
    show shuttlelaw2_ScalarBack.j3 k (mkB K) (mkB V) i 0 (!((1 : Int) == 1) || (!((mkB K).toList == (mkB K).toList) || (!true || (!((mkB V).toList == (mkB V).toList) || (!((0 : Int) == 0) || (!((1 : Int) == 1) || (!(((keyT K).length : Int) + 3 == ((keyT K).length : Int) + 3)))))))) 2 ⟨#[]⟩ true (mkB V) 0 1 4 = _
    rw [hb]
  · refine Ev.step (fun k => ?_) hgo
    have hb : (!((2 : Int) == 2) || (!((⟨#[]⟩ : ByteArray).toList == ([] : List UInt8)) || (!true || (!((mkB V).toList == (mkB V).toList) || (!((0 : Int) == 0) || (!((1 : Int) == 1) || (!((4 : Int) == 4)))))))) = false := by
      rw [beq_self_eq_true (mkB V).toList]
      decide +kernel
    rw [shuttlelaw2_ScalarBack.j3, if_neg (by decide), if_pos rfl, hb, if_neg (by decide)]
theorem back_l0 : Ev (fun k => shuttlelaw2_ScalarBack.l0 k (mkB K) (mkB V) 0) true := by
  have hVs : (mkB V).size ≤ 1073741824 := by rw [mkB_size]; omega
  have hv := value_evB (mkB V) hVs
  rw [mkB_list] at hv
  have hq := quote_ev (mkB V) hVs
  rw [mkB_list] at hq
  have hql : (writeU V).length ≤ 4 * V.length + 2 := by
    have := (flat_len V).2
    rw [writeU_len]
    omega
  obtain ⟨W, hWs, hWl, hWe⟩ : ∃ W, Says V W ∧ W.length ≤ 4 * V.length + 2 ∧ (if plainB (mkB V) = true then mkB V else mkB (writeU V)) = mkB W := by
    cases hp : plainB (mkB V) with
    | true => exact ⟨V, .inr ⟨rfl, plainL_of V hp⟩, by omega, rfl⟩
    | false => exact ⟨writeU V, .inl rfl, hql, rfl⟩
  rw [hWe] at hv
  have haw : Ev (fun k => (shuttlelaw2_awake.f k).bind fun t => some t) true := Ev.bind awake_ev (Ev.now _)
  have h3 : Ev (fun k => shuttlelaw2_ScalarBack.l0 k (mkB K) (mkB V) (wrap64 (2 + 1))) true := Ev.step (fun k => by rw [show wrap64 (2 + 1) = 3 from by unfold wrap64; omega, shuttlelaw2_ScalarBack.l0, if_neg (by decide)]) haw
  have h2 : Ev (fun k => shuttlelaw2_ScalarBack.l0 k (mkB K) (mkB V) (wrap64 (1 + 1))) true := by
    refine Ev.step (fun k => by rw [show wrap64 (1 + 1) = 2 from by unfold wrap64; omega, shuttlelaw2_ScalarBack.l0, if_pos (by decide)]) (Ev.bind hv ?_)
    refine Ev.congr (f := fun k => shuttlelaw2_ScalarBack.j1 k (mkB K) (mkB V) 2 (mkB W)) (fun k => by rw [if_neg (by decide)]) ?_
    exact Ev.step (fun k => by rw [shuttlelaw2_ScalarBack.j1, if_pos rfl]; rfl) (back_round K V hK hV W remark hWs hWl (.inr rfl) 2 h3)
  have h1 : Ev (fun k => shuttlelaw2_ScalarBack.l0 k (mkB K) (mkB V) (wrap64 (0 + 1))) true := by
    refine Ev.step (fun k => by rw [show wrap64 (0 + 1) = 1 from by unfold wrap64; omega, shuttlelaw2_ScalarBack.l0, if_pos (by decide)]) (Ev.bind hv ?_)
    refine Ev.congr (f := fun k => (scalar_Quote.f k (mkB V)).bind fun t311 => (shuttlelaw2_ScalarBack.j1 k (mkB K) (mkB V) 1 t311)) (fun k => by rw [if_pos rfl]) (Ev.bind hq ?_)
    exact Ev.step (fun k => by rw [shuttlelaw2_ScalarBack.j1, if_neg (by decide)]; rfl) (back_round K V hK hV (writeU V) [] (.inl rfl) hql (.inl rfl) 1 h2)
  refine Ev.step (fun k => by rw [shuttlelaw2_ScalarBack.l0, if_pos (by decide)]) (Ev.bind hv ?_)
  refine Ev.congr (f := fun k => shuttlelaw2_ScalarBack.j1 k (mkB K) (mkB V) 0 (mkB W)) (fun k => by rw [if_neg (by decide)]) ?_
  exact Ev.step (fun k => by rw [shuttlelaw2_ScalarBack.j1, if_neg (by decide)]; rfl) (back_round K V hK hV W [] hWs hWl (.inl rfl) 0 h1)
end
end Go.Proofs.YtmkfjjfdbaaknaaDoor.Q
namespace Go.Proofs.YtmkfjjfdbaaknaaDoor.Pure
open Go Go.RowKit Go.Proofs.YtmkfjjfdbaaknaaDoor.Q Go.Proofs.YtmkfjjfdbaaknaaDoorW.PrintWords
theorem ScalarBack (a0 a1 : ByteArray) (hs : a0.size + a1.size ≤ 1048576) : ∃ k, shuttlelaw2_ScalarBack.f k a0 a1 = some true := by
  refine Ev.rounds ?_
  unfold shuttlelaw2_ScalarBack.f
  obtain ⟨K, rfl⟩ : ∃ K, a0 = mkB K := ⟨a0.data.toList, rfl⟩
  obtain ⟨V, rfl⟩ : ∃ V, a1 = mkB V := ⟨a1.data.toList, rfl⟩
  rw [mkB_size, mkB_size] at hs
  rw [mkB_size]
  by_cases h : (K.length : Int) > 64
  · exact Ev.congr (fun k => if_pos h) (Ev.bind awake_ev (Ev.now _))
  · exact Ev.congr (fun k => if_neg h) (back_l0 K V (by omega) (by omega))
end Go.Proofs.YtmkfjjfdbaaknaaDoor.Pure
