/- The plain law behind ScalarNo: a line without a key, or without a colon and a blank or the end behind it. -/
import Derived.Test.YtmkfjjfdbaaknaaDoorJASLaw
import Derived.Test.YtmkfjjfdbaaknaaDoorJAQ15
namespace Go.Proofs.YtmkfjjfdbaaknaaDoor.Q
open Go Go.RowKit Go.Proofs.YtmkfjjfdbaaknaaDoorW.PrintWords Go.Proofs.YtmkfjjfdbaaknaaDoorW.PrintLast Go.Proofs.YtmkfjjfdbaaknaaDoorW.PrintMore
set_option linter.unusedVariables false
set_option linter.unusedSimpArgs false
/-- Where reading gives up, the column is at least 1. -/
theorem valueP_col (s : ByteArray) (i : Nat) (q : ByteArray × Int × Bool) (c : CT) (hq : 0 ≤ q.2.1) : (valueP s i q c).1 = 0 ∨ 1 ≤ (valueP s i q c).2.1 := by
  unfold valueP
  split
  · exact .inl rfl
  · split
    · exact .inl rfl
    · split
      · split
        · split
          · right
            show 1 ≤ (gapOf s ((i : Int) + q.2.1).toNat : Int) + 1
            omega
          · exact .inl rfl
        · right
          show 1 ≤ (i : Int) + q.2.1 + 1
          omega
      · exact .inl rfl
theorem colonP_col (s key : ByteArray) (a : Nat) : (colonP s key a).1 = 0 ∨ 1 ≤ (colonP s key a).2.1 := by
  unfold colonP
  split
  · right
    show 1 ≤ (a : Int) + 1
    omega
  · split
    · right
      show 1 ≤ (a : Int) + 2
      omega
    · exact .inl rfl
theorem headP_col (s : ByteArray) (q : ByteArray × Int × Bool) (hq : 0 ≤ q.2.1) : (headP s q).1 = 0 ∨ 1 ≤ (headP s q).2.1 := by
  unfold headP
  split
  · exact .inl rfl
  · split
    · split
      · split
        · exact .inr (by show (1 : Int) ≤ 1; omega)
        · exact colonP_col _ _ _
      · right
        show 1 ≤ q.2.1 + 1
        omega
    · split
      · exact colonP_col _ _ _
      · exact .inr (by show (1 : Int) ≤ 1; omega)
theorem readP_col (s : ByteArray) : (readP s).1 = 0 ∨ 1 ≤ (readP s).2.1 := by
  rw [readP_end]
  unfold endP
  have h1 := headP_col s (qOf s 0) (qOf_range s 0 (Nat.zero_le _)).1
  by_cases h : (headP s (qOf s 0)).1 = 0
  · rw [if_pos h]
    unfold valR finR
    have hg := gapOf_le s _ (headP_le s _ h)
    have h2 := valueP_col s (gapOf s (headP s (qOf s 0)).2.2.1) (qOf s (gapOf s (headP s (qOf s 0)).2.2.1)) (headP s (qOf s 0)).2.2.2 (qOf_range s _ hg).1
    split
    · exact .inl rfl
    · exact h2
  · rw [if_neg h]
    exact h1
theorem read_no1 (K : List UInt8) (hn : nameB (mkB K) = true) : readP (mkB K) = (20, (K.length : Int) + 1, zCT) := by
  have h1 := head_name K [] hn (.inl rfl) (qOf (mkB K) 0)
  rw [List.append_nil] at h1
  rw [readP_end, h1, colon_end, endP_err _ _ _ _ _ (by decide)]
theorem read_no2 (K r : List UInt8) (c : UInt8) (hn : nameB (mkB K) = true) (hc : namedB (c.toNat : Int) = false) (h58 : c ≠ 58) : readP (mkB (K ++ c :: r)) = (20, (K.length : Int) + 1, zCT) := by
  have h1 := head_name K (c :: r) hn (.inr ⟨c, r, rfl, hc⟩) (qOf (mkB (K ++ c :: r)) 0)
  rw [readP_end, h1, colon_other K c r K h58, endP_err _ _ _ _ _ (by decide)]
theorem read_no3 (K r : List UInt8) (c : UInt8) (hn : nameB (mkB K) = true) (hc : c ≠ 32) : readP (mkB (K ++ 58 :: c :: r)) = (20, (K.length : Int) + 2, zCT) := by
  have h1 := head_name K (58 :: c :: r) hn (.inr ⟨58, _, rfl, by decide⟩) (qOf (mkB (K ++ 58 :: c :: r)) 0)
  rw [readP_end, h1, colon_wrong K r K c hc, endP_err _ _ _ _ _ (by decide)]
theorem read_key (K : List UInt8) (hn : nameB (mkB K) = true) : readP (mkB (K ++ [58, 32])) = (0, 0, { c1E with f1 := mkB K }) := by
  have h1 := head_name K [58, 32] hn (.inr ⟨58, _, rfl, by decide⟩) (qOf (mkB (K ++ [58, 32])) 0)
  have hg : gapOf (mkB (K ++ [58, 32])) (K.length + 1) = (K ++ [58, 32]).length := by
    rw [gapOf_lead _ _ (by simp), ← List.drop_drop, List.drop_left]
    show K.length + 1 + 1 = _
    simp
  rw [readP_end, h1, colon_blank K [] K, endP_ok, hg]
  exact val_none _ _
end Go.Proofs.YtmkfjjfdbaaknaaDoor.Q
namespace Go.Proofs.YtmkfjjfdbaaknaaDoor.Pure
open Go Go.RowKit Go.Proofs.YtmkfjjfdbaaknaaDoor.Q Go.Proofs.YtmkfjjfdbaaknaaDoorW.PrintWords
theorem toN (a1 : Int) (h : (Lit.int .u8 a1).wf = true) : ∃ c : UInt8, a1 = (c.toNat : Int) := by
  have h2 : 0 ≤ a1 ∧ a1 ≤ 255 := by
    have := h
    simp [Lit.wf] at this
    have m : IntKind.u8.min = 0 := rfl
    have M : IntKind.u8.max = 255 := rfl
    omega
  exact ⟨UInt8.ofNat a1.toNat, by rw [UInt8.toNat_ofNat_of_lt' (by show a1.toNat < 256; omega)]; omega⟩
theorem ScalarNo (a0 : ByteArray) (a1 : Int) (hs : a0.size ≤ 1048576) (hwf : (Lit.int .u8 a1).wf = true) : ∃ k, shuttlelaw2_ScalarNo.f k a0 a1 = some true := by
  refine Ev.rounds ?_
  obtain ⟨c, rfl⟩ := toN a1 hwf
  obtain ⟨K, rfl⟩ : ∃ K, a0 = mkB K := ⟨a0.data.toList, rfl⟩
  rw [mkB_size] at hs
  have haw : Ev (fun k => (shuttlelaw2_awake.f k).bind fun t => some t) true := Ev.bind awake_ev (Ev.now _)
  unfold shuttlelaw2_ScalarNo.f
  have hname : scalar_Name.f (mkB K) = some (nameB (mkB K)) := rfl
  rw [hname, mkB_size]
  cases hn : nameB (mkB K) with
  | false =>
    have e1 : mkB K ++ (⟨#[58, 32, 120]⟩ : ByteArray) = mkB (K ++ [58, 32, 120]) := mkB_app K [58, 32, 120]
    have hr := scalarRead_f (mkB (K ++ [58, 32, 120])) (by rw [mkB_size]; simp; omega)
    have hcol := readP_col (mkB (K ++ [58, 32, 120]))
    rw [e1, hr]
    generalize readP (mkB (K ++ [58, 32, 120])) = r at hcol
    obtain ⟨r1, r2, r3⟩ := r
    have hcol' : r1 = 0 ∨ r2 ≥ 1 := hcol
    have hb : Ev (fun k => if r1 = 0 then ((shuttlelaw2_awake.f k).bind fun t => some t) else (if r2 ≥ 1 then ((shuttlelaw2_awake.f k).bind fun t => some t) else some false)) true := by
      by_cases h : r1 = 0
      · exact Ev.congr (fun k => if_pos h) haw
      · exact Ev.congr (fun k => (if_neg h).trans (if_pos (hcol'.resolve_left h))) haw
    by_cases h0 : K = []
    · refine Ev.congr (fun k => ?_) hb
      rw [Option.bind_some, if_neg (show ¬ (false = true) by decide), if_pos (show K.length + 3 ≤ 9223372036854775807 by omega), Option.bind_some, mkB_nil, if_pos h0]
      rfl
    · have hl : 0 < K.length := List.length_pos_iff.2 h0
      refine Ev.congr (f := fun k => if (bt (mkB K) 0) = 34 then ((shuttlelaw2_awake.f k).bind fun t => some t) else (if (bt (mkB K) 0) = 45 then ((shuttlelaw2_awake.f k).bind fun t => some t) else (if r1 = 0 then ((shuttlelaw2_awake.f k).bind fun t => some t) else (if r2 ≥ 1 then ((shuttlelaw2_awake.f k).bind fun t => some t) else some false)))) (fun k => ?_) ?_
      · rw [Option.bind_some, if_neg (show ¬ (false = true) by decide), if_pos (show K.length + 3 ≤ 9223372036854775807 by omega), Option.bind_some, mkB_nil, if_neg h0, if_pos (show (0 : Int) < (K.length : Int) by omega)]
        rfl
      · by_cases h1 : bt (mkB K) 0 = 34
        · exact Ev.congr (fun k => if_pos h1) haw
        · by_cases h2 : bt (mkB K) 0 = 45
          · exact Ev.congr (fun k => (if_neg h1).trans (if_pos h2)) haw
          · exact Ev.congr (fun k => (if_neg h1).trans (if_neg h2)) hb
  | true =>
    have hr1 := scalarRead_f (mkB K) (by rw [mkB_size]; omega)
    rw [read_no1 K hn] at hr1
    have e2 : mkB K ++ (⟨#[32, 58, 32, 120]⟩ : ByteArray) = mkB (K ++ [32, 58, 32, 120]) := mkB_app K [32, 58, 32, 120]
    have hr2 := scalarRead_f (mkB (K ++ [32, 58, 32, 120])) (by rw [mkB_size]; simp; omega)
    rw [read_no2 K _ 32 hn (by decide) (by decide)] at hr2
    have e3 : mkB K ++ (⟨#[58]⟩ : ByteArray) = mkB (K ++ [58]) := mkB_app K [58]
    have e4 : strOfNums ([(c.toNat : Int)] : List Int) = mkB [c] := str_numsU [c]
    have e5 : mkB (K ++ [58]) ++ mkB [c] = mkB (K ++ [58, c]) := by rw [mkB_app]; simp
    have hr3 := scalarRead_f (mkB (K ++ [58, c])) (by rw [mkB_size]; simp; omega)
    have w1 : wrap64 ((K.length : Int) + 1) = (K.length : Int) + 1 := wrI _ (by omega) (by omega)
    have w2 : wrap64 ((K.length : Int) + 2) = (K.length : Int) + 2 := wrI _ (by omega) (by omega)
    by_cases hc : c = 32
    · subst hc
      rw [read_key K hn] at hr3
      refine Ev.congr (f := fun k => shuttlelaw2_ScalarNo.j0 k (mkB K) 32 0 0 false 1 (mkB K) false ⟨#[]⟩ 0 1 0) (fun k => ?_) ?_
      · rw [Option.bind_some, if_pos (show true = true from rfl), hr1, Option.bind_some, if_pos (show K.length + 4 ≤ 9223372036854775807 by omega), e2, hr2, Option.bind_some, if_pos (show K.length + 1 ≤ 9223372036854775807 by omega), Option.bind_some, e3, e4, e5, hr3, mkB_size, mkB_size, if_pos (show (K ++ ([58] : List UInt8) : List UInt8).length + [(32 : UInt8)].length ≤ 9223372036854775807 by simp; omega), Option.bind_some, w1]
        refine (if_pos rfl).trans ((if_pos rfl).trans ((if_pos rfl).trans ?_))
        have hne : ((K.length : Int) + 1 != (K.length : Int) + 1) = false := bne_self_eq_false _
        have hf : (tup9 (20, (K.length : Int) + 1, zCT)).2.2.2.2.2.2.2.1 = (K.length : Int) + 1 := rfl
        rw [hf, hne]
        rfl
      · refine Ev.step (fun k => ?_) haw
        rw [shuttlelaw2_ScalarNo.j0, if_neg (by decide), if_pos rfl, if_pos rfl]
        rw [show ((1 : Int) == 1 && ((mkB K).toList == (mkB K).toList && (!false && ((⟨#[]⟩ : ByteArray).toList == ([] : List UInt8) && ((0 : Int) == 0 && ((1 : Int) == 1 && (0 : Int) == 0)))))) = true from by
          rw [beq_self_eq_true (mkB K).toList]
          decide +kernel]
        rw [if_pos rfl]
    · rw [read_no3 K [] c hn hc] at hr3
      refine Ev.congr (f := fun k => shuttlelaw2_ScalarNo.j0 k (mkB K) (c.toNat : Int) ((K.length : Int) + 2) 20 false 0 ⟨#[]⟩ false ⟨#[]⟩ 0 0 0) (fun k => ?_) ?_
      · rw [Option.bind_some, if_pos (show true = true from rfl), hr1, Option.bind_some, if_pos (show K.length + 4 ≤ 9223372036854775807 by omega), e2, hr2, Option.bind_some, if_pos (show K.length + 1 ≤ 9223372036854775807 by omega), Option.bind_some, e3, e4, e5, hr3, mkB_size, mkB_size, if_pos (show (K ++ ([58] : List UInt8) : List UInt8).length + [c].length ≤ 9223372036854775807 by simp; omega), Option.bind_some, w1]
        refine (if_pos rfl).trans ((if_pos rfl).trans ((if_pos rfl).trans ?_))
        have hne : ((K.length : Int) + 1 != (K.length : Int) + 1) = false := bne_self_eq_false _
        have hf : (tup9 (20, (K.length : Int) + 1, zCT)).2.2.2.2.2.2.2.1 = (K.length : Int) + 1 := rfl
        rw [hf, hne]
        rfl
      · refine Ev.step (fun k => ?_) haw
        rw [shuttlelaw2_ScalarNo.j0, if_neg (by decide), if_neg (fun h => hc ((u32 c).1 h)), if_pos rfl, mkB_size, w2, if_pos rfl]
end Go.Proofs.YtmkfjjfdbaaknaaDoor.Pure
