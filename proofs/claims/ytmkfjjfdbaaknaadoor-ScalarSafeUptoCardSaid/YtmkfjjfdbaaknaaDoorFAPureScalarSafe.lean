/- The plain law behind ScalarSafe: what is written has no byte that may not be, and a plain text is its own value. -/
import Derived.Test.YtmkfjjfdbaaknaaDoorFAPureScalarBack
import Derived.Test.YtmkfjjfdbaaknaaDoorFAQ13
namespace Go.Proofs.YtmkfjjfdbaaknaaDoor.Q
open Go Go.RowKit Go.Proofs.YtmkfjjfdbaaknaaDoorW.PrintWords Go.Proofs.YtmkfjjfdbaaknaaDoorW.PrintLast Go.Proofs.YtmkfjjfdbaaknaaDoorW.PrintMore
set_option linter.unusedVariables false
set_option linter.unusedSimpArgs false
theorem hex_ok : ∀ n : Fin 16, 32 ≤ (hexU n).toNat ∧ (hexU n).toNat ≠ 127 := by decide +kernel
theorem enc_ok (c : UInt8) : ∀ d ∈ encU c, 32 ≤ d.toNat ∧ d.toNat ≠ 127 := by
  intro d hd
  have hc := c.toNat_lt
  unfold encU at hd
  split at hd
  · rename_i h
    rcases List.mem_cons.1 hd with rfl | hd
    · decide
    · rw [List.mem_singleton.1 hd]
      omega
  · split at hd
    · rcases List.mem_cons.1 hd with rfl | hd
      · decide
      · rw [List.mem_singleton.1 hd]
        decide
    · split at hd
      · rcases List.mem_cons.1 hd with rfl | hd
        · decide
        · rcases List.mem_cons.1 hd with rfl | hd
          · decide
          · rcases List.mem_cons.1 hd with rfl | hd
            · exact hex_ok ⟨c.toNat / 16, by omega⟩
            · rw [List.mem_singleton.1 hd]
              exact hex_ok ⟨c.toNat % 16, by omega⟩
      · rename_i h
        rw [List.mem_singleton.1 hd]
        omega
theorem write_ok (V : List UInt8) : ∀ d ∈ writeU V, 32 ≤ d.toNat ∧ d.toNat ≠ 127 := by
  intro d hd
  unfold writeU at hd
  rcases List.mem_cons.1 hd with rfl | hd
  · decide
  · rcases List.mem_append.1 hd with hd | hd
    · obtain ⟨c, _, h⟩ := List.mem_flatMap.1 hd
      exact enc_ok c d h
    · rw [List.mem_singleton.1 hd]
      decide
theorem write_ne (V : List UInt8) : writeU V ≠ V := by
  intro h
  have := congrArg List.length h
  rw [writeU_len] at this
  have := (flat_len V).1
  omega
theorem safe_loop (x0 : ByteArray) (W : List UInt8) (hW : ∀ d ∈ W, 32 ≤ d.toNat ∧ d.toNat ≠ 127) (hl : W.length ≤ 1073741824) (hend : ∀ k : Nat, True) (H : Ev (fun k => shuttlelaw2_ScalarSafe.l0 k x0 (mkB W) (W.length : Int)) true) : ∀ d i : Nat, i + d = W.length → Ev (fun k => shuttlelaw2_ScalarSafe.l0 k x0 (mkB W) (i : Int)) true
  | 0, i, h => by
    have : i = W.length := by omega
    subst this
    exact H
  | d + 1, i, h => by
    have hlt : i < W.length := by omega
    have hb : bt (mkB W) (i : Int) = (W[i].toNat : Int) := bt_mk W i _ (List.getElem?_eq_getElem hlt)
    have ho := hW W[i] (List.getElem_mem hlt)
    refine Ev.step (fun k => ?_) (safe_loop x0 W hW hl hend H d (i + 1) (by omega))
    rw [shuttlelaw2_ScalarSafe.l0, mkB_size, if_pos (show (i : Int) < (W.length : Int) by omega), if_pos (show 0 ≤ (i : Int) by omega), hb, if_neg (show ¬ (W[i].toNat : Int) < 32 by omega), if_neg (show ¬ (W[i].toNat : Int) = 127 by omega), wrN i (by omega)]
def quotedL (s : ByteArray) : Bool := decide (0 < s.size) && (bt s 0 == 34)
theorem quoted_f (s : ByteArray) : shuttlelaw2_quoted.f s = some (quotedL s) := by
  unfold shuttlelaw2_quoted.f quotedL
  by_cases h : s.toList = []
  · rw [if_pos h, decide_eq_false (show ¬ 0 < s.size by have := (empty_iff s).1 h; omega)]
    rfl
  · have hz : 0 < s.size := by have := mt (empty_iff s).2 h; omega
    rw [if_neg h, if_pos (by omega), decide_eq_true hz, Bool.true_and]
def cleanB (s : ByteArray) : Bool := allOk s 0 && (decide (0 < s.size) && (bt s 0 != 32))
theorem clean_l0 (s : ByteArray) (hs : s.size ≤ 1073741824) : ∀ d i : Nat, i + d = s.size → Ev (fun k => shuttlelaw2_clean.l0 k s (i : Int)) (allOk s i && (decide (0 < s.size) && (bt s 0 != 32)))
  | 0, i, h => by
    unfold allOk
    rw [allFrom_end _ _ _ (by omega), Bool.true_and]
    refine Ev.step (f := fun _ => some (decide (0 < s.size) && (bt s 0 != 32))) (fun k => ?_) (Ev.now _)
    rw [shuttlelaw2_clean.l0, if_neg (show ¬ (i : Int) < (s.size : Int) by omega)]
    by_cases h0 : s.toList = []
    · rw [if_pos h0, decide_eq_false (show ¬ 0 < s.size by have := (empty_iff s).1 h0; omega)]
      rfl
    · have hz : 0 < s.size := by have := mt (empty_iff s).2 h0; omega
      rw [if_neg h0, if_pos (by omega), decide_eq_true hz, Bool.true_and]
  | d + 1, i, h => by
    have ih := clean_l0 s hs d (i + 1) (by omega)
    unfold allOk at ih ⊢
    rw [allFrom_bt _ _ _ (by omega)]
    have hstep : ∀ k, shuttlelaw2_clean.l0 (k + 1) s (i : Int) = (if (bt s (i : Int)) < 32 then (some false) else (if (bt s (i : Int)) = 127 then (some false) else (shuttlelaw2_clean.l0 k s ((i + 1 : Nat) : Int)))) := fun k => by
      rw [shuttlelaw2_clean.l0, if_pos (show (i : Int) < (s.size : Int) by omega), if_pos (show 0 ≤ (i : Int) by omega), wrN i (by omega)]
    generalize bt s (i : Int) = c at hstep ⊢
    by_cases h1 : c < 32
    · rw [show decide (32 ≤ c) = false from decide_eq_false (by omega), Bool.false_and, Bool.false_and, Bool.false_and]
      exact Ev.step (fun k => by rw [hstep, if_pos h1]) (Ev.now _)
    · rw [show decide (32 ≤ c) = true from decide_eq_true (by omega), Bool.true_and]
      by_cases h2 : c = 127
      · rw [show decide (c ≠ 127) = false from decide_eq_false (fun h => h h2), Bool.false_and, Bool.false_and]
        exact Ev.step (fun k => by rw [hstep, if_neg h1, if_pos h2]) (Ev.now _)
      · rw [show decide (c ≠ 127) = true from decide_eq_true h2, Bool.true_and]
        exact Ev.step (fun k => by rw [hstep, if_neg h1, if_neg h2]) ih
theorem clean_ev (s : ByteArray) (hs : s.size ≤ 1073741824) : Ev (fun k => shuttlelaw2_clean.f k s) (cleanB s) := clean_l0 s hs s.size 0 (Nat.zero_add _)
theorem plainB_of (V : List UInt8) (h : PlainL V) (ha : allOk (mkB V) 0 = true) : plainB (mkB V) = true := by
  obtain ⟨v, r, h1, h2, h3, h4⟩ := h.cons
  obtain ⟨r', d, h5, h6⟩ := h.last
  have hb : bt (mkB V) 0 = (v.toNat : Int) := bt_mk _ 0 v (by rw [h1]; rfl)
  have hl : bt (mkB V) (((mkB V).size : Int) - 1) = (d.toNat : Int) := by
    have hb := bt_app r' d []
    rw [← h5] at hb
    have e : ((mkB V).size : Int) - 1 = (r'.length : Int) := by rw [mkB_size, h5]; simp
    rw [e, hb]
  unfold plainB
  rw [mkB_nil, if_neg (by rw [h1]; simp), hb, hl, mkB_list, hasH_contains, h.noHash, if_neg, ha]
  rintro (g | g | g | g | g | g | g)
  · exact h2 ((u32 v).1 g)
  · exact h3 ((u34 v).1 g)
  · exact h4 ((u35 v).1 g)
  · exact h6 ((u32 d).1 g)
  · exact h.noList g
  · exact h.noMap g
  · cases g
theorem plainB_ok (s : ByteArray) (h : plainB s = true) : allOk s 0 = true := by
  unfold plainB at h
  split at h
  · cases h
  · split at h
    · cases h
    · exact h
theorem trimR_lt (r : List UInt8) : (Lib.trimRightB (r ++ [32]) 32).length < (r ++ [32]).length := by
  rw [trimR_blank]
  have := trimR_le r
  simp
  omega
/-- What 'k: ' and a text come to. -/
theorem safe_read (V : List UInt8) (B0 : Prop) (hB0 : B0 = ((readP (mkB (107 :: 58 :: 32 :: V))).1 = 0 ∧ (readP (mkB (107 :: 58 :: 32 :: V))).2.2.f2 = true ∧ (readP (mkB (107 :: 58 :: 32 :: V))).2.2.f3.toList = V ∧ (readP (mkB (107 :: 58 :: 32 :: V))).2.2.f4 = 0 ∧ quotedL (mkB V) = false)) :
    (B0 → plainB (mkB V) = cleanB (mkB V)) ∧ (¬ B0 → plainB (mkB V) = false) := by
  have hk : keyT [107] = [107] := by
    unfold keyT
    rw [show nameB (mkB [107]) = true from by decide +kernel, if_pos rfl]
  have hp : plainB (mkB V) = true → B0 := by
    intro h
    have hpl := plainL_of V h
    have hr := read_entry [107] V V [] (by decide) (.inr ⟨rfl, hpl⟩) (.inl rfl)
    rw [hk, List.append_nil] at hr
    have hr' : readP (mkB (107 :: 58 :: 32 :: V)) = (0, 0, ⟨1, mkB [107], true, mkB V, 0, 1, 4⟩) := hr
    rw [hB0, hr']
    refine ⟨rfl, rfl, mkB_nil V, rfl, ?_⟩
    obtain ⟨v, r, h1, h2, h3, h4⟩ := hpl.cons
    have hb : bt (mkB V) 0 = (v.toNat : Int) := bt_mk _ 0 v (by rw [h1]; rfl)
    unfold quotedL
    rw [hb, show ((v.toNat : Int) == 34) = false from beq_eq_false_iff_ne.mpr (fun g => h3 ((u34 v).1 g)), Bool.and_false]
  refine ⟨fun hb => ?_, fun hb => Bool.eq_false_iff.2 (fun h => hb (hp h))⟩
  rw [Bool.eq_iff_iff]
  constructor
  · intro h
    obtain ⟨v, r, h1, h2, h3, h4⟩ := (plainL_of V h).cons
    have hb : bt (mkB V) 0 = (v.toNat : Int) := bt_mk _ 0 v (by rw [h1]; rfl)
    unfold cleanB
    rw [plainB_ok _ h, hb, mkB_size, decide_eq_true (show 0 < V.length by rw [h1]; simp), show ((v.toNat : Int) != 32) = true from bne_iff_ne.mpr (fun g => h2 ((u32 v).1 g))]
    rfl
  · intro hc
    unfold cleanB at hc
    rw [Bool.and_eq_true, Bool.and_eq_true, decide_eq_true_eq, mkB_size] at hc
    obtain ⟨hok, hz, h32⟩ := hc
    rw [hB0] at hb
    obtain ⟨g1, g2, g3, g4, g5⟩ := hb
    obtain ⟨v, r, rfl⟩ : ∃ v r, V = v :: r := by
      cases V with
      | nil => simp at hz
      | cons v r => exact ⟨v, r, rfl⟩
    have hb0 : bt (mkB (v :: r)) 0 = (v.toNat : Int) := bt_mk _ 0 v rfl
    rw [hb0] at h32
    have hv32 : v ≠ 32 := fun h => (bne_iff_ne.1 h32) ((u32 v).2 h)
    have hv34 : v ≠ 34 := by
      intro h
      unfold quotedL at g5
      rw [hb0, mkB_size, decide_eq_true hz, h] at g5
      exact absurd g5 (by decide)
    have hread : readP (mkB (107 :: 58 :: 32 :: v :: r)) = valR (mkB (([107, 58, 32] : List UInt8) ++ (v :: r))) ([107, 58, 32] : List UInt8).length { c1E with f1 := mkB [107] } := by
      have h1 := head_name [107] (58 :: 32 :: v :: r) (by decide +kernel) (.inr ⟨58, _, rfl, by decide⟩) (qOf (mkB (107 :: 58 :: 32 :: v :: r)) 0)
      have h3 := h1.trans (colon_blank [107] (v :: r) [107])
      have hg : gapOf (mkB (107 :: 58 :: 32 :: v :: r)) 2 = 3 := by
        rw [gapOf_lead _ 2 (by simp)]
        show 2 + lead (32 :: v :: r) = 3
        rw [lead, if_pos rfl, lead, if_neg hv32]
      rw [readP_end]
      refine (congrArg (endP _) h3).trans ?_
      show endP _ (0, 0, 2, _) = _
      rw [endP_ok, hg]
      rfl
    by_cases hv35 : v = 35
    · subst hv35
      rw [hread, val_remark] at g2
      cases g2
    · rw [hread, val_bare [107, 58, 32] (v :: r) _ v r rfl hv34 hv35] at g3 g4
      unfold bareC at g3 g4
      rw [mkB_nil] at g3 g4
      by_cases t1 : Lib.trimRightB ((v :: r).take (hashN (v :: r))) 32 = [91, 93]
      · rw [if_pos t1] at g4
        exact absurd g4 (by show ¬ (1 : Int) = 0; decide)
      · rw [if_neg t1] at g3 g4
        by_cases t2 : Lib.trimRightB ((v :: r).take (hashN (v :: r))) 32 = [123, 125]
        · rw [if_pos t2] at g4
          exact absurd g4 (by show ¬ (2 : Int) = 0; decide)
        · rw [if_neg t2] at g3
          have g3' : Lib.trimRightB ((v :: r).take (hashN (v :: r))) 32 = v :: r := by
            have : (mkB (Lib.trimRightB ((v :: r).take (hashN (v :: r))) 32)).toList = v :: r := g3
            rwa [mkB_nil] at this
          rw [g3'] at t1 t2
          have hle := trimR_le ((v :: r).take (hashN (v :: r)))
          rw [g3', List.length_take] at hle
          have hh := hashN_le (v :: r)
          have hhe : hashN (v :: r) = (v :: r).length := by omega
          rw [hhe, List.take_length] at g3'
          have hno : hasH (v :: r) = false := by
            unfold hasH
            rw [hhe]
            exact decide_eq_false (by omega)
          refine plainB_of _ ⟨⟨v, r, rfl, hv32, hv34, hv35⟩, ?_, t1, t2, hno⟩ hok
          rcases List.eq_nil_or_concat (v :: r) with h | ⟨r', d, h⟩
          · cases h
          · rw [List.concat_eq_append] at h
            refine ⟨r', d, h, fun hd => ?_⟩
            subst hd
            rw [h] at g3'
            have := trimR_lt r'
            rw [g3'] at this
            omega
theorem safe_j1 (V : List UInt8) (hV : V.length ≤ 1048576) (p : Bool) (hp : p = plainB (mkB V)) : Ev (fun k => shuttlelaw2_ScalarSafe.j1 k (mkB V) p false) true := by
  have e1 : (⟨#[107, 58, 32]⟩ : ByteArray) ++ mkB V = mkB (107 :: 58 :: 32 :: V) := mkB_app [107, 58, 32] V
  have hr := scalarRead_f (mkB (107 :: 58 :: 32 :: V)) (by rw [mkB_size]; simp; omega)
  obtain ⟨h1, h2⟩ := safe_read V _ rfl
  rw [← hp] at h1 h2
  have hcl := clean_ev (mkB V) (by rw [mkB_size]; omega)
  generalize cleanB (mkB V) = cl at h1 hcl
  have haw : Ev (fun k => (shuttlelaw2_awake.f k).bind fun t => some t) true := Ev.bind awake_ev (Ev.now _)
  have hq := quoted_f (mkB V)
  generalize quotedL (mkB V) = qd at h1 h2 hq
  generalize readP (mkB (107 :: 58 :: 32 :: V)) = r at hr h1 h2
  obtain ⟨r1, r2, r3⟩ := r
  have hbad : ¬ (r1 = 0 ∧ r3.f2 = true ∧ r3.f3.toList = V ∧ r3.f4 = 0 ∧ qd = false) → Ev (fun k => if (p == false) = true then ((shuttlelaw2_awake.f k).bind fun t => some t) else some false) true := fun h => by
    rw [h2 h]
    exact Ev.congr (fun k => if_pos rfl) haw
  refine Ev.step (f := fun k => (if r1 = 0 then (if r3.f2 = true then (if r3.f3.toList = V then (if r3.f4 = 0 then (if qd = true then (if (p == false) = true then ((shuttlelaw2_awake.f k).bind fun t354 => (some t354)) else (some false)) else ((shuttlelaw2_clean.f k (mkB V)).bind fun t355 => (if (p == t355) = true then ((shuttlelaw2_awake.f k).bind fun t356 => (some t356)) else (some false)))) else (if (p == false) = true then ((shuttlelaw2_awake.f k).bind fun t357 => (some t357)) else (some false))) else (if (p == false) = true then ((shuttlelaw2_awake.f k).bind fun t358 => (some t358)) else (some false))) else (if (p == false) = true then ((shuttlelaw2_awake.f k).bind fun t359 => (some t359)) else (some false))) else (if (p == false) = true then ((shuttlelaw2_awake.f k).bind fun t360 => (some t360)) else (some false)))) (fun k => by
    rw [shuttlelaw2_ScalarSafe.j1, if_neg (show ¬ (false = true) by decide), mkB_size, if_pos (show 3 + V.length ≤ 9223372036854775807 by omega), e1, hr, Option.bind_some, hq, mkB_nil, Option.bind_some]
    rfl) ?_
  by_cases g1 : r1 = 0
  · by_cases g2 : r3.f2 = true
    · by_cases g3 : r3.f3.toList = V
      · by_cases g4 : r3.f4 = 0
        · cases qd with
          | true => exact Ev.congr (fun k => by rw [if_pos g1, if_pos g2, if_pos g3, if_pos g4, if_pos (show true = true from rfl)]) (hbad (fun h => by cases h.2.2.2.2))
          | false =>
            refine Ev.congr (f := fun k => (shuttlelaw2_clean.f k (mkB V)).bind fun t355 => (if (p == t355) = true then ((shuttlelaw2_awake.f k).bind fun t356 => (some t356)) else (some false))) (fun k => by rw [if_pos g1, if_pos g2, if_pos g3, if_pos g4, if_neg (show ¬ (false = true) by decide)]) (Ev.bind hcl ?_)
            rw [h1 ⟨g1, g2, g3, g4, rfl⟩]
            exact Ev.congr (fun k => if_pos (beq_self_eq_true _)) haw
        · exact Ev.congr (fun k => by rw [if_pos g1, if_pos g2, if_pos g3, if_neg g4]) (hbad (fun h => g4 h.2.2.2.1))
      · exact Ev.congr (fun k => by rw [if_pos g1, if_pos g2, if_neg g3]) (hbad (fun h => g3 h.2.2.1))
    · exact Ev.congr (fun k => by rw [if_pos g1, if_neg g2]) (hbad (fun h => g2 h.2.1))
  · exact Ev.congr (fun k => by rw [if_neg g1]) (hbad (fun h => g1 h.1))
end Go.Proofs.YtmkfjjfdbaaknaaDoor.Q
namespace Go.Proofs.YtmkfjjfdbaaknaaDoor.Pure
open Go Go.RowKit Go.Proofs.YtmkfjjfdbaaknaaDoor.Q Go.Proofs.YtmkfjjfdbaaknaaDoorW.PrintWords
theorem ScalarSafe (a0 : ByteArray) (hs : a0.size ≤ 1048576) : ∃ k, shuttlelaw2_ScalarSafe.f k a0 = some true := by
  refine Ev.rounds ?_
  unfold shuttlelaw2_ScalarSafe.f
  obtain ⟨V, rfl⟩ : ∃ V, a0 = mkB V := ⟨a0.data.toList, rfl⟩
  rw [mkB_size] at hs
  have hVs : (mkB V).size ≤ 1073741824 := by rw [mkB_size]; omega
  have hq := quote_ev (mkB V) hVs
  have hv := value_evB (mkB V) hVs
  have hk := key_evB (mkB V) hVs
  have hp := plain_ev (mkB V) hVs
  rw [mkB_list] at hq hv hk
  have hql : (writeU V).length ≤ 4 * V.length + 2 := by
    have := (flat_len V).2
    rw [writeU_len]
    omega
  have hn : scalar_Name.f (mkB V) = some (nameB (mkB V)) := rfl
  refine Ev.bind hq ?_
  refine safe_loop (mkB V) (writeU V) (write_ok V) (by omega) (fun _ => trivial) ?_ (writeU V).length 0 (Nat.zero_add _)
  have hj := safe_j1 V hs _ rfl
  have hne : ((mkB (writeU V)).toList == (mkB V).toList) = false := beq_eq_false_iff_ne.mpr (by rw [mkB_nil, mkB_nil]; exact write_ne V)
  have heq : ((mkB V).toList == (mkB V).toList) = true := beq_self_eq_true _
  have hqq : ((mkB (writeU V)).toList != (mkB (writeU V)).toList) = false := bne_self_eq_false _
  have hkey : Ev (fun k => (scalar_Name.f (mkB V)).bind fun t338 => (if t338 = true then (shuttlelaw2_ScalarSafe.j1 k (mkB V) (plainB (mkB V)) false) else ((scalar_Key.f k (mkB V)).bind fun t339 => (shuttlelaw2_ScalarSafe.j1 k (mkB V) (plainB (mkB V)) (t339.toList != (mkB (writeU V)).toList))))) true := by
    rw [hn]
    cases hnm : nameB (mkB V) with
    | true => exact Ev.congr (fun k => by rw [Option.bind_some, if_pos rfl]) hj
    | false =>
      rw [hnm, if_neg (by decide)] at hk
      refine Ev.congr (f := fun k => (scalar_Key.f k (mkB V)).bind fun t339 => (shuttlelaw2_ScalarSafe.j1 k (mkB V) (plainB (mkB V)) (t339.toList != (mkB (writeU V)).toList))) (fun k => by rw [Option.bind_some, if_neg (show ¬ (false = true) by decide)]) (Ev.bind hk ?_)
      rw [hqq]
      exact hj
  refine Ev.step (f := fun k => (scalar_Plain.f k (mkB V)).bind fun t334 => ((scalar_Value.f k (mkB V)).bind fun t335 => (if (t334 != (t335.toList == (mkB V).toList)) = true then (shuttlelaw2_ScalarSafe.j1 k (mkB V) t334 true) else ((scalar_Name.f (mkB V)).bind fun t336 => ((scalar_Key.f k (mkB V)).bind fun t337 => (if (t336 != (t337.toList == (mkB V).toList)) = true then (shuttlelaw2_ScalarSafe.j1 k (mkB V) t334 true) else (if t334 = true then ((scalar_Name.f (mkB V)).bind fun t338 => (if t338 = true then (shuttlelaw2_ScalarSafe.j1 k (mkB V) t334 false) else ((scalar_Key.f k (mkB V)).bind fun t339 => (shuttlelaw2_ScalarSafe.j1 k (mkB V) t334 (t339.toList != (mkB (writeU V)).toList))))) else ((scalar_Value.f k (mkB V)).bind fun t340 => (if t340.toList = (mkB (writeU V)).toList then ((scalar_Name.f (mkB V)).bind fun t341 => (if t341 = true then (shuttlelaw2_ScalarSafe.j1 k (mkB V) t334 false) else ((scalar_Key.f k (mkB V)).bind fun t342 => (shuttlelaw2_ScalarSafe.j1 k (mkB V) t334 (t342.toList != (mkB (writeU V)).toList))))) else (shuttlelaw2_ScalarSafe.j1 k (mkB V) t334 true)))))))))) (fun k => by
    rw [shuttlelaw2_ScalarSafe.l0, mkB_size, if_neg (show ¬ ((writeU V).length : Int) < ((writeU V).length : Int) by omega)]) (Ev.bind hp (Ev.bind hv ?_))
  have hv1 : (plainB (mkB V) != ((if plainB (mkB V) = true then mkB V else mkB (writeU V)).toList == (mkB V).toList)) = false := by
    cases plainB (mkB V) with
    | true => rw [if_pos rfl, heq]; rfl
    | false => rw [if_neg (by decide), hne]; rfl
  have hk1 : (nameB (mkB V) != ((if nameB (mkB V) = true then mkB V else mkB (writeU V)).toList == (mkB V).toList)) = false := by
    cases nameB (mkB V) with
    | true => rw [if_pos rfl, heq]; rfl
    | false => rw [if_neg (by decide), hne]; rfl
  rw [hv1]
  refine Ev.congr (fun k => if_neg (show ¬ (false = true) by decide)) ?_
  rw [hn]
  refine Ev.congr (fun k => Option.bind_some ..) (Ev.bind hk ?_)
  rw [hk1]
  refine Ev.congr (fun k => if_neg (show ¬ (false = true) by decide)) ?_
  cases hpv : plainB (mkB V) with
  | true =>
    rw [hpv] at hkey
    exact Ev.congr (fun k => if_pos rfl) hkey
  | false =>
    rw [hpv] at hkey
    rw [hpv, if_neg (by decide)] at hv
    refine Ev.congr (fun k => if_neg (show ¬ (false = true) by decide)) (Ev.bind hv ?_)
    exact Ev.congr (fun k => if_pos rfl) hkey
end Go.Proofs.YtmkfjjfdbaaknaaDoor.Pure
