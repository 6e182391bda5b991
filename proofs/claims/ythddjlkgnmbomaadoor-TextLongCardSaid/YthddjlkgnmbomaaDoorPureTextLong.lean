import Derived.Test.YthddjlkgnmbomaaDoorTLow
import Derived.Test.YthddjlkgnmbomaaDoorQ7
namespace Go.Proofs.YthddjlkgnmbomaaDoor.Pure
open Go Go.RowKit Go.Proofs.YthddjlkgnmbomaaDoor.Q Go.Proofs.YthddjlkgnmbomaaDoorW.PrintWords Go.Proofs.YthddjlkgnmbomaaDoorW.PrintLast
theorem set_at (c : Int) (i d : Nat) : ((List.replicate i c ++ List.replicate (d + 1) 0).set ((i : Int)).toNat c) = List.replicate (i + 1) c ++ List.replicate d (0 : Int) := by
  rw [Int.toNat_natCast, List.set_append_right _ _ (by simp), List.length_replicate, Nat.sub_self, List.replicate_succ, List.set_cons_zero, List.replicate_succ', List.append_assoc]
  rfl
theorem str_rep (c : UInt8) (n : Nat) : strOfNums (List.replicate n (c.toNat : Int)) = mkB (List.replicate n c) := by
  unfold strOfNums mkB
  rw [List.map_replicate]
  simp
theorem long_l1 (x5 : Int) (x8 : List LN) (x11 : Int) (N : Nat) (hN : N ≤ 70000) (r : Bool)
    (h : (text_Lines.f (strOfNums (List.replicate N 10))).bind (fun bt245 => (if x5 = 2 then (if x11 = 10 then (if (x8.length : Int) = 0 then (if bt245.2.2.2 = 12 then (if bt245.2.1 = 4097 then (if bt245.2.2.1 = 0 then ((shuttlelaw1_awake.f).bind fun t251 => (some t251)) else (some false)) else (some false)) else (some false)) else (some false)) else (some false)) else (if x11 = 0 then (if (x8.length : Int) = 1 then (if bt245.2.2.2 = 0 then (if (bt245.1.length : Int) = 0 then ((shuttlelaw1_awake.f).bind fun t252 => (some t252)) else (some false)) else (some false)) else (some false)) else (some false)))) = some r) :
    ∀ (d i : Nat), i + d = N → Ev (fun k => shuttlelaw1_TextLong.l1 k x5 x8 x11 (List.replicate i 10 ++ List.replicate d 0) (i : Int)) r
  | 0, i, hi => by
    obtain rfl : i = N := by omega
    have hl : ¬ (i : Int) < ((List.replicate i (10 : Int) ++ List.replicate 0 0).length : Int) := by simp
    refine Ev.step (fun k => by rw [shuttlelaw1_TextLong.l1, if_neg hl, List.replicate_zero, List.append_nil, h]) (Ev.now r)
  | d + 1, i, hi => by
    have hl : (i : Int) < ((List.replicate i (10 : Int) ++ List.replicate (d + 1) 0).length : Int) := by simp; omega
    exact Ev.step (fun k => by rw [shuttlelaw1_TextLong.l1, if_pos hl, if_pos (by omega), set_at, wr i (by omega)]) (long_l1 x5 x8 x11 N hN r h d (i + 1) (by omega))
theorem long_l0 (x1 x5 : Int) (N : Nat) (hN : N ≤ 70000) (y : List LN × Int × Int × Int) (hy : text_Lines.f (strOfNums (List.replicate N x1)) = some y) (r : Bool)
    (h0 : 0 ≤ wrap64 (4095 + x5)) (hM : (wrap64 (4095 + x5)).toNat ≤ 70000)
    (h : Ev (fun k => shuttlelaw1_TextLong.l1 k x5 y.1 y.2.2.2 (List.replicate (wrap64 (4095 + x5)).toNat 0) 0) r) :
    ∀ (d i : Nat), i + d = N → Ev (fun k => shuttlelaw1_TextLong.l0 k x1 x5 (List.replicate i x1 ++ List.replicate d 0) (i : Int)) r
  | 0, i, hi => by
    obtain rfl : i = N := by omega
    have hl : ¬ (i : Int) < ((List.replicate i x1 ++ List.replicate 0 0).length : Int) := by simp
    refine Ev.step (fun k => by rw [shuttlelaw1_TextLong.l0, if_neg hl, List.replicate_zero, List.append_nil, hy, Option.bind_some, if_pos h0, if_pos (Nat.le_trans hM (by decide))]) h
  | d + 1, i, hi => by
    have hl : (i : Int) < ((List.replicate i x1 ++ List.replicate (d + 1) 0).length : Int) := by simp; omega
    exact Ev.step (fun k => by rw [shuttlelaw1_TextLong.l0, if_pos hl, if_pos (by omega), set_at, wr i (by omega)]) (long_l0 x1 x5 N hN y hy r h0 hM h d (i + 1) (by omega))
/-- A long line of one byte is taken up to the bound, and refused past it. -/
theorem lines_long (c : UInt8) (n : Nat) (hn : 0 < n) (hc : 33 ≤ c.toNat) (hc1 : c.toNat ≠ 127) (hc2 : c.toNat ≠ 35) : (65536 < n → linesP (mkB (List.replicate n c)) = ([], 0, 0, 10)) ∧
    (n ≤ 65536 → (linesP (mkB (List.replicate n c))).2.2.2 = 0 ∧ (linesP (mkB (List.replicate n c))).1.length = 1) := by
  have hsz : (mkB (List.replicate n c)).size = n := by rw [mkB_size, List.length_replicate]
  constructor
  · intro h
    unfold linesP
    rw [if_pos (by omega)]
  · intro h
    have hall : ∀ d ∈ List.replicate n c, d = c := fun d hd => (List.mem_replicate.1 hd).2
    have hne : List.replicate n c ≠ [] := by
      intro e
      have := congrArg List.length e
      simp at this
      omega
    have h10 : c ≠ 10 := fun e => by subst e; exact absurd hc (by decide)
    have hL : linesB (mkB (List.replicate n c)) = [mkB (List.replicate n c)] := by
      rw [linesB_mk, linesU_last _ (fun d hd => by rw [hall d hd]; exact h10) hne]
      rfl
    have hg : ∀ x ∈ numb 1 (linesB (mkB (List.replicate n c))), goodB x = true := by
      rw [hL]
      intro x hx
      rw [List.mem_singleton.1 hx]
      exact (goodB_iff _ _).2 ⟨by decide, fun d hd => by rw [hall d hd]; exact ⟨by omega, hc1⟩⟩
    rw [goL_all _ (by omega) hg, hL]
    refine ⟨rfl, ?_⟩
    have e : (numb 1 [mkB (List.replicate n c)]).flatMap lineOf = lineOf (1, mkB (List.replicate n c)) := by simp [numb]
    show ((numb 1 [mkB (List.replicate n c)]).flatMap lineOf).length = 1
    rw [e]
    rcases line_form 1 (List.replicate n c) with ⟨_, a, b, T, h1, h2⟩ | ⟨a, b, d, r, _, _, _, _, h6⟩
    · exfalso
      have h32 : c ≠ 32 := fun e => by subst e; exact absurd hc (by decide)
      have h35 : c ≠ 35 := fun e => by subst e; exact hc2 rfl
      have ha : a = 0 := by
        cases a with
        | zero => rfl
        | succ a => exact absurd (hall 32 (by rw [h1]; simp)).symm h32
      subst ha
      rcases h2 with ⟨rfl, rfl⟩ | ⟨⟨r, rfl⟩, _⟩
      · exact hne (by rw [h1]; rfl)
      · exact absurd (hall 35 (by rw [h1]; simp)).symm h35
    · rw [h6]
      rfl
theorem linesU_nl : ∀ n, linesU (List.replicate n 10) = List.replicate n []
  | 0 => rfl
  | n + 1 => by rw [List.replicate_succ, linesU, if_pos rfl, linesU_nl n]; rfl
theorem numb_nil_good : ∀ (n k : Nat), k + n ≤ 4097 → ∀ x ∈ numb k ((List.replicate n ([] : List UInt8)).map mkB), goodB x = true ∧ lineOf x = []
  | 0, k, _, x, hx => by cases hx
  | n + 1, k, h, x, hx => by
    rw [List.replicate_succ, List.map_cons, numb] at hx
    rcases List.mem_cons.1 hx with hx | hx
    · subst hx
      exact ⟨(goodB_iff _ _).2 ⟨by omega, fun c hc => by cases hc⟩, by
        rcases line_form (k : Int) [] with ⟨h, _⟩ | ⟨a, b, c, r, h, _⟩
        · exact h
        · have := congrArg List.length h
          simp at this⟩
    · exact numb_nil_good n (k + 1) (by omega) x hx
/-- Empty lines are taken up to the bound, and refused past it. -/
theorem lines_many (n : Nat) : (n ≤ 4096 → (linesP (mkB (List.replicate n 10))).2.2.2 = 0 ∧ (linesP (mkB (List.replicate n 10))).1 = []) ∧ (n = 4097 → linesP (mkB (List.replicate n 10)) = ([], 4097, 0, 12)) := by
  have hsz : (mkB (List.replicate n 10)).size = n := by rw [mkB_size, List.length_replicate]
  have hL : linesB (mkB (List.replicate n 10)) = (List.replicate n []).map mkB := by rw [linesB_mk, linesU_nl]
  constructor
  · intro h
    have hg := numb_nil_good n 1 (by omega)
    rw [← hL] at hg
    rw [goL_all _ (by omega) (fun x hx => (hg x hx).1)]
    refine ⟨rfl, ?_⟩
    show (numb 1 (linesB (mkB (List.replicate n 10)))).flatMap lineOf = []
    exact List.flatMap_eq_nil_iff.2 (fun x hx => (hg x hx).2)
  · rintro rfl
    unfold linesP
    rw [if_neg (by rw [hsz]; decide), hL, show (4097 : Nat) = 4096 + 1 from rfl, List.replicate_succ', List.map_append, numb_app]
    have hg := numb_nil_good 4096 1 (by decide)
    have hx : goodB (((1 + ((List.replicate 4096 ([] : List UInt8)).map mkB).length : Nat) : Int), mkB []) = false := by
      rw [List.length_map, List.length_replicate]
      unfold goodB
      rw [decide_eq_false (by decide)]
      rfl
    have := goL_bad (numb 1 ((List.replicate 4096 ([] : List UInt8)).map mkB)) _ [] [] (fun y hy => (hg y hy).1) hx
    refine this.trans ?_
    unfold failOf
    rw [List.length_map, List.length_replicate, if_pos (by decide)]
    rfl
theorem long_j1 (c : UInt8) (hc : 33 ≤ c.toNat) (hc1 : c.toNat ≠ 127) (hc2 : c.toNat ≠ 35) (m : Nat) (hm : m < 3) : Ev (fun k => shuttlelaw1_TextLong.j1 k (c.toNat : Int) (m : Int)) true := by
  have hw : wrap64 (65535 + (m : Int)) = ((65535 + m : Nat) : Int) := by unfold wrap64; omega
  have hw2 : wrap64 (4095 + (m : Int)) = ((4095 + m : Nat) : Int) := by unfold wrap64; omega
  refine Ev.step (fun k => by rw [shuttlelaw1_TextLong.j1, hw, Int.toNat_natCast, if_pos (Int.natCast_nonneg _), if_pos (Nat.le_trans (show 65535 + m ≤ 70000 by clear hw hw2; omega) (by decide))]) ?_
  have hs : text_Lines.f (strOfNums (List.replicate (65535 + m) (c.toNat : Int))) = some (linesP (mkB (List.replicate (65535 + m) c))) := by
    rw [str_rep, text_f _ (by rw [mkB_size, List.length_replicate]; clear hw hw2; omega)]
  have hz : strOfNums (List.replicate (4095 + m) (10 : Int)) = mkB (List.replicate (4095 + m) 10) := str_rep 10 (4095 + m)
  have ht : text_Lines.f (strOfNums (List.replicate (4095 + m) (10 : Int))) = some (linesP (mkB (List.replicate (4095 + m) 10))) := by
    rw [hz, text_f _ (by rw [mkB_size, List.length_replicate]; clear hw hw2; omega)]
  have hlong := lines_long c (65535 + m) (by clear hw hw2; omega) hc hc1 hc2
  have hmany := lines_many (4095 + m)
  refine long_l0 (c.toNat : Int) (m : Int) (65535 + m) (by clear hw hw2; omega) _ hs true (by rw [hw2]; exact Int.natCast_nonneg _) (by rw [hw2, Int.toNat_natCast]; clear hw hw2; omega) ?_ (65535 + m) 0 (Nat.zero_add _)
  rw [hw2, Int.toNat_natCast]
  refine long_l1 (m : Int) _ _ (4095 + m) (by clear hw hw2; omega) true ?_ (4095 + m) 0 (Nat.zero_add _)
  rw [ht, Option.bind_some, awake_f]
  by_cases h2 : m = 2
  · subst h2
    have h1 := hlong.1 (by decide)
    have h3 := hmany.2 rfl
    rw [h1, h3]
    rfl
  · have h1 := hlong.2 (by clear hw hw2; omega)
    have h3 := hmany.1 (by clear hw hw2; omega)
    rw [if_neg (by clear hw hw2; omega), if_pos h1.1, if_pos (by rw [h1.2]; rfl), if_pos h3.1, if_pos (by rw [h3.2]; rfl)]
    rfl
theorem TextLong : shuttlelaw1_TextLong.Pure := by
  intro a0 a1 h0 h1
  refine Ev.rounds ?_
  unfold shuttlelaw1_TextLong.f
  obtain ⟨n, hn⟩ := low_nat a0
  have hm : Int.tmod (n : Int) 3 = ((n % 3 : Nat) : Int) := by rw [Int.tmod_eq_emod_of_nonneg (by omega)]; omega
  rw [hn]
  simp only [Option.bind_some, hm]
  have hb : n % 3 < 3 := Nat.mod_lt _ (by decide)
  obtain ⟨c, rfl⟩ := u8_wf a1 h1
  have hx : Ev (fun k => shuttlelaw1_TextLong.j1 k 120 ((n % 3 : Nat) : Int)) true := long_j1 120 (by decide) (by decide) (by decide) _ hb
  by_cases h2 : (c.toNat : Int) < 33
  · refine Ev.congr (fun k => by rw [if_pos h2]) ?_
    exact Ev.step (fun k => by rw [shuttlelaw1_TextLong.j0, if_pos rfl]) hx
  · refine Ev.congr (fun k => by rw [if_neg h2]) ?_
    by_cases h3 : (c.toNat : Int) = 127
    · refine Ev.congr (fun k => by rw [if_pos h3]) ?_
      exact Ev.step (fun k => by rw [shuttlelaw1_TextLong.j0, if_pos rfl]) hx
    · refine Ev.congr (fun k => by rw [if_neg h3]) ?_
      by_cases h4 : (c.toNat : Int) = 35
      · exact Ev.step (fun k => by rw [shuttlelaw1_TextLong.j0, if_pos (by rw [h4]; rfl)]) hx
      · refine Ev.step (fun k => by rw [shuttlelaw1_TextLong.j0, if_neg (by simpa using h4)]) ?_
        exact long_j1 c (by omega) (by omega) (by omega) _ hb
end Go.Proofs.YthddjlkgnmbomaaDoor.Pure
