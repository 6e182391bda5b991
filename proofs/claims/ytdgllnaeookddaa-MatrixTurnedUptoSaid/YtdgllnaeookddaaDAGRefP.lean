/- What the document's names, entries, twice, again and Check tell, with no program in sight: what the program's Check tells. -/
import Derived.Test.YtdgllnaeookddaaDAGBuildP
import Derived.Test.YtdgllnaeookddaaDAQ0
import Derived.Test.YtdgllnaeookddaaDAQ3
import Derived.Test.YtdgllnaeookddaaDAGBuild
namespace Go.Proofs.Ytdgllnaeookddaa.Q
open Go.RowKit Go.Proofs.YtdgllnaeookddaaW.PrintWords Go.Proofs.YtdgllnaeookddaaW.PrintLast Go.Proofs.YtdgllnaeookddaaW.PrintMore
set_option linter.unusedVariables false
set_option linter.unusedSimpArgs false
theorem toList_eq_iff {a b : ByteArray} : a.toList = b.toList ↔ a = b := by
  rw [ByteArray.toList_eq, ByteArray.toList_eq]
  exact ⟨fun h => ByteArray.ext (Array.toList_inj.mp h), fun h => by rw [h]⟩
def okV (vs : List SV) : Bool := vs.all fun v => varNameB v.f0
def entriesB (es : List (List SV)) : Bool := es.all fun vs => decide (0 < vs.length) && okV vs
def twiceB (es : List (List SV)) : Bool := es.any fun vs => dupB (vs.map (·.f0))
def dupAx (axes : AX) : Bool := axes.any fun a => dupB a.f1
def okAx (axes : AX) : Bool := axes.all fun a => varNameB a.f0
def lastI (b : Bool) : Int := if b = true then 131 else 0
def checkR (axes : AX) (inc exc : List (List SV)) : Int :=
  if 8 < axes.length ∨ entriesB inc = false ∨ entriesB exc = false then 130 else if okAx axes = true then lastI (((twiceB inc || twiceB exc) || dupAx axes) || dupB (axes.map (·.f0))) else 130
structure Tiny (axes : AX) (inc exc : List (List SV)) : Prop where
  n0 : axes.length ≤ 1048576
  n1 : inc.length ≤ 1048576
  n2 : exc.length ≤ 1048576
  l0 : ∀ a, a ∈ axes → a.f1.length ≤ 1048576
  l1 : ∀ x, x ∈ inc → x.length ≤ 1048576
  l2 : ∀ x, x ∈ exc → x.length ≤ 1048576
theorem finI_eq : ∀ (L : List Int) (m : Int), (∀ x ∈ L, x = 0 ∨ x = 130 ∨ x = 131) → (m = 0 ∨ m = 131) → finI m L = if 130 ∈ L then 130 else if m = 131 ∨ 131 ∈ L then 131 else 0
  | [], m, _, hm => by
    rcases hm with rfl | rfl <;> simp [finI]
  | x :: r, m, hL, hm => by
    have hr : ∀ y ∈ r, y = 0 ∨ y = 130 ∨ y = 131 := fun y hy => hL y (List.mem_cons_of_mem _ hy)
    rcases hL x (List.mem_cons_self ..) with rfl | rfl | rfl
    · have ih := finI_eq r (mx m 0) hr (by rcases hm with rfl | rfl <;> simp [mx])
      rw [finI, if_neg (by decide), ih]
      rcases hm with rfl | rfl <;> simp [mx]
    · rw [finI, if_pos rfl]
      simp
    · have ih := finI_eq r (mx m 131) hr (by rcases hm with rfl | rfl <;> simp [mx])
      rw [finI, if_neg (by decide), ih]
      rcases hm with rfl | rfl <;> simp [mx]
theorem namesI_vals (l : List ByteArray) : (namesI l = 0 ∨ namesI l = 130 ∨ namesI l = 131) ∧ (namesI l = 130 ↔ l.all varNameB = false) ∧ (namesI l = 131 ↔ (l.all varNameB = true ∧ dupB l = true)) := by
  unfold namesI
  cases l.all varNameB <;> cases dupB l <;> simp
theorem okV_eq (vs : List SV) : okV vs = (vs.map (·.f0)).all varNameB := by unfold okV; rw [List.all_map]; rfl
theorem entryI_vals (vs : List SV) : (entryI vs = 0 ∨ entryI vs = 130 ∨ entryI vs = 131) ∧ (entryI vs = 130 ↔ (decide (0 < vs.length) && okV vs) = false) ∧ (entryI vs = 131 → dupB (vs.map (·.f0)) = true) ∧ ((decide (0 < vs.length) && okV vs) = true → dupB (vs.map (·.f0)) = true → entryI vs = 131) := by
  obtain ⟨h1, h2, h3⟩ := namesI_vals (vs.map (·.f0))
  unfold entryI
  rw [okV_eq]
  by_cases h0 : vs.length = 0
  · have : vs = [] := List.length_eq_zero_iff.1 h0
    subst this
    simp
  · rw [if_neg h0, show decide (0 < vs.length) = true by simp; omega, Bool.true_and]
    exact ⟨h1, h2, fun h => (h3.1 h).2, fun ha hd => h3.2 ⟨ha, hd⟩⟩
theorem entriesB_bad (es : List (List SV)) : entriesB es = false ↔ ∃ x ∈ es, entryI x = 130 := by
  unfold entriesB
  rw [← Bool.not_eq_true, List.all_eq_true]
  constructor
  · intro h
    refine Classical.byContradiction fun hc => h fun x hx => ?_
    cases hb : decide (0 < x.length) && okV x with
    | true => rfl
    | false => exact absurd ⟨x, hx, (entryI_vals x).2.1.2 hb⟩ hc
  · rintro ⟨x, hx, he⟩ h
    have := (entryI_vals x).2.1.1 he
    rw [h x hx] at this
    cases this
theorem twice_of (es : List (List SV)) (h : entriesB es = true) : twiceB es = true ↔ ∃ x ∈ es, entryI x = 131 := by
  unfold entriesB at h
  unfold twiceB
  rw [List.all_eq_true] at h
  rw [List.any_eq_true]
  constructor
  · rintro ⟨x, hx, hd⟩
    exact ⟨x, hx, (entryI_vals x).2.2.2 (h x hx) hd⟩
  · rintro ⟨x, hx, he⟩
    exact ⟨x, hx, (entryI_vals x).2.2.1 he⟩
theorem check_same (axes : AX) (inc exc : List (List SV)) : checkI axes inc exc = checkR axes inc exc := by
  unfold checkI checkR
  by_cases h8 : 8 < axes.length
  · rw [if_pos h8, if_pos (.inl h8)]
  · rw [if_neg h8]
    obtain ⟨n1, n2, n3⟩ := namesI_vals (axes.map (·.f0))
    have hok : (axes.map (·.f0)).all varNameB = okAx axes := by unfold okAx; rw [List.all_map]; rfl
    rw [hok] at n2 n3
    have hL : ∀ x ∈ checkL axes inc exc ++ dupL axes, x = 0 ∨ x = 130 ∨ x = 131 := by
      intro x hx
      rcases List.mem_append.1 hx with hx | hx
      · rcases List.mem_cons.1 hx with rfl | hx
        · exact n1
        · obtain ⟨e, _, rfl⟩ := List.mem_map.1 hx
          exact (entryI_vals e).1
      · obtain ⟨a, _, rfl⟩ := List.mem_map.1 hx
        exact .inr (.inr rfl)
    have m130 : 130 ∈ checkL axes inc exc ++ dupL axes ↔ okAx axes = false ∨ entriesB inc = false ∨ entriesB exc = false := by
      rw [entriesB_bad, entriesB_bad, ← n2]
      unfold checkL dupL
      simp only [List.mem_append, List.mem_cons, List.mem_map, List.mem_filter]
      constructor
      · rintro ((h | ⟨e, he | he, h⟩) | ⟨a, _, h⟩)
        · exact .inl h.symm
        · exact .inr (.inl ⟨e, he, h⟩)
        · exact .inr (.inr ⟨e, he, h⟩)
        · cases h
      · rintro (h | ⟨e, he, h⟩ | ⟨e, he, h⟩)
        · exact .inl (.inl h.symm)
        · exact .inl (.inr ⟨e, .inl he, h⟩)
        · exact .inl (.inr ⟨e, .inr he, h⟩)
    rw [finI_eq _ 0 hL (.inl rfl)]
    by_cases hb : entriesB inc = false ∨ entriesB exc = false
    · rw [if_pos (m130.2 (.inr hb)), if_pos (.inr hb)]
    · rw [if_neg (show ¬ (8 < axes.length ∨ entriesB inc = false ∨ entriesB exc = false) from fun h => h.elim h8 hb)]
      have hi : entriesB inc = true := by simpa using fun h => hb (.inl h)
      have he : entriesB exc = true := by simpa using fun h => hb (.inr h)
      cases ho : okAx axes with
      | false => rw [if_pos (m130.2 (.inl ho))]; rfl
      | true =>
        rw [if_neg (fun h => (m130.1 h).elim (fun h => by rw [ho] at h; cases h) hb), if_pos rfl]
        have t1 := twice_of inc hi
        have t2 := twice_of exc he
        unfold lastI
        have m131 : 131 ∈ checkL axes inc exc ++ dupL axes ↔ (((twiceB inc || twiceB exc) || dupAx axes) || dupB (axes.map (·.f0))) = true := by
          rw [Bool.or_eq_true, Bool.or_eq_true, Bool.or_eq_true, t1, t2]
          unfold checkL dupL dupAx
          rw [List.any_eq_true]
          simp only [List.mem_append, List.mem_cons, List.mem_map, List.mem_filter]
          rw [ho] at n3
          constructor
          · rintro ((h | ⟨e, he | he, h⟩) | ⟨a, ⟨h1, h2⟩, _⟩)
            · exact .inr (n3.1 h.symm).2
            · exact .inl (.inl (.inl ⟨e, he, h⟩))
            · exact .inl (.inl (.inr ⟨e, he, h⟩))
            · exact .inl (.inr ⟨a, h1, h2⟩)
          · rintro (((⟨e, he, h⟩ | ⟨e, he, h⟩) | ⟨a, h1, h2⟩) | h)
            · exact .inl (.inr ⟨e, .inl he, h⟩)
            · exact .inl (.inr ⟨e, .inr he, h⟩)
            · exact .inr ⟨a, ⟨h1, h2⟩, trivial⟩
            · exact .inl (.inl (n3.2 ⟨rfl, h⟩).symm)
        by_cases hq : (((twiceB inc || twiceB exc) || dupAx axes) || dupB (axes.map (·.f0))) = true
        · rw [if_pos (.inr (m131.2 hq)), if_pos hq]
        · rw [if_neg (fun h => h.elim (by decide) (fun h => hq (m131.1 h))), if_neg hq]
end Go.Proofs.Ytdgllnaeookddaa.Q
namespace Go.Proofs.Ytdgllnaeookddaa.Q
open Go.RowKit Go.Proofs.YtdgllnaeookddaaW.PrintWords Go.Proofs.YtdgllnaeookddaaW.PrintLast Go.Proofs.YtdgllnaeookddaaW.PrintMore
set_option linter.unusedVariables false
set_option linter.unusedSimpArgs false
end Go.Proofs.Ytdgllnaeookddaa.Q
namespace Go.Proofs.Ytdgllnaeookddaa.Q
open Go.RowKit Go.Proofs.YtdgllnaeookddaaW.PrintWords Go.Proofs.YtdgllnaeookddaaW.PrintLast Go.Proofs.YtdgllnaeookddaaW.PrintMore
set_option linter.unusedVariables false
set_option linter.unusedSimpArgs false
def uniq (p : List SV) : Prop := dupB (p.map (·.f0)) = false ∧ p.length ≤ 1048576
theorem fine_of {axes : AX} {inc exc : List (List SV)} (h : checkI axes inc exc = 0) : axes.length ≤ 8 ∧ dupB (axes.map (·.f0)) = false ∧ ∀ x, x ∈ inc → dupB (x.map (·.f0)) = false := by
  rw [check_same] at h
  unfold checkR at h
  split at h
  · omega
  · rename_i hn
    split at h
    · unfold lastI at h
      split at h
      · omega
      · rename_i hb
        simp only [Bool.or_eq_true, not_or, Bool.not_eq_true] at hb
        obtain ⟨⟨⟨h1, h2⟩, h3⟩, h4⟩ := hb
        refine ⟨Nat.not_lt.1 (fun hc => hn (.inl hc)), h4, fun x hx => ?_⟩
        cases hd : dupB (x.map (·.f0)) with
        | false => rfl
        | true =>
          have : twiceB inc = true := List.any_eq_true.2 ⟨x, hx, hd⟩
          rw [h1] at this
          cases this
    · omega
theorem pick_names : ∀ (axes : AX) (ds : List Nat), ds.length = axes.length → (pickOf axes ds).map (·.f0) = axes.map (·.f0)
  | [], ds, _ => by simp [pickOf]
  | a :: r, [], h => by simp at h
  | a :: r, d :: ds, h => by
    have := pick_names r ds (by simpa using h)
    simpa [pickOf] using this
theorem pick_uniq {axes : AX} (h8 : axes.length ≤ 8) (hd : dupB (axes.map (·.f0)) = false) (n : Nat) : uniq (pickOf axes (digitsR (lens axes) n)) := by
  have hl : (digitsR (lens axes) n).length = axes.length := by rw [digitsR_length, lens_length]
  exact ⟨by rw [pick_names _ _ hl]; exact hd, by rw [pickOf_length _ _ hl]; omega⟩
theorem kept_uniq {axes : AX} (h8 : axes.length ≤ 8) (hd : dupB (axes.map (·.f0)) = false) (exc : List (List SV)) : ∀ p, p ∈ keptP axes exc → uniq p := by
  intro p hp
  unfold keptP at hp
  have := (List.mem_filter.1 hp).1
  rw [allPicks_eq] at this
  obtain ⟨n, _, rfl⟩ := List.mem_map.1 this
  exact pick_uniq h8 hd n
theorem addInc_mem : ∀ (l o : List (List SV)) (p : List SV), p ∈ addInc o l → p ∈ o ∨ p ∈ l
  | [], o, p, h => .inl h
  | x :: r, o, p, h => by
    have ih := addInc_mem r _ p h
    rcases ih with h1 | h1
    · split at h1
      · exact .inl h1
      · rcases List.mem_append.1 h1 with h2 | h2
        · exact .inl h2
        · exact .inr (by rw [List.mem_singleton.1 h2]; exact List.mem_cons_self ..)
    · exact .inr (List.mem_cons_of_mem _ h1)
end Go.Proofs.Ytdgllnaeookddaa.Q
