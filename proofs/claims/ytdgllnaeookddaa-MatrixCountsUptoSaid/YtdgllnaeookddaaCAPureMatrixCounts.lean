/- Statement MatrixCounts, with no program in sight: never more instances than were counted, and just so many without excludes and includes; no two have the same values. -/
import Derived.Test.YtdgllnaeookddaaCAGSame
import Derived.Test.YtdgllnaeookddaaCAGCnDefs
namespace Go.Proofs.Ytdgllnaeookddaa.Q
open Go.RowKit Go.Proofs.YtdgllnaeookddaaW.PrintWords Go.Proofs.YtdgllnaeookddaaW.PrintLast Go.Proofs.YtdgllnaeookddaaW.PrintMore
set_option linter.unusedVariables false
set_option linter.unusedSimpArgs false
/-- No two of these picks are of one length and lay over to the same. -/
def Differ (ps : List (List SV)) : Prop := ∀ i j (hi : i < ps.length) (hj : j < i), ps[i].length = (ps[j]'(by omega)).length → Ov.overB [ps[i]] ≠ Ov.overB [ps[j]'(by omega)]
section
variable (ps : List (List SV))
theorem mn_l1 (hf : Few ps) (hA : Differ ps) (i : Nat) (hi : i < ps.length) (hK : Ev (fun k => shuttlelaw13_MatrixCounts.l0 k ps ((i + 1 : Nat) : Int)) true) : ∀ (d j : Nat), j + d = i → Ev (fun k => shuttlelaw13_MatrixCounts.l1 k ps (i : Int) (j : Int)) true
  | 0, j, h => by
    have hn := hf.1
    refine Ev.step (fun k => by rw [shuttlelaw13_MatrixCounts.l1, if_neg (by omega), wrap_succ (n := ps.length) (by omega) (by omega) (by omega)]) ?_
    exact hK
  | d + 1, j, h => by
    have hn := hf.1
    have hj : j < ps.length := by omega
    have ih := mn_l1 hf hA i hi hK d (j + 1) (by omega)
    refine Ev.step (fun k => by rw [shuttlelaw13_MatrixCounts.l1, if_pos (by omega), if_pos (by omega), if_pos (by omega), if_pos (by omega), if_pos (by omega), rd_row ps i hi, rd_row ps j hj, wrap_succ (n := ps.length) (by omega) (by omega) (by omega)]) ?_
    by_cases hl : ps[i].length = ps[j].length
    · have h1 := hf.2 _ (List.getElem_mem hi)
      have h2 := hf.2 _ (List.getElem_mem hj)
      refine Ev.congr (fun k => by rw [if_pos (by omega), over_some h1, Option.bind_some, over_some h2, Option.bind_some]) ?_
      refine Ev.bind (sv_ev _ _ (Nat.le_trans (over_len ps[i]) h1)) ?_
      rw [sameR_ne (hA i j hi (by omega) hl)]
      exact ih
    · refine Ev.congr (fun k => by rw [if_neg (by omega)]) ?_
      exact ih
theorem mn_l0 (hf : Few ps) (hA : Differ ps) : ∀ (d i : Nat), i + d = ps.length → Ev (fun k => shuttlelaw13_MatrixCounts.l0 k ps (i : Int)) true
  | 0, i, h => by
    refine Ev.step (fun k => by rw [shuttlelaw13_MatrixCounts.l0, if_neg (by omega)]) ?_
    exact Ev.congr (fun k => by rfl) (Ev.now _)
  | d + 1, i, h => by
    have hi : i < ps.length := by omega
    refine Ev.step (fun k => by rw [shuttlelaw13_MatrixCounts.l0, if_pos (by omega)]) ?_
    exact mn_l1 ps hf hA i hi (mn_l0 hf hA d (i + 1) (by omega)) i 0 (by omega)
theorem mn_j0 (hf : Few ps) (hA : Differ ps) : Ev (fun k => shuttlelaw13_MatrixCounts.j0 k ps false) true := by
  refine Ev.step (fun k => by rw [shuttlelaw13_MatrixCounts.j0, if_neg (by decide)]) ?_
  exact mn_l0 ps hf hA ps.length 0 (by omega)
end
theorem build_names {axes : AX} {inc exc : List (List SV)} (h : checkI axes inc exc = 0) : ∀ p, p ∈ addInc (keptP axes exc) inc → (p.map (·.f0)).Nodup := fun p hp => by
  obtain ⟨h8, hd, hi⟩ := fine_of h
  rcases addInc_mem _ _ p hp with h | h
  · exact nodup_of_dup _ (kept_uniq h8 hd exc p h).1
  · exact nodup_of_dup _ (hi p h)
theorem build_differ {axes : AX} {inc exc : List (List SV)} (h : checkI axes inc exc = 0) : Differ (addInc (keptP axes exc) inc) := fun i j hi hj hl => by
  have ha := List.pairwise_iff_getElem.1 (build_apart (exc := exc) h) j i (by omega) hi hj
  exact over_ne (build_names h _ (List.getElem_mem hi)) hl.symm ha
theorem counts_ev (axes : AX) (inc exc : List (List SV)) (ht : Tiny axes inc exc) : Ev (fun k => shuttlelaw13_MatrixCounts.f k axes inc exc) true := by
  unfold shuttlelaw13_MatrixCounts.f
  refine Ev.bind (cm_ev axes inc exc ht) ?_
  refine Ev.bind (count_ev axes inc exc (tiny_small ht)) ?_
  refine Ev.bind (cm_ev axes inc exc ht) ?_
  refine Ev.congr (fun k => by rw [tiny_build ht, Option.bind_some]) ?_
  have hf := few_build ht
  by_cases hz : checkI axes inc exc = 0
  case neg =>
    have e : buildP axes inc exc = ([], 0, checkI axes inc exc) := by unfold buildP; rw [if_neg hz]
    rw [e]
    rcases check_vals axes inc exc with h | h | h
    · exact absurd h hz
    · rw [h]
      exact Ev.congr (fun k => by rw [if_neg (by decide), if_pos (by rfl), if_pos (by rfl), if_neg (by decide)]; rfl) (Ev.now _)
    · rw [h]
      exact Ev.congr (fun k => by rw [if_neg (by decide), if_pos (by rfl), if_pos (by rfl), if_neg (by decide)]; rfl) (Ev.now _)
  case pos =>
    by_cases hbig : 256 < countI axes inc exc
    · have e : buildP axes inc exc = ([], 0, 132) := by unfold buildP; rw [if_pos hz, if_pos hbig]
      rw [e]
      exact Ev.congr (fun k => by rw [if_neg (by decide), if_pos (by rfl), if_pos (by rfl), if_pos (by rfl), if_pos hbig]; rfl) (Ev.now _)
    · by_cases hb : axes.length = 0 ∧ inc.length = 0
      · have e : buildP axes inc exc = ([[]], 1, 0) := by unfold buildP; rw [if_pos hz, if_neg hbig, if_pos hb]
        have ec : countI axes inc exc = 1 := by unfold countI; rw [if_pos hz, if_pos hb]
        rw [e] at hf ⊢
        rw [ec]
        have hJ := mn_j0 [[]] hf (fun i j hi hj => by simp at hi; omega)
        refine Ev.congr (fun k => by rw [if_pos (by rfl), if_neg (by decide), if_pos (by rfl), if_neg (by decide)]) ?_
        by_cases h2 : (exc.length : Int) = 0
        · refine Ev.congr (fun k => by rw [if_pos h2, if_pos (by omega)]) ?_
          exact hJ
        · exact Ev.congr (fun k => by rw [if_neg h2]) hJ
      · have e : buildP axes inc exc = (addInc (keptP axes exc) inc, countI axes inc exc, 0) := by unfold buildP; rw [if_pos hz, if_neg hbig, if_neg hb]
        rw [e] at hf ⊢
        have hJ := mn_j0 _ hf (build_differ hz)
        obtain ⟨hm1, hm2⟩ := many_small hz hbig hb
        have hc : countI axes inc exc = ((many axes + inc.length : Nat) : Int) := by
          unfold countI most
          rw [if_pos hz, if_neg hb]
          by_cases h0 : axes.length = 0
          · have : many axes = 0 := by unfold many leftB; simp [h0]
            rw [if_pos h0]
            omega
          · rw [if_neg h0]
            rw [many_eq (by omega)] at hm1 ⊢
            omega
        have hl1 := addInc_few inc (keptP axes exc)
        have hl2 := kept_len axes exc
        refine Ev.congr (fun k => by rw [if_pos (by rfl), if_neg (by omega), if_pos (by rfl), if_neg (by simp only [hc]; omega)]) ?_
        by_cases h2 : (exc.length : Int) = 0
        · by_cases h1 : (inc.length : Int) = 0
          · have he : exc = [] := List.length_eq_zero_iff.1 (by omega)
            have hi : inc = [] := List.length_eq_zero_iff.1 (by omega)
            subst he
            subst hi
            have hk := kept_all axes
            have : ((((addInc (keptP axes []) []).length : Nat) : Int) != countI axes [] []) = false := by
              rw [hc]
              have : addInc (keptP axes []) [] = keptP axes [] := rfl
              rw [this, hk]
              simp
            refine Ev.congr (fun k => by rw [if_pos h2, if_pos h1]) ?_
            show Ev (fun k => shuttlelaw13_MatrixCounts.j0 k (addInc (keptP axes []) []) ((((addInc (keptP axes []) []).length : Nat) : Int) != countI axes [] [])) true
            rw [this]
            exact hJ
          · exact Ev.congr (fun k => by rw [if_pos h2, if_neg h1]) hJ
        · exact Ev.congr (fun k => by rw [if_neg h2]) hJ
end Go.Proofs.Ytdgllnaeookddaa.Q
