/- Statement VarsChains, with no program in sight: a chain of references is worked out up to its bound, and refused past it; a ring is refused; an unknown name is told. -/
import Derived.Test.YtfkibolpanlelaaAAQ10
import Derived.Test.YtfkibolpanlelaaAAVPure
import Derived.Test.YtfkibolpanlelaaAAVChainR
namespace Go.Proofs.Ytfkibolpanlelaa.Q
open Go Go.RowKit Go.Shelf Go.Proofs.YtfkibolpanlelaaW.PrintWords Go.Proofs.YtfkibolpanlelaaW.PrintLast Go.Proofs.YtfkibolpanlelaaW.PrintMore Go.Proofs.Ytfkibolpanlelaa.SMap
set_option linter.unusedVariables false
set_option linter.unusedSimpArgs false
def L26 : ByteArray := ⟨#[65, 66, 67, 68, 69, 70, 71, 72, 73, 74, 75, 76, 77, 78, 79, 80, 81, 82, 83, 84, 85, 86, 87, 88, 89, 90]⟩
def letOk (j : Nat) : Bool :=
  decide (L26.extract ((j : Int)).toNat (wrap64 ((j : Int) + 1)).toNat = nmJ j) &&
  decide ((⟨#[60, 36, 123]⟩ : ByteArray) ++ (L26.extract (wrap64 ((j : Int) + 1)).toNat (wrap64 ((j : Int) + 2)).toNat) ++ (⟨#[125, 62]⟩ : ByteArray) = txtJ j) &&
  decide ((L26.extract (wrap64 ((j : Int) + 1)).toNat (wrap64 ((j : Int) + 2)).toNat).size = 1)
theorem lets_ok : (List.range 20).all letOk = true := by kernel_rfl
theorem let_ok {j : Nat} (h : j < 20) : L26.extract ((j : Int)).toNat (wrap64 ((j : Int) + 1)).toNat = nmJ j ∧ (⟨#[60, 36, 123]⟩ : ByteArray) ++ (L26.extract (wrap64 ((j : Int) + 1)).toNat (wrap64 ((j : Int) + 2)).toNat) ++ (⟨#[125, 62]⟩ : ByteArray) = txtJ j ∧ (L26.extract (wrap64 ((j : Int) + 1)).toNat (wrap64 ((j : Int) + 2)).toNat).size = 1 := by
  have := List.all_eq_true.1 lets_ok j (List.mem_range.2 h)
  unfold letOk at this
  simp only [Bool.and_eq_true, decide_eq_true_eq] at this
  exact ⟨this.1.1, this.1.2, this.2⟩
def ringT : ByteArray := ⟨#[36, 123, 65, 125]⟩
def lostT : ByteArray := ⟨#[120, 36, 123, 90, 125]⟩
def ringOk (d : Nat) : Bool := decide ((resolveP (chainL (d + 15) ringT)).2 = (0, 103)) && decide ((resolveP (chainL (d + 15) lostT)).2 = (0, 102)) && decide (chkV [] (chainL (d + 15) ringT) = none)
theorem rings_ok : (List.range 4).all ringOk = true := by kernel_rfl
theorem ring_ok {d : Nat} (h : d < 4) : (resolveP (chainL (d + 15) ringT)).2 = (0, 103) ∧ (resolveP (chainL (d + 15) lostT)).2 = (0, 102) ∧ chkV [] (chainL (d + 15) ringT) = none := by
  have := List.all_eq_true.1 rings_ok d (List.mem_range.2 h)
  unfold ringOk at this
  simp only [Bool.and_eq_true, decide_eq_true_eq] at this
  exact ⟨this.1.1, this.1.2, this.2⟩
theorem chainL_names (k : Nat) (e e' : ByteArray) : (chainL k e).map (·.f0) = (chainL k e').map (·.f0) := by
  unfold chainL
  rw [List.map_map, List.map_map]
  rfl
theorem chainL_length (k : Nat) (e : ByteArray) : (chainL k e).length = k + 1 := by simp [chainL]
theorem chainL_set (k : Nat) (e t : ByteArray) : (chainL k e).set k ⟨nmJ k, t⟩ = chainL k t := by
  apply List.ext_getElem
  · simp [chainL]
  · intro i h1 h2
    rw [List.getElem_set]
    by_cases h : k = i
    · subst h
      simp [chainL, textC]
    · simp [chainL, textC, h, Ne.symm h]
theorem chainL_small (k : Nat) (e : ByteArray) (he : e.size ≤ 200) : smallV (chainL k e) = true := smallV_of fun v hv => by
  obtain ⟨j, _, rfl⟩ := List.mem_map.1 hv
  show (textC k e j).size ≤ _
  unfold textC
  split
  · omega
  · rw [txt_size]; decide
theorem chainL_cons (k : Nat) (e : ByteArray) : ∃ r, chainL k e = ⟨nmJ 0, textC k e 0⟩ :: r ∧ r.length = k ∧ ∀ u ∈ r, ∃ i, i ≤ k ∧ u.f0 = nmJ i := by
  unfold chainL
  rw [List.range_succ_eq_map, List.map_cons]
  refine ⟨_, rfl, by simp, fun u hu => ?_⟩
  obtain ⟨j, hj, rfl⟩ := List.mem_map.1 hu
  obtain ⟨m, hm, rfl⟩ := List.mem_map.1 hj
  exact ⟨m + 1, List.mem_range.1 hm, rfl⟩
section
variable (e : ByteArray) (hne : ∀ i, i < e.size → bt e (i : Int) ≠ 36) (hl : e.size ≤ 200)
theorem chain_chk (d : Nat) (hd : d < 4) : chkV [] (chainL (d + 15) e) = none := by
  rw [chk_names _ (chainL (d + 15) ringT) [] [] rfl (chainL_names _ _ _)]
  exact (ring_ok hd).2.2
include hne hl
theorem chain_le (d : Nat) (hd : d < 2) : ∃ r, resolveP (chainL (d + 15) e) = (⟨nmJ 0, wrapE e (d + 15)⟩ :: r, 0, 0) ∧ r.length = d + 15 := by
  obtain ⟨r, hr, hlen, hn⟩ := chainL_cons (d + 15) e
  obtain ⟨dn, hw, hdn⟩ := chain_good (chain_raw (d + 15) e (by omega)) (by omega) hne hl (d + 15) 0 (d + 15 + 1) [] (by omega) (by omega) (by omega) (fun _ _ _ => rfl)
  unfold resolveP
  rw [if_neg (by rw [chainL_length]; omega), chain_chk e d (by omega)]
  have hL : (chainL (d + 15) e).length = d + 15 + 1 := chainL_length _ _
  rw [← hL] at hw
  have hs := solve_first (chainL (d + 15) e) ⟨nmJ 0, textC (d + 15) e 0⟩ r hw (fun u hu => by
    obtain ⟨i, hi, he⟩ := hn u hu
    rw [he, hdn i (Nat.zero_le _) hi]
    rfl)
  rw [← hr] at hs
  rw [hs]
  exact ⟨_, rfl, by rw [List.length_map, hlen]⟩
theorem chain_gt (d : Nat) (h2 : 2 ≤ d) (hd : d < 4) : resolveP (chainL (d + 15) e) = ([], 0, 103) := by
  obtain ⟨r, hr, hlen, hn⟩ := chainL_cons (d + 15) e
  have hw := chain_bad (chain_raw (d + 15) e (by omega)) (by omega) hne hl (d + 14) 0 (d + 15 + 1) [] (by omega) (by omega) (by omega) (fun _ _ _ => rfl)
  unfold resolveP
  rw [if_neg (by rw [chainL_length]; omega), chain_chk e d hd]
  have hL : (chainL (d + 15) e).length = d + 15 + 1 := chainL_length _ _
  rw [← hL] at hw
  have hs := solve_bad (chainL (d + 15) e) ⟨nmJ 0, textC (d + 15) e 0⟩ r hw
  rw [← hr] at hs
  rw [hs]
  rfl
omit hne in
theorem ch_l2 (K : Nat) (hK : K ≤ 18) (r : List SV) (hr : r.length = K) :
    ∀ (d i : Nat), i + d = K → Ev (fun k => shuttlelaw10_VarsChains.l2 k (K : Int) (⟨nmJ 0, wrapE e K⟩ :: r) 0 (wrapE e i) (i : Int)) true
  | 0, i, h => by
    obtain rfl : i = K := by omega
    refine Ev.step (fun k => by rw [shuttlelaw10_VarsChains.l2, if_neg (by omega), if_pos rfl, if_pos (by rw [wrap_up (by omega), List.length_cons, hr]), if_pos (by rw [List.length_cons]; omega), if_pos (by rfl)]) ?_
    exact Ev.bind awake_ev (Ev.now _)
  | d + 1, i, h => by
    refine Ev.step (fun k => by rw [shuttlelaw10_VarsChains.l2, if_pos (by omega), if_pos (by rw [wrap_size]; omega), if_pos (by rw [ByteArray.size_append, wrap_size]; show 1 + _ + 1 ≤ _; omega), wrap_up (by omega)]) ?_
    exact ch_l2 K hK r hr d (i + 1) (by omega)
theorem ch_end (d : Nat) (hd : d < 4) : Ev (fun k => shuttlelaw10_VarsChains.l1 k e ((d + 15 : Nat) : Int) L26 (chainL (d + 15) e) ((d + 15 + 1 : Nat) : Int)) true := by
  have hlt : d + 15 < (chainL (d + 15) e).length := by rw [chainL_length]; omega
  have hf0 : (rd_T41 (chainL (d + 15) e) ((d + 15 : Nat) : Int)).f0 = nmJ (d + 15) := by
    rw [rd_var _ _ hlt]
    simp [chainL]
  have hcp := copy_ev (chainL (d + 15) e) (by rw [chainL_length]; omega)
  have hr1 : vars_Resolve.f ((chainL (d + 15) e).set (((d + 15 : Nat) : Int)).toNat ⟨(rd_T41 (chainL (d + 15) e) ((d + 15 : Nat) : Int)).f0, ringT⟩) = some (resolveP (chainL (d + 15) ringT)) := by
    rw [hf0, Int.toNat_natCast, chainL_set, res_ev _ (chainL_small _ _ (by decide))]
  have hr2 : vars_Resolve.f ((chainL (d + 15) e).set (((d + 15 : Nat) : Int)).toNat ⟨(rd_T41 (chainL (d + 15) e) ((d + 15 : Nat) : Int)).f0, lostT⟩) = some (resolveP (chainL (d + 15) lostT)) := by
    rw [hf0, Int.toNat_natCast, chainL_set, res_ev _ (chainL_small _ _ (by decide))]
  have hk := ring_ok hd
  have a1 : (resolveP (chainL (d + 15) ringT)).2.2 = 103 := by rw [hk.1]
  have a2 : (resolveP (chainL (d + 15) ringT)).2.1 = 0 := by rw [hk.1]
  have a3 : (resolveP (chainL (d + 15) lostT)).2.2 = 102 := by rw [hk.2.1]
  have a4 : ((resolveP (chainL (d + 15) lostT)).2.1 != 0) = false := by rw [hk.2.1]; rfl
  refine Ev.step (f := fun k => shuttlelaw10_VarsChains.j2 k e ((d + 15 : Nat) : Int) (resolveP (chainL (d + 15) e)).1 (resolveP (chainL (d + 15) e)).2.1 (resolveP (chainL (d + 15) e)).2.2 false) (fun k => by
    rw [shuttlelaw10_VarsChains.l1, if_neg (by omega), hcp, Option.bind_some, res_ev _ (chainL_small _ _ hl), Option.bind_some, Option.bind_some, if_pos (by omega), if_pos (by rw [chainL_length]; omega)]
    refine (congrArg (fun x => Option.bind x _) hr1).trans ?_
    rw [Option.bind_some, Option.bind_some, if_pos (by rw [chainL_length]; omega)]
    refine (congrArg (fun x => Option.bind x _) hr2).trans ?_
    rw [Option.bind_some, if_pos a1, if_pos a2, if_pos a3, a4]) ?_
  by_cases h2 : d < 2
  · obtain ⟨r, hr, hlen⟩ := chain_le e hne hl d h2
    rw [hr]
    refine Ev.step (fun k => by rw [shuttlelaw10_VarsChains.j2, if_neg (by decide), if_neg (by omega)]) ?_
    exact ch_l2 e hl (d + 15) (by omega) r hlen (d + 15) 0 (by omega)
  · rw [chain_gt e hne hl d (by omega) hd]
    refine Ev.step (fun k => by rw [shuttlelaw10_VarsChains.j2, if_neg (by decide), if_pos (by omega), if_pos rfl, if_pos rfl]) ?_
    exact Ev.congr (fun k => if_pos rfl) (Ev.bind awake_ev (Ev.now _))
theorem ch_l1 (d : Nat) (hd : d < 4) : ∀ (m i : Nat), i + m = d + 15 + 1 → Ev (fun k => shuttlelaw10_VarsChains.l1 k e ((d + 15 : Nat) : Int) L26 ((List.range i).map fun j => (⟨nmJ j, textC (d + 15) e j⟩ : SV)) (i : Int)) true
  | 0, i, h => by
    obtain rfl : i = d + 15 + 1 := by omega
    exact ch_end e hne hl d hd
  | m + 1, i, h => by
    have hk := let_ok (j := i) (by omega)
    have w1 : wrap64 ((i : Int) + 1) = ((i + 1 : Nat) : Int) := wrap_up (by omega)
    have w2 : wrap64 ((i : Int) + 2) = ((i + 2 : Nat) : Int) := by unfold wrap64; omega
    have hz : L26.size = 26 := rfl
    have hsz : ((⟨#[60, 36, 123]⟩ : ByteArray) ++ (L26.extract (wrap64 ((i : Int) + 1)).toNat (wrap64 ((i : Int) + 2)).toNat)).size = 4 := by
      rw [ByteArray.size_append, hk.2.2]; rfl
    have ih := ch_l1 d hd m (i + 1) (by omega)
    rw [List.range_succ, List.map_append, List.map_cons, List.map_nil] at ih
    refine Ev.step (fun k => by
      rw [shuttlelaw10_VarsChains.l1, if_pos (by omega), if_pos (by omega), if_pos (by omega), if_pos (by rw [w1, hz]; omega), if_pos (by omega), if_pos (by omega), if_pos (by rw [w2, hz]; omega), if_pos (by rw [hk.2.2]; omega), if_pos (by rw [hsz]; omega)]) ?_
    by_cases he : i = d + 15
    · refine Ev.congr (fun k => by rw [if_pos (by omega), if_pos (by simp; omega), hk.1, w1]) ?_
      rw [textC, if_pos he] at ih
      exact ih
    · refine Ev.congr (fun k => by rw [if_neg (by omega), if_pos (by simp; omega), hk.1, hk.2.1, w1]) ?_
      rw [textC, if_neg he] at ih
      exact ih
end
theorem ch_l0 (a : Int) (e : ByteArray) (hs : e.size ≤ 140737488351232) : ∀ (d i : Nat), i + d = e.size → (∀ j, j < i → bt e (j : Int) ≠ 36) → Ev (fun k => shuttlelaw10_VarsChains.l0 k a e (i : Int)) true
  | 0, i, h, hn => by
    obtain rfl : i = e.size := by omega
    by_cases hb : 200 < e.size
    · refine Ev.step (fun k => by rw [shuttlelaw10_VarsChains.l0, if_neg (by omega), if_pos (by omega)]) ?_
      exact Ev.bind awake_ev (Ev.now _)
    · obtain ⟨m, hm⟩ := low_nat a
      have hw : wrap64 ((wrap64 ((Int.tmod (m : Int) 4) + 16)) - 1) = ((m % 4 + 15 : Nat) : Int) := by
        rw [show Int.tmod (m : Int) 4 = ((m % 4 : Nat) : Int) from rfl]
        unfold wrap64
        omega
      refine Ev.step (fun k => by rw [shuttlelaw10_VarsChains.l0, if_neg (by omega), if_neg (by omega), hm, Option.bind_some, hw]) ?_
      exact ch_l1 e hn (by omega) (m % 4) (Nat.mod_lt _ (by decide)) (m % 4 + 15 + 1) 0 (by omega)
  | d + 1, i, h, hn => by
    by_cases h36 : bt e (i : Int) = 36
    · refine Ev.step (fun k => by rw [shuttlelaw10_VarsChains.l0, if_pos (by omega), if_pos (by omega), if_pos h36]) ?_
      exact Ev.bind awake_ev (Ev.now _)
    · refine Ev.step (fun k => by rw [shuttlelaw10_VarsChains.l0, if_pos (by omega), if_pos (by omega), if_neg h36, wrap_up (by omega)]) ?_
      refine ch_l0 a e hs d (i + 1) (by omega) (fun j hj => ?_)
      by_cases hji : j = i
      · subst hji; exact h36
      · exact hn j (by omega)
end Go.Proofs.Ytfkibolpanlelaa.Q
namespace Go.Proofs.Ytfkibolpanlelaa.Pure
open Go.RowKit Go.Proofs.Ytfkibolpanlelaa.Q Go.Proofs.YtfkibolpanlelaaW.PrintWords Go.Proofs.YtfkibolpanlelaaW.PrintLast
theorem VarsChains : shuttlelaw10_VarsChains.Pure := fun a e _ hs => Ev.rounds (ch_l0 a e hs e.size 0 (by omega) (fun j hj => absurd hj (Nat.not_lt_zero j)))
end Go.Proofs.Ytfkibolpanlelaa.Pure
