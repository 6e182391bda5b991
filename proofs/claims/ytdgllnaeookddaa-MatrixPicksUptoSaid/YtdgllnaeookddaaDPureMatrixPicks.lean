/- Statement MatrixPicks, with no program in sight: a pick is one value of each axis that no exclude hits, or an include; each such choice is there. -/
import Derived.Test.YtdgllnaeookddaaDGBuildsAt
import Derived.Test.YtdgllnaeookddaaDGPkDefs
namespace Go.Proofs.Ytdgllnaeookddaa.Q
open Go.RowKit Go.Proofs.YtdgllnaeookddaaW.PrintWords Go.Proofs.YtdgllnaeookddaaW.PrintLast Go.Proofs.YtdgllnaeookddaaW.PrintMore
set_option linter.unusedVariables false
set_option linter.unusedSimpArgs false
theorem vg_l0 (l : List SV) (s : ByteArray) (hn : l.length ≤ 1048576) : ∀ (d i : Nat), i + d = l.length → Ev (fun k => vars_Get.l0 k s l (l.length : Int) (i : Int)) (match getV (l.drop i) s with | some x => (x, true) | none => ((⟨#[]⟩ : ByteArray), false))
  | 0, i, h => by
    refine Ev.step (fun k => by rw [vars_Get.l0, if_neg (by omega)]) ?_
    rw [List.drop_eq_nil_of_le (by omega)]
    exact Ev.now _
  | d + 1, i, h => by
    have hi : i < l.length := by omega
    refine Ev.step (fun k => by rw [vars_Get.l0, if_pos (by omega), if_pos (by omega), if_pos (by omega), rd_var l i hi, wrap_succ (n := l.length) (by omega) (by omega) (by omega)]) ?_
    rw [List.drop_eq_getElem_cons hi]
    unfold getV
    by_cases he : l[i].f0.toList = s.toList
    · rw [if_pos he]
      exact Ev.congr (fun k => by rw [if_pos he]) (Ev.now _)
    · rw [if_neg he]
      exact Ev.congr (fun k => by rw [if_neg he]; rfl) (vg_l0 l s hn d (i + 1) (by omega))
theorem vg_ev (l : List SV) (s : ByteArray) (hn : l.length ≤ 1048576) : Ev (fun k => vars_Get.f k l s) (match getV l s with | some x => (x, true) | none => ((⟨#[]⟩ : ByteArray), false)) := vg_l0 l s hn l.length 0 (by omega)
theorem lh_l0 (x p : List SV) (hx : x.length ≤ 1048576) (hp : p.length ≤ 1048576) : ∀ (d i : Nat), i + d = x.length → Ev (fun k => shuttlelaw13_hits.l0 k x p (i : Int)) ((x.drop i).all (hasV p))
  | 0, i, h => by
    refine Ev.step (fun k => by rw [shuttlelaw13_hits.l0, if_neg (by omega)]) ?_
    rw [List.drop_eq_nil_of_le (by omega)]
    exact Ev.now _
  | d + 1, i, h => by
    have hi : i < x.length := by omega
    refine Ev.step (fun k => by rw [shuttlelaw13_hits.l0, if_pos (by omega), if_pos (by omega), rd_var x i hi, wrap_succ (n := x.length) (by omega) (by omega) (by omega)]) ?_
    refine Ev.bind (vg_ev p _ hp) ?_
    rw [List.drop_eq_getElem_cons hi, List.all_cons]
    have ih := lh_l0 x p hx hp d (i + 1) (by omega)
    unfold hasV
    cases getV p x[i].f0 with
    | none => exact Ev.now _
    | some y =>
      by_cases he : y.toList = x[i].f1.toList
      · refine Ev.congr (fun k => by rw [if_pos rfl, if_pos he]) ?_
        show Ev _ ((y.toList == x[i].f1.toList) && _)
        rw [he, beq_self_eq_true, Bool.true_and]
        exact ih
      · refine Ev.congr (fun k => by rw [if_pos rfl, if_neg he]) ?_
        show Ev _ ((y.toList == x[i].f1.toList) && _)
        rw [show (y.toList == x[i].f1.toList) = false from beq_eq_false_iff_ne.2 he]
        exact Ev.now _
def lawHits (x p : List SV) : Bool := x.all (hasV p)
theorem lh_ev (x p : List SV) (hx : x.length ≤ 1048576) (hp : p.length ≤ 1048576) : Ev (fun k => shuttlelaw13_hits.f k x p) (lawHits x p) := by
  have := lh_l0 x p hx hp x.length 0 (by omega)
  rwa [List.drop_zero] at this
theorem lawHits_eq (x p : List SV) (hd : dupB (p.map (·.f0)) = false) : lawHits x p = holdsB x p := by
  unfold lawHits holdsB
  congr 1
  funext v
  exact hasV_eq v p hd
def sameR : List SV → List SV → Bool
  | [], [] => true
  | a :: r, b :: s => (a.f0.toList == b.f0.toList && a.f1.toList == b.f1.toList) && sameR r s
  | _, _ => false
theorem sameR_self : ∀ l : List SV, sameR l l = true
  | [] => rfl
  | a :: r => by simp [sameR, sameR_self r]
theorem sameR_len : ∀ a b : List SV, a.length ≠ b.length → sameR a b = false
  | [], [], h => absurd rfl h
  | [], b :: s, h => rfl
  | a :: r, [], h => rfl
  | a :: r, b :: s, h => by
    have := sameR_len r s (by simpa using h)
    simp [sameR, this]
theorem sv_l0 (a b : List SV) (hl : a.length = b.length) (hn : a.length ≤ 1048576) : ∀ (d i : Nat), i + d = a.length → Ev (fun k => shuttlelaw0_SameVars.l0 k a b (i : Int)) (sameR (a.drop i) (b.drop i))
  | 0, i, h => by
    refine Ev.step (fun k => by rw [shuttlelaw0_SameVars.l0, if_neg (by omega)]) ?_
    rw [List.drop_eq_nil_of_le (by omega), List.drop_eq_nil_of_le (by omega)]
    exact Ev.now _
  | d + 1, i, h => by
    have hi : i < a.length := by omega
    have hj : i < b.length := by omega
    refine Ev.step (fun k => by rw [shuttlelaw0_SameVars.l0, if_pos (by omega), if_pos (by omega), if_pos (by omega), rd_var a i hi, rd_var b i hj, wrap_succ (n := a.length) (by omega) (by omega) (by omega)]) ?_
    rw [List.drop_eq_getElem_cons hi, List.drop_eq_getElem_cons hj]
    show Ev _ ((a[i].f0.toList == b[i].f0.toList && a[i].f1.toList == b[i].f1.toList) && _)
    cases h1 : a[i].f0.toList == b[i].f0.toList with
    | false => exact Ev.congr (fun k => by rw [if_pos (by simp)]; rfl) (Ev.now _)
    | true =>
      cases h2 : a[i].f1.toList == b[i].f1.toList with
      | false => exact Ev.congr (fun k => by rw [if_pos (by simp)]; rfl) (Ev.now _)
      | true => exact Ev.congr (fun k => by rw [if_neg (by simp)]; rfl) (sv_l0 a b hl hn d (i + 1) (by omega))
theorem sv_ev (a b : List SV) (hn : a.length ≤ 1048576) : Ev (fun k => shuttlelaw0_SameVars.f k a b) (sameR a b) := by
  unfold shuttlelaw0_SameVars.f
  by_cases hl : a.length = b.length
  · exact Ev.congr (fun k => by rw [if_pos (by omega)]; rfl) (sv_l0 a b hl hn a.length 0 (by omega))
  · rw [sameR_len a b hl]
    exact Ev.congr (fun k => by rw [if_neg (by omega)]) (Ev.now _)
/-- One value of each axis, from place k on. -/
def ofAx : List SX → List SV → Bool
  | [], [] => true
  | a :: r, v :: s => (v.f0.toList == a.f0.toList && a.f1.any fun t => t.toList == v.f1.toList) && ofAx r s
  | _, _ => false
theorem ofAx_pick : ∀ (axes : AX) (ds : List Nat), ds.length = axes.length → (∀ k (h : k < axes.length), ds.getD k 0 < axes[k].f1.length) → ofAx axes (pickOf axes ds) = true
  | [], [], _, _ => rfl
  | [], d :: ds, h, _ => by simp at h
  | a :: r, [], h, _ => by simp at h
  | a :: r, d :: ds, h, hd => by
    have ih := ofAx_pick r ds (by simpa using h) (fun k hk => hd (k + 1) (Nat.succ_lt_succ hk))
    have h0 : d < a.f1.length := hd 0 (Nat.succ_pos _)
    show ((a.f0.toList == a.f0.toList && a.f1.any fun t => t.toList == (a.f1.getD d ByteArray.empty).toList) && ofAx r (pickOf r ds)) = true
    rw [ih, beq_self_eq_true, Bool.true_and, Bool.and_true, List.any_eq_true]
    exact ⟨a.f1[d], List.getElem_mem h0, by simp [h0]⟩
theorem digitsR_add : ∀ (r : List Nat) (m n : Nat), (∀ k ∈ r, 0 < k) → digitsR r (m * prodL r + n) = digitsR r n
  | [], m, n, _ => rfl
  | k :: r, m, n, h => by
    have hr : ∀ x ∈ r, 0 < x := fun x hx => h x (by simp [hx])
    have hp := prodL_pos hr
    have e : m * prodL (k :: r) + n = (m * k) * prodL r + n := by rw [show prodL (k :: r) = k * prodL r from rfl, Nat.mul_assoc]
    rw [e]
    unfold digitsR
    rw [digitsR_add r (m * k) n hr]
    congr 1
    rw [Nat.mul_comm (m * k), Nat.mul_add_div hp, Nat.mul_comm m k, Nat.mul_add_mod]
theorem digits_all : ∀ (ls ds : List Nat), ds.length = ls.length → (∀ k, k < ls.length → ds.getD k 0 < ls.getD k 0) → ∃ n, n < prodL ls ∧ digitsR ls n = ds
  | [], [], _, _ => ⟨0, by decide, rfl⟩
  | [], d :: ds, h, _ => by simp at h
  | k :: r, [], h, _ => by simp at h
  | k :: r, d :: ds, h, hd => by
    obtain ⟨n, hn, he⟩ := digits_all r ds (by simpa using h) (fun j hj => by simpa using hd (j + 1) (by simpa using hj))
    have h0 : d < k := by simpa using hd 0 (by simp)
    have hr : ∀ x ∈ r, 0 < x := by
      intro x hx
      obtain ⟨j, hj, rfl⟩ := List.getElem_of_mem hx
      have := hd (j + 1) (by simpa using hj)
      have e : (k :: r).getD (j + 1) 0 = r[j] := by simp [hj]
      rw [e] at this
      omega
    have hp := prodL_pos hr
    refine ⟨d * prodL r + n, ?_, ?_⟩
    · show d * prodL r + n < k * prodL r
      have : (d + 1) * prodL r ≤ k * prodL r := Nat.mul_le_mul_right _ h0
      rw [Nat.succ_mul] at this
      omega
    · unfold digitsR
      rw [digitsR_add r d n hr, he, Nat.mul_comm d, Nat.mul_add_div hp, Nat.div_eq_of_lt hn, Nat.add_zero, Nat.mod_eq_of_lt h0]
theorem addInc_keeps : ∀ (l o : List (List SV)) (p : List SV), p ∈ o → p ∈ addInc o l
  | [], o, p, h => h
  | x :: r, o, p, h => by
    refine addInc_keeps r _ p ?_
    split
    · exact h
    · exact List.mem_append_left _ h
section
variable (axes : AX) (inc exc : List (List SV)) (choice : List Int) (ps : List (List SV))
def qAt (a : SX) (v : SV) : Bool := v.f0.toList == a.f0.toList && a.f1.any fun t => t.toList == v.f1.toList
theorem mp_l2 (ht : Tiny axes inc exc) (i : Nat) (hi : i < ps.length) (k0 : Nat) (hk : k0 < axes.length) (hp : k0 < ps[i].length) (R : Bool)
    (hK : Ev (fun k => shuttlelaw13_MatrixPicks.l1 k choice ps (i : Int) (qAt axes[k0] ps[i][k0]) (wrap64 ((k0 : Int) + 1)) axes inc exc) R) :
    ∀ (d v : Nat) (b : Bool), v + d = axes[k0].f1.length → (b || (axes[k0].f1.drop v).any fun t => t.toList == ps[i][k0].f1.toList) = (axes[k0].f1.any fun t => t.toList == ps[i][k0].f1.toList) →
      Ev (fun k => shuttlelaw13_MatrixPicks.l2 k choice ps (i : Int) (k0 : Int) b (v : Int) axes inc exc) R
  | 0, v, b, h, hb => by
    refine Ev.step (fun k => by rw [shuttlelaw13_MatrixPicks.l2, if_pos (by omega), if_pos (by omega), rd_axis axes k0 hk, if_neg (by omega), if_pos (by omega), if_pos (by omega), rd_row ps i hi, if_pos (by omega), rd_var ps[i] k0 hp]) ?_
    rw [List.drop_eq_nil_of_le (by omega)] at hb
    have hbb : b = (axes[k0].f1.any fun t => t.toList == ps[i][k0].f1.toList) := by rw [← hb]; simp
    unfold qAt at hK
    rw [← hbb] at hK
    by_cases he : ps[i][k0].f0.toList = axes[k0].f0.toList
    · refine Ev.congr (fun k => by rw [if_pos he]) ?_
      rwa [he, beq_self_eq_true, Bool.true_and] at hK
    · refine Ev.congr (fun k => by rw [if_neg he]) ?_
      rwa [show (ps[i][k0].f0.toList == axes[k0].f0.toList) = false from beq_eq_false_iff_ne.2 he, Bool.false_and] at hK
  | d + 1, v, b, h, hb => by
    have hv : v < axes[k0].f1.length := by omega
    have hl := ht.l0 _ (List.getElem_mem hk)
    refine Ev.step (fun k => by rw [shuttlelaw13_MatrixPicks.l2, if_pos (by omega), if_pos (by omega), rd_axis axes k0 hk, if_pos (by omega), wrap_succ (n := axes[k0].f1.length) (by omega) (by omega) (by omega)]) ?_
    cases b with
    | true =>
      refine Ev.congr (fun k => by rw [if_pos rfl]) ?_
      exact mp_l2 ht i hi k0 hk hp R hK d (v + 1) true (by omega) (by rw [Bool.true_or] at hb ⊢; exact hb)
    | false =>
      refine Ev.congr (fun k => by rw [if_neg (by decide), if_pos (by omega), if_pos (by omega), if_pos (by omega), rd_row ps i hi, if_pos (by omega), rd_var ps[i] k0 hp, rd_str axes[k0].f1 v hv]) ?_
      refine mp_l2 ht i hi k0 hk hp R hK d (v + 1) _ (by omega) ?_
      rw [Bool.false_or, List.drop_eq_getElem_cons hv, List.any_cons] at hb
      exact hb
def of1 (p : List SV) : Bool := decide (p.length = axes.length) && ofAx axes p
theorem mp_l1 (ht : Tiny axes inc exc) (i : Nat) (hi : i < ps.length) (hl : ps[i].length = axes.length) (R : Bool)
    (hK : Ev (fun k => shuttlelaw13_MatrixPicks.l3 k choice ps (i : Int) (ofAx axes ps[i]) 0 axes inc exc) R) :
    ∀ (d k0 : Nat) (b : Bool), k0 + d = axes.length → (b && ofAx (axes.drop k0) (ps[i].drop k0)) = ofAx axes ps[i] → Ev (fun k => shuttlelaw13_MatrixPicks.l1 k choice ps (i : Int) b (k0 : Int) axes inc exc) R
  | d, k0, false, h, hb => by
    refine Ev.step (fun k => by rw [shuttlelaw13_MatrixPicks.l1, if_neg (by decide)]) ?_
    refine Ev.step (fun k => by rw [shuttlelaw13_MatrixPicks.j2, if_neg (by decide)]) ?_
    rw [← hb, Bool.false_and] at hK
    exact hK
  | 0, k0, true, h, hb => by
    refine Ev.step (fun k => by rw [shuttlelaw13_MatrixPicks.l1, if_pos rfl, if_pos (by omega), if_pos (by omega), rd_row ps i hi]) ?_
    refine Ev.step (fun k => by rw [shuttlelaw13_MatrixPicks.j2, if_neg (by simp; omega)]) ?_
    rw [List.drop_eq_nil_of_le (by omega), List.drop_eq_nil_of_le (by omega)] at hb
    rw [← hb] at hK
    exact hK
  | d + 1, k0, true, h, hb => by
    have hk : k0 < axes.length := by omega
    have hp : k0 < ps[i].length := by omega
    have n0 := ht.n0
    refine Ev.step (fun k => by rw [shuttlelaw13_MatrixPicks.l1, if_pos rfl, if_pos (by omega), if_pos (by omega), rd_row ps i hi]) ?_
    refine Ev.step (fun k => by rw [shuttlelaw13_MatrixPicks.j2, if_pos (by simp; omega)]) ?_
    rw [List.drop_eq_getElem_cons hk, List.drop_eq_getElem_cons hp] at hb
    have ih := mp_l1 ht i hi hl R hK d (k0 + 1) (qAt axes[k0] ps[i][k0]) (by omega) (by rw [Bool.true_and] at hb; exact hb)
    exact mp_l2 axes inc exc choice ps ht i hi k0 hk hp R (Ev.congr (fun k => by rw [wrap_succ (n := axes.length) (by omega) (by omega) (by omega)]; rfl) ih) axes[k0].f1.length 0 false (by omega) (by simp)
theorem mp_l1' (ht : Tiny axes inc exc) (i : Nat) (hi : i < ps.length) (R : Bool)
    (hK : Ev (fun k => shuttlelaw13_MatrixPicks.l3 k choice ps (i : Int) (of1 axes ps[i]) 0 axes inc exc) R) : Ev (fun k => shuttlelaw13_MatrixPicks.l1 k choice ps (i : Int) (((ps[i].length : Int)) == (axes.length : Int)) 0 axes inc exc) R := by
  unfold of1 at hK
  by_cases hl : ps[i].length = axes.length
  · rw [show (((ps[i].length : Int)) == (axes.length : Int)) = true by simp [hl]]
    rw [decide_eq_true hl, Bool.true_and] at hK
    exact mp_l1 axes inc exc choice ps ht i hi hl R hK axes.length 0 true (by omega) (by simp)
  · rw [show (((ps[i].length : Int)) == (axes.length : Int)) = false by simp; omega]
    rw [decide_eq_false hl, Bool.false_and] at hK
    refine Ev.step (fun k => by rw [shuttlelaw13_MatrixPicks.l1, if_neg (by decide)]) ?_
    refine Ev.step (fun k => by rw [shuttlelaw13_MatrixPicks.j2, if_neg (by decide)]) ?_
    exact hK
theorem mp_l3 (ht : Tiny axes inc exc) (i : Nat) (hi : i < ps.length) (hp : ps[i].length ≤ 1048576) (of2 R : Bool)
    (hK : Ev (fun k => shuttlelaw13_MatrixPicks.l4 k choice ps (i : Int) of2 0 axes inc exc) R) :
    ∀ (d j : Nat) (b : Bool), j + d = exc.length → (b && !((exc.drop j).any fun x => lawHits x ps[i])) = of2 → Ev (fun k => shuttlelaw13_MatrixPicks.l3 k choice ps (i : Int) b (j : Int) axes inc exc) R
  | 0, j, b, h, hb => by
    refine Ev.step (fun k => by rw [shuttlelaw13_MatrixPicks.l3, if_neg (by omega)]) ?_
    rw [List.drop_eq_nil_of_le (by omega)] at hb
    have : b = of2 := by rw [← hb]; simp
    rw [this]
    exact hK
  | d + 1, j, b, h, hb => by
    have hj : j < exc.length := by omega
    have n2 := ht.n2
    have hl := ht.l2 _ (List.getElem_mem hj)
    refine Ev.step (fun k => by rw [shuttlelaw13_MatrixPicks.l3, if_pos (by omega), wrap_succ (n := exc.length) (by omega) (by omega) (by omega)]) ?_
    rw [List.drop_eq_getElem_cons hj, List.any_cons] at hb
    cases b with
    | true =>
      refine Ev.congr (fun k => by rw [if_pos rfl, if_pos (by omega), if_pos (by omega), if_pos (by omega), rd_row exc j hj, rd_row ps i hi]) ?_
      refine Ev.bind (lh_ev exc[j] ps[i] hl hp) ?_
      refine mp_l3 ht i hi hp of2 R hK d (j + 1) _ (by omega) ?_
      rw [← hb]
      cases lawHits exc[j] ps[i] <;> simp
    | false =>
      refine Ev.congr (fun k => by rw [if_neg (by decide)]) ?_
      exact mp_l3 ht i hi hp of2 R hK d (j + 1) false (by omega) (by rw [← hb]; simp)
theorem mp_l4 (ht : Tiny axes inc exc) (i : Nat) (hi : i < ps.length) (hp : ps[i].length ≤ 1048576)
    (hK : Ev (fun k => shuttlelaw13_MatrixPicks.l0 k choice ps (wrap64 ((i : Int) + 1)) axes inc exc) true) :
    ∀ (d j : Nat) (b : Bool), j + d = inc.length → (b || (inc.drop j).any fun x => sameR x ps[i]) = true → Ev (fun k => shuttlelaw13_MatrixPicks.l4 k choice ps (i : Int) b (j : Int) axes inc exc) true
  | 0, j, b, h, hb => by
    refine Ev.step (fun k => by rw [shuttlelaw13_MatrixPicks.l4, if_neg (by omega)]) ?_
    rw [List.drop_eq_nil_of_le (by omega)] at hb
    have : b = true := by rw [← hb]; simp
    rw [this]
    exact Ev.congr (fun k => by rw [if_pos rfl]) hK
  | d + 1, j, b, h, hb => by
    have hj : j < inc.length := by omega
    have n1 := ht.n1
    have hl := ht.l1 _ (List.getElem_mem hj)
    refine Ev.step (fun k => by rw [shuttlelaw13_MatrixPicks.l4, if_pos (by omega), wrap_succ (n := inc.length) (by omega) (by omega) (by omega)]) ?_
    rw [List.drop_eq_getElem_cons hj, List.any_cons] at hb
    cases b with
    | true =>
      refine Ev.congr (fun k => by rw [if_pos rfl]) ?_
      exact mp_l4 ht i hi hp hK d (j + 1) true (by omega) (by simp)
    | false =>
      refine Ev.congr (fun k => by rw [if_neg (by decide), if_pos (by omega), if_pos (by omega), if_pos (by omega), rd_row inc j hj, rd_row ps i hi]) ?_
      refine Ev.bind (sv_ev inc[j] ps[i] hl) ?_
      exact mp_l4 ht i hi hp hK d (j + 1) _ (by omega) (by rw [Bool.false_or] at hb; exact hb)
def of3 (p : List SV) : Bool := (of1 axes p && !(exc.any fun x => lawHits x p)) || inc.any fun x => sameR x p
theorem mp_l0 (ht : Tiny axes inc exc) (hn : ps.length ≤ 1048576) (hp : ∀ p, p ∈ ps → p.length ≤ 1048576) (hof : ∀ p, p ∈ ps → of3 axes inc exc p = true)
    (hK : Ev (fun k => shuttlelaw13_MatrixPicks.l5 k choice ps [] 0 axes inc exc) true) : ∀ (d i : Nat), i + d = ps.length → Ev (fun k => shuttlelaw13_MatrixPicks.l0 k choice ps (i : Int) axes inc exc) true
  | 0, i, h => by
    refine Ev.step (fun k => by rw [shuttlelaw13_MatrixPicks.l0, if_neg (by omega)]) ?_
    exact hK
  | d + 1, i, h => by
    have hi : i < ps.length := by omega
    refine Ev.step (fun k => by rw [shuttlelaw13_MatrixPicks.l0, if_pos (by omega), if_pos (by omega), rd_row ps i hi]) ?_
    have ih := mp_l0 ht hn hp hof hK d (i + 1) (by omega)
    have hm := List.getElem_mem hi
    have ho := hof _ hm
    unfold of3 at ho
    refine mp_l1' axes inc exc choice ps ht i hi true ?_
    refine mp_l3 axes inc exc choice ps ht i hi (hp _ hm) (of1 axes ps[i] && !(exc.any fun x => lawHits x ps[i])) true ?_ exc.length 0 _ (by omega) (by simp)
    exact mp_l4 axes inc exc choice ps ht i hi (hp _ hm) (Ev.congr (fun k => by rw [wrap_succ (n := ps.length) (by omega) (by omega) (by omega)]; rfl) ih) inc.length 0 _ (by omega) (by simpa using ho)
theorem mp_l7 (one : List SV) (hn : ps.length ≤ 1048576) (hp : ∀ p, p ∈ ps → p.length ≤ 1048576) (out : Bool) : ∀ (d j : Nat) (b : Bool), j + d = ps.length → (out || (b || (ps.drop j).any fun p => sameR p one)) = true → Ev (fun k => shuttlelaw13_MatrixPicks.l7 k ps one out b (j : Int)) true
  | 0, j, b, h, hb => by
    refine Ev.step (fun k => by rw [shuttlelaw13_MatrixPicks.l7, if_neg (by omega)]) ?_
    rw [List.drop_eq_nil_of_le (by omega)] at hb
    cases out with
    | true => exact Ev.congr (fun k => by rw [if_pos rfl]; rfl) (Ev.now _)
    | false =>
      have : b = true := by simpa using hb
      rw [this]
      exact Ev.congr (fun k => by rw [if_neg (by decide), if_pos rfl]; rfl) (Ev.now _)
  | d + 1, j, b, h, hb => by
    have hj : j < ps.length := by omega
    refine Ev.step (fun k => by rw [shuttlelaw13_MatrixPicks.l7, if_pos (by omega), wrap_succ (n := ps.length) (by omega) (by omega) (by omega)]) ?_
    rw [List.drop_eq_getElem_cons hj, List.any_cons] at hb
    cases b with
    | true =>
      refine Ev.congr (fun k => by rw [if_pos rfl]) ?_
      exact mp_l7 one hn hp out d (j + 1) true (by omega) (by simp)
    | false =>
      refine Ev.congr (fun k => by rw [if_neg (by decide), if_pos (by omega), rd_row ps j hj]) ?_
      refine Ev.bind (sv_ev ps[j] one (hp _ (List.getElem_mem hj))) ?_
      exact mp_l7 one hn hp out d (j + 1) _ (by omega) (by rw [Bool.false_or] at hb; exact hb)
theorem mp_l6 (ht : Tiny axes inc exc) (one : List SV) (ho : one.length ≤ 1048576) (hn : ps.length ≤ 1048576) (hp : ∀ p, p ∈ ps → p.length ≤ 1048576) (out : Bool) (hT : (out || ps.any fun p => sameR p one) = true) :
    ∀ (d j : Nat) (b : Bool), j + d = exc.length → (b || (exc.drop j).any fun x => lawHits x one) = out → Ev (fun k => shuttlelaw13_MatrixPicks.l6 k ps one b false (j : Int) axes inc exc) true
  | 0, j, b, h, hb => by
    refine Ev.step (fun k => by rw [shuttlelaw13_MatrixPicks.l6, if_neg (by omega)]) ?_
    rw [List.drop_eq_nil_of_le (by omega)] at hb
    have : b = out := by rw [← hb]; simp
    rw [this]
    exact mp_l7 ps one hn hp out ps.length 0 false (by omega) (by simpa using hT)
  | d + 1, j, b, h, hb => by
    have hj : j < exc.length := by omega
    have n2 := ht.n2
    have hl := ht.l2 _ (List.getElem_mem hj)
    refine Ev.step (fun k => by rw [shuttlelaw13_MatrixPicks.l6, if_pos (by omega), wrap_succ (n := exc.length) (by omega) (by omega) (by omega)]) ?_
    rw [List.drop_eq_getElem_cons hj, List.any_cons] at hb
    cases b with
    | true =>
      refine Ev.congr (fun k => by rw [if_pos rfl]) ?_
      exact mp_l6 ht one ho hn hp out hT d (j + 1) true (by omega) (by rw [← hb]; simp)
    | false =>
      refine Ev.congr (fun k => by rw [if_neg (by decide), if_pos (by omega), rd_row exc j hj]) ?_
      refine Ev.bind (lh_ev exc[j] one hl ho) ?_
      exact mp_l6 ht one ho hn hp out hT d (j + 1) _ (by omega) (by rw [Bool.false_or] at hb; exact hb)
end
theorem pk_low (x : Int) : ∃ m : Nat, shuttlelaw0_Low.f x = some (m : Int) := by
  refine ⟨(BitVec.ofInt 64 x &&& BitVec.ofInt 64 9223372036854775807).toNat, ?_⟩
  have h : (BitVec.ofInt 64 x &&& BitVec.ofInt 64 9223372036854775807).toNat ≤ 9223372036854775807 := by
    rw [BitVec.toNat_and]
    exact Nat.and_le_right
  unfold shuttlelaw0_Low.f
  congr 1
  show IntKind.wrap .i64 (((BitVec.ofInt 64 x &&& BitVec.ofInt 64 9223372036854775807).toNat : Nat) : Int) = _
  simp only [i64_w]
  generalize (BitVec.ofInt 64 x &&& BitVec.ofInt 64 9223372036854775807).toNat = m at h
  unfold wrap64
  omega
theorem pickOf_snoc (axes : AX) (ds : List Nat) (k0 e : Nat) (hk : k0 < axes.length) (hl : ds.length = k0) :
    pickOf (axes.take (k0 + 1)) (ds ++ [e]) = pickOf (axes.take k0) ds ++ [(⟨axes[k0].f0, axes[k0].f1.getD e ByteArray.empty⟩ : SV)] := by
  rw [List.take_succ_eq_append_getElem hk]
  unfold pickOf
  rw [List.zipWith_append (by rw [List.length_take]; omega)]
  rfl
section
variable (axes : AX) (inc exc : List (List SV)) (choice : List Int) (ps : List (List SV))
theorem mp_j7 (x : List SV) (i : Int) : Ev (fun k => shuttlelaw13_MatrixPicks.j7 k choice ps x i true axes inc exc) true := by
  refine Ev.step (fun k => by rw [shuttlelaw13_MatrixPicks.j7, if_pos rfl]) ?_
  exact Ev.now _
theorem mp_l5 (ht : Tiny axes inc exc) (h8 : axes.length ≤ 8) (hK : ∀ ds : List Nat, 0 < axes.length → ds.length = axes.length → (∀ k (h : k < axes.length), ds.getD k 0 < axes[k].f1.length) → Ev (fun k => shuttlelaw13_MatrixPicks.l6 k ps (pickOf axes ds) false false 0 axes inc exc) true) :
    ∀ (d k0 : Nat) (ds : List Nat), k0 + d = axes.length → ds.length = k0 → (∀ k (h : k < axes.length), k < k0 → ds.getD k 0 < axes[k].f1.length) → Ev (fun k => shuttlelaw13_MatrixPicks.l5 k choice ps (pickOf (axes.take k0) ds) (k0 : Int) axes inc exc) true
  | 0, k0, ds, h, hl, hd => by
    refine Ev.step (fun k => by rw [shuttlelaw13_MatrixPicks.l5, if_neg (by omega)]) ?_
    rw [List.take_of_length_le (by omega)]
    have hpl := pickOf_length axes ds (by omega)
    by_cases h0 : axes.length = 0
    · exact Ev.congr (fun k => by rw [if_pos (by omega)]; rfl) (Ev.now _)
    · refine Ev.congr (fun k => by rw [if_neg (by omega)]) ?_
      exact hK ds (by omega) (by omega) (fun k hk => hd k hk (by omega))
  | d + 1, k0, ds, h, hl, hd => by
    have hk : k0 < axes.length := by omega
    have hfl := ht.l0 _ (List.getElem_mem hk)
    refine Ev.step (fun k => by rw [shuttlelaw13_MatrixPicks.l5, if_pos (by omega), if_pos (by omega), rd_axis axes k0 hk]) ?_
    by_cases hz : axes[k0].f1.length = 0
    · exact Ev.congr (fun k => by rw [if_pos (by omega)]) (mp_j7 axes inc exc choice ps _ _)
    · refine Ev.congr (fun k => by rw [if_neg (by omega)]) ?_
      by_cases hc : choice.length ≤ k0
      · rw [decide_eq_true (show (k0 : Int) ≥ (choice.length : Int) by omega)]
        exact mp_j7 axes inc exc choice ps _ _
      · rw [decide_eq_false (show ¬ (k0 : Int) ≥ (choice.length : Int) by omega)]
        obtain ⟨m, hm⟩ := pk_low (rd choice (k0 : Int))
        have hml := Nat.mod_lt m (show 0 < axes[k0].f1.length by omega)
        have e2 : Int.tmod (m : Int) (axes[k0].f1.length : Int) = ((m % axes[k0].f1.length : Nat) : Int) := rfl
        have e5 : rdOf ByteArray.empty axes[k0].f1 ((m % axes[k0].f1.length : Nat) : Int) = axes[k0].f1.getD (m % axes[k0].f1.length) ByteArray.empty := by unfold rdOf; rw [Int.toNat_natCast]
        have hpl : (pickOf (axes.take k0) ds).length = k0 := by
          rw [pickOf_length _ _ (by rw [List.length_take]; omega), List.length_take]
          omega
        have ih := mp_l5 ht h8 hK d (k0 + 1) (ds ++ [m % axes[k0].f1.length]) (by omega) (by simp [hl]) (fun k hk2 hlt => by
          by_cases he : k = k0
          · subst he
            have : (ds ++ [m % axes[k].f1.length]).getD k 0 = m % axes[k].f1.length := by
              rw [List.getD_eq_getElem?_getD, List.getElem?_append_right (by omega), hl]
              simp
            rw [this]
            exact hml
          · have : (ds ++ [m % axes[k0].f1.length]).getD k 0 = ds.getD k 0 := by
              rw [List.getD_eq_getElem?_getD, List.getElem?_append_left (by omega), ← List.getD_eq_getElem?_getD]
            rw [this]
            exact hd k hk2 (by omega))
        rw [pickOf_snoc axes ds k0 _ hk hl] at ih
        refine Ev.step (fun k => by rw [shuttlelaw13_MatrixPicks.j7, if_neg (by decide), if_pos (by omega), if_pos (by omega), if_pos (by omega), hm, Option.bind_some, rd_axis axes k0 hk, if_neg (by omega), e2, if_pos (by omega), if_pos (by omega), if_pos (by omega), e5, wrap_succ (n := axes.length) (by omega) (by omega) (by omega)]) ?_
        exact ih
end
theorem picks_ev (axes : AX) (inc exc : List (List SV)) (choice : List Int) (ht : Tiny axes inc exc) : Ev (fun k => shuttlelaw13_MatrixPicks.f k axes inc exc choice) true := by
  unfold shuttlelaw13_MatrixPicks.f
  refine Ev.bind (cm_ev axes inc exc ht) ?_
  have hbf : matrix_Build.f axes inc exc = some (buildP axes inc exc) := by
    refine if_pos ?_
    rw [tiny_small ht, Bool.true_and, List.all_eq_true]
    exact fun x hx => decide_eq_true (Nat.le_trans (ht.l1 x hx) (by omega))
  refine Ev.congr (fun k => by rw [hbf, Option.bind_some]) ?_
  obtain ⟨hfn, hfp⟩ := few_build ht
  by_cases hz : checkI axes inc exc = 0
  case neg =>
    have e : (buildP axes inc exc).2.2 = checkI axes inc exc := by unfold buildP; rw [if_neg hz]
    exact Ev.congr (fun k => by rw [e, if_neg hz]; rfl) (Ev.now _)
  case pos =>
    by_cases hbig : 256 < countI axes inc exc
    · have e : (buildP axes inc exc).2.2 = 132 := by unfold buildP; rw [if_pos hz, if_pos hbig]
      exact Ev.congr (fun k => by rw [e, if_neg (by decide)]; rfl) (Ev.now _)
    · have e : (buildP axes inc exc).2.2 = 0 := by
        unfold buildP
        rw [if_pos hz, if_neg hbig]
        split <;> rfl
      refine Ev.congr (fun k => by rw [e, if_pos rfl]) ?_
      obtain ⟨h8, hd, hi⟩ := fine_of hz
      have hent : entriesB exc = true := by
        have hz2 := hz
        rw [check_same] at hz2
        unfold checkR at hz2
        split at hz2
        · omega
        · rename_i hn
          cases hx : entriesB exc with
          | true => rfl
          | false => exact absurd (.inr (.inr hx)) hn
      have hps : (buildP axes inc exc).1 = if axes.length = 0 ∧ inc.length = 0 then [[]] else addInc (keptP axes exc) inc := by
        unfold buildP
        rw [if_pos hz, if_neg hbig]
        split <;> rfl
      rw [hps] at hfn hfp ⊢
      generalize hPS : (if axes.length = 0 ∧ inc.length = 0 then [[]] else addInc (keptP axes exc) inc) = ps at hfn hfp ⊢
      have hof : ∀ p, p ∈ ps → of3 axes inc exc p = true := by
        intro p hp
        unfold of3
        subst hPS
        split at hp
        · rename_i hb0
          rw [List.mem_singleton.1 hp]
          have h0 : axes = [] := List.length_eq_zero_iff.1 hb0.1
          have h1 : of1 axes ([] : List SV) = true := by rw [h0]; rfl
          have h2 : (exc.any fun x => lawHits x []) = false := by
            rw [← Bool.not_eq_true, List.any_eq_true]
            rintro ⟨x, hx, hh⟩
            have := List.all_eq_true.1 hent x hx
            rw [Bool.and_eq_true, decide_eq_true_eq] at this
            unfold lawHits at hh
            rw [List.all_eq_true] at hh
            have h3 := hh x[0] (List.getElem_mem this.1)
            cases h3
          rw [h1, h2]
          rfl
        · rcases addInc_mem _ _ p hp with h | h
          · have hu := kept_uniq h8 hd exc p h
            unfold keptP at h
            obtain ⟨ha, hh⟩ := List.mem_filter.1 h
            rw [allPicks_eq] at ha
            obtain ⟨n, hn, rfl⟩ := List.mem_map.1 ha
            have hnm := List.mem_range.1 hn
            have hlb : leftB axes = true := by rw [many_pos]; simp; omega
            have hlen : (digitsR (lens axes) n).length = axes.length := by rw [digitsR_length, lens_length]
            have h1 : of1 axes (pickOf axes (digitsR (lens axes) n)) = true := by
              unfold of1
              rw [decide_eq_true (pickOf_length _ _ hlen), Bool.true_and]
              refine ofAx_pick axes _ hlen (fun k hk => ?_)
              have := digits_lt (leftB_pos hlb).2 n k (by rw [lens_length]; exact hk)
              have e2 : (lens axes).getD k 0 = axes[k].f1.length := by simp [lens, hk]
              rwa [e2] at this
            have h2 : (exc.any fun x => lawHits x (pickOf axes (digitsR (lens axes) n))) = false := by
              have e3 : (exc.any fun x => lawHits x (pickOf axes (digitsR (lens axes) n))) = hitB exc (pickOf axes (digitsR (lens axes) n)) := by
                unfold hitB
                congr 1
                funext x
                exact lawHits_eq x _ hu.1
              rw [e3]
              simpa using hh
            rw [h1, h2]
            rfl
          · have : (inc.any fun x => sameR x p) = true := List.any_eq_true.2 ⟨p, h, sameR_self p⟩
            rw [this, Bool.or_true]
      have h5 := mp_l5 axes inc exc choice ps ht h8 (fun ds h0 hl hb => by
        have hdl : ds.length = (lens axes).length := by rw [lens_length]; exact hl
        have hbd : ∀ k, k < (lens axes).length → ds.getD k 0 < (lens axes).getD k 0 := fun k hk => by
          rw [lens_length] at hk
          have e2 : (lens axes).getD k 0 = axes[k].f1.length := by simp [lens, hk]
          rw [e2]
          exact hb k hk
        obtain ⟨n, hn, he⟩ := digits_all (lens axes) ds hdl hbd
        have hm : n < many axes := by rw [many_eq h0]; exact hn
        have hin : pickOf axes ds ∈ allPicks axes := by
          rw [allPicks_eq]
          exact List.mem_map.2 ⟨n, List.mem_range.2 hm, by rw [he]⟩
        have hu := pick_uniq h8 hd n
        rw [he] at hu
        refine mp_l6 axes inc exc ps ht (pickOf axes ds) hu.2 hfn hfp (exc.any fun x => lawHits x (pickOf axes ds)) ?_ exc.length 0 false (by omega) (by simp)
        have e3 : (exc.any fun x => lawHits x (pickOf axes ds)) = hitB exc (pickOf axes ds) := by
          unfold hitB
          congr 1
          funext x
          exact lawHits_eq x _ hu.1
        rw [e3]
        cases hh : hitB exc (pickOf axes ds) with
        | true => rfl
        | false =>
          rw [Bool.false_or, List.any_eq_true]
          refine ⟨pickOf axes ds, ?_, sameR_self _⟩
          rw [← hPS, if_neg (fun h => by omega)]
          refine addInc_keeps _ _ _ ?_
          unfold keptP
          exact List.mem_filter.2 ⟨hin, by rw [hh]; rfl⟩) axes.length 0 [] (by omega) rfl (fun k _ hk => by omega)
      exact mp_l0 axes inc exc choice ps ht hfn hfp hof (by simpa [pickOf] using h5) ps.length 0 (by omega)
end Go.Proofs.Ytdgllnaeookddaa.Q
