/- Statement MatrixMany, with no program in sight: whether there are too many is told by counting. -/
import Derived.Test.YtdgllnaeookddaaQ12
namespace Go.Proofs.Ytdgllnaeookddaa.Pure
open Go.RowKit Go.Proofs.Ytdgllnaeookddaa.Q Go.Proofs.YtdgllnaeookddaaW.PrintWords Go.Proofs.YtdgllnaeookddaaW.PrintLast Go.Proofs.YtdgllnaeookddaaW.PrintMore
set_option linter.unusedVariables false
set_option linter.unusedSimpArgs false

def letters : ByteArray := ⟨#[97, 98, 99, 100, 101, 102, 103, 104]⟩
def letter (i : Nat) : ByteArray := letters.extract i (i + 1)
def val (j : Nat) : ByteArray := strOfNums (([(wrap64 (48 + (wrap64 (Int.tdiv (j : Int) 10)))) % 256, (wrap64 (48 + (Int.tmod (j : Int) 10))) % 256] : List Int))
def vals (n : Nat) : List ByteArray := (List.range n).map val
/-- The axes of some sizes, the first one's letter the i-th. -/
def axesAt : Nat → List Nat → AX
  | _, [] => []
  | i, n :: r => ⟨letter i, vals n⟩ :: axesAt (i + 1) r
def cap40 (x n : Nat) : Nat := min (x * n) 1099511627776
set_option maxRecDepth 100000
theorem vals_ok : ((List.range 70).all fun n => !dupB (vals n)) = true := by kernel_rfl
theorem vals_dup (n : Nat) (h : n < 70) : dupB (vals n) = false := by
  have := List.all_eq_true.1 vals_ok n (List.mem_range.2 h)
  simpa using this
theorem names_ok : ((List.range 9).all fun n => decide (namesI ((List.range n).map letter) = 0)) = true := by kernel_rfl
theorem axesAt_names : ∀ (l : List Nat) (i : Nat), (axesAt i l).map (·.f0) = (List.range' i l.length).map letter
  | [], i => rfl
  | n :: r, i => by
    show letter i :: (axesAt (i + 1) r).map (·.f0) = (List.range' i (r.length + 1)).map letter
    rw [axesAt_names r (i + 1), List.range'_succ]
    rfl
theorem axesAt_length : ∀ (l : List Nat) (i : Nat), (axesAt i l).length = l.length
  | [], i => rfl
  | n :: r, i => by
    show (axesAt (i + 1) r).length + 1 = r.length + 1
    rw [axesAt_length r (i + 1)]
theorem axesAt_snoc : ∀ (l : List Nat) (i n : Nat), axesAt i (l ++ [n]) = axesAt i l ++ [⟨letter (i + l.length), vals n⟩]
  | [], i, n => rfl
  | m :: r, i, n => by
    show _ :: axesAt (i + 1) (r ++ [n]) = _ :: (axesAt (i + 1) r ++ _)
    rw [axesAt_snoc r (i + 1) n]
    have : i + 1 + r.length = i + (m :: r).length := by simp; omega
    rw [this]
theorem axesAt_lens : ∀ (l : List Nat) (i : Nat), lens (axesAt i l) = l
  | [], i => rfl
  | n :: r, i => by
    show (vals n).length :: lens (axesAt (i + 1) r) = n :: r
    rw [axesAt_lens r (i + 1)]
    simp [vals]
theorem axesAt_dup : ∀ (l : List Nat) (i : Nat), (∀ n ∈ l, n < 70) → dupL (axesAt i l) = []
  | [], i, _ => rfl
  | n :: r, i, h => by
    have ih := axesAt_dup r (i + 1) (fun n hn => h n (List.mem_cons_of_mem _ hn))
    unfold dupL at ih ⊢
    show List.map _ (List.filter _ (_ :: axesAt (i + 1) r)) = []
    rw [List.filter_cons_of_neg (by rw [vals_dup n (h n (List.mem_cons_self ..))]; decide)]
    exact ih
theorem axes_check (l : List Nat) (h8 : l.length ≤ 8) (h : ∀ n ∈ l, n < 70) : checkI (axesAt 0 l) [] [] = 0 := by
  unfold checkI
  rw [if_neg (by rw [axesAt_length]; omega), axesAt_dup l 0 h]
  unfold checkL
  rw [axesAt_names l 0]
  have := List.all_eq_true.1 names_ok l.length (List.mem_range.2 (by omega))
  rw [List.range'_eq_map_range]
  have h2 : namesI ((List.range l.length).map letter) = 0 := by simpa using this
  simp [h2, finI, mx]
theorem axes_small (l : List Nat) (h8 : l.length ≤ 8) : smallB (axesAt 0 l) [] [] = true := by
  unfold smallB
  rw [axesAt_length]
  simp
  omega
theorem prod_snoc : ∀ (l : List Nat) (n : Nat), prodL (l ++ [n]) = prodL l * n
  | [], n => by simp [prodL]
  | m :: r, n => by
    show m * prodL (r ++ [n]) = m * prodL r * n
    rw [prod_snoc r n, Nat.mul_assoc]
def exactN (l : List Nat) : Nat := min (prodL l) 1099511627776
theorem exact_snoc (l : List Nat) (n : Nat) : exactN (l ++ [n]) = cap40 (exactN l) n := by
  unfold exactN cap40
  rw [min_times, prod_snoc]
theorem copy_ev (axes : AX) (hs : axes.length < 3518437208883) (ht : ∀ a ∈ axes, a.f1.length < 8796093022208) : ∀ (d i : Nat), i + d = axes.length → Ev (fun k => shuttlelaw0_CopyMatrix.l0 k (i : Int) axes [] [] (axes.take i) [] []) (axes, [], [])
  | 0, i, h => by
    refine Ev.step (fun k => by rw [shuttlelaw0_CopyMatrix.l0, if_neg (by omega)]) ?_
    rw [List.take_of_length_le (by omega)]
    exact Ev.now _
  | d + 1, i, h => by
    have hi : i < axes.length := by omega
    have hc : shuttlelaw0_CopyTexts.f axes[i].f1 = some axes[i].f1 := by
      unfold shuttlelaw0_CopyTexts.f
      have := ht _ (List.getElem_mem hi)
      simp [this]
    refine Ev.step (fun k => by rw [shuttlelaw0_CopyMatrix.l0, if_pos (by omega), if_pos (by omega), rd_axis axes i hi, hc, Option.bind_some, if_pos (by rw [List.length_take]; omega), wrap_succ (n := axes.length) (by omega) (by omega) (by omega)]) ?_
    have ih := copy_ev axes hs ht d (i + 1) (by omega)
    rw [List.take_succ_eq_append_getElem hi] at ih
    exact ih
theorem copyPicks_ev : Ev (fun k => shuttlelaw0_CopyPicks.f k []) [] := by
  unfold shuttlelaw0_CopyPicks.f
  refine Ev.step (fun k => by rw [shuttlelaw0_CopyPicks.l0, if_neg (by decide)]) ?_
  exact Ev.now _
theorem copyM_ev (axes : AX) (hs : axes.length < 3518437208883) (ht : ∀ a ∈ axes, a.f1.length < 8796093022208) : Ev (fun k => shuttlelaw0_CopyMatrix.f k axes [] []) (axes, [], []) := by
  unfold shuttlelaw0_CopyMatrix.f
  exact Ev.bind copyPicks_ev (Ev.bind copyPicks_ev (copy_ev axes hs ht axes.length 0 (by omega)))
theorem axesAt_vals : ∀ (l : List Nat) (i : Nat), (∀ n ∈ l, n < 70) → ∀ a ∈ axesAt i l, a.f1.length < 8796093022208
  | [], i, _, a, ha => by cases ha
  | n :: r, i, h, a, ha => by
    rcases List.mem_cons.1 ha with e | e
    · subst e
      have := h n (List.mem_cons_self ..)
      simp [vals]
      omega
    · exact axesAt_vals r (i + 1) (fun n hn => h n (List.mem_cons_of_mem _ hn)) a e
theorem low_nat (x : Int) : ∃ m : Nat, shuttlelaw0_Low.f x = some (m : Int) := by
  refine ⟨(BitVec.ofInt 64 x &&& BitVec.ofInt 64 9223372036854775807).toNat, ?_⟩
  have h : (BitVec.ofInt 64 x &&& BitVec.ofInt 64 9223372036854775807).toNat ≤ 9223372036854775807 := by
    rw [BitVec.toNat_and]
    exact Nat.and_le_right
  unfold shuttlelaw0_Low.f
  congr 1
  show IntKind.wrap .i64 (((BitVec.ofInt 64 x &&& BitVec.ofInt 64 9223372036854775807).toNat : Nat) : Int) = _
  simp only [i64_w]
  generalize (BitVec.ofInt 64 x &&& BitVec.ofInt 64 9223372036854775807).toNat = m at h
  unfold wrap64
  omega
theorem vals_succ (j : Nat) : vals (j + 1) = vals j ++ [val j] := by
  unfold vals
  rw [List.range_succ, List.map_append]
  rfl
theorem vals_len (j : Nat) : (vals j).length = j := by simp [vals]
theorem many_l1 (x0 : List Int) (x4 : ByteArray) (x5 x6 : Int) (n : Nat) (axes : AX) (lt : ByteArray) (hn : n < 70) (hax : axes.length < 3518437208883)
    (hK : Ev (fun k => shuttlelaw13_MatrixMany.l0 k x0 x4 (mn (wrap64 (x5 * (n : Int))) 1099511627776) (wrap64 (x6 + 1)) (axes ++ [(⟨lt, vals n⟩ : S46)])) true) :
    ∀ (d j : Nat), j + d = n → Ev (fun k => shuttlelaw13_MatrixMany.l1 k x0 x4 x5 x6 (n : Int) (j : Int) axes lt (vals j)) true
  | 0, j, h => by
    obtain rfl : j = n := by omega
    refine Ev.step (fun k => by rw [shuttlelaw13_MatrixMany.l1, if_neg (by omega), if_pos hax]) ?_
    exact hK
  | d + 1, j, h => by
    refine Ev.step (fun k => by rw [shuttlelaw13_MatrixMany.l1, if_pos (by omega), if_pos (by rw [vals_len]; omega), wrap_succ (n := n) (by omega) (by omega) (by omega)]) ?_
    have ih := many_l1 x0 x4 x5 x6 n axes lt hn hax hK d (j + 1) (by omega)
    rw [vals_succ] at ih
    exact ih
theorem count_axes (ls : List Nat) (h8 : ls.length ≤ 8) (h : ∀ n ∈ ls, n < 70) : countI (axesAt 0 ls) [] [] = mn ((exactN ls : Nat) : Int) 1048576 := by
  unfold countI
  rw [if_pos (axes_check ls h8 h), axesAt_length, axesAt_lens]
  unfold exactN most mn
  by_cases h0 : ls.length = 0
  · obtain rfl : ls = [] := List.eq_nil_of_length_eq_zero h0
    rw [if_pos ⟨rfl, rfl⟩]
    decide
  · rw [if_neg (fun hh => h0 hh.1), if_neg h0]
    simp only [List.length_nil, Nat.add_zero]
    split <;> omega
theorem build_axes (ls : List Nat) (h8 : ls.length ≤ 8) (h : ∀ n ∈ ls, n < 70) : matrix_Build.f (axesAt 0 ls) [] [] = some (buildP (axesAt 0 ls) [] []) := by
  unfold matrix_Build.f
  rw [axes_small ls h8]
  rfl
theorem filter_all (l : List (List SV)) : l.filter (fun p => !hitB [] p) = l := by
  induction l with
  | nil => rfl
  | cons a r ih =>
    rw [List.filter_cons_of_pos (by rfl), ih]
theorem many_final (x0 : List Int) (x4 : ByteArray) (x6 : Int) (ls : List Nat) (h8 : ls.length ≤ 8) (h : ∀ n ∈ ls, n < 70) :
    Ev (fun k => shuttlelaw13_MatrixMany.j1 k x0 x4 ((exactN ls : Nat) : Int) x6 false (axesAt 0 ls)) true := by
  refine Ev.step (fun k => by rw [shuttlelaw13_MatrixMany.j1, if_neg (by decide)]) ?_
  refine Ev.bind (copyM_ev (axesAt 0 ls) (by rw [axesAt_length]; omega) (axesAt_vals ls 0 h)) ?_
  refine Ev.bind (count_ev (axesAt 0 ls) [] [] (axes_small ls h8)) ?_
  refine Ev.congr (fun k => by rw [if_pos (count_axes ls h8 h), build_axes ls h8 h, Option.bind_some]) ?_
  have hc := count_axes ls h8 h
  have hk := axes_check ls h8 h
  have hex : exactN ls = min (prodL ls) 1099511627776 := rfl
  by_cases hbig : ((exactN ls : Nat) : Int) > 256
  · have hb : buildP (axesAt 0 ls) [] [] = ([], 0, 132) := by
      unfold buildP
      rw [if_pos hk, if_pos]
      rw [hc]
      unfold mn
      split <;> omega
    refine Ev.congr (fun k => by rw [hb, if_pos hbig, if_pos rfl, if_pos rfl, if_pos (by rfl), shuttlelaw13_awake.f, Option.bind_some]) ?_
    exact Ev.now _
  · have hnot : ¬ 256 < countI (axesAt 0 ls) [] [] := by
      rw [hc]
      unfold mn
      split <;> omega
    have hcx : countI (axesAt 0 ls) [] [] = ((exactN ls : Nat) : Int) := by
      rw [hc]
      unfold mn
      split <;> omega
    by_cases h0 : ls.length = 0
    · obtain rfl : ls = [] := List.eq_nil_of_length_eq_zero h0
      have hb : buildP (axesAt 0 []) [] [] = ([[]], 1, 0) := by
        unfold buildP
        rw [if_pos hk, if_neg hnot, if_pos ⟨rfl, rfl⟩]
      refine Ev.congr (fun k => by rw [hb, if_neg hbig, if_pos rfl, if_pos (by rfl), if_pos (by rfl), shuttlelaw13_awake.f, Option.bind_some]) ?_
      exact Ev.now _
    · have hb : buildP (axesAt 0 ls) [] [] = (allPicks (axesAt 0 ls), ((exactN ls : Nat) : Int), 0) := by
        unfold buildP
        rw [if_pos hk, if_neg hnot, if_neg (by rw [axesAt_length]; exact fun hh => h0 hh.1), hcx]
        unfold addInc keptP
        rw [filter_all]
      have hl : ((allPicks (axesAt 0 ls)).length : Int) = ((exactN ls : Nat) : Int) := by
        rw [allPicks_length, many_eq (by rw [axesAt_length]; omega), axesAt_lens]
        omega
      refine Ev.congr (fun k => by rw [hb, if_neg hbig, if_pos rfl, if_pos rfl, if_pos hl, shuttlelaw13_awake.f, Option.bind_some]) ?_
      exact Ev.now _
theorem many_l0 (x0 : List Int) (hx : x0.length ≤ 9223372036854775807) : ∀ (d i : Nat) (ls : List Nat), i + d = x0.length → i ≤ 8 → ls.length = i → (∀ n ∈ ls, n < 70) →
    Ev (fun k => shuttlelaw13_MatrixMany.l0 k x0 letters ((exactN ls : Nat) : Int) (i : Int) (axesAt 0 ls)) true
  | 0, i, ls, h, h8, hl, hn => by
    refine Ev.step (fun k => by rw [shuttlelaw13_MatrixMany.l0, if_neg (by omega)]) ?_
    exact many_final x0 letters _ ls (by omega) hn
  | d + 1, i, ls, h, h8, hl, hn => by
    refine Ev.step (fun k => by rw [shuttlelaw13_MatrixMany.l0, if_pos (by omega)]) ?_
    by_cases hi : i < 8
    · have hd : decide ((i : Int) < 8) = true := decide_eq_true (by omega)
      have hw : wrap64 ((i : Int) + 1) = (i : Int) + 1 := by unfold wrap64; omega
      obtain ⟨m, hm⟩ := low_nat (rd x0 (i : Int))
      have hsz : (letters.size : Int) = 8 := rfl
      refine Ev.congr (fun k => by rw [hd]) ?_
      refine Ev.step (fun k => by rw [shuttlelaw13_MatrixMany.j1, if_pos rfl, if_pos (by omega), hw, if_pos (by omega), if_pos (by omega), if_pos (by omega), hm, Option.bind_some]) ?_
      have ht : Int.tmod (m : Int) 70 = ((m % 70 : Nat) : Int) := rfl
      have hlt : letters.extract ((i : Int)).toNat ((i : Int) + 1).toNat = letter i := by
        have : ((i : Int) + 1).toNat = i + 1 := by omega
        rw [this, Int.toNat_natCast]
        rfl
      rw [ht, hlt]
      have hmn : m % 70 < 70 := Nat.mod_lt _ (by decide)
      generalize m % 70 = n at hmn
      refine many_l1 x0 letters _ _ n (axesAt 0 ls) (letter i) hmn (by rw [axesAt_length]; omega) ?_ n 0 (by omega)
      have he : mn (wrap64 (((exactN ls : Nat) : Int) * (n : Int))) 1099511627776 = ((exactN (ls ++ [n]) : Nat) : Int) := by
        rw [exact_snoc]
        have hle : exactN ls ≤ 1099511627776 := Nat.min_le_right _ _
        have hp : exactN ls * n ≤ 1099511627776 * 70 := Nat.mul_le_mul hle (by omega)
        rw [← Int.natCast_mul]
        unfold cap40 mn wrap64
        generalize exactN ls * n = q at hp
        split <;> omega
      have ha : axesAt 0 ls ++ [(⟨letter i, vals n⟩ : S46)] = axesAt 0 (ls ++ [n]) := by
        rw [axesAt_snoc, Nat.zero_add, hl]
      rw [he, ha, hw]
      have ih := many_l0 x0 hx d (i + 1) (ls ++ [n]) (by omega) (by omega) (by simp [hl]) (fun z hz => by
        rcases List.mem_append.1 hz with hz | hz
        · exact hn z hz
        · rw [List.mem_singleton.1 hz]
          exact hmn)
      exact ih
    · have hd : decide ((i : Int) < 8) = false := decide_eq_false (by omega)
      refine Ev.congr (fun k => by rw [hd]) ?_
      exact many_final x0 letters _ ls (by omega) hn
theorem MatrixMany : shuttlelaw13_MatrixMany.Pure := by
  intro l0 hl _ _
  exact (many_l0 l0 hl l0.length 0 [] (by omega) (by omega) rfl (fun n hn => by cases hn)).rounds
end Go.Proofs.Ytdgllnaeookddaa.Pure
