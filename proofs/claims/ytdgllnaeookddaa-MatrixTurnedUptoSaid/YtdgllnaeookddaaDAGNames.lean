/- What the program's package matrix says of a list of names (their form, and whether one stands twice), and of a list of texts: the contracts of names and twice. -/
import Derived.Test.YtdgllnaeookddaaDAGScal
import Derived.Test.YtdgllnaeookddaaDASMap
namespace Go.Proofs.Ytdgllnaeookddaa.Q
open Go.RowKit Go.Proofs.YtdgllnaeookddaaW.PrintWords Go.Proofs.Ytdgllnaeookddaa.SMap
set_option linter.unusedVariables false
set_option linter.unusedSimpArgs false
theorem ret_int {k : IntKind} {a b : Int} (h : a = b) : Ending.returned (.int k a) = .returned (.int k b) := by rw [h]
def memB (s : ByteArray) (l : List ByteArray) : Bool := l.any fun x => decide (x = s)
theorem memB_iff (s : ByteArray) (l : List ByteArray) : memB s l = true ↔ s ∈ l := by simp [memB]
/-- Does a text stand twice? -/
def dupB : List ByteArray → Bool
  | [] => false
  | s :: r => memB s r || dupB r
theorem dupB_snoc (l : List ByteArray) (s : ByteArray) : dupB (l ++ [s]) = (dupB l || memB s l) := by
  induction l with
  | nil => rfl
  | cons x r ih =>
    rw [Bool.eq_iff_iff]
    simp only [List.cons_append, dupB, ih, Bool.or_eq_true, memB_iff, List.mem_append, List.mem_cons, List.not_mem_nil, or_false]
    constructor
    · rintro ((h | h) | (h | h))
      · exact .inl (.inl h)
      · exact .inr (.inl h.symm)
      · exact .inl (.inr h)
      · exact .inr (.inr h)
    · rintro ((h | h) | (h | h))
      · exact .inl (.inl h)
      · exact .inr (.inl h)
      · exact .inl (.inr h.symm)
      · exact .inr (.inr h)
def cnt (l : List ByteArray) (s : ByteArray) : Nat := (l.filter fun x => decide (x = s)).length
theorem cnt_snoc (l : List ByteArray) (x s : ByteArray) : cnt (l ++ [x]) s = cnt l s + if x = s then 1 else 0 := by
  unfold cnt
  rw [List.filter_append]
  by_cases h : x = s <;> simp [h]
theorem cnt_le (l : List ByteArray) (s : ByteArray) : cnt l s ≤ l.length := List.length_filter_le _ _
theorem cnt_pos (l : List ByteArray) (s : ByteArray) : 1 ≤ cnt l s ↔ s ∈ l := by
  unfold cnt
  rw [Nat.one_le_iff_ne_zero, ne_eq, List.length_eq_zero_iff, List.filter_eq_nil_iff]
  simp
/-- The map holds how often each text came. -/
def Counts (w : World) (b : Nat) (l : List ByteArray) : Prop := ∃ kvs, SM w b kvs ∧ ∀ s, (getS kvs s).getD (.int .i64 0) = .int .i64 (cnt l s)
theorem Counts.made (w : World) : Counts (w.alloc (.map #[] 0)) w.heap.size [] := ⟨[], SM.made w, fun _ => rfl⟩
def namesI (l : List ByteArray) : Int := if l.all varNameB then (if dupB l then 131 else 0) else 130
theorem zero3 (w : World) : (zeroValue 3).run Try.prog w = .ok (.int .i64 0) w := by kernel_rfl
theorem step_counts {w' : World} {b : Nat} {kvs : KV} {l : List ByteArray} {s : ByteArray} (hc : ∀ s, (getS kvs s).getD (.int .i64 0) = .int .i64 (cnt l s)) (h : SM w' b (setS kvs s (.int .i64 ((cnt l s : Nat) + 1)))) : Counts w' b (l ++ [s]) := by
  refine ⟨_, h, fun t => ?_⟩
  rw [cnt_snoc]
  by_cases e : s = t
  · subst e; rw [getS_set_same]; simp
  · rw [getS_set_other _ _ (Ne.symm e), hc]; simp [e]
def dupI (l : List ByteArray) : Int := if dupB l then 131 else 0
def NamesRel (w : World) (l : List ByteArray) (e i : Value) (wr : World) : Prop :=
  ∃ k : Nat, k ≤ l.length ∧ i = .int .i64 k ∧ e = .int .i64 (dupI (l.take k)) ∧ (l.take k).all varNameB = true ∧ Counts wr w.heap.size (l.take k) ∧ Below w.heap.size w wr
theorem dupI_snoc_new (l : List ByteArray) (s : ByteArray) (h : ¬ 1 ≤ cnt l s) : dupI (l ++ [s]) = dupI l := by
  unfold dupI
  rw [dupB_snoc]
  have : memB s l = false := by
    rw [Bool.eq_false_iff]
    intro hm
    exact h ((cnt_pos l s).2 ((memB_iff s l).1 hm))
  rw [this, Bool.or_false]
theorem dupI_snoc_old (l : List ByteArray) (s : ByteArray) (h : 1 ≤ cnt l s) : dupI (l ++ [s]) = 131 := by
  unfold dupI
  rw [dupB_snoc, (memB_iff s l).2 ((cnt_pos l s).1 h), Bool.or_true, if_pos rfl]
theorem names_any (A : Option Addr) (c : Nat) (l : List ByteArray) (w : World) (hr : Kd.C Kd.string w A l.length l) :
    Calls Try.prog 39 #[.slice A l.length c] w fun e w' => e = .returned (.int .i64 (namesI l)) ∧ Below w.heap.size w w' := by
  have hlen : l.length ≤ 9223372036854775807 := hr.2.1
  have hmm := @run_makeMap Try.prog
  have hR := Aside0.mk hr
  clear hr
  go_enter Try.func39, Try.ntmps39
  go_wp2
  go_loopw [4, 10] (fun e i wr => NamesRel w l e i wr) (fun _ i _ => l.length - (intOf i).toNat)
  case atStart => exact ⟨0, Nat.zero_le _, rfl, rfl, rfl, Counts.made w, (Below.refl _ _).alloc (Nat.le_refl _) _⟩
  case round =>
    obtain ⟨k, hk, rfl, rfl, hall, ⟨kvs, hsm, hcnt⟩, hbw⟩ := hrel
    have hall' := Aside0.mk hall
    clear hall
    by_cases hlt : k < l.length
    · obtain ⟨ad, e, hx⟩ := Kd.at_string hR.out (k : Int) (by omega) (by omega)
      subst e
      obtain ⟨s, hs⟩ : ∃ s, s = rdOf ByteArray.empty l (k : Int) := ⟨_, rfl⟩
      rw [← hs] at hx
      have hx' : wr.cell? (ad.add k) = some (.string s) := (hbw.cell (World.block_lt_of_cell? w _ hx)).trans hx
      have hsl : s = l[k] := by rw [hs]; simp [rdOf, hlt]
      clear hs hx
      have htk := Aside0.mk (show l.take (k + 1) = l.take k ++ [s] by rw [List.take_succ_eq_append_getElem hlt, hsl])
      have hmem := Aside0.mk (show s ∈ l by rw [hsl]; exact List.getElem_mem hlt)
      have hcl := cnt_le (l.take k) s
      have hcl' : (l.take k).length ≤ k := List.length_take_le _ _
      obtain ⟨n, hn⟩ : ∃ n, n = cnt (l.take k) s := ⟨_, rfl⟩
      have hn' : n < 9223372036854775807 := by omega
      have HC := Aside0.mk hcnt
      have HN0 := Aside0.mk hn
      clear hsl hcl hcl' hcnt
      have HN : Aside0 ((getS kvs s).getD (.int .i64 0) = .int .i64 n) := ⟨by rw [HC.out, hn]⟩
      have HN2 : Aside0 ((getS (setS kvs s (.int .i64 ((n : Int) + 1))) s).getD (.int .i64 0) = .int .i64 ((n : Int) + 1)) := ⟨by rw [getS_set_same]; rfl⟩
      clear hn
      cases hv : varNameB s with
      | true =>
        go_wp2_with (first
          | (go_at_call 57; refine (varName_any _ _).mono ?_; rintro e w' ⟨rfl, rfl⟩)
          | (at_lookup; refine wpList_lookup_sm _ rfl (.tmp 17) (.tmp 18) 80 rfl 9 3 Try.underlying80 Try.underlying9 (.int .i64 0) (zero3 _) _ kvs rfl hsm s rfl _ HN.out ?_)
          | (at_mapUpdate; refine wpList_update_sm _ rfl _ _ _ 80 rfl 9 3 Try.underlying80 Try.underlying9 _ kvs rfl hsm s rfl (.int .i64 ((n : Int) + 1)) rfl ?_; intro w1 hsm1 hg1)
          | (at_lookup; refine wpList_lookup_sm _ rfl (.tmp 21) (.tmp 22) 80 rfl 9 3 Try.underlying80 Try.underlying9 (.int .i64 0) (zero3 _) _ _ rfl hsm1 s rfl _ HN2.out ?_))
        all_goals
          have hall1 := Aside0.mk (show (l.take (k + 1)).all varNameB = true by rw [htk.out, List.all_append, hall'.out]; simp [hv])
          have hsm2 := Aside0.mk (show Counts w1 w.heap.size (l.take (k + 1)) by rw [htk.out]; exact step_counts HC.out (by rw [← HN0.out]; exact hsm1))
          have hb2 := hbw.grown hg1 hbw.size (fun j hj => by cases hj; exact Nat.le_refl _)
        · have hc : 1 < (n : Int) + 1 := by assumption
          have hd := Aside0.mk (show dupI (l.take (k + 1)) = 131 by rw [htk.out]; exact dupI_snoc_old _ _ (by rw [← HN0.out]; omega))
          go_roundw
          case rel => exact ⟨k + 1, by omega, by go_num, by rw [hd.out], hall1.out, hsm2.out, hb2⟩
          case measure => simp [intOf]; omega
        · have hc : (n : Int) + 1 ≤ 1 := by assumption
          have hd := Aside0.mk (show dupI (l.take (k + 1)) = dupI (l.take k) by rw [htk.out]; exact dupI_snoc_new _ _ (by rw [← HN0.out]; omega))
          go_roundw
          case rel => exact ⟨k + 1, by omega, by go_num, by rw [hd.out], hall1.out, hsm2.out, hb2⟩
          case measure => simp [intOf]; omega
      | false =>
        have hfin := Aside0.mk (show namesI l = 130 by
          unfold namesI
          rw [if_neg]
          rw [List.all_eq_true]
          exact fun h => by have := h s hmem.out; rw [hv] at this; cases this)
        go_wp2_with (go_at_call 57; refine (varName_any _ _).mono ?_; rintro e w' ⟨rfl, rfl⟩)
        go_ret
        exact ⟨ret_int hfin.out.symm, hbw⟩
    · have hkl : Aside0 (l.take k = l) := ⟨List.take_of_length_le (by omega)⟩
      have hfin := Aside0.mk (show namesI l = dupI (l.take k) by
        have := hall'.out
        rw [hkl.out] at this ⊢
        unfold namesI dupI
        rw [if_pos this])
      go_wp2
      go_ret
      exact ⟨ret_int hfin.out.symm, hbw⟩
def matrix_names.f (l0 : List ByteArray) : Option Int := some (namesI l0)
theorem matrix_names.calls (A0 : Option Addr) (c0 : Nat) (l0 : List ByteArray) (r : Int) (w : World) (hr0 : Kd.C Kd.string w A0 l0.length l0) (hc0 : l0.length ≤ c0) (h : matrix_names.f l0 = some r) :
    Calls Try.prog 39 #[.slice A0 l0.length c0] w fun e w' => e = .returned (.int .i64 r) ∧ Below w.heap.size w w' := by
  obtain rfl := Option.some.inj h
  exact names_any A0 c0 l0 w hr0
def TwiceRel (w : World) (l : List ByteArray) (i : Value) (wr : World) : Prop :=
  ∃ k : Nat, k ≤ l.length ∧ i = .int .i64 k ∧ dupB (l.take k) = false ∧ Counts wr w.heap.size (l.take k) ∧ Below w.heap.size w wr
theorem dupB_of_prefix (l : List ByteArray) (k : Nat) (h : dupB (l.take k) = true) : dupB l = true := by
  have key : ∀ (a b : List ByteArray), dupB a = true → dupB (a ++ b) = true := by
    intro a b
    induction a with
    | nil => intro h; cases h
    | cons x r ih =>
      simp only [List.cons_append, dupB, Bool.or_eq_true, memB_iff, List.mem_append]
      rintro (h | h)
      · exact .inl (.inl h)
      · exact .inr (ih h)
  have := key (l.take k) (l.drop k) h
  rwa [List.take_append_drop] at this
theorem dup_snoc_new (l : List ByteArray) (s : ByteArray) (h0 : dupB l = false) (h : ¬ 1 ≤ cnt l s) : dupB (l ++ [s]) = false := by
  rw [dupB_snoc, h0, Bool.false_or, Bool.eq_false_iff]
  exact fun hm => h ((cnt_pos l s).2 ((memB_iff s l).1 hm))
theorem dup_snoc_old (l : List ByteArray) (s : ByteArray) (h : 1 ≤ cnt l s) : dupB (l ++ [s]) = true := by
  rw [dupB_snoc, (memB_iff s l).2 ((cnt_pos l s).1 h), Bool.or_true]
theorem twice_any (A : Option Addr) (c : Nat) (l : List ByteArray) (w : World) (hr : Kd.C Kd.string w A l.length l) :
    Calls Try.prog 41 #[.slice A l.length c] w fun e w' => e = .returned (.bool (dupB l)) ∧ Below w.heap.size w w' := by
  have hlen : l.length ≤ 9223372036854775807 := hr.2.1
  have hmm := @run_makeMap Try.prog
  have hR := Aside0.mk hr
  clear hr
  go_enter Try.func41, Try.ntmps41
  go_wp2
  go_loopw [9] (fun i wr => TwiceRel w l i wr) (fun i _ => l.length - (intOf i).toNat)
  case atStart => exact ⟨0, Nat.zero_le _, rfl, rfl, Counts.made w, (Below.refl _ _).alloc (Nat.le_refl _) _⟩
  case round =>
    obtain ⟨k, hk, rfl, hno, ⟨kvs, hsm, hcnt⟩, hbw⟩ := hrel
    have hno' := Aside0.mk hno
    clear hno
    by_cases hlt : k < l.length
    · obtain ⟨ad, e, hx⟩ := Kd.at_string hR.out (k : Int) (by omega) (by omega)
      subst e
      obtain ⟨s, hs⟩ : ∃ s, s = rdOf ByteArray.empty l (k : Int) := ⟨_, rfl⟩
      rw [← hs] at hx
      have hx' : wr.cell? (ad.add k) = some (.string s) := (hbw.cell (World.block_lt_of_cell? w _ hx)).trans hx
      have hsl : s = l[k] := by rw [hs]; simp [rdOf, hlt]
      clear hs hx
      have htk := Aside0.mk (show l.take (k + 1) = l.take k ++ [s] by rw [List.take_succ_eq_append_getElem hlt, hsl])
      have hcl := cnt_le (l.take k) s
      have hcl' : (l.take k).length ≤ k := List.length_take_le _ _
      obtain ⟨n, hn⟩ : ∃ n, n = cnt (l.take k) s := ⟨_, rfl⟩
      have hn' : n < 9223372036854775807 := by omega
      have HC := Aside0.mk hcnt
      have HN0 := Aside0.mk hn
      clear hsl hcl hcl' hcnt
      have HN : Aside0 ((getS kvs s).getD (.int .i64 0) = .int .i64 n) := ⟨by rw [HC.out, hn]⟩
      have HN2 : Aside0 ((getS (setS kvs s (.int .i64 ((n : Int) + 1))) s).getD (.int .i64 0) = .int .i64 ((n : Int) + 1)) := ⟨by rw [getS_set_same]; rfl⟩
      clear hn
      go_wp2_with (first
        | (at_lookup; refine wpList_lookup_sm _ rfl (.tmp 13) (.tmp 14) 80 rfl 9 3 Try.underlying80 Try.underlying9 (.int .i64 0) (zero3 _) _ kvs rfl hsm s rfl _ HN.out ?_)
        | (at_mapUpdate; refine wpList_update_sm _ rfl _ _ _ 80 rfl 9 3 Try.underlying80 Try.underlying9 _ kvs rfl hsm s rfl (.int .i64 ((n : Int) + 1)) rfl ?_; intro w1 hsm1 hg1)
        | (at_lookup; refine wpList_lookup_sm _ rfl (.tmp 17) (.tmp 18) 80 rfl 9 3 Try.underlying80 Try.underlying9 (.int .i64 0) (zero3 _) _ _ rfl hsm1 s rfl _ HN2.out ?_))
      all_goals
        have hb2 := hbw.grown hg1 hbw.size (fun j hj => by cases hj; exact Nat.le_refl _)
      · have hc : 1 < (n : Int) + 1 := by assumption
        have hd := Aside0.mk (show dupB l = true by
          refine dupB_of_prefix l (k + 1) ?_
          rw [htk.out]
          exact dup_snoc_old _ _ (by rw [← HN0.out]; omega))
        go_ret
        exact ⟨ret_bool hd.out.symm, hb2⟩
      · have hc : (n : Int) + 1 ≤ 1 := by assumption
        have hsm2 := Aside0.mk (show Counts w1 w.heap.size (l.take (k + 1)) by rw [htk.out]; exact step_counts HC.out (by rw [← HN0.out]; exact hsm1))
        have hd := Aside0.mk (show dupB (l.take (k + 1)) = false by rw [htk.out]; exact dup_snoc_new _ _ hno'.out (by rw [← HN0.out]; omega))
        go_roundw
        case rel => exact ⟨k + 1, by omega, by go_num, hd.out, hsm2.out, hb2⟩
        case measure => simp [intOf]; omega
    · have hkl : Aside0 (l.take k = l) := ⟨List.take_of_length_le (by omega)⟩
      have hfin := Aside0.mk (show dupB l = false by rw [← hkl.out]; exact hno'.out)
      go_wp2
      go_ret
      exact ⟨ret_bool hfin.out.symm, hbw⟩
end Go.Proofs.Ytdgllnaeookddaa.Q
