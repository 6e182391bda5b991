/- What an argument's reading gives a walk: a slice, a string, a struct by its kind, and that its parts are no longer than the reading is of bulk. -/
import Derived.Test.YtofajjodonhdkaaRows
import Derived.Test.YtofajjodonhdkaaEAKOf
import Derived.Deep.Slices
import Derived.ChangeSame
namespace Go.Proofs.Ytofajjodonhdkaa.Q
open Go.ChangeShapes Go.WideShapes Go.RowKit Go.Proofs.YtofajjodonhdkaaW.PrintWords
set_option linter.unusedVariables false
set_option linter.unusedSimpArgs false
section
variable {H : Type} {enc : TypeId × Value → H} {P : Program} {w : World} {base : Nat} {spare : Nat → Bool} {held : Bool} {α β : Type}
def Opens (enc : TypeId × Value → H) (P : Program) (w : World) (base : Nat) (spare : Nat → Bool) (held : Bool) (d : Kd α) (b : α → Nat) (e : TypeId) : Prop :=
  ∀ (fuel : Nat) (cs : List Value) (x : DataW H × List MemPlace), DataW.trod enc P w base spare held fuel e cs = some x → ∃ p, d.K w p cs ∧ b p ≤ Rows.uptoBulk x.1
def bL (b : α → Nat) (l : List α) : Nat := (l.map b).sum + 1
theorem bulkAll_append : ∀ (a b : List (DataW H)), Rows.uptoBulkAll (a ++ b) = Rows.uptoBulkAll a + Rows.uptoBulkAll b
  | [], b => by simp [Rows.uptoBulkAll]
  | x :: r, b => by
    show Rows.uptoBulk x + Rows.uptoBulkAll (r ++ b) = Rows.uptoBulk x + Rows.uptoBulkAll r + Rows.uptoBulkAll b
    rw [bulkAll_append r b, Nat.add_assoc]
theorem list_of {Q : Nat → α → Prop} : ∀ (n : Nat), (∀ i, i < n → ∃ p, Q i p) → ∃ xs : List α, xs.length = n ∧ ∀ i p, xs[i]? = some p → Q i p
  | 0, _ => ⟨[], rfl, fun i p h => by simp at h⟩
  | n + 1, h => by
    obtain ⟨xs, hl, hq⟩ := list_of n (fun i hi => h i (by omega))
    obtain ⟨p, hp⟩ := h n (by omega)
    refine ⟨xs ++ [p], by simp [hl], fun i q hi => ?_⟩
    by_cases hin : i < n
    · rw [List.getElem?_append_left (by omega)] at hi
      exact hq i q hi
    · rw [List.getElem?_append_right (by omega)] at hi
      have : i - xs.length = 0 := by
        rcases Nat.eq_zero_or_pos (i - xs.length) with h0 | h0
        · exact h0
        · rw [List.getElem?_eq_none (by simp; omega)] at hi
          cases hi
      rw [this] at hi
      obtain rfl : p = q := by simpa using hi
      obtain rfl : i = n := by omega
      exact hp
theorem sum_le {b : α → Nat} {D : Nat → DataW H} : ∀ (n : Nat) (xs : List α), xs.length = n → (∀ i p, xs[i]? = some p → b p ≤ Rows.uptoBulk (D i)) → (xs.map b).sum ≤ Rows.uptoBulkAll ((List.range n).map D)
  | 0, xs, hl, h => by
    obtain rfl := List.eq_nil_of_length_eq_zero hl
    simp
  | n + 1, xs, hl, h => by
    have hn : n < xs.length := by omega
    have e : xs = xs.take n ++ [xs[n]] := by
      have := List.take_succ_eq_append_getElem hn
      rw [← this, List.take_of_length_le (by omega)]
    have ih := sum_le (b := b) (D := D) n (xs.take n) (by rw [List.length_take]; omega) (fun i p hi => by
      have hin : i < n := by
        have := (List.getElem?_eq_some_iff.1 hi).1
        rw [List.length_take] at this
        omega
      rw [List.getElem?_take_of_lt hin] at hi
      exact h i p hi)
    have h1 := h n xs[n] (List.getElem?_eq_getElem hn)
    rw [List.range_succ, List.map_append, bulkAll_append]
    rw [e, List.map_append, List.sum_append]
    have h2 : Rows.uptoBulkAll ([n].map D) = Rows.uptoBulk (D n) := by simp [Rows.uptoBulkAll]
    rw [h2]
    have h3 : ([xs[n]].map b).sum = b xs[n] := by simp
    rw [h3]
    exact Nat.add_le_add ih h1
theorem opens_slice {d : Kd α} {b : α → Nat} {t e : TypeId} (ht : P.underlying t = some (.slice e)) (hC : P.cellsOf e = d.sz) (o : Opens enc P w base spare held d b e) : Opens enc P w base spare held (Kd.slice e d) (bL b) t := by
  intro fuel cs x h
  rcases Deep.open_slice ht h with ⟨rfl, rfl⟩ | ⟨a, len, cap, m, n, D, Pl, rfl, hb, hl, hm, hmm, rfl, hi⟩
  · exact ⟨[], ⟨none, 0, rfl, Nat.le_refl _, Kd.C_nil _ _⟩, Nat.le_refl _⟩
  · have hlm : len ≤ m := by rw [hmm]; split <;> omega
    rw [hC] at hi
    obtain ⟨xs, hxl, hxs⟩ := list_of (Q := fun i p => ∃ c : List Value, c.length = d.sz ∧ (d.K w p c ∧ b p ≤ Rows.uptoBulk (D i)) ∧ ∀ j u, c[j]? = some u → w.cell? (a.add (i * d.sz + j)) = some u) len (fun i hil => by
      obtain ⟨c, hc, htr⟩ := hi i (by omega)
      obtain ⟨p, hp⟩ := o _ _ _ htr
      obtain ⟨_, hcl, hat⟩ := World.cells?_some hc
      refine ⟨p, c, hcl, hp, fun j u hu => ?_⟩
      have hj : j < c.length := (List.getElem?_eq_some_iff.1 hu).1
      rw [← Deep.add_add, hat j (by omega), hu])
    refine ⟨xs, ⟨some a, cap, by rw [hxl], by omega, rfl, by have := hm; unfold maxLen at this; omega, fun _ => ⟨a, rfl, fun j p hj => ?_⟩⟩, ?_⟩
    · obtain ⟨c, h1, h2, h3⟩ := hxs j p hj
      exact ⟨c, h1, h2.1, h3⟩
    · show (xs.map b).sum + 1 ≤ Rows.uptoBulkAll ((List.range len).map D) + _ + 1
      have := sum_le (b := b) (D := D) len xs hxl (fun i p hp => by obtain ⟨c, _, h2, _⟩ := hxs i p hp; exact h2.2)
      omega
end
section
variable {H : Type} {enc : TypeId × Value → H} {w : World} {base : Nat} {spare : Nat → Bool} {held : Bool}
def bN (x : SN) : Nat := x.f2.size + x.f3.size + 1
theorem hcI : Try.prog.cellsOf 3 = 1 := by kernel_rfl
theorem hcS : Try.prog.cellsOf 9 = 1 := by kernel_rfl
theorem opens_node : Opens enc Try.prog w base spare held k31 bN 31 := by
  intro fuel cs x h
  obtain ⟨ys, n, _, rfl, hlen, hyl, hf⟩ := DataW.trod_struct Try.underlying31 h
  have hl8 : cs.length = 8 := hlen.trans (by kernel_rfl)
  match cs, hl8, ys, hyl, hf with
  | [c0, c1, c2, c3, c4, c5, c6, c7], _, [y0, y1, y2, y3, y4, y5, y6, y7], _, hf =>
    have t0 : DataW.trod enc Try.prog w base spare held n 3 [c0] = some y0 := by have h0 : DataW.trod enc Try.prog w base spare held n 3 (([c0, c1, c2, c3, c4, c5, c6, c7].drop 0).take (Try.prog.cellsOf 3)) = some y0 := hf 0 _ rfl; rw [hcI] at h0; exact h0
    have t1 : DataW.trod enc Try.prog w base spare held n 3 [c1] = some y1 := by have h0 : DataW.trod enc Try.prog w base spare held n 3 (([c0, c1, c2, c3, c4, c5, c6, c7].drop 1).take (Try.prog.cellsOf 3)) = some y1 := hf 1 _ rfl; rw [hcI] at h0; exact h0
    have t2 : DataW.trod enc Try.prog w base spare held n 9 [c2] = some y2 := by have h0 : DataW.trod enc Try.prog w base spare held n 9 (([c0, c1, c2, c3, c4, c5, c6, c7].drop 2).take (Try.prog.cellsOf 9)) = some y2 := hf 2 _ rfl; rw [hcS] at h0; exact h0
    have t3 : DataW.trod enc Try.prog w base spare held n 9 [c3] = some y3 := by have h0 : DataW.trod enc Try.prog w base spare held n 9 (([c0, c1, c2, c3, c4, c5, c6, c7].drop 3).take (Try.prog.cellsOf 9)) = some y3 := hf 3 _ rfl; rw [hcS] at h0; exact h0
    have t4 : DataW.trod enc Try.prog w base spare held n 9 [c4] = some y4 := by have h0 : DataW.trod enc Try.prog w base spare held n 9 (([c0, c1, c2, c3, c4, c5, c6, c7].drop 4).take (Try.prog.cellsOf 9)) = some y4 := hf 4 _ rfl; rw [hcS] at h0; exact h0
    have t5 : DataW.trod enc Try.prog w base spare held n 3 [c5] = some y5 := by have h0 : DataW.trod enc Try.prog w base spare held n 3 (([c0, c1, c2, c3, c4, c5, c6, c7].drop 5).take (Try.prog.cellsOf 3)) = some y5 := hf 5 _ rfl; rw [hcI] at h0; exact h0
    have t6 : DataW.trod enc Try.prog w base spare held n 3 [c6] = some y6 := by have h0 : DataW.trod enc Try.prog w base spare held n 3 (([c0, c1, c2, c3, c4, c5, c6, c7].drop 6).take (Try.prog.cellsOf 3)) = some y6 := hf 6 _ rfl; rw [hcI] at h0; exact h0
    have t7 : DataW.trod enc Try.prog w base spare held n 3 [c7] = some y7 := by have h0 : DataW.trod enc Try.prog w base spare held n 3 (([c0, c1, c2, c3, c4, c5, c6, c7].drop 7).take (Try.prog.cellsOf 3)) = some y7 := hf 7 _ rfl; rw [hcI] at h0; exact h0
    obtain ⟨n0, e0, g0, _⟩ := DataW.trod_int Try.underlying3 t0
    injection e0 with e0 _; subst e0; subst g0
    obtain ⟨n1, e1, g1, _⟩ := DataW.trod_int Try.underlying3 t1
    injection e1 with e1 _; subst e1; subst g1
    obtain ⟨n2, e2, g2, _⟩ := DataW.trod_string Try.underlying9 t2
    injection e2 with e2 _; subst e2; subst g2
    obtain ⟨n3, e3, g3, _⟩ := DataW.trod_string Try.underlying9 t3
    injection e3 with e3 _; subst e3; subst g3
    obtain ⟨n4, e4, g4, _⟩ := DataW.trod_string Try.underlying9 t4
    injection e4 with e4 _; subst e4; subst g4
    obtain ⟨n5, e5, g5, _⟩ := DataW.trod_int Try.underlying3 t5
    injection e5 with e5 _; subst e5; subst g5
    obtain ⟨n6, e6, g6, _⟩ := DataW.trod_int Try.underlying3 t6
    injection e6 with e6 _; subst e6; subst g6
    obtain ⟨n7, e7, g7, _⟩ := DataW.trod_int Try.underlying3 t7
    injection e7 with e7 _; subst e7; subst g7
    refine ⟨⟨n0, n1, n2, n3, n4, n5, n6, n7⟩, k31_mk w ⟨n0, n1, n2, n3, n4, n5, n6, n7⟩, ?_⟩
    show n2.size + n3.size + 1 ≤ 1 + (1 + (n2.data.toList.length + 1 + (n3.data.toList.length + 1 + (n4.data.toList.length + 1 + (1 + (1 + (1 + 0))))))) + 1
    rw [Array.length_toList, Array.length_toList]
    show n2.size + n3.size + 1 ≤ 1 + (1 + (n2.size + 1 + (n3.size + 1 + (n4.data.toList.length + 1 + (1 + (1 + (1 + 0))))))) + 1
    omega
theorem opens_nodes : Opens enc Try.prog w base spare held (Kd.slice 31 k31) (bL bN) 22 :=
  opens_slice Try.underlying22 (by kernel_rfl) opens_node
end
theorem nodes_len : ∀ l : List SN, l.length ≤ (l.map bN).sum
  | [] => Nat.le_refl _
  | a :: r => by
    have := nodes_len r
    simp only [List.map_cons, List.sum_cons, List.length_cons, bN]
    omega
theorem nodes_mem : ∀ (l : List SN) (v : SN), v ∈ l → bN v ≤ (l.map bN).sum
  | a :: r, v, h => by
    rw [List.map_cons, List.sum_cons]
    rcases List.mem_cons.1 h with e | e
    · subst e; omega
    · have := nodes_mem r v e; omega
end Go.Proofs.Ytofajjodonhdkaa.Q
