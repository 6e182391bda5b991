/- What an argument's reading gives a walk: a slice, a string, a struct by its kind, and that its parts are no longer than the reading is of bulk. -/
import Derived.Test.YtdgllnaeookddaaRows
import Derived.Test.YtdgllnaeookddaaDAQ0
import Derived.Deep.Slices
import Derived.ChangeSame
namespace Go.Proofs.Ytdgllnaeookddaa.Q
open Go.ChangeShapes Go.WideShapes Go.RowKit Go.Proofs.YtdgllnaeookddaaW.PrintWords
set_option linter.unusedVariables false
set_option linter.unusedSimpArgs false
section
variable {H : Type} {enc : TypeId × Value → H} {P : Program} {w : World} {base : Nat} {spare : Nat → Bool} {held : Bool} {α β : Type}
def Opens (enc : TypeId × Value → H) (P : Program) (w : World) (base : Nat) (spare : Nat → Bool) (held : Bool) (d : Kd α) (b : α → Nat) (e : TypeId) : Prop :=
  ∀ (fuel : Nat) (cs : List Value) (x : DataW H × List MemPlace), DataW.trod enc P w base spare held fuel e cs = some x → ∃ p, d.K w p cs ∧ b p ≤ Rows.uptoBulk x.1
def bS (s : ByteArray) : Nat := s.size + 1
def bL (b : α → Nat) (l : List α) : Nat := (l.map b).sum + 1
theorem opens_string {e : TypeId} (he : P.underlying e = some .string) : Opens enc P w base spare held Kd.string bS e := by
  intro fuel cs x h
  obtain ⟨s, rfl, rfl, hs⟩ := DataW.trod_string he h
  refine ⟨s, rfl, ?_⟩
  show s.data.size + 1 ≤ s.data.toList.length + 1
  exact Nat.le_of_eq (by rw [Array.length_toList])
theorem bulkAll_append : ∀ (a b : List (DataW H)), Rows.uptoBulkAll (a ++ b) = Rows.uptoBulkAll a + Rows.uptoBulkAll b
  | [], b => by simp [Rows.uptoBulkAll]
  | x :: r, b => by
    show Rows.uptoBulk x + Rows.uptoBulkAll (r ++ b) = Rows.uptoBulk x + Rows.uptoBulkAll r + Rows.uptoBulkAll b
    rw [bulkAll_append r b, Nat.add_assoc]
theorem list_of {Q : Nat → α → Prop} : ∀ (n : Nat), (∀ i, i < n → ∃ p, Q i p) → ∃ xs : List α, xs.length = n ∧ ∀ i p, xs[i]? = some p → Q i p
  | 0, _ => ⟨[], rfl, fun i p h => by simp at h⟩
  | n + 1, h => by
    obtain ⟨xs, hl, hq⟩ := list_of n (fun i hi => h i (by omega))
    obtain ⟨p, hp⟩ := h n (by omega)
    refine ⟨xs ++ [p], by simp [hl], fun i q hi => ?_⟩
    by_cases hin : i < n
    · rw [List.getElem?_append_left (by omega)] at hi
      exact hq i q hi
    · rw [List.getElem?_append_right (by omega)] at hi
      have : i - xs.length = 0 := by
        rcases Nat.eq_zero_or_pos (i - xs.length) with h0 | h0
        · exact h0
        · rw [List.getElem?_eq_none (by simp; omega)] at hi
          cases hi
      rw [this] at hi
      obtain rfl : p = q := by simpa using hi
      obtain rfl : i = n := by omega
      exact hp
theorem sum_le {b : α → Nat} {D : Nat → DataW H} : ∀ (n : Nat) (xs : List α), xs.length = n → (∀ i p, xs[i]? = some p → b p ≤ Rows.uptoBulk (D i)) → (xs.map b).sum ≤ Rows.uptoBulkAll ((List.range n).map D)
  | 0, xs, hl, h => by
    obtain rfl := List.eq_nil_of_length_eq_zero hl
    simp
  | n + 1, xs, hl, h => by
    have hn : n < xs.length := by omega
    have e : xs = xs.take n ++ [xs[n]] := by
      have := List.take_succ_eq_append_getElem hn
      rw [← this, List.take_of_length_le (by omega)]
    have ih := sum_le (b := b) (D := D) n (xs.take n) (by rw [List.length_take]; omega) (fun i p hi => by
      have hin : i < n := by
        have := (List.getElem?_eq_some_iff.1 hi).1
        rw [List.length_take] at this
        omega
      rw [List.getElem?_take_of_lt hin] at hi
      exact h i p hi)
    have h1 := h n xs[n] (List.getElem?_eq_getElem hn)
    rw [List.range_succ, List.map_append, bulkAll_append]
    rw [e, List.map_append, List.sum_append]
    have h2 : Rows.uptoBulkAll ([n].map D) = Rows.uptoBulk (D n) := by simp [Rows.uptoBulkAll]
    rw [h2]
    have h3 : ([xs[n]].map b).sum = b xs[n] := by simp
    rw [h3]
    exact Nat.add_le_add ih h1
theorem opens_slice {d : Kd α} {b : α → Nat} {t e : TypeId} (ht : P.underlying t = some (.slice e)) (hC : P.cellsOf e = d.sz) (o : Opens enc P w base spare held d b e) : Opens enc P w base spare held (Kd.slice e d) (bL b) t := by
  intro fuel cs x h
  rcases Deep.open_slice ht h with ⟨rfl, rfl⟩ | ⟨a, len, cap, m, n, D, Pl, rfl, hb, hl, hm, hmm, rfl, hi⟩
  · exact ⟨[], ⟨none, 0, rfl, Nat.le_refl _, Kd.C_nil _ _⟩, Nat.le_refl _⟩
  · have hlm : len ≤ m := by rw [hmm]; split <;> omega
    rw [hC] at hi
    obtain ⟨xs, hxl, hxs⟩ := list_of (Q := fun i p => ∃ c : List Value, c.length = d.sz ∧ (d.K w p c ∧ b p ≤ Rows.uptoBulk (D i)) ∧ ∀ j u, c[j]? = some u → w.cell? (a.add (i * d.sz + j)) = some u) len (fun i hil => by
      obtain ⟨c, hc, htr⟩ := hi i (by omega)
      obtain ⟨p, hp⟩ := o _ _ _ htr
      obtain ⟨_, hcl, hat⟩ := World.cells?_some hc
      refine ⟨p, c, hcl, hp, fun j u hu => ?_⟩
      have hj : j < c.length := (List.getElem?_eq_some_iff.1 hu).1
      rw [← Deep.add_add, hat j (by omega), hu])
    refine ⟨xs, ⟨some a, cap, by rw [hxl], by omega, rfl, by have := hm; unfold maxLen at this; omega, fun _ => ⟨a, rfl, fun j p hj => ?_⟩⟩, ?_⟩
    · obtain ⟨c, h1, h2, h3⟩ := hxs j p hj
      exact ⟨c, h1, h2.1, h3⟩
    · show (xs.map b).sum + 1 ≤ Rows.uptoBulkAll ((List.range len).map D) + _ + 1
      have := sum_le (b := b) (D := D) len xs hxl (fun i p hp => by obtain ⟨c, _, h2, _⟩ := hxs i p hp; exact h2.2)
      omega
theorem opens_iso {d : Kd α} {b : α → Nat} {e : TypeId} (f : β → α) (g : α → β) (hg : ∀ p, f (g p) = p) (o : Opens enc P w base spare held d b e) : Opens enc P w base spare held (Kd.iso d f) (fun x => b (f x)) e := by
  intro fuel cs x h
  obtain ⟨p, hk, hb⟩ := o fuel cs x h
  refine ⟨g p, ?_, by show b (f (g p)) ≤ _; rw [hg]; exact hb⟩
  show d.K w (f (g p)) cs
  rw [hg]
  exact hk
theorem split_two {cs : List Value} {a b : Nat} (h : cs.length = a + b) : cs = (cs.drop 0).take a ++ (cs.drop a).take b := by
  rw [List.drop_zero, List.take_of_length_le (l := cs.drop a) (by rw [List.length_drop]; omega), List.take_append_drop]
theorem split_three {cs : List Value} {a b c : Nat} (h : cs.length = a + (b + c)) : cs = (cs.drop 0).take a ++ ((cs.drop a).take b ++ (cs.drop (a + b)).take c) := by
  have h2 : cs.drop a = (cs.drop a).take b ++ (cs.drop (a + b)).take c := by
    have := split_two (cs := cs.drop a) (a := b) (b := c) (by rw [List.length_drop]; omega)
    rwa [List.drop_zero, List.drop_drop] at this
  rw [← h2, List.drop_zero, List.take_append_drop]
theorem opens_two {d1 : Kd α} {d2 : Kd β} {b1 : α → Nat} {b2 : β → Nat} {e : TypeId} {f0 f1 : Field} (he : P.underlying e = some (.struct #[f0, f1])) (h0 : f0.offset = 0) (h1 : f1.offset = d1.sz)
    (hc0 : P.cellsOf f0.type = d1.sz) (hc1 : P.cellsOf f1.type = d2.sz) (hC : P.cellsOf e = d1.sz + d2.sz) (o1 : Opens enc P w base spare held d1 b1 f0.type) (o2 : Opens enc P w base spare held d2 b2 f1.type) :
    Opens enc P w base spare held (Kd.pair d1 d2) (fun p => b1 p.1 + b2 p.2 + 1) e := by
  intro fuel cs x h
  obtain ⟨ys, n, _, rfl, hlen, hyl, hf⟩ := DataW.trod_struct he h
  have t0 := hf 0 f0 rfl
  have t1 := hf 1 f1 rfl
  rw [h0, hc0] at t0
  rw [h1, hc1] at t1
  match ys, hyl with
  | [y0, y1], _ =>
    obtain ⟨p0, k0, l0⟩ := o1 _ _ _ t0
    obtain ⟨p1, k1, l1⟩ := o2 _ _ _ t1
    refine ⟨(p0, p1), ⟨_, _, split_two (by rw [hlen, hC]), k0, k1⟩, ?_⟩
    show b1 p0 + b2 p1 + 1 ≤ Rows.uptoBulk y0.1 + (Rows.uptoBulk y1.1 + 0) + 1
    omega
theorem opens_three {γ : Type} {d1 : Kd α} {d2 : Kd β} {d3 : Kd γ} {b1 : α → Nat} {b2 : β → Nat} {b3 : γ → Nat} {e : TypeId} {f0 f1 f2 : Field} (he : P.underlying e = some (.struct #[f0, f1, f2])) (h0 : f0.offset = 0) (h1 : f1.offset = d1.sz) (h2 : f2.offset = d1.sz + d2.sz)
    (hc0 : P.cellsOf f0.type = d1.sz) (hc1 : P.cellsOf f1.type = d2.sz) (hc2 : P.cellsOf f2.type = d3.sz) (hC : P.cellsOf e = d1.sz + (d2.sz + d3.sz)) (o1 : Opens enc P w base spare held d1 b1 f0.type) (o2 : Opens enc P w base spare held d2 b2 f1.type) (o3 : Opens enc P w base spare held d3 b3 f2.type) :
    Opens enc P w base spare held (Kd.pair d1 (Kd.pair d2 d3)) (fun p => b1 p.1 + (b2 p.2.1 + b3 p.2.2) + 1) e := by
  intro fuel cs x h
  obtain ⟨ys, n, _, rfl, hlen, hyl, hf⟩ := DataW.trod_struct he h
  have t0 := hf 0 f0 rfl
  have t1 := hf 1 f1 rfl
  have t2 := hf 2 f2 rfl
  rw [h0, hc0] at t0
  rw [h1, hc1] at t1
  rw [h2, hc2] at t2
  match ys, hyl with
  | [y0, y1, y2], _ =>
    obtain ⟨p0, k0, l0⟩ := o1 _ _ _ t0
    obtain ⟨p1, k1, l1⟩ := o2 _ _ _ t1
    obtain ⟨p2, k2, l2⟩ := o3 _ _ _ t2
    refine ⟨(p0, p1, p2), ⟨_, _, split_three (by rw [hlen, hC]), k0, ⟨_, _, rfl, k1, k2⟩⟩, ?_⟩
    show b1 p0 + (b2 p1 + b3 p2) + 1 ≤ Rows.uptoBulk y0.1 + (Rows.uptoBulk y1.1 + (Rows.uptoBulk y2.1 + 0)) + 1
    omega
end
section
variable {H : Type} {enc : TypeId × Value → H} {w : World} {base : Nat} {spare : Nat → Bool} {held : Bool}
theorem opens_var : Opens enc Try.prog w base spare held k51 (fun x => bS x.f0 + bS x.f1 + 1) 51 :=
  opens_iso _ (fun p => ⟨p.1, p.2⟩) (fun _ => rfl) (opens_two Try.underlying51 rfl rfl (by kernel_rfl) (by kernel_rfl) (by kernel_rfl) (opens_string Try.underlying9) (opens_string Try.underlying9))
theorem opens_vars : Opens enc Try.prog w base spare held (Kd.slice 51 k51) (bL fun x => bS x.f0 + bS x.f1 + 1) 36 :=
  opens_slice Try.underlying36 (by kernel_rfl) opens_var
theorem opens_axis : Opens enc Try.prog w base spare held k46 (fun x => bS x.f0 + bL bS x.f1 + 1) 46 :=
  opens_iso _ (fun p => ⟨p.1, p.2⟩) (fun _ => rfl) (opens_two Try.underlying46 rfl rfl (by kernel_rfl) (by kernel_rfl) (by kernel_rfl) (opens_string Try.underlying9) (opens_slice Try.underlying44 (by kernel_rfl) (opens_string Try.underlying9)))
theorem opens_axes : Opens enc Try.prog w base spare held (Kd.slice 46 k46) (bL fun x => bS x.f0 + bL bS x.f1 + 1) 22 :=
  opens_slice Try.underlying22 (by kernel_rfl) opens_axis
theorem opens_rows : Opens enc Try.prog w base spare held (Kd.slice 36 (Kd.slice 51 k51)) (bL (bL fun x => bS x.f0 + bS x.f1 + 1)) 23 :=
  opens_slice Try.underlying23 (by kernel_rfl) opens_vars
theorem opens_matrix : Opens enc Try.prog w base spare held k25 (fun x => (bL fun x => bS x.f0 + bL bS x.f1 + 1) x.f0 + ((bL (bL fun x => bS x.f0 + bS x.f1 + 1)) x.f1 + (bL (bL fun x => bS x.f0 + bS x.f1 + 1)) x.f2) + 1) 25 :=
  opens_iso _ (fun p => ⟨p.1, p.2.1, p.2.2⟩) (fun _ => rfl) (opens_three Try.underlying25 rfl rfl rfl (by kernel_rfl) (by kernel_rfl) (by kernel_rfl) (by kernel_rfl) opens_axes opens_rows opens_rows)
end
end Go.Proofs.Ytdgllnaeookddaa.Q
