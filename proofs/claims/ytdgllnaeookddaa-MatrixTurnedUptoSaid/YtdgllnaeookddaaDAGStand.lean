/- Where the matrix package's iterator stands: its n-th call. -/
import Derived.Test.YtdgllnaeookddaaDAGBuildP
import Derived.Test.YtdgllnaeookddaaDAGNext
namespace Go.Proofs.Ytdgllnaeookddaa.Q
open Go.RowKit Go.Proofs.YtdgllnaeookddaaW.PrintWords Go.Proofs.YtdgllnaeookddaaW.PrintLast Go.Proofs.YtdgllnaeookddaaW.PrintMore
set_option linter.unusedVariables false
set_option linter.unusedSimpArgs false
/-- How many picks there are. -/
def many (axes : AX) : Nat := if leftB axes = true then prodL (lens axes) else 0
theorem leftB_pos {axes : AX} (h : leftB axes = true) : 0 < axes.length ∧ ∀ k ∈ lens axes, 0 < k := by
  unfold leftB at h
  rw [Bool.and_eq_true, decide_eq_true_eq, List.all_eq_true] at h
  refine ⟨h.1, fun k hk => ?_⟩
  unfold lens at hk
  obtain ⟨a, ha, rfl⟩ := List.mem_map.1 hk
  simpa using h.2 a ha
theorem many_pos {axes : AX} : leftB axes = decide (0 < many axes) := by
  unfold many
  cases h : leftB axes with
  | true =>
    rw [if_pos rfl]
    exact (decide_eq_true (prodL_pos (leftB_pos h).2)).symm
  | false => rfl
theorem many_eq {axes : AX} (h : 0 < axes.length) : many axes = prodL (lens axes) := by
  unfold many
  split
  · rfl
  case isFalse hl =>
    have h2 : ∃ a ∈ axes, a.f1.length = 0 := by
      refine Classical.byContradiction fun hn => hl ?_
      unfold leftB
      rw [Bool.and_eq_true, decide_eq_true_eq, List.all_eq_true]
      refine ⟨h, fun a ha => decide_eq_true (Nat.pos_of_ne_zero fun h0 => hn ⟨a, ha, h0⟩)⟩
    obtain ⟨a, ha, h0⟩ := h2
    clear h hl
    induction axes with
    | nil => cases ha
    | cons b r ih =>
      show 0 = b.f1.length * prodL (lens r)
      rcases List.mem_cons.1 ha with e | e
      · subst e
        rw [h0, Nat.zero_mul]
      · rw [← ih e, Nat.mul_zero]
theorem allPicks_eq (axes : AX) : allPicks axes = (List.range (many axes)).map fun n => pickOf axes (digitsR (lens axes) n) := by
  unfold allPicks
  split
  case isTrue h =>
    have : many axes = 0 := by unfold many leftB; simp [h]
    rw [this]
    rfl
  case isFalse h => rw [many_eq (Nat.pos_of_ne_zero h)]
theorem allPicks_length (axes : AX) : (allPicks axes).length = many axes := by rw [allPicks_eq]; simp
theorem allPicks_at {axes : AX} {n : Nat} (h : n < many axes) : (allPicks axes).getD n [] = pickOf axes (digitsR (lens axes) n) := by
  rw [allPicks_eq]
  simp [h]
theorem allPicks_end {axes : AX} {n : Nat} (h : ¬ n < many axes) : (allPicks axes).getD n [] = [] := by
  rw [List.getD_eq_getElem?_getD, List.getElem?_eq_none (by rw [allPicks_length]; omega)]
  rfl
def Stand (w : World) (s : Nat) (A : Option Addr) (c : Nat) (axes : AX) (n : Nat) : Prop := PickSt w s (decide (n < many axes)) A axes.length c (digitsR (lens axes) n)
theorem stand_zero {A : Option Addr} {c : Nat} {axes : AX} {w w' : World} (h : PicksPost A c axes w w') : Stand w' w.heap.size A c axes 0 := by
  have := h.1
  rw [many_pos] at this
  unfold Stand
  rw [digitsR_zero, lens_length]
  exact this
structure NextGot (w : World) (s : Nat) (A : Option Addr) (c : Nat) (axes : AX) (n : Nat) (v : Value) (w' : World) : Prop where
  made : Kd.R k51 51 w' w.heap.size (fun _ => True) v ((allPicks axes).getD n [])
  st : Stand w' s A c axes (if n < many axes then n + 1 else n)
  below : Below s w w'
  kept : Kept w w' (fun k => k = s + 1 ∨ k = s + 1 + 1 + 1)
theorem next_any (s : Nat) (A : Option Addr) (c : Nat) (axes : AX) (n : Nat) (w : World) (hp : Stand w s A c axes n) (hR : ∀ W, Below s w W → Kd.C k46 W A axes.length axes) (h8 : axes.length ≤ 8) :
    Calls Try.prog 56 #[.pointer (some ⟨s + 1 + 1 + 1, 0, none⟩), .pointer (some ⟨s, 0, none⟩), .pointer (some ⟨s + 1 + 1, 0, none⟩)] w fun e w' => ∃ v, e = .returned (.tuple #[v, .bool (decide (n < many axes))]) ∧ NextGot w s A c axes n v w' := by
  unfold Stand at hp
  by_cases h : n < many axes
  · have hl : leftB axes = true := by rw [many_pos]; exact decide_eq_true (by omega)
    have hm : many axes = prodL (lens axes) := if_pos hl
    have hpos := (leftB_pos hl).2
    rw [decide_eq_true h] at hp ⊢
    have hdl : (digitsR (lens axes) n).length = axes.length := by rw [digitsR_length, lens_length]
    refine (next_some s A c axes (digitsR (lens axes) n) w hp hR hdl (fun i hi => digits_lt hpos n i (by rw [lens_length]; exact hi)) h8).mono ?_
    rintro e w' ⟨v, rfl, hq⟩
    refine ⟨v, rfl, by rw [allPicks_at h]; exact hq.made, ?_, hq.below, hq.kept⟩
    have hst := hq.st
    rw [carry_digits hpos n] at hst
    rw [if_pos h]
    unfold Stand
    have e : (!decide ((n + 1) % prodL (lens axes) = 0)) = decide (n + 1 < many axes) := by
      rw [hm]
      rw [hm] at h
      by_cases hn : n + 1 < prodL (lens axes)
      · rw [decide_eq_true hn, Nat.mod_eq_of_lt hn]
        simp
      · have : n + 1 = prodL (lens axes) := by omega
        rw [decide_eq_false hn, this, Nat.mod_self]
        rfl
    rw [← e]
    exact hst
  · rw [decide_eq_false h] at hp ⊢
    refine (next_none s A axes.length c _ w hp).mono ?_
    rintro e w' ⟨rfl, rfl⟩
    refine ⟨_, rfl, by rw [allPicks_end h]; exact Kd.R_nil _ _ _ _ _, ?_, Below.refl _ _, Kept.refl _ _⟩
    rw [if_neg h]
    unfold Stand
    rw [decide_eq_false h]
    exact hp
theorem S_next {α : Type} {d : Kd α} {e : Nat} {W w1 : World} {base : Nat} {ok : Nat → Prop} {u v : Value} {xs : List α} {M : Nat → Prop} (h : Kd.S d e W base ok u xs) (hk : Kept W w1 M) (hM : ∀ k, M k → ∃ cells t, W.heap[k]? = some (.cells cells t (0, 0)) ∧ ∀ q, q ∈ e :: d.E → q ≠ t)
    (hbase : ∀ k, v.ownBlock = some k → W.heap.size ≤ k) : Kd.S d e w1 base (fun k => ok k ∧ some k ≠ v.ownBlock) u xs := by
  have hb := Kd.S_bound h
  refine Kd.S_mono (Kd.S_move hb (fun k hk' => hk.2 k hk'.2.2.1 (fun hm => ?_))) (fun k hk' => ⟨hk'.1, fun he => ?_⟩)
  · obtain ⟨cells, t, hc, hq⟩ := hM k hm
    obtain ⟨q, hqm, cells', hc'⟩ := hk'.2.2.2
    rw [hc] at hc'
    injection hc' with hc'
    injection hc' with _ ht _
    exact hq q hqm ht.symm
  · have := hbase k he.symm
    have := hk'.2.2.1
    omega
theorem Stand.types {w : World} {s : Nat} {A : Option Addr} {c : Nat} {axes : AX} {n : Nat} (h : Stand w s A c axes n) : ∀ k, (k = s + 1 ∨ k = s + 1 + 1 + 1) → ∃ cells t, w.heap[k]? = some (.cells cells t (0, 0)) ∧ ∀ q, q ∈ 36 :: (Kd.slice 51 k51).E → q ≠ t := by
  intro k hk
  rcases hk with rfl | rfl
  · exact ⟨_, _, h.row, by decide⟩
  · exact ⟨_, _, h.left, by decide⟩
theorem Stand.below {w w' : World} {s : Nat} {A : Option Addr} {c : Nat} {axes : AX} {n : Nat} (h : Stand w s A c axes n) (hb : Below w.heap.size w w') : Stand w' s A c axes n := PickSt.below h hb
theorem Stand.grown {w w' : World} {s : Nat} {A : Option Addr} {c : Nat} {axes : AX} {n base : Nat} {ok : Nat → Prop} {v : Value} {xs : List (List SV)} (h : Stand w s A c axes n) (hg : w.grownBy w' v.ownBlock) (ho : Kd.S (Kd.slice 51 k51) 36 w base ok v xs) : Stand w' s A c axes n :=
  ⟨blk_grown h.axes hg (Kd.S_ne ho h.axes (by decide)), blk_grown h.row hg (Kd.S_ne ho h.row (by decide)), blk_grown h.box hg (Kd.S_ne ho h.box (by decide)), blk_grown h.left hg (Kd.S_ne ho h.left (by decide))⟩
theorem many_small {axes : AX} {inc exc : List (List SV)} (hz : checkI axes inc exc = 0) (h : ¬ 256 < countI axes inc exc) (hb : ¬ (axes.length = 0 ∧ inc.length = 0)) : many axes ≤ 256 ∧ inc.length ≤ 256 := by
  unfold countI most at h
  rw [if_pos hz, if_neg hb] at h
  by_cases h0 : axes.length = 0
  · rw [if_pos h0] at h
    have : many axes = 0 := by unfold many leftB; simp [h0]
    omega
  · rw [if_neg h0] at h
    rw [many_eq (by omega)]
    omega
end Go.Proofs.Ytdgllnaeookddaa.Q
