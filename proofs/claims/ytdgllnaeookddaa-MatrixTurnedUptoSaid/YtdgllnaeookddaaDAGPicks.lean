/- The matrix package's iterator over picks: what picks makes. -/
import Derived.Test.YtdgllnaeookddaaDAGNames
import Derived.Test.YtdgllnaeookddaaDAGOdo
namespace Go.Proofs.Ytdgllnaeookddaa.Q
open Go.RowKit Go.Proofs.YtdgllnaeookddaaW.PrintWords
set_option linter.unusedVariables false
set_option linter.unusedSimpArgs false
/-- What the closure has captured: the axes, the places, whether one is left; the places' own row stands behind the axes' box. -/
structure PickSt (w : World) (s : Nat) (left : Bool) (A : Option Addr) (n c : Nat) (at_ : List Nat) : Prop where
  axes : w.heap[s]? = some (.cells #[.slice A n c] 22 (0, 0))
  row : w.heap[s + 1]? = some (.cells (at_.map fun (d : Nat) => Value.int .i64 (d : Int)).toArray 3 (0, 0))
  box : w.heap[s + 1 + 1]? = some (.cells #[.slice (some ⟨s + 1, 0, none⟩) n n] 43 (0, 0))
  left : w.heap[s + 1 + 1 + 1]? = some (.cells #[.bool left] 4 (0, 0))
theorem PickSt.below {w w' : World} {s : Nat} {left : Bool} {A : Option Addr} {n c : Nat} {at_ : List Nat} (h : PickSt w s left A n c at_) (hb : Below w.heap.size w w') : PickSt w' s left A n c at_ :=
  ⟨blk_below h.axes hb, blk_below h.row hb, blk_below h.box hb, blk_below h.left hb⟩
theorem madeCells_ints (n : Nat) : madeCells #[Value.int .i64 0] n = ((List.replicate n 0).map fun (d : Nat) => Value.int .i64 (d : Int)).toArray := by
  apply Array.ext
  · simp [madeCells]
  · intro i h1 h2
    simp [madeCells, Nat.mod_one]
def lefts (axes : AX) (k : Nat) : Bool := (axes.take k).all fun a => decide (0 < a.f1.length)
theorem lefts_step (axes : AX) (k : Nat) (h : k < axes.length) : lefts axes (k + 1) = (lefts axes k && decide (0 < (rd_T46 axes (k : Int)).f1.length)) := by
  unfold lefts
  rw [List.take_succ_eq_append_getElem h, List.all_append]
  simp [rd_T46, h]
def PicksRel (w : World) (A : Option Addr) (c : Nat) (axes : AX) (i : Value) (wr : World) : Prop :=
  ∃ k : Nat, k ≤ axes.length ∧ i = .int .i64 k ∧ PickSt wr w.heap.size (lefts axes k) A axes.length c (List.replicate axes.length 0) ∧ Below w.heap.size w wr
def PicksPost (A : Option Addr) (c : Nat) (axes : AX) (w : World) (w' : World) : Prop := PickSt w' w.heap.size (leftB axes) A axes.length c (List.replicate axes.length 0) ∧ Below w.heap.size w w'
theorem PickSt.next {wr : World} {s n c : Nat} {left : Bool} {A : Option Addr} {at_ : List Nat} (h : PickSt wr s left A n c at_) (o : Obj) (left' : Bool) : PickSt ((wr.setCell ⟨s + 1 + 1 + 1, 0, none⟩ (.bool left')).alloc o) s left' A n c at_ := by
  refine ⟨blk_alloc (blk_far h.axes (show s ≠ s + 1 + 1 + 1 by omega) _) _, blk_alloc (blk_far h.row (show s + 1 ≠ s + 1 + 1 + 1 by omega) _) _, blk_alloc (blk_far h.box (show s + 1 + 1 ≠ s + 1 + 1 + 1 by omega) _) _, blk_alloc ?_ _⟩
  have := blk_set h.left 0 (.bool left')
  simpa using this
theorem below_next {w wr : World} (h : Below w.heap.size w wr) (k : Nat) (v : Value) (o : Obj) : Below w.heap.size w ((wr.setCell ⟨w.heap.size + k, 0, none⟩ v).alloc o) :=
  below_alloc (h.setCell (p := ⟨w.heap.size + k, 0, none⟩) (show w.heap.size ≤ w.heap.size + k by omega) v) o
set_option maxRecDepth 100000 in
theorem picks_any (A : Option Addr) (c : Nat) (axes : AX) (w : World) (hr : Kd.C k46 w A axes.length axes) (h8 : axes.length ≤ 8) :
    Calls Try.prog 35 #[.slice A axes.length c] w fun e w' =>
      e = .returned (.func (.func 56) #[] #[.pointer (some ⟨w.heap.size + 1 + 1 + 1, 0, none⟩), .pointer (some ⟨w.heap.size, 0, none⟩), .pointer (some ⟨w.heap.size + 1 + 1, 0, none⟩)]) ∧
      PicksPost A c axes w w' := by
  have hst : PickSt ((((w.alloc (.cells #[.slice A axes.length c] 22)).alloc (.cells (madeCells #[.int .i64 0] axes.length) 3)).alloc (.cells #[.slice (some ⟨w.heap.size + 1, 0, none⟩) axes.length axes.length] 43)).alloc (.cells #[.bool (decide (0 < axes.length))] 4)) w.heap.size (decide (0 < axes.length)) A axes.length c (List.replicate axes.length 0) :=
    ⟨blk_alloc (blk_alloc (blk_alloc (blk_new _ _) _) _) _, by rw [← madeCells_ints]; exact blk_alloc (blk_alloc (by simpa using blk_new (w.alloc _) _) _) _, blk_alloc (by simpa using blk_new ((w.alloc _).alloc _) _) _, by simpa using blk_new (((w.alloc _).alloc _).alloc _) _⟩
  have hR := Aside0.mk hr
  clear hr
  have hst' := Aside0.mk hst
  clear hst
  have hmk := print_make (P := Try.prog) 43 3 .i64 8 Try.underlying43 (by kernel_rfl) (by omega) axes.length (by omega)
  by_cases h0 : axes.length = 0
  · have hfin := Aside0.mk (show leftB axes = decide (0 < axes.length) by simp [leftB, h0])
    have hmk0 : ∀ W : World, (Instr.makeSlice 43 (.int .i64 0) (.int .i64 0)).run Try.prog W = .ok (.slice (some ⟨W.heap.size, 0, none⟩) 0 0) (W.alloc (.cells (madeCells #[.int .i64 0] 0) 3)) := fun W => by have := hmk W; rw [h0] at this; exact this
    clear hmk
    rw [h0] at hst'
    have hst2 := Aside0.mk (show PicksPost A c axes w _ from ⟨by rw [hfin.out, h0]; exact hst'.out, ((((Below.refl _ _).alloc (Nat.le_refl _) _).alloc (by simp) _).alloc (by simp; omega) _).alloc (by simp; omega) _⟩)
    clear hst' hR hfin
    go_enter Try.func35, Try.ntmps35
    go_wp2
    refine wp_loop_rounds 1 ?_
    rw [rounds_succ]
    go_wp2
    go_ret
    exact ⟨rfl, by simpa using hst2.out⟩
  · have hpos : 0 < axes.length := by omega
    go_enter Try.func35, Try.ntmps35
    go_wp2
    go_loopw [15] (fun i wr => PicksRel w A c axes i wr) (fun i _ => axes.length - (intOf i).toNat)
    case atStart => exact ⟨0, Nat.zero_le _, rfl, by have := hst'.out; simp only [hpos, decide_true] at this; exact this, ((((Below.refl _ _).alloc (Nat.le_refl _) _).alloc (by simp) _).alloc (by simp; omega) _).alloc (by simp; omega) _⟩
    case round =>
      obtain ⟨k, hk, rfl, hp, hbw⟩ := hrel
      clear hst'
      by_cases hlt : k < axes.length
      · obtain ⟨ad, A0, c0, e, hx, hx1, hl, hi⟩ := at_T46 hR.out (k : Int) (by omega) (by omega)
        subst e
        replace hx : wr.cell? (ad.add (k * 2)) = _ := (hbw.cell (World.block_lt_of_cell? w _ hx)).trans hx
        replace hx1 : wr.cell? ⟨(ad.add (k * 2)).block, (ad.add (k * 2)).off + 1, none⟩ = _ := (hbw.cell (World.block_lt_of_cell? w _ hx1)).trans hx1
        have hls := Aside0.mk (lefts_step axes k hlt)
        obtain ⟨ax, hax⟩ : ∃ ax, ax = rd_T46 axes (k : Int) := ⟨_, rfl⟩
        rw [← hax] at hx hx1 hl hi hls
        clear hax
        have c1 : wr.cell? ⟨w.heap.size + 1 + 1 + 1, 0, none⟩ = some (.bool (lefts axes k)) := (blk_cell hp.left 0).trans rfl
        have hlt3 : w.heap.size + 1 + 1 + 1 < wr.heap.size := blk_lt hp.left
        have f1 := blk_frozen hp.left 0
        have hp' := Aside0.mk hp
        clear hp
        obtain ⟨b, hb⟩ : ∃ b, b = lefts axes k := ⟨_, rfl⟩
        rw [← hb] at c1 hls hp'
        clear hb
        have hb1 := Aside0.mk hbw
        have hsz := hbw.size
        cases b with
        | false =>
          have hq := Aside0.mk (show lefts axes (k + 1) = false by rw [hls.out]; rfl)
          go_wp2
          go_roundw
          case rel => exact ⟨k + 1, by omega, by go_num, by rw [hq.out]; exact hp'.out.next _ _, below_next hb1.out 3 _ _⟩
          case measure => simp [intOf]; omega
        | true =>
          by_cases hpx : 0 < ax.f1.length
          · have hq := Aside0.mk (show lefts axes (k + 1) = true by rw [hls.out]; simpa using hpx)
            go_wp2
            go_roundw
            case rel => exact ⟨k + 1, by omega, by go_num, by rw [hq.out]; exact hp'.out.next _ _, below_next hb1.out 3 _ _⟩
            case measure => simp [intOf]; omega
          · have hq := Aside0.mk (show lefts axes (k + 1) = false by rw [hls.out]; simpa using hpx)
            go_wp2
            go_roundw
            case rel => exact ⟨k + 1, by omega, by go_num, by rw [hq.out]; exact hp'.out.next _ _, below_next hb1.out 3 _ _⟩
            case measure => simp [intOf]; omega
      · have hkl : k = axes.length := by omega
        have hfin := Aside0.mk (show lefts axes k = leftB axes by
          unfold lefts leftB
          rw [List.take_of_length_le (by omega)]
          simp [hpos])
        have hpost := Aside0.mk (show PicksPost A c axes w wr from ⟨by rw [← hfin.out]; exact hp, hbw⟩)
        clear hkl hp
        go_wp2
        go_ret
        exact ⟨rfl, hpost.out⟩
end Go.Proofs.Ytdgllnaeookddaa.Q
