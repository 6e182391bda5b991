/- The writer of package show: the strings.Builder that lies in it; WriteString, Len and String of it. -/
import Derived.Test.YtofajjodonhdkaaEAQ0
import Derived.Lib.Builder
import Derived.Lib.AppendStr
import Derived.Lib.UnsafeStr
import Derived.Lib.Strings
import Derived.Lib.Walk
import Derived.Lib.Hide
import Derived.WalkKit
import Derived.Laws.Externs
import Derived.Shelf.RegionOpenPlain
import Derived.KernelRfl
namespace Go.Proofs.Ytofajjodonhdkaa.Q
open Go Go.RowKit Go.Shelf Go.Proofs.YtofajjodonhdkaaW.PrintWords
set_option linter.unusedVariables false
set_option linter.unusedSimpArgs false
theorem bld_size : (Try.prog.info? 40).map (·.size) = some 2 := by kernel_rfl
theorem bld_lies : liesAt Try.prog Try.prog.depth 42 (4 / Try.prog.cellsOf 42) 1 40 1 = true := by kernel_rfl
theorem byte_info : (Try.prog.info? 5).map (fun i => (i.zero, i.size, i.bytes)) = some (some (.int .u8 0), 1, 1) := by kernel_rfl
theorem byte_cells : Try.prog.cellsOf 5 = 1 := by kernel_rfl
/-- What a writer's call keeps of the blocks below N: all but the writer and rows of bytes; below base all. -/
structure Fr (N base b : Nat) (w w' : World) : Prop where
  os : w'.os = w.os
  tape : w'.tape = w.tape
  output : w'.output = w.output
  size : w.heap.size ≤ w'.heap.size
  block : ∀ k, k < N → k < w.heap.size → (k < base ∨ (k ≠ b ∧ ∀ cs fr, w.heap[k]? ≠ some (.cells cs 5 fr))) → w'.heap[k]? = w.heap[k]?
theorem Fr.refl (N base b : Nat) (w : World) : Fr N base b w w := ⟨rfl, rfl, rfl, Nat.le_refl _, fun _ _ _ _ => rfl⟩
theorem Fr.trans {N base b : Nat} {x y z : World} (h : Fr N base b x y) (k : Fr N base b y z) : Fr N base b x z := by
  refine ⟨k.os.trans h.os, k.tape.trans h.tape, k.output.trans h.output, Nat.le_trans h.size k.size, fun i hN hi hc => ?_⟩
  have e := h.block i hN hi hc
  refine (k.block i hN (Nat.lt_of_lt_of_le hi h.size) ?_).trans e
  rw [e]
  exact hc
theorem Fr.less {N M base b : Nat} {x y : World} (h : Fr N base b x y) (hM : M ≤ N) : Fr M base b x y := ⟨h.os, h.tape, h.output, h.size, fun k hk hl hc => h.block k (by omega) hl hc⟩
theorem Fr.of_below {B N base b : Nat} {x y : World} (h : Below B x y) (hN : N ≤ B) : Fr N base b x y := ⟨h.os, h.tape, h.output, h.size, fun k hk _ _ => h.block k (by omega)⟩
theorem Fr.to_below {N base b : Nat} {x y : World} (h : Fr N base b x y) (hN : base ≤ N) (hx : base ≤ x.heap.size) : Below base x y := ⟨h.os, h.tape, h.output, h.size, fun k hk => h.block k (by omega) (by omega) (.inl hk)⟩
/-- The writer at block b: its tree, the bytes that are written, the lines. -/
def Wt (base b : Nat) (tv : Value) (bs : List UInt8) (n : Int) (w : World) : Prop :=
  base ≤ b ∧ ∃ p v, (p = .pointer none ∨ p = .pointer (some ⟨b, 1, none⟩)) ∧ w.heap[b]? = some (.cells #[tv, p, v, .int .i64 n] 42 (0, 0)) ∧ w.ownsRow base 5 1 v bs.length (Lib.byteCells bs)
theorem Wt.lt {base b : Nat} {tv : Value} {bs : List UInt8} {n : Int} {w : World} (h : Wt base b tv bs n w) : b < w.heap.size := by
  obtain ⟨_, p, v, _, hb, _⟩ := h
  exact (Array.getElem?_eq_some_iff.1 hb).1
theorem own_ne {w : World} {base b : Nat} {v : Value} {n : Nat} {xs : List Value} {cs : Array Value} {fr : Nat × Nat} (hown : w.ownsRow base 5 1 v n xs) (hb : w.heap[b]? = some (.cells cs 42 fr)) : v.ownBlock ≠ some b := Lib.ownBlock_ne hown hb (by decide)
/-- Blocks that lie as they lay keep a writer. -/
theorem Wt.keep {base b N : Nat} {tv : Value} {bs : List UInt8} {n : Int} {w w' : World} (h : Wt base b tv bs n w) (hb : Below N w w') (hN : w.heap.size ≤ N) : Wt base b tv bs n w' := by
  have hlt := h.lt
  obtain ⟨h0, p, v, hp, hbk, hown⟩ := h
  refine ⟨h0, p, v, hp, (hb.block b (by omega)).trans hbk, own_move hown (fun k hk => hb.block k ?_)⟩
  exact Nat.lt_of_lt_of_le (hown.lt k hk).2 hN
theorem Wt.own_set {base b : Nat} {v : Value} {bs : List UInt8} {w : World} (hown : w.ownsRow base 5 1 v bs.length (Lib.byteCells bs)) (hne : v.ownBlock ≠ some b) (j : Nat) (u : Value) : (w.setCell ⟨b, j, none⟩ u).ownsRow base 5 1 v bs.length (Lib.byteCells bs) :=
  own_move hown (fun k hk => Below.heap_setCell w ⟨b, j, none⟩ u k (fun e => hne (by rw [hk, e])))
theorem fr_set {base b N : Nat} (w : World) (hb : base ≤ b) (j : Nat) (u : Value) : Fr N base b w (w.setCell ⟨b, j, none⟩ u) :=
  ⟨rfl, rfl, rfl, by simp [World.setCell], fun k _ _ hc => Below.heap_setCell w ⟨b, j, none⟩ u k (by
    rintro rfl
    rcases hc with h | h
    · exact absurd h (Nat.not_lt.2 hb)
    · exact h.1 rfl)⟩
theorem fr_grown {base b N : Nat} {w w' : World} {v : Value} {n : Nat} {xs : List Value} (hown : w.ownsRow base 5 1 v n xs) (hg : w.grownBy w' v.ownBlock) : Fr N base b w w' :=
  ⟨hg.os, hg.tape, hg.output, hg.size, fun k _ hk hc => hg.block k hk (fun e => by
    rcases hown.2 with ⟨rfl, _⟩ | ⟨g, cap, cur, rfl, hge, hh, _⟩
    · simp [Value.ownBlock] at e
    · simp only [Value.ownBlock, Option.some.injEq] at e
      subst e
      rcases hc with h | h
      · omega
      · exact h.2 _ _ hh)⟩
set_option maxHeartbeats 1000000 in
set_option maxRecDepth 100000 in
theorem copyCheck_any (base b : Nat) (tv : Value) (bs : List UInt8) (n : Int) (w : World) (h : Wt base b tv bs n w) :
    Calls Try.prog 40 #[.pointer (some ⟨b, 1, none⟩)] w fun e w' => e = .returned (.tuple #[]) ∧ (∃ v, base ≤ b ∧ w'.heap[b]? = some (.cells #[tv, .pointer (some ⟨b, 1, none⟩), v, .int .i64 n] 42 (0, 0)) ∧ w'.ownsRow base 5 1 v bs.length (Lib.byteCells bs)) ∧ ∀ N, Fr N base b w w' := by
  obtain ⟨h0, p, v, hp, hbk, hown⟩ := h
  have hne := own_ne hown hbk
  obtain ⟨j, hj, hjs⟩ := Option.map_eq_some_iff.1 bld_size
  have HOWN := Aside0.mk hown
  have HNE := Aside0.mk hne
  have HBK := Aside0.mk hbk
  clear hown hne
  rcases hp with rfl | rfl
  · have c0 : w.cell? ⟨b, 1, none⟩ = some (.pointer none) := by rw [Lib.cell_of_heap hbk]; rfl
    have f0 : w.frozen? ⟨b, 1, none⟩ = false := Lib.frozen_of_heap hbk 1
    have hsh : w.shape? b = some (42, 4) := by simp [World.shape?, hbk]
    clear hbk
    go_enter Try.func40, Try.ntmps40
    go_wp2
    rw [Lib.run_to_unsafe w ⟨b, 1, none⟩ Try.underlying38 Try.underlying74 hj (by rw [hjs]; decide) hsh (by show 1 < 4; decide)]
    simp only [Result.andThen]
    rw [Oper.upon_value]
    go_wp2
    rw [run_callFunc_extern Try.func53 (by kernel_rfl) (by kernel_rfl) (by kernel_rfl) (e := Extern.AbiNoEscape.same) (by kernel_rfl)]
    rw [Lib.run_noEscape]
    simp only [Result.andThen]
    rw [Oper.upon_value]
    go_wp2
    rw [Lib.run_from_unsafe w ⟨b, 1, none⟩ Try.underlying74 Try.underlying38 hj hsh bld_lies]
    simp only [Result.andThen]
    rw [Oper.upon_value]
    go_wp2
    go_end0
    refine ⟨rfl, ⟨v, h0, ?_, Wt.own_set HOWN.out HNE.out 1 _⟩, fun N => fr_set w h0 1 _⟩
    exact blk_put HBK.out 1 _ rfl
  · have c0 : w.cell? ⟨b, 1, none⟩ = some (.pointer (some ⟨b, 1, none⟩)) := by rw [Lib.cell_of_heap hbk]; rfl
    clear hbk
    go_enter Try.func40, Try.ntmps40
    go_wp2
    rw [Lib.run_neq_ptr_same w _ Try.underlying38 hj]
    go_wp2
    go_end0
    exact ⟨rfl, ⟨v, h0, HBK.out, HOWN.out⟩, fun N => Fr.refl _ _ _ _⟩
set_option maxHeartbeats 1000000 in
set_option maxRecDepth 100000 in
theorem len_any (base b : Nat) (tv : Value) (bs : List UInt8) (n : Int) (w : World) (h : Wt base b tv bs n w) :
    Calls Try.prog 21 #[.pointer (some ⟨b, 1, none⟩)] w fun e w' => e = .returned (.int .i64 bs.length) ∧ w' = w := by
  obtain ⟨h0, p, v, hp, hbk, hown⟩ := h
  obtain ⟨ao, cap, rfl⟩ : ∃ ao cap, v = .slice ao bs.length cap := by
    rcases hown.2 with ⟨hv, h0⟩ | ⟨g, cap, cur, hv, _⟩
    · exact ⟨none, 0, by rw [hv, h0]⟩
    · exact ⟨_, _, hv⟩
  have c1 : w.cell? ⟨b, 2, none⟩ = some (.slice ao bs.length cap) := by rw [Lib.cell_of_heap hbk]; rfl
  clear hbk hown hp
  go_enter Try.func21, Try.ntmps21
  go_wp2
  go_ret
  exact ⟨rfl, rfl⟩
set_option maxHeartbeats 2000000 in
set_option maxRecDepth 100000 in
theorem write_any (base b : Nat) (tv : Value) (bs : List UInt8) (n : Int) (s : ByteArray) (w : World) (h : Wt base b tv bs n w) (hlen : bs.length + s.size ≤ 140737488355328) :
    Calls Try.prog 32 #[.pointer (some ⟨b, 1, none⟩), .string s] w fun e w' => e = .returned (.tuple #[.int .i64 s.size, .nilIface]) ∧ Wt base b tv (bs ++ s.data.toList) n w' ∧ ∀ N, Fr N base b w w' := by
  obtain ⟨i0, hi, hz0, hz1, hz2⟩ := info_parts byte_info
  have hlt := h.lt
  have HW := Aside0.mk h
  clear h
  go_enter Try.func32, Try.ntmps32
  go_wp2_with (go_at_call 40; refine (copyCheck_any base b tv bs n _ HW.out).mono ?_)
  rintro e w1 ⟨rfl, ⟨v, hB, hbk, hown⟩, hf1⟩
  have c1 : w1.cell? ⟨b, 2, none⟩ = some v := by rw [Lib.cell_of_heap hbk]; rfl
  have hsz := (hf1 0).size
  go_wp2_with (at_builtin; refine Lib.wpList_append_own_string _ rfl _ _ 34 9 rfl base 5 i0 Try.underlying34 Try.underlying9 hi hz0 hz1 hz2 _ _ _ rfl hown s rfl ?c3 ?c4 ?c5 ?_)
  case c3 => unfold maxLen; omega
  case c4 => omega
  case c5 => omega
  intro v' w2 hown' hgrow _
  have hne := own_ne hown hbk
  have hb2 : w2.heap[b]? = some (.cells #[tv, .pointer (some ⟨b, 1, none⟩), v, .int .i64 n] 42 (0, 0)) := by
    rw [hgrow.block b (by omega) (fun e => hne e.symm)]
    exact hbk
  have d1 : w2.cell? ⟨b, 2, none⟩ = some v := by rw [Lib.cell_of_heap hb2]; rfl
  have f1 : w2.frozen? ⟨b, 2, none⟩ = false := Lib.frozen_of_heap hb2 2
  obtain ⟨ao, n', cap, rfl⟩ : ∃ ao n' cap, v' = .slice ao n' cap := by
    rcases hown'.2 with ⟨hv, _⟩ | ⟨g, cap, cur, hv, _⟩
    · exact ⟨_, _, _, hv⟩
    · exact ⟨_, _, _, hv⟩
  go_wp2
  go_ret2
  refine ⟨rfl, ⟨hB, _, .slice ao n' cap, .inr rfl, blk_put hb2 2 _ rfl, ?_⟩, fun N => ((hf1 N).trans (fr_grown hown hgrow)).trans (fr_set _ hB 2 _)⟩
  have e1 : Lib.byteCells bs ++ Lib.strCells s = Lib.byteCells (bs ++ s.data.toList) := by rw [Lib.strCells_eq, Lib.byteCells_append]
  have e2 : bs.length + s.size = (bs ++ s.data.toList).length := by rw [List.length_append, Array.length_toList]; rfl
  rw [e1, e2] at hown'
  exact Wt.own_set hown' (own_ne hown' hb2) 2 _
end Go.Proofs.Ytofajjodonhdkaa.Q
