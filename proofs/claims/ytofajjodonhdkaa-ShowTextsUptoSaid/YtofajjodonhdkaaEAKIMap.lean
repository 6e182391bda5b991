/- Maps keyed by whole numbers that a call makes, as lists of pairs in the order in which the keys came: what a look-up and a store do to them. -/
import Derived.Maps.Own
import Derived.Maps.OwnOps
import Derived.Maps.OwnSet
import Derived.Below
namespace Go.Proofs.Ytofajjodonhdkaa.IMap
open Go.RowKit
set_option linter.unusedVariables false
set_option linter.unusedSimpArgs false
abbrev IV := List (Int × Value)
/-- The entries of a map that nothing was taken out of: each bears the number of its place. -/
def entsAt (i : Nat) (kvs : IV) : List MapEntry := (kvs.zipIdx i).map fun p => { key := .int .i64 p.1.1, val := p.1.2, born := p.2 }
def ents (kvs : IV) : Array MapEntry := (entsAt 0 kvs).toArray
def getS : IV → Int → Option Value
  | [], _ => none
  | p :: r, s => if s = p.1 then some p.2 else getS r s
def idxS : IV → Int → Option Nat
  | [], _ => none
  | p :: r, s => if s = p.1 then some 0 else (idxS r s).map (· + 1)
def setS : IV → Int → Value → IV
  | [], s, v => [(s, v)]
  | p :: r, s, v => if s = p.1 then (p.1, v) :: r else p :: setS r s v
theorem entsAt_cons (i : Nat) (p : Int × Value) (r : IV) : entsAt i (p :: r) = { key := .int .i64 p.1, val := p.2, born := i } :: entsAt (i + 1) r := by simp [entsAt]
theorem entsAt_length (i : Nat) (kvs : IV) : (entsAt i kvs).length = kvs.length := by simp [entsAt]
theorem beq_bytes (a b : Int) : (a == b) = decide (a = b) := by
  rw [Bool.eq_iff_iff]; simp
theorem findNow_ents (s : Int) : ∀ (kvs : IV) (i j : Nat), Instr.findNow (.int .i64) (.int .i64 s) (entsAt i kvs) j = some ((idxS kvs s).map fun n => (j + n, (getS kvs s).getD undef))
  | [], _, _ => rfl
  | p :: r, i, j => by
    rw [entsAt_cons]
    by_cases h : s = p.1
    · simp [Instr.findNow, Instr.sameNow, beq_bytes, h, idxS, getS]
    · simp only [Instr.findNow, Instr.sameNow, beq_bytes, h, decide_false, findNow_ents s r (i + 1) (j + 1), idxS, getS, if_false]
      cases idxS r s with
      | none => rfl
      | some n => simp; omega
theorem idx_none {kvs : IV} {s : Int} : idxS kvs s = none ↔ getS kvs s = none := by
  induction kvs with
  | nil => simp [idxS, getS]
  | cons p r ih => by_cases h : s = p.1 <;> simp [idxS, getS, h, ih]
theorem idx_some {kvs : IV} {s : Int} {n : Nat} (h : idxS kvs s = some n) : ∃ v, getS kvs s = some v ∧ kvs[n]? = some (s, v) := by
  induction kvs generalizing n with
  | nil => simp [idxS] at h
  | cons p r ih =>
    by_cases e : s = p.1
    · simp [idxS, e] at h
      subst h
      exact ⟨p.2, by simp [getS, e], by simp [e]⟩
    · simp [idxS, e] at h
      obtain ⟨m, hm, rfl⟩ := h
      obtain ⟨v, h1, h2⟩ := ih hm
      exact ⟨v, by simp [getS, e, h1], by simpa using h2⟩
theorem length_set (kvs : IV) (s : Int) (v : Value) : (setS kvs s v).length ≤ kvs.length + 1 := by
  induction kvs with
  | nil => simp [setS]
  | cons p r ih => by_cases h : s = p.1 <;> simp [setS, h, ih]
theorem set_new {kvs : IV} {s : Int} (v : Value) (h : idxS kvs s = none) : setS kvs s v = kvs ++ [(s, v)] := by
  induction kvs with
  | nil => rfl
  | cons p r ih =>
    by_cases e : s = p.1
    · simp [idxS, e] at h
    · simp [idxS, e] at h
      simp [setS, e, ih h]
theorem ents_new (kvs : IV) (s : Int) (v : Value) : (ents kvs).push { key := .int .i64 s, val := v, born := kvs.length } = ents (kvs ++ [(s, v)]) := by
  apply Array.ext'
  simp [ents, entsAt, List.zipIdx_append]
theorem entsAt_set (s : Int) (v : Value) : ∀ (kvs : IV) (i n : Nat), idxS kvs s = some n → entsAt i (setS kvs s v) = (entsAt i kvs).modify n fun e => { e with key := .int .i64 s, val := v }
  | [], _, _, h => by simp [idxS] at h
  | p :: r, i, n, h => by
    by_cases e : s = p.1
    · simp [idxS, e] at h
      subst h
      simp [setS, e, entsAt_cons, List.modify]
    · simp [idxS, e] at h
      obtain ⟨m, hm, rfl⟩ := h
      simp [setS, e, entsAt_cons, entsAt_set s v r (i + 1) m hm]
theorem ents_old {kvs : IV} {s : Int} {n : Nat} (v : Value) (h : idxS kvs s = some n) : (ents kvs).modify n (fun e => { e with key := .int .i64 s, val := v }) = ents (setS kvs s v) := by
  apply Array.ext'
  simp [ents, entsAt_set s v kvs 0 n h]
theorem length_set_old {kvs : IV} {s : Int} {n : Nat} (v : Value) (h : idxS kvs s = some n) : (setS kvs s v).length = kvs.length := by
  have := congrArg List.length (entsAt_set s v kvs 0 n h)
  simpa [entsAt_length] using this
theorem ents_at {kvs : IV} {n : Nat} {p : Int × Value} (h : kvs[n]? = some p) : (ents kvs)[n]? = some { key := .int .i64 p.1, val := p.2, born := n } := by
  simp [ents, entsAt, List.getElem?_zipIdx, h]
/-- Block b is a map of these pairs. -/
def IM (w : World) (b : Nat) (kvs : IV) : Prop := w.heap[b]? = some (.map (ents kvs) kvs.length)
section
variable {P : Program} {w w' : World} {b : Nat} {kvs : IV}
theorem IM.lt (h : IM w b kvs) : b < w.heap.size := (Array.getElem?_eq_some_iff.1 h).1
theorem IM.made (w : World) : IM (w.alloc (.map #[] 0)) w.heap.size [] := (MapKept.heap_alloc w _).1
theorem IM.kept {row : Option Nat} (h : IM w b kvs) (hg : w.grownBy w' row) (hne : some b ≠ row) : IM w' b kvs := (hg.block b h.lt hne).trans h
theorem IM.alloc (h : IM w b kvs) (o : Obj) : IM (w.alloc o) b kvs := h.kept (World.grownBy_alloc w o none) (by simp)
theorem IM.lookup {t k e : TypeId} (h : IM w b kvs) (ht : P.underlying t = some (.map k e)) (hk : P.underlying k = some (.int .i64)) {z : Value} (hz : (zeroValue e).run P w = .ok z w) (s : Int) :
    (Instr.lookup t (.map (some b)) (.int .i64 s) false).run P w = .ok ((getS kvs s).getD z) w := by
  unfold Instr.lookup
  have hf := MapKept.run_findKey (P := P) (w := w) hk (findNow_ents s kvs 0 0)
  simp only [Sem.run_bind, run_underlying ht, Result.andThen, MapKept.run_getObj_map h, Sem.run_pure, MapKept.run_checkKey (d := .int .i64) (k := .int .i64 s) hk rfl]
  rw [show (ents kvs).toList = entsAt 0 kvs from rfl, hf]
  cases hi : idxS kvs s with
  | none =>
    have hg := idx_none.1 hi
    simp [hg, hz, Result.andThen]
  | some n =>
    obtain ⟨v, hg, _⟩ := idx_some hi
    simp [hg]
theorem sameBits_string (n : Nat) (s : Int) : Instr.sameBits n (.int .i64 s) (.int .i64 s) = true := by
  cases n <;> simp [Instr.sameBits, beq_bytes]
theorem IM.update {t k e : TypeId} (h : IM w b kvs) (ht : P.underlying t = some (.map k e)) (hk : P.underlying k = some (.int .i64)) (s : Int) (v : Value) :
    ∃ w', (Instr.mapUpdate t (.map (some b)) (.int .i64 s) v).run P w = .ok () w' ∧ IM w' b (setS kvs s v) ∧ w.grownBy w' (some b) := by
  refine ⟨{ w with heap := w.heap.setIfInBounds b (.map (ents (setS kvs s v)) (setS kvs s v).length) }, ?_, (MapKept.heap_set h).1, ⟨rfl, rfl, rfl, by simp, fun i _ hi => (MapKept.heap_set h).2 i (fun e => hi (by rw [e]))⟩⟩
  unfold Instr.mapUpdate
  have hf := MapKept.run_findKey (P := P) (w := w) hk (findNow_ents s kvs 0 0)
  simp only [Sem.run_bind, run_underlying ht, Result.andThen, MapKept.run_getObj_map h, Sem.run_pure, MapKept.run_checkKey (d := .int .i64) (k := .int .i64 s) hk rfl]
  rw [show (ents kvs).toList = entsAt 0 kvs from rfl, hf]
  cases hi : idxS kvs s with
  | none =>
    simp only [Option.map_none]
    rw [ents_new, set_new v hi, MapKept.run_setObj_map _ h]
    simp
  | some n =>
    obtain ⟨v0, hg, hn⟩ := idx_some hi
    simp only [Option.map_some, Nat.zero_add, Sem.run_bind]
    rw [ents_at hn]
    simp only [Option.map_some, Option.getD_some, Instr.keyThatStays, sameBits_string, if_true, Sem.run_pure, Result.andThen]
    rw [ents_old v hi, MapKept.run_setObj_map _ h, length_set_old v hi]
end
section
variable {P : Program} (w : World) {ops : Array Oper} {rest : List Oper} {o : Oper} {a : Act} {Q : Exit → Act → World → Prop}
/-- A pair of a map's literal. -/
theorem wpList_insert_im (hg : o.guard = none) (m x v : Operand) (t : TypeId) (hop : o.op = Op.insert t m x v)
    (k e : TypeId) (ht : P.underlying t = some (.map k e)) (hk : P.underlying k = some (.int .i64)) (b : Nat) (kvs : IV)
    (hm : a.eval m = .map (some b)) (hown : IM w b kvs) (s : Int) (hx : a.eval x = .int .i64 s) (val : Value) (hv : a.eval v = val)
    (hK : ∀ w', IM w' b (setS kvs s val) → w.grownBy w' (some b) → wpList P ops Q rest (a.put o.dst undef) w') : wpList P ops Q (o :: rest) a w := by
  refine wpList_plain hg fun K' hK' => ?_
  obtain ⟨w', hrun, r1, r2⟩ := hown.update ht hk s val
  unfold Oper.wp
  simp [execOp, hop, hm, hx, hv, hrun, Result.andThen]
  exact hK' _ _ (hK w' r1 r2)
end
end Go.Proofs.Ytofajjodonhdkaa.IMap
