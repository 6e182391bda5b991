/- Maps keyed by texts that a call makes, as lists of pairs in the order in which the keys came: what a look-up, a store and a range do to them. -/
import Derived.Maps.Own
import Derived.Maps.OwnOps
import Derived.Maps.OwnSet
import Derived.Below
namespace Go.Proofs.Ytdgllnaeookddaa.SMap
open Go.RowKit
set_option linter.unusedVariables false
set_option linter.unusedSimpArgs false
abbrev KV := List (ByteArray × Value)
/-- The entries of a map that nothing was taken out of: each bears the number of its place. -/
def entsAt (i : Nat) (kvs : KV) : List MapEntry := (kvs.zipIdx i).map fun p => { key := .string p.1.1, val := p.1.2, born := p.2 }
def ents (kvs : KV) : Array MapEntry := (entsAt 0 kvs).toArray
def getS : KV → ByteArray → Option Value
  | [], _ => none
  | p :: r, s => if s = p.1 then some p.2 else getS r s
def idxS : KV → ByteArray → Option Nat
  | [], _ => none
  | p :: r, s => if s = p.1 then some 0 else (idxS r s).map (· + 1)
def setS : KV → ByteArray → Value → KV
  | [], s, v => [(s, v)]
  | p :: r, s, v => if s = p.1 then (p.1, v) :: r else p :: setS r s v
theorem entsAt_cons (i : Nat) (p : ByteArray × Value) (r : KV) : entsAt i (p :: r) = { key := .string p.1, val := p.2, born := i } :: entsAt (i + 1) r := by simp [entsAt]
theorem entsAt_length (i : Nat) (kvs : KV) : (entsAt i kvs).length = kvs.length := by simp [entsAt]
theorem beq_bytes (a b : ByteArray) : (a == b) = decide (a = b) := by
  rw [Bool.eq_iff_iff, MapKept.bytes_beq]; simp
theorem findNow_ents (s : ByteArray) : ∀ (kvs : KV) (i j : Nat), Instr.findNow .string (.string s) (entsAt i kvs) j = some ((idxS kvs s).map fun n => (j + n, (getS kvs s).getD undef))
  | [], _, _ => rfl
  | p :: r, i, j => by
    rw [entsAt_cons]
    by_cases h : s = p.1
    · simp [Instr.findNow, Instr.sameNow, beq_bytes, h, idxS, getS]
    · simp only [Instr.findNow, Instr.sameNow, beq_bytes, h, decide_false, findNow_ents s r (i + 1) (j + 1), idxS, getS, if_false]
      cases idxS r s with
      | none => rfl
      | some n => simp; omega
theorem idx_none {kvs : KV} {s : ByteArray} : idxS kvs s = none ↔ getS kvs s = none := by
  induction kvs with
  | nil => simp [idxS, getS]
  | cons p r ih => by_cases h : s = p.1 <;> simp [idxS, getS, h, ih]
theorem idx_some {kvs : KV} {s : ByteArray} {n : Nat} (h : idxS kvs s = some n) : ∃ v, getS kvs s = some v ∧ kvs[n]? = some (s, v) := by
  induction kvs generalizing n with
  | nil => simp [idxS] at h
  | cons p r ih =>
    by_cases e : s = p.1
    · simp [idxS, e] at h
      subst h
      exact ⟨p.2, by simp [getS, e], by simp [e]⟩
    · simp [idxS, e] at h
      obtain ⟨m, hm, rfl⟩ := h
      obtain ⟨v, h1, h2⟩ := ih hm
      exact ⟨v, by simp [getS, e, h1], by simpa using h2⟩
theorem getS_set_same (kvs : KV) (s : ByteArray) (v : Value) : getS (setS kvs s v) s = some v := by
  induction kvs with
  | nil => simp [setS, getS]
  | cons p r ih => by_cases h : s = p.1 <;> simp [setS, getS, h, ih]
theorem getS_set_other (kvs : KV) {s t : ByteArray} (v : Value) (h : t ≠ s) : getS (setS kvs s v) t = getS kvs t := by
  induction kvs with
  | nil => simp [setS, getS, h]
  | cons p r ih =>
    by_cases e : s = p.1
    · subst e; simp [setS, getS, h]
    · by_cases e' : t = p.1 <;> simp [setS, getS, e, e', ih]
theorem set_new {kvs : KV} {s : ByteArray} (v : Value) (h : idxS kvs s = none) : setS kvs s v = kvs ++ [(s, v)] := by
  induction kvs with
  | nil => rfl
  | cons p r ih =>
    by_cases e : s = p.1
    · simp [idxS, e] at h
    · simp [idxS, e] at h
      simp [setS, e, ih h]
theorem ents_new (kvs : KV) (s : ByteArray) (v : Value) : (ents kvs).push { key := .string s, val := v, born := kvs.length } = ents (kvs ++ [(s, v)]) := by
  apply Array.ext'
  simp [ents, entsAt, List.zipIdx_append]
theorem entsAt_set (s : ByteArray) (v : Value) : ∀ (kvs : KV) (i n : Nat), idxS kvs s = some n → entsAt i (setS kvs s v) = (entsAt i kvs).modify n fun e => { e with key := .string s, val := v }
  | [], _, _, h => by simp [idxS] at h
  | p :: r, i, n, h => by
    by_cases e : s = p.1
    · simp [idxS, e] at h
      subst h
      simp [setS, e, entsAt_cons, List.modify]
    · simp [idxS, e] at h
      obtain ⟨m, hm, rfl⟩ := h
      simp [setS, e, entsAt_cons, entsAt_set s v r (i + 1) m hm]
theorem ents_old {kvs : KV} {s : ByteArray} {n : Nat} (v : Value) (h : idxS kvs s = some n) : (ents kvs).modify n (fun e => { e with key := .string s, val := v }) = ents (setS kvs s v) := by
  apply Array.ext'
  simp [ents, entsAt_set s v kvs 0 n h]
theorem length_set_old {kvs : KV} {s : ByteArray} {n : Nat} (v : Value) (h : idxS kvs s = some n) : (setS kvs s v).length = kvs.length := by
  have := congrArg List.length (entsAt_set s v kvs 0 n h)
  simpa [entsAt_length] using this
theorem ents_at {kvs : KV} {n : Nat} {p : ByteArray × Value} (h : kvs[n]? = some p) : (ents kvs)[n]? = some { key := .string p.1, val := p.2, born := n } := by
  simp [ents, entsAt, List.getElem?_zipIdx, h]
/-- Block b is a map of these pairs. -/
def SM (w : World) (b : Nat) (kvs : KV) : Prop := w.heap[b]? = some (.map (ents kvs) kvs.length)
section
variable {P : Program} {w w' : World} {b : Nat} {kvs : KV}
theorem SM.lt (h : SM w b kvs) : b < w.heap.size := (Array.getElem?_eq_some_iff.1 h).1
theorem SM.made (w : World) : SM (w.alloc (.map #[] 0)) w.heap.size [] := (MapKept.heap_alloc w _).1
theorem SM.kept {row : Option Nat} (h : SM w b kvs) (hg : w.grownBy w' row) (hne : some b ≠ row) : SM w' b kvs := (hg.block b h.lt hne).trans h
theorem SM.alloc (h : SM w b kvs) (o : Obj) : SM (w.alloc o) b kvs := h.kept (World.grownBy_alloc w o none) (by simp)
theorem SM.lookup {t k e : TypeId} (h : SM w b kvs) (ht : P.underlying t = some (.map k e)) (hk : P.underlying k = some .string) {z : Value} (hz : (zeroValue e).run P w = .ok z w) (s : ByteArray) :
    (Instr.lookup t (.map (some b)) (.string s) false).run P w = .ok ((getS kvs s).getD z) w := by
  unfold Instr.lookup
  have hf := MapKept.run_findKey (P := P) (w := w) hk (findNow_ents s kvs 0 0)
  simp only [Sem.run_bind, run_underlying ht, Result.andThen, MapKept.run_getObj_map h, Sem.run_pure, MapKept.run_checkKey (d := .string) (k := .string s) hk trivial]
  rw [show (ents kvs).toList = entsAt 0 kvs from rfl, hf]
  cases hi : idxS kvs s with
  | none =>
    have hg := idx_none.1 hi
    simp [hg, hz, Result.andThen]
  | some n =>
    obtain ⟨v, hg, _⟩ := idx_some hi
    simp [hg]
theorem sameBits_string (n : Nat) (s : ByteArray) : Instr.sameBits n (.string s) (.string s) = true := by
  cases n <;> simp [Instr.sameBits, beq_bytes]
theorem SM.update {t k e : TypeId} (h : SM w b kvs) (ht : P.underlying t = some (.map k e)) (hk : P.underlying k = some .string) (s : ByteArray) (v : Value) :
    ∃ w', (Instr.mapUpdate t (.map (some b)) (.string s) v).run P w = .ok () w' ∧ SM w' b (setS kvs s v) ∧ w.grownBy w' (some b) := by
  refine ⟨{ w with heap := w.heap.setIfInBounds b (.map (ents (setS kvs s v)) (setS kvs s v).length) }, ?_, (MapKept.heap_set h).1, ⟨rfl, rfl, rfl, by simp, fun i _ hi => (MapKept.heap_set h).2 i (fun e => hi (by rw [e]))⟩⟩
  unfold Instr.mapUpdate
  have hf := MapKept.run_findKey (P := P) (w := w) hk (findNow_ents s kvs 0 0)
  simp only [Sem.run_bind, run_underlying ht, Result.andThen, MapKept.run_getObj_map h, Sem.run_pure, MapKept.run_checkKey (d := .string) (k := .string s) hk trivial]
  rw [show (ents kvs).toList = entsAt 0 kvs from rfl, hf]
  cases hi : idxS kvs s with
  | none =>
    simp only [Option.map_none]
    rw [ents_new, set_new v hi, MapKept.run_setObj_map _ h]
    simp
  | some n =>
    obtain ⟨v0, hg, hn⟩ := idx_some hi
    simp only [Option.map_some, Nat.zero_add, Sem.run_bind]
    rw [ents_at hn]
    simp only [Option.map_some, Option.getD_some, Instr.keyThatStays, sameBits_string, if_true, Sem.run_pure, Result.andThen]
    rw [ents_old v hi, MapKept.run_setObj_map _ h, length_set_old v hi]
end
section
variable {P : Program} (w : World) {ops : Array Oper} {rest : List Oper} {o : Oper} {a : Act} {Q : Exit → Act → World → Prop}
/-- 'm[k]' at the operation. -/
theorem wpList_lookup_sm (hg : o.guard = none) (m x : Operand) (t : TypeId) (hop : o.op = Op.lookup t m x false)
    (k e : TypeId) (ht : P.underlying t = some (.map k e)) (hk : P.underlying k = some .string) (z : Value) (hz : (zeroValue e).run P w = .ok z w) (b : Nat) (kvs : KV)
    (hm : a.eval m = .map (some b)) (hown : SM w b kvs) (s : ByteArray) (hx : a.eval x = .string s) (v : Value) (hv : (getS kvs s).getD z = v)
    (hK : wpList P ops Q rest (a.put o.dst v) w) : wpList P ops Q (o :: rest) a w := by
  subst hv
  refine wpList_plain hg fun K' hK' => ?_
  unfold Oper.wp
  simp [execOp, hop, hm, hx, hown.lookup ht hk hz s, Result.andThen]
  exact hK' _ _ hK
/-- 'm[k] = v' at the operation. -/
theorem wpList_update_sm (hg : o.guard = none) (m x v : Operand) (t : TypeId) (hop : o.op = Op.mapUpdate t m x v)
    (k e : TypeId) (ht : P.underlying t = some (.map k e)) (hk : P.underlying k = some .string) (b : Nat) (kvs : KV)
    (hm : a.eval m = .map (some b)) (hown : SM w b kvs) (s : ByteArray) (hx : a.eval x = .string s) (val : Value) (hv : a.eval v = val)
    (hK : ∀ w', SM w' b (setS kvs s val) → w.grownBy w' (some b) → wpList P ops Q rest (a.put o.dst undef) w') : wpList P ops Q (o :: rest) a w := by
  refine wpList_plain hg fun K' hK' => ?_
  obtain ⟨w', hrun, r1, r2⟩ := hown.update ht hk s val
  unfold Oper.wp
  simp [execOp, hop, hm, hx, hv, hrun, Result.andThen]
  exact hK' _ _ (hK w' r1 r2)
end
end Go.Proofs.Ytdgllnaeookddaa.SMap
