/- Ranging over a map that is keyed by texts, whatever the order, while other blocks are made or written: by the places of the entries that have come. -/
import Derived.Test.YtdgllnaeookddaaDASMap
import Derived.Maps.RangeWalk
namespace Go.Proofs.Ytdgllnaeookddaa.SMap
open Go.RowKit Go.MapKept
open Go.ChangeMaps (setBlock)
set_option linter.unusedVariables false
set_option linter.unusedSimpArgs false
/-- Block b is a map of these pairs, block r an iterator over it; the entries at the places 'seen' have come. -/
structure SR (w : World) (b r : Nat) (kvs : KV) (seen : List Nat) : Prop where
  map : SM w b kvs
  iter : w.heap[r]? = some (.mapIter (some b) kvs.length seen.toArray kvs.length)
  nodup : seen.Nodup
  lt : ∀ i ∈ seen, i < kvs.length
theorem mem_ents {kvs : KV} {e : MapEntry} (h : e ∈ (ents kvs).toList) : ∃ i p, kvs[i]? = some p ∧ e = { key := .string p.1, val := p.2, born := i } := by
  obtain ⟨i, hi⟩ := List.getElem?_of_mem h
  have hlt : i < kvs.length := by
    have := (List.getElem?_eq_some_iff.1 hi).1
    simpa [ents, entsAt_length] using this
  have hp : kvs[i]? = some kvs[i] := List.getElem?_eq_getElem hlt
  have h2 := ents_at hp
  rw [← Array.getElem?_toList, hi] at h2
  exact ⟨i, _, hp, Option.some.inj h2⟩
theorem ents_mem {kvs : KV} {i : Nat} {p : ByteArray × Value} (h : kvs[i]? = some p) : ({ key := .string p.1, val := p.2, born := i } : MapEntry) ∈ (ents kvs).toList := by
  have := ents_at h
  rw [← Array.getElem?_toList] at this
  exact List.mem_of_getElem? this
theorem ents_born (kvs : KV) : ((ents kvs).toList.map (·.born)) = List.range kvs.length := by
  have : ∀ (l : KV) (i : Nat), (entsAt i l).map (·.born) = List.range' i l.length := by
    intro l
    induction l with
    | nil => intro i; rfl
    | cons p r ih =>
      intro i
      rw [entsAt_cons, List.map_cons, ih (i + 1), List.length_cons, List.range'_succ]
  show (entsAt 0 kvs).map (·.born) = _
  rw [this, List.range_eq_range']
section
variable {P : Program} {w w' : World} {b r : Nat} {kvs : KV} {seen : List Nat}
theorem SR.ltB (h : SR w b r kvs seen) : b < w.heap.size := h.map.lt
theorem SR.ltR (h : SR w b r kvs seen) : r < w.heap.size := (Array.getElem?_eq_some_iff.1 h.iter).1
theorem SR.kept {row : Option Nat} (h : SR w b r kvs seen) (hg : w.grownBy w' row) (hb : some b ≠ row) (hr : some r ≠ row) : SR w' b r kvs seen :=
  ⟨h.map.kept hg hb, (hg.block r h.ltR hr).trans h.iter, h.nodup, h.lt⟩
theorem SR.next (h : SR w b r kvs seen) (ty : TypeId) :
    ((∀ i, i < kvs.length → i ∈ seen) ∧ (Instr.next (.pointer (some ⟨r, 0, none⟩)) false ty).run P w = .ok (.tuple #[.bool false]) w) ∨
    ∃ i p w', kvs[i]? = some p ∧ i ∉ seen ∧ (Instr.next (.pointer (some ⟨r, 0, none⟩)) false ty).run P w = .ok (.tuple #[.bool true, .string p.1, p.2]) w' ∧ SR w' b r kvs (seen ++ [i]) ∧ w.grownBy w' (some r) ∧ w'.heap.size = w.heap.size ∧
      (Instr.entry (.pointer (some ⟨r, 0, none⟩))).run P w' = .ok (.tuple #[.string p.1, p.2]) w' := by
  have hne : b ≠ r := by
    rintro rfl
    have h1 := h.map
    unfold SM at h1
    rw [h.iter] at h1
    cases h1
  have hold : ∀ x ∈ (ents kvs).toList, x.born < kvs.length := by
    intro x hx
    obtain ⟨i, p, hi, rfl⟩ := mem_ents hx
    exact (List.getElem?_eq_some_iff.1 hi).1
  rcases run_next_at (P := P) w ty r b kvs.length kvs.length seen.toArray (ents kvs) kvs.length h.iter h.map hold (Nat.le_refl _) with ⟨h0, hrun⟩ | ⟨e, he, w1, hal, hrun⟩
  · refine .inl ⟨fun i hi => ?_, hrun⟩
    have := all_seen (ents kvs) seen.toArray h0 _ (ents_mem (List.getElem?_eq_getElem hi))
    simpa using this
  · obtain ⟨hem, hes⟩ := mem_left he
    obtain ⟨i, p, hi, rfl⟩ := mem_ents hem
    have hns : i ∉ seen := by simpa using hes
    have hr1 : w1.heap[r]? = some (.mapIter (some b) kvs.length seen.toArray kvs.length) := by rcases hal with rfl | rfl <;> exact h.iter
    have hb1 : SM w1 b kvs := by rcases hal with rfl | rfl <;> exact h.map
    have hset := heap_set (o' := .mapIter (some b) kvs.length (seen.toArray.push i) kvs.length) hr1
    have hb' : SM (setBlock w1 r (.mapIter (some b) kvs.length (seen.toArray.push i) kvs.length)) b kvs := (hset.2 b hne).trans hb1
    refine .inr ⟨i, p, _, hi, hns, hrun, ⟨hb', ?_, ?_, ?_⟩, ?_, ?_, run_entry_at _ r b kvs.length seen.toArray (ents kvs) kvs.length _ hset.1 hb' hem (by rw [ents_born]; exact List.nodup_range)⟩
    · have e : (seen ++ [i]).toArray = seen.toArray.push i := by simp
      rw [e]
      exact hset.1
    · rw [List.nodup_append]
      exact ⟨h.nodup, by simp, fun a ha c hc => by rw [List.mem_singleton.1 hc]; rintro rfl; exact hns ha⟩
    · intro j hj
      rcases List.mem_append.1 hj with hj | hj
      · exact h.lt j hj
      · rw [List.mem_singleton.1 hj]
        exact (List.getElem?_eq_some_iff.1 hi).1
    · rcases hal with rfl | rfl <;> exact ⟨rfl, rfl, rfl, by simp [setBlock], fun i _ hi => hset.2 i (fun e1 => hi (by rw [e1]))⟩
    · rcases hal with rfl | rfl <;> simp [setBlock]
end
section
variable {P : Program} (w : World) {ops : Array Oper} {rest : List Oper} {o : Oper} {a : Act} {Q : Exit → Act → World → Prop}
/-- 'range m' at the operation. -/
theorem wpList_range_sm (hg : o.guard = none) (m : Operand) (t : TypeId) (hop : o.op = Op.range t m) (k e : TypeId) (ht : P.underlying t = some (.map k e)) (b : Nat) (kvs : KV)
    (hm : a.eval m = .map (some b)) (hown : SM w b kvs)
    (hK : ∀ w', SR w' b w.heap.size kvs [] → w.grownBy w' none → w'.heap.size = w.heap.size + 1 → wpList P ops Q rest (a.put o.dst (.pointer (some ⟨w.heap.size, 0, none⟩))) w') :
    wpList P ops Q (o :: rest) a w := by
  refine wpList_plain hg fun K' hK' => ?_
  unfold Oper.wp
  simp [execOp, hop, hm, run_range_map w t k e b (ents kvs) kvs.length ht hown, Result.andThen]
  exact hK' _ _ (hK _ ⟨hown.alloc _, (MapKept.heap_alloc w _).1, by simp, by simp⟩ (World.grownBy_alloc w _ none) (by simp))
/-- The step of a range at the operation. -/
theorem wpList_next_sm (hg : o.guard = none) (it : Operand) (hop : o.op = Op.next it false) (b r : Nat) (kvs : KV) (seen : List Nat)
    (hit : a.eval it = .pointer (some ⟨r, 0, none⟩)) (h : SR w b r kvs seen)
    (hDone : (∀ i, i < kvs.length → i ∈ seen) → wpList P ops Q rest (a.put o.dst (.tuple #[.bool false])) w)
    (hMore : ∀ (i : Nat) (p : ByteArray × Value) (w' : World), kvs[i]? = some p → i ∉ seen → SR w' b r kvs (seen ++ [i]) → w.grownBy w' (some r) → w'.heap.size = w.heap.size →
      (Instr.entry (.pointer (some ⟨r, 0, none⟩))).run P w' = .ok (.tuple #[.string p.1, p.2]) w' → wpList P ops Q rest (a.put o.dst (.tuple #[.bool true, .string p.1, p.2])) w') :
    wpList P ops Q (o :: rest) a w := by
  refine wpList_plain hg fun K' hK' => ?_
  unfold Oper.wp
  rcases h.next (P := P) o.type with ⟨hl, hrun⟩ | ⟨i, p, w', hi, hns, hrun, hrg, hgr, hsz, hen⟩
  · simp [execOp, hop, hit, hrun, Result.andThen]
    exact hK' _ _ (hDone hl)
  · simp [execOp, hop, hit, hrun, Result.andThen]
    exact hK' _ _ (hMore i p w' hi hns hrg hgr hsz hen)
end
end Go.Proofs.Ytdgllnaeookddaa.SMap
