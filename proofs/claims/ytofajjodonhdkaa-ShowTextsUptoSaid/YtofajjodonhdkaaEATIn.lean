/- A round of a range over a function of one's own: regions that draw their order are walked in it as anywhere; an iterator that keeps state in a cell of its own. -/
import Derived.Test.YtofajjodonhdkaaEAQ0
import Derived.Test.YtofajjodonhdkaaEAWMore
import Derived.RangeFuncNested
import Derived.RangeFuncBound
import Derived.RangeFuncCalls
import Derived.RangeFuncLeaves
import Derived.RangeFuncWrites
import Derived.Shelf.Abstract
import Derived.WalkKit
import Derived.OwnWalkIn
import Derived.TacticsInMore
import Derived.LoopNIn
import Derived.LoopIn
import Derived.OrdersIn
namespace Go.Proofs.Ytofajjodonhdkaa.Q
open Go Go.RowKit Go.Shelf Go.Proofs.YtofajjodonhdkaaW.PrintWords Go.Proofs.YtofajjodonhdkaaW.PrintLast Go.Proofs.YtofajjodonhdkaaW.PrintMore
set_option linter.unusedVariables false
set_option linter.unusedSimpArgs false
set_option linter.unusedSectionVars false
section
variable {P : Program} {ops : Array Oper} {Q : Exit → Act → World → Prop} {r n : Nat}
theorem rowsIn_of {row : String} {args : Array Value} {w : World} {R : Value → World → Prop} {m : Nat} (h : Rows P row args w R) : RowsIn (Fence.wide.inRound r) m P row args w R := by
  intro f cs hr
  obtain ⟨v, w', hR, hs⟩ := h f cs
  exact ⟨v, w', hR, stepsIn_wide.2 hs⟩
theorem uponIn_of {o : Oper} {a : Act} {next next' : Act → World → Prop} (hn : ∀ a w, next a w → next' a w) (x : Result Next) (h : o.upon P a next Q x) : o.uponIn (Fence.wide.inRound r) n P a next' Q x := by
  unfold Oper.upon at h
  unfold Oper.uponIn
  split at h
  · exact hn _ _ h
  · exact hn _ _ h
  · exact hn _ _ h
  · refine ⟨fun hd => absurd hd Bool.false_ne_true, CallsIn.inRound r (callsIn_wide.2 (h.mono ?_))⟩
    intro e w' he
    cases e with
    | returned v => exact hn _ _ he
    | panicked c => exact he
    | outgrown => exact he
  · refine ⟨fun hd => absurd hd Bool.false_ne_true, rowsIn_of ?_⟩
    intro f cs
    obtain ⟨v, w', hR, hs⟩ := h f cs
    exact ⟨v, w', hn _ _ hR, hs⟩
  · exact h
  · exact h.elim
theorem opsIn_of (hnd : ∀ (i : Nat) (o : Oper), ops[i]? = some o → ∀ c, o.op ≠ .defer c) (hQ : ¬ LetsOut Q) : ∀ (l : List Nat) (a : Act) (w : World), wpOps P ops Q l a w → wpOpsIn (Fence.wide.inRound r) n P ops Q l a w
  | [], a, w, h => h
  | i :: rest, a, w, h => by
    unfold wpOps at h
    unfold wpOpsIn
    cases ho : ops[i]? with
    | none =>
      simp only [ho] at h ⊢
      exact opsIn_of hnd hQ rest a w h
    | some o =>
      simp only [ho] at h ⊢
      by_cases hw : Region.wanted o (yielded ops a.tmps) = true
      · rw [if_pos hw] at h ⊢
        rcases h with h | ⟨_, h⟩
        · refine ⟨fun _ _ => trivial, ?_⟩
          rw [Oper.semAt_eq _ _ _ (hnd i o ho)]
          exact uponIn_of (fun a w h => opsIn_of hnd hQ rest a w h) _ h
        · exact absurd h hQ
      · rw [if_neg hw] at h ⊢
        exact ⟨fun _ _ => trivial, opsIn_of hnd hQ rest _ _ h⟩
def noDefer (ops : Array Oper) : Bool := ops.all fun o => match o.op with | .defer _ => false | _ => true
theorem noDefer_spec (h : noDefer ops = true) : ∀ (i : Nat) (o : Oper), ops[i]? = some o → ∀ c, o.op ≠ .defer c := by
  intro i o ho c hc
  unfold noDefer at h
  rw [Array.all_eq_true] at h
  obtain ⟨hi, he⟩ := Array.getElem?_eq_some_iff.1 ho
  have := h i hi
  rw [he, hc] at this
  cases this
/-- As 'start_', in a round. -/
theorem startIn_ {S : World → Prop} {ds : List Nat} {id k : Nat} {a : Act} {w : World} (l : Array Bool) (hm : P.follows .mixedOrders = true) (hn : ops.size = k) (hl : Array.replicate k false = l) (hS : S w.drew) (hnd : noDefer ops = true) (hQ : ¬ LetsOut Q)
    (h : S w.drew → wpAnyLast P .any ops Q S ds k l a w.drew) : (Code.region id ops true).wpIn (Fence.wide.inRound r) n P Q a w := by
  subst hn
  subst hl
  refine wpIn_region_draw fun t => opsIn_of (noDefer_spec hnd) hQ _ _ _ ?_
  simp only [Region.schedule, hm, Bool.true_or, if_true]
  exact wpAny_sound ops.size t _ a _ (wpAny_of_last _ _ _ _ (h hS))
end
theorem at_same {A B : World} {row : Option Nat} {cb k m : Nat} {o : Obj} (hcb : cb < m) (hg : A.grownBy B row) (hr : ∀ r, row = some r → r = cb) (hk : m ≤ k) (h : A.heap[k]? = some o) : B.heap[k]? = some o :=
  (hg.block k (Array.getElem?_eq_some_iff.1 h).1 (fun e => by have := hr k e.symm; omega)).trans h
/-- The loop's record at l, and the list of what the rounds put off at D. -/
structure Book (l D : Nat) (r : Loop) (W : World) : Prop where
  loop : W.heap[l]? = some (.loop r)
  late : W.heap[D]? = some (.deferred (some []))
section
variable {l D cb m : Nat} {r r' : Loop} {W W' : World}
theorem Book.at (h : Book l D r W) {row : Option Nat} (hcb : cb < m) (hl : m ≤ l) (hD : m ≤ D) (hg : W.grownBy W' row) (hr : ∀ k, row = some k → k = cb) : Book l D r W' := ⟨at_same hcb hg hr hl h.loop, at_same hcb hg hr hD h.late⟩
theorem Book.put (h : Book l D r W) (hne : D ≠ l) : Book l D r' (W.putObj l (.loop r')) := ⟨World.putObj_heap_same (Array.getElem?_eq_some_iff.1 h.loop).1, (World.putObj_heap_other hne).trans h.late⟩
theorem Book.kept (h : Book l D r W) {B : Nat} (hl : B ≤ l) (hD : B ≤ D) (hk : KeepsFrom B W W') : Book l D r W' := ⟨hk.same _ _ hl h.loop rfl, hk.same _ _ hD h.late rfl⟩
end
/-- The record of a loop under way. -/
def lrec (fn : FuncId) (tmps : Array Value) (ps : Array Tmp) (assign body : Code) (D : Nat) (st : LoopState) (pe : Option Code) : Loop := { state := st, pending := pe, fn := fn, tmps := tmps, params := ps, assign := assign, body := body, defers := D }
section
variable {P : Program} {fn : FuncId} {tmps : Array Value} {ps : Array Tmp} {assign body : Code} {l D : Nat} {W : World}
theorem lrec_yield {args : Array Value} (h : W.heap[l]? = some (.loop (lrec fn tmps ps assign body D .ready none))) (hs : args.size = ps.size) :
    (Instr.yield l args).run P W = .ok (.round l fn ((ps.zip args).foldl (fun t (p, v) => t.setIfInBounds p v) tmps) assign body) W := run_yield h hs
theorem lrec_begin (h : W.heap[l]? = some (.loop (lrec fn tmps ps assign body D .ready none))) : (Instr.beginRound l).run P W = .ok () (W.putObj l (.loop (lrec fn tmps ps assign body D .busy none))) := run_beginRound h rfl
theorem lrec_end (jump : Option Code) (h : W.heap[l]? = some (.loop (lrec fn tmps ps assign body D .busy none))) : (Instr.endRound l jump).run P W = .ok (.bool jump.isNone) (W.putObj l (.loop (lrec fn tmps ps assign body D (if jump.isNone then .ready else .done) jump))) := run_endRound jump h
theorem lrec_done {st : LoopState} {pe : Option Code} (h : W.heap[l]? = some (.loop (lrec fn tmps ps assign body D st pe))) (hb : st ≠ .busy) : (Instr.endLoop l).run P W = .ok pe (W.putObj l (.loop (lrec fn tmps ps assign body D .exhausted pe))) := run_endLoop h hb
end
/-- How a round's body may be left: on with what the iterator needs (Kp), or by a jump. -/
def leaves {α : Type} (B : Nat) (Kp : World → World → Prop) (I : List α → World → Prop) (Ix : Code → List α → World → Prop) (xs : List α) (W : World) : Exit → Act → World → Prop
  | .normal, _, W' => KeepsFrom B W W' ∧ Kp W W' ∧ I xs W'
  | .ret, _, W' => KeepsFrom B W W' ∧ Ix .ret xs W'
  | .exit id, _, W' => KeepsFrom B W W' ∧ Ix (.exit id) xs W'
  | .goto t, _, W' => KeepsFrom B W W' ∧ Ix (.goto t) xs W'
  | .panic _, _, _ => False
  | .outgrown, _, _ => False
end Go.Proofs.Ytofajjodonhdkaa.Q
