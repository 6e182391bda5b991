/- A round of a range over a function of one's own: regions that draw their order are walked in it as anywhere; an iterator that keeps state in a cell of its own. -/
import Derived.RangeFuncNested
import Derived.RangeFuncBound
import Derived.RangeFuncCalls
import Derived.RangeFuncLeaves
import Derived.RangeFuncWrites
import Derived.Shelf.Abstract
import Derived.WalkKit
import Derived.OwnWalkIn
import Derived.TacticsInMore
import Derived.LoopNIn
import Derived.LoopIn
import Derived.OrdersIn
import Derived.Test.YthddjlkgnmbomaaDoorQ0
import Derived.Test.YthddjlkgnmbomaaDoorWMore
namespace Go.Proofs.YthddjlkgnmbomaaDoor.Q
open Go Go.RowKit Go.Shelf Go.Proofs.YthddjlkgnmbomaaDoorW.PrintWords Go.Proofs.YthddjlkgnmbomaaDoorW.PrintLast Go.Proofs.YthddjlkgnmbomaaDoorW.PrintMore
set_option linter.unusedVariables false
set_option linter.unusedSimpArgs false
set_option linter.unusedSectionVars false
section
variable {P : Program} {ops : Array Oper} {Q : Exit → Act → World → Prop} {r n : Nat}
theorem rowsIn_of {row : String} {args : Array Value} {w : World} {R : Value → World → Prop} {m : Nat} (h : Rows P row args w R) : RowsIn (Fence.wide.inRound r) m P row args w R := by
  intro f cs hr
  obtain ⟨v, w', hR, hs⟩ := h f cs
  exact ⟨v, w', hR, stepsIn_wide.2 hs⟩
theorem uponIn_of {o : Oper} {a : Act} {next next' : Act → World → Prop} (hn : ∀ a w, next a w → next' a w) (x : Result Next) (h : o.upon P a next Q x) : o.uponIn (Fence.wide.inRound r) n P a next' Q x := by
  unfold Oper.upon at h
  unfold Oper.uponIn
  split at h
  · exact hn _ _ h
  · exact hn _ _ h
  · exact hn _ _ h
  · refine ⟨fun hd => absurd hd Bool.false_ne_true, CallsIn.inRound r (callsIn_wide.2 (h.mono ?_))⟩
    intro e w' he
    cases e with
    | returned v => exact hn _ _ he
    | panicked c => exact he
    | outgrown => exact he
  · refine ⟨fun hd => absurd hd Bool.false_ne_true, rowsIn_of ?_⟩
    intro f cs
    obtain ⟨v, w', hR, hs⟩ := h f cs
    exact ⟨v, w', hn _ _ hR, hs⟩
  · exact h
  · exact h.elim
theorem opsIn_of (hnd : ∀ (i : Nat) (o : Oper), ops[i]? = some o → ∀ c, o.op ≠ .defer c) (hQ : ¬ LetsOut Q) : ∀ (l : List Nat) (a : Act) (w : World), wpOps P ops Q l a w → wpOpsIn (Fence.wide.inRound r) n P ops Q l a w
  | [], a, w, h => h
  | i :: rest, a, w, h => by
    unfold wpOps at h
    unfold wpOpsIn
    cases ho : ops[i]? with
    | none =>
      simp only [ho] at h ⊢
      exact opsIn_of hnd hQ rest a w h
    | some o =>
      simp only [ho] at h ⊢
      by_cases hw : Region.wanted o (yielded ops a.tmps) = true
      · rw [if_pos hw] at h ⊢
        rcases h with h | ⟨_, h⟩
        · refine ⟨fun _ _ => trivial, ?_⟩
          rw [Oper.semAt_eq _ _ _ (hnd i o ho)]
          exact uponIn_of (fun a w h => opsIn_of hnd hQ rest a w h) _ h
        · exact absurd h hQ
      · rw [if_neg hw] at h ⊢
        exact ⟨fun _ _ => trivial, opsIn_of hnd hQ rest _ _ h⟩
def noDefer (ops : Array Oper) : Bool := ops.all fun o => match o.op with | .defer _ => false | _ => true
theorem noDefer_spec (h : noDefer ops = true) : ∀ (i : Nat) (o : Oper), ops[i]? = some o → ∀ c, o.op ≠ .defer c := by
  intro i o ho c hc
  unfold noDefer at h
  rw [Array.all_eq_true] at h
  obtain ⟨hi, he⟩ := Array.getElem?_eq_some_iff.1 ho
  have := h i hi
  rw [he, hc] at this
  cases this
/-- As 'start_', in a round. -/
theorem startIn_ {S : World → Prop} {ds : List Nat} {id k : Nat} {a : Act} {w : World} (l : Array Bool) (hm : P.follows .mixedOrders = true) (hn : ops.size = k) (hl : Array.replicate k false = l) (hS : S w.drew) (hnd : noDefer ops = true) (hQ : ¬ LetsOut Q)
    (h : S w.drew → wpAnyLast P .any ops Q S ds k l a w.drew) : (Code.region id ops true).wpIn (Fence.wide.inRound r) n P Q a w := by
  subst hn
  subst hl
  refine wpIn_region_draw fun t => opsIn_of (noDefer_spec hnd) hQ _ _ _ ?_
  simp only [Region.schedule, hm, Bool.true_or, if_true]
  exact wpAny_sound ops.size t _ a _ (wpAny_of_last _ _ _ _ (h hS))
end
/-- What stays whatever is written to one block. -/
def AbidesAt {β : Type} (cb : Nat) (J : β → World → Prop) : Prop := ∀ s W W' row, J s W → W.grownBy W' row → (∀ r, row = some r → r = cb) → J s W'
/-- An iterator that may write block cb besides what it makes. -/
def SeqCell {α : Type} (F : Fence) (n : Nat) (P : Program) (g : Nat) (lb : Array Value) (encs : α → Array Value) (Kp : World → World → Prop) (S Sp : List α → Prop) (cb : Nat) (w : World) : Prop :=
  ∀ (l : Nat) (J Jx : List α → World → Prop) (W : World), Below w.heap.size w W → AbidesAt cb J → AbidesAt cb Jx →
    (∀ pre x W1, J pre W1 → Sp (pre ++ [x]) → YieldAt F (n - 1) P l (encs x) W1 fun e W' =>
      (e = .returned (.bool true) ∧ J (pre ++ [x]) W' ∧ Kp W1 W') ∨ (e = .returned (.bool false) ∧ Jx (pre ++ [x]) W')) →
    J [] W →
    CallsIn F n P g (#[.func (.yield l) #[] #[]] ++ lb) W fun e W' => (∃ v, e = .returned v) ∧ ((∃ xs, S xs ∧ J xs W') ∨ (∃ pre, Sp pre ∧ Jx pre W'))
theorem at_same {A B : World} {row : Option Nat} {cb k m : Nat} {o : Obj} (hcb : cb < m) (hg : A.grownBy B row) (hr : ∀ r, row = some r → r = cb) (hk : m ≤ k) (h : A.heap[k]? = some o) : B.heap[k]? = some o :=
  (hg.block k (Array.getElem?_eq_some_iff.1 h).1 (fun e => by have := hr k e.symm; omega)).trans h
/-- The loop's record at l, and the list of what the rounds put off at D. -/
structure Book (l D : Nat) (r : Loop) (W : World) : Prop where
  loop : W.heap[l]? = some (.loop r)
  late : W.heap[D]? = some (.deferred (some []))
section
variable {l D cb m : Nat} {r r' : Loop} {W W' : World}
theorem Book.at (h : Book l D r W) {row : Option Nat} (hcb : cb < m) (hl : m ≤ l) (hD : m ≤ D) (hg : W.grownBy W' row) (hr : ∀ k, row = some k → k = cb) : Book l D r W' := ⟨at_same hcb hg hr hl h.loop, at_same hcb hg hr hD h.late⟩
theorem Book.put (h : Book l D r W) (hne : D ≠ l) : Book l D r' (W.putObj l (.loop r')) := ⟨World.putObj_heap_same (Array.getElem?_eq_some_iff.1 h.loop).1, (World.putObj_heap_other hne).trans h.late⟩
theorem Book.kept (h : Book l D r W) {B : Nat} (hl : B ≤ l) (hD : B ≤ D) (hk : KeepsFrom B W W') : Book l D r W' := ⟨hk.same _ _ hl h.loop rfl, hk.same _ _ hD h.late rfl⟩
end
/-- The record of a loop under way. -/
def lrec (fn : FuncId) (tmps : Array Value) (ps : Array Tmp) (assign body : Code) (D : Nat) (st : LoopState) (pe : Option Code) : Loop := { state := st, pending := pe, fn := fn, tmps := tmps, params := ps, assign := assign, body := body, defers := D }
section
variable {P : Program} {fn : FuncId} {tmps : Array Value} {ps : Array Tmp} {assign body : Code} {l D : Nat} {W : World}
theorem lrec_yield {args : Array Value} (h : W.heap[l]? = some (.loop (lrec fn tmps ps assign body D .ready none))) (hs : args.size = ps.size) :
    (Instr.yield l args).run P W = .ok (.round l fn ((ps.zip args).foldl (fun t (p, v) => t.setIfInBounds p v) tmps) assign body) W := run_yield h hs
theorem lrec_begin (h : W.heap[l]? = some (.loop (lrec fn tmps ps assign body D .ready none))) : (Instr.beginRound l).run P W = .ok () (W.putObj l (.loop (lrec fn tmps ps assign body D .busy none))) := run_beginRound h rfl
theorem lrec_end (jump : Option Code) (h : W.heap[l]? = some (.loop (lrec fn tmps ps assign body D .busy none))) : (Instr.endRound l jump).run P W = .ok (.bool jump.isNone) (W.putObj l (.loop (lrec fn tmps ps assign body D (if jump.isNone then .ready else .done) jump))) := run_endRound jump h
theorem lrec_done {st : LoopState} {pe : Option Code} (h : W.heap[l]? = some (.loop (lrec fn tmps ps assign body D st pe))) (hb : st ≠ .busy) : (Instr.endLoop l).run P W = .ok pe (W.putObj l (.loop (lrec fn tmps ps assign body D .exhausted pe))) := run_endLoop h hb
end
/-- How a round's body may be left: on with what the iterator needs (Kp), or by a jump. -/
def leaves {α : Type} (B : Nat) (Kp : World → World → Prop) (I : List α → World → Prop) (Ix : Code → List α → World → Prop) (xs : List α) (W : World) : Exit → Act → World → Prop
  | .normal, _, W' => KeepsFrom B W W' ∧ Kp W W' ∧ I xs W'
  | .ret, _, W' => KeepsFrom B W W' ∧ Ix .ret xs W'
  | .exit id, _, W' => KeepsFrom B W W' ∧ Ix (.exit id) xs W'
  | .goto t, _, W' => KeepsFrom B W W' ∧ Ix (.goto t) xs W'
  | .panic _, _, _ => False
  | .outgrown, _, _ => False
theorem leaves_in {α : Type} {B : Nat} {Kp : World → World → Prop} {I : List α → World → Prop} {Ix : Code → List α → World → Prop} {xs : List α} {W : World} : ¬ LetsOut (leaves B Kp I Ix xs W) := fun ⟨_, _, h⟩ => h
section
variable {F : Fence} {n : Nat} {P : Program} {α : Type} {g : Operand} {ps : Array Tmp} {assign body : Code} {Q : Exit → Act → World → Prop} {a : Act} {w w0 : World} {gf : Nat} {lb : Array Value}
  {encs : α → Array Value} {Kp : World → World → Prop} {S Sp : List α → Prop} {cb : Nat}
/-- A range over an iterator that keeps state in block cb: I between two rounds, Ix c where a round has left by c. -/
theorem range_cell (hro : F.round = none) (h1 : 1 ≤ n) (hg : a.eval g = .func (.func gf) #[] lb) (hFg : F.fn gf) (eg : ∀ args w, (callFunc gf args).run P w = .ok (.enter gf args) w) (hcb : cb < w.heap.size)
    (hseq : SeqCell F (n - 1) P gf lb encs Kp S Sp cb w0) (hb0 : Below w0.heap.size w0 w) (hps : ∀ x, (encs x).size = ps.size)
    (hKt : ∀ {A B C : World}, Kp A B → Kp B C → Kp A C) (hKb : ∀ (W : World) (l : Nat) (o : Obj), w.heap.size ≤ l → Kp W (W.putObj l o))
    (I : List α → World → Prop) (Ix : Code → List α → World → Prop) (hI : OwnFrom w.heap.size I) (hIx : ∀ c, OwnFrom w.heap.size (Ix c)) (hIc : AbidesAt cb I) (hIxc : ∀ c, AbidesAt cb (Ix c)) (h0 : I [] w) (a₁ : α → Act)
    (hassign : ∀ (l : Nat) (x : α) (W : World) (K : Act → World → Prop), K (a₁ x) W → assign.wpIn (F.inRound l) (n - 1 - 1) P (Exit.then K (fun _ _ _ => False)) { tmps := (ps.zip (encs x)).foldl (fun t (p, v) => t.setIfInBounds p v) a.tmps, defers := [] } W)
    (hbody : ∀ (l : Nat) (pre : List α) (x : α) (W : World), I pre W → Sp (pre ++ [x]) → body.wpIn (F.inRound l) (n - 1 - 1) P (leaves w.heap.size Kp I Ix (pre ++ [x]) W) (a₁ x) W)
    (hdone : ∀ (xs : List α) (W : World), S xs → I xs W → W.heap[w.heap.size]? = some (.deferred (some [])) → Q .normal { a with defers := { target := .collected w.heap.size, args := #[] } :: a.defers } W)
    (hstop : ∀ (c : Code) (pre : List α) (W : World), Sp pre → Ix c pre W → W.heap[w.heap.size]? = some (.deferred (some [])) → c.wpIn F n P Q { a with defers := { target := .collected w.heap.size, args := #[] } :: a.defers } W) :
    (Code.rangeFunc g ps assign body).wpIn F n P Q a w := by
  refine wpIn_rangeFunc fun fn hfn => ?_
  rw [hro]
  have hlD : w.heap.size ≠ w.heap.size + 1 := by omega
  obtain ⟨rc, hrc⟩ : ∃ rc : LoopState → Option Code → Loop, rc = lrec fn a.tmps ps assign body w.heap.size := ⟨_, rfl⟩
  obtain ⟨W1, hW1⟩ : ∃ W1, (w.alloc (.deferred (some []))).alloc (.loop (rc .ready none)) = W1 := ⟨_, rfl⟩
  have hB1 : Book (w.heap.size + 1) w.heap.size (rc .ready none) W1 := by
    rw [← hW1]
    exact ⟨by have := World.alloc_heap_new (w.alloc (.deferred (some []))) (.loop (rc .ready none)); rwa [World.size_alloc] at this, (Below.heap_alloc _ _ _ (by simp)).trans (World.alloc_heap_new w _)⟩
  have hI1 : I [] W1 := by
    rw [← hW1]
    exact hI.alloc _ (hI.alloc _ h0)
  have hb1 : Below w0.heap.size w0 W1 := by
    rw [← hW1]
    exact hb0.trans ((((Below.refl _ w).alloc (Nat.le_refl _) _).alloc (by simp) _).mono hb0.size)
  have hent : (Instr.enterLoop fn a.tmps ps assign body none).run P w = .ok (w.heap.size + 1, [{ target := .collected w.heap.size, args := #[] }]) W1 := by
    rw [← hW1, hrc]
    exact run_enterLoop_outer _ _ _ _ _
  have hround : ∀ pre x W, (I pre W ∧ Book (w.heap.size + 1) w.heap.size (rc .ready none) W) → Sp (pre ++ [x]) → YieldAt F (n - 1 - 1) P (w.heap.size + 1) (encs x) W fun e W' =>
      (e = .returned (.bool true) ∧ (I (pre ++ [x]) W' ∧ Book (w.heap.size + 1) w.heap.size (rc .ready none) W') ∧ Kp W W') ∨ (e = .returned (.bool false) ∧ ∃ c, Ix c (pre ++ [x]) W' ∧ Book (w.heap.size + 1) w.heap.size (rc .done (some c)) W') := by
    rintro pre x W ⟨hi, hbk⟩ hlen
    have hl := hbk.loop
    rw [hrc] at hl
    have hbk2 : Book (w.heap.size + 1) w.heap.size (rc .busy none) (W.putObj (w.heap.size + 1) (.loop (rc .busy none))) := hbk.put hlD
    have hi2 : I pre (W.putObj (w.heap.size + 1) (.loop (rc .busy none))) := hI.putObj _ hi (by omega) hbk.loop rfl
    have hk2 : Kp W (W.putObj (w.heap.size + 1) (.loop (rc .busy none))) := hKb _ _ _ (by omega)
    have hbr : (Instr.beginRound (w.heap.size + 1)).run P W = .ok () (W.putObj (w.heap.size + 1) (.loop (rc .busy none))) := by
      rw [hrc]
      exact lrec_begin hl
    generalize W.putObj (w.heap.size + 1) (.loop (rc .busy none)) = W2 at hbk2 hi2 hk2 hbr
    refine ⟨fn, _, assign, body, lrec_yield hl (hps x), roundIn_of_wpIn hfn (hassign _ x W _ ⟨W2, hbr, wpIn_mono (hbody _ pre x W2 hi2 hlen) ?_⟩)⟩
    have hend : ∀ (jump : Option Code) (W3 : World), Book (w.heap.size + 1) w.heap.size (rc .busy none) W3 → (Instr.endRound (w.heap.size + 1) jump).run P W3 = .ok (.bool jump.isNone) (W3.putObj (w.heap.size + 1) (.loop (rc (if jump.isNone then .ready else .done) jump))) := fun jump W3 hb => by
      have h := hb.loop
      rw [hrc] at h ⊢
      exact lrec_end jump h
    have hjump : ∀ (c : Code) (W3 : World), KeepsFrom w.heap.size W2 W3 → Ix c (pre ++ [x]) W3 → (Ix c (pre ++ [x]) (W3.putObj (w.heap.size + 1) (.loop (rc .done (some c)))) ∧ Book (w.heap.size + 1) w.heap.size (rc .done (some c)) (W3.putObj (w.heap.size + 1) (.loop (rc .done (some c))))) := fun c W3 hk hi3 => by
      have hb3 := hbk2.kept (by omega) (Nat.le_refl _) hk
      exact ⟨(hIx c).putObj _ hi3 (by omega) hb3.loop rfl, hb3.put hlD⟩
    intro e a3 W3 hp
    cases e with
    | normal =>
      have hb3 := hbk2.kept (by omega) (Nat.le_refl _) hp.1
      exact ⟨_, _, hend none W3 hb3, .inl ⟨rfl, ⟨hI.putObj _ hp.2.2 (by omega) hb3.loop rfl, hb3.put hlD⟩, hKt hk2 (hKt hp.2.1 (hKb _ _ _ (by omega)))⟩⟩
    | ret => exact ⟨_, _, hend (some .ret) W3 (hbk2.kept (by omega) (Nat.le_refl _) hp.1), .inr ⟨rfl, .ret, hjump .ret W3 hp.1 hp.2⟩⟩
    | exit id => exact ⟨_, _, hend (some (.exit id)) W3 (hbk2.kept (by omega) (Nat.le_refl _) hp.1), .inr ⟨rfl, .exit id, hjump (.exit id) W3 hp.1 hp.2⟩⟩
    | goto t => exact ⟨_, _, hend (some (.goto t)) W3 (hbk2.kept (by omega) (Nat.le_refl _) hp.1), .inr ⟨rfl, .goto t, hjump (.goto t) W3 hp.1 hp.2⟩⟩
    | panic ch => exact hp.elim
    | outgrown => exact hp.elim
  have hcall := hseq (w.heap.size + 1) (fun pre W => I pre W ∧ Book (w.heap.size + 1) w.heap.size (rc .ready none) W) (fun pre W => ∃ c, Ix c pre W ∧ Book (w.heap.size + 1) w.heap.size (rc .done (some c)) W) W1 hb1
    (fun s A B row hs hg' hr => ⟨hIc s A B row hs.1 hg' hr, hs.2.at hcb (by omega) (Nat.le_refl _) hg' hr⟩)
    (fun s A B row hs hg' hr => by
      obtain ⟨c, hc, hbk⟩ := hs
      exact ⟨c, hIxc c s A B row hc hg' hr, hbk.at hcb (by omega) (Nat.le_refl _) hg' hr⟩)
    hround ⟨hI1, hB1⟩
  refine ⟨w.heap.size + 1, [{ target := .collected w.heap.size, args := #[] }], W1, { target := .fn (.func gf) lb, args := #[.func (.yield (w.heap.size + 1)) #[] #[]] }, W1, gf, #[.func (.yield (w.heap.size + 1)) #[] #[]] ++ lb, W1, ?_, ?_, ?_, ?_, fun _ => h1, ?_⟩
  · exact hent
  · simp only [resolve, hg]
    simp [go_sem]
  · intro f' hf'
    simp [Target.leads] at hf'
    subst hf'
    exact hFg
  · simp [invoke, go_sem, eg]
  · refine hcall.mono ?_
    rintro e W2 ⟨⟨v, rfl⟩, (⟨xs, hS, hi, hb⟩ | ⟨pre, hSp, c, hi, hb⟩)⟩
    · have h := hb.loop
      rw [hrc] at h
      exact ⟨none, _, lrec_done h (by simp), hdone xs _ hS (hI.putObj _ hi (by omega) hb.loop rfl) ((World.putObj_heap_other hlD).trans hb.late)⟩
    · have h := hb.loop
      rw [hrc] at h
      exact ⟨some c, _, lrec_done h (by simp), hstop c pre _ hSp ((hIx c).putObj _ hi (by omega) hb.loop rfl) ((World.putObj_heap_other hlD).trans hb.late)⟩
end
end Go.Proofs.YthddjlkgnmbomaaDoor.Q
