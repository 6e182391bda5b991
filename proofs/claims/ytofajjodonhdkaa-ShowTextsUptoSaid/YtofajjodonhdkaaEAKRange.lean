/- A range over an iterator of one's own that writes nothing. -/
import Derived.Test.YtofajjodonhdkaaEATIn
namespace Go.Proofs.Ytofajjodonhdkaa.Q
open Go Go.RowKit Go.Shelf Go.Proofs.YtofajjodonhdkaaW.PrintWords Go.Proofs.YtofajjodonhdkaaW.PrintLast Go.Proofs.YtofajjodonhdkaaW.PrintMore
set_option linter.unusedVariables false
set_option linter.unusedSimpArgs false
set_option linter.unusedSectionVars false
theorem grown_drewN (W : World) (m : Nat) : W.grownBy (W.drewN m) none := ⟨rfl, rfl, rfl, Nat.le_refl _, fun k _ _ => rfl⟩
/-- What stays where blocks are made and orders drawn. -/
def Abides0 {β : Type} (J : β → World → Prop) : Prop := ∀ s W W', J s W → W.grownBy W' none → J s W'
/-- An iterator that writes nothing but what it makes. -/
def Seq0 {α : Type} (F : Fence) (n : Nat) (P : Program) (g : Nat) (lb : Array Value) (encs : α → Array Value) (Kp : World → World → Prop) (S Sp : List α → Prop) (w : World) : Prop :=
  ∀ (l : Nat) (J Jx : List α → World → Prop) (W : World), Below w.heap.size w W → Abides0 J → Abides0 Jx →
    (∀ pre x W1, J pre W1 → Sp (pre ++ [x]) → YieldAt F (n - 1) P l (encs x) W1 fun e W' =>
      (e = .returned (.bool true) ∧ J (pre ++ [x]) W' ∧ Kp W1 W') ∨ (e = .returned (.bool false) ∧ Jx (pre ++ [x]) W')) →
    J [] W →
    CallsIn F n P g (#[.func (.yield l) #[] #[]] ++ lb) W fun e W' => (∃ v, e = .returned v) ∧ ((∃ xs, S xs ∧ J xs W') ∨ (∃ pre, Sp pre ∧ Jx pre W'))
theorem Book.grow {l D : Nat} {r : Loop} {W W' : World} (h : Book l D r W) (hg : W.grownBy W' none) : Book l D r W' :=
  ⟨(hg.block l (Array.getElem?_eq_some_iff.1 h.loop).1 (by simp)).trans h.loop, (hg.block D (Array.getElem?_eq_some_iff.1 h.late).1 (by simp)).trans h.late⟩
section
variable {F : Fence} {n : Nat} {P : Program} {α : Type} {g : Operand} {ps : Array Tmp} {assign body : Code} {Q : Exit → Act → World → Prop} {a : Act} {w w0 : World} {gf : Nat} {lb : Array Value}
  {encs : α → Array Value} {Kp : World → World → Prop} {S Sp : List α → Prop}
/-- A range over an iterator that writes nothing: I between two rounds, Ix c where a round has left by c. -/
theorem range_0 (hro : F.round = none) (h1 : 1 ≤ n) (hg : a.eval g = .func (.func gf) #[] lb) (hFg : F.fn gf) (eg : ∀ args w, (callFunc gf args).run P w = .ok (.enter gf args) w)
    (hseq : Seq0 F (n - 1) P gf lb encs Kp S Sp w0) (hb0 : Below w0.heap.size w0 w) (hps : ∀ x, (encs x).size = ps.size)
    (hKt : ∀ {A B C : World}, Kp A B → Kp B C → Kp A C) (hKb : ∀ (W : World) (l : Nat) (o : Obj), w.heap.size ≤ l → Kp W (W.putObj l o))
    (I : List α → World → Prop) (Ix : Code → List α → World → Prop) (hI : OwnFrom w.heap.size I) (hIx : ∀ c, OwnFrom w.heap.size (Ix c)) (hIc : Abides0 I) (hIxc : ∀ c, Abides0 (Ix c)) (h0 : I [] w) (a₁ : α → Act)
    (hassign : ∀ (l : Nat) (x : α) (W : World) (K : Act → World → Prop), K (a₁ x) W → assign.wpIn (F.inRound l) (n - 1 - 1) P (Exit.then K (fun _ _ _ => False)) { tmps := (ps.zip (encs x)).foldl (fun t (p, v) => t.setIfInBounds p v) a.tmps, defers := [] } W)
    (hbody : ∀ (l : Nat) (pre : List α) (x : α) (W : World), I pre W → Sp (pre ++ [x]) → body.wpIn (F.inRound l) (n - 1 - 1) P (leaves w.heap.size Kp I Ix (pre ++ [x]) W) (a₁ x) W)
    (hdone : ∀ (xs : List α) (W : World), S xs → I xs W → W.heap[w.heap.size]? = some (.deferred (some [])) → Q .normal { a with defers := { target := .collected w.heap.size, args := #[] } :: a.defers } W)
    (hstop : ∀ (c : Code) (pre : List α) (W : World), Sp pre → Ix c pre W → W.heap[w.heap.size]? = some (.deferred (some [])) → c.wpIn F n P Q { a with defers := { target := .collected w.heap.size, args := #[] } :: a.defers } W) :
    (Code.rangeFunc g ps assign body).wpIn F n P Q a w := by
  refine wpIn_rangeFunc fun fn hfn => ?_
  rw [hro]
  have hlD : w.heap.size ≠ w.heap.size + 1 := by omega
  obtain ⟨rc, hrc⟩ : ∃ rc : LoopState → Option Code → Loop, rc = lrec fn a.tmps ps assign body w.heap.size := ⟨_, rfl⟩
  obtain ⟨W1, hW1⟩ : ∃ W1, (w.alloc (.deferred (some []))).alloc (.loop (rc .ready none)) = W1 := ⟨_, rfl⟩
  have hB1 : Book (w.heap.size + 1) w.heap.size (rc .ready none) W1 := by
    rw [← hW1]
    exact ⟨by have := World.alloc_heap_new (w.alloc (.deferred (some []))) (.loop (rc .ready none)); rwa [World.size_alloc] at this, (Below.heap_alloc _ _ _ (by simp)).trans (World.alloc_heap_new w _)⟩
  have hI1 : I [] W1 := by
    rw [← hW1]
    exact hI.alloc _ (hI.alloc _ h0)
  have hb1 : Below w0.heap.size w0 W1 := by
    rw [← hW1]
    exact hb0.trans ((((Below.refl _ w).alloc (Nat.le_refl _) _).alloc (by simp) _).mono hb0.size)
  have hent : (Instr.enterLoop fn a.tmps ps assign body none).run P w = .ok (w.heap.size + 1, [{ target := .collected w.heap.size, args := #[] }]) W1 := by
    rw [← hW1, hrc]
    exact run_enterLoop_outer _ _ _ _ _
  have hround : ∀ pre x W, (I pre W ∧ Book (w.heap.size + 1) w.heap.size (rc .ready none) W) → Sp (pre ++ [x]) → YieldAt F (n - 1 - 1) P (w.heap.size + 1) (encs x) W fun e W' =>
      (e = .returned (.bool true) ∧ (I (pre ++ [x]) W' ∧ Book (w.heap.size + 1) w.heap.size (rc .ready none) W') ∧ Kp W W') ∨ (e = .returned (.bool false) ∧ ∃ c, Ix c (pre ++ [x]) W' ∧ Book (w.heap.size + 1) w.heap.size (rc .done (some c)) W') := by
    rintro pre x W ⟨hi, hbk⟩ hlen
    have hl := hbk.loop
    rw [hrc] at hl
    have hbk2 : Book (w.heap.size + 1) w.heap.size (rc .busy none) (W.putObj (w.heap.size + 1) (.loop (rc .busy none))) := hbk.put hlD
    have hi2 : I pre (W.putObj (w.heap.size + 1) (.loop (rc .busy none))) := hI.putObj _ hi (by omega) hbk.loop rfl
    have hk2 : Kp W (W.putObj (w.heap.size + 1) (.loop (rc .busy none))) := hKb _ _ _ (by omega)
    have hbr : (Instr.beginRound (w.heap.size + 1)).run P W = .ok () (W.putObj (w.heap.size + 1) (.loop (rc .busy none))) := by
      rw [hrc]
      exact lrec_begin hl
    generalize W.putObj (w.heap.size + 1) (.loop (rc .busy none)) = W2 at hbk2 hi2 hk2 hbr
    refine ⟨fn, _, assign, body, lrec_yield hl (hps x), roundIn_of_wpIn hfn (hassign _ x W _ ⟨W2, hbr, wpIn_mono (hbody _ pre x W2 hi2 hlen) ?_⟩)⟩
    have hend : ∀ (jump : Option Code) (W3 : World), Book (w.heap.size + 1) w.heap.size (rc .busy none) W3 → (Instr.endRound (w.heap.size + 1) jump).run P W3 = .ok (.bool jump.isNone) (W3.putObj (w.heap.size + 1) (.loop (rc (if jump.isNone then .ready else .done) jump))) := fun jump W3 hb => by
      have h := hb.loop
      rw [hrc] at h ⊢
      exact lrec_end jump h
    have hjump : ∀ (c : Code) (W3 : World), KeepsFrom w.heap.size W2 W3 → Ix c (pre ++ [x]) W3 → (Ix c (pre ++ [x]) (W3.putObj (w.heap.size + 1) (.loop (rc .done (some c)))) ∧ Book (w.heap.size + 1) w.heap.size (rc .done (some c)) (W3.putObj (w.heap.size + 1) (.loop (rc .done (some c))))) := fun c W3 hk hi3 => by
      have hb3 := hbk2.kept (by omega) (Nat.le_refl _) hk
      exact ⟨(hIx c).putObj _ hi3 (by omega) hb3.loop rfl, hb3.put hlD⟩
    intro e a3 W3 hp
    cases e with
    | normal =>
      have hb3 := hbk2.kept (by omega) (Nat.le_refl _) hp.1
      exact ⟨_, _, hend none W3 hb3, .inl ⟨rfl, ⟨hI.putObj _ hp.2.2 (by omega) hb3.loop rfl, hb3.put hlD⟩, hKt hk2 (hKt hp.2.1 (hKb _ _ _ (by omega)))⟩⟩
    | ret => exact ⟨_, _, hend (some .ret) W3 (hbk2.kept (by omega) (Nat.le_refl _) hp.1), .inr ⟨rfl, .ret, hjump .ret W3 hp.1 hp.2⟩⟩
    | exit id => exact ⟨_, _, hend (some (.exit id)) W3 (hbk2.kept (by omega) (Nat.le_refl _) hp.1), .inr ⟨rfl, .exit id, hjump (.exit id) W3 hp.1 hp.2⟩⟩
    | goto t => exact ⟨_, _, hend (some (.goto t)) W3 (hbk2.kept (by omega) (Nat.le_refl _) hp.1), .inr ⟨rfl, .goto t, hjump (.goto t) W3 hp.1 hp.2⟩⟩
    | panic ch => exact hp.elim
    | outgrown => exact hp.elim
  have hcall := hseq (w.heap.size + 1) (fun pre W => I pre W ∧ Book (w.heap.size + 1) w.heap.size (rc .ready none) W) (fun pre W => ∃ c, Ix c pre W ∧ Book (w.heap.size + 1) w.heap.size (rc .done (some c)) W) W1 hb1
    (fun s A B hs hg' => ⟨hIc s A B hs.1 hg', hs.2.grow hg'⟩)
    (fun s A B hs hg' => by
      obtain ⟨c, hc, hbk⟩ := hs
      exact ⟨c, hIxc c s A B hc hg', hbk.grow hg'⟩)
    hround ⟨hI1, hB1⟩
  refine ⟨w.heap.size + 1, [{ target := .collected w.heap.size, args := #[] }], W1, { target := .fn (.func gf) lb, args := #[.func (.yield (w.heap.size + 1)) #[] #[]] }, W1, gf, #[.func (.yield (w.heap.size + 1)) #[] #[]] ++ lb, W1, ?_, ?_, ?_, ?_, fun _ => h1, ?_⟩
  · exact hent
  · simp only [resolve, hg]
    simp [go_sem]
  · intro f' hf'
    simp [Target.leads] at hf'
    subst hf'
    exact hFg
  · simp [invoke, go_sem, eg]
  · refine hcall.mono ?_
    rintro e W2 ⟨⟨v, rfl⟩, (⟨xs, hS, hi, hb⟩ | ⟨pre, hSp, c, hi, hb⟩)⟩
    · have h := hb.loop
      rw [hrc] at h
      exact ⟨none, _, lrec_done h (by simp), hdone xs _ hS (hI.putObj _ hi (by omega) hb.loop rfl) ((World.putObj_heap_other hlD).trans hb.late)⟩
    · have h := hb.loop
      rw [hrc] at h
      exact ⟨some c, _, lrec_done h (by simp), hstop c pre _ hSp ((hIx c).putObj _ hi (by omega) hb.loop rfl) ((World.putObj_heap_other hlD).trans hb.late)⟩
end
end Go.Proofs.Ytofajjodonhdkaa.Q
