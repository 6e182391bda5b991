/- Statement MatrixTurned: axes in another order, and an axis' values in another order, give the same picks, but for the order. Condition: what the argument holds is of bulk at most 1048576. -/
import Derived.Test.YtdgllnaeookddaaRows
import Derived.Test.YtdgllnaeookddaaDAGTurnLaw
import Derived.Test.YtdgllnaeookddaaDAGOpen
import Derived.WalkKit
import Derived.ProofKit
import Derived.OpenShut
import Derived.ShutString
import Derived.ChangeOld
import Derived.Below
import Derived.SizedLaws
import Derived.JoinedCond
namespace Go.Proofs.Ytdgllnaeookddaa.Q
open Go.RowKit Go.Proofs.YtdgllnaeookddaaW.PrintWords
set_option linter.unusedVariables false
theorem len_le_bulk {α : Type} {b : α → Nat} (hb : ∀ x, 1 ≤ b x) : ∀ l : List α, l.length ≤ (l.map b).sum
  | [] => Nat.le_refl _
  | a :: r => by
    have := len_le_bulk hb r
    have := hb a
    simp only [List.map_cons, List.sum_cons, List.length_cons]
    omega
theorem mem_le_bulk {α : Type} (b : α → Nat) : ∀ (l : List α) (v : α), v ∈ l → b v ≤ (l.map b).sum
  | a :: r, v, h => by
    rw [List.map_cons, List.sum_cons]
    rcases List.mem_cons.1 h with e | e
    · subst e; omega
    · have := mem_le_bulk b r v e; omega
theorem len_bL {α : Type} {b : α → Nat} (hb : ∀ x, 1 ≤ b x) (l : List α) : l.length < bL b l := Nat.lt_succ_of_le (len_le_bulk hb l)
theorem mem_bL {α : Type} (b : α → Nat) (l : List α) (v : α) (h : v ∈ l) : b v < bL b l := Nat.lt_succ_of_le (mem_le_bulk b l v h)
def bVar (x : SV) : Nat := bS x.f0 + bS x.f1 + 1
def bAx (x : SX) : Nat := bS x.f0 + bL bS x.f1 + 1
theorem tiny_of (z : S25) (h : bL bAx z.f0 + (bL (bL bVar) z.f1 + bL (bL bVar) z.f2) + 1 ≤ 1048576) : Tiny z.f0 z.f1 z.f2 := by
  have b1 : ∀ x : List SV, 1 ≤ bL bVar x := fun x => Nat.succ_le_succ (Nat.zero_le _)
  have b2 : ∀ x : SX, 1 ≤ bAx x := fun x => Nat.succ_le_succ (Nat.zero_le _)
  have b3 : ∀ x : SV, 1 ≤ bVar x := fun x => Nat.succ_le_succ (Nat.zero_le _)
  have b4 : ∀ x : ByteArray, 1 ≤ bS x := fun x => Nat.succ_le_succ (Nat.zero_le _)
  refine ⟨?_, ?_, ?_, fun a ha => ?_, fun x hx => ?_, fun x hx => ?_⟩
  · have := len_bL b2 z.f0; omega
  · have := len_bL b1 z.f1; omega
  · have := len_bL b1 z.f2; omega
  · have h1 := mem_bL bAx z.f0 a ha
    have h2 := len_bL b4 a.f1
    have h3 : bAx a = bS a.f0 + bL bS a.f1 + 1 := rfl
    omega
  · have h1 := mem_bL (bL bVar) z.f1 x hx
    have h2 := len_bL b3 x
    omega
  · have h1 := mem_bL (bL bVar) z.f2 x hx
    have h2 := len_bL b3 x
    omega
end Go.Proofs.Ytdgllnaeookddaa.Q
namespace Go.Proofs.Ytdgllnaeookddaa.matrixTurned
open Go.ChangeShapes Go.WideShapes Go.ChangeAt Go.RowKit Q
open Go.ChangeMaps (open_string shut_string)
theorem own : ownKnob Try.prog.godebug = none := by kernel_rfl
theorem laidOut : laidOutB Try.prog = true := by kernel_rfl
set_option maxRecDepth 100000 in
theorem contract (H : Type) (enc : TypeId × Value → H) (W : World) (base : Nat) (args : Array Value) (ds gs : List (DataW H)) (before : List MemPlace)
    (hval0 : ∀ (j : Nat) t v, Try.f8.params[j]? = some t → args[j]? = some v → Value.okWide Try.prog W .any base t v)
    (hW : DataW.Whole enc Try.prog Try.f8.params.toList Rows.matrixTurnedSpec.vars false W args.toList ds gs before) (hk : Rows.uptoSmall H (ds ++ gs) = true) :
    Calls Try.prog 8 args W fun e W' => ∃ v, e = .returned v ∧ Rows.matrixTurnedSpec.post enc Try.prog Try.f8 false true false false W args v W' := by
  have hval : ∀ (j : Nat) t v, Try.f8.params[j]? = some t → args[j]? = some v → Value.okWide Try.prog W .any base t v := hval0
  have hW' := hW
  obtain ⟨p, q, hA0, hV, rfl, hfz, hnd⟩ := hW
  have hA : DataW.TrodAll enc Try.prog W 0 (fun _ => true) true Try.f8.params.toList args.toList ds p := hA0
  rw [Try.params8] at hA hval
  obtain ⟨v0, vs0, d0, ds0, p0, q0, hargs, rfl, rfl, h0, r0⟩ := trodAll_cons hA
  obtain ⟨rfl, rfl, rfl⟩ := trodAll_nil r0
  obtain rfl : args = #[v0] := by cases args; simp_all
  obtain ⟨rfl, rfl⟩ := trodVars_none hV
  obtain ⟨cs, rfl, hcs⟩ := okWide_struct Try.underlying25 (hval 0 25 v0 rfl rfl)
  have k0 := h0
  have lt0 : ∀ x ∈ p0, x.block < W.heap.size := by obtain ⟨m, hm⟩ := k0; exact DataW.trod_lt m _ _ _ hm
  obtain ⟨fuel, hf⟩ := h0
  obtain ⟨z, hz, hb⟩ := opens_matrix fuel _ _ hf
  obtain ⟨A0, c0, A1, c1, A2, c2, he, l0, g0, l1, g1, l2, g2⟩ := k25_open hz
  obtain rfl : cs = #[.slice A0 z.f0.length c0, .slice A1 z.f1.length c1, .slice A2 z.f2.length c2] := by
    apply Array.toList_inj.1
    exact he
  have hsum : bL bAx z.f0 + (bL (bL bVar) z.f1 + bL (bL bVar) z.f2) + 1 ≤ 1048576 := by
    have h := of_decide_eq_true hk
    have h2 : Rows.uptoBulk d0 + 0 ≤ 1048576 := h
    have h3 : bL bAx z.f0 + (bL (bL bVar) z.f1 + bL (bL bVar) z.f2) + 1 ≤ Rows.uptoBulk d0 := hb
    omega
  have ht := tiny_of z hsum
  clear hA0 hval0
  refine (turnedLaw A0 A1 A2 c0 c1 c2 z.f0 z.f1 z.f2 W ⟨g0, l0, g1, l1, g2, l2⟩ ht).mono fun e W' ⟨he, bel⟩ => ?_
  subst he
  exact ⟨_, rfl, _, _, _, [], _, [], hW', trodAll_mk1 (shut_bool Try.underlying4 _), (trodAll_cons_mk (Below.trod laidOut (by kernel_rfl) (of_decide_eq_true (by kernel_rfl)) k0 bel lt0) trodAll_mk0), rfl, bel.frame _, fun h => by cases h⟩
set_option maxRecDepth 100000 in
theorem lifted (os : Os) (started : os.Started) (H : Type) (enc : TypeId × Value → H) (F : Stop.Interp) :
    ReturnsInHanded {} Try.checked os 8 .any ((Rows.OpenSpec.upto Rows.matrixTurnedSpec).pre6 enc Try.prog Try.f8 Rows.matrixTurnedUptoRow.domain false) (((Rows.OpenSpec.upto Rows.matrixTurnedSpec).at F).post enc Try.prog Try.f8 false true false false) := by
  refine returnsInHanded_of_cond (C := Try.checked) (s := Rows.OpenSpec.upto Rows.matrixTurnedSpec) (k := Rows.uptoSmall) rfl own started (by kernel_rfl) Try.func8
    (OpenSpec.witness (enc := enc) (C := Try.checked) (s := Rows.OpenSpec.upto Rows.matrixTurnedSpec) (k := Rows.uptoSmall) rfl false ⟨#[], #[.agg #[.slice none 0 0, .slice none 0 0, .slice none 0 0]], []⟩ 8 (by kernel_rfl) (by kernel_rfl) (by kernel_rfl)
      (x := ([.agg [.nil, .nil, .nil]], [], [])) (by kernel_rfl) rfl (by kernel_rfl)) ?_
  intro W base args ds gs before hval hW _ hk _
  exact contract H enc W base args ds gs before hval hW hk
theorem over : Rows.matrixTurnedUptoRow.holds Try.pinned (Rows.OpenSpec.upto Rows.matrixTurnedSpec) :=
  OpenClaim.holds_of_cond 8 Try.f8 rfl rfl rfl rfl rfl rfl rfl ⟨rfl, rfl, rfl, rfl, rfl⟩ rfl rfl rfl rfl rfl (by kernel_rfl) Try.func8 (by kernel_rfl)
    (of_decide_eq_true (by kernel_rfl)) (by unfold Func.isWrapper; first | (rw [if_pos (by decide +kernel)]; kernel_rfl) | (rw [if_neg (by decide +kernel)]; exact ⟨rfl, rfl⟩))
    (fun os started H enc _ F => lifted os started H enc F)
theorem proved : Rows.MatrixTurnedUptoSaid := over
end Go.Proofs.Ytdgllnaeookddaa.matrixTurned
namespace Go.Proofs.Ytdgllnaeookddaa
/-- The row, under a short name, for the claim. -/
theorem matrixTurned_holds : Rows.MatrixTurnedUptoSaid := matrixTurned.proved
#print axioms matrixTurned_holds
end Go.Proofs.Ytdgllnaeookddaa
