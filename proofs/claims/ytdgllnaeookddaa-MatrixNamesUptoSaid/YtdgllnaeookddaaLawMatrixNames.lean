/- Statement MatrixNames: an instance's name is the document's, and the pick stays. Condition: what the arguments hold is of bulk at most 1048576. -/
import Derived.Test.YtdgllnaeookddaaRows
import Derived.Test.YtdgllnaeookddaaGNamesLaw
import Derived.Test.YtdgllnaeookddaaGOpen
import Derived.WalkKit
import Derived.ProofKit
import Derived.OpenShut
import Derived.ShutString
import Derived.ChangeOld
import Derived.Below
import Derived.SizedLaws
import Derived.JoinedCond
namespace Go.Proofs.Ytdgllnaeookddaa.Q
open Go.RowKit Go.Proofs.YtdgllnaeookddaaW.PrintWords
set_option linter.unusedVariables false
def bV (x : SV) : Nat := bS x.f0 + bS x.f1 + 1
theorem len_sum : ∀ l : List SV, l.length ≤ (l.map bV).sum
  | [] => Nat.le_refl _
  | a :: r => by
    have := len_sum r
    simp only [List.map_cons, List.sum_cons, List.length_cons, bV, bS]
    omega
theorem mem_sum : ∀ (l : List SV) (v : SV), v ∈ l → bV v ≤ (l.map bV).sum
  | a :: r, v, h => by
    rw [List.map_cons, List.sum_cons]
    rcases List.mem_cons.1 h with e | e
    · subst e; omega
    · have := mem_sum r v e; omega
theorem tail_sum : ∀ l : List SV, (Lib.joinTail [44] ((l.map pairS).map (·.data.toList))).length ≤ (l.map bV).sum
  | [] => Nat.le_refl _
  | a :: r => by
    have ih := tail_sum r
    unfold Lib.joinTail at ih ⊢
    simp only [List.map_cons, List.sum_cons, List.flatten_cons, List.length_append, List.length_cons, List.length_nil]
    have : (pairS a).data.toList.length = a.f0.size + 1 + a.f1.size := by
      rw [Array.length_toList]
      show ((a.f0 ++ ⟨#[61]⟩) ++ a.f1).size = _
      rw [size_append, size_append]
      rfl
    rw [this]
    have e : bV a = a.f0.size + 1 + (a.f1.size + 1) + 1 := rfl
    omega
theorem join_sum (l : List SV) : (Lib.join ((l.map pairS).map (·.data.toList)) [44]).length ≤ (l.map bV).sum := by
  cases l with
  | nil => simp [Lib.join_nil]
  | cons a r =>
    have h := tail_sum (a :: r)
    have e : (Lib.join (((a :: r).map pairS).map (·.data.toList)) [44]).length ≤ (Lib.joinTail [44] (((a :: r).map pairS).map (·.data.toList))).length := by
      simp only [List.map_cons]
      rw [Lib.join_cons]
      unfold Lib.joinTail
      simp
    omega
theorem room_sum (job : ByteArray) (l : List SV) : ∀ k, k ≤ l.length → roomS job l k ≤ job.size + 1 + ((l.take k).map bV).sum
  | 0, _ => by simp [roomS]
  | k + 1, h => by
    have ih := room_sum job l k (by omega)
    have e := List.take_succ_eq_append_getElem (l := l) (i := k) (by omega)
    rw [e, List.map_append, List.sum_append]
    show roomS job l k + _ ≤ _
    rw [rd_var l k (by omega)]
    simp only [List.map_cons, List.map_nil, List.sum_cons, List.sum_nil]
    have e2 : bV l[k] = l[k].f0.size + 1 + (l[k].f1.size + 1) + 1 := rfl
    omega
theorem names_small (job : ByteArray) (l : List SV) (hj : job.size ≤ 1048576) (hb : (l.map bV).sum ≤ 1048576) : l.length ≤ 4398046511000 ∧ nameSmall job l = true ∧ roomS job l l.length ≤ 4611686018427387904 := by
  have h1 := len_sum l
  have h2 := join_sum l
  have h3 := room_sum job l l.length (Nat.le_refl _)
  rw [List.take_length] at h3
  refine ⟨by omega, ?_, by omega⟩
  simp only [nameSmall, Bool.and_eq_true, decide_eq_true_eq, List.all_eq_true]
  refine ⟨⟨⟨by omega, fun v hv => ?_⟩, by omega⟩, by omega⟩
  have := mem_sum l v hv
  have e : bV v = v.f0.size + 1 + (v.f1.size + 1) + 1 := rfl
  omega
end Go.Proofs.Ytdgllnaeookddaa.Q
namespace Go.Proofs.Ytdgllnaeookddaa.matrixNames
open Go.ChangeShapes Go.WideShapes Go.ChangeAt Go.RowKit Q
open Go.ChangeMaps (open_string shut_string)
theorem own : ownKnob Try.prog.godebug = none := by kernel_rfl
theorem laidOut : laidOutB Try.prog = true := by kernel_rfl
set_option maxRecDepth 100000 in
theorem contract (H : Type) (enc : TypeId × Value → H) (W : World) (base : Nat) (args : Array Value) (ds gs : List (DataW H)) (before : List MemPlace)
    (hval0 : ∀ (j : Nat) t v, Try.f4.params[j]? = some t → args[j]? = some v → Value.okWide Try.prog W .any base t v)
    (hW : DataW.Whole enc Try.prog Try.f4.params.toList Rows.matrixNamesSpec.vars false W args.toList ds gs before) (hk : Rows.uptoSmall H (ds ++ gs) = true) :
    Calls Try.prog 4 args W fun e W' => ∃ v, e = .returned v ∧ Rows.matrixNamesSpec.post enc Try.prog Try.f4 false true false false W args v W' := by
  have hval : ∀ (j : Nat) t v, Try.f4.params[j]? = some t → args[j]? = some v → Value.okWide Try.prog W .any base t v := hval0
  have hW' := hW
  obtain ⟨p, q, hA0, hV, rfl, hfz, hnd⟩ := hW
  have hA : DataW.TrodAll enc Try.prog W 0 (fun _ => true) true Try.f4.params.toList args.toList ds p := hA0
  rw [Try.params4] at hA hval
  obtain ⟨v0, vs0, d0, ds0, p0, q0, hargs, rfl, rfl, h0, r0⟩ := trodAll_cons hA
  obtain ⟨v1, vs1, d1, ds1, p1, q1, rfl, rfl, rfl, h1, r1⟩ := trodAll_cons r0
  obtain ⟨rfl, rfl, rfl⟩ := trodAll_nil r1
  obtain rfl : args = #[v0, v1] := by cases args; simp_all
  obtain ⟨rfl, rfl⟩ := trodVars_none hV
  obtain ⟨a0, rfl, rfl, rfl, y0⟩ := open_string Try.underlying9 (hval 0 9 v0 rfl rfl) h0
  obtain ⟨a1, len1, cap1, rfl⟩ := okWide_slice Try.underlying36 (hval 1 36 v1 rfl rfl)
  have k1 := h1
  have lt1 : ∀ x ∈ p1, x.block < W.heap.size := by obtain ⟨m, hm⟩ := k1; exact DataW.trod_lt m _ _ _ hm
  obtain ⟨fuel, hf⟩ := h1
  obtain ⟨z, hz, hb⟩ := opens_vars fuel _ _ hf
  obtain ⟨A, c, he, hl, hC⟩ := hz
  have he2 : ([.slice a1 len1 cap1] : List Value) = [.slice A z.length c] := he
  injection he2 with he3 _
  injection he3 with e1 e2 e3
  subst e1 e2 e3
  have hsum : a0.size + 1 + (((z.map bV).sum + 1) + 0) ≤ 1048576 := by
    have h := of_decide_eq_true hk
    have h2 : a0.data.toList.length + 1 + (Rows.uptoBulk d1 + 0) ≤ 1048576 := h
    rw [Array.length_toList] at h2
    have h3 : (z.map bV).sum + 1 ≤ Rows.uptoBulk d1 := hb
    have h4 : a0.size = a0.data.size := rfl
    omega
  obtain ⟨s1, s2, s3⟩ := names_small a0 z (by omega) (by omega)
  clear hA0 hval0
  refine (namesLaw a0 a1 cap1 z W hC hl s1 (by omega) s2 s3).mono fun e W' ⟨he, bel⟩ => ?_
  subst he
  exact ⟨_, rfl, _, _, _, [], _, [], hW', trodAll_mk1 (shut_bool Try.underlying4 _), (trodAll_cons_mk (shut_string Try.underlying9 y0) (trodAll_cons_mk (Below.trod laidOut (by kernel_rfl) (of_decide_eq_true (by kernel_rfl)) k1 bel lt1) trodAll_mk0)), rfl, bel.frame _, fun h => by cases h⟩
set_option maxRecDepth 100000 in
theorem lifted (os : Os) (started : os.Started) (H : Type) (enc : TypeId × Value → H) (F : Stop.Interp) :
    ReturnsInHanded {} Try.checked os 4 .any ((Rows.OpenSpec.upto Rows.matrixNamesSpec).pre6 enc Try.prog Try.f4 Rows.matrixNamesUptoRow.domain false) (((Rows.OpenSpec.upto Rows.matrixNamesSpec).at F).post enc Try.prog Try.f4 false true false false) := by
  refine returnsInHanded_of_cond (C := Try.checked) (s := Rows.OpenSpec.upto Rows.matrixNamesSpec) (k := Rows.uptoSmall) rfl own started (by kernel_rfl) Try.func4
    (OpenSpec.witness (enc := enc) (C := Try.checked) (s := Rows.OpenSpec.upto Rows.matrixNamesSpec) (k := Rows.uptoSmall) rfl false ⟨#[], #[.string ByteArray.empty, .slice none 0 0], []⟩ 8 (by kernel_rfl) (by kernel_rfl) (by kernel_rfl)
      (x := ([.lit (.string []), .nil], [], [])) (by kernel_rfl) rfl (by kernel_rfl)) ?_
  intro W base args ds gs before hval hW _ hk _
  exact contract H enc W base args ds gs before hval hW hk
theorem over : Rows.matrixNamesUptoRow.holds Try.pinned (Rows.OpenSpec.upto Rows.matrixNamesSpec) :=
  OpenClaim.holds_of_cond 4 Try.f4 rfl rfl rfl rfl rfl rfl rfl ⟨rfl, rfl, rfl, rfl, rfl⟩ rfl rfl rfl rfl rfl (by kernel_rfl) Try.func4 (by kernel_rfl)
    (of_decide_eq_true (by kernel_rfl)) (by unfold Func.isWrapper; first | (rw [if_pos (by decide +kernel)]; kernel_rfl) | (rw [if_neg (by decide +kernel)]; exact ⟨rfl, rfl⟩))
    (fun os started H enc _ F => lifted os started H enc F)
theorem proved : Rows.MatrixNamesUptoSaid := over
end Go.Proofs.Ytdgllnaeookddaa.matrixNames
namespace Go.Proofs.Ytdgllnaeookddaa
/-- The row, under a short name, for the claim. -/
theorem matrixNames_holds : Rows.MatrixNamesUptoSaid := matrixNames.proved
#print axioms matrixNames_holds
end Go.Proofs.Ytdgllnaeookddaa
