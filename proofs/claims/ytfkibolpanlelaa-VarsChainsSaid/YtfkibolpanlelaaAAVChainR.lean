/- A chain of references as a list, resolved. -/
import Derived.Test.YtfkibolpanlelaaAAVChainW
namespace Go.Proofs.Ytfkibolpanlelaa.Q
open Go Go.RowKit Go.Shelf Go.Proofs.YtfkibolpanlelaaW.PrintWords Go.Proofs.YtfkibolpanlelaaW.PrintLast Go.Proofs.YtfkibolpanlelaaW.PrintMore Go.Proofs.Ytfkibolpanlelaa.SMap
set_option linter.unusedVariables false
set_option linter.unusedSimpArgs false
def chainL (k : Nat) (e : ByteArray) : List SV := (List.range (k + 1)).map fun j => (⟨nmJ j, textC k e j⟩ : SV)
theorem chain_raw (k : Nat) (e : ByteArray) (hk : k < 25) : RawC (chainL k e) k e where
  at_ j hj := by
    unfold findV chainL
    rw [List.find?_map]
    have : (List.range (k + 1)).find? ((fun v : SV => decide (v.f0 = nmJ j)) ∘ fun j => (⟨nmJ j, textC k e j⟩ : SV)) = some j := by
      rw [List.find?_range_eq_some]
      refine ⟨by simp, List.mem_range.2 (by omega), fun i hi => ?_⟩
      have := nm_ne (i := i) (j := j) (by omega) (by omega) (by omega)
      simpa using this
    rw [this]
    rfl
theorem solve_known (raw : List SV) : ∀ (l : List SV) (dn : DN) (out : List SV) (c : Nat), (∀ v ∈ l, (getDn dn v.f0).isSome = true) → solveP raw dn out l c = .ok (out ++ l.map fun v => (⟨v.f0, ((getDn dn v.f0).getD zVD).text⟩ : SV))
  | [], dn, out, c, _ => by rw [solveP, List.map_nil, List.append_nil]
  | v :: r, dn, out, c, h => by
    obtain ⟨x, hx⟩ := Option.isSome_iff_exists.1 (h v List.mem_cons_self)
    rw [solveP]
    have ho : oneP raw dn v.f0 = .ok (x.text, dn) := by rw [oneP, hx]
    rw [ho]
    show solveP raw dn (out ++ [⟨v.f0, x.text⟩]) r (c + 1) = _
    rw [solve_known raw r dn _ _ (fun u hu => h u (List.mem_cons_of_mem _ hu)), List.map_cons, hx, List.append_assoc]
    rfl
theorem todo_all (raw : List SV) : todo raw [] = raw.length := by
  unfold todo
  have : raw.filter (fun v => (getDn [] v.f0).isNone) = raw := List.filter_eq_self.2 (fun v _ => rfl)
  rw [this]
theorem solve_first (raw : List SV) (v : SV) (r : List SV) {x : VD} {dn : DN} (hw : workP raw raw.length [] v.f0 = .ok (x, dn)) (h : ∀ u ∈ r, (getDn dn u.f0).isSome = true) : solveP raw [] [] (v :: r) 0 = .ok (⟨v.f0, x.text⟩ :: r.map fun v => (⟨v.f0, ((getDn dn v.f0).getD zVD).text⟩ : SV)) := by
  rw [solveP]
  have ho : oneP raw [] v.f0 = .ok (x.text, dn) := by
    unfold oneP
    show (match workP raw (todo raw []) [] v.f0 with | .error x => _ | .ok p => _) = _
    rw [todo_all, hw]
  rw [ho]
  show solveP raw dn ([] ++ [⟨v.f0, x.text⟩]) r (0 + 1) = _
  rw [solve_known raw r dn _ _ h]
  rfl
theorem solve_bad (raw : List SV) (v : SV) (r : List SV) {x : Er} (hw : workP raw raw.length [] v.f0 = .error x) : solveP raw [] [] (v :: r) 0 = .error (0, x.1) := by
  rw [solveP]
  have ho : oneP raw [] v.f0 = .error x.1 := by
    unfold oneP
    show (match workP raw (todo raw []) [] v.f0 with | .error x => _ | .ok p => _) = _
    rw [todo_all, hw]
  rw [ho]
end Go.Proofs.Ytfkibolpanlelaa.Q
