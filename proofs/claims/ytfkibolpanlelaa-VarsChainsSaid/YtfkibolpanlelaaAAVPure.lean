/- What the small functions of the laws over variables come to, in plain words. -/
import Derived.Test.YtfkibolpanlelaaAAVAw
import Derived.Test.YtfkibolpanlelaaAAQ8
import Derived.Test.YtfkibolpanlelaaAAVGiv
namespace Go.Proofs.Ytfkibolpanlelaa.Q
open Go Go.RowKit Go.Shelf Go.Proofs.YtfkibolpanlelaaW.PrintWords Go.Proofs.YtfkibolpanlelaaW.PrintLast Go.Proofs.YtfkibolpanlelaaW.PrintMore Go.Proofs.Ytfkibolpanlelaa.SMap
set_option linter.unusedVariables false
set_option linter.unusedSimpArgs false
theorem wrap_up {i : Nat} (h : i < 9223372036854775807) : wrap64 ((i : Int) + 1) = ((i + 1 : Nat) : Int) := by unfold wrap64; omega
theorem low_nat (x : Int) : ∃ m : Nat, shuttlelaw0_Low.f x = some (m : Int) := by
  refine ⟨(BitVec.ofInt 64 x &&& BitVec.ofInt 64 9223372036854775807).toNat, ?_⟩
  have h : (BitVec.ofInt 64 x &&& BitVec.ofInt 64 9223372036854775807).toNat ≤ 9223372036854775807 := by
    rw [BitVec.toNat_and]
    exact Nat.and_le_right
  unfold shuttlelaw0_Low.f
  congr 1
  show IntKind.wrap .i64 (((BitVec.ofInt 64 x &&& BitVec.ofInt 64 9223372036854775807).toNat : Nat) : Int) = _
  generalize (BitVec.ofInt 64 x &&& BitVec.ofInt 64 9223372036854775807).toNat = m at h
  rw [IntKind.wrap_i64]
  omega
theorem copy_ev (l : List SV) (h : l.length < 4398046511104) : shuttlelaw0_CopyVars.f l = some l := by
  unfold shuttlelaw0_CopyVars.f
  show (if ([] : List SV).length + l.length < 4398046511104 then some ([] ++ l) else none) = _
  rw [if_pos (by simpa using h), List.nil_append]
theorem res_ev (l : List SV) (h : smallV l = true) : vars_Resolve.f l = some (resolveP l) := by
  unfold vars_Resolve.f
  rw [if_pos h]
theorem smallV_of {l : List SV} (h : ∀ v ∈ l, v.f1.size ≤ 1073741824) : smallV l = true := List.all_eq_true.2 fun v hv => decide_eq_true (h v hv)
/-- Whether the names are good is told by the names alone. -/
theorem find_names (s : ByteArray) : ∀ l l' : List SV, l.map (·.f0) = l'.map (·.f0) → (findV l s).isSome = (findV l' s).isSome
  | [], [], _ => rfl
  | v :: l, v' :: l', h => by
    rw [List.map_cons, List.map_cons] at h
    injection h with h1 h2
    unfold findV
    by_cases e : v.f0 = s
    · rw [List.find?_cons_of_pos (by simp [e]), List.find?_cons_of_pos (by simp [← h1, e])]; rfl
    · rw [List.find?_cons_of_neg (by simp [e]), List.find?_cons_of_neg (by simp [← h1, e])]
      exact find_names s l l' h2
theorem chk_names : ∀ (l l' p p' : List SV), p.map (·.f0) = p'.map (·.f0) → l.map (·.f0) = l'.map (·.f0) → chkV p l = chkV p' l'
  | [], [], _, _, _, _ => rfl
  | v :: l, v' :: l', p, p', hp, h => by
    rw [List.map_cons, List.map_cons] at h
    injection h with h1 h2
    have hl : p.length = p'.length := by simpa using congrArg List.length hp
    unfold chkV
    rw [h1, find_names v'.f0 p p' hp, hl, chk_names l l' (p ++ [v]) (p' ++ [v']) (by rw [List.map_append, List.map_append, hp]; simp [h1]) h2]
end Go.Proofs.Ytfkibolpanlelaa.Q
