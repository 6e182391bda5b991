/- What the small functions of the laws over variables come to, in plain words. -/
import Derived.Test.YtfkibolpanlelaaCAVAw
import Derived.Test.YtfkibolpanlelaaCAQ8
import Derived.Test.YtfkibolpanlelaaCAVGiv
namespace Go.Proofs.Ytfkibolpanlelaa.Q
open Go Go.RowKit Go.Shelf Go.Proofs.YtfkibolpanlelaaW.PrintWords Go.Proofs.YtfkibolpanlelaaW.PrintLast Go.Proofs.YtfkibolpanlelaaW.PrintMore Go.Proofs.Ytfkibolpanlelaa.SMap
set_option linter.unusedVariables false
set_option linter.unusedSimpArgs false
theorem wrap_up {i : Nat} (h : i < 9223372036854775807) : wrap64 ((i : Int) + 1) = ((i + 1 : Nat) : Int) := by unfold wrap64; omega
theorem low_nat (x : Int) : ∃ m : Nat, shuttlelaw0_Low.f x = some (m : Int) := by
  refine ⟨(BitVec.ofInt 64 x &&& BitVec.ofInt 64 9223372036854775807).toNat, ?_⟩
  have h : (BitVec.ofInt 64 x &&& BitVec.ofInt 64 9223372036854775807).toNat ≤ 9223372036854775807 := by
    rw [BitVec.toNat_and]
    exact Nat.and_le_right
  unfold shuttlelaw0_Low.f
  congr 1
  show IntKind.wrap .i64 (((BitVec.ofInt 64 x &&& BitVec.ofInt 64 9223372036854775807).toNat : Nat) : Int) = _
  generalize (BitVec.ofInt 64 x &&& BitVec.ofInt 64 9223372036854775807).toNat = m at h
  rw [IntKind.wrap_i64]
  omega
theorem copy_ev (l : List SV) (h : l.length < 4398046511104) : shuttlelaw0_CopyVars.f l = some l := by
  unfold shuttlelaw0_CopyVars.f
  show (if ([] : List SV).length + l.length < 4398046511104 then some ([] ++ l) else none) = _
  rw [if_pos (by simpa using h), List.nil_append]
theorem res_ev (l : List SV) (h : smallV l = true) : vars_Resolve.f l = some (resolveP l) := by
  unfold vars_Resolve.f
  rw [if_pos h]
theorem exp_ev (t : ByteArray) (l : List SV) (ht : t.size ≤ 1073741824) (h : smallV l = true) : vars_Expand.f t l = some (expandP t l) := by
  unfold vars_Expand.f
  rw [if_pos ⟨ht, h⟩]
theorem smallV_of {l : List SV} (h : ∀ v ∈ l, v.f1.size ≤ 1073741824) : smallV l = true := List.all_eq_true.2 fun v hv => decide_eq_true (h v hv)
/-- Whether the names are good is told by the names alone. -/
theorem find_names (s : ByteArray) : ∀ l l' : List SV, l.map (·.f0) = l'.map (·.f0) → (findV l s).isSome = (findV l' s).isSome
  | [], [], _ => rfl
  | v :: l, v' :: l', h => by
    rw [List.map_cons, List.map_cons] at h
    injection h with h1 h2
    unfold findV
    by_cases e : v.f0 = s
    · rw [List.find?_cons_of_pos (by simp [e]), List.find?_cons_of_pos (by simp [← h1, e])]; rfl
    · rw [List.find?_cons_of_neg (by simp [e]), List.find?_cons_of_neg (by simp [← h1, e])]
      exact find_names s l l' h2
theorem chk_names : ∀ (l l' p p' : List SV), p.map (·.f0) = p'.map (·.f0) → l.map (·.f0) = l'.map (·.f0) → chkV p l = chkV p' l'
  | [], [], _, _, _, _ => rfl
  | v :: l, v' :: l', p, p', hp, h => by
    rw [List.map_cons, List.map_cons] at h
    injection h with h1 h2
    have hl : p.length = p'.length := by simpa using congrArg List.length hp
    unfold chkV
    rw [h1, find_names v'.f0 p p' hp, hl, chk_names l l' (p ++ [v]) (p' ++ [v']) (by rw [List.map_append, List.map_append, hp]; simp [h1]) h2]
theorem one_ok {raw : List SV} {dn dn' : DN} {nm : ByteArray} {x : VD} (hn : getDn dn nm = none) (hw : workP raw (todo raw dn) dn nm = .ok (x, dn')) : oneP raw dn nm = .ok (x.text, dn') := by
  unfold oneP
  rw [hn]
  simp only [hw]
theorem one_bad {raw : List SV} {dn : DN} {nm : ByteArray} {x : Er} (hn : getDn dn nm = none) (hw : workP raw (todo raw dn) dn nm = .error x) : oneP raw dn nm = .error x.1 := by
  unfold oneP
  rw [hn]
  simp only [hw]
def zU : VD := ⟨⟨#[]⟩, 0, true⟩
theorem work_ok {raw : List SV} {f : Nat} {dn : DN} {nm : ByteArray} {v : SV} {st : WS} (hv : findV raw nm = some v) (hp : piecesOf wkF (wkG (workP raw f) raw) v.f1 ([], 0, setDn dn nm zU) = .ok st) : workP raw (f + 1) dn nm = .ok (⟨strOfNums st.1, st.2.1, false⟩, setDn st.2.2 nm ⟨strOfNums st.1, st.2.1, false⟩) := by
  rw [workP, hv]
  show (match piecesOf wkF (wkG (workP raw f) raw) v.f1 ([], 0, setDn dn nm zU) with | .error x => Except.error x | .ok st => Except.ok ((⟨strOfNums st.1, st.2.1, false⟩ : VD), setDn st.2.2 nm ⟨strOfNums st.1, st.2.1, false⟩)) = _
  rw [hp]
theorem work_bad {raw : List SV} {f : Nat} {dn : DN} {nm : ByteArray} {v : SV} {x : Er} (hv : findV raw nm = some v) (hp : piecesOf wkF (wkG (workP raw f) raw) v.f1 ([], 0, setDn dn nm zU) = .error x) : workP raw (f + 1) dn nm = .error x := by
  rw [workP, hv]
  show (match piecesOf wkF (wkG (workP raw f) raw) v.f1 ([], 0, setDn dn nm zU) with | .error x => Except.error x | .ok st => Except.ok ((⟨strOfNums st.1, st.2.1, false⟩ : VD), setDn st.2.2 nm ⟨strOfNums st.1, st.2.1, false⟩)) = _
  rw [hp]
theorem todo_pos {raw : List SV} {dn : DN} {s : ByteArray} {v : SV} (hv : findV raw s = some v) (hn : getDn dn s = none) : ∃ f, todo raw dn = f + 1 := by
  obtain ⟨h1, h2⟩ := findV_some hv
  have := todo_set (a := dn) h1 (by rw [h2]; exact hn) zVD
  exact ⟨todo raw dn - 1, by omega⟩
theorem g_known {rec : DN → ByteArray → Except Er (VD × DN)} {raw : List SV} {st : WS} {nm : ByteArray} {i : Nat} {v : SV} {x : VD} (hv : findV raw nm = some v) (hx : getDn st.2.2 nm = some x) : wkG rec raw st nm i = useD st x st.2.2 i := by
  unfold wkG
  rw [hv]
  show (match getDn st.2.2 nm with | some x => _ | none => _) = _
  rw [hx]
theorem bt_of (s : ByteArray) (i : Nat) : bt s (i : Int) = (bytesOf s).getD i 0 := by
  rw [← rd_bytesOf]
  rfl
theorem from_list (s : ByteArray) (i : Nat) : (fromB s i).data.toList = s.data.toList.drop i := by
  unfold fromB
  rw [ByteArray.data_extract, Array.toList_extract]
  show (List.drop i s.data.toList).take (s.size - i) = _
  rw [List.take_of_length_le]
  rw [List.length_drop, data_length]
  exact Nat.le_refl _
theorem nums_size (l : List Int) : (strOfNums l).size = l.length := by
  unfold strOfNums ByteArray.size
  simp
theorem expandOf_ok (st : List Int) : expandOf (.ok st) = (strOfNums st, 0, 0) := rfl
theorem expandOf_bad (x : Er) : expandOf (.error x) = (⟨#[]⟩, x.2, x.1) := rfl
end Go.Proofs.Ytfkibolpanlelaa.Q
