/- What the small functions of the laws over variables come to, in plain words. -/
import Derived.Test.YtfkibolpanlelaaFAVAw
import Derived.Test.YtfkibolpanlelaaFAQ0
import Derived.Test.YtfkibolpanlelaaFAQ3
import Derived.Test.YtfkibolpanlelaaFAQ4
import Derived.Test.YtfkibolpanlelaaFAVGiv
namespace Go.Proofs.Ytfkibolpanlelaa.Q
open Go Go.RowKit Go.Shelf Go.Proofs.YtfkibolpanlelaaW.PrintWords Go.Proofs.YtfkibolpanlelaaW.PrintLast Go.Proofs.YtfkibolpanlelaaW.PrintMore Go.Proofs.Ytfkibolpanlelaa.SMap
set_option linter.unusedVariables false
set_option linter.unusedSimpArgs false
theorem wrap_up {i : Nat} (h : i < 9223372036854775807) : wrap64 ((i : Int) + 1) = ((i + 1 : Nat) : Int) := by unfold wrap64; omega
theorem copy_ev (l : List SV) (h : l.length < 4398046511104) : shuttlelaw0_CopyVars.f l = some l := by
  unfold shuttlelaw0_CopyVars.f
  show (if ([] : List SV).length + l.length < 4398046511104 then some ([] ++ l) else none) = _
  rw [if_pos (by simpa using h), List.nil_append]
theorem res_ev (l : List SV) (h : smallV l = true) : vars_Resolve.f l = some (resolveP l) := by
  unfold vars_Resolve.f
  rw [if_pos h]
theorem smallV_of {l : List SV} (h : ∀ v ∈ l, v.f1.size ≤ 1073741824) : smallV l = true := List.all_eq_true.2 fun v hv => decide_eq_true (h v hv)
theorem one_ok {raw : List SV} {dn dn' : DN} {nm : ByteArray} {x : VD} (hn : getDn dn nm = none) (hw : workP raw (todo raw dn) dn nm = .ok (x, dn')) : oneP raw dn nm = .ok (x.text, dn') := by
  unfold oneP
  rw [hn]
  simp only [hw]
theorem one_bad {raw : List SV} {dn : DN} {nm : ByteArray} {x : Er} (hn : getDn dn nm = none) (hw : workP raw (todo raw dn) dn nm = .error x) : oneP raw dn nm = .error x.1 := by
  unfold oneP
  rw [hn]
  simp only [hw]
def zU : VD := ⟨⟨#[]⟩, 0, true⟩
theorem work_ok {raw : List SV} {f : Nat} {dn : DN} {nm : ByteArray} {v : SV} {st : WS} (hv : findV raw nm = some v) (hp : piecesOf wkF (wkG (workP raw f) raw) v.f1 ([], 0, setDn dn nm zU) = .ok st) : workP raw (f + 1) dn nm = .ok (⟨strOfNums st.1, st.2.1, false⟩, setDn st.2.2 nm ⟨strOfNums st.1, st.2.1, false⟩) := by
  rw [workP, hv]
  show (match piecesOf wkF (wkG (workP raw f) raw) v.f1 ([], 0, setDn dn nm zU) with | .error x => Except.error x | .ok st => Except.ok ((⟨strOfNums st.1, st.2.1, false⟩ : VD), setDn st.2.2 nm ⟨strOfNums st.1, st.2.1, false⟩)) = _
  rw [hp]
theorem work_bad {raw : List SV} {f : Nat} {dn : DN} {nm : ByteArray} {v : SV} {x : Er} (hv : findV raw nm = some v) (hp : piecesOf wkF (wkG (workP raw f) raw) v.f1 ([], 0, setDn dn nm zU) = .error x) : workP raw (f + 1) dn nm = .error x := by
  rw [workP, hv]
  show (match piecesOf wkF (wkG (workP raw f) raw) v.f1 ([], 0, setDn dn nm zU) with | .error x => Except.error x | .ok st => Except.ok ((⟨strOfNums st.1, st.2.1, false⟩ : VD), setDn st.2.2 nm ⟨strOfNums st.1, st.2.1, false⟩)) = _
  rw [hp]
theorem todo_pos {raw : List SV} {dn : DN} {s : ByteArray} {v : SV} (hv : findV raw s = some v) (hn : getDn dn s = none) : ∃ f, todo raw dn = f + 1 := by
  obtain ⟨h1, h2⟩ := findV_some hv
  have := todo_set (a := dn) h1 (by rw [h2]; exact hn) zVD
  exact ⟨todo raw dn - 1, by omega⟩
theorem g_known {rec : DN → ByteArray → Except Er (VD × DN)} {raw : List SV} {st : WS} {nm : ByteArray} {i : Nat} {v : SV} {x : VD} (hv : findV raw nm = some v) (hx : getDn st.2.2 nm = some x) : wkG rec raw st nm i = useD st x st.2.2 i := by
  unfold wkG
  rw [hv]
  show (match getDn st.2.2 nm with | some x => _ | none => _) = _
  rw [hx]
theorem bt_of (s : ByteArray) (i : Nat) : bt s (i : Int) = (bytesOf s).getD i 0 := by
  rw [← rd_bytesOf]
  rfl
theorem from_list (s : ByteArray) (i : Nat) : (fromB s i).data.toList = s.data.toList.drop i := by
  unfold fromB
  rw [ByteArray.data_extract, Array.toList_extract]
  show (List.drop i s.data.toList).take (s.size - i) = _
  rw [List.take_of_length_le]
  rw [List.length_drop, data_length]
  exact Nat.le_refl _
theorem nums_size (l : List Int) : (strOfNums l).size = l.length := by
  unfold strOfNums ByteArray.size
  simp
end Go.Proofs.Ytfkibolpanlelaa.Q
