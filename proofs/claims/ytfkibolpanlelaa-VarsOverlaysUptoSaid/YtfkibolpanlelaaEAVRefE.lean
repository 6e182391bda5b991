/- What the document's names, references, places, looking up and expanding tell, with no program in sight: what the program's tell. -/
import Derived.Test.YtfkibolpanlelaaEAVTheC
import Derived.Test.YtfkibolpanlelaaEAQ0
import Derived.Test.YtfkibolpanlelaaEAQ4
namespace Go.Proofs.Ytfkibolpanlelaa.Q
open Go Go.RowKit Go.Shelf Go.Proofs.YtfkibolpanlelaaW.PrintWords Go.Proofs.YtfkibolpanlelaaW.PrintLast Go.Proofs.YtfkibolpanlelaaW.PrintMore Go.Proofs.Ytfkibolpanlelaa.SMap
set_option linter.unusedVariables false
set_option linter.unusedSimpArgs false
theorem toList_eq_iff {a b : ByteArray} : a.toList = b.toList ↔ a = b := by
  rw [ByteArray.toList_eq, ByteArray.toList_eq]
  exact ⟨fun h => ByteArray.ext (Array.toList_inj.mp h), fun h => by rw [h]⟩
def idxI : List SV → ByteArray → Nat → Int
  | [], _, _ => -1
  | v :: r, nm, i => if v.f0 = nm then (i : Int) else idxI r nm (i + 1)
theorem idx_l0 (l : List SV) (nm : ByteArray) (hl : l.length ≤ 1048576) : ∀ (d i : Nat), i + d = l.length → Ev (fun k => shuttleref10_Index.l0 k l nm (i : Int)) (idxI (l.drop i) nm i)
  | 0, i, h => by
    refine Ev.step (fun k => by rw [shuttleref10_Index.l0, if_neg (by omega)]) ?_
    rw [List.drop_eq_nil_of_le (by omega)]
    exact Ev.now _
  | d + 1, i, h => by
    have hi : i < l.length := by omega
    rw [List.drop_eq_getElem_cons hi]
    refine Ev.step (fun k => by rw [shuttleref10_Index.l0, if_pos (by omega), if_pos (by omega), rd_var _ _ hi]) ?_
    unfold idxI
    by_cases he : l[i].f0 = nm
    · rw [if_pos he]
      exact Ev.congr (fun k => by rw [if_pos (toList_eq_iff.2 he)]) (Ev.now _)
    · rw [if_neg he]
      exact Ev.congr (fun k => by rw [if_neg (fun x => he (toList_eq_iff.1 x)), wrap_up (by omega)]) (idx_l0 l nm hl d (i + 1) (by omega))
theorem idx_ev (l : List SV) (nm : ByteArray) (hl : l.length ≤ 1048576) : Ev (fun k => shuttleref10_Index.f k l nm) (idxI l nm 0) := idx_l0 l nm hl l.length 0 (by omega)
end Go.Proofs.Ytfkibolpanlelaa.Q
