/- text.Lines' contract in the printer's form. -/
import Derived.Test.YthddjlkgnmbomaaDoorTLines
namespace Go.Proofs.YthddjlkgnmbomaaDoor.Q
open Go Go.RowKit Go.Shelf Go.Proofs.YthddjlkgnmbomaaDoorW.PrintWords Go.Proofs.YthddjlkgnmbomaaDoorW.PrintLast Go.Proofs.YthddjlkgnmbomaaDoorW.PrintMore
def text_Lines.f (a0 : ByteArray) : Option (List LN × Int × Int × Int) := if a0.size ≤ 140737488355328 then some (linesP a0) else none
theorem text_Lines.calls (a0 : ByteArray) (r1 : List LN) (r2 : Int) (r3 : Int) (r4 : Int) (w : World) (h : text_Lines.f a0 = some (r1, r2, r3, r4)) :
    Calls Tryd.prog 9 #[.string a0] w fun e w' => ∃ v0_ : Value, e = .returned (.tuple #[v0_, .int .i64 r2, .int .i64 r3, .int .i64 r4]) ∧ Kd.R k33 33 w' w.heap.size (fun _ => True) v0_ r1 ∧ Below w.heap.size w w' := by
  unfold text_Lines.f at h
  split at h
  case isFalse => cases h
  case isTrue hs =>
    have e := Option.some.inj h
    have := lines_any a0 hs w
    rw [e] at this
    exact this
end Go.Proofs.YthddjlkgnmbomaaDoor.Q
