/- The plain law behind ScalarReads: the program's reading is the document's. -/
import Derived.Test.YtmkfjjfdbaaknaaDoorBASAw
namespace Go.Proofs.YtmkfjjfdbaaknaaDoor.Pure
open Go Go.RowKit Go.Proofs.YtmkfjjfdbaaknaaDoor.Q Go.Proofs.YtmkfjjfdbaaknaaDoorW.PrintWords Go.Proofs.YtmkfjjfdbaaknaaDoorW.PrintLast Go.Proofs.YtmkfjjfdbaaknaaDoorW.PrintMore
theorem ScalarReads (a0 : ByteArray) (hs : a0.size ≤ 1048576) : ∃ k, shuttlelaw2_ScalarReads.f k a0 = some true := by
  refine Ev.rounds ?_
  unfold shuttlelaw2_ScalarReads.f
  refine Ev.bind (refRead_ev a0 (by omega)) ?_
  rw [scalarRead_f a0 (by omega)]
  generalize tup9 (readP a0) = t
  obtain ⟨x0, x1, x2, x3, x4, x5, x6, x7, x8⟩ := t
  refine Ev.congr (f := fun k => (shuttlelaw2_awake.f k).bind fun t => some t) (fun k => ?_) (Ev.bind awake_ev (Ev.now _))
  simp
end Go.Proofs.YtmkfjjfdbaaknaaDoor.Pure
