/- What every program answers that is one: at these inputs, by reckoning. -/
import Derived.Test.YtmkfjjfdbaaknaaDoorJASRefB
import Derived.Test.YtmkfjjfdbaaknaaDoorJAQ9
namespace Go.Proofs.YtmkfjjfdbaaknaaDoor.Q
open Go Go.RowKit Go.Proofs.YtmkfjjfdbaaknaaDoorW.PrintWords Go.Proofs.YtmkfjjfdbaaknaaDoorW.PrintLast Go.Proofs.YtmkfjjfdbaaknaaDoorW.PrintMore
set_option maxRecDepth 100000 in
theorem awake_ev : Ev (fun k => shuttlelaw2_awake.f k) true := Ev.of (fun k => shuttlelaw2_awake.mono k) (k := 40) (by kernel_rfl)
theorem scalarRead_f (s : ByteArray) (h : s.size ≤ 1073741824) : scalar_Read.f s = some (tup9 (readP s)) := if_pos h
end Go.Proofs.YtmkfjjfdbaaknaaDoor.Q
