/- awake of chapter 10 answers yes. -/
import Derived.Test.YtfkibolpanlelaaFAQ4
import Derived.KernelRfl
namespace Go.Proofs.Ytfkibolpanlelaa.Q
open Go.RowKit Go.Proofs.YtfkibolpanlelaaW.PrintWords
theorem awake_ev : Ev (fun k => shuttlelaw10_awake.f k) true := Ev.of shuttlelaw10_awake.mono (k := 40) (by kernel_rfl)
end Go.Proofs.Ytfkibolpanlelaa.Q
