/- Read's contract in the printer's form. -/
import Derived.Test.YtmkfjjfdbaaknaaDoorJASRun
namespace Go.Proofs.YtmkfjjfdbaaknaaDoor.Q
open Go Go.RowKit Go.Shelf Go.Proofs.YtmkfjjfdbaaknaaDoorW.PrintWords Go.Proofs.YtmkfjjfdbaaknaaDoorW.PrintLast Go.Proofs.YtmkfjjfdbaaknaaDoorW.PrintMore
def scalar_Read.f (a0 : ByteArray) : Option (Int × ByteArray × Bool × ByteArray × Int × Int × Int × Int × Int) :=
  if a0.size ≤ 1073741824 then some ((readP a0).2.2.f0, (readP a0).2.2.f1, (readP a0).2.2.f2, (readP a0).2.2.f3, (readP a0).2.2.f4, (readP a0).2.2.f5, (readP a0).2.2.f6, (readP a0).2.1, (readP a0).1) else none
theorem scalar_Read.calls (a0 : ByteArray) (r1 : Int) (r2 : ByteArray) (r3 : Bool) (r4 : ByteArray) (r5 : Int) (r6 : Int) (r7 : Int) (r8 : Int) (r9 : Int) (w : World) (hgm : GM w) (h : scalar_Read.f a0 = some (r1, r2, r3, r4, r5, r6, r7, r8, r9)) :
    Calls Tryd.prog 11 #[.string a0] w fun e w' => e = .returned (.tuple #[.agg #[.int .i64 r1, .string r2, .bool r3, .string r4, .int .i64 r5, .int .i64 r6, .int .i64 r7], .int .i64 r8, .int .i64 r9]) ∧ Below w.heap.size w w' := by
  unfold scalar_Read.f at h
  split at h
  case isFalse => cases h
  case isTrue hs =>
    have e := Option.some.inj h
    simp only [Prod.mk.injEq] at e
    obtain ⟨rfl, rfl, rfl, rfl, rfl, rfl, rfl, rfl, rfl⟩ := e
    exact read_any w.heap.size rfl a0 hs hgm
end Go.Proofs.YtmkfjjfdbaaknaaDoor.Q
