/- The laws over any variables answer yes: the walk and the plain law, joined. -/
import Derived.Test.YtfkibolpanlelaaCAPureVarsExtra
import Derived.Test.YtfkibolpanlelaaCAVOpen
namespace Go.Proofs.Ytfkibolpanlelaa.Q
open Go Go.RowKit Go.Shelf Go.Proofs.YtfkibolpanlelaaW.PrintWords Go.Proofs.YtfkibolpanlelaaW.PrintLast Go.Proofs.YtfkibolpanlelaaW.PrintMore Go.Proofs.Ytfkibolpanlelaa.SMap
set_option linter.unusedVariables false
theorem bulk_small {z : List SV} (h : (z.map bV).sum ≤ 1048576) : smallV z = true := smallV_of fun v hv => by
  have := mem_sum z v hv
  have e : bV v = v.f0.size + 1 + (v.f1.size + 1) + 1 := rfl
  omega
theorem bulk_len {z : List SV} (h : (z.map bV).sum ≤ 1048576) : z.length ≤ 1048576 := Nat.le_trans (len_sum z) h
theorem varsSettled_go (A : Option Addr) (c : Nat) (z : List SV) (W : World) (hgm : GM W) (hC : Kd.C k41 W A z.length z) (hc : z.length ≤ c) (hs : (z.map bV).sum ≤ 1048576) :
    Calls Try.prog 6 #[.slice A z.length c] W fun e W' => e = .returned (.bool true) ∧ Below W.heap.size W W' := by
  obtain ⟨k, h⟩ := (settled_ev z (bulk_small hs) (bulk_len hs)).rounds
  exact shuttlelaw10_VarsSettled.calls k A c z true W hC hc hgm h
theorem varsOwn_go (A : Option Addr) (c : Nat) (z : List SV) (W : World) (hgm : GM W) (hC : Kd.C k41 W A z.length z) (hc : z.length ≤ c) (hs : (z.map bV).sum ≤ 1048576) :
    Calls Try.prog 7 #[.slice A z.length c] W fun e W' => e = .returned (.bool true) ∧ Below W.heap.size W W' := by
  obtain ⟨k, h⟩ := (own_ev z (bulk_small hs) (bulk_len hs)).rounds
  exact shuttlelaw10_VarsOwn.calls k A c z true W hC hc hgm h
theorem varsOrder_go (A : Option Addr) (c : Nat) (z : List SV) (a : Int) (W : World) (hgm : GM W) (hC : Kd.C k41 W A z.length z) (hc : z.length ≤ c) (hs : (z.map bV).sum ≤ 1048576) :
    Calls Try.prog 8 #[.slice A z.length c, .int .i64 a] W fun e W' => e = .returned (.bool true) ∧ Below W.heap.size W W' := by
  obtain ⟨k, h⟩ := (order_ev z (bulk_small hs) (bulk_len hs) a).rounds
  exact shuttlelaw10_VarsOrder.calls k A c z a true W hC hc hgm h
theorem varsExtra_go (A : Option Addr) (c : Nat) (z : List SV) (a : ByteArray) (W : World) (hgm : GM W) (hC : Kd.C k41 W A z.length z) (hc : z.length ≤ c) (hs : (z.map bV).sum ≤ 1048576) (ha : a.size ≤ 1048576) :
    Calls Try.prog 11 #[.slice A z.length c, .string a] W fun e W' => e = .returned (.bool true) ∧ Below W.heap.size W W' := by
  obtain ⟨k, h⟩ := (extra_ev z (bulk_small hs) (bulk_len hs) a ha).rounds
  exact shuttlelaw10_VarsExtra.calls k A c z a true W hC hc hgm h
end Go.Proofs.Ytfkibolpanlelaa.Q
