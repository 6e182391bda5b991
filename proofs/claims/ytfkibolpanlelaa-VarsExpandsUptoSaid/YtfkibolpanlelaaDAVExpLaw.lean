/- The walk of statement VarsExpands. -/
import Derived.Test.YtfkibolpanlelaaDAVRefE
import Derived.Test.YtfkibolpanlelaaDAVLend
import Derived.Test.YtfkibolpanlelaaDAVOpen
namespace Go.Proofs.Ytfkibolpanlelaa.Q
open Go Go.RowKit Go.Shelf Go.Proofs.YtfkibolpanlelaaW.PrintWords Go.Proofs.YtfkibolpanlelaaW.PrintLast Go.Proofs.YtfkibolpanlelaaW.PrintMore Go.Proofs.Ytfkibolpanlelaa.SMap
set_option linter.unusedVariables false
set_option linter.unusedSimpArgs false
theorem exp_at (text : ByteArray) (A : Option Addr) (c m : Nat) (z : List SV) (w : World) (hr : Kd.C k41 w A z.length z) (hc : m ≤ c) (hm : z.length = m) (hgm : GM w) (ht : text.size ≤ 1073741824) (hs : smallV z = true) {r1 : ByteArray} {r2 r3 : Int} (h : expandP text z = (r1, r2, r3)) :
    Calls Try.prog 21 #[.string text, .slice A m c] w fun e w' => e = .returned (.tuple #[.string r1, .int .i64 r2, .int .i64 r3]) ∧ Below w.heap.size w w' := by
  subst hm
  exact vars_Expand.calls text A c z r1 r2 r3 w hr hc hgm ((exp_ev text z ht hs).trans (congrArg some h))
theorem rexp_at (text : ByteArray) (A : Option Addr) (c m : Nat) (z : List SV) (w : World) (hr : Kd.C k41 w A z.length z) (hc : m ≤ c) (hm : z.length = m) (ht : text.size ≤ 1073741824) (hs : smallV z = true) (hl : z.length ≤ 1048576) {r1 : ByteArray} {r2 r3 : Int} (h : expandP text z = (r1, r2, r3)) :
    Calls Try.prog 20 #[.string text, .slice A m c] w fun e w' => e = .returned (.tuple #[.string r1, .int .i64 r2, .int .i64 r3]) ∧ Below w.heap.size w w' := by
  subst hm
  obtain ⟨k, hk⟩ := (rexp_ev text z ht hl hs).rounds
  exact shuttleref10_Expand.calls k text A c z r1 r2 r3 w hr hc (hk.trans (congrArg some h))
theorem get_at (nm : ByteArray) (A : Option Addr) (c m : Nat) (z : List SV) (w : World) (hr : Kd.C k41 w A z.length z) (hc : m ≤ c) (hm : z.length = m) (hl : z.length ≤ 1048576) {r1 : ByteArray} {r2 : Bool} (h : getR z nm = (r1, r2)) :
    Calls Try.prog 22 #[.slice A m c, .string nm] w fun e w' => e = .returned (.tuple #[.string r1, .bool r2]) ∧ Below w.heap.size w w' := by
  subst hm
  obtain ⟨k, hk⟩ := (getv_ev z nm hl).rounds
  exact vars_Get.calls k A c z nm r1 r2 w hr hc (hk.trans (congrArg some h))
theorem rget_at (nm : ByteArray) (A : Option Addr) (c m : Nat) (z : List SV) (w : World) (hr : Kd.C k41 w A z.length z) (hc : m ≤ c) (hm : z.length = m) (hl : z.length ≤ 1048576) {r1 : ByteArray} {r2 : Bool} (h : getR z nm = (r1, r2)) :
    Calls Try.prog 23 #[.slice A m c, .string nm] w fun e w' => e = .returned (.tuple #[.string r1, .bool r2]) ∧ Below w.heap.size w w' := by
  subst hm
  obtain ⟨k, hk⟩ := (rget_ev z nm hl).rounds
  refine (shuttleref10_Get.calls k A c z nm r1 r2 w hr hc (hk.trans (congrArg some h))).mono ?_
  rintro e w' ⟨rfl, hd⟩
  exact ⟨rfl, hd.below⟩
theorem awake_at (w : World) (hgm : GM w) : Calls Try.prog 19 #[] w fun e w' => e = .returned (.bool true) ∧ Below w.heap.size w w' := by
  obtain ⟨k, hk⟩ := awake_ev.rounds
  exact shuttlelaw10_awake.calls k true w hgm hk
set_option maxHeartbeats 1000000 in
set_option maxRecDepth 100000 in
theorem expands_walk (text : ByteArray) (A : Option Addr) (c : Nat) (z : List SV) (nm : ByteArray) (W : World) (hgm : GM W) (ht : text.size ≤ 1048576) (hC : Kd.C k41 W A z.length z) (hc : z.length ≤ c) (hsz : smallV z = true) (hl : z.length ≤ 1048576) :
    Calls Try.prog 4 #[.string text, .slice A z.length c, .string nm] W fun e W' => e = .returned (.bool true) ∧ Below W.heap.size W W' := by
  have HR := Aside0.mk hC
  have HS := Aside0.mk hsz
  have HGM := Aside0.mk hgm
  obtain ⟨r1, r2, r3, hx⟩ : ∃ r1 r2 r3, expandP text z = (r1, r2, r3) := ⟨_, _, _, rfl⟩
  obtain ⟨g1, g2, hg⟩ : ∃ g1 g2, getR z nm = (g1, g2) := ⟨_, _, rfl⟩
  have HX := Aside0.mk hx
  have HG := Aside0.mk hg
  clear hC hsz hgm hx hg
  have ht2 : text.size ≤ 1073741824 := by omega
  have hss : (r1.toList == r1.toList) = true := by simp
  have hgg : (g1.toList == g1.toList) = true := by simp
  go_enter Try.func4, Try.ntmps4
  go_wp2_with (first
    | (go_at_call 20; refine (rexp_at text A c z.length z _ HR.out hc rfl ht2 HS.out hl HX.out).mono ?_; rintro e w1 ⟨rfl, hb⟩; have HB1 := Aside0.mk hb; clear hb)
    | (go_at_call 13; refine (lend_any A c z _ (Kd.C_below HR.out HB1.out) hc (by omega)).mono ?_; rintro e w2 ⟨g, cap, rfl, hq⟩; have HQ := Aside0.mk (Kd.R_lower hq.own HB1.out.size); have HB2 := Aside0.mk (below_step HB1.out hq.below); have HC2 := Aside0.mk (show Kd.C k41 w2 (some ⟨g, 0, none⟩) z.length z by have := Kd.C_take (xs := z ++ [spV, spV]) (m := z.length) (Kd.R_reads' hq.own).2.2 (by simp); rw [List.take_left' rfl] at this; exact this); have hcap : z.length + 2 ≤ cap := (Kd.R_reads' hq.own).2.1; clear hq)
    | (go_at_call 21; refine (exp_at text (some ⟨g, 0, none⟩) cap z.length z _ HC2.out (by omega) rfl (GM.below HGM.out HB2.out) ht2 HS.out HX.out).mono ?_; rintro e w3 ⟨rfl, hb⟩; have HB3 := Aside0.mk (below_step HB2.out hb); have HC3 := Aside0.mk (Kd.C_below HC2.out hb); have HQ3 := Aside0.mk (Kd.R_below HQ.out hb); clear hb)
    | (go_at_call 22; refine (get_at nm (some ⟨g, 0, none⟩) cap z.length z _ HC3.out (by omega) rfl hl HG.out).mono ?_; rintro e w4 ⟨rfl, hb⟩; have HB4 := Aside0.mk (below_step HB3.out hb); have HQ4 := Aside0.mk (Kd.R_below HQ3.out hb); clear hb)
    | (go_at_call 23; refine (rget_at nm A c z.length z _ (Kd.C_below HR.out HB4.out) hc rfl hl HG.out).mono ?_; rintro e w5 ⟨rfl, hb⟩; have HB5 := Aside0.mk (below_step HB4.out hb); have HQ5 := Aside0.mk (Kd.R_below HQ4.out hb); clear hb)
    | (go_at_call 15; refine (kept_any W g cap A c z _ (Kd.C_below HR.out HB5.out) hc (by omega) HB5.out HQ5.out).mono ?_; rintro e w6 ⟨rfl, hb⟩; have HB6 := Aside0.mk hb; clear hb)
    | (go_at_call 19; refine (awake_at _ (GM.below HGM.out HB6.out)).mono ?_; rintro e w7 ⟨rfl, hb⟩; have HB7 := Aside0.mk (below_step HB6.out hb); clear hb))
  go_ret
  exact ⟨rfl, HB7.out⟩
theorem bulkE_small {z : List SV} (h : (z.map bV).sum ≤ 1048576) : smallV z = true := smallV_of fun v hv => by
  have := mem_sum z v hv
  have e : bV v = v.f0.size + 1 + (v.f1.size + 1) + 1 := rfl
  omega
theorem varsExpands_go (text : ByteArray) (A : Option Addr) (c : Nat) (z : List SV) (nm : ByteArray) (W : World) (hgm : GM W) (ht : text.size ≤ 1048576) (hC : Kd.C k41 W A z.length z) (hc : z.length ≤ c) (hs : (z.map bV).sum ≤ 1048576) (hn : nm.size ≤ 1048576) :
    Calls Try.prog 4 #[.string text, .slice A z.length c, .string nm] W fun e W' => e = .returned (.bool true) ∧ Below W.heap.size W W' :=
  expands_walk text A c z nm W hgm ht hC hc (bulkE_small hs) (Nat.le_trans (len_sum z) hs)
end Go.Proofs.Ytfkibolpanlelaa.Q
