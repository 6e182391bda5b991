/- The walk of statement ShowTexts. -/
import Derived.Test.YtofajjodonhdkaaEAKAlikesLaw
import Derived.Test.YtofajjodonhdkaaEAKRefShow
import Derived.Test.YtofajjodonhdkaaEAKSame
namespace Go.Proofs.Ytofajjodonhdkaa.Q
open Go Go.RowKit Go.Shelf Go.Proofs.YtofajjodonhdkaaW.PrintWords Go.Proofs.YtofajjodonhdkaaW.PrintLast Go.Proofs.YtofajjodonhdkaaW.PrintMore
set_option linter.unusedVariables false
set_option linter.unusedSimpArgs false
theorem refShow_at (A : Option Addr) (c : Nat) (t : List SN) (w : World) (hr : Kd.C k31 w A t.length t) (hc : t.length ≤ c) (hT : TinyT t) {s : ByteArray} {z : Int} (h : showP t = (s, z)) :
    Calls Try.prog 7 #[.slice A t.length c] w fun e w' => e = .returned (.tuple #[.string s, .int .i64 z]) ∧ Below w.heap.size w w' := by
  have := refShow_any A c t w hr hc hT
  rw [h] at this
  exact this
theorem show_at (A : Option Addr) (c m : Nat) (t : List SN) (w : World) (hgm : GM w) (hr : Kd.C k31 w A t.length t) (hc : m ≤ c) (hm : t.length = m) (hT : TinyT t) {s : ByteArray} {z : Int} (h : showP t = (s, z)) :
    Calls Try.prog 9 #[.slice A m c] w fun e w' => e = .returned (.tuple #[.string s, .int .i64 z]) ∧ Below w.heap.size w w' := by
  subst hm
  have := show_any A c t w hr hc hT hgm
  rw [h] at this
  exact this
set_option maxHeartbeats 1000000 in
set_option maxRecDepth 100000 in
theorem showTexts_go (A : Option Addr) (c : Nat) (a : List SN) (w : World) (hgm : GM w) (hA : Kd.C k31 w A a.length a) (hc : a.length ≤ c) (hsa : (a.map bN).sum ≤ 1048576) :
    Calls Try.prog 3 #[.slice A a.length c] w fun e w' => e = .returned (.bool true) ∧ Below w.heap.size w w' := by
  have hla : a.length ≤ 1048576 := Nat.le_trans (nodes_len a) hsa
  have HT := Aside0.mk (tinyT_iff a (tiny_of hsa))
  clear hsa
  have HA := Aside0.mk hA
  have HGM := Aside0.mk hgm
  obtain ⟨s, z, hs⟩ : ∃ s z, showP a = (s, z) := ⟨_, _, rfl⟩
  have HS := Aside0.mk hs
  clear hA hgm hs
  have hzz : (z == z) = true := by simp
  go_enter Try.func3, Try.ntmps3
  go_wp2_with (first
    | (go_at_call 11; refine (awake_any _ (GM.below HGM.out HW4.out)).mono ?_; rintro e w5 ⟨rfl, hb⟩; have HW5 := Aside0.mk (below_step HW4.out hb); clear hb)
    | (go_at_call 10; refine (kept2_any w1.heap.size g2 cap2 A c a _ (Kd.C_below HA.out HW3.out) hc (by omega) (Kd.R_mono P2.out (fun _ _ => trivial))).mono ?_; rintro e w4 ⟨rfl, hk, ht⟩; have HW4 := Aside0.mk (HW3.out.trans (TK.below ht hk HW3.out.size (fun k e => by subst e; have := HW1.out.size; omega))); clear hk ht)
    | (go_at_call 9; refine (show_at (some ⟨g2, 0, none⟩) cap2 a.length a _ (GM.below HGM.out HW2.out) OX2.out.front (by omega) rfl HT.out HS.out).mono ?_; rintro e w3 ⟨rfl, hb⟩; have HW3 := Aside0.mk (below_step HW2.out hb); have P2 := Aside0.mk (OX2.out.below hb); clear hb)
    | (go_at_call 8; refine (lend_any A c a _ (Kd.C_below HA.out HW1.out) hc (by omega)).mono ?_; rintro e w2 ⟨g2, cap2, rfl, hq⟩; have OX2 := Aside0.mk (OwnN.of_R hq.own); have HW2 := Aside0.mk (below_step HW1.out hq.below); have hg2 := OX2.out.at_g; have hcap2 := OX2.out.cap; clear hq)
    | (go_at_call 7; refine (refShow_at A c a _ HA.out hc HT.out HS.out).mono ?_; rintro e w1 ⟨rfl, hb⟩; have HW1 := Aside0.mk hb; clear hb))
  go_ret
  exact ⟨rfl, HW5.out⟩
end Go.Proofs.Ytofajjodonhdkaa.Q
