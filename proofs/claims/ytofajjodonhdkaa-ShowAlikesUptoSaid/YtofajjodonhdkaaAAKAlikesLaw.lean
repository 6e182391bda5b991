/- The walk of statement ShowAlikes. -/
import Derived.Test.YtofajjodonhdkaaAAKAw
import Derived.Test.YtofajjodonhdkaaAAKKept
import Derived.Test.YtofajjodonhdkaaAAKOpen
namespace Go.Proofs.Ytofajjodonhdkaa.Q
open Go Go.RowKit Go.Shelf Go.Proofs.YtofajjodonhdkaaW.PrintWords Go.Proofs.YtofajjodonhdkaaW.PrintLast Go.Proofs.YtofajjodonhdkaaW.PrintMore
set_option linter.unusedVariables false
set_option linter.unusedSimpArgs false
theorem own_okN {α : Type} {d : Kd α} {w : World} {e base n c g : Nat} {ok : Nat → Prop} {xs : List α} (h : d.R e w base ok (.slice (some ⟨g, 0, none⟩) n c) xs) : ok g :=
  h.1 g (by simp [Value.ownBlock])
/-- A list of the call's own, in a block between two numbers. -/
def OwnN (w : World) (lo hi : Nat) (v : Value) (xs : List SN) : Prop := Kd.R k31 31 w lo (fun k => lo ≤ k ∧ k < hi) v xs
theorem OwnN.of_R {w : World} {base : Nat} {v : Value} {xs : List SN} (h : Kd.R k31 31 w base (fun _ => True) v xs) : OwnN w base w.heap.size v xs := Kd.R_mono (Kd.R_bound h) (fun k hk => ⟨hk.2.1, hk.2.2.1⟩)
theorem OwnN.below {w w' : World} {lo hi : Nat} {v : Value} {xs : List SN} (h : OwnN w lo hi v xs) (hb : Below w.heap.size w w') : OwnN w' lo hi v xs := Kd.R_below h hb
theorem OwnN.kept {w w' : World} {lo hi : Nat} {v : Value} {xs : List SN} {S : Nat → Prop} (h : OwnN w lo hi v xs) (hk : Kept w w' S) (hne : ∀ k, S k → k < lo ∨ hi ≤ k) : OwnN w' lo hi v xs :=
  Kd.R_kept h hk (fun k hk hs => by have := hne k hs; omega)
theorem OwnN.C {w : World} {lo hi n c : Nat} {A : Option Addr} {xs : List SN} (h : OwnN w lo hi (.slice A n c) xs) : Kd.C k31 w A xs.length xs := (Kd.R_reads' h).2.2
theorem OwnN.cap {w : World} {lo hi n c : Nat} {A : Option Addr} {xs : List SN} (h : OwnN w lo hi (.slice A n c) xs) : n ≤ c := (Kd.R_reads' h).2.1
theorem OwnN.at_g {w : World} {lo hi n c g : Nat} {xs : List SN} (h : OwnN w lo hi (.slice (some ⟨g, 0, none⟩) n c) xs) : lo ≤ g ∧ g < hi := own_okN h
theorem OwnN.front {w : World} {lo hi m c g : Nat} {xs : List SN} (h : OwnN w lo hi (.slice (some ⟨g, 0, none⟩) m c) (xs ++ [spN, spN])) : Kd.C k31 w (some ⟨g, 0, none⟩) xs.length xs := by
  have := Kd.C_take (xs := xs ++ [spN, spN]) (m := xs.length) h.C (by simp)
  rw [List.take_left' rfl] at this
  exact this
theorem like_self (x : SN) : likeN x x = true := by simp [likeN]
theorem alike_self : ∀ a : List SN, alikeB a a = true
  | [] => rfl
  | x :: r => by unfold alikeB; rw [like_self, alike_self r]; rfl
theorem alike_at (A : Option Addr) (c m : Nat) (a : List SN) (B : Option Addr) (d n : Nat) (b : List SN) (w : World) (hA : Kd.C k31 w A a.length a) (hc : m ≤ c) (hm : a.length = m) (hB : Kd.C k31 w B b.length b) (hd : n ≤ d) (hn : b.length = n) (hl : a.length ≤ 1048576) {r : Bool} (h : alikeB a b = r) :
    Calls Try.prog 12 #[.slice A m c, .slice B n d] w fun e w' => e = .returned (.bool r) ∧ Below w.heap.size w w' := by
  subst hm hn h
  exact show_Alike.calls A c a B d b (alikeB a b) w hA hc hB hd (by unfold show_Alike.f; rw [if_pos (by omega)])
theorem like_at (A : Option Addr) (c : Nat) (a : List SN) (B : Option Addr) (d : Nat) (b : List SN) (w : World) (hA : Kd.C k31 w A a.length a) (hc : a.length ≤ c) (hB : Kd.C k31 w B b.length b) (hd : b.length ≤ d) (hl : a.length ≤ 1048576) {r : Bool} (h : alikeB a b = r) :
    Calls Try.prog 13 #[.slice A a.length c, .slice B b.length d] w fun e w' => e = .returned (.bool r) ∧ Below w.heap.size w w' := by
  subst h
  obtain ⟨k, hk⟩ := (like_ev a b (by omega)).rounds
  refine (shuttlelaw0_Alike.calls k A c a B d b (alikeB a b) w hA hc hB hd hk).mono ?_
  rintro e w' ⟨rfl, hd⟩
  exact ⟨rfl, hd.below⟩
theorem copy_at (A : Option Addr) (c : Nat) (a : List SN) (w : World) (hA : Kd.C k31 w A a.length a) (hc : a.length ≤ c) (hl : a.length ≤ 1048576) :
    Calls Try.prog 14 #[.slice A a.length c] w fun e w' => ∃ A1 c1, e = .returned (.slice A1 a.length c1) ∧ OwnN w' w.heap.size w'.heap.size (.slice A1 a.length c1) a ∧ Below w.heap.size w w' := by
  refine (shuttlelaw0_CopyNodes.calls A c a a w hA hc (copyNodes_f a (by omega))).mono ?_
  rintro e w' ⟨v, rfl, ho, hb⟩
  obtain ⟨A1, c1, rfl⟩ := Kd.R_slice ho
  exact ⟨A1, c1, rfl, OwnN.of_R ho, hb⟩
set_option maxHeartbeats 1000000 in
set_option maxRecDepth 100000 in
theorem showAlikes_go (A : Option Addr) (c : Nat) (a : List SN) (B : Option Addr) (d : Nat) (b : List SN) (w : World) (hgm : GM w) (hA : Kd.C k31 w A a.length a) (hc : a.length ≤ c) (hsa : (a.map bN).sum ≤ 1048576)
    (hB : Kd.C k31 w B b.length b) (hd : b.length ≤ d) (hsb : (b.map bN).sum ≤ 1048576) :
    Calls Try.prog 4 #[.slice A a.length c, .slice B b.length d] w fun e w' => e = .returned (.bool true) ∧ Below w.heap.size w w' := by
  have hla : a.length ≤ 1048576 := Nat.le_trans (nodes_len a) hsa
  have hlb : b.length ≤ 1048576 := Nat.le_trans (nodes_len b) hsb
  clear hsa hsb
  have HA := Aside0.mk hA
  have HB := Aside0.mk hB
  have HGM := Aside0.mk hgm
  obtain ⟨r, hr⟩ : ∃ r, alikeB a b = r := ⟨_, rfl⟩
  have HR := Aside0.mk hr
  clear hA hB hgm hr
  have hrr : (r == r) = true := by simp
  go_enter Try.func4, Try.ntmps4
  go_wp2_with (first
    | (go_at_call 8; refine (lend_any B d b _ (Kd.C_below HB.out HW1.out) hd (by omega)).mono ?_; rintro e w2 ⟨g2, cap2, rfl, hq⟩; have OX2 := Aside0.mk (OwnN.of_R hq.own); have HO1 := Aside0.mk (OX1.out.below hq.below); have HW2 := Aside0.mk (below_step HW1.out hq.below); have hg2 := OX2.out.at_g; have hcap2 := OX2.out.cap; clear hq)
    | (go_at_call 8; refine (lend_any A c a _ HA.out hc (by omega)).mono ?_; rintro e w1 ⟨g1, cap1, rfl, hq⟩; have OX1 := Aside0.mk (OwnN.of_R hq.own); have HW1 := Aside0.mk hq.below; have hg1 := OX1.out.at_g; have hcap1 := OX1.out.cap; clear hq)
    | (go_at_call 12; refine (alike_at A7 c7 a.length a A8 c8 a.length a _ O7'.out.C O7'.out.cap rfl O8.out.C O8.out.cap rfl hla (alike_self a)).mono ?_; rintro e w9 ⟨rfl, hb⟩; have HW9 := Aside0.mk (below_step HW8.out hb); clear hb)
    | (go_at_call 12; refine (alike_at (some ⟨g1, 0, none⟩) cap1 a.length a (some ⟨g2, 0, none⟩) cap2 b.length b _ HO1.out.front (by omega) rfl OX2.out.front (by omega) rfl hla HR.out).mono ?_; rintro e w3 ⟨rfl, hb⟩; have HW3 := Aside0.mk (below_step HW2.out hb); have P1 := Aside0.mk (HO1.out.below hb); have P2 := Aside0.mk (OX2.out.below hb); clear hb)
    | (go_at_call 10; refine (kept2_any w1.heap.size g2 cap2 B d b _ (Kd.C_below HB.out HW4.out) hd (by omega) (Kd.R_mono P2'.out (fun _ _ => trivial))).mono ?_; rintro e w5 ⟨rfl, hk, ht⟩; have HW5 := Aside0.mk (HW4.out.trans (TK.below ht hk HW4.out.size (fun k e => by subst e; have := HW1.out.size; omega))); clear hk ht)
    | (go_at_call 10; refine (kept2_any w.heap.size g1 cap1 A c a _ (Kd.C_below HA.out HW3.out) hc (by omega) (Kd.R_mono P1.out (fun _ _ => trivial))).mono ?_; rintro e w4 ⟨rfl, hk, ht⟩; have HW4 := Aside0.mk (HW3.out.trans (TK.below ht hk HW3.out.size (fun k e => by subst e; omega))); have P2' := Aside0.mk (P2.out.kept hk (fun k e => by subst e; omega)); clear hk ht)
    | (go_at_call 13; refine (like_at A c a B d b _ (Kd.C_below HA.out HW5.out) hc (Kd.C_below HB.out HW5.out) hd hla HR.out).mono ?_; rintro e w6 ⟨rfl, hb⟩; have HW6 := Aside0.mk (below_step HW5.out hb); clear hb)
    | (go_at_call 14; refine (copy_at A c a _ (Kd.C_below HA.out HW7.out) hc hla).mono ?_; rintro e w8 ⟨A8, c8, rfl, ho, hb⟩; have HW8 := Aside0.mk (below_step HW7.out hb); have O8 := Aside0.mk ho; have O7' := Aside0.mk (O7.out.below hb); clear hb ho)
    | (go_at_call 14; refine (copy_at A c a _ (Kd.C_below HA.out HW6.out) hc hla).mono ?_; rintro e w7 ⟨A7, c7, rfl, ho, hb⟩; have HW7 := Aside0.mk (below_step HW6.out hb); have O7 := Aside0.mk ho; clear hb ho)
    | (go_at_call 11; refine (awake_any _ (GM.below HGM.out HW9.out)).mono ?_; rintro e w10 ⟨rfl, hb⟩; have HW10 := Aside0.mk (below_step HW9.out hb); clear hb))
  go_ret
  exact ⟨rfl, HW10.out⟩
end Go.Proofs.Ytofajjodonhdkaa.Q
