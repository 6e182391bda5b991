/- The parts of a node, as the program's package parts tells them one by one: Of and its iterator. -/
import Derived.Test.YtofajjodonhdkaaEATIn
import Derived.Lib.Hide
import Derived.Deep.QuietTactic
import Derived.BigQuiet
namespace Go.Proofs.Ytofajjodonhdkaa.Q
open Go Go.RowKit Go.Shelf Go.Proofs.YtofajjodonhdkaaW.PrintWords Go.Proofs.YtofajjodonhdkaaW.PrintLast Go.Proofs.YtofajjodonhdkaaW.PrintMore
attribute [local go_sem] Oper.semAt_some
set_option linter.unusedVariables false
set_option linter.unusedSimpArgs false
set_option linter.unusedSectionVars false
abbrev SN := S31
def nd (t : List SN) (n : Nat) : SN := rd_T31 t (n : Int)
theorem nd_at (t : List SN) (n : Nat) (h : n < t.length) : nd t n = t[n] := by simp [nd, rd_T31, h]
/-- The parts of a node of depth d, from place n on. -/
def partsFrom (t : List SN) (d : Int) : Nat → Nat → List Nat
  | 0, _ => []
  | k + 1, n => if d < (nd t n).f1 then (if (nd t n).f1 = d + 1 then [n] else []) ++ partsFrom t d k (n + 1) else []
def partsOf (t : List SN) (i : Nat) : List Nat := partsFrom t (nd t i).f1 (t.length - (i + 1)) (i + 1)
theorem partsFrom_step {t : List SN} {d : Int} {n : Nat} (h : n < t.length) (hg : d < (nd t n).f1) : partsFrom t d (t.length - n) n = (if (nd t n).f1 = d + 1 then [n] else []) ++ partsFrom t d (t.length - (n + 1)) (n + 1) := by
  have e : t.length - n = (t.length - (n + 1)) + 1 := by omega
  rw [e, partsFrom, if_pos hg]
theorem partsFrom_stop {t : List SN} {d : Int} {n : Nat} (hg : ¬ (n < t.length ∧ d < (nd t n).f1)) : partsFrom t d (t.length - n) n = [] := by
  by_cases h : n < t.length
  · have e : t.length - n = (t.length - (n + 1)) + 1 := by omega
    rw [e, partsFrom, if_neg (fun h2 => hg ⟨h, h2⟩)]
  · have e : t.length - n = 0 := by omega
    rw [e, partsFrom]
theorem of_any (A : Option Addr) (m c : Nat) (i : Int) (w : World) : Calls Try.prog 30 #[.slice A m c, .int .i64 i] w fun e w' => e = .returned (.func (.func 37) #[] #[.pointer (some ⟨w.heap.size + 1, 0, none⟩), .pointer (some ⟨w.heap.size, 0, none⟩)]) ∧ w' = (w.alloc (.cells #[.slice A m c] 22)).alloc (.cells #[.int .i64 i] 3) := by
  have hmf : ∀ (fn : Fn) (first cap : Array Value) (w : World), (Instr.makeFunc fn first cap).run Try.prog w = .ok (.func fn first cap) w := fun _ _ _ _ => rfl
  go_enter Try.func30, Try.ntmps30
  go_wp2
  go_ret
  exact ⟨rfl, rfl⟩
/-- What the iterator reads: its two variables, and the list (of an elder world w0, nothing of which has been changed). -/
structure OfAt (w0 : World) (cA cT : Nat) (A : Option Addr) (c : Nat) (t : List SN) (i : Nat) (W : World) : Prop where
  hi : W.heap[cA]? = some (.cells #[.int .i64 i] 3 (0, 0))
  ht : W.heap[cT]? = some (.cells #[.slice A t.length c] 22 (0, 0))
  hb : Below w0.heap.size w0 W
  h0 : Kd.C k31 w0 A t.length t
theorem OfAt.hC {w0 : World} {cA cT : Nat} {A : Option Addr} {c : Nat} {t : List SN} {i : Nat} {W : World} (h : OfAt w0 cA cT A c t i W) : Kd.C k31 W A t.length t := Kd.C_below h.h0 h.hb
theorem OfAt.drewN {w0 : World} {cA cT : Nat} {A : Option Addr} {c : Nat} {t : List SN} {i : Nat} {W : World} (h : OfAt w0 cA cT A c t i W) (m : Nat) : OfAt w0 cA cT A c t i (W.drewN m) := ⟨h.hi, h.ht, pw_below_drewN h.hb m, h.h0⟩
theorem two_of {A B : Prop} (h : B) (k : B → A) : A := k h
structure PRel (w0 : World) (cA cT : Nat) (A : Option Addr) (c : Nat) (t : List SN) (i : Nat) (J : List Nat → World → Prop) (p : Value) (pre : List Nat) (n : Nat) (wr : World) : Prop where
  hp : p = .int .i64 (n : Int)
  h1 : i < n
  h2 : n ≤ t.length
  hall : partsOf t i = pre ++ partsFrom t (nd t i).f1 (t.length - n) n
  hJ : J pre wr
  hO : OfAt w0 cA cT A c t i wr
set_option maxRecDepth 100000 in
set_option maxHeartbeats 1000000 in
theorem of1_in (w0 : World) (n l cA cT : Nat) (A : Option Addr) (c : Nat) (t : List SN) (i : Nat) (hi : i < t.length) (hlen : t.length ≤ 1048576) (hc : t.length ≤ c) (hd : 0 ≤ (nd t i).f1) (hd2 : (nd t i).f1 ≤ 1000000) (J Jx : List Nat → World → Prop) (Kp : World → World → Prop)
    (hJd : ∀ s W m, J s W → J s (W.drewN m)) (hK : ∀ X Y, Kp X Y → OfAt w0 cA cT A c t i X → OfAt w0 cA cT A c t i Y)
    (hY : ∀ pre x W1, J pre W1 → pre ++ [x] <+: partsOf t i → YieldAt Fence.wide (n - 1) Try.prog l #[.int .i64 ((x : Nat) : Int)] W1 fun e W' =>
      (e = .returned (.bool true) ∧ J (pre ++ [x]) W' ∧ Kp W1 W') ∨ (e = .returned (.bool false) ∧ Jx (pre ++ [x]) W'))
    (W : World) (hO : OfAt w0 cA cT A c t i W) (h0 : J [] W) :
    CallsIn Fence.wide n Try.prog 37 #[.func (.yield l) #[] #[], .pointer (some ⟨cA, 0, none⟩), .pointer (some ⟨cT, 0, none⟩)] W fun e W' => (∃ v, e = .returned v) ∧
      ((∃ ys, ys = partsOf t i ∧ J ys W') ∨ (∃ pre, pre <+: partsOf t i ∧ Jx pre W')) := by
  have HJD := Aside0.mk hJd
  have HK := Aside0.mk hK
  have HY := Aside0.mk hY
  have HO := Aside0.mk hO
  have H0 := Aside0.mk h0
  have hcA : W.cell? ⟨cA, 0, none⟩ = some (.int .i64 i) := blk_cell hO.hi 0
  clear hJd hK hY hO h0
  have hwi : wrap64 ((i : Int) + 1) = ((i + 1 : Nat) : Int) := by unfold wrap64; omega
  have HWI := Aside0.mk hwi
  clear hwi
  refine callsIn_of_wp Try.func37 rfl trivial ?_ rfl
  simp only [Try.ntmps37, List.size_toArray, List.length_cons, List.length_nil, Nat.reduceAdd, Nat.reduceSub, Array.replicate_succ, Array.replicate_zero, List.push_toArray, List.append_toArray, List.nil_append, List.cons_append]
  have hib : (i : Int) + 1 ≤ 1048576 := by omega
  gi_wp2
  clear hcA
  gi_loopw [4] (fun p wr => ∃ pre m, PRel w0 cA cT A c t i J p pre m wr) (fun p _ => t.length - (intOf p).toNat)
  case atStart => exact ⟨[], i + 1, rfl, by omega, by omega, rfl, H0.out, HO.out⟩
  case round =>
    clear HO H0
    obtain ⟨pre, m, hrel⟩ := hrel
    obtain rfl := hrel.hp
    have HR := Aside0.mk hrel
    have hm1 := hrel.h1
    have hm2 := hrel.h2
    have hcA : wr.cell? ⟨cA, 0, none⟩ = some (.int .i64 i) := blk_cell hrel.hO.hi 0
    have hcT : wr.cell? ⟨cT, 0, none⟩ = some (.slice A t.length c) := blk_cell hrel.hO.ht 0
    obtain ⟨ad, he, -, hI1, -⟩ := at_T31 hrel.hO.hC (i : Int) (by omega) (by omega)
    subst he
    by_cases hlt : m < t.length
    · obtain ⟨ad2, he2, -, hM1, -⟩ := at_T31 hrel.hO.hC (m : Int) (by omega) (by omega)
      obtain rfl : ad = ad2 := Option.some.inj he2
      clear he2 hrel
      have hI1' : wr.cell? ⟨(ad.add (i * 8)).block, (ad.add (i * 8)).off + 1, none⟩ = some (.int .i64 (nd t i).f1) := hI1
      have hM1' : wr.cell? ⟨(ad.add (m * 8)).block, (ad.add (m * 8)).off + 1, none⟩ = some (.int .i64 (nd t m).f1) := hM1
      clear hI1 hM1
      have hb1 : decide ((m : Int) < (t.length : Int)) = true := decide_eq_true (by omega)
      have hml : (m : Int) < (t.length : Int) := by omega
      have hil : (i : Int) < (t.length : Int) := by omega
      by_cases hgt : (nd t i).f1 < (nd t m).f1
      · have hb2 : decide ((nd t i).f1 < (nd t m).f1) = true := decide_eq_true hgt
        have hw3 : IntKind.i64.wrap ((nd t i).f1 + 1) = (nd t i).f1 + 1 := by rw [IntKind.wrap_i64]; omega
        gi_wp2
        refine (wpIn_wide (n := n)).2 ?_
        go_quiet (fail)
        gi_wp2
        by_cases heq : (nd t m).f1 = (nd t i).f1 + 1
        · have hb3 : ((nd t m).f1 == (nd t i).f1 + 1) = true := by rw [heq]; simp
          have HEQ := Aside0.mk heq
          clear heq
          refine wpIn_region_any (by kernel_rfl) ?_
          change wpAnyIn _ _ _ _ _ _ _ _ _ (World.drew _)
          apply two_of
          rotate_left
          intro h14
          apply two_of
          rotate_left
          intro h13
          apply two_of
          rotate_left
          intro h12
          apply two_of
          rotate_left
          intro h11
          apply two_of
          rotate_left
          intro h10
          apply two_of
          rotate_left
          intro h9
          apply two_of
          rotate_left
          intro h8
          apply two_of
          rotate_left
          intro h7
          apply two_of
          rotate_left
          intro h6
          apply two_of
          rotate_left
          intro h5
          apply two_of
          rotate_left
          intro h4
          apply two_of
          rotate_left
          intro h3
          apply two_of
          rotate_left
          intro h2
          apply two_of
          rotate_left
          intro h1
          · refine wpAnyIn_take (i := 1) (v := ?_) rfl rfl (by kernel_rfl) (by kernel_rfl) (by kernel_rfl) (fun _ _ _ h => h) ⟨Or.inl ⟨by rfl, ?_⟩, fun _ => rfl⟩ ?_; rotate_left; (· (intro w'; go_simp; first | done | with_reducible rfl))
            refine wpAnyIn_ready (rs := [0, 5, 6]) (by kernel_rfl) (by simp) (AllReadyIn.cons rfl (fun K hK => ?_) (AllReadyIn.cons rfl (fun K hK => ?_) (AllReadyIn.cons rfl (fun K hK => ?_) AllReadyIn.nil)))
            · go_simp
              refine hK _ _ ?_
              clear hK K
              refine wpAnyIn_take (i := 2) (v := ?_) rfl rfl (by kernel_rfl) (by kernel_rfl) (by kernel_rfl) (fun _ _ _ h => h) ⟨Or.inl ⟨by rfl, ?_⟩, fun _ => rfl⟩ ?_; rotate_left; (· (intro w'; go_simp; first | done | with_reducible rfl))
              refine wpAnyIn_take (i := 3) (v := ?_) rfl rfl (by kernel_rfl) (by kernel_rfl) (by kernel_rfl) (fun _ _ _ h => h) ⟨Or.inl ⟨by rfl, ?_⟩, fun _ => rfl⟩ ?_; rotate_left; (· (intro w'; go_simp; first | done | with_reducible rfl))
              exact h3
            · go_simp
              refine hK _ _ ?_
              clear hK K
              exact h1
            · go_simp
              refine hK _ _ ?_
              clear hK K
              exact h2
          rotate_right
          · refine wpAnyIn_ready (rs := [0, 6]) (by kernel_rfl) (by simp) (AllReadyIn.cons rfl (fun K hK => ?_) (AllReadyIn.cons rfl (fun K hK => ?_) AllReadyIn.nil))
            · go_simp
              refine hK _ _ ?_
              clear hK K
              refine wpAnyIn_take (i := 2) (v := ?_) rfl rfl (by kernel_rfl) (by kernel_rfl) (by kernel_rfl) (fun _ _ _ h => h) ⟨Or.inl ⟨by rfl, ?_⟩, fun _ => rfl⟩ ?_; rotate_left; (· (intro w'; go_simp; first | done | with_reducible rfl))
              refine wpAnyIn_take (i := 3) (v := ?_) rfl rfl (by kernel_rfl) (by kernel_rfl) (by kernel_rfl) (fun _ _ _ h => h) ⟨Or.inl ⟨by rfl, ?_⟩, fun _ => rfl⟩ ?_; rotate_left; (· (intro w'; go_simp; first | done | with_reducible rfl))
              exact h5
            · go_simp
              refine hK _ _ ?_
              clear hK K
              refine wpAnyIn_take (i := 7) (v := ?_) rfl rfl (by kernel_rfl) (by kernel_rfl) (by kernel_rfl) (fun _ _ _ h => h) ⟨Or.inl ⟨by rfl, ?_⟩, fun _ => rfl⟩ ?_; rotate_left; (· (intro w'; go_simp; first | done | with_reducible rfl))
              refine wpAnyIn_take (i := 8) (v := ?_) rfl rfl (by kernel_rfl) (by kernel_rfl) (by kernel_rfl) (fun _ _ _ h => h) ⟨Or.inl ⟨by rfl, ?_⟩, fun _ => rfl⟩ ?_; rotate_left; (· (intro w'; go_simp; first | done | with_reducible rfl))
              exact h7
          rotate_right
          · refine wpAnyIn_ready (rs := [0, 5]) (by kernel_rfl) (by simp) (AllReadyIn.cons rfl (fun K hK => ?_) (AllReadyIn.cons rfl (fun K hK => ?_) AllReadyIn.nil))
            · go_simp
              refine hK _ _ ?_
              clear hK K
              refine wpAnyIn_take (i := 2) (v := ?_) rfl rfl (by kernel_rfl) (by kernel_rfl) (by kernel_rfl) (fun _ _ _ h => h) ⟨Or.inl ⟨by rfl, ?_⟩, fun _ => rfl⟩ ?_; rotate_left; (· (intro w'; go_simp; first | done | with_reducible rfl))
              refine wpAnyIn_take (i := 3) (v := ?_) rfl rfl (by kernel_rfl) (by kernel_rfl) (by kernel_rfl) (fun _ _ _ h => h) ⟨Or.inl ⟨by rfl, ?_⟩, fun _ => rfl⟩ ?_; rotate_left; (· (intro w'; go_simp; first | done | with_reducible rfl))
              exact h6
            · go_simp
              refine hK _ _ ?_
              clear hK K
              refine wpAnyIn_take (i := 7) (v := ?_) rfl rfl (by kernel_rfl) (by kernel_rfl) (by kernel_rfl) (fun _ _ _ h => h) ⟨Or.inl ⟨by rfl, ?_⟩, fun _ => rfl⟩ ?_; rotate_left; (· (intro w'; go_simp; first | done | with_reducible rfl))
              refine wpAnyIn_take (i := 8) (v := ?_) rfl rfl (by kernel_rfl) (by kernel_rfl) (by kernel_rfl) (fun _ _ _ h => h) ⟨Or.inl ⟨by rfl, ?_⟩, fun _ => rfl⟩ ?_; rotate_left; (· (intro w'; go_simp; first | done | with_reducible rfl))
              exact h7
          rotate_right
          · refine wpAnyIn_ready (rs := [4, 5, 6]) (by kernel_rfl) (by simp) (AllReadyIn.cons rfl (fun K hK => ?_) (AllReadyIn.cons rfl (fun K hK => ?_) (AllReadyIn.cons rfl (fun K hK => ?_) AllReadyIn.nil)))
            · go_simp
              refine hK _ _ ?_
              clear hK K
              exact h4
            · go_simp
              refine hK _ _ ?_
              clear hK K
              exact h5
            · go_simp
              refine hK _ _ ?_
              clear hK K
              exact h6
          rotate_right
          · refine wpAnyIn_ready (rs := [5, 6]) (by kernel_rfl) (by simp) (AllReadyIn.cons rfl (fun K hK => ?_) (AllReadyIn.cons rfl (fun K hK => ?_) AllReadyIn.nil))
            · go_simp
              refine hK _ _ ?_
              clear hK K
              exact h8
            · go_simp
              refine hK _ _ ?_
              clear hK K
              exact h9
          rotate_right
          · refine wpAnyIn_ready (rs := [4, 6]) (by kernel_rfl) (by simp) (AllReadyIn.cons rfl (fun K hK => ?_) (AllReadyIn.cons rfl (fun K hK => ?_) AllReadyIn.nil))
            · go_simp
              refine hK _ _ ?_
              clear hK K
              exact h8
            · go_simp
              refine hK _ _ ?_
              clear hK K
              refine wpAnyIn_take (i := 7) (v := ?_) rfl rfl (by kernel_rfl) (by kernel_rfl) (by kernel_rfl) (fun _ _ _ h => h) ⟨Or.inl ⟨by rfl, ?_⟩, fun _ => rfl⟩ ?_; rotate_left; (· (intro w'; go_simp; first | done | with_reducible rfl))
              refine wpAnyIn_take (i := 8) (v := ?_) rfl rfl (by kernel_rfl) (by kernel_rfl) (by kernel_rfl) (fun _ _ _ h => h) ⟨Or.inl ⟨by rfl, ?_⟩, fun _ => rfl⟩ ?_; rotate_left; (· (intro w'; go_simp; first | done | with_reducible rfl))
              exact h11
          rotate_right
          · refine wpAnyIn_ready (rs := [4, 5]) (by kernel_rfl) (by simp) (AllReadyIn.cons rfl (fun K hK => ?_) (AllReadyIn.cons rfl (fun K hK => ?_) AllReadyIn.nil))
            · go_simp
              refine hK _ _ ?_
              clear hK K
              exact h9
            · go_simp
              refine hK _ _ ?_
              clear hK K
              refine wpAnyIn_take (i := 7) (v := ?_) rfl rfl (by kernel_rfl) (by kernel_rfl) (by kernel_rfl) (fun _ _ _ h => h) ⟨Or.inl ⟨by rfl, ?_⟩, fun _ => rfl⟩ ?_; rotate_left; (· (intro w'; go_simp; first | done | with_reducible rfl))
              refine wpAnyIn_take (i := 8) (v := ?_) rfl rfl (by kernel_rfl) (by kernel_rfl) (by kernel_rfl) (fun _ _ _ h => h) ⟨Or.inl ⟨by rfl, ?_⟩, fun _ => rfl⟩ ?_; rotate_left; (· (intro w'; go_simp; first | done | with_reducible rfl))
              exact h11
          rotate_right
          · refine wpAnyIn_ready (rs := [0, 9]) (by kernel_rfl) (by simp) (AllReadyIn.cons rfl (fun K hK => ?_) (AllReadyIn.cons rfl (fun K hK => ?_) AllReadyIn.nil))
            · go_simp
              refine hK _ _ ?_
              clear hK K
              refine wpAnyIn_take (i := 2) (v := ?_) rfl rfl (by kernel_rfl) (by kernel_rfl) (by kernel_rfl) (fun _ _ _ h => h) ⟨Or.inl ⟨by rfl, ?_⟩, fun _ => rfl⟩ ?_; rotate_left; (· (intro w'; go_simp; first | done | with_reducible rfl))
              refine wpAnyIn_take (i := 3) (v := ?_) rfl rfl (by kernel_rfl) (by kernel_rfl) (by kernel_rfl) (fun _ _ _ h => h) ⟨Or.inl ⟨by rfl, ?_⟩, fun _ => rfl⟩ ?_; rotate_left; (· (intro w'; go_simp; first | done | with_reducible rfl))
              exact h11
            · go_simp
              refine hK _ _ ?_
              clear hK K
              refine wpAnyIn_take (i := 10) (v := ?_) rfl rfl (by kernel_rfl) (by kernel_rfl) (by kernel_rfl) (fun _ _ _ h => h) ⟨Or.inl ⟨by rfl, ?_⟩, fun _ => rfl⟩ ?_; rotate_left; (· (intro w'; go_simp; first | done | with_reducible rfl))
              exact h10
          rotate_right
          · refine wpAnyIn_ready (rs := [6]) (by kernel_rfl) (by simp) (AllReadyIn.cons rfl (fun K hK => ?_) AllReadyIn.nil)
            · go_simp
              refine hK _ _ ?_
              clear hK K
              refine wpAnyIn_take (i := 7) (v := ?_) rfl rfl (by kernel_rfl) (by kernel_rfl) (by kernel_rfl) (fun _ _ _ h => h) ⟨Or.inl ⟨by rfl, ?_⟩, fun _ => rfl⟩ ?_; rotate_left; (· (intro w'; go_simp; first | done | with_reducible rfl))
              refine wpAnyIn_take (i := 8) (v := ?_) rfl rfl (by kernel_rfl) (by kernel_rfl) (by kernel_rfl) (fun _ _ _ h => h) ⟨Or.inl ⟨by rfl, ?_⟩, fun _ => rfl⟩ ?_; rotate_left; (· (intro w'; go_simp; first | done | with_reducible rfl))
              exact h12
          rotate_right
          · refine wpAnyIn_ready (rs := [5]) (by kernel_rfl) (by simp) (AllReadyIn.cons rfl (fun K hK => ?_) AllReadyIn.nil)
            · go_simp
              refine hK _ _ ?_
              clear hK K
              refine wpAnyIn_take (i := 7) (v := ?_) rfl rfl (by kernel_rfl) (by kernel_rfl) (by kernel_rfl) (fun _ _ _ h => h) ⟨Or.inl ⟨by rfl, ?_⟩, fun _ => rfl⟩ ?_; rotate_left; (· (intro w'; go_simp; first | done | with_reducible rfl))
              refine wpAnyIn_take (i := 8) (v := ?_) rfl rfl (by kernel_rfl) (by kernel_rfl) (by kernel_rfl) (fun _ _ _ h => h) ⟨Or.inl ⟨by rfl, ?_⟩, fun _ => rfl⟩ ?_; rotate_left; (· (intro w'; go_simp; first | done | with_reducible rfl))
              exact h12
          rotate_right
          · refine wpAnyIn_ready (rs := [0]) (by kernel_rfl) (by simp) (AllReadyIn.cons rfl (fun K hK => ?_) AllReadyIn.nil)
            · go_simp
              refine hK _ _ ?_
              clear hK K
              refine wpAnyIn_take (i := 2) (v := ?_) rfl rfl (by kernel_rfl) (by kernel_rfl) (by kernel_rfl) (fun _ _ _ h => h) ⟨Or.inl ⟨by rfl, ?_⟩, fun _ => rfl⟩ ?_; rotate_left; (· (intro w'; go_simp; first | done | with_reducible rfl))
              refine wpAnyIn_take (i := 3) (v := ?_) rfl rfl (by kernel_rfl) (by kernel_rfl) (by kernel_rfl) (fun _ _ _ h => h) ⟨Or.inl ⟨by rfl, ?_⟩, fun _ => rfl⟩ ?_; rotate_left; (· (intro w'; go_simp; first | done | with_reducible rfl))
              exact h13
          rotate_right
          · refine wpAnyIn_ready (rs := [4, 9]) (by kernel_rfl) (by simp) (AllReadyIn.cons rfl (fun K hK => ?_) (AllReadyIn.cons rfl (fun K hK => ?_) AllReadyIn.nil))
            · go_simp
              refine hK _ _ ?_
              clear hK K
              exact h12
            · go_simp
              refine hK _ _ ?_
              clear hK K
              refine wpAnyIn_take (i := 10) (v := ?_) rfl rfl (by kernel_rfl) (by kernel_rfl) (by kernel_rfl) (fun _ _ _ h => h) ⟨Or.inl ⟨by rfl, ?_⟩, fun _ => rfl⟩ ?_; rotate_left; (· (intro w'; go_simp; first | done | with_reducible rfl))
              exact h13
          rotate_right
          · refine wpAnyIn_ready (rs := [9]) (by kernel_rfl) (by simp) (AllReadyIn.cons rfl (fun K hK => ?_) AllReadyIn.nil)
            · go_simp
              refine hK _ _ ?_
              clear hK K
              refine wpAnyIn_take (i := 10) (v := ?_) rfl rfl (by kernel_rfl) (by kernel_rfl) (by kernel_rfl) (fun _ _ _ h => h) ⟨Or.inl ⟨by rfl, ?_⟩, fun _ => rfl⟩ ?_; rotate_left; (· (intro w'; go_simp; first | done | with_reducible rfl))
              refine wpAnyIn_take (i := 11) (v := ?_) rfl rfl (by kernel_rfl) (by kernel_rfl) (by kernel_rfl) (fun _ _ _ h => h) ⟨Or.inl ⟨by rfl, ?_⟩, fun _ => rfl⟩ ?_; rotate_left; (· (intro w'; go_simp; first | done | with_reducible rfl))
              refine wpAnyIn_take (i := 12) (v := ?_) rfl rfl (by kernel_rfl) (by kernel_rfl) (by kernel_rfl) (fun _ _ _ h => h) ⟨Or.inl ⟨by rfl, ?_⟩, fun _ => rfl⟩ ?_; rotate_left; (· (intro w'; go_simp; first | done | with_reducible rfl))
              refine wpAnyIn_take (i := 13) (v := ?_) rfl rfl (by kernel_rfl) (by kernel_rfl) (by kernel_rfl) (fun _ _ _ h => h) ⟨Or.inl ⟨by rfl, ?_⟩, fun _ => rfl⟩ ?_; rotate_left; (· (intro w'; go_simp; first | done | with_reducible rfl))
              refine wpAnyIn_take (i := 14) (v := ?_) rfl rfl (by kernel_rfl) (by kernel_rfl) (by kernel_rfl) (fun _ _ _ h => h) ⟨Or.inl ⟨by rfl, ?_⟩, fun _ => rfl⟩ ?_; rotate_left; (· (intro w'; go_simp; first | done | with_reducible rfl))
              exact h14
          rotate_right
          · refine wpAnyIn_ready (rs := [4]) (by kernel_rfl) (by simp) (AllReadyIn.cons rfl (fun K hK => ?_) AllReadyIn.nil)
            · go_simp
              refine hK _ _ ?_
              clear hK K
              refine wpAnyIn_take (i := 11) (v := ?_) rfl rfl (by kernel_rfl) (by kernel_rfl) (by kernel_rfl) (fun _ _ _ h => h) ⟨Or.inl ⟨by rfl, ?_⟩, fun _ => rfl⟩ ?_; rotate_left; (· (intro w'; go_simp; first | done | with_reducible rfl))
              refine wpAnyIn_take (i := 12) (v := ?_) rfl rfl (by kernel_rfl) (by kernel_rfl) (by kernel_rfl) (fun _ _ _ h => h) ⟨Or.inl ⟨by rfl, ?_⟩, fun _ => rfl⟩ ?_; rotate_left; (· (intro w'; go_simp; first | done | with_reducible rfl))
              refine wpAnyIn_take (i := 13) (v := ?_) rfl rfl (by kernel_rfl) (by kernel_rfl) (by kernel_rfl) (fun _ _ _ h => h) ⟨Or.inl ⟨by rfl, ?_⟩, fun _ => rfl⟩ ?_; rotate_left; (· (intro w'; go_simp; first | done | with_reducible rfl))
              refine wpAnyIn_take (i := 14) (v := ?_) rfl rfl (by kernel_rfl) (by kernel_rfl) (by kernel_rfl) (fun _ _ _ h => h) ⟨Or.inl ⟨by rfl, ?_⟩, fun _ => rfl⟩ ?_; rotate_left; (· (intro w'; go_simp; first | done | with_reducible rfl))
              exact h14
          have hpre : pre ++ [m] <+: partsOf t i := ⟨partsFrom t (nd t i).f1 (t.length - (m + 1)) (m + 1), by rw [HR.out.hall, partsFrom_step hlt hgt, if_pos HEQ.out, List.append_assoc]⟩
          have HPRE := Aside0.mk hpre
          have HJ2 := Aside0.mk (show J pre (wr.drewN (nq + 1)) from HJD.out _ _ (nq + 1) HR.out.hJ)
          obtain ⟨fn, tmps, assign, body, hy, hR⟩ := HY.out pre m (wr.drewN (nq + 1)) HJ2.out HPRE.out
          clear hpre
          refine wpAnyIn_ready (rs := [15]) (by decide +kernel) (by simp) (AllReadyIn.cons rfl (fun K hK => ?_) AllReadyIn.nil)
          go_simp
          gi_wp2
          refine ⟨fun hd => absurd hd Bool.false_ne_true, hR.mono ?_⟩
          clear hR hy
          rintro e W3 (⟨rfl, hJ3, hk3⟩ | ⟨rfl, hJx3⟩)
          · have HJ3 := Aside0.mk hJ3
            have HO3 := Aside0.mk (HK.out _ _ hk3 (HR.out.hO.drewN (nq + 1)))
            clear hJ3 hk3
            go_simp
            refine hK _ _ ?_
            clear hK K
            refine wpAnyIn_take (i := 16) (v := ?_) rfl rfl (by kernel_rfl) (by kernel_rfl) (by kernel_rfl) (fun _ _ _ h => h) ⟨Or.inl ⟨by rfl, ?_⟩, fun _ => rfl⟩ ?_; rotate_left; (· (intro w'; go_simp; first | done | with_reducible rfl))
            refine wpAnyIn_take (i := 17) (v := ?_) rfl rfl (by kernel_rfl) (by kernel_rfl) (by kernel_rfl) (fun _ _ _ h => h) ⟨Or.inl ⟨by rfl, ?_⟩, fun _ => rfl⟩ ?_; rotate_left; (· (intro w'; go_simp; first | done | with_reducible rfl))
            refine wpAnyIn_done (by kernel_rfl) ?_ _
            change Exit.then _ _ Exit.normal (Act.put (Act.put _ (some 42) _) (some 43) _) _
            simp only [Act.put, List.setIfInBounds_toArray, List.set_cons_zero, List.set_cons_succ]
            gi_wp2
            go_roundw
            case rel => exact ⟨pre ++ [m], m + 1, by go_num, by omega, by omega, by rw [HR.out.hall, partsFrom_step hlt hgt, if_pos HEQ.out, List.append_assoc], HJ3.out, HO3.out⟩
            case measure => simp [intOf]; omega
          · have HJ3 := Aside0.mk hJx3
            clear hJx3
            go_simp
            refine hK _ _ ?_
            clear hK K
            refine wpAnyIn_take (i := 16) (v := ?_) rfl rfl (by kernel_rfl) (by kernel_rfl) (by kernel_rfl) (fun _ _ _ h => h) ⟨Or.inl ⟨by rfl, ?_⟩, fun _ => rfl⟩ ?_; rotate_left; (· (intro w'; go_simp; first | done | with_reducible rfl))
            refine wpAnyIn_take (i := 17) (v := ?_) rfl rfl (by kernel_rfl) (by kernel_rfl) (by kernel_rfl) (fun _ _ _ h => h) ⟨Or.inl ⟨by rfl, ?_⟩, fun _ => rfl⟩ ?_; rotate_left; (· (intro w'; go_simp; first | done | with_reducible rfl))
            refine wpAnyIn_done (by kernel_rfl) ?_ _
            change Exit.then _ _ Exit.normal (Act.put (Act.put _ (some 42) _) (some 43) _) _
            simp only [Act.put, List.setIfInBounds_toArray, List.set_cons_zero, List.set_cons_succ]
            gi_wp2
            refine bodyPost_ret (results_none rfl _ _ _) rfl ?_
            exact ⟨⟨_, rfl⟩, .inr ⟨pre ++ [m], HPRE.out, HJ3.out⟩⟩
        · have hb3 : ((nd t m).f1 == (nd t i).f1 + 1) = false := by simpa using heq
          refine (wpIn_wide (n := n)).2 ?_
          go_quiet (fail)
          gi_wp2
          go_roundw
          case rel => exact ⟨pre, m + 1, by go_num, by omega, by omega, by rw [HR.out.hall, partsFrom_step hlt hgt, if_neg heq, List.nil_append], HJD.out _ _ _ HR.out.hJ, HR.out.hO.drewN _⟩
          case measure => simp [intOf]; omega
      · have hb2 : decide ((nd t i).f1 < (nd t m).f1) = false := decide_eq_false hgt
        have HE := Aside0.mk (show partsOf t i = pre by rw [HR.out.hall, partsFrom_stop (fun h => hgt h.2), List.append_nil])
        gi_wp2
        refine (wpIn_wide (n := n)).2 ?_
        go_quiet (fail)
        gi_wp2
        go_end0
        exact ⟨⟨_, rfl⟩, .inl ⟨pre, HE.out.symm, HJD.out _ _ _ HR.out.hJ⟩⟩
    · have hb1 : decide ((m : Int) < (t.length : Int)) = false := decide_eq_false (by omega)
      have hml : ¬ (m : Int) < (t.length : Int) := by omega
      have HE := Aside0.mk (show partsOf t i = pre by rw [HR.out.hall, partsFrom_stop (fun h => hlt h.1), List.append_nil])
      clear hrel
      gi_wp2
      refine (wpIn_wide (n := n)).2 ?_
      go_quiet (fail)
      gi_wp2
      go_end0
      exact ⟨⟨_, rfl⟩, .inl ⟨pre, HE.out.symm, HJD.out _ _ _ HR.out.hJ⟩⟩
end Go.Proofs.Ytofajjodonhdkaa.Q
