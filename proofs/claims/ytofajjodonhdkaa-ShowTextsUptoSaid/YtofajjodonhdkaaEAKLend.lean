/- A list of nodes that is lent with two more behind it, and whether it was kept: the contracts of LendNodes and KeptNodes. -/
import Derived.Test.YtofajjodonhdkaaEAKOf
import Derived.Test.YtofajjodonhdkaaEAQ7
namespace Go.Proofs.Ytofajjodonhdkaa.Q
open Go.RowKit Go.Proofs.YtofajjodonhdkaaW.PrintWords Go.Proofs.YtofajjodonhdkaaW.PrintLast Go.Proofs.YtofajjodonhdkaaW.PrintMore
set_option linter.unusedVariables false
set_option linter.unusedSimpArgs false
def spN : SN := ⟨77, 0, ⟨#[]⟩, ⟨#[115, 112, 111, 105, 108, 116]⟩, ⟨#[]⟩, 0, 0, 0⟩
theorem wrap_up {i : Int} {n : Nat} (h0 : 0 ≤ i) (h : i < (n : Int)) (hn : n ≤ 9223372036854775807) : wrap64 (i + 1) = i + 1 := by
  unfold wrap64
  omega
theorem copyNodes_f (l : List SN) (h : l.length ≤ 1599289640000) : shuttlelaw0_CopyNodes.f l = some l := by
  unfold shuttlelaw0_CopyNodes.f
  have : l.length < 1599289640401 := by omega
  simp [this]
structure Lent (w w' : World) (pick : List SN) (g c : Nat) : Prop where
  own : Kd.R k31 31 w' w.heap.size (fun _ => True) (.slice (some ⟨g, 0, none⟩) (pick.length + 2) c) (pick ++ [spN, spN])
  below : Below w.heap.size w w'
set_option maxHeartbeats 1000000 in
set_option maxRecDepth 100000 in
theorem lend_any (A : Option Addr) (c : Nat) (pick : List SN) (w : World) (hr : Kd.C k31 w A pick.length pick) (hc : pick.length ≤ c) (hs : pick.length ≤ 1599289640000) :
    Calls Try.prog 8 #[.slice A pick.length c] w fun e w' => ∃ g cap, e = .returned (.slice (some ⟨g, 0, none⟩) pick.length cap) ∧ Lent w w' pick g cap := by
  have HR := Aside0.mk hr
  have HCF := Aside0.mk (copyNodes_f pick hs)
  clear hr
  go_enter Try.func8, Try.ntmps8
  go_wp2_with (first
    | (go_at_call 14; refine (shuttlelaw0_CopyNodes.calls A c pick pick _ HR.out hc HCF.out).mono ?_; rintro e w1 ⟨v1, rfl, ho1, hb1⟩; have HO1 := Aside0.mk ho1; have HB1 := Aside0.mk hb1; clear ho1 hb1)
    | ((with_reducible refine gate_dst (N := 8) rfl ?_); refine Kd.R_lit k31 _ 31 ?hg (N := 8) ?hd (xs := ([spN, spN] : List SN)) (inner := [.int .i64 77, .int .i64 0, .string ⟨#[]⟩, .string ⟨#[115, 112, 111, 105, 108, 116]⟩, .string ⟨#[]⟩, .int .i64 0, .int .i64 0, .int .i64 0, .int .i64 77, .int .i64 0, .string ⟨#[]⟩, .string ⟨#[115, 112, 111, 105, 108, 116]⟩, .string ⟨#[]⟩, .int .i64 0, .int .i64 0, .int .i64 0]) (ok := fun _ => True) (okp := fun _ => True) ?hr ?hp (fun _ hk => hk) trivial (Below.refl _ _) (Nat.le_refl _) (by simp) ?_; (case hd => rfl); (case hg => rfl); (case hr => first | (go_simp; done) | (go_simp; rfl)); (case hp => exact (Reps.c8 (show Kd.M k31 _ _ _ spN [.int .i64 77, .int .i64 0, .string ⟨#[]⟩, .string ⟨#[115, 112, 111, 105, 108, 116]⟩, .string ⟨#[]⟩, .int .i64 0, .int .i64 0, .int .i64 0] from k31_mkM _ _ _ spN) (Reps.c8 (show Kd.M k31 _ _ _ spN [.int .i64 77, .int .i64 0, .string ⟨#[]⟩, .string ⟨#[115, 112, 111, 105, 108, 116]⟩, .string ⟨#[]⟩, .int .i64 0, .int .i64 0, .int .i64 0] from k31_mkM _ _ _ spN) (Reps.none _ _)))); intro v2 w2 ho2 hb2 hg2 hn2; have HO2 := Aside0.mk (Kd.R_elder' HO1.out (Kd.R_base ho2) hb2); obtain ⟨A2, c2, e2⟩ := Kd.R_slice ho2; subst e2; have HL2 := Aside0.mk (Kd.R_lower ho2 HB1.out.size); have HB2 := Aside0.mk (below_step HB1.out hb2); clear ho2 hb2 hg2 hn2)
    | (at_builtin; refine Kd.R_append_rows k31 (w0 := w) w.heap.size rfl (.tmp 5) (.tmp 8) 22 31 (.agg #[(.int .i64 0), (.int .i64 0), (.string ⟨#[]⟩), (.string ⟨#[]⟩), (.string ⟨#[]⟩), (.int .i64 0), (.int .i64 0), (.int .i64 0)]) 88 rfl Try.underlying22 info31 rfl (by decide) (by omega) v1 pick [spN, spN] _ _ _ (fun _ => True) (fun _ => False) rfl rfl (Kd.R_mono HO2.out (fun _ _ => trivial)) (Kd.R_reads' HL2.out).2.2 (fun _ _ h => h) (fun _ h => h.elim) (fun _ _ => trivial) HB2.out HB2.out.size (by show (pick.length + 2) * 88 ≤ _; omega) ?_; intro v3 w3 ho3 hb3 hg3 hat3; obtain ⟨g3, c3, e3, _⟩ := Kd.R_form ho3 (by simp); subst e3; have hle3 := (Kd.R_reads' ho3).2.1; have HO3 := Aside0.mk ho3; have HB3 := Aside0.mk hb3; clear ho3 hb3 hg3 hat3; rw [show (pick ++ [spN, spN]).length = pick.length + 2 by simp] at HO3 hle3 ⊢))
  go_ret
  exact ⟨g3, c3, rfl, HO3.out, HB3.out⟩
theorem same_l0 (l : List SN) (hn : l.length ≤ 9223372036854775807) : ∀ (d i : Nat), i + d = l.length → Ev (fun k => shuttlelaw0_SameNodes.l0 k l l (i : Int)) true
  | 0, i, h => by
    refine Ev.step (fun k => by rw [shuttlelaw0_SameNodes.l0, if_neg (by omega)]) ?_
    exact Ev.now _
  | d + 1, i, h => by
    refine Ev.step (fun k => by rw [shuttlelaw0_SameNodes.l0, if_pos (by omega), if_pos (by omega), if_pos (by omega), if_neg (by simp), wrap_up (n := l.length) (by omega) (by omega) (by omega)]) ?_
    exact same_l0 l hn d (i + 1) (by omega)
theorem same_ev (l : List SN) (hn : l.length ≤ 9223372036854775807) : Ev (fun k => shuttlelaw0_SameNodes.f k l l) true := by
  unfold shuttlelaw0_SameNodes.f
  refine Ev.congr (fun k => by rw [if_pos rfl]) ?_
  exact same_l0 l hn l.length 0 (by omega)
theorem same_at (A0 A1 : Option Addr) (c0 c1 m : Nat) (l : List SN) (w : World) (h0 : Kd.C k31 w A0 l.length l) (hc0 : l.length ≤ c0) (h1 : Kd.C k31 w A1 l.length l) (hc1 : l.length ≤ c1) (hm : l.length = m) :
    Calls Try.prog 23 #[.slice A0 m c0, .slice A1 m c1] w fun e w' => e = .returned (.bool true) ∧ Below w.heap.size w w' := by
  subst hm
  obtain ⟨k, hk⟩ := (same_ev l h0.2.1).rounds
  refine (shuttlelaw0_SameNodes.calls k A0 c0 l A1 c1 l true w h0 hc0 h1 hc1 hk).mono ?_
  rintro e w' ⟨rfl, hd⟩
  exact ⟨rfl, hd.below⟩
theorem C_dropN {w : World} {g n m : Nat} {l : List SN} (h : Kd.C k31 w (some ⟨g, 0, none⟩) n l) (hm : m ≤ n) : Kd.C k31 w (some ⟨g, m * 8, none⟩) (n - m) (l.drop m) := by
  obtain ⟨h1, h2, h3⟩ := h
  refine ⟨by rw [List.length_drop, h1], by omega, fun hp => ⟨_, rfl, fun j p hj => ?_⟩⟩
  obtain ⟨ad, e, hc⟩ := h3 (by omega)
  injection e with e
  subst e
  rw [List.getElem?_drop] at hj
  obtain ⟨c, hl, hk, hcell⟩ := hc (m + j) p hj
  refine ⟨c, hl, hk, fun i u hu => ?_⟩
  have := hcell i u hu
  have hsz : (k31).sz = 8 := rfl
  rw [hsz] at this ⊢
  have e1 : (⟨g, 0, none⟩ : Addr).add ((m + j) * 8 + i) = ⟨g, (m + j) * 8 + i, none⟩ := by
    unfold Addr.add
    split
    case isTrue h0 => rw [h0]
    case isFalse => simp
  have e2 : (⟨g, m * 8, none⟩ : Addr).add (j * 8 + i) = ⟨g, (m + j) * 8 + i, none⟩ := by
    unfold Addr.add
    split
    case isTrue h0 => rw [show (m + j) * 8 + i = m * 8 by omega]
    case isFalse =>
      show (⟨g, m * 8 + (j * 8 + i), none⟩ : Addr) = _
      rw [show m * 8 + (j * 8 + i) = (m + j) * 8 + i by omega]
  rw [e2]
  rwa [e1] at this
theorem lent_cells {w : World} {base g m c : Nat} {l : List SN} (h : Kd.R k31 31 w base (fun _ => True) (.slice (some ⟨g, 0, none⟩) m c) l) (hm : 0 < m) : ∃ cells, w.heap[g]? = some (.cells cells 31 (0, 0)) ∧ m * 8 ≤ cells.size ∧ base ≤ g := by
  have hr := Kd.R_reads' h
  obtain ⟨g', cap, e, hb, _, cells, hc⟩ := Kd.R_form h (by rw [← hr.1]; exact hm)
  injection e with e1 e2 e3
  injection e1 with e1
  injection e1 with e1
  subst e1
  refine ⟨cells, hc, ?_, hb⟩
  have hC := hr.2.2
  rw [← hr.1] at hC
  obtain ⟨ad, e, _, _, _, _, _, _, _, hx1⟩ := at_T31 hC ((m - 1 : Nat) : Int) (by omega) (by omega)
  injection e with e
  subst e
  have e1 : (⟨g, 0, none⟩ : Addr).add (((m - 1 : Nat) : Int).toNat * 8) = ⟨g, ((m - 1 : Nat) : Int).toNat * 8, none⟩ := by
    unfold Addr.add
    split
    case isTrue h0 => rw [h0]
    case isFalse => simp
  rw [e1, blk_cell hc] at hx1
  have := (Array.getElem?_eq_some_iff.1 hx1).1
  simp at this
  omega
end Go.Proofs.Ytofajjodonhdkaa.Q
