/- What Expand's second closure does: a reference is looked up and its value gathered. -/
import Derived.Test.YtfkibolpanlelaaFAVBytes
import Derived.Test.YtfkibolpanlelaaFAQ3
namespace Go.Proofs.Ytfkibolpanlelaa.Q
open Go Go.RowKit Go.Shelf Go.Proofs.YtfkibolpanlelaaW.PrintWords Go.Proofs.YtfkibolpanlelaaW.PrintLast Go.Proofs.YtfkibolpanlelaaW.PrintMore
set_option linter.unusedVariables false
set_option linter.unusedSimpArgs false
abbrev SVx := S41
/-- The value of a name: the first of that name's. -/
def getV (vs : List SVx) (nm : ByteArray) : Option ByteArray := (vs.find? fun v => decide (v.f0 = nm)).map (·.f1)
def getR (vs : List SVx) (nm : ByteArray) : ByteArray × Bool := match getV vs nm with | some v => (v, true) | none => (⟨#[]⟩, false)
theorem getR_hit {x : SVx} {nm : ByteArray} (r : List SVx) (h : x.f0 = nm) : getR (x :: r) nm = (x.f1, true) := by simp [getR, getV, h]
theorem getR_miss {x : SVx} {nm : ByteArray} (r : List SVx) (h : ¬ x.f0 = nm) : getR (x :: r) nm = getR r nm := by simp [getR, getV, h]
theorem toList_eq {a b : ByteArray} : a.toList = b.toList ↔ a = b := by
  constructor
  · intro h
    rw [ByteArray.toList_eq, ByteArray.toList_eq] at h
    exact ByteArray.ext (Array.toList_inj.1 h)
  · rintro rfl; rfl
theorem get_ev (nm : ByteArray) (vs : List SVx) (hl : vs.length ≤ 9223372036854775807) : ∀ d k, vs.length = k + d → Ev (fun n => vars_Get.l0 n nm vs (vs.length : Int) (k : Int)) (getR (vs.drop k) nm)
  | 0, k, hk => by
    refine Ev.step (f := fun _ => some (getR (vs.drop k) nm)) (fun n => ?_) (Ev.now _)
    rw [vars_Get.l0, if_neg (by omega), List.drop_eq_nil_of_le (by omega)]
    rfl
  | d + 1, k, hk => by
    have hlt : k < vs.length := by omega
    have hrd : rd_T41 vs (k : Int) = vs[k] := by simp [rd_T41, hlt]
    have hdr : vs.drop k = vs[k] :: vs.drop (k + 1) := List.drop_eq_getElem_cons hlt
    by_cases h : vs[k].f0 = nm
    · refine Ev.step (f := fun _ => some (getR (vs.drop k) nm)) (fun n => ?_) (Ev.now _)
      rw [vars_Get.l0, if_pos (by omega), if_pos (by omega), if_pos (by omega), hrd, if_pos (toList_eq.2 h), hdr, getR_hit _ h]
    · have ih := get_ev nm vs hl d (k + 1) (by omega)
      have e : getR (vs.drop k) nm = getR (vs.drop (k + 1)) nm := by rw [hdr, getR_miss _ h]
      rw [e]
      refine Ev.step (fun n => ?_) ih
      rw [vars_Get.l0, if_pos (by omega), if_pos (by omega), if_pos (by omega), hrd, if_neg (fun e => h (toList_eq.1 e))]
      have : wrap64 ((k : Int) + 1) = ((k + 1 : Nat) : Int) := by
        unfold wrap64; omega
      rw [this]
theorem get_f (nm : ByteArray) (vs : List SVx) (hl : vs.length ≤ 9223372036854775807) : ∃ k, vars_Get.f k vs nm = some (getR vs nm) := by
  have := (get_ev nm vs hl vs.length 0 (by omega)).rounds
  simpa [vars_Get.f] using this
/-- How a reference ends in Expand. -/
def Refd (B base : Nat) (vs : List SVx) (st : List Int) (w : World) (nm : ByteArray) (i : Int) (e : Ending) (w' : World) : Prop :=
  Ch base (fun k => k = B) w w' ∧ match getV vs nm with
    | none => e = .panicked (stopV 102 i)
    | some v => if 4096 < (st ++ bytesOf v).length then e = .panicked (stopV 104 i) else e = .returned (.tuple #[]) ∧ Bx w' B base (st ++ bytesOf v)
set_option maxHeartbeats 2000000 in
set_option maxRecDepth 100000 in
theorem refsE_any (V B base : Nat) (A : Option Addr) (c : Nat) (vs : List SVx) (st : List Int) (nm : ByteArray) (i : Int) (w : World) (hB : B < base) (hb : base ≤ w.heap.size) (hx : Bx w B base st) (hst : st.length ≤ 4096)
    (hV : w.heap[V]? = some (.cells #[.slice A vs.length c] 22 (0, 0))) (hC : Kd.C k41 w A vs.length vs) (hc : vs.length ≤ c) (hsz : ∀ v ∈ vs, v.f1.size ≤ 1073741824) :
    Calls Try.prog 39 #[.string nm, .int .i64 i, .pointer (some ⟨V, 0, none⟩), .pointer (some ⟨B, 0, none⟩)] w (Refd B base vs st w nm i) := by
  obtain ⟨u, hbx, hr⟩ := hx
  have v0 : w.cell? ⟨V, 0, none⟩ = some (.slice A vs.length c) := blk_cell hV 0
  have HR := Aside0.mk hr
  have HBX := Aside0.mk hbx
  obtain ⟨A1, c1, rfl⟩ := Kd.R_slice hr
  have hlen : vs.length ≤ 9223372036854775807 := hC.2.1
  obtain ⟨k, hk⟩ := get_f nm vs hlen
  have HK := Aside0.mk hk
  have HC := Aside0.mk hC
  clear hk hC hr hbx
  unfold Refd
  cases hg : getV vs nm with
  | none =>
    have hgr : getR vs nm = (⟨#[]⟩, false) := by unfold getR; rw [hg]
    rw [hgr] at HK
    go_enter Try.func39, Try.ntmps39
    go_wp2_with (go_at_call 22; refine (vars_Get.calls k A c vs nm _ _ _ HC.out hc HK.out).mono ?_; rintro e w1 ⟨rfl, hb1⟩; have HB1 := Aside0.mk hb1; clear hb1)
    exact ⟨rfl, Ch.below HB1.out hb, rfl⟩
  | some val =>
    have hgr : getR vs nm = (val, true) := by unfold getR; rw [hg]
    have hvs : val.size ≤ 1073741824 := by
      unfold getV at hg
      obtain ⟨x, hx, rfl⟩ := Option.map_eq_some_iff.1 hg
      exact hsz x (List.mem_of_find?_eq_some hx)
    rw [hgr] at HK
    have hl1 : (st ++ bytesOf val).length = st.length + val.size := by rw [List.length_append, bytesOf_length]
    by_cases hlong : 4096 < st.length + val.size
    all_goals
      go_enter Try.func39, Try.ntmps39
      go_wp2_with (first
        | (go_at_call 22; refine (vars_Get.calls k A c vs nm _ _ _ HC.out hc HK.out).mono ?_; rintro e w1 ⟨rfl, hb1⟩; have HB1 := Aside0.mk hb1; have HBX1 := Aside0.mk ((hb1.block B (blk_lt HBX.out)).trans HBX.out); have b0 : w1.cell? ⟨B, 0, none⟩ = some (.slice A1 st.length c1) := blk_cell HBX1.out 0; have bf := blk_frozen HBX1.out 0; have HR1 := Aside0.mk (Kd.R_below HR.out hb1); have hs1 : base ≤ w1.heap.size := Nat.le_trans hb hb1.size; clear hb1 v0)
        | (at_builtin; go_loud (refine print_append_str (w0 := w1) base rfl (.tmp 19) _ 46 9 5 rfl Try.underlying46 Try.underlying9 info5 (.slice A1 st.length c1) st val rfl rfl (Kd.own_of_R HR1.out) ((Below.refl _ _).mono hs1) hs1 (by omega) ?_); intro v2 w2 ho2 hb2 hg2; have ho2' := Kd.R_of_own (h1 := fun _ => rfl) (ok := fun _ => True) ho2 (fun _ _ => trivial); change Kd.R (Kd.int .u8) 5 w2 base (fun _ => True) v2 (st ++ bytesOf val) at ho2'; obtain ⟨A2, c2, e2⟩ := Kd.R_slice ho2'; rw [hl1] at e2; subst e2; have hbb : w2.heap[B]? = some (.cells #[.slice A1 st.length c1] 46 (0, 0)) := (hg2.block B (blk_lt HBX1.out) (fun e => by have := Kd.R_base HR1.out B e.symm; omega)).trans HBX1.out; have b1 : w2.cell? ⟨B, 0, none⟩ = some _ := blk_cell hbb 0; have bf1 := blk_frozen hbb 0; have HBB := Aside0.mk hbb; have HO2 := Aside0.mk ho2'; have HG2 := Aside0.mk hg2; clear hbb ho2 ho2' hb2 hg2 b0 bf)
        | (go_at_call 38; refine (long_any _ _ _ _ _).mono ?_; rintro e w' ⟨rfl, he⟩; first | (rw [if_pos hlong] at he; subst he) | (rw [if_neg hlong] at he; subst he)))
      have HCH := Aside0.mk (show Ch base (fun k => k = B) w (w2.setCell ⟨B, 0, none⟩ (.slice A2 (st.length + val.size) c2)) from ((Ch.below HB1.out hb).trans (Ch.grown HG2.out hs1 (fun k e => .inl (Kd.R_base HR1.out k e)))).trans (Ch.set w2 ⟨B, 0, none⟩ _ (.inr rfl)))
    · exact ⟨rfl, HCH.out, rfl⟩
    · first | go_end0 | refine bodyPost_ret (results_none rfl _ _ _) rfl ?_
      refine ⟨HCH.out, ?_⟩
      exact ⟨rfl, _, put1 HBB.out _, Kd.R_mono (Kd.R_far (p := ⟨B, 0, none⟩) (Kd.R_bound HO2.out) (fun k hk => by have := hk.2.1; show k ≠ B; omega) _) (fun _ _ => trivial)⟩
end Go.Proofs.Ytfkibolpanlelaa.Q
