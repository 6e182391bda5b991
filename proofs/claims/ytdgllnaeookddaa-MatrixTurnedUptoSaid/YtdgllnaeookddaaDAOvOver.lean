/- What Overlay of package vars does: the variables of all layers gathered by name in a map, put out in whatever order, sorted by name. -/
import Derived.Test.YtdgllnaeookddaaDAOvSort
import Derived.Test.YtdgllnaeookddaaDAVRange
namespace Go.Proofs.Ytdgllnaeookddaa.Ov
open Go.RowKit Go.Proofs.YtdgllnaeookddaaW.PrintWords Go.Proofs.YtdgllnaeookddaaW.PrintLast Go.Proofs.YtdgllnaeookddaaW.PrintMore Go.Proofs.Ytdgllnaeookddaa.SMap Go.Proofs.Ytdgllnaeookddaa.Q
set_option linter.unusedVariables false
set_option linter.unusedSimpArgs false
def pvV (v : SV) : ByteArray × Value := (v.f0, .agg #[.string v.f0, .string v.f1])
def kvV (l : List SV) : KV := l.map pvV
def setV : List SV → SV → List SV
  | [], v => [v]
  | x :: r, v => if v.f0 = x.f0 then v :: r else x :: setV r v
theorem set_kv (v : SV) : ∀ l, setS (kvV l) v.f0 (.agg #[.string v.f0, .string v.f1]) = kvV (setV l v)
  | [] => rfl
  | x :: r => by
    show (if v.f0 = x.f0 then (x.f0, _) :: kvV r else pvV x :: setS (kvV r) v.f0 _) = kvV (if v.f0 = x.f0 then v :: r else x :: setV r v)
    by_cases h : v.f0 = x.f0
    · rw [if_pos h, if_pos h, ← h]; rfl
    · rw [if_neg h, if_neg h, set_kv v r]; rfl
def overL (vs : List SV) : List SV := vs.foldl setV []
theorem overL_snoc (vs : List SV) (v : SV) : overL (vs ++ [v]) = setV (overL vs) v := by simp [overL]
theorem names_old (v : SV) : ∀ l : List SV, v.f0 ∈ l.map (·.f0) → (setV l v).map (·.f0) = l.map (·.f0)
  | [], h => by cases h
  | x :: r, h => by
    unfold setV
    by_cases e : v.f0 = x.f0
    · rw [if_pos e, List.map_cons, List.map_cons, e]
    · rw [if_neg e, List.map_cons, List.map_cons, names_old v r (by rw [List.map_cons, List.mem_cons] at h; rcases h with h | h; exact absurd h e; exact h)]
theorem names_new (v : SV) : ∀ l : List SV, v.f0 ∉ l.map (·.f0) → (setV l v).map (·.f0) = l.map (·.f0) ++ [v.f0]
  | [], h => rfl
  | x :: r, h => by
    rw [List.map_cons, List.mem_cons] at h
    unfold setV
    rw [if_neg (fun e => h (.inl e)), List.map_cons, names_new v r (fun e => h (.inr e)), List.map_cons, List.cons_append]
theorem nodup_set (v : SV) {l : List SV} (h : (l.map (·.f0)).Nodup) : ((setV l v).map (·.f0)).Nodup := by
  by_cases hn : v.f0 ∈ l.map (·.f0)
  · rw [names_old v l hn]
    exact h
  · rw [names_new v l hn, List.nodup_append]
    refine ⟨h, by simp, fun a ha c hc => ?_⟩
    rw [List.mem_singleton.1 hc]
    rintro rfl
    exact hn ha
theorem len_set (v : SV) : ∀ l : List SV, (setV l v).length ≤ l.length + 1
  | [] => by simp [setV]
  | x :: r => by
    unfold setV
    split
    · simp
    · have := len_set v r
      simp; omega
theorem over_facts : ∀ (vs acc : List SV), (acc.map (·.f0)).Nodup → ((vs.foldl setV acc).map (·.f0)).Nodup ∧ (vs.foldl setV acc).length ≤ acc.length + vs.length
  | [], acc, h => ⟨h, by simp⟩
  | v :: r, acc, h => by
    obtain ⟨h1, h2⟩ := over_facts r (setV acc v) (nodup_set v h)
    refine ⟨h1, Nat.le_trans h2 ?_⟩
    have := len_set v acc
    simp; omega
theorem nodup_over (vs : List SV) : ((overL vs).map (·.f0)).Nodup := (over_facts vs [] List.nodup_nil).1
theorem len_over (vs : List SV) : (overL vs).length ≤ vs.length := by
  have := (over_facts vs [] List.nodup_nil).2
  rw [List.length_nil, Nat.zero_add] at this
  exact this
/-- What Overlay answers. -/
def overB (ls : List (List SV)) : List SV := sortV (overL ls.flatten)
def ORel (w : World) (ls : List (List SV)) (i : Value) (wr : World) : Prop :=
  ∃ k : Nat, k ≤ ls.length ∧ i = .int .i64 k ∧ SM wr w.heap.size (kvV (overL (ls.take k).flatten)) ∧ Below w.heap.size w wr
def IRel (w : World) (pre x : List SV) (i : Value) (wr : World) : Prop :=
  ∃ j : Nat, j ≤ x.length ∧ i = .int .i64 j ∧ SM wr w.heap.size (kvV (overL (pre ++ x.take j))) ∧ Below w.heap.size w wr
def RRel (w : World) (b r : Nat) (L : List SV) (g : Nat) (v : Value) (wr : World) : Prop :=
  ∃ seen : List Nat, g = L.length - seen.length ∧ SR wr b r (kvV L) seen ∧ Kd.R k51 51 wr b (fun k => k ≠ b ∧ k ≠ r) v (seen.map fun i => L.getD i z51) ∧ Below b w wr
theorem seen_perm {L : List SV} {seen : List Nat} (hn : seen.Nodup) (hl : ∀ i ∈ seen, i < L.length) (ha : ∀ i, i < L.length → i ∈ seen) : (seen.map fun i => L.getD i z51).Perm L := by
  have h1 : seen.Perm (List.range L.length) := by
    refine (List.perm_ext_iff_of_nodup hn List.nodup_range).2 fun i => ?_
    rw [List.mem_range]
    exact ⟨hl i, ha i⟩
  have h2 : (List.range L.length).map (fun i => L.getD i z51) = L := by
    apply List.ext_getElem (by simp)
    intro i hi _
    have : i < L.length := by simpa using hi
    simp [this]
  exact (h1.map _).trans (by rw [h2])
theorem seen_len {L : List SV} {seen : List Nat} (hn : seen.Nodup) (hl : ∀ i ∈ seen, i < L.length) : seen.length ≤ L.length := by
  have h1 : seen ⊆ List.range L.length := fun i hi => List.mem_range.2 (hl i hi)
  have := List.Nodup.length_le_of_subset hn h1
  simpa using this
theorem kv_at {L : List SV} {i : Nat} {p : ByteArray × Value} (h : (kvV L)[i]? = some p) : i < L.length ∧ p = pvV (L.getD i z51) := by
  unfold kvV at h
  rw [List.getElem?_map] at h
  cases hi : L[i]? with
  | none => rw [hi] at h; cases h
  | some x =>
    rw [hi] at h
    have hlt := (List.getElem?_eq_some_iff.1 hi).1
    refine ⟨hlt, ?_⟩
    rw [List.getD_eq_getElem?_getD, hi]
    exact (Option.some.inj h).symm
def SortsV : Prop := ∀ {base : Nat} {ok : Nat → Prop} {v : Value} {xs : List SV} {w : World} (_ : Kd.R k51 51 w base ok v xs) (_ : (xs.map (·.f0)).Nodup) (_ : xs.length < 4611686018427387904),
    Calls Try.prog 52 #[v, .func (.func 53) #[] #[]] w fun e w' =>
      e = .returned (.tuple #[]) ∧ Kd.R k51 51 w' base ok v (sortV xs) ∧ w.grownBy w' v.ownBlock
theorem rd_layer (ls : List (List SV)) (k : Nat) (h : k < ls.length) : rd_L6 ls (k : Int) = ls[k] := by simp [rd_L6, h]
theorem rd_var (x : List SV) (k : Nat) (h : k < x.length) : rd_T51 x (k : Int) = x[k] := by simp [rd_T51, h]
set_option maxHeartbeats 2000000 in
set_option maxRecDepth 100000 in
theorem over_any (HS : SortsV) (A : Option Addr) (c : Nat) (ls : List (List SV)) (w : World) (hr : Kd.C (Kd.slice 51 k51) w A ls.length ls) (hsm : ls.flatten.length ≤ 4398046511103) :
    Calls Try.prog 28 #[.slice A ls.length c] w fun e w' => ∃ v0_ : Value, e = .returned v0_ ∧ Kd.R k51 51 w' w.heap.size (fun _ => True) v0_ (overB ls) ∧ Below w.heap.size w w' := by
  have hlen : ls.length ≤ 9223372036854775807 := hr.2.1
  have hmm := @run_makeMap Try.prog
  have HR := Aside0.mk hr
  have HSM := Aside0.mk hsm
  have HSO := Aside0.mk @HS
  clear hr hsm HS
  go_enter Try.func28, Try.ntmps28
  go_wp2
  go_loopw [14] (fun i wr => ORel w ls i wr) (fun i _ => ls.length - (intOf i).toNat)
  case atStart => exact ⟨0, Nat.zero_le _, rfl, SM.made w, (Below.refl _ _).alloc (Nat.le_refl _) _⟩
  case round =>
    obtain ⟨k, hk, rfl, hsm, hbw⟩ := hrel
    by_cases hlt : k < ls.length
    · obtain ⟨ad, A0, c0, e, hx, hl0, hC⟩ := at_L6 HR.out (k : Int) (by omega) (by omega)
      subst e
      have htk := Aside0.mk (show (ls.take (k + 1)).flatten = (ls.take k).flatten ++ rd_L6 ls (k : Int) by rw [List.take_succ_eq_append_getElem hlt, List.flatten_append, rd_layer ls k hlt]; simp)
      generalize rd_L6 ls (k : Int) = x at hx hl0 hC htk
      replace hx : wr.cell? (ad.add k) = _ := pw_cell_below hbw hx
      have HX := Aside0.mk hC
      have hxl : x.length ≤ 9223372036854775807 := hC.2.1
      have HB := Aside0.mk hbw
      have HM := Aside0.mk hsm
      generalize (ls.take k).flatten = pre at HM htk
      clear hC hbw hsm
      obtain ⟨wo, rfl⟩ : ∃ wo : World, wo = wr := ⟨_, rfl⟩
      go_wp2
      go_loopw [20] (fun i wr => IRel w pre x i wr) (fun i _ => x.length - (intOf i).toNat)
      case atStart => exact ⟨0, Nat.zero_le _, rfl, by rw [List.take_zero, List.append_nil]; exact HM.out, HB.out⟩
      case round =>
        obtain ⟨j, hj, rfl, hsm, hbw⟩ := hrel
        by_cases hlj : j < x.length
        · obtain ⟨a1, e, hy, hy1⟩ := at_T51 HX.out (j : Int) (by omega) (by omega)
          subst e
          have htj := Aside0.mk (show pre ++ x.take (j + 1) = (pre ++ x.take j) ++ [rd_T51 x (j : Int)] by rw [List.take_succ_eq_append_getElem hlj, rd_var x j hlj, List.append_assoc])
          generalize rd_T51 x (j : Int) = v at hy hy1 htj
          replace hy : wr.cell? (a1.add (j * 2)) = _ := pw_cell_below hbw hy
          replace hy1 : wr.cell? ⟨(a1.add (j * 2)).block, (a1.add (j * 2)).off + 1, none⟩ = _ := pw_cell_below hbw hy1
          have HB1 := Aside0.mk hbw
          have HM1 := Aside0.mk hsm
          generalize pre ++ x.take j = q at HM1 htj
          clear hbw hsm hx
          go_wp2_with (first
            | (at_mapUpdate; refine wpList_update_sm _ rfl _ _ _ 76 rfl 9 51 Try.underlying76 Try.underlying9 _ _ rfl (HM1.out.alloc _) v.f0 rfl (.agg #[.string v.f0, .string v.f1]) rfl ?_; intro w1 hsm1 hg1))
          go_roundw
          case rel => exact ⟨j + 1, by omega, by go_num, by rw [htj.out, overL_snoc, ← set_kv]; exact hsm1, (below_alloc HB1.out _).grown hg1 (below_alloc HB1.out _).size (fun j hj => by cases hj; exact Nat.le_refl _)⟩
          case measure => simp [intOf]; omega
        · have hxk : Aside0 (x.take j = x) := ⟨List.take_of_length_le (by omega)⟩
          have HB1 := Aside0.mk hbw
          have HM1 := Aside0.mk hsm
          clear hbw hsm
          go_wp2
          go_roundw
          case rel => exact ⟨k + 1, by omega, by go_num, by rw [htk.out, ← hxk.out]; exact HM1.out, HB1.out⟩
          case measure => simp [intOf]; omega
    · have hkl : Aside0 (ls.take k = ls) := ⟨List.take_of_length_le (by omega)⟩
      rw [hkl.out] at hsm
      have hnd := Aside0.mk (nodup_over ls.flatten)
      have hll := Aside0.mk (Nat.le_trans (len_over ls.flatten) HSM.out)
      have hres := Aside0.mk (show overB ls = sortV (overL ls.flatten) from rfl)
      generalize overL ls.flatten = L at hsm hnd hll hres
      have HM := Aside0.mk hsm
      have HB := Aside0.mk hbw
      have HBL := Aside0.mk hsm.lt
      clear hsm hbw
      obtain ⟨b, hb⟩ : ∃ b, b = w.heap.size := ⟨_, rfl⟩
      have HBE := Aside0.mk hb
      rw [← hb] at HM HB HBL ⊢
      clear hb
      obtain ⟨wo, rfl⟩ : ∃ wo : World, wo = wr := ⟨_, rfl⟩
      go_wp2_with (at_range; refine wpList_range_sm _ rfl _ 76 rfl 9 51 Try.underlying76 b (kvV L) rfl HM.out ?_; intro w0 hsr0 hg0 hs0)
      go_frame
      obtain ⟨r, hr⟩ : ∃ r, r = wo.heap.size := ⟨_, rfl⟩
      rw [← hr] at hsr0 hs0 ⊢
      have HR0 := Aside0.mk hsr0
      have HBR := Aside0.mk (show b < r by rw [hr]; exact HBL.out)
      have HB0 := Aside0.mk (show Below b w w0 from HB.out.grown hg0 (Nat.le_of_lt HBL.out) (fun j hj => by cases hj))
      clear hsr0 hg0 hs0 hr
      go_loopg [8] (L.length) (fun g v wr => RRel w b r L g v wr)
      case atStart => exact ⟨[], by simp, HR0.out, Kd.R_nil _ _ _ _ _, HB0.out⟩
      case round =>
        obtain ⟨seen, rfl, hsr, ho, hbw⟩ := hrel
        have HSR := Aside0.mk hsr
        have HO := Aside0.mk ho
        have HBw := Aside0.mk hbw
        have HSL := Aside0.mk (seen_len hsr.nodup (fun i hi => by have := hsr.lt i hi; simpa [kvV] using this))
        clear hsr ho hbw
        go_wp2_with (at_next; refine wpList_next_sm _ rfl _ rfl b r (kvV L) seen rfl HSR.out ?_ ?_)
        · intro hall
          have hp := seen_perm HSR.out.nodup (fun i hi => by have := HSR.out.lt i hi; simpa [kvV] using this) (fun i hi => hall i (by simpa [kvV] using hi))
          have hn2 := Aside0.mk ((hp.map (·.f0)).nodup_iff.2 hnd.out)
          have hl2 := Aside0.mk (show (seen.map fun i => L.getD i z51).length < 4611686018427387904 by rw [hp.length_eq]; have := hll.out; omega)
          have hfin := Aside0.mk (show sortV (seen.map fun i => L.getD i z51) = overB ls by rw [hres.out]; exact sort_unique ((sort_perm _).trans hp) (sort_sorted hn2.out) hnd.out)
          clear hall hp
          go_wp2_with (go_at_call 52; refine (HSO.out HO.out hn2.out hl2.out).mono ?_; rintro e w2 ⟨rfl, ho2, hg2⟩)
          go_ret
          rw [hfin.out] at ho2
          rw [← HBE.out]
          exact ⟨_, rfl, Kd.R_mono ho2 (fun _ _ => trivial), HBw.out.grown hg2 (Nat.le_of_lt HSR.out.ltB) (fun j hj => Kd.R_base HO.out j hj)⟩
        · intro i pk pv w1 hip hns hsr1 hg1 hsz1 hen
          obtain ⟨hil, hpe⟩ := kv_at hip
          obtain ⟨rfl, rfl⟩ := Prod.mk.inj hpe
          clear hpe
          obtain ⟨v, hv⟩ : ∃ v, v = L.getD i z51 := ⟨_, rfl⟩
          rw [← hv] at hen ⊢
          have HV := Aside0.mk hv
          have HS1 := Aside0.mk hsr1
          have HO1 := Aside0.mk (Kd.R_grown HO.out hg1 (fun k hk e => hk.2 (Option.some.inj e)))
          have HB1 := Aside0.mk (show Below b w w1 from HBw.out.grown hg1 (Nat.le_of_lt HSR.out.ltB) (fun j hj => by cases hj; have := HBR.out; omega))
          have HL1 := Aside0.mk (show (seen ++ [i]).length ≤ L.length from seen_len HS1.out.nodup (fun i hi => by have := HS1.out.lt i hi; simpa [kvV] using this))
          have hlr := Aside0.mk HS1.out.ltR
          have HFR := Aside0.mk (show ∀ k, w1.heap.size < k → k ≠ b ∧ k ≠ r from fun k hk => ⟨by have := HBR.out; have := hlr.out; omega, by have := hlr.out; omega⟩)
          clear hip hns hsr1 hg1 hsz1 hv
          go_wp2_with (at_builtin; go_loud (refine Kd.R_append k51 (w0 := w) b rfl (.tmp 36) (.tmp 38) 36 51 (.agg #[(.string ⟨#[]⟩), (.string ⟨#[]⟩)]) 32 rfl Try.underlying36 info51 rfl (by decide) (by omega) u8 (seen.map fun i => L.getD i z51) v [.string v.f0, .string v.f1] (fun k => k ≠ b ∧ k ≠ r) (fun _ => False) rfl (by first | (go_simp; done) | (go_simp; rfl)) (k51_mkM _ _ _ _) (fun _ h => h.elim) (fun k hk => HFR.out k (by simp at hk; omega)) (Kd.R_alloc HO1.out _) (HB1.out.alloc (Nat.le_of_lt HS1.out.ltB) _) (by have := HS1.out.ltB; simp; omega) (by have := HL1.out; have := hll.out; rw [List.length_map]; simp at *; omega) ?_); intro v1 w2 ho2 hb2 hg2 hat2)
          have HOB := Aside0.mk HO.out.1
          have HS2 := Aside0.mk ((HS1.out.kept (World.grownBy_alloc w1 (.cells #[.string v.f0, .string v.f1] 51) none) (by simp) (by simp)).kept hg2 (fun e => (HOB.out _ e.symm).1 rfl) (fun e => (HOB.out _ e.symm).2 rfl))
          have HO2 := Aside0.mk ho2
          have HB2 := Aside0.mk hb2
          clear ho2 hb2 hg2 hat2
          go_roundg (L.length - (seen ++ [i]).length)
          case measure => have := HL1.out; simp at this ⊢; omega
          case rel => exact ⟨seen ++ [i], rfl, HS2.out, by rw [List.map_append]; show Kd.R _ _ _ _ _ _ (_ ++ [L.getD i z51]); rw [← HV.out]; exact HO2.out, HB2.out⟩
def ovSmall (ls : List (List SV)) : Bool := decide (ls.flatten.length ≤ 4398046511103)
def vars_Overlay.f (l0 : List (List SV)) : Option (List SV) := if ovSmall l0 = true then some (overB l0) else none
end Go.Proofs.Ytdgllnaeookddaa.Ov
