/- Whether a matrix may be, as the program's package matrix tells it: the contracts of entry and Check. -/
import Derived.Test.YtdgllnaeookddaaDAGNames
import Derived.Test.YtdgllnaeookddaaDAGOdo
import Derived.Test.YtdgllnaeookddaaDAGEntry
namespace Go.Proofs.Ytdgllnaeookddaa.Q
open Go.RowKit Go.Proofs.YtdgllnaeookddaaW.PrintWords Go.Proofs.YtdgllnaeookddaaW.PrintLast Go.Proofs.YtdgllnaeookddaaW.PrintMore
attribute [local go_sem] max2_int min2_int max_two min_two
set_option linter.unusedVariables false
set_option linter.unusedSimpArgs false
theorem info_errno : (Try.prog.info? 26).map (fun i => (i.zero, i.size, i.bytes)) = some (some (.int .i64 0), 1, 8) := by kernel_rfl
abbrev SV := S51
abbrev SX := S46
theorem wrap_succ {i : Int} {n : Nat} (h0 : 0 ≤ i) (h : i < (n : Int)) (hn : n ≤ 9223372036854775807) : wrap64 (i + 1) = i + 1 := by
  unfold wrap64
  omega
theorem rd_var (l : List SV) (i : Nat) (h : i < l.length) : rd_T51 l (i : Int) = l[i] := by simp [rd_T51, h]
theorem rd_axis (l : List SX) (i : Nat) (h : i < l.length) : rd_T46 l (i : Int) = l[i] := by simp [rd_T46, h]
/-- What a list of pairs may have at most (24 bytes each). -/
def small (n : Nat) : Prop := n ≤ 5864062014805
def entryI (vs : List SV) : Int := if vs.length = 0 then 130 else namesI (vs.map (·.f0))
theorem entry_l0 (l : List SV) (hn : small l.length) : ∀ (d : Nat) (i : Nat), i + d = l.length → Ev (fun k => matrix_entry.l0 k ((l.take i).map (·.f0)) l (l.length : Int) (i : Int)) (entryI l)
  | 0, i, h => by
    refine Ev.step (fun k => by rw [matrix_entry.l0, if_neg (by omega)]) ?_
    have e : l.take i = l := List.take_of_length_le (by omega)
    rw [e]
    by_cases h0 : l.length = 0
    · refine Ev.congr (fun k => by rw [if_pos (by simp [h0])]) ?_
      simp only [entryI, h0, if_true]
      exact Ev.now _
    · refine Ev.congr (fun k => by rw [if_neg (by simp; intro h; simp [h] at h0)]) ?_
      simp only [entryI, h0, if_false]
      exact Ev.now _
  | d + 1, i, h => by
    have hi : i < l.length := by omega
    unfold small at hn
    refine Ev.step (fun k => by rw [matrix_entry.l0, if_pos (by omega), if_pos (by omega), if_pos (by omega), if_pos (by simp; omega), wrap_succ (n := l.length) (by omega) (by omega) (by omega)]) ?_
    have ih := entry_l0 l hn d (i + 1) (by omega)
    rw [List.take_succ_eq_append_getElem hi, List.map_append] at ih
    rw [rd_var l i hi]
    exact ih
theorem entry_ev (l : List SV) (hn : small l.length) : Ev (fun k => matrix_entry.f k l) (entryI l) := by
  exact entry_l0 l hn l.length 0 (by omega)
theorem entry_any (A : Option Addr) (c : Nat) (l : List SV) (w : World) (hr : Kd.C k51 w A l.length l) (hc : l.length ≤ c) (hn : small l.length) :
    Calls Try.prog 40 #[.slice A l.length c] w fun e w' => e = .returned (.int .i64 (entryI l)) ∧ Below w.heap.size w w' := by
  obtain ⟨k, h⟩ := (entry_ev l hn).rounds
  exact matrix_entry.calls k A c l _ w hr hc h
/-- The greatest of the errors, but a form's error first. -/
def finI (m : Int) : List Int → Int
  | [] => m
  | x :: r => if x = 130 then 130 else finI (mx m x) r
def checkL (axes : AX) (inc exc : List (List SV)) : List Int := namesI (axes.map (·.f0)) :: (inc ++ exc).map entryI
def dupL (axes : AX) : List Int := (axes.filter fun a => dupB a.f1).map fun _ => (131 : Int)
def checkI (axes : AX) (inc exc : List (List SV)) : Int := if 8 < axes.length then 130 else finI 0 (checkL axes inc exc ++ dupL axes)
theorem names_at (A : Option Addr) (c m : Nat) (l : List ByteArray) (w : World) (hr : Kd.C Kd.string w A l.length l) (hm : l.length = m) {n : Int} (hn : namesI l = n) :
    Calls Try.prog 39 #[.slice A m c] w fun e w' => e = .returned (.int .i64 n) ∧ Below w.heap.size w w' := by
  subst hm hn
  exact names_any A c l w hr
theorem twice_at (A : Option Addr) (c : Nat) (l : List ByteArray) (w : World) (hr : Kd.C Kd.string w A l.length l) {b : Bool} (hb : dupB l = b) :
    Calls Try.prog 41 #[.slice A l.length c] w fun e w' => e = .returned (.bool b) ∧ Below w.heap.size w w' := by
  subst hb
  exact twice_any A c l w hr
section rels
variable (W1 : World) (axes : AX) (inc exc : List (List SV))
def NmRel (v i : Value) (wr : World) : Prop := ∃ k : Nat, k ≤ axes.length ∧ i = .int .i64 k ∧ Kd.R Kd.string 9 wr W1.heap.size (fun _ => True) v ((axes.take k).map (·.f0)) ∧ Below W1.heap.size W1 wr
/-- The errors of what stands ahead, and of the first k of a list. -/
def EsRel (pre : List Int) (cur : List (List SV)) (g : Nat) (o : Obj) (v i : Value) (wr : World) : Prop := ∃ k : Nat, k ≤ cur.length ∧ i = .int .i64 k ∧ wr.heap[g]? = some o ∧ Kd.R (Kd.int .i64) 26 wr W1.heap.size (fun _ => True) v (pre ++ (cur.take k).map entryI) ∧ Below W1.heap.size W1 wr
def esOut (n1 : Int) (j : Nat) : List Int := n1 :: (if j = 0 then [] else if j = 1 then inc else inc ++ exc).map entryI
def OutRel (n1 : Int) (A1 A2 : Option Addr) (c1 c2 : Nat) (g : Nat) (v i : Value) (wr : World) : Prop := ∃ j : Nat, j ≤ 2 ∧ i = .int .i64 j ∧
  Kd.R (Kd.int .i64) 26 wr W1.heap.size (fun _ => True) v (esOut inc exc n1 j) ∧
  wr.heap[g]? = some (.cells #[.slice A1 inc.length c1, .slice A2 exc.length c2] 23 (0, 0)) ∧ Below W1.heap.size W1 wr
def DupRel (pre : List Int) (v i : Value) (wr : World) : Prop := ∃ k : Nat, k ≤ axes.length ∧ i = .int .i64 k ∧ Kd.R (Kd.int .i64) 26 wr W1.heap.size (fun _ => True) v (pre ++ dupL (axes.take k)) ∧ Below W1.heap.size W1 wr
def FinRel (es : List Int) (res : Int) (v i : Value) (wr : World) : Prop := ∃ (k : Nat) (m : Int), k ≤ es.length ∧ i = .int .i64 k ∧ v = .int .i64 m ∧ finI m (es.drop k) = res ∧ Below W1.heap.size W1 wr
end rels
theorem at_row {α : Type} {d : Kd α} {e : Nat} {w : World} {A : Option Addr} {n : Nat} {xs : List (List α)} (h : Kd.C (Kd.slice e d) w A n xs) (k : Nat) (hk : k < n) :
    ∃ ad A0 c0, A = some ad ∧ w.cell? (ad.add k) = some (.slice A0 (xs.getD k []).length c0) ∧ (xs.getD k []).length ≤ c0 ∧ d.C w A0 (xs.getD k []).length (xs.getD k []) := by
  obtain ⟨ad, c, e1, _, hK, hc0⟩ := Kd.C_get h ([] : List α) (k : Int) (by omega) (by omega)
  have hc : ∀ j u, c[j]? = some u → w.cell? (ad.add (k * 1 + j)) = some u := hc0
  obtain ⟨A0, c0, rfl, l0, g0⟩ := hK
  exact ⟨ad, A0, c0, e1, by have hq := hc 0 _ rfl; rwa [Nat.mul_one, Nat.add_zero] at hq, l0, g0⟩
theorem boxm {W1 wr : World} {s : Nat} {cs : Array Value} {t : TypeId} (h : W1.heap[s]? = some (.cells cs t (0, 0))) (hb : Below W1.heap.size W1 wr) : wr.heap[s]? = some (.cells cs t (0, 0)) := blk_below h hb
set_option maxHeartbeats 1000000 in
set_option maxRecDepth 100000 in
theorem check_any (A0 A1 A2 : Option Addr) (c0 c1 c2 : Nat) (axes : AX) (inc exc : List (List SV)) (w : World) (hr0 : Kd.C k46 w A0 axes.length axes) (hc0 : axes.length ≤ c0) (hr1 : Kd.C (Kd.slice 51 k51) w A1 inc.length inc) (hc1 : inc.length ≤ c1)
    (hr2 : Kd.C (Kd.slice 51 k51) w A2 exc.length exc) (hc2 : exc.length ≤ c2) (hs0 : small axes.length) (hs1 : small inc.length) (hs2 : small exc.length) (hsm : ∀ vs, vs ∈ inc ++ exc → small vs.length) :
    Calls Try.prog 13 #[.agg #[.slice A0 axes.length c0, .slice A1 inc.length c1, .slice A2 exc.length c2]] w fun e w' => e = .returned (.int .i64 (checkI axes inc exc)) ∧ Below w.heap.size w w' := by
  have hbW := below_alloc (Below.refl w.heap.size w) (.cells #[.slice A0 axes.length c0, .slice A1 inc.length c1, .slice A2 exc.length c2] 25)
  have hbx := blk_new w (.cells #[.slice A0 axes.length c0, .slice A1 inc.length c1, .slice A2 exc.length c2] 25)
  have HR0 := Aside0.mk (Kd.C_alloc hr0 (.cells #[.slice A0 axes.length c0, .slice A1 inc.length c1, .slice A2 exc.length c2] 25))
  have HR1 := Aside0.mk (Kd.C_alloc hr1 (.cells #[.slice A0 axes.length c0, .slice A1 inc.length c1, .slice A2 exc.length c2] 25))
  have HR2 := Aside0.mk (Kd.C_alloc hr2 (.cells #[.slice A0 axes.length c0, .slice A1 inc.length c1, .slice A2 exc.length c2] 25))
  have HS := Aside0.mk hsm
  have HBW := Aside0.mk hbW
  have HBX := Aside0.mk hbx
  clear hr0 hr1 hr2 hsm hbW hbx
  unfold small at hs0 hs1 hs2
  obtain ⟨res, hres⟩ : ∃ r, r = checkI axes inc exc := ⟨_, rfl⟩
  rw [← hres]
  have HRES := Aside0.mk hres
  clear hres
  go_enter Try.func13, Try.ntmps13
  go_wp2
  generalize w.alloc (.cells #[.slice A0 axes.length c0, .slice A1 inc.length c1, .slice A2 exc.length c2] 25) = W1 at HR0 HR1 HR2 HBW HBX ⊢
  go_loopw [3, 19] (fun v i wr => NmRel W1 axes v i wr) (fun _ i _ => axes.length - (intOf i).toNat)
  case atStart => exact ⟨0, Nat.zero_le _, rfl, Kd.R_nil _ _ _ _ _, Below.refl _ _⟩
  case round =>
    obtain ⟨k, hk, rfl, ho, hbw⟩ := hrel
    have HO := Aside0.mk ho
    have HB := Aside0.mk hbw
    by_cases hlt : k < axes.length
    · obtain ⟨ad, A0', c0', e, hx, hx1, hl, hi⟩ := at_T46 HR0.out (k : Int) (by omega) (by omega)
      subst e
      have htk := Aside0.mk (show (axes.take (k + 1)).map (·.f0) = (axes.take k).map (·.f0) ++ [(rd_T46 axes (k : Int)).f0] by rw [List.take_succ_eq_append_getElem hlt, List.map_append, rd_axis axes k hlt]; rfl)
      generalize rd_T46 axes (k : Int) = ax at hx hx1 hl hi htk
      replace hx : wr.cell? (ad.add (k * 2)) = _ := pw_cell_below hbw hx
      replace hx1 : wr.cell? ⟨(ad.add (k * 2)).block, (ad.add (k * 2)).off + 1, none⟩ = _ := pw_cell_below hbw hx1
      clear ho hbw hi
      go_wp2_with (at_builtin; refine Kd.R_append Kd.string (w0 := W1) W1.heap.size rfl (.tmp 23) (.tmp 26) 44 9 (.string ⟨#[]⟩) 16 rfl Try.underlying44 info9 rfl (by decide) (by omega) u3 ((axes.take k).map (·.f0)) ax.f0 [.string ax.f0] (fun _ => True) (fun _ => False) rfl (by first | (go_simp; done) | (go_simp; rfl)) rfl (fun _ h => h.elim) (fun _ _ => trivial) (Kd.R_alloc HO.out _) (below_alloc HB.out _) (below_alloc HB.out _).size (by rw [List.length_map, List.length_take]; omega) ?_; intro v1 w1 ho1 hb1 hg1 hat1)
      have HO1 := Aside0.mk (show Kd.R Kd.string 9 w1 W1.heap.size (fun _ => True) v1 ((axes.take (k + 1)).map (·.f0)) by rw [htk.out]; exact ho1)
      have HB1 := Aside0.mk hb1
      clear ho1 hb1 hg1 hat1
      go_roundw
      case rel => exact ⟨k + 1, by omega, by go_num, HO1.out, HB1.out⟩
      case measure => simp [intOf]; omega
    · have HN : Aside0 (Kd.R Kd.string 9 wr W1.heap.size (fun _ => True) u3 (axes.map (·.f0))) := ⟨by have := HO.out; rwa [List.take_of_length_le (by omega)] at this⟩
      clear ho hbw HO
      obtain ⟨An, cn, hv, hln, hCn⟩ := Kd.R_reads HN.out
      subst hv
      have hm1 : wr.cell? ⟨w.heap.size, 1, none⟩ = some (.slice A1 inc.length c1) := (blk_cell (boxm HBX.out HB.out) 1).trans rfl
      have hm2 : wr.cell? ⟨w.heap.size, 2, none⟩ = some (.slice A2 exc.length c2) := (blk_cell (boxm HBX.out HB.out) 2).trans rfl
      clear hm1 hm2
      generalize hn1 : namesI (axes.map (·.f0)) = n1
      have HN1 := Aside0.mk hn1
      have HCN := Aside0.mk hCn
      clear hn1 hCn
      obtain ⟨wo, rfl⟩ : ∃ wo : World, wo = wr := ⟨_, rfl⟩
      go_wp2_with (first
        | (go_at_call 39; refine (names_at An cn axes.length _ _ HCN.out (by simp) HN1.out).mono ?_; rintro e w2 ⟨rfl, hb2⟩; have HB2 := Aside0.mk (below_step HB.out hb2); clear hb2)
        | ((with_reducible refine gate_dst (N := 31) rfl ?_); refine Kd.R_lit (Kd.int .i64) W1.heap.size 26 ?hg (N := 31) ?hd (xs := ([n1] : List Int)) (inner := [.int .i64 n1]) (ok := fun _ => True) (okp := fun _ => True) ?hr ?hp (fun _ hk => hk) trivial HB2.out HB2.out.size (by simp) ?_; (case hd => rfl); (case hg => rfl); (case hr => first | (go_simp; done) | (go_simp; rfl)); (case hp => exact Reps.snoc (Reps.none _ _) rfl rfl); intro v3 w3 ho3 hb3 hg3 hnew3; have HO3 := Aside0.mk ho3; have HB3 := Aside0.mk hb3; clear ho3 hb3 hg3 hnew3; have hm1 : w3.cell? ⟨w.heap.size, 1, none⟩ = some (.slice A1 inc.length c1) := (blk_cell (boxm HBX.out HB3.out) 1).trans rfl; have hm2 : w3.cell? ⟨w.heap.size, 2, none⟩ = some (.slice A2 exc.length c2) := (blk_cell (boxm HBX.out HB3.out) 2).trans rfl))
      obtain ⟨g, hg⟩ : ∃ g, g = w3.heap.size := ⟨_, rfl⟩
      have hbk : (w3.alloc (.cells #[.slice A1 inc.length c1, .slice A2 exc.length c2] 23)).heap[g]? = some (.cells #[.slice A1 inc.length c1, .slice A2 exc.length c2] 23 (0, 0)) := by rw [hg]; exact blk_new _ _
      have hge : W1.heap.size ≤ g := by rw [hg]; exact HB3.out.size
      rw [← hg]
      clear hg hm1 hm2
      have HO4 := Aside0.mk (Kd.R_alloc HO3.out (.cells #[.slice A1 inc.length c1, .slice A2 exc.length c2] 23))
      have HB4 := Aside0.mk (below_alloc HB3.out (.cells #[.slice A1 inc.length c1, .slice A2 exc.length c2] 23))
      generalize w3.alloc (.cells #[.slice A1 inc.length c1, .slice A2 exc.length c2] 23) = w4 at hbk HO4 HB4 ⊢
      have HBK := Aside0.mk hbk
      clear hbk HO3 HB3 HCN HN
      go_loopw [6, 38] (fun v i wr => OutRel W1 inc exc n1 A1 A2 c1 c2 g v i wr) (fun _ i _ => 2 - (intOf i).toNat)
      case atStart => exact ⟨0, by omega, rfl, HO4.out, HBK.out, HB4.out⟩
      case round =>
        clear HO4 HB4 HBK
        obtain ⟨j, hj, rfl, ho, hbk, hbw⟩ := hrel
        by_cases hlt2 : j < 2
        · obtain ⟨A', c', cur, hcell, hcur, hcc, hcs, hesm, hes⟩ : ∃ (A' : Option Addr) (c' : Nat) (cur : List (List SV)), wr.cell? ⟨g, j, none⟩ = some (.slice A' cur.length c') ∧ Kd.C (Kd.slice 51 k51) W1 A' cur.length cur ∧ cur.length ≤ c' ∧ cur.length ≤ 5864062014805 ∧ (∀ vs, vs ∈ cur → small vs.length) ∧ esOut inc exc n1 (j + 1) = esOut inc exc n1 j ++ cur.map entryI := by
            rcases Nat.lt_or_ge j 1 with h | h
            · obtain rfl : j = 0 := by omega
              exact ⟨A1, c1, inc, (blk_cell hbk 0).trans rfl, HR1.out, hc1, hs1, fun vs hv => HS.out vs (List.mem_append_left _ hv), by simp [esOut]⟩
            · obtain rfl : j = 1 := by omega
              exact ⟨A2, c2, exc, (blk_cell hbk 1).trans rfl, HR2.out, hc2, hs2, fun vs hv => HS.out vs (List.mem_append_right _ hv), by simp [esOut]⟩
          have hlo : (esOut inc exc n1 j).length ≤ 1 + inc.length + exc.length := by
            unfold esOut
            split
            · simp; omega
            · split <;> simp <;> omega
          have HES := Aside0.mk hes
          have HSM := Aside0.mk hesm
          have HC := Aside0.mk hcur
          have HO := Aside0.mk ho
          have HB := Aside0.mk hbw
          have HBK := Aside0.mk hbk
          generalize hpre : esOut inc exc n1 j = pre at HO hlo HES
          clear hes hesm hcur ho hbw hbk
          have HPRE := Aside0.mk hpre
          clear hpre
          obtain ⟨wo, rfl⟩ : ∃ wo : World, wo = wr := ⟨_, rfl⟩
          go_wp2
          go_loopw [6, 44] (fun v i wr => EsRel W1 pre cur g (.cells #[.slice A1 inc.length c1, .slice A2 exc.length c2] 23 (0, 0)) v i wr) (fun _ i _ => cur.length - (intOf i).toNat)
          case atStart => exact ⟨0, Nat.zero_le _, rfl, HBK.out, by simpa using HO.out, HB.out⟩
          case round =>
            clear hcell
            obtain ⟨k2, hk2, rfl, hbk, ho, hbw⟩ := hrel
            by_cases hlt3 : k2 < cur.length
            · obtain ⟨ad, A0', c0', e, hx, hl, hi⟩ := at_row HC.out k2 hlt3
              subst e
              have hvs : cur.getD k2 [] = cur[k2] := by simp [hlt3]
              have htk := Aside0.mk (show (cur.take (k2 + 1)).map entryI = (cur.take k2).map entryI ++ [entryI (cur.getD k2 [])] by rw [hvs, List.take_succ_eq_append_getElem hlt3, List.map_append]; rfl)
              have hsv := Aside0.mk (show small (cur.getD k2 []).length by rw [hvs]; exact HSM.out _ (List.getElem_mem hlt3))
              clear hvs
              generalize cur.getD k2 [] = vs at hx hl hi htk hsv
              replace hx : wr.cell? (ad.add k2) = _ := pw_cell_below hbw hx
              have HI := Aside0.mk (Kd.C_below hi hbw)
              have HO := Aside0.mk ho
              have HB := Aside0.mk hbw
              have HBK := Aside0.mk hbk
              clear hi ho hbw hbk
              go_wp2_with (first
                | (go_at_call 40; refine (entry_any A0' c0' vs _ HI.out hl hsv.out).mono ?_; rintro e w5 ⟨rfl, hb5⟩; have HO5 := Aside0.mk (Kd.R_below HO.out hb5); have HB5 := Aside0.mk (below_step HB.out hb5); have HBK5 := Aside0.mk (blk_below HBK.out hb5); clear hb5)
                | (at_builtin; refine Kd.R_append (Kd.int .i64) (w0 := W1) W1.heap.size rfl (.tmp 48) (.tmp 51) 64 26 (.int .i64 0) 8 rfl Try.underlying64 info_errno rfl (by decide) (by omega) u6 (pre ++ (cur.take k2).map entryI) (entryI vs) [.int .i64 (entryI vs)] (fun _ => True) (fun _ => False) rfl (by first | (go_simp; done) | (go_simp; rfl)) rfl (fun _ h => h.elim) (fun _ _ => trivial) HO5.out HB5.out HB5.out.size (by rw [List.length_append, List.length_map, List.length_take]; omega) ?_; intro v1 w6 ho1 hb1 hg1 hat1))
              have HO6 := Aside0.mk (show Kd.R (Kd.int .i64) 26 w6 W1.heap.size (fun _ => True) v1 (pre ++ (cur.take (k2 + 1)).map entryI) by rw [htk.out, ← List.append_assoc]; exact ho1)
              have HB6 := Aside0.mk hb1
              have HBK6 := Aside0.mk (blk_grown HBK5.out hg1 (Kd.R_ne HO5.out HBK5.out (by decide)))
              clear ho1 hb1 hg1 hat1
              go_roundw
              case rel => (repeat apply Exists.intro); refine ⟨⟨k2 + 1, by omega, by go_num, HBK6.out, HO6.out, HB6.out⟩, ?_⟩; rw [show decide ((j : Int) < 2) = true by simp; omega]; rfl
              case measure => simp [intOf]; omega
            · have HO7 := Aside0.mk (show Kd.R (Kd.int .i64) 26 wr W1.heap.size (fun _ => True) _ (esOut inc exc n1 (j + 1)) by rw [HES.out]; have := ho; rwa [List.take_of_length_le (by omega)] at this)
              have HB7 := Aside0.mk hbw
              have HBK7 := Aside0.mk hbk
              clear ho hbw hbk
              go_wp2
              go_roundw
              case rel => exact ⟨j + 1, by omega, by go_num, HO7.out, HBK7.out, HB7.out⟩
              case measure => simp [intOf]; omega
        · have hj2 : j = 2 := by omega
          have HO8 := Aside0.mk (show Kd.R (Kd.int .i64) 26 wr W1.heap.size (fun _ => True) _ (checkL axes inc exc) by
            have := ho
            rw [hj2] at this
            unfold checkL
            rw [HN1.out]
            exact this)
          have HB8 := Aside0.mk hbw
          have hm0 : wr.cell? ⟨w.heap.size, 0, none⟩ = some (.slice A0 axes.length c0) := (blk_cell (boxm HBX.out hbw) 0).trans rfl
          clear ho hbw hbk hj2
          obtain ⟨wo, rfl⟩ : ∃ wo : World, wo = wr := ⟨_, rfl⟩
          go_wp2
          go_loopw [6, 58] (fun v i wr => DupRel W1 axes (checkL axes inc exc) v i wr) (fun _ i _ => axes.length - (intOf i).toNat)
          case atStart => exact ⟨0, Nat.zero_le _, rfl, by simpa [dupL] using HO8.out, HB8.out⟩
          case round =>
            clear hm0 HO8 HB8
            obtain ⟨k4, hk4, rfl, ho, hbw⟩ := hrel
            have HO := Aside0.mk ho
            have HB := Aside0.mk hbw
            clear ho hbw
            have hdl : (dupL (axes.take k4)).length ≤ k4 := by
              unfold dupL
              rw [List.length_map]
              exact Nat.le_trans (List.length_filter_le _ _) (by rw [List.length_take]; omega)
            have hcl : (checkL axes inc exc).length = 1 + (inc.length + exc.length) := by
              unfold checkL
              simp [Nat.add_comm]
            by_cases hlt4 : k4 < axes.length
            · obtain ⟨ad, A0', c0', e, hx, hx1, hl, hi⟩ := at_T46 HR0.out (k4 : Int) (by omega) (by omega)
              subst e
              have htk := Aside0.mk (show dupL (axes.take (k4 + 1)) = dupL (axes.take k4) ++ (if dupB (rd_T46 axes (k4 : Int)).f1 then [131] else []) by
                rw [List.take_succ_eq_append_getElem hlt4, rd_axis axes k4 hlt4]
                unfold dupL
                rw [List.filter_append, List.map_append]
                congr 1
                cases hd : dupB axes[k4].f1 <;> simp [hd])
              generalize rd_T46 axes (k4 : Int) = ax at hx hx1 hl hi htk
              replace hx : wr.cell? (ad.add (k4 * 2)) = _ := pw_cell_below HB.out hx
              replace hx1 : wr.cell? ⟨(ad.add (k4 * 2)).block, (ad.add (k4 * 2)).off + 1, none⟩ = _ := pw_cell_below HB.out hx1
              have HI := Aside0.mk (Kd.C_below hi HB.out)
              clear hi
              rcases hdb : dupB ax.f1 with _ | _
              · have HDB := Aside0.mk hdb
                clear hdb
                go_wp2_with (go_at_call 41; refine (twice_at A0' c0' ax.f1 _ (Kd.C_alloc HI.out _) HDB.out).mono ?_; rintro e w5 ⟨rfl, hb5⟩; have HO5 := Aside0.mk (Kd.R_below (Kd.R_alloc HO.out _) hb5); have HB5 := Aside0.mk (below_step (below_alloc HB.out _) hb5); clear hb5)
                go_roundw
                case rel => exact ⟨k4 + 1, by omega, by go_num, by rw [htk.out, HDB.out]; simpa using HO5.out, HB5.out⟩
                case measure => simp [intOf]; omega
              · have HDB := Aside0.mk hdb
                clear hdb
                go_wp2_with (first
                  | (go_at_call 41; refine (twice_at A0' c0' ax.f1 _ (Kd.C_alloc HI.out _) HDB.out).mono ?_; rintro e w5 ⟨rfl, hb5⟩; have HO5 := Aside0.mk (Kd.R_below (Kd.R_alloc HO.out _) hb5); have HB5 := Aside0.mk (below_step (below_alloc HB.out _) hb5); clear hb5)
                  | (at_builtin; go_loud (refine Kd.R_append (Kd.int .i64) (w0 := W1) W1.heap.size rfl (.tmp 65) (.tmp 66) 64 26 (.int .i64 0) 8 rfl Try.underlying64 info_errno rfl (by decide) (by omega) u6 (checkL axes inc exc ++ dupL (axes.take k4)) 131 [.int .i64 131] (fun _ => True) (fun _ => False) rfl (by first | (go_simp; done) | (go_simp; rfl)) rfl (fun _ h => h.elim) (fun _ _ => trivial) HO5.out HB5.out HB5.out.size (by rw [List.length_append]; omega) ?_); intro v1 w6 ho1 hb1 hg1 hat1))
                have HO6 := Aside0.mk (show Kd.R (Kd.int .i64) 26 w6 W1.heap.size (fun _ => True) v1 (checkL axes inc exc ++ dupL (axes.take (k4 + 1))) by rw [htk.out, HDB.out, if_pos rfl, ← List.append_assoc]; exact ho1)
                have HB6 := Aside0.mk hb1
                clear ho1 hb1 hg1 hat1
                go_roundw
                case rel => exact ⟨k4 + 1, by omega, by go_num, HO6.out, HB6.out⟩
                case measure => simp [intOf]; omega
            · have HO9 := Aside0.mk (show Kd.R (Kd.int .i64) 26 wr W1.heap.size (fun _ => True) _ (checkL axes inc exc ++ dupL axes) by have := HO.out; rwa [List.take_of_length_le (by omega)] at this)
              have hm0 : wr.cell? ⟨w.heap.size, 0, none⟩ = some (.slice A0 axes.length c0) := (blk_cell (boxm HBX.out HB.out) 0).trans rfl
              have hdl' : (dupL axes).length ≤ k4 := by rwa [List.take_of_length_le (by omega)] at hdl
              clear HO hdl
              by_cases h8 : 8 < axes.length
              · obtain rfl : res = 130 := HRES.out.trans (if_pos h8)
                have HF := Aside0.mk (below_step HBW.out HB.out)
                go_wp2
                go_ret
                exact ⟨ret_int rfl, HF.out⟩
              · obtain ⟨Ae, ce, hv, hle, hCe⟩ := Kd.R_reads HO9.out
                subst hv
                have HCE := Aside0.mk hCe
                have HCI := Aside0.mk (show finI 0 (checkL axes inc exc ++ dupL axes) = res from (HRES.out.trans (if_neg h8)).symm)
                have hel : (checkL axes inc exc ++ dupL axes).length ≤ 17592186044417 := by rw [List.length_append]; omega
                generalize checkL axes inc exc ++ dupL axes = es at HCI HCE hle hel HO9
                clear hCe hcl hdl' hm0
                obtain ⟨wo, rfl⟩ : ∃ wo : World, wo = wr := ⟨_, rfl⟩
                have hm0 : wo.cell? ⟨w.heap.size, 0, none⟩ = some (.slice A0 axes.length c0) := (blk_cell (boxm HBX.out HB.out) 0).trans rfl
                go_wp2
                clear hm0
                go_loopw [13, 75] (fun v i wr => FinRel wo es res v i wr) (fun _ i _ => es.length - (intOf i).toNat)
                case atStart => exact ⟨0, 0, Nat.zero_le _, rfl, rfl, HCI.out, Below.refl _ _⟩
                case round =>
                  obtain ⟨k5, m5, hk5, rfl, rfl, hf, hbw⟩ := hrel
                  have HF5 := Aside0.mk (below_step HBW.out (below_step HB.out hbw))
                  have HB5 := Aside0.mk hbw
                  clear hbw
                  by_cases hlt5 : k5 < es.length
                  · obtain ⟨ad, e, hx⟩ := Kd.at_int HCE.out (k5 : Int) (by omega) (by omega)
                    subst e
                    have hdr := Aside0.mk (show es.drop k5 = rd es (k5 : Int) :: es.drop (k5 + 1) by
                      rw [List.drop_eq_getElem_cons hlt5]
                      congr 1
                      simp [rd, hlt5])
                    generalize rd es (k5 : Int) = x at hx hdr
                    have HF := Aside0.mk hf
                    clear hf
                    replace hx : wr.cell? (ad.add k5) = _ := pw_cell_below HB5.out hx
                    by_cases h130 : x = 130
                    · subst h130
                      have hr : res = 130 := by rw [← HF.out, hdr.out]; simp [finI]
                      go_wp2
                      go_ret
                      exact ⟨ret_int hr.symm, HF5.out⟩
                    · have hst := Aside0.mk (show finI (mx m5 x) (es.drop (k5 + 1)) = res by rw [← HF.out, hdr.out]; simp [finI, h130])
                      go_wp2
                      exact ⟨⟨k5 + 1, mx m5 x, by omega, by go_num, rfl, hst.out, HB5.out⟩, by simp [intOf]; omega⟩
                  · have hm : m5 = res := by
                      have := hf
                      rw [List.drop_eq_nil_of_le (by omega)] at this
                      exact this
                    go_wp2
                    go_ret
                    exact ⟨ret_int hm, HF5.out⟩
def smallB (axes : AX) (inc exc : List (List SV)) : Bool :=
  decide (axes.length ≤ 5864062014805) && decide (inc.length ≤ 5864062014805) && decide (exc.length ≤ 5864062014805) && (inc ++ exc).all fun vs => decide (vs.length ≤ 5864062014805)
def matrix_Check.f (l0_0 : AX) (l0_1 l0_2 : List (List SV)) : Option Int := if smallB l0_0 l0_1 l0_2 = true then some (checkI l0_0 l0_1 l0_2) else none
theorem matrix_Check.calls (A0_0 : Option Addr) (c0_0 : Nat) (l0_0 : AX) (A0_1 : Option Addr) (c0_1 : Nat) (l0_1 : List (List SV)) (A0_2 : Option Addr) (c0_2 : Nat) (l0_2 : List (List SV)) (r : Int) (w : World) (hr0_0 : Kd.C k46 w A0_0 l0_0.length l0_0) (hc0_0 : l0_0.length ≤ c0_0)
    (hr0_1 : Kd.C (Kd.slice 51 k51) w A0_1 l0_1.length l0_1) (hc0_1 : l0_1.length ≤ c0_1) (hr0_2 : Kd.C (Kd.slice 51 k51) w A0_2 l0_2.length l0_2) (hc0_2 : l0_2.length ≤ c0_2) (h : matrix_Check.f l0_0 l0_1 l0_2 = some r) :
    Calls Try.prog 13 #[.agg #[.slice A0_0 l0_0.length c0_0, .slice A0_1 l0_1.length c0_1, .slice A0_2 l0_2.length c0_2]] w fun e w' => e = .returned (.int .i64 r) ∧ Below w.heap.size w w' := by
  unfold matrix_Check.f at h
  split at h
  case isFalse => cases h
  case isTrue hs =>
    obtain rfl := Option.some.inj h
    simp only [smallB, Bool.and_eq_true, decide_eq_true_eq, List.all_eq_true] at hs
    obtain ⟨⟨⟨h0, h1⟩, h2⟩, h3⟩ := hs
    exact check_any A0_0 A0_1 A0_2 c0_0 c0_1 c0_2 l0_0 l0_1 l0_2 w hr0_0 hc0_0 hr0_1 hc0_1 hr0_2 hc0_2 h0 h1 h2 h3
end Go.Proofs.Ytdgllnaeookddaa.Q
