/- The document's bench: the walk of work. -/
import Derived.Test.YtfkibolpanlelaaFAVBenX
namespace Go.Proofs.Ytfkibolpanlelaa.Q
open Go Go.RowKit Go.Shelf Go.Proofs.YtfkibolpanlelaaW.PrintWords Go.Proofs.YtfkibolpanlelaaW.PrintLast Go.Proofs.YtfkibolpanlelaaW.PrintMore Go.Proofs.Ytfkibolpanlelaa.SMap
set_option linter.unusedVariables false
set_option linter.unusedSimpArgs false
theorem bench_results {tmps : Array Value} {r : Nat} (w : World) {a b c d : Value} (h4 : tmps[4]? = some (.pointer (some ⟨r, 0, none⟩))) (hc : w.heap[r]? = some (.cells #[a, b, c, d] 57 (0, 0))) :
    (results Try.f31 tmps).run Try.prog w = .ok (.agg #[a, b, c, d]) w := by
  have g4 : tmps[4]?.getD undef = .pointer (some ⟨r, 0, none⟩) := by rw [h4]; rfl
  have c0 : w.cell? ⟨r, 0, none⟩ = some a := blk_cell hc 0
  have c1 : w.cell? ⟨r, 1, none⟩ = some b := blk_cell hc 1
  have c2 : w.cell? ⟨r, 2, none⟩ = some c := blk_cell hc 2
  have c3 : w.cell? ⟨r, 3, none⟩ = some d := blk_cell hc 3
  simp [results, Try.results31, g4, asAddr, go_sem, c0, c1, c2, c3]
section
variable {W0 : World} {P g : Nat} {A : Option Addr} {c : Nat} {vs : List SV} (hc : Con W0 P g A c vs)
include hc
set_option maxHeartbeats 2000000 in
set_option maxRecDepth 100000 in
theorem work_done (dn : DN) (i : Nat) (hi : i < vs.length) (w : World) (hB : Ben W0 w P g A c vs (rowW vs dn)) {x : VD} (hg : getDn dn vs[i].f0 = some x) (hu : x.under = false) :
    Calls Try.prog 31 #[.pointer (some ⟨P, 0, none⟩), .int .i64 i] w (KPost W0 P g A c vs w (.ok (x, dn))) := by
  have hPw : P < w.heap.size := blk_lt hB.head
  have hgw : g < w.heap.size := blk_lt hB.row
  have hW0 : W0.heap.size ≤ w.heap.size := hB.below.size
  have hvl := hc.small
  have hcell : ∀ k v, k < 4 → (wkC 2 x.text x.depth 0)[k]? = some v → (rowW vs dn)[i * 4 + k]? = some v := fun k v hk h => by
    rw [rowW_at hi hk, hg, show wkD (some x) = wkC 2 x.text x.depth 0 from if_neg (by rw [hu]; decide), h]
  obtain ⟨tx, htx⟩ : ∃ tx, tx = x.text := ⟨_, rfl⟩
  obtain ⟨xd, hxd⟩ : ∃ xd, xd = x.depth := ⟨_, rfl⟩
  have q0 := hcell 0 _ (by decide) rfl
  have q1 := hcell 1 _ (by decide) rfl
  have q2 := hcell 2 _ (by decide) rfl
  have q3 := hcell 3 _ (by decide) rfl
  rw [← htx] at q1
  rw [← hxd] at q2
  have HC := Aside0.mk hc
  have HB := Aside0.mk hB
  have Q0 := Aside0.mk q0
  have Q1 := Aside0.mk q1
  have Q2 := Aside0.mk q2
  have Q3 := Aside0.mk q3
  have HT := Aside0.mk htx
  have HD := Aside0.mk hxd
  clear hcell hg hu hB hc q0 q1 q2 q3 htx hxd
  go_enter Try.func31, Try.ntmps31
  go_upto_region 1 with (fail)
  have hb := below_alloc (Below.refl w.heap.size w) (.cells #[.int .i64 0, .string ⟨#[]⟩, .int .i64 0, .int .i64 0] 57)
  obtain ⟨r, hr⟩ : ∃ r, r = w.heap.size := ⟨_, rfl⟩
  have HRES := Aside0.mk (at_new w (.cells #[.int .i64 0, .string ⟨#[]⟩, .int .i64 0, .int .i64 0] 57) hr)
  have HRN := Aside0.mk hr
  rw [← hr] at hPw hgw hW0 ⊢
  clear hr
  generalize w.alloc (.cells #[.int .i64 0, .string ⟨#[]⟩, .int .i64 0, .int .i64 0] 57) = w1 at hb HRES ⊢
  have HBEN := Aside0.mk (HB.out.step hb)
  have HST := Aside0.mk ((Stp.refl g w).below hb)
  have p1 := HBEN.out.h1
  have s0 : w1.cell? ⟨g, i * 4, none⟩ = some (.int .i64 2) := (HBEN.out.cell _).trans Q0.out
  have s1 : w1.cell? ⟨g, i * 4 + 1, none⟩ = some (.string tx) := (HBEN.out.cell _).trans Q1.out
  have s2 : w1.cell? ⟨g, i * 4 + 2, none⟩ = some (.int .i64 xd) := (HBEN.out.cell _).trans Q2.out
  have s3 : w1.cell? ⟨g, i * 4 + 3, none⟩ = some (.int .i64 0) := (HBEN.out.cell _).trans Q3.out
  have rc0 : w1.cell? ⟨r, 0, none⟩ = some (.int .i64 0) := blk_cell HRES.out 0; have rc1 : w1.cell? ⟨r, 1, none⟩ = some (.string ⟨#[]⟩) := blk_cell HRES.out 1; have rc2 : w1.cell? ⟨r, 2, none⟩ = some (.int .i64 0) := blk_cell HRES.out 2; have rc3 : w1.cell? ⟨r, 3, none⟩ = some (.int .i64 0) := blk_cell HRES.out 3; have rf0 := blk_frozen HRES.out 0; have rf1 := blk_frozen HRES.out 1; have rf2 := blk_frozen HRES.out 2; have rf3 := blk_frozen HRES.out 3
  clear hb
  go_wp2
  refine bodyPost_ret (bench_results _ rfl (put4 HRES.out _ _ _ _)) rfl ?_
  refine ⟨HST.out.put4 (by have := HRN.out; omega) _ _ _ _, ?_, HBEN.out.put4 hW0 (by omega) (by omega) _ _ _ _⟩
  show Ending.returned _ = Ending.returned (wkA 2 x.text x.depth 0)
  rw [← HT.out, ← HD.out]
  rfl
set_option maxHeartbeats 2000000 in
set_option maxRecDepth 100000 in
theorem work_walk (i : Nat) (hi : i < vs.length) (w : World) (cells0 : List Value) (hB : Ben W0 w P g A c vs cells0) (h0 : cells0[i * 4 + 0]? = some (.int .i64 0)) (t : ByteArray) (d co : Int) (Qc : List Value → Prop) (hco : ¬ co = 0 → t = ⟨#[]⟩)
    (hval : ∀ w3, Ben W0 w3 P g A c vs (cells0.set (i * 4) (.int .i64 1)) → Calls Try.prog 45 #[.pointer (some ⟨P, 0, none⟩), .string vs[i].f1] w3 fun e w' => e = .returned (.agg #[.int .i64 0, .string t, .int .i64 d, .int .i64 co]) ∧ Stp g w3 w' ∧ ∃ cells, Qc cells ∧ Ben W0 w' P g A c vs cells) :
    Calls Try.prog 31 #[.pointer (some ⟨P, 0, none⟩), .int .i64 i] w fun e w' => e = .returned (.agg #[.int .i64 2, .string t, .int .i64 d, .int .i64 co]) ∧ Stp g w w' ∧ ∃ cells, Qc cells ∧ Ben W0 w' P g A c vs ((((cells.set (i * 4) (.int .i64 2)).set (i * 4 + 1) (.string t)).set (i * 4 + 2) (.int .i64 d)).set (i * 4 + 3) (.int .i64 co)) := by
  have hPw : P < w.heap.size := blk_lt hB.head
  have hgw : g < w.heap.size := blk_lt hB.row
  have hW0 : W0.heap.size ≤ w.heap.size := hB.below.size
  have hvl := hc.small
  have hpg := hc.pg
  have HNE := Aside0.mk hc.ne
  have HC := Aside0.mk hc
  have HB := Aside0.mk hB
  have HVAL := Aside0.mk hval
  have H0 := Aside0.mk h0
  have HCO := Aside0.mk hco
  clear hB hc hval h0 hco
  go_enter Try.func31, Try.ntmps31
  go_upto_region 1 with (fail)
  have hb := below_alloc (Below.refl w.heap.size w) (.cells #[.int .i64 0, .string ⟨#[]⟩, .int .i64 0, .int .i64 0] 57)
  obtain ⟨r, hr⟩ : ∃ r, r = w.heap.size := ⟨_, rfl⟩
  have HRES1 := Aside0.mk (at_new w (.cells #[.int .i64 0, .string ⟨#[]⟩, .int .i64 0, .int .i64 0] 57) hr)
  have HRN := Aside0.mk hr
  rw [← hr] at hPw hgw hW0 ⊢
  clear hr
  generalize w.alloc (.cells #[.int .i64 0, .string ⟨#[]⟩, .int .i64 0, .int .i64 0] 57) = w1 at hb HRES1 ⊢
  have HBEN1 := Aside0.mk (HB.out.step hb)
  have HST1 := Aside0.mk ((Stp.refl g w).below hb)
  clear hb
  have p1 := HBEN1.out.h1
  have s0 : w1.cell? ⟨g, i * 4, none⟩ = some (.int .i64 0) := (HBEN1.out.cell _).trans H0.out
  have sf := blk_frozen HBEN1.out.row (i * 4)
  go_upto_region 4 with (fail)
  have HBEN2 := Aside0.mk (HBEN1.out.put hpg HNE.out (i * 4) (.int .i64 1))
  have HRES2 := Aside0.mk (show (w1.setCell ⟨g, i * 4, none⟩ (.int .i64 1)).heap[r]? = _ from blk_far HRES1.out (by show r ≠ g; omega) _)
  have HST2 := Aside0.mk (HST1.out.set (.inl rfl) (i * 4) (.int .i64 1))
  clear p1 s0 sf
  generalize w1.setCell ⟨g, i * 4, none⟩ (.int .i64 1) = w2 at HBEN2 HRES2 HST2 ⊢
  have p0 := HBEN2.out.h0
  obtain ⟨ad, ea, hx0, hx1⟩ := at_T41 (Kd.C_below HC.out.vars HBEN2.out.below) (i : Int) (by omega) (by omega)
  subst ea
  rw [rd_var _ _ hi] at hx0 hx1
  rw [Int.toNat_natCast] at hx0 hx1
  obtain ⟨tv, htv⟩ : ∃ tv, tv = vs[i].f1 := ⟨_, rfl⟩
  rw [← htv] at hx1 HVAL
  clear hx0 htv
  go_upto_region 5 with (go_at_call 45; go_loud (refine (HVAL.out _ HBEN2.out).mono ?_); rintro e w4 ⟨rfl, hs4, cells, hq4, hben4⟩; have HBEN4 := Aside0.mk hben4; have HQ := Aside0.mk hq4; have HRES4 := Aside0.mk (hs4.blk (by omega) HRES2.out); have HST4 := Aside0.mk (HST2.out.trans hs4); clear hben4 hq4 hs4 p0 hx1)
  have hb := below_alloc (Below.refl w4.heap.size w4) (.cells #[.int .i64 0, .string t, .int .i64 d, .int .i64 co] 57)
  obtain ⟨q, hq5⟩ : ∃ q, q = w4.heap.size := ⟨_, rfl⟩
  have hrq : r < q := by have := blk_lt HRES4.out; omega
  have HX5 := Aside0.mk (at_new w4 (.cells #[.int .i64 0, .string t, .int .i64 d, .int .i64 co] 57) hq5)
  rw [← hq5]
  clear hq5
  generalize w4.alloc (.cells #[.int .i64 0, .string t, .int .i64 d, .int .i64 co] 57) = w5 at hb HX5 ⊢
  have HBEN5 := Aside0.mk (HBEN4.out.step hb)
  have HRES5 := Aside0.mk ((hb.block r (blk_lt HRES4.out)).trans HRES4.out)
  have HST5 := Aside0.mk (HST4.out.below hb)
  clear hb
  have x0 : w5.cell? ⟨q, 0, none⟩ = some (.int .i64 0) := blk_cell HX5.out 0
  have x1 : w5.cell? ⟨q, 1, none⟩ = some (.string t) := blk_cell HX5.out 1
  have x2 : w5.cell? ⟨q, 2, none⟩ = some (.int .i64 d) := blk_cell HX5.out 2
  have x3 : w5.cell? ⟨q, 3, none⟩ = some (.int .i64 co) := blk_cell HX5.out 3
  have xf0 := blk_frozen HX5.out 0
  have xf1 := blk_frozen HX5.out 1
  by_cases hco0 : co = 0
  · go_upto_region 8 with (fail)
    have HX6 := Aside0.mk (show (w5.setCell ⟨q, 0, none⟩ (.int .i64 2)).heap[q]? = some (.cells #[.int .i64 2, .string t, .int .i64 d, .int .i64 co] 57 (0, 0)) from blk_set HX5.out 0 _)
    have HBEN6 := Aside0.mk (HBEN5.out.far (q := q) (by omega) (by omega) (by omega) 0 (.int .i64 2))
    have HRES6 := Aside0.mk (show (w5.setCell ⟨q, 0, none⟩ (.int .i64 2)).heap[r]? = _ from blk_far HRES5.out (by show r ≠ q; omega) _)
    have HST6 := Aside0.mk (HST5.out.set (q := q) (.inr (by have := HRN.out; omega)) 0 (.int .i64 2))
    clear x0 x1 x2 x3 xf0 xf1 hco0
    generalize w5.setCell ⟨q, 0, none⟩ (.int .i64 2) = w6 at HX6 HBEN6 HRES6 HST6 ⊢
    have p1 := HBEN6.out.h1
    have x0 : w6.cell? ⟨q, 0, none⟩ = some (.int .i64 2) := blk_cell HX6.out 0
    have x1 : w6.cell? ⟨q, 1, none⟩ = some (.string t) := blk_cell HX6.out 1
    have x2 : w6.cell? ⟨q, 2, none⟩ = some (.int .i64 d) := blk_cell HX6.out 2
    have x3 : w6.cell? ⟨q, 3, none⟩ = some (.int .i64 co) := blk_cell HX6.out 3
    have hlen := HBEN6.out.len
    obtain ⟨o0, ho0⟩ : ∃ y, cells[i * 4]? = some y := ⟨_, List.getElem?_eq_getElem (by omega)⟩
    obtain ⟨o1, ho1⟩ : ∃ y, cells[i * 4 + 1]? = some y := ⟨_, List.getElem?_eq_getElem (by omega)⟩
    obtain ⟨o2, ho2⟩ : ∃ y, cells[i * 4 + 2]? = some y := ⟨_, List.getElem?_eq_getElem (by omega)⟩
    obtain ⟨o3, ho3⟩ : ∃ y, cells[i * 4 + 3]? = some y := ⟨_, List.getElem?_eq_getElem (by omega)⟩
    have y0 : w6.cell? ⟨g, i * 4, none⟩ = some o0 := (HBEN6.out.cell _).trans ho0
    have y1 : w6.cell? ⟨g, i * 4 + 1, none⟩ = some o1 := (HBEN6.out.cell _).trans ho1
    have y2 : w6.cell? ⟨g, i * 4 + 2, none⟩ = some o2 := (HBEN6.out.cell _).trans ho2
    have y3 : w6.cell? ⟨g, i * 4 + 3, none⟩ = some o3 := (HBEN6.out.cell _).trans ho3
    have z0 := blk_frozen HBEN6.out.row (i * 4)
    have z1 := blk_frozen HBEN6.out.row (i * 4 + 1)
    have z2 := blk_frozen HBEN6.out.row (i * 4 + 2)
    have z3 := blk_frozen HBEN6.out.row (i * 4 + 3)
    clear ho0 ho1 ho2 ho3 hlen
    refine start_ (n := 8) (S := fun w' => w'.cell? ⟨P, 1, none⟩ = some (.slice (some ⟨g, 0, none⟩) vs.length vs.length) ∧ w'.cell? ⟨q, 0, none⟩ = some (.int .i64 2) ∧ w'.cell? ⟨q, 1, none⟩ = some (.string t) ∧ w'.cell? ⟨q, 2, none⟩ = some (.int .i64 d) ∧ w'.cell? ⟨q, 3, none⟩ = some (.int .i64 co) ∧ w'.cell? ⟨g, i * 4, none⟩ = some o0 ∧ w'.cell? ⟨g, i * 4 + 1, none⟩ = some o1 ∧ w'.cell? ⟨g, i * 4 + 2, none⟩ = some o2 ∧ w'.cell? ⟨g, i * 4 + 3, none⟩ = some o3 ∧ w'.frozen? ⟨g, i * 4, none⟩ = false ∧ w'.frozen? ⟨g, i * 4 + 1, none⟩ = false ∧ w'.frozen? ⟨g, i * 4 + 2, none⟩ = false ∧ w'.frozen? ⟨g, i * 4 + 3, none⟩ = false) (ds := [7]) #[false, false, false, false, false, false, false, false] (by kernel_rfl) rfl rfl ⟨p1, x0, x1, x2, x3, y0, y1, y2, y3, z0, z1, z2, z3⟩ (fun hHeld => ?_)
    refine pure_ (i := 0) (N := some 44) (v := ?_) (a' := ?_) #[true, false, false, false, false, false, false, false] rfl rfl (by kernel_rfl) (fun _ _ _ h => h) (Or.inl ⟨by rfl, ?_⟩) ?_ ?_
    rotate_left
    · intro w'
      go_simp
      with_reducible rfl
    rotate_left
    · simp only [Act.put, List.setIfInBounds_toArray, List.set_cons_zero, List.set_cons_succ, i64_w, i32_w]
      rfl
    refine pure_ (i := 1) (N := some 45) (v := ?_) (a' := ?_) #[true, true, false, false, false, false, false, false] rfl rfl (by kernel_rfl) (fun _ _ _ h => h) (Or.inl ⟨by rfl, ?_⟩) ?_ ?_
    rotate_left
    · intro w'
      go_simp
      with_reducible rfl
    rotate_left
    · simp only [Act.put, List.setIfInBounds_toArray, List.set_cons_zero, List.set_cons_succ, i64_w, i32_w]
      rfl
    refine pure_ (i := 2) (N := some 46) (v := ?_) (a' := ?_) #[true, true, true, false, false, false, false, false] rfl rfl (by kernel_rfl) (fun _ _ _ h => h) (Or.inl ⟨by rfl, ?_⟩) ?_ ?_
    rotate_left
    · intro w'
      go_simp
      with_reducible rfl
    rotate_left
    · simp only [Act.put, List.setIfInBounds_toArray, List.set_cons_zero, List.set_cons_succ, i64_w, i32_w]
      rfl
    refine pure_ (i := 4) (N := some 48) (v := ?_) (a' := ?_) #[true, true, true, false, true, false, false, false] rfl rfl (by kernel_rfl) (fun _ _ _ h => h) (Or.inl ⟨by rfl, ?_⟩) ?_ ?_
    rotate_left
    · intro w'
      go_simp
      with_reducible rfl
    rotate_left
    · simp only [Act.put, List.setIfInBounds_toArray, List.set_cons_zero, List.set_cons_succ, i64_w, i32_w]
      rfl
    refine take_ (i := 3) (N := some 47) (v := ?_) (a' := ?_) #[true, true, true, true, true, false, false, false] rfl rfl (by kernel_rfl) (fun _ _ _ h => h) (Or.inl ⟨by rfl, ?_⟩) hHeld ?_ ?_
    rotate_left
    · rintro w' ⟨s0, s1, s2, s3, s4, s5, s6, s7, s8, s9, s10, s11, s12⟩
      go_simp
      with_reducible rfl
    rotate_left
    · simp only [Act.put, List.setIfInBounds_toArray, List.set_cons_zero, List.set_cons_succ, i64_w, i32_w]
      rfl
    refine take_ (i := 5) (N := some 49) (v := ?_) (a' := ?_) #[true, true, true, true, true, true, false, false] rfl rfl (by kernel_rfl) (fun _ _ _ h => h) (Or.inl ⟨by rfl, ?_⟩) hHeld ?_ ?_
    rotate_left
    · rintro w' ⟨s0, s1, s2, s3, s4, s5, s6, s7, s8, s9, s10, s11, s12⟩
      go_simp
      with_reducible rfl
    rotate_left
    · simp only [Act.put, List.setIfInBounds_toArray, List.set_cons_zero, List.set_cons_succ, i64_w, i32_w]
      rfl
    refine pure_ (i := 6) (N := some 50) (v := ?_) (a' := ?_) #[true, true, true, true, true, true, true, false] rfl rfl (by kernel_rfl) (fun _ _ _ h => h) (Or.inl ⟨by rfl, ?_⟩) ?_ ?_
    rotate_left
    · intro w'
      go_simp
      with_reducible rfl
    rotate_left
    · simp only [Act.put, List.setIfInBounds_toArray, List.set_cons_zero, List.set_cons_succ, i64_w, i32_w]
      rfl
    refine last_ (i := 7) (N := none) #[true, true, true, true, true, true, true, true] rfl rfl (by kernel_rfl) (by decide) (fun K hK => ?_)
    refine skip_ (w1 := ?_) (by rfl) rfl ?_ ?_
    rotate_left
    · go_simp
      rfl
    refine hK.out _ _ ?_
    clear hK K
    refine done_ (by kernel_rfl) ?_
    have HBEN7 := Aside0.mk ((((HBEN6.out.put hpg HNE.out (i * 4) (.int .i64 2)).put hpg HNE.out (i * 4 + 1) (.string t)).put hpg HNE.out (i * 4 + 2) (.int .i64 d)).put hpg HNE.out (i * 4 + 3) (.int .i64 co))
    have HBEN8 := Aside0.mk (HBEN7.out.step (below_drew (Below.refl _ _)))
    have HST7 := Aside0.mk ((((HST6.out.set (.inl rfl) (i * 4) (.int .i64 2)).set (.inl rfl) (i * 4 + 1) (.string t)).set (.inl rfl) (i * 4 + 2) (.int .i64 d)).set (.inl rfl) (i * 4 + 3) (.int .i64 co))
    have HST8 := Aside0.mk (HST7.out.below (below_drew (Below.refl _ _)))
    have HRES8 := Aside0.mk (show (((((w6.setCell ⟨g, i * 4, none⟩ (.int .i64 2)).setCell ⟨g, i * 4 + 1, none⟩ (.string t)).setCell ⟨g, i * 4 + 2, none⟩ (.int .i64 d)).setCell ⟨g, i * 4 + 3, none⟩ (.int .i64 co)).drew).heap[r]? = _ from blk_drew (blk_far (blk_far (blk_far (blk_far HRES6.out (by show r ≠ g; omega) _) (by show r ≠ g; omega) _) (by show r ≠ g; omega) _) (by show r ≠ g; omega) _))
    have HX8 := Aside0.mk (show (((((w6.setCell ⟨g, i * 4, none⟩ (.int .i64 2)).setCell ⟨g, i * 4 + 1, none⟩ (.string t)).setCell ⟨g, i * 4 + 2, none⟩ (.int .i64 d)).setCell ⟨g, i * 4 + 3, none⟩ (.int .i64 co)).drew).heap[q]? = _ from blk_drew (blk_far (blk_far (blk_far (blk_far HX6.out (by show q ≠ g; omega) _) (by show q ≠ g; omega) _) (by show q ≠ g; omega) _) (by show q ≠ g; omega) _))
    clear p1 x0 x1 x2 x3 y0 y1 y2 y3 z0 z1 z2 z3 HBEN7 HST7
    (try clear hHeld)
    (try clear hK K)
    generalize ((((w6.setCell ⟨g, i * 4, none⟩ (.int .i64 2)).setCell ⟨g, i * 4 + 1, none⟩ (.string t)).setCell ⟨g, i * 4 + 2, none⟩ (.int .i64 d)).setCell ⟨g, i * 4 + 3, none⟩ (.int .i64 co)).drew = w8 at HBEN8 HST8 HRES8 HX8 ⊢
    have x0 : w8.cell? ⟨q, 0, none⟩ = some (.int .i64 2) := blk_cell HX8.out 0
    have x1 : w8.cell? ⟨q, 1, none⟩ = some (.string t) := blk_cell HX8.out 1
    have x2 : w8.cell? ⟨q, 2, none⟩ = some (.int .i64 d) := blk_cell HX8.out 2
    have x3 : w8.cell? ⟨q, 3, none⟩ = some (.int .i64 co) := blk_cell HX8.out 3
    have rc0 : w8.cell? ⟨r, 0, none⟩ = some (.int .i64 0) := blk_cell HRES8.out 0; have rc1 : w8.cell? ⟨r, 1, none⟩ = some (.string ⟨#[]⟩) := blk_cell HRES8.out 1; have rc2 : w8.cell? ⟨r, 2, none⟩ = some (.int .i64 0) := blk_cell HRES8.out 2; have rc3 : w8.cell? ⟨r, 3, none⟩ = some (.int .i64 0) := blk_cell HRES8.out 3; have rf0 := blk_frozen HRES8.out 0; have rf1 := blk_frozen HRES8.out 1; have rf2 := blk_frozen HRES8.out 2; have rf3 := blk_frozen HRES8.out 3
    go_wp2
    refine bodyPost_ret (bench_results _ rfl (put4 HRES8.out _ _ _ _)) rfl ?_
    exact ⟨rfl, HST8.out.put4 (by have := HRN.out; omega) _ _ _ _, cells, HQ.out, HBEN8.out.put4 hW0 (by omega) (by omega) _ _ _ _⟩
  · have hte := HCO.out hco0
    go_upto_region 8 with (fail)
    have HX6 := Aside0.mk (show ((w5.setCell ⟨q, 0, none⟩ (.int .i64 2)).setCell ⟨q, 1, none⟩ (.string ⟨#[]⟩)).heap[q]? = some (.cells #[.int .i64 2, .string t, .int .i64 d, .int .i64 co] 57 (0, 0)) from (by have h5 := HX5.out; rw [hte] at h5 ⊢; exact blk_set (blk_set h5 0 _) 1 _))
    have HBEN6 := Aside0.mk ((HBEN5.out.far (q := q) (by omega) (by omega) (by omega) 0 (.int .i64 2)).far (q := q) (by omega) (by omega) (by omega) 1 (.string ⟨#[]⟩))
    have HRES6 := Aside0.mk (show ((w5.setCell ⟨q, 0, none⟩ (.int .i64 2)).setCell ⟨q, 1, none⟩ (.string ⟨#[]⟩)).heap[r]? = _ from blk_far (blk_far HRES5.out (by show r ≠ q; omega) _) (by show r ≠ q; omega) _)
    have HST6 := Aside0.mk ((HST5.out.set (q := q) (.inr (by have := HRN.out; omega)) 0 (.int .i64 2)).set (q := q) (.inr (by have := HRN.out; omega)) 1 (.string ⟨#[]⟩))
    clear x0 x1 x2 x3 xf0 xf1 hco0
    generalize (w5.setCell ⟨q, 0, none⟩ (.int .i64 2)).setCell ⟨q, 1, none⟩ (.string ⟨#[]⟩) = w6 at HX6 HBEN6 HRES6 HST6 ⊢
    clear hte
    have p1 := HBEN6.out.h1
    have x0 : w6.cell? ⟨q, 0, none⟩ = some (.int .i64 2) := blk_cell HX6.out 0
    have x1 : w6.cell? ⟨q, 1, none⟩ = some (.string t) := blk_cell HX6.out 1
    have x2 : w6.cell? ⟨q, 2, none⟩ = some (.int .i64 d) := blk_cell HX6.out 2
    have x3 : w6.cell? ⟨q, 3, none⟩ = some (.int .i64 co) := blk_cell HX6.out 3
    have hlen := HBEN6.out.len
    obtain ⟨o0, ho0⟩ : ∃ y, cells[i * 4]? = some y := ⟨_, List.getElem?_eq_getElem (by omega)⟩
    obtain ⟨o1, ho1⟩ : ∃ y, cells[i * 4 + 1]? = some y := ⟨_, List.getElem?_eq_getElem (by omega)⟩
    obtain ⟨o2, ho2⟩ : ∃ y, cells[i * 4 + 2]? = some y := ⟨_, List.getElem?_eq_getElem (by omega)⟩
    obtain ⟨o3, ho3⟩ : ∃ y, cells[i * 4 + 3]? = some y := ⟨_, List.getElem?_eq_getElem (by omega)⟩
    have y0 : w6.cell? ⟨g, i * 4, none⟩ = some o0 := (HBEN6.out.cell _).trans ho0
    have y1 : w6.cell? ⟨g, i * 4 + 1, none⟩ = some o1 := (HBEN6.out.cell _).trans ho1
    have y2 : w6.cell? ⟨g, i * 4 + 2, none⟩ = some o2 := (HBEN6.out.cell _).trans ho2
    have y3 : w6.cell? ⟨g, i * 4 + 3, none⟩ = some o3 := (HBEN6.out.cell _).trans ho3
    have z0 := blk_frozen HBEN6.out.row (i * 4)
    have z1 := blk_frozen HBEN6.out.row (i * 4 + 1)
    have z2 := blk_frozen HBEN6.out.row (i * 4 + 2)
    have z3 := blk_frozen HBEN6.out.row (i * 4 + 3)
    clear ho0 ho1 ho2 ho3 hlen
    refine start_ (n := 8) (S := fun w' => w'.cell? ⟨P, 1, none⟩ = some (.slice (some ⟨g, 0, none⟩) vs.length vs.length) ∧ w'.cell? ⟨q, 0, none⟩ = some (.int .i64 2) ∧ w'.cell? ⟨q, 1, none⟩ = some (.string t) ∧ w'.cell? ⟨q, 2, none⟩ = some (.int .i64 d) ∧ w'.cell? ⟨q, 3, none⟩ = some (.int .i64 co) ∧ w'.cell? ⟨g, i * 4, none⟩ = some o0 ∧ w'.cell? ⟨g, i * 4 + 1, none⟩ = some o1 ∧ w'.cell? ⟨g, i * 4 + 2, none⟩ = some o2 ∧ w'.cell? ⟨g, i * 4 + 3, none⟩ = some o3 ∧ w'.frozen? ⟨g, i * 4, none⟩ = false ∧ w'.frozen? ⟨g, i * 4 + 1, none⟩ = false ∧ w'.frozen? ⟨g, i * 4 + 2, none⟩ = false ∧ w'.frozen? ⟨g, i * 4 + 3, none⟩ = false) (ds := [7]) #[false, false, false, false, false, false, false, false] (by kernel_rfl) rfl rfl ⟨p1, x0, x1, x2, x3, y0, y1, y2, y3, z0, z1, z2, z3⟩ (fun hHeld => ?_)
    refine pure_ (i := 0) (N := some 44) (v := ?_) (a' := ?_) #[true, false, false, false, false, false, false, false] rfl rfl (by kernel_rfl) (fun _ _ _ h => h) (Or.inl ⟨by rfl, ?_⟩) ?_ ?_
    rotate_left
    · intro w'
      go_simp
      with_reducible rfl
    rotate_left
    · simp only [Act.put, List.setIfInBounds_toArray, List.set_cons_zero, List.set_cons_succ, i64_w, i32_w]
      rfl
    refine pure_ (i := 1) (N := some 45) (v := ?_) (a' := ?_) #[true, true, false, false, false, false, false, false] rfl rfl (by kernel_rfl) (fun _ _ _ h => h) (Or.inl ⟨by rfl, ?_⟩) ?_ ?_
    rotate_left
    · intro w'
      go_simp
      with_reducible rfl
    rotate_left
    · simp only [Act.put, List.setIfInBounds_toArray, List.set_cons_zero, List.set_cons_succ, i64_w, i32_w]
      rfl
    refine pure_ (i := 2) (N := some 46) (v := ?_) (a' := ?_) #[true, true, true, false, false, false, false, false] rfl rfl (by kernel_rfl) (fun _ _ _ h => h) (Or.inl ⟨by rfl, ?_⟩) ?_ ?_
    rotate_left
    · intro w'
      go_simp
      with_reducible rfl
    rotate_left
    · simp only [Act.put, List.setIfInBounds_toArray, List.set_cons_zero, List.set_cons_succ, i64_w, i32_w]
      rfl
    refine pure_ (i := 4) (N := some 48) (v := ?_) (a' := ?_) #[true, true, true, false, true, false, false, false] rfl rfl (by kernel_rfl) (fun _ _ _ h => h) (Or.inl ⟨by rfl, ?_⟩) ?_ ?_
    rotate_left
    · intro w'
      go_simp
      with_reducible rfl
    rotate_left
    · simp only [Act.put, List.setIfInBounds_toArray, List.set_cons_zero, List.set_cons_succ, i64_w, i32_w]
      rfl
    refine take_ (i := 3) (N := some 47) (v := ?_) (a' := ?_) #[true, true, true, true, true, false, false, false] rfl rfl (by kernel_rfl) (fun _ _ _ h => h) (Or.inl ⟨by rfl, ?_⟩) hHeld ?_ ?_
    rotate_left
    · rintro w' ⟨s0, s1, s2, s3, s4, s5, s6, s7, s8, s9, s10, s11, s12⟩
      go_simp
      with_reducible rfl
    rotate_left
    · simp only [Act.put, List.setIfInBounds_toArray, List.set_cons_zero, List.set_cons_succ, i64_w, i32_w]
      rfl
    refine take_ (i := 5) (N := some 49) (v := ?_) (a' := ?_) #[true, true, true, true, true, true, false, false] rfl rfl (by kernel_rfl) (fun _ _ _ h => h) (Or.inl ⟨by rfl, ?_⟩) hHeld ?_ ?_
    rotate_left
    · rintro w' ⟨s0, s1, s2, s3, s4, s5, s6, s7, s8, s9, s10, s11, s12⟩
      go_simp
      with_reducible rfl
    rotate_left
    · simp only [Act.put, List.setIfInBounds_toArray, List.set_cons_zero, List.set_cons_succ, i64_w, i32_w]
      rfl
    refine pure_ (i := 6) (N := some 50) (v := ?_) (a' := ?_) #[true, true, true, true, true, true, true, false] rfl rfl (by kernel_rfl) (fun _ _ _ h => h) (Or.inl ⟨by rfl, ?_⟩) ?_ ?_
    rotate_left
    · intro w'
      go_simp
      with_reducible rfl
    rotate_left
    · simp only [Act.put, List.setIfInBounds_toArray, List.set_cons_zero, List.set_cons_succ, i64_w, i32_w]
      rfl
    refine last_ (i := 7) (N := none) #[true, true, true, true, true, true, true, true] rfl rfl (by kernel_rfl) (by decide) (fun K hK => ?_)
    refine skip_ (w1 := ?_) (by rfl) rfl ?_ ?_
    rotate_left
    · go_simp
      rfl
    refine hK.out _ _ ?_
    clear hK K
    refine done_ (by kernel_rfl) ?_
    have HBEN7 := Aside0.mk ((((HBEN6.out.put hpg HNE.out (i * 4) (.int .i64 2)).put hpg HNE.out (i * 4 + 1) (.string t)).put hpg HNE.out (i * 4 + 2) (.int .i64 d)).put hpg HNE.out (i * 4 + 3) (.int .i64 co))
    have HBEN8 := Aside0.mk (HBEN7.out.step (below_drew (Below.refl _ _)))
    have HST7 := Aside0.mk ((((HST6.out.set (.inl rfl) (i * 4) (.int .i64 2)).set (.inl rfl) (i * 4 + 1) (.string t)).set (.inl rfl) (i * 4 + 2) (.int .i64 d)).set (.inl rfl) (i * 4 + 3) (.int .i64 co))
    have HST8 := Aside0.mk (HST7.out.below (below_drew (Below.refl _ _)))
    have HRES8 := Aside0.mk (show (((((w6.setCell ⟨g, i * 4, none⟩ (.int .i64 2)).setCell ⟨g, i * 4 + 1, none⟩ (.string t)).setCell ⟨g, i * 4 + 2, none⟩ (.int .i64 d)).setCell ⟨g, i * 4 + 3, none⟩ (.int .i64 co)).drew).heap[r]? = _ from blk_drew (blk_far (blk_far (blk_far (blk_far HRES6.out (by show r ≠ g; omega) _) (by show r ≠ g; omega) _) (by show r ≠ g; omega) _) (by show r ≠ g; omega) _))
    have HX8 := Aside0.mk (show (((((w6.setCell ⟨g, i * 4, none⟩ (.int .i64 2)).setCell ⟨g, i * 4 + 1, none⟩ (.string t)).setCell ⟨g, i * 4 + 2, none⟩ (.int .i64 d)).setCell ⟨g, i * 4 + 3, none⟩ (.int .i64 co)).drew).heap[q]? = _ from blk_drew (blk_far (blk_far (blk_far (blk_far HX6.out (by show q ≠ g; omega) _) (by show q ≠ g; omega) _) (by show q ≠ g; omega) _) (by show q ≠ g; omega) _))
    clear p1 x0 x1 x2 x3 y0 y1 y2 y3 z0 z1 z2 z3 HBEN7 HST7
    (try clear hHeld)
    (try clear hK K)
    generalize ((((w6.setCell ⟨g, i * 4, none⟩ (.int .i64 2)).setCell ⟨g, i * 4 + 1, none⟩ (.string t)).setCell ⟨g, i * 4 + 2, none⟩ (.int .i64 d)).setCell ⟨g, i * 4 + 3, none⟩ (.int .i64 co)).drew = w8 at HBEN8 HST8 HRES8 HX8 ⊢
    have x0 : w8.cell? ⟨q, 0, none⟩ = some (.int .i64 2) := blk_cell HX8.out 0
    have x1 : w8.cell? ⟨q, 1, none⟩ = some (.string t) := blk_cell HX8.out 1
    have x2 : w8.cell? ⟨q, 2, none⟩ = some (.int .i64 d) := blk_cell HX8.out 2
    have x3 : w8.cell? ⟨q, 3, none⟩ = some (.int .i64 co) := blk_cell HX8.out 3
    have rc0 : w8.cell? ⟨r, 0, none⟩ = some (.int .i64 0) := blk_cell HRES8.out 0; have rc1 : w8.cell? ⟨r, 1, none⟩ = some (.string ⟨#[]⟩) := blk_cell HRES8.out 1; have rc2 : w8.cell? ⟨r, 2, none⟩ = some (.int .i64 0) := blk_cell HRES8.out 2; have rc3 : w8.cell? ⟨r, 3, none⟩ = some (.int .i64 0) := blk_cell HRES8.out 3; have rf0 := blk_frozen HRES8.out 0; have rf1 := blk_frozen HRES8.out 1; have rf2 := blk_frozen HRES8.out 2; have rf3 := blk_frozen HRES8.out 3
    go_wp2
    refine bodyPost_ret (bench_results _ rfl (put4 HRES8.out _ _ _ _)) rfl ?_
    exact ⟨rfl, HST8.out.put4 (by have := HRN.out; omega) _ _ _ _, cells, HQ.out, HBEN8.out.put4 hW0 (by omega) (by omega) _ _ _ _⟩
theorem bench_done (f : Nat) (dn : DN) (i : Nat) (hi : i < vs.length) (w : World) (hB : Ben W0 w P g A c vs (rowW vs dn)) (hnu : ∀ x, getDn dn vs[i].f0 = some x → x.under = false) {x : VD} (hg : getDn dn vs[i].f0 = some x) :
    Calls Try.prog 31 #[.pointer (some ⟨P, 0, none⟩), .int .i64 i] w (KPost W0 P g A c vs w (knownP vs f dn vs[i].f0)) := by
  have := work_done hc dn i hi w hB hg (hnu x hg)
  unfold knownP
  rw [hg]
  exact this
theorem bench_any (f : Nat) : WorkC W0 P g A c vs f := by
  induction f with
  | zero =>
    intro dn i hi w hB hok ht hnu
    cases hg : getDn dn vs[i].f0 with
    | some x => exact bench_done hc 0 dn i hi w hB hnu hg
    | none =>
      have hv : findV vs vs[i].f0 = some vs[i] := (find_iff hc.names _ _).2 ⟨List.getElem_mem hi, rfl⟩
      obtain ⟨m, hm⟩ := todo_pos hv hg
      omega
  | succ f ih =>
    intro dn i hi w hB hok ht hnu
    cases hg : getDn dn vs[i].f0 with
    | some x => exact bench_done hc (f + 1) dn i hi w hB hnu hg
    | none =>
      have hk : knownP vs (f + 1) dn vs[i].f0 = workP vs (f + 1) dn vs[i].f0 := by unfold knownP; rw [hg]
      rw [hk]
      have hv : findV vs vs[i].f0 = some vs[i] := (find_iff hc.names _ _).2 ⟨List.getElem_mem hi, rfl⟩
      have ht1 : todo vs (setDn dn vs[i].f0 zU) ≤ f := by
        have := todo_set (raw := vs) (a := dn) (List.getElem_mem hi) hg zU
        omega
      have hval : ∀ w3, Ben W0 w3 P g A c vs ((rowW vs dn).set (i * 4) (.int .i64 1)) → Calls Try.prog 45 #[.pointer (some ⟨P, 0, none⟩), .string vs[i].f1] w3 (VPost W0 P g A c vs w3 (piecesOf wkF (wkG (workP vs f) vs) vs[i].f1 ([], 0, setDn dn vs[i].f0 zU))) := fun w3 h3 => by
        rw [rowW_under hc.names hi hg] at h3
        exact value_any hc f ih vs[i].f1 (hc.texts _ (List.getElem_mem hi)) _ w3 h3 (hok.set _ ⟨Nat.zero_le _, Int.le_refl _, by show (0 : Int) ≤ 16; omega⟩) ht1
      have h0 : (rowW vs dn)[i * 4 + 0]? = some (.int .i64 0) := by rw [rowW_at hi (by decide), hg]; rfl
      cases hp : piecesOf wkF (wkG (workP vs f) vs) vs[i].f1 ([], 0, setDn dn vs[i].f0 zU) with
      | error y =>
        rw [hp] at hval
        rw [work_bad hv hp]
        refine (work_walk hc i hi w _ hB h0 ⟨#[]⟩ 0 y.1 (fun _ => True) (fun _ => rfl) (fun w3 h3 => (hval w3 h3).mono fun e w' h => ?_)).mono fun e w' h => ?_
        · obtain ⟨h1, h2, cells, h3⟩ := h
          exact ⟨h2, h1, cells, trivial, h3⟩
        · obtain ⟨h1, h2, cells, _, h3⟩ := h
          exact ⟨h2, h1, _, h3⟩
      | ok st =>
        rw [hp] at hval
        rw [work_ok hv hp]
        refine (work_walk hc i hi w _ hB h0 (strOfNums st.1) st.2.1 0 (fun cells => cells = rowW vs st.2.2) (fun h => absurd rfl h) (fun w3 h3 => (hval w3 h3).mono fun e w' h => ?_)).mono fun e w' h => ?_
        · obtain ⟨h1, h2, h3⟩ := h
          exact ⟨h2, h1, _, rfl, h3⟩
        · obtain ⟨h1, h2, cells, rfl, h3⟩ := h
          refine ⟨h2, h1, ?_⟩
          rw [rowW_put hc.names st.2.2 hi ⟨strOfNums st.1, st.2.1, false⟩ _ _ _ _ rfl] at h3
          exact h3
end
end Go.Proofs.Ytfkibolpanlelaa.Q
