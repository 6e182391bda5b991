/- What stands behind a node's key or sign: says. -/
import Derived.Test.YtofajjodonhdkaaEAKSays
import Derived.Outline
namespace Go.Proofs.Ytofajjodonhdkaa.Q
open Go Go.RowKit Go.Shelf Go.Proofs.YtofajjodonhdkaaW.PrintWords Go.Proofs.YtofajjodonhdkaaW.PrintLast Go.Proofs.YtofajjodonhdkaaW.PrintMore Go.Proofs.Ytofajjodonhdkaa.IMap
set_option linter.unusedVariables false
set_option linter.unusedSimpArgs false
set_option linter.unusedSectionVars false
def saysU (t : List SN) (i : Nat) : List UInt8 :=
  if (nd t i).f0 = 3 then 32 :: valueU (nd t i).f3 else if endOf t i > i + 1 then [] else if (nd t i).f0 = 2 then [32, 91, 93] else [32, 123, 125]
section
variable {P : Program} {ops : Array Oper} {Q : Exit → Act → World → Prop}
/-- A call of a function value without arguments, in a region that draws its order. -/
theorem goesV_ {oi : Oper} {N : Option Tmp} {a : Act} {w : World} {K : Act → World → Prop} {f : FuncId} {fn : Func} {ts : Array TypeId} (hf : P.funcs[f]? = some fn) (hname : (fn.name == "runtime.NumGoroutine") = false) (hb : fn.body.isSome = true) (o : Operand) (cap : Array Value)
    (hw : Region.wanted oi (yielded ops a.tmps) = true) (hN : oi.dst = N) (hop : oi.op = .call { callee := .value o, args := #[], argTypes := ts }) (ho : a.eval o = .func (.func f) #[] cap)
    (h : Calls P f cap w fun e w' => ∃ v, e = .returned v ∧ K (a.put N v) w') : if Region.wanted oi (yielded ops a.tmps) = true then Oper.wp P oi a w K Q else K (a.put N undef) w := by
  refine call_ f cap hw hN ?_ h
  have he := enters_ hf hname hb cap w
  unfold execOp
  simp [hop, resolve, ho, Deferred.ofValue, invoke, he]
end
theorem made_at (w : World) {n : Nat} (h : n = w.heap.size) : IM (w.alloc (.map #[] 0)) n [] := by subst h; exact IM.made w
set_option maxRecDepth 100000 in
set_option maxHeartbeats 1000000 in
theorem says_any (b : Nat) (A : Option Addr) (c : Nat) (t : List SN) (i : Nat) (W : World) (hb : W.cell? ⟨b, 0, none⟩ = some (.slice A t.length c)) (hC : Kd.C k31 W A t.length t) (hi : i < t.length) (hn : t.length ≤ 1048576) (hc : t.length ≤ c)
    (hk : (nd t i).f0 = 1 ∨ (nd t i).f0 = 2 ∨ (nd t i).f0 = 3) (hx : (nd t i).f3.size ≤ 1073741824) (hgm : GM W) :
    Calls Try.prog 34 #[.pointer (some ⟨b, 0, none⟩), .int .i64 (i : Int)] W fun e W' => e = .returned (.string (mkB (saysU t i))) ∧ Below W.heap.size W W' := by
  have hmf : ∀ (fn : Fn) (first cap : Array Value) (w : World), (Instr.makeFunc fn first cap).run Try.prog w = .ok (.func fn first cap) w := fun _ _ _ _ => rfl
  have hmm := @run_makeMap Try.prog
  have HB := Aside0.mk hb
  have HC := Aside0.mk hC
  have HGM := Aside0.mk hgm
  have HK := Aside0.mk hk
  clear hb hC hgm hk
  go_enter Try.func34, Try.ntmps34
  go_wp2_with (first
    | (go_at_call 44; refine (says1_any b _ _ _ _).mono ?_; rintro e w' ⟨rfl, rfl⟩)
    | (refine wpList_insert_im _ rfl _ _ _ 72 rfl 3 45 Try.underlying72 Try.underlying3 _ _ rfl (IM.alloc hm2 _) 1 rfl (.func (.func 45) #[] #[.pointer (some ⟨W.heap.size, 0, none⟩), .pointer (some ⟨W.heap.size + 1, 0, none⟩), .pointer (some ⟨W2.heap.size, 0, none⟩)]) rfl ?_; intro W3 hm3 hg3)
    | (refine wpList_insert_im _ rfl _ _ _ 72 rfl 3 45 Try.underlying72 Try.underlying3 _ _ rfl (IM.alloc hm1 _) 2 rfl (.func (.func 45) #[] #[.pointer (some ⟨W.heap.size, 0, none⟩), .pointer (some ⟨W.heap.size + 1, 0, none⟩), .pointer (some ⟨W1.heap.size, 0, none⟩)]) rfl ?_; intro W2 hm2 hg2)
    | (refine wpList_insert_im _ rfl _ _ _ 72 rfl 3 45 Try.underlying72 Try.underlying3 _ _ rfl (made_at _ (by simp)) 3 rfl (.func (.func 47) #[] #[.pointer (some ⟨W.heap.size, 0, none⟩), .pointer (some ⟨W.heap.size + 1, 0, none⟩)]) rfl ?_; intro W1 hm1 hg1))
  have h1 : (((W.alloc (.cells #[.pointer (some ⟨b, 0, none⟩)] 37)).alloc (.cells #[.int .i64 (i : Int)] 3)).alloc (.map #[] 0)).heap.size = W.heap.size + 3 := by simp
  have hz1 := hg1.size
  have hz2 := hg2.size
  have hz3 := hg3.size
  rw [h1] at hz1
  rw [World.size_alloc] at hz2 hz3
  have hbel : Below W.heap.size W W3 := by
    have b1 : Below W.heap.size W W1 := (below_alloc (below_alloc (below_alloc (Below.refl _ W) _) _) _).trans ⟨hg1.os, hg1.tape, hg1.output, hg1.size, fun k hk => hg1.block k (by rw [h1]; omega) (fun e => by have := Option.some.inj e; omega)⟩
    have b2 : Below W.heap.size W W2 := (b1.alloc (by omega) _).trans ⟨hg2.os, hg2.tape, hg2.output, hg2.size, fun k hk => hg2.block k (by rw [World.size_alloc]; omega) (fun e => by have := Option.some.inj e; omega)⟩
    exact (b2.alloc (by omega) _).trans ⟨hg3.os, hg3.tape, hg3.output, hg3.size, fun k hk => hg3.block k (by rw [World.size_alloc]; omega) (fun e => by have := Option.some.inj e; omega)⟩
  have step : ∀ k o, k < W1.heap.size → k ≠ W.heap.size + 1 + 1 → W1.heap[k]? = some o → W3.heap[k]? = some o := fun k o hk hne h => by
    rw [hg3.block k (by rw [World.size_alloc]; omega) (by simpa using hne), Below.heap_alloc _ _ _ (by omega), hg2.block k (by rw [World.size_alloc]; omega) (by simpa using hne), Below.heap_alloc _ _ _ (by omega)]
    exact h
  have kw : W3.heap[W.heap.size]? = some (.cells #[.pointer (some ⟨b, 0, none⟩)] 37 (0, 0)) := step _ _ (by omega) (by omega) (by
    rw [hg1.block _ (by rw [h1]; omega) (fun e => by have := Option.some.inj e; omega)]
    exact blk_alloc (blk_alloc (blk_new W _) _) _)
  have ka : W3.heap[W.heap.size + 1]? = some (.cells #[.int .i64 (i : Int)] 3 (0, 0)) := step _ _ (by omega) (by omega) (by
    rw [hg1.block _ (by rw [h1]; omega) (fun e => by have := Option.some.inj e; omega)]
    have := blk_new (W.alloc (.cells #[.pointer (some ⟨b, 0, none⟩)] 37)) (.cells #[.int .i64 (i : Int)] 3)
    rw [World.size_alloc] at this
    exact blk_alloc this _)
  have kt1 : W3.heap[W1.heap.size]? = some (.cells #[.string ⟨#[32, 91, 93]⟩] 9 (0, 0)) := by
    rw [hg3.block _ (by rw [World.size_alloc]; omega) (fun e => by have := Option.some.inj e; omega), Below.heap_alloc _ _ _ (by omega), hg2.block _ (by rw [World.size_alloc]; omega) (fun e => by have := Option.some.inj e; omega)]
    exact blk_new _ _
  have kt2 : W3.heap[W2.heap.size]? = some (.cells #[.string ⟨#[32, 123, 125]⟩] 9 (0, 0)) := by
    rw [hg3.block _ (by rw [World.size_alloc]; omega) (fun e => by have := Option.some.inj e; omega)]
    exact blk_new _ _
  have hbb : W3.cell? ⟨b, 0, none⟩ = some (.slice A t.length c) := pw_cell_below hbel HB.out
  have hS : SaysAt b W.heap.size (W.heap.size + 1) A c t i W3 := ⟨kw, ka, hbb, Kd.C_below HC.out hbel⟩
  have hm4 : IM W3 (W.heap.size + 1 + 1) [(3, .func (.func 47) #[] #[.pointer (some ⟨W.heap.size, 0, none⟩), .pointer (some ⟨W.heap.size + 1, 0, none⟩)]), (2, .func (.func 45) #[] #[.pointer (some ⟨W.heap.size, 0, none⟩), .pointer (some ⟨W.heap.size + 1, 0, none⟩), .pointer (some ⟨W1.heap.size, 0, none⟩)]), (1, .func (.func 45) #[] #[.pointer (some ⟨W.heap.size, 0, none⟩), .pointer (some ⟨W.heap.size + 1, 0, none⟩), .pointer (some ⟨W2.heap.size, 0, none⟩)])] := hm3
  have hgm3 : GM W3 := GM.below HGM.out hbel
  have HS := Aside0.mk hS
  have HBEL := Aside0.mk hbel
  have HGM3 := Aside0.mk hgm3
  have HT1 := Aside0.mk kt1
  have HT2 := Aside0.mk kt2
  have HM := Aside0.mk hm4
  have hzz : W.heap.size ≤ W3.heap.size := by omega
  clear hm1 hm2 hm3 hg1 hg2 hg3 h1 hz1 hz2 hz3 hbel step kw ka kt1 kt2 hbb hS hm4 hgm3 hmf hmm
  generalize W1.heap.size = tb1 at HT1 HM ⊢
  generalize W2.heap.size = tb2 at HT2 HM ⊢
  obtain ⟨n, hn0⟩ : ∃ n, n = W.heap.size := ⟨_, rfl⟩
  rw [← hn0] at HS HBEL HM hzz ⊢
  have HN0 := Aside0.mk hn0
  clear hn0
  have g0 : W3.cell? ⟨n, 0, none⟩ = some (.pointer (some ⟨b, 0, none⟩)) := blk_cell HS.out.hw 0
  have g1 : W3.cell? ⟨n + 1, 0, none⟩ = some (.int .i64 (i : Int)) := blk_cell HS.out.ha 0
  have g2 := HS.out.hb
  obtain ⟨ad, he, hF, -⟩ := at_T31 HS.out.hC (i : Int) (by omega) (by omega)
  subst he
  have g3 : W3.cell? (ad.add (i * 8)) = some (.int .i64 (nd t i).f0) := hF
  clear hF
  have hil : (i : Int) < (t.length : Int) := by omega
  have hz : ∀ w : World, (zeroValue 45).run Try.prog w = .ok .nilFunc w := fun _ => by kernel_rfl
  have HLK := Aside0.mk (fun (k : Int) => IM.lookup HM.out (P := Try.prog) Try.underlying72 Try.underlying3 (hz W3) k)
  clear hz
  have HS1 := Aside0.mk (show SaysAt b n (n + 1) (some ad) c t i W3.drew from HS.out.drewN 1)
  have HGM4 := Aside0.mk (show GM W3.drew from HGM3.out)
  have HT1' := Aside0.mk (show W3.drew.heap[tb1]? = _ from HT1.out)
  have HT2' := Aside0.mk (show W3.drew.heap[tb2]? = _ from HT2.out)
  rcases HK.out with hk | hk | hk
  · have g4 : (Instr.lookup 72 (.map (some (n + 1 + 1))) (.int .i64 1) false).run Try.prog W3.drew = .ok (.func (.func 45) #[] #[.pointer (some ⟨n, 0, none⟩), .pointer (some ⟨n + 1, 0, none⟩), .pointer (some ⟨tb2, 0, none⟩)]) W3.drew := IM.lookup (P := Try.prog) (show IM W3.drew _ _ from HM.out) Try.underlying72 Try.underlying3 (z := .nilFunc) (by kernel_rfl) 1
    have HRES := Aside0.mk (show saysU t i = if endOf t i > i + 1 then [] else [32, 123, 125] by unfold saysU; rw [hk]; rfl)
    rw [hk] at g3
    clear hk
    refine start_ (n := 12) (S := fun w' => w'.cell? ⟨n, 0, none⟩ = some (.pointer (some ⟨b, 0, none⟩)) ∧ w'.cell? ⟨n + 1, 0, none⟩ = some (.int .i64 (i : Int)) ∧ w'.cell? ⟨b, 0, none⟩ = some (.slice (some ad) t.length c) ∧ w'.cell? (ad.add (i * 8)) = some (.int .i64 1) ∧ (Instr.lookup 72 (.map (some (n + 1 + 1))) (.int .i64 1) false).run Try.prog w' = .ok (.func (.func 45) #[] #[.pointer (some ⟨n, 0, none⟩), .pointer (some ⟨n + 1, 0, none⟩), .pointer (some ⟨tb2, 0, none⟩)]) w') (ds := [10]) #[false, false, false, false, false, false, false, false, false, false, false, false] (by kernel_rfl) rfl rfl ⟨g0, g1, g2, g3, g4⟩ (fun hHeld => ?_)
    refine pure_ (i := 0) (N := some 15) (v := ?_) (a' := ?_) #[true, false, false, false, false, false, false, false, false, false, false, false] rfl rfl (by kernel_rfl) (fun _ _ _ h => h) (Or.inl ⟨by rfl, ?_⟩) ?_ ?_
    rotate_left
    · intro w'
      go_simp
      with_reducible rfl
    rotate_left
    · simp only [Act.put, List.setIfInBounds_toArray, List.set_cons_zero, List.set_cons_succ, i64_w, i32_w]
      rfl
    refine take_ (i := 1) (N := some 16) (v := ?_) (a' := ?_) #[true, true, false, false, false, false, false, false, false, false, false, false] rfl rfl (by kernel_rfl) (fun _ _ _ h => h) (Or.inl ⟨by rfl, ?_⟩) hHeld ?_ ?_
    rotate_left
    · rintro w' ⟨s0, s1, s2, s3, s4⟩
      go_simp
      with_reducible rfl
    rotate_left
    · simp only [Act.put, List.setIfInBounds_toArray, List.set_cons_zero, List.set_cons_succ, i64_w, i32_w]
      rfl
    refine pure_ (i := 2) (N := some 17) (v := ?_) (a' := ?_) #[true, true, true, false, false, false, false, false, false, false, false, false] rfl rfl (by kernel_rfl) (fun _ _ _ h => h) (Or.inl ⟨by rfl, ?_⟩) ?_ ?_
    rotate_left
    · intro w'
      go_simp
      with_reducible rfl
    rotate_left
    · simp only [Act.put, List.setIfInBounds_toArray, List.set_cons_zero, List.set_cons_succ, i64_w, i32_w]
      rfl
    refine pure_ (i := 3) (N := some 18) (v := ?_) (a' := ?_) #[true, true, true, true, false, false, false, false, false, false, false, false] rfl rfl (by kernel_rfl) (fun _ _ _ h => h) (Or.inl ⟨by rfl, ?_⟩) ?_ ?_
    rotate_left
    · intro w'
      go_simp
      with_reducible rfl
    rotate_left
    · simp only [Act.put, List.setIfInBounds_toArray, List.set_cons_zero, List.set_cons_succ, i64_w, i32_w]
      rfl
    refine take_ (i := 4) (N := some 19) (v := ?_) (a' := ?_) #[true, true, true, true, true, false, false, false, false, false, false, false] rfl rfl (by kernel_rfl) (fun _ _ _ h => h) (Or.inl ⟨by rfl, ?_⟩) hHeld ?_ ?_
    rotate_left
    · rintro w' ⟨s0, s1, s2, s3, s4⟩
      go_simp
      with_reducible rfl
    rotate_left
    · simp only [Act.put, List.setIfInBounds_toArray, List.set_cons_zero, List.set_cons_succ, i64_w, i32_w]
      rfl
    refine take_ (i := 5) (N := some 20) (v := ?_) (a' := ?_) #[true, true, true, true, true, true, false, false, false, false, false, false] rfl rfl (by kernel_rfl) (fun _ _ _ h => h) (Or.inl ⟨by rfl, ?_⟩) hHeld ?_ ?_
    rotate_left
    · rintro w' ⟨s0, s1, s2, s3, s4⟩
      go_simp
      with_reducible rfl
    rotate_left
    · simp only [Act.put, List.setIfInBounds_toArray, List.set_cons_zero, List.set_cons_succ, i64_w, i32_w]
      rfl
    refine pure_ (i := 6) (N := some 21) (v := ?_) (a' := ?_) #[true, true, true, true, true, true, true, false, false, false, false, false] rfl rfl (by kernel_rfl) (fun _ _ _ h => h) (Or.inl ⟨by rfl, ?_⟩) ?_ ?_
    rotate_left
    · intro w'
      go_simp
      with_reducible rfl
    rotate_left
    · simp only [Act.put, List.setIfInBounds_toArray, List.set_cons_zero, List.set_cons_succ, i64_w, i32_w]
      rfl
    refine pure_ (i := 7) (N := some 22) (v := ?_) (a' := ?_) #[true, true, true, true, true, true, true, true, false, false, false, false] rfl rfl (by kernel_rfl) (fun _ _ _ h => h) (Or.inl ⟨by rfl, ?_⟩) ?_ ?_
    rotate_left
    · intro w'
      go_simp
      with_reducible rfl
    rotate_left
    · simp only [Act.put, List.setIfInBounds_toArray, List.set_cons_zero, List.set_cons_succ, i64_w, i32_w]
      rfl
    refine take_ (i := 8) (N := some 23) (v := ?_) (a' := ?_) #[true, true, true, true, true, true, true, true, true, false, false, false] rfl rfl (by kernel_rfl) (fun _ _ _ h => h) (Or.inl ⟨by rfl, ?_⟩) hHeld ?_ ?_
    rotate_left
    · rintro w' ⟨s0, s1, s2, s3, s4⟩
      go_simp
      with_reducible rfl
    rotate_left
    · simp only [Act.put, List.setIfInBounds_toArray, List.set_cons_zero, List.set_cons_succ, i64_w, i32_w]
      rfl
    refine take_ (i := 9) (N := some 24) (v := ?_) (a' := ?_) #[true, true, true, true, true, true, true, true, true, true, false, false] rfl rfl (by kernel_rfl) (fun _ _ _ h => h) (Or.inl ⟨by rfl, ?_⟩) hHeld ?_ ?_
    rotate_left
    · rintro w' ⟨s0, s1, s2, s3, s4⟩
      go_simp
      with_reducible rfl
    rotate_left
    · simp only [Act.put, List.setIfInBounds_toArray, List.set_cons_zero, List.set_cons_succ, i64_w, i32_w]
      rfl
    refine last_ (i := 10) (N := some 25) #[true, true, true, true, true, true, true, true, true, true, true, false] rfl rfl (by kernel_rfl) (by decide) (fun K hK => ?_)
    refine goesV_ Try.func45 (by kernel_rfl) rfl (.tmp 24) #[.pointer (some ⟨n, 0, none⟩), .pointer (some ⟨n + 1, 0, none⟩), .pointer (some ⟨tb2, 0, none⟩)] (by rfl) rfl rfl rfl ?_
    with_reducible refine (says11_any b n (n + 1) tb2 (some ad) c t i ⟨#[32, 123, 125]⟩ _ HS1.out hi hn hc HT2'.out).mono ?_
    rintro e w3 ⟨rfl, m3, rfl⟩
    refine ⟨_, rfl, ?_⟩
    have HB1 := Aside0.mk (show Below n W3 (W3.drewN (1 + m3)) from pw_below_drewN (Below.refl _ _) _)
    refine hK.out _ _ ?_
    clear hK K
    refine norm_ (a' := ?_) ?_ ?_
    rotate_left
    · show Act.put _ (some 25) _ = _
      simp only [Act.put, List.setIfInBounds_toArray, List.set_cons_zero, List.set_cons_succ, i64_w, i32_w]
      rfl
    refine pure_ (i := 11) (N := some 4) (v := ?_) (a' := ?_) #[true, true, true, true, true, true, true, true, true, true, true, true] rfl rfl (by kernel_rfl) (fun _ _ _ h => h) (Or.inl ⟨by rfl, ?_⟩) ?_ ?_
    rotate_left
    · intro w'
      go_simp
      with_reducible rfl
    rotate_left
    · simp only [Act.put, List.setIfInBounds_toArray, List.set_cons_zero, List.set_cons_succ, i64_w, i32_w]
      rfl
    refine done_ (by kernel_rfl) ?_
    go_wp2
    all_goals
      go_ret
      refine ⟨?_, by rw [← HN0.out]; exact HBEL.out.trans HB1.out⟩
      rw [HRES.out]
      first | (rw [if_pos (by assumption)]; rfl) | (rw [if_neg (by assumption)]; rfl)
  · have g4 : (Instr.lookup 72 (.map (some (n + 1 + 1))) (.int .i64 2) false).run Try.prog W3.drew = .ok (.func (.func 45) #[] #[.pointer (some ⟨n, 0, none⟩), .pointer (some ⟨n + 1, 0, none⟩), .pointer (some ⟨tb1, 0, none⟩)]) W3.drew := IM.lookup (P := Try.prog) (show IM W3.drew _ _ from HM.out) Try.underlying72 Try.underlying3 (z := .nilFunc) (by kernel_rfl) 2
    have HRES := Aside0.mk (show saysU t i = if endOf t i > i + 1 then [] else [32, 91, 93] by unfold saysU; rw [hk]; rfl)
    rw [hk] at g3
    clear hk
    refine start_ (n := 12) (S := fun w' => w'.cell? ⟨n, 0, none⟩ = some (.pointer (some ⟨b, 0, none⟩)) ∧ w'.cell? ⟨n + 1, 0, none⟩ = some (.int .i64 (i : Int)) ∧ w'.cell? ⟨b, 0, none⟩ = some (.slice (some ad) t.length c) ∧ w'.cell? (ad.add (i * 8)) = some (.int .i64 2) ∧ (Instr.lookup 72 (.map (some (n + 1 + 1))) (.int .i64 2) false).run Try.prog w' = .ok (.func (.func 45) #[] #[.pointer (some ⟨n, 0, none⟩), .pointer (some ⟨n + 1, 0, none⟩), .pointer (some ⟨tb1, 0, none⟩)]) w') (ds := [10]) #[false, false, false, false, false, false, false, false, false, false, false, false] (by kernel_rfl) rfl rfl ⟨g0, g1, g2, g3, g4⟩ (fun hHeld => ?_)
    refine pure_ (i := 0) (N := some 15) (v := ?_) (a' := ?_) #[true, false, false, false, false, false, false, false, false, false, false, false] rfl rfl (by kernel_rfl) (fun _ _ _ h => h) (Or.inl ⟨by rfl, ?_⟩) ?_ ?_
    rotate_left
    · intro w'
      go_simp
      with_reducible rfl
    rotate_left
    · simp only [Act.put, List.setIfInBounds_toArray, List.set_cons_zero, List.set_cons_succ, i64_w, i32_w]
      rfl
    refine take_ (i := 1) (N := some 16) (v := ?_) (a' := ?_) #[true, true, false, false, false, false, false, false, false, false, false, false] rfl rfl (by kernel_rfl) (fun _ _ _ h => h) (Or.inl ⟨by rfl, ?_⟩) hHeld ?_ ?_
    rotate_left
    · rintro w' ⟨s0, s1, s2, s3, s4⟩
      go_simp
      with_reducible rfl
    rotate_left
    · simp only [Act.put, List.setIfInBounds_toArray, List.set_cons_zero, List.set_cons_succ, i64_w, i32_w]
      rfl
    refine pure_ (i := 2) (N := some 17) (v := ?_) (a' := ?_) #[true, true, true, false, false, false, false, false, false, false, false, false] rfl rfl (by kernel_rfl) (fun _ _ _ h => h) (Or.inl ⟨by rfl, ?_⟩) ?_ ?_
    rotate_left
    · intro w'
      go_simp
      with_reducible rfl
    rotate_left
    · simp only [Act.put, List.setIfInBounds_toArray, List.set_cons_zero, List.set_cons_succ, i64_w, i32_w]
      rfl
    refine pure_ (i := 3) (N := some 18) (v := ?_) (a' := ?_) #[true, true, true, true, false, false, false, false, false, false, false, false] rfl rfl (by kernel_rfl) (fun _ _ _ h => h) (Or.inl ⟨by rfl, ?_⟩) ?_ ?_
    rotate_left
    · intro w'
      go_simp
      with_reducible rfl
    rotate_left
    · simp only [Act.put, List.setIfInBounds_toArray, List.set_cons_zero, List.set_cons_succ, i64_w, i32_w]
      rfl
    refine take_ (i := 4) (N := some 19) (v := ?_) (a' := ?_) #[true, true, true, true, true, false, false, false, false, false, false, false] rfl rfl (by kernel_rfl) (fun _ _ _ h => h) (Or.inl ⟨by rfl, ?_⟩) hHeld ?_ ?_
    rotate_left
    · rintro w' ⟨s0, s1, s2, s3, s4⟩
      go_simp
      with_reducible rfl
    rotate_left
    · simp only [Act.put, List.setIfInBounds_toArray, List.set_cons_zero, List.set_cons_succ, i64_w, i32_w]
      rfl
    refine take_ (i := 5) (N := some 20) (v := ?_) (a' := ?_) #[true, true, true, true, true, true, false, false, false, false, false, false] rfl rfl (by kernel_rfl) (fun _ _ _ h => h) (Or.inl ⟨by rfl, ?_⟩) hHeld ?_ ?_
    rotate_left
    · rintro w' ⟨s0, s1, s2, s3, s4⟩
      go_simp
      with_reducible rfl
    rotate_left
    · simp only [Act.put, List.setIfInBounds_toArray, List.set_cons_zero, List.set_cons_succ, i64_w, i32_w]
      rfl
    refine pure_ (i := 6) (N := some 21) (v := ?_) (a' := ?_) #[true, true, true, true, true, true, true, false, false, false, false, false] rfl rfl (by kernel_rfl) (fun _ _ _ h => h) (Or.inl ⟨by rfl, ?_⟩) ?_ ?_
    rotate_left
    · intro w'
      go_simp
      with_reducible rfl
    rotate_left
    · simp only [Act.put, List.setIfInBounds_toArray, List.set_cons_zero, List.set_cons_succ, i64_w, i32_w]
      rfl
    refine pure_ (i := 7) (N := some 22) (v := ?_) (a' := ?_) #[true, true, true, true, true, true, true, true, false, false, false, false] rfl rfl (by kernel_rfl) (fun _ _ _ h => h) (Or.inl ⟨by rfl, ?_⟩) ?_ ?_
    rotate_left
    · intro w'
      go_simp
      with_reducible rfl
    rotate_left
    · simp only [Act.put, List.setIfInBounds_toArray, List.set_cons_zero, List.set_cons_succ, i64_w, i32_w]
      rfl
    refine take_ (i := 8) (N := some 23) (v := ?_) (a' := ?_) #[true, true, true, true, true, true, true, true, true, false, false, false] rfl rfl (by kernel_rfl) (fun _ _ _ h => h) (Or.inl ⟨by rfl, ?_⟩) hHeld ?_ ?_
    rotate_left
    · rintro w' ⟨s0, s1, s2, s3, s4⟩
      go_simp
      with_reducible rfl
    rotate_left
    · simp only [Act.put, List.setIfInBounds_toArray, List.set_cons_zero, List.set_cons_succ, i64_w, i32_w]
      rfl
    refine take_ (i := 9) (N := some 24) (v := ?_) (a' := ?_) #[true, true, true, true, true, true, true, true, true, true, false, false] rfl rfl (by kernel_rfl) (fun _ _ _ h => h) (Or.inl ⟨by rfl, ?_⟩) hHeld ?_ ?_
    rotate_left
    · rintro w' ⟨s0, s1, s2, s3, s4⟩
      go_simp
      with_reducible rfl
    rotate_left
    · simp only [Act.put, List.setIfInBounds_toArray, List.set_cons_zero, List.set_cons_succ, i64_w, i32_w]
      rfl
    refine last_ (i := 10) (N := some 25) #[true, true, true, true, true, true, true, true, true, true, true, false] rfl rfl (by kernel_rfl) (by decide) (fun K hK => ?_)
    refine goesV_ Try.func45 (by kernel_rfl) rfl (.tmp 24) #[.pointer (some ⟨n, 0, none⟩), .pointer (some ⟨n + 1, 0, none⟩), .pointer (some ⟨tb1, 0, none⟩)] (by rfl) rfl rfl rfl ?_
    with_reducible refine (says11_any b n (n + 1) tb1 (some ad) c t i ⟨#[32, 91, 93]⟩ _ HS1.out hi hn hc HT1'.out).mono ?_
    rintro e w3 ⟨rfl, m3, rfl⟩
    refine ⟨_, rfl, ?_⟩
    have HB1 := Aside0.mk (show Below n W3 (W3.drewN (1 + m3)) from pw_below_drewN (Below.refl _ _) _)
    refine hK.out _ _ ?_
    clear hK K
    refine norm_ (a' := ?_) ?_ ?_
    rotate_left
    · show Act.put _ (some 25) _ = _
      simp only [Act.put, List.setIfInBounds_toArray, List.set_cons_zero, List.set_cons_succ, i64_w, i32_w]
      rfl
    refine pure_ (i := 11) (N := some 4) (v := ?_) (a' := ?_) #[true, true, true, true, true, true, true, true, true, true, true, true] rfl rfl (by kernel_rfl) (fun _ _ _ h => h) (Or.inl ⟨by rfl, ?_⟩) ?_ ?_
    rotate_left
    · intro w'
      go_simp
      with_reducible rfl
    rotate_left
    · simp only [Act.put, List.setIfInBounds_toArray, List.set_cons_zero, List.set_cons_succ, i64_w, i32_w]
      rfl
    refine done_ (by kernel_rfl) ?_
    go_wp2
    all_goals
      go_ret
      refine ⟨?_, by rw [← HN0.out]; exact HBEL.out.trans HB1.out⟩
      rw [HRES.out]
      first | (rw [if_pos (by assumption)]; rfl) | (rw [if_neg (by assumption)]; rfl)
  · have g4 : (Instr.lookup 72 (.map (some (n + 1 + 1))) (.int .i64 3) false).run Try.prog W3.drew = .ok (.func (.func 47) #[] #[.pointer (some ⟨n, 0, none⟩), .pointer (some ⟨n + 1, 0, none⟩)]) W3.drew := IM.lookup (P := Try.prog) (show IM W3.drew _ _ from HM.out) Try.underlying72 Try.underlying3 (z := .nilFunc) (by kernel_rfl) 3
    have HRES := Aside0.mk (show saysU t i = 32 :: valueU (nd t i).f3 by unfold saysU; rw [if_pos hk])
    rw [hk] at g3
    clear hk
    refine start_ (n := 12) (S := fun w' => w'.cell? ⟨n, 0, none⟩ = some (.pointer (some ⟨b, 0, none⟩)) ∧ w'.cell? ⟨n + 1, 0, none⟩ = some (.int .i64 (i : Int)) ∧ w'.cell? ⟨b, 0, none⟩ = some (.slice (some ad) t.length c) ∧ w'.cell? (ad.add (i * 8)) = some (.int .i64 3) ∧ (Instr.lookup 72 (.map (some (n + 1 + 1))) (.int .i64 3) false).run Try.prog w' = .ok (.func (.func 47) #[] #[.pointer (some ⟨n, 0, none⟩), .pointer (some ⟨n + 1, 0, none⟩)]) w') (ds := [10]) #[false, false, false, false, false, false, false, false, false, false, false, false] (by kernel_rfl) rfl rfl ⟨g0, g1, g2, g3, g4⟩ (fun hHeld => ?_)
    refine pure_ (i := 0) (N := some 15) (v := ?_) (a' := ?_) #[true, false, false, false, false, false, false, false, false, false, false, false] rfl rfl (by kernel_rfl) (fun _ _ _ h => h) (Or.inl ⟨by rfl, ?_⟩) ?_ ?_
    rotate_left
    · intro w'
      go_simp
      with_reducible rfl
    rotate_left
    · simp only [Act.put, List.setIfInBounds_toArray, List.set_cons_zero, List.set_cons_succ, i64_w, i32_w]
      rfl
    refine take_ (i := 1) (N := some 16) (v := ?_) (a' := ?_) #[true, true, false, false, false, false, false, false, false, false, false, false] rfl rfl (by kernel_rfl) (fun _ _ _ h => h) (Or.inl ⟨by rfl, ?_⟩) hHeld ?_ ?_
    rotate_left
    · rintro w' ⟨s0, s1, s2, s3, s4⟩
      go_simp
      with_reducible rfl
    rotate_left
    · simp only [Act.put, List.setIfInBounds_toArray, List.set_cons_zero, List.set_cons_succ, i64_w, i32_w]
      rfl
    refine pure_ (i := 2) (N := some 17) (v := ?_) (a' := ?_) #[true, true, true, false, false, false, false, false, false, false, false, false] rfl rfl (by kernel_rfl) (fun _ _ _ h => h) (Or.inl ⟨by rfl, ?_⟩) ?_ ?_
    rotate_left
    · intro w'
      go_simp
      with_reducible rfl
    rotate_left
    · simp only [Act.put, List.setIfInBounds_toArray, List.set_cons_zero, List.set_cons_succ, i64_w, i32_w]
      rfl
    refine pure_ (i := 3) (N := some 18) (v := ?_) (a' := ?_) #[true, true, true, true, false, false, false, false, false, false, false, false] rfl rfl (by kernel_rfl) (fun _ _ _ h => h) (Or.inl ⟨by rfl, ?_⟩) ?_ ?_
    rotate_left
    · intro w'
      go_simp
      with_reducible rfl
    rotate_left
    · simp only [Act.put, List.setIfInBounds_toArray, List.set_cons_zero, List.set_cons_succ, i64_w, i32_w]
      rfl
    refine take_ (i := 4) (N := some 19) (v := ?_) (a' := ?_) #[true, true, true, true, true, false, false, false, false, false, false, false] rfl rfl (by kernel_rfl) (fun _ _ _ h => h) (Or.inl ⟨by rfl, ?_⟩) hHeld ?_ ?_
    rotate_left
    · rintro w' ⟨s0, s1, s2, s3, s4⟩
      go_simp
      with_reducible rfl
    rotate_left
    · simp only [Act.put, List.setIfInBounds_toArray, List.set_cons_zero, List.set_cons_succ, i64_w, i32_w]
      rfl
    refine take_ (i := 5) (N := some 20) (v := ?_) (a' := ?_) #[true, true, true, true, true, true, false, false, false, false, false, false] rfl rfl (by kernel_rfl) (fun _ _ _ h => h) (Or.inl ⟨by rfl, ?_⟩) hHeld ?_ ?_
    rotate_left
    · rintro w' ⟨s0, s1, s2, s3, s4⟩
      go_simp
      with_reducible rfl
    rotate_left
    · simp only [Act.put, List.setIfInBounds_toArray, List.set_cons_zero, List.set_cons_succ, i64_w, i32_w]
      rfl
    refine pure_ (i := 6) (N := some 21) (v := ?_) (a' := ?_) #[true, true, true, true, true, true, true, false, false, false, false, false] rfl rfl (by kernel_rfl) (fun _ _ _ h => h) (Or.inl ⟨by rfl, ?_⟩) ?_ ?_
    rotate_left
    · intro w'
      go_simp
      with_reducible rfl
    rotate_left
    · simp only [Act.put, List.setIfInBounds_toArray, List.set_cons_zero, List.set_cons_succ, i64_w, i32_w]
      rfl
    refine pure_ (i := 7) (N := some 22) (v := ?_) (a' := ?_) #[true, true, true, true, true, true, true, true, false, false, false, false] rfl rfl (by kernel_rfl) (fun _ _ _ h => h) (Or.inl ⟨by rfl, ?_⟩) ?_ ?_
    rotate_left
    · intro w'
      go_simp
      with_reducible rfl
    rotate_left
    · simp only [Act.put, List.setIfInBounds_toArray, List.set_cons_zero, List.set_cons_succ, i64_w, i32_w]
      rfl
    refine take_ (i := 8) (N := some 23) (v := ?_) (a' := ?_) #[true, true, true, true, true, true, true, true, true, false, false, false] rfl rfl (by kernel_rfl) (fun _ _ _ h => h) (Or.inl ⟨by rfl, ?_⟩) hHeld ?_ ?_
    rotate_left
    · rintro w' ⟨s0, s1, s2, s3, s4⟩
      go_simp
      with_reducible rfl
    rotate_left
    · simp only [Act.put, List.setIfInBounds_toArray, List.set_cons_zero, List.set_cons_succ, i64_w, i32_w]
      rfl
    refine take_ (i := 9) (N := some 24) (v := ?_) (a' := ?_) #[true, true, true, true, true, true, true, true, true, true, false, false] rfl rfl (by kernel_rfl) (fun _ _ _ h => h) (Or.inl ⟨by rfl, ?_⟩) hHeld ?_ ?_
    rotate_left
    · rintro w' ⟨s0, s1, s2, s3, s4⟩
      go_simp
      with_reducible rfl
    rotate_left
    · simp only [Act.put, List.setIfInBounds_toArray, List.set_cons_zero, List.set_cons_succ, i64_w, i32_w]
      rfl
    refine last_ (i := 10) (N := some 25) #[true, true, true, true, true, true, true, true, true, true, true, false] rfl rfl (by kernel_rfl) (by decide) (fun K hK => ?_)
    refine goesV_ Try.func47 (by kernel_rfl) rfl (.tmp 24) #[.pointer (some ⟨n, 0, none⟩), .pointer (some ⟨n + 1, 0, none⟩)] (by rfl) rfl rfl rfl ?_
    with_reducible refine (says2_any b n (n + 1) (some ad) c t i _ HS1.out hi hx HGM4.out).mono ?_
    rintro e w3 ⟨rfl, hb1⟩
    refine ⟨_, rfl, ?_⟩
    have HB1 := Aside0.mk (show Below n W3 w3 from ((Below.refl W3.heap.size W3).drew.trans hb1).mono hzz)
    clear hb1
    refine hK.out _ _ ?_
    clear hK K
    refine norm_ (a' := ?_) ?_ ?_
    rotate_left
    · show Act.put _ (some 25) _ = _
      simp only [Act.put, List.setIfInBounds_toArray, List.set_cons_zero, List.set_cons_succ, i64_w, i32_w]
      rfl
    refine pure_ (i := 11) (N := some 4) (v := ?_) (a' := ?_) #[true, true, true, true, true, true, true, true, true, true, true, true] rfl rfl (by kernel_rfl) (fun _ _ _ h => h) (Or.inl ⟨by rfl, ?_⟩) ?_ ?_
    rotate_left
    · intro w'
      go_simp
      with_reducible rfl
    rotate_left
    · simp only [Act.put, List.setIfInBounds_toArray, List.set_cons_zero, List.set_cons_succ, i64_w, i32_w]
      rfl
    refine done_ (by kernel_rfl) ?_
    go_wp2
    go_ret
    refine ⟨?_, by rw [← HN0.out]; exact HBEL.out.trans HB1.out⟩
    rw [HRES.out]
    rfl
end Go.Proofs.Ytofajjodonhdkaa.Q
