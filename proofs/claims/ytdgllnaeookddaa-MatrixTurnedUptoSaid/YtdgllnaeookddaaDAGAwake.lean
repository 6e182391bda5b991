/- The last word of chapter 13's statements: the program's own small example. -/
import Derived.Test.YtdgllnaeookddaaDAGName
namespace Go.Proofs.Ytdgllnaeookddaa.Q
open Go.RowKit Go.Proofs.YtdgllnaeookddaaW.PrintWords Go.Proofs.YtdgllnaeookddaaW.PrintLast Go.Proofs.YtdgllnaeookddaaW.PrintMore
set_option linter.unusedVariables false
set_option linter.unusedSimpArgs false
def aAxes : AX := [⟨⟨#[111, 115]⟩, [⟨#[108]⟩, ⟨#[109]⟩]⟩]
def aInc : List (List SV) := [[⟨⟨#[111, 115]⟩, ⟨#[119]⟩⟩]]
def aP : List (List SV) := [[⟨⟨#[111, 115]⟩, ⟨#[108]⟩⟩], [⟨⟨#[111, 115]⟩, ⟨#[109]⟩⟩], [⟨⟨#[111, 115]⟩, ⟨#[119]⟩⟩]]
set_option maxRecDepth 100000
theorem C_blk {α : Type} {d : Kd α} {w : World} {s n : Nat} {cells : Array Value} {t : TypeId} {xs : List α} (hb : w.heap[s]? = some (.cells cells t (0, 0))) (hl : xs.length = n) (hn : n ≤ 9223372036854775807)
    (hel : ∀ j p, xs[j]? = some p → ∃ c, c.length = d.sz ∧ d.K w p c ∧ ∀ i u, c[i]? = some u → cells[j * d.sz + i]? = some u) : d.C w (some ⟨s, 0, none⟩) n xs := by
  refine ⟨hl, hn, fun _ => ⟨_, rfl, fun j p hj => ?_⟩⟩
  obtain ⟨c, h1, h2, h3⟩ := hel j p hj
  refine ⟨c, h1, h2, fun i u hu => ?_⟩
  have e : (⟨s, 0, none⟩ : Addr).add (j * d.sz + i) = ⟨s, j * d.sz + i, none⟩ := by
    by_cases h0 : j * d.sz + i = 0
    · rw [h0]; simp [Addr.add]
    · unfold Addr.add
      rw [if_neg h0]
      simp
  rw [e, blk_cell hb]
  exact h3 i u hu
theorem C_one {α : Type} {d : Kd α} {w : World} {s : Nat} {cells : Array Value} {t : TypeId} {x : α} (hb : w.heap[s]? = some (.cells cells t (0, 0))) (hs : cells.toList.length = d.sz) (hk : d.K w x cells.toList) : d.C w (some ⟨s, 0, none⟩) 1 [x] := by
  refine C_blk hb rfl (by decide) (fun j p hj => ?_)
  match j, hj with
  | 0, hj =>
    obtain rfl : x = p := by simpa using hj
    refine ⟨_, hs, hk, fun i u hu => ?_⟩
    rw [Nat.zero_mul, Nat.zero_add, ← hu, Array.getElem?_toList]
  | j + 1, hj => simp at hj
theorem aAxes_C {W : World} {b : Nat} (h0 : W.heap[b]? = some (.cells #[.string ⟨#[108]⟩, .string ⟨#[109]⟩] 9 (0, 0))) (h1 : W.heap[b + 1]? = some (.cells #[.string ⟨#[111, 115]⟩, .slice (some ⟨b, 0, none⟩) 2 2] 46 (0, 0))) :
    k46.C W (some ⟨b + 1, 0, none⟩) 1 aAxes := by
  refine C_one h1 rfl ⟨[.string ⟨#[111, 115]⟩], [.slice (some ⟨b, 0, none⟩) 2 2], rfl, rfl, ⟨_, _, rfl, by decide, ?_⟩⟩
  refine C_blk h0 rfl (by decide) (fun j p hj => ?_)
  match j, hj with
  | 0, hj =>
    obtain rfl : (⟨#[108]⟩ : ByteArray) = p := by simpa using hj
    exact ⟨[.string ⟨#[108]⟩], rfl, rfl, fun i u hu => by match i, hu with | 0, hu => exact hu | i + 1, hu => (simp at hu)⟩
  | 1, hj =>
    obtain rfl : (⟨#[109]⟩ : ByteArray) = p := by simpa using hj
    exact ⟨[.string ⟨#[109]⟩], rfl, rfl, fun i u hu => by match i, hu with | 0, hu => exact hu | i + 1, hu => (simp at hu)⟩
  | j + 2, hj => simp at hj
theorem aInc_C {W : World} {b : Nat} (h2 : W.heap[b]? = some (.cells #[.string ⟨#[111, 115]⟩, .string ⟨#[119]⟩] 51 (0, 0))) (h3 : W.heap[b + 1]? = some (.cells #[.slice (some ⟨b, 0, none⟩) 1 1] 36 (0, 0))) :
    (Kd.slice 51 k51).C W (some ⟨b + 1, 0, none⟩) 1 aInc := by
  refine C_one h3 rfl ⟨_, _, rfl, by decide, ?_⟩
  exact C_one h2 rfl ⟨[.string ⟨#[111, 115]⟩], [.string ⟨#[119]⟩], rfl, rfl, rfl⟩
theorem build_f : matrix_Build.f aAxes aInc [] = some (aP, 3, 0) := by kernel_rfl
theorem check_f : matrix_Check.f aAxes aInc [] = some 0 := by kernel_rfl
theorem check_f0 : matrix_Check.f [] [] [[]] = some 130 := by kernel_rfl
theorem name_f : matrix_Name.f ⟨#[98]⟩ [⟨⟨#[111, 115]⟩, ⟨#[119]⟩⟩] = some ⟨#[98, 91, 111, 115, 61, 119, 93]⟩ := by kernel_rfl
theorem count_f : ∃ k, matrix_Count.f k aAxes aInc [] = some 3 := (count_ev aAxes aInc [] (by kernel_rfl)).rounds
/-- What the example's first word leaves: the matrix as it was. -/
structure AwakeSt (b : Nat) (w' : World) : Prop where
  axes : k46.C w' (some ⟨b + 1, 0, none⟩) 1 aAxes
  inc : (Kd.slice 51 k51).C w' (some ⟨b + 1 + 1 + 1, 0, none⟩) 1 aInc
  box : w'.heap[b + 1 + 1 + 1 + 1]? = some (.cells #[.slice (some ⟨b + 1, 0, none⟩) 1 1, .slice (some ⟨b + 1 + 1 + 1, 0, none⟩) 1 1, .slice none 0 0] 25 (0, 0))
theorem AwakeSt.on {b : Nat} {w w' : World} (h : AwakeSt b w) (hb : Below w.heap.size w w') : AwakeSt b w' := ⟨Kd.C_below h.axes hb, Kd.C_below h.inc hb, blk_below h.box hb⟩
structure AwakeP (ap a1 : Addr) (A2 : Option Addr) (c1 c2 : Nat) (w' : World) : Prop where
  row1 : w'.cell? (ap.add 1) = some (.slice (some a1) 1 c1)
  val1 : w'.cell? ⟨a1.block, a1.off + 1, none⟩ = some (.string ⟨#[109]⟩)
  row2 : w'.cell? (ap.add 2) = some (.slice A2 1 c2)
  fits : 1 ≤ c2
  is2 : k51.C w' A2 1 [⟨⟨#[111, 115]⟩, ⟨#[119]⟩⟩]
theorem AwakeP.on {ap a1 : Addr} {A2 : Option Addr} {c1 c2 : Nat} {w w' : World} (h : AwakeP ap a1 A2 c1 c2 w) (hb : Below w.heap.size w w') : AwakeP ap a1 A2 c1 c2 w' :=
  ⟨pw_cell_below hb h.row1, pw_cell_below hb h.val1, pw_cell_below hb h.row2, h.fits, Kd.C_below h.is2 hb⟩
theorem build_at {W : World} {b : Nat} (st : AwakeSt b W) :
    Calls Try.prog 11 #[.agg #[.slice (some ⟨b + 1, 0, none⟩) 1 1, .slice (some ⟨b + 1 + 1 + 1, 0, none⟩) 1 1, .slice none 0 0]] W fun e w' =>
      ∃ ap cp a1 A2 c1 c2, e = .returned (.tuple #[.slice (some ap) 3 cp, .int .i64 3, .int .i64 0]) ∧ AwakeP ap a1 A2 c1 c2 w' ∧ AwakeSt b w' ∧ Below W.heap.size W w' := by
  refine (matrix_Build.calls _ 1 aAxes _ 1 aInc none 0 [] aP 3 0 W st.axes (by decide) st.inc (by decide) (Kd.C_nil _ _) (by decide) build_f).mono ?_
  rintro e w' ⟨v, rfl, hS, hb⟩
  obtain ⟨Ap, cp, e, hl, hC⟩ := Kd.S_reads hS
  subst e
  obtain ⟨ap, A1, c1, e1, hx1, hl1, hC1⟩ := at_row hC 1 (by decide)
  obtain ⟨ap2, A2, c2, e2, hx2, hl2, hC2⟩ := at_row hC 2 (by decide)
  subst e1
  injection e2 with e2
  subst e2
  obtain ⟨a1, e3, hv0, hv1⟩ := at_T51 hC1 0 (by decide) (by decide)
  subst e3
  exact ⟨ap, cp, a1, A2, c1, c2, rfl, ⟨hx1, hv1, hx2, hl2, hC2⟩, st.on hb, hb⟩
theorem check0_at {W : World} {s : Nat} {A : Option Addr} (h : W.heap[s]? = some (.cells #[.slice A 0 0] 36 (0, 0))) :
    Calls Try.prog 13 #[.agg #[.slice none 0 0, .slice none 0 0, .slice (some ⟨s, 0, none⟩) 1 1]] W fun e w' => e = .returned (.int .i64 130) ∧ Below W.heap.size W w' :=
  matrix_Check.calls none 0 [] none 0 [] _ 1 [[]] 130 W (Kd.C_nil _ _) (by decide) (Kd.C_nil _ _) (by decide) (C_one h rfl ⟨A, 0, rfl, by decide, rfl, by decide, fun h => absurd h (by decide)⟩) (by decide) check_f0
theorem name_at {W : World} {ap a1 : Addr} {A2 : Option Addr} {c1 c2 : Nat} (h : AwakeP ap a1 A2 c1 c2 W) :
    Calls Try.prog 23 #[.string ⟨#[98]⟩, .slice A2 1 c2] W fun e w' => e = .returned (.string ⟨#[98, 91, 111, 115, 61, 119, 93]⟩) ∧ Below W.heap.size W w' :=
  matrix_Name.calls ⟨#[98]⟩ A2 c2 [⟨⟨#[111, 115]⟩, ⟨#[119]⟩⟩] _ W h.is2 h.fits name_f
theorem check_at {W : World} {b : Nat} (st : AwakeSt b W) :
    Calls Try.prog 13 #[.agg #[.slice (some ⟨b + 1, 0, none⟩) 1 1, .slice (some ⟨b + 1 + 1 + 1, 0, none⟩) 1 1, .slice none 0 0]] W fun e w' => e = .returned (.int .i64 0) ∧ Below W.heap.size W w' :=
  matrix_Check.calls _ 1 aAxes _ 1 aInc none 0 [] 0 W st.axes (by decide) st.inc (by decide) (Kd.C_nil _ _) (by decide) check_f
theorem count_at {W : World} {b : Nat} (st : AwakeSt b W) :
    Calls Try.prog 12 #[.agg #[.slice (some ⟨b + 1, 0, none⟩) 1 1, .slice (some ⟨b + 1 + 1 + 1, 0, none⟩) 1 1, .slice none 0 0]] W fun e w' => e = .returned (.int .i64 3) ∧ Below W.heap.size W w' := by
  obtain ⟨k, hk⟩ := count_f
  exact matrix_Count.calls k _ 1 aAxes _ 1 aInc none 0 [] 3 W st.axes (by decide) st.inc (by decide) (Kd.C_nil _ _) (by decide) hk
set_option maxHeartbeats 1000000 in
theorem awake_any (w : World) : Calls Try.prog 21 #[] w fun e w' => e = .returned (.bool true) ∧ Below w.heap.size w w' := by
  have HBL := Aside0.mk (fun (o1 o2 o3 o4 o5 : Obj) => below_alloc (below_alloc (below_alloc (below_alloc (below_alloc (Below.refl w.heap.size w) o1) o2) o3) o4) o5)
  have HB0 := Aside0.mk (fun (o1 o2 o3 o4 o5 : Obj) => show (((((w.alloc o1).alloc o2).alloc o3).alloc o4).alloc o5).heap[w.heap.size]? = some o1 from blk_alloc (blk_alloc (blk_alloc (blk_alloc (blk_new _ _) _) _) _) _)
  have HB1 := Aside0.mk (fun (o1 o2 o3 o4 o5 : Obj) => show (((((w.alloc o1).alloc o2).alloc o3).alloc o4).alloc o5).heap[w.heap.size + 1]? = some o2 from blk_alloc (blk_alloc (blk_alloc (by simpa using blk_new (w.alloc o1) o2) _) _) _)
  have HB2 := Aside0.mk (fun (o1 o2 o3 o4 o5 : Obj) => show (((((w.alloc o1).alloc o2).alloc o3).alloc o4).alloc o5).heap[w.heap.size + 1 + 1]? = some o3 from blk_alloc (blk_alloc (by simpa using blk_new ((w.alloc o1).alloc o2) o3) _) _)
  have HB3 := Aside0.mk (fun (o1 o2 o3 o4 o5 : Obj) => show (((((w.alloc o1).alloc o2).alloc o3).alloc o4).alloc o5).heap[w.heap.size + 1 + 1 + 1]? = some o4 from blk_alloc (by simpa using blk_new (((w.alloc o1).alloc o2).alloc o3) o4) _)
  have HB4 := Aside0.mk (fun (o1 o2 o3 o4 o5 : Obj) => show (((((w.alloc o1).alloc o2).alloc o3).alloc o4).alloc o5).heap[w.heap.size + 1 + 1 + 1 + 1]? = some o5 from by simpa using blk_new ((((w.alloc o1).alloc o2).alloc o3).alloc o4) o5)
  go_enter Try.func21, Try.ntmps21
  go_wp2_with (first
    | (go_at_call 11; refine (build_at ⟨aAxes_C (HB0.out _ _ _ _ _) (HB1.out _ _ _ _ _), aInc_C (HB2.out _ _ _ _ _) (HB3.out _ _ _ _ _), HB4.out _ _ _ _ _⟩).mono ?_; rintro e w6 ⟨ap, cp, a1, A2, c1, c2, rfl, hP, st, hb⟩; have HP6 := Aside0.mk hP; have ST6 := Aside0.mk st; have HB6 := Aside0.mk (below_step (HBL.out _ _ _ _ _) hb); have m0 := (blk_cell st.box 0).trans rfl; have m1 := (blk_cell st.box 1).trans rfl; have m2 := (blk_cell st.box 2).trans rfl; have p1 : w6.cell? ⟨ap.block, ap.off + 1, none⟩ = _ := hP.row1; have p2 := hP.val1; clear hP st hb)
    | (go_at_call 12; refine (count_at ST6.out).mono ?_; rintro e w7 ⟨rfl, hb⟩; have HP7 := Aside0.mk (HP6.out.on hb); have ST7 := Aside0.mk (ST6.out.on hb); have HB7 := Aside0.mk (below_step HB6.out hb); have n0 := (blk_cell ST7.out.box 0).trans rfl; have n1 := (blk_cell ST7.out.box 1).trans rfl; have n2 := (blk_cell ST7.out.box 2).trans rfl; clear hb)
    | (go_at_call 13; refine (check0_at (HN.out _ _)).mono ?_; rintro e w10 ⟨rfl, hb⟩; have HB10 := Aside0.mk (below_step (below_alloc (below_alloc HB9.out _) _) hb); clear hb)
    | (go_at_call 13; refine (check_at ST7.out).mono ?_; rintro e w8 ⟨rfl, hb⟩; have HP8 := Aside0.mk (HP7.out.on hb); have HB8 := Aside0.mk (below_step HB7.out hb); have p3 : w8.cell? ⟨ap.block, ap.off + 2, none⟩ = _ := HP8.out.row2; clear hb)
    | (go_at_call 23; refine (name_at HP8.out).mono ?_; rintro e w9 ⟨rfl, hb⟩; have HB9 := Aside0.mk (below_step HB8.out hb); have HN := Aside0.mk (fun (o1 o2 : Obj) => show ((w9.alloc o1).alloc o2).heap[w9.heap.size + 1]? = some o2 from by simpa using blk_new (w9.alloc o1) o2); clear hb))
  go_ret
  exact ⟨rfl, HB10.out⟩
end Go.Proofs.Ytdgllnaeookddaa.Q
