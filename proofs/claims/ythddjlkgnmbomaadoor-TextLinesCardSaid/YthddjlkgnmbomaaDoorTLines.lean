/- The lines of a text that say something, as the program's text.Lines tells them. -/
import Derived.Test.YthddjlkgnmbomaaDoorTEach
import Derived.Test.YthddjlkgnmbomaaDoorQ2
import Derived.WalkMore
import Derived.Scope
namespace Go.Proofs.YthddjlkgnmbomaaDoor.Q
open Go Go.RowKit Go.Shelf Go.Proofs.YthddjlkgnmbomaaDoorW.PrintWords Go.Proofs.YthddjlkgnmbomaaDoorW.PrintLast Go.Proofs.YthddjlkgnmbomaaDoorW.PrintMore
attribute [local go_sem] Oper.semAt_some
set_option linter.unusedVariables false
set_option linter.unusedSimpArgs false
set_option linter.unusedSectionVars false
abbrev LN := S33
def trimL (l : ByteArray) : ByteArray := ⟨(Lib.trimB l.data.toList 32).toArray⟩
/-- The place of the first byte from place i on that may not be; -1: none. -/
def badFrom (l : ByteArray) : Nat → Nat → Int
  | 0, _ => -1
  | d + 1, i => if bt l (i : Int) < 32 ∨ bt l (i : Int) = 127 then (i : Int) else badFrom l d (i + 1)
def badOf (l : ByteArray) : Int := badFrom l l.size 0
theorem bad_l0 (l : ByteArray) (hn : l.size ≤ 1048576) : ∀ (d i : Nat), i + d = l.size → Ev (fun k => text_bad.l0 k l (i : Int)) (badFrom l d i)
  | 0, i, h => by
    refine Ev.step (fun k => by rw [text_bad.l0, if_neg (by omega)]) ?_
    exact Ev.now _
  | d + 1, i, h => by
    have hw : wrap64 ((i : Int) + 1) = (i : Int) + 1 := by unfold wrap64; omega
    refine Ev.step (fun k => by rw [text_bad.l0, if_pos (by omega), if_pos (by omega), hw]) ?_
    unfold badFrom
    by_cases h1 : bt l (i : Int) < 32
    · rw [if_pos (.inl h1)]
      exact Ev.congr (fun k => by rw [if_pos h1]) (Ev.now _)
    · refine Ev.congr (fun k => by rw [if_neg h1]) ?_
      by_cases h2 : bt l (i : Int) = 127
      · rw [if_pos (.inr h2)]
        exact Ev.congr (fun k => by rw [if_pos h2]) (Ev.now _)
      · rw [if_neg (fun h => h.elim h1 h2)]
        exact Ev.congr (fun k => by rw [if_neg h2]; rfl) (bad_l0 l hn d (i + 1) (by omega))
theorem bad_any (l : ByteArray) (hn : l.size ≤ 1048576) (w : World) : Calls Tryd.prog 17 #[.string l] w fun e w' => e = .returned (.int .i64 (badOf l)) ∧ ∃ m, w' = w.drewN m := by
  obtain ⟨k, hk⟩ := (bad_l0 l hn l.size 0 (by omega)).rounds
  refine (text_bad.calls k l _ w hk).mono ?_
  rintro e w' ⟨rfl, hd⟩
  exact ⟨rfl, hd.1⟩
theorem bad_range (l : ByteArray) : ∀ (d i : Nat), badFrom l d i = -1 ∨ ∃ j : Nat, badFrom l d i = (j : Int) ∧ j < i + d
  | 0, i => .inl rfl
  | d + 1, i => by
    unfold badFrom
    split
    · exact .inr ⟨i, rfl, by omega⟩
    · rcases bad_range l d (i + 1) with h | ⟨j, h, hj⟩
      · exact .inl h
      · exact .inr ⟨j, h, by omega⟩
theorem each_any (s : ByteArray) (w : World) : Calls Tryd.prog 16 #[.string s] w fun e w' => e = .returned (.func (.func 20) #[] #[.pointer (some ⟨w.heap.size, 0, none⟩)]) ∧ w' = w.alloc (.cells #[.string s] 9) := by
  go_enter Tryd.func16, Tryd.ntmps16
  go_wp2
  go_ret
  exact ⟨rfl, rfl⟩
def skipB (t : ByteArray) : Bool := decide (t.size = 0) || decide (bt t 0 = 35)
def lineOf (x : NL) : List LN := if skipB (trimL x.2) = true then [] else [⟨x.1, Lib.indexByte x.2.data.toList (bt (trimL x.2) 0).toNat.toUInt8, trimL x.2⟩]
def goodB (x : NL) : Bool := decide (x.1 ≤ 4096) && decide (badOf x.2 = -1)
def failOf (x : NL) : Int × Int × Int := if 4096 < x.1 then (x.1, 0, 12) else (x.1, badOf x.2 + 1, 11)
def goL : List NL → List LN → List LN × Int × Int × Int
  | [], acc => (acc, 0, 0, 0)
  | x :: r, acc => if goodB x = true then goL r (acc ++ lineOf x) else ([], (failOf x).1, (failOf x).2.1, (failOf x).2.2)
def linesP (s : ByteArray) : List LN × Int × Int × Int := if 65536 < s.size then ([], 0, 0, 10) else goL (numb 1 (linesB s)) []
def LinesPost (w : World) (r : List LN × Int × Int × Int) (e : Ending) (w' : World) : Prop :=
  ∃ v, e = .returned (.tuple #[v, .int .i64 r.2.1, .int .i64 r.2.2.1, .int .i64 r.2.2.2]) ∧ Kd.R k33 33 w' w.heap.size (fun _ => True) v r.1 ∧ Below w.heap.size w w'
theorem results4 {fn : Func} {t u v x : Tmp} (h : fn.results = #[.tmp t, .tmp u, .tmp v, .tmp x]) (tmps : Array Value) (P : Program) (w : World) :
    (results fn tmps).run P w = .ok (.tuple #[tmps.getD t undef, tmps.getD u undef, tmps.getD v undef, tmps.getD x undef]) w := by
  simp [results, h]
theorem numb_mem : ∀ (l : List ByteArray) (k : Nat) (x : NL), x ∈ numb k l → (k : Int) ≤ x.1 ∧ x.1 < (k : Int) + (l.length : Int) ∧ x.2 ∈ l
  | [], k, x, h => by cases h
  | a :: r, k, x, h => by
    rcases List.mem_cons.1 h with h | h
    · subst h
      exact ⟨Int.le_refl _, by rw [List.length_cons]; show (k : Int) < _; omega, List.mem_cons_self ..⟩
    · have := numb_mem r (k + 1) x h
      refine ⟨by omega, by simp; omega, List.mem_cons_of_mem _ this.2.2⟩
theorem linesU_mem : ∀ (s : List UInt8) (l : List UInt8), l ∈ linesU s → l.length ≤ s.length
  | [], l, h => by cases h
  | c :: r, l, h => by
    have ih := linesU_mem r
    unfold linesU at h
    split at h
    · rcases List.mem_cons.1 h with h | h
      · subst h; simp
      · have := ih l h; simp; omega
    · split at h
      · rw [List.mem_singleton.1 h]; simp
      · rename_i l0 ls he
        rcases List.mem_cons.1 h with h | h
        · subst h
          have := ih l0 (by rw [he]; exact List.mem_cons_self ..)
          simp
          exact this
        · have := ih l (by rw [he]; exact List.mem_cons_of_mem _ h)
          simp
          omega
theorem lines_mem (s l : ByteArray) (h : l ∈ linesB s) : l.size ≤ s.size := by
  unfold linesB at h
  obtain ⟨u, hu, rfl⟩ := List.mem_map.1 h
  have := linesU_mem _ u hu
  rw [Array.length_toList] at this
  exact this
/-- The variables of Lines while it goes through the lines: out, no, col, e. -/
structure St (w : World) (no col e : Int) (v : Value) (acc : List LN) (W : World) : Prop where
  co : W.heap[w.heap.size]? = some (.cells #[v] 22 (0, 0))
  cn : W.heap[w.heap.size + 1]? = some (.cells #[.int .i64 no] 3 (0, 0))
  cc : W.heap[w.heap.size + 1 + 1]? = some (.cells #[.int .i64 col] 3 (0, 0))
  ce : W.heap[w.heap.size + 1 + 1 + 1]? = some (.cells #[.int .i64 e] 23 (0, 0))
  own : Kd.R k33 33 W (w.heap.size + 5) (fun _ => True) v acc
  below : Below w.heap.size w W
  sz : w.heap.size + 5 ≤ W.heap.size
theorem St.move {w W W' : World} {no col e : Int} {v : Value} {acc : List LN} {row : Option Nat} (h : St w no col e v acc W) (hg : W.grownBy W' row)
    (hr : ∀ k, row = some k → k = w.heap.size + 4 ∨ (w.heap.size + 5 ≤ k ∧ ∃ o : Obj, W.heap[k]? = some o ∧ o.isCells = false)) : St w no col e v acc W' := by
  have hne : ∀ k, k < w.heap.size + 4 → some k ≠ row := fun k hk he => by rcases hr k he.symm with h1 | h1 <;> omega
  refine ⟨blk_grown h.co hg (hne _ (by omega)), blk_grown h.cn hg (hne _ (by omega)), blk_grown h.cc hg (hne _ (by omega)), blk_grown h.ce hg (hne _ (by omega)), ?_, ?_, Nat.le_trans h.sz hg.size⟩
  · refine Kd.R_mono (Kd.R_step (Kd.R_bound h.own) (fun k hk hlt => hg.block k hlt (fun he => ?_))) (fun _ _ => trivial)
    obtain ⟨_, hb, _, q, _, cells, hc⟩ := hk
    rcases hr k he.symm with h1 | ⟨_, o, ho, hoc⟩
    · omega
    · rw [hc] at ho
      cases ho
      cases hoc
  · exact ⟨hg.os.trans h.below.os, hg.tape.trans h.below.tape, hg.output.trans h.below.output, Nat.le_trans h.below.size hg.size, fun k hk => (hg.block k (by have := h.sz; omega) (hne k (by omega))).trans (h.below.block k hk)⟩
section
variable {w W : World} {no col e : Int} {v : Value} {acc : List LN}
theorem own_put (h : Kd.R k33 33 W (w.heap.size + 5) (fun _ => True) v acc) (b : Nat) (hb : b < w.heap.size + 5) (u : Value) : Kd.R k33 33 (W.setCell ⟨b, 0, none⟩ u) (w.heap.size + 5) (fun _ => True) v acc :=
  Kd.R_mono (Kd.R_step (Kd.R_bound h) (fun k hk _ => Below.heap_setCell W ⟨b, 0, none⟩ u k (by show k ≠ b; have := hk.2.1; omega))) (fun _ _ => trivial)
theorem St.setN (h : St w no col e v acc W) (u : Int) : St w u col e v acc (W.setCell ⟨w.heap.size + 1, 0, none⟩ (.int .i64 u)) :=
  ⟨blk_far (p := ⟨w.heap.size + 1, 0, none⟩) h.co (by show _ ≠ w.heap.size + 1; omega) _, blk_put h.cn 0 _ rfl, blk_far (p := ⟨w.heap.size + 1, 0, none⟩) h.cc (by show _ ≠ w.heap.size + 1; omega) _, blk_far (p := ⟨w.heap.size + 1, 0, none⟩) h.ce (by show _ ≠ w.heap.size + 1; omega) _, own_put h.own _ (by omega) _, h.below.setCell (p := ⟨w.heap.size + 1, 0, none⟩) (by show _ ≤ w.heap.size + 1; omega) _, by simpa [World.setCell] using h.sz⟩
theorem St.setC (h : St w no col e v acc W) (u : Int) : St w no u e v acc (W.setCell ⟨w.heap.size + 1 + 1, 0, none⟩ (.int .i64 u)) :=
  ⟨blk_far (p := ⟨w.heap.size + 1 + 1, 0, none⟩) h.co (by show _ ≠ w.heap.size + 1 + 1; omega) _, blk_far (p := ⟨w.heap.size + 1 + 1, 0, none⟩) h.cn (by show _ ≠ w.heap.size + 1 + 1; omega) _, blk_put h.cc 0 _ rfl, blk_far (p := ⟨w.heap.size + 1 + 1, 0, none⟩) h.ce (by show _ ≠ w.heap.size + 1 + 1; omega) _, own_put h.own _ (by omega) _, h.below.setCell (p := ⟨w.heap.size + 1 + 1, 0, none⟩) (by show _ ≤ w.heap.size + 1 + 1; omega) _, by simpa [World.setCell] using h.sz⟩
theorem St.setE (h : St w no col e v acc W) (u : Int) : St w no col u v acc (W.setCell ⟨w.heap.size + 1 + 1 + 1, 0, none⟩ (.int .i64 u)) :=
  ⟨blk_far (p := ⟨w.heap.size + 1 + 1 + 1, 0, none⟩) h.co (by show _ ≠ w.heap.size + 1 + 1 + 1; omega) _, blk_far (p := ⟨w.heap.size + 1 + 1 + 1, 0, none⟩) h.cn (by show _ ≠ w.heap.size + 1 + 1 + 1; omega) _, blk_far (p := ⟨w.heap.size + 1 + 1 + 1, 0, none⟩) h.cc (by show _ ≠ w.heap.size + 1 + 1 + 1; omega) _, blk_put h.ce 0 _ rfl, own_put h.own _ (by omega) _, h.below.setCell (p := ⟨w.heap.size + 1 + 1 + 1, 0, none⟩) (by show _ ≤ w.heap.size + 1 + 1 + 1; omega) _, by simpa [World.setCell] using h.sz⟩
theorem St.drewN (h : St w no col e v acc W) (m : Nat) : St w no col e v acc (W.drewN m) := h.move (grown_drewN W m) (fun k hk => by cases hk)
end
theorem flat_len : ∀ pre : List NL, pre.length ≤ 65537 → (pre.flatMap lineOf).length ≤ 70000 := by
  have : ∀ pre : List NL, (pre.flatMap lineOf).length ≤ pre.length := by
    intro pre
    induction pre with
    | nil => exact Nat.le_refl _
    | cons x r ih =>
      rw [List.flatMap_cons, List.length_append, List.length_cons]
      have : (lineOf x).length ≤ 1 := by
        unfold lineOf
        split <;> simp
      omega
  intro pre h
  exact Nat.le_trans (this pre) (by omega)
theorem index_any (l t : ByteArray) (hz : 0 < t.size) (w : World) : Calls Tryd.prog 19 #[.string l, .string (t.extract 0 1)] w fun e w' => e = .returned (.int .i64 (Lib.indexByte l.data.toList (t[0]'hz))) ∧ w' = w := by
  have e : t.extract 0 1 = ⟨#[t[0]'hz]⟩ := by
    apply ByteArray.ext
    apply Array.toList_inj.1
    rw [extract_list t 0 1 hz]
    have h2 : 0 < t.data.toList.length := by rw [Array.length_toList]; exact hz
    rw [List.take_succ_eq_append_getElem h2]
    rfl
  rw [e]
  exact Tryd.strings_Index_one l (t[0]'hz) w
def IL (w : World) (pre : List NL) (W : World) : Prop := (∀ x, x ∈ pre → goodB x = true) ∧ ∃ v, St w 0 0 0 v (pre.flatMap lineOf) W
def IxL (w : World) (c : Code) (pre : List NL) (W : World) : Prop := c = .exit 0 ∧ ∃ (pre' : List NL) (x : NL) (v : Value) (acc : List LN), pre = pre' ++ [x] ∧ (∀ y, y ∈ pre' → goodB y = true) ∧ goodB x = false ∧ St w (failOf x).1 (failOf x).2.1 (failOf x).2.2 v acc W
theorem IL_from (w : World) (B : Nat) (hB : w.heap.size + 5 ≤ B) : OwnFrom B (IL w) := by
  rintro s W W' row ⟨h1, v, h2⟩ hg hr
  exact ⟨h1, v, h2.move hg (fun k hk => .inr ⟨Nat.le_trans hB (hr k hk).1, (hr k hk).2⟩)⟩
theorem IL_at (w : World) : AbidesAt (w.heap.size + 4) (IL w) := by
  rintro s W W' row ⟨h1, v, h2⟩ hg hr
  exact ⟨h1, v, h2.move hg (fun k hk => .inl (hr k hk))⟩
theorem IxL_from (w : World) (B : Nat) (hB : w.heap.size + 5 ≤ B) (c : Code) : OwnFrom B (IxL w c) := by
  rintro s W W' row ⟨h1, pre, x, v, acc, h2, h3, h4, h5⟩ hg hr
  exact ⟨h1, pre, x, v, acc, h2, h3, h4, h5.move hg (fun k hk => .inr ⟨Nat.le_trans hB (hr k hk).1, (hr k hk).2⟩)⟩
theorem IxL_at (w : World) (c : Code) : AbidesAt (w.heap.size + 4) (IxL w c) := by
  rintro s W W' row ⟨h1, pre, x, v, acc, h2, h3, h4, h5⟩ hg hr
  exact ⟨h1, pre, x, v, acc, h2, h3, h4, h5.move hg (fun k hk => .inl (hr k hk))⟩
theorem getElem?_some_lt' {α : Type} {a : Array α} {i : Nat} {x : α} (h : a[i]? = some x) : i < a.size := by
  obtain ⟨h1, _⟩ := Array.getElem?_eq_some_iff.1 h
  exact h1
theorem goL_good : ∀ (l : List NL) (acc : List LN), (∀ x, x ∈ l → goodB x = true) → goL l acc = (acc ++ l.flatMap lineOf, 0, 0, 0)
  | [], acc, _ => by simp [goL]
  | x :: r, acc, h => by
    unfold goL
    rw [if_pos (h x (List.mem_cons_self ..)), goL_good r _ (fun y hy => h y (List.mem_cons_of_mem _ hy)), List.flatMap_cons, List.append_assoc]
theorem goL_bad : ∀ (l : List NL) (x : NL) (r : List NL) (acc : List LN), (∀ y, y ∈ l → goodB y = true) → goodB x = false → goL (l ++ x :: r) acc = ([], (failOf x).1, (failOf x).2.1, (failOf x).2.2)
  | [], x, r, acc, _, hx => by
    show (if goodB x = true then _ else _) = _
    rw [if_neg (by rw [hx]; decide)]
  | y :: l, x, r, acc, h, hx => by
    show (if goodB y = true then goL (l ++ x :: r) (acc ++ lineOf y) else _) = _
    rw [if_pos (h y (List.mem_cons_self ..))]
    exact goL_bad l x r _ (fun z hz => h z (List.mem_cons_of_mem _ hz)) hx
set_option maxRecDepth 100000 in
set_option maxHeartbeats 1000000 in
theorem lines_any (s : ByteArray) (hs : s.size ≤ 140737488355328) (w : World) : Calls Tryd.prog 9 #[.string s] w (LinesPost w (linesP s)) := by
  obtain ⟨res, hres⟩ : ∃ r, r = linesP s := ⟨_, rfl⟩
  rw [← hres]
  by_cases hlong : 65536 < s.size
  · obtain rfl : res = ([], 0, 0, 10) := hres.trans (if_pos hlong)
    clear hres
    have hl' : (65536 : Int) < (s.size : Int) := by omega
    go_enter Tryd.func9, Tryd.ntmps9
    go_wp2
    go_step3
    go_wp2
    show bodyPost Tryd.prog Tryd.f9 _ .ret _ _
    refine bodyPost_ret (results4 rfl _ _ _) rfl ?_
    exact ⟨_, rfl, Kd.R_nil _ _ _ _ _, Below.refl _ _⟩
  · refine (callsIn_wide (n := 3)).1 ?_
    have HRES := Aside0.mk (hres.trans (if_neg hlong))
    clear hres
    have hl' : ¬ ((65536 : Int) < (s.size : Int)) := by omega
    refine callsIn_of_wp_marks Tryd.func9 rfl trivial ?_ rfl
    simp only [Tryd.ntmps9, List.size_toArray, List.length_cons, List.length_nil, Nat.reduceAdd, Nat.reduceSub, Array.replicate_succ, Array.replicate_zero, List.push_toArray, List.append_toArray, List.nil_append, List.cons_append]
    gi_wp2
    refine (wpIn_wide (n := 3)).2 (wp_scope_straight ((wpIn_wide (n := 3)).1 ?_))
    gi_wp2
    refine wpIn_label ?_
    simp only [Exit.then]
    go_at_K
    gi_wp2_with (refine ⟨trivial, ?_⟩; gi_at_call 16; refine (callsIn_wide.2 (each_any s _)).mono ?_; rintro e w' ⟨rfl, rfl⟩)
    have hb1 : Below w.heap.size w (((((w.alloc (.cells #[.slice none 0 0] 22)).alloc (.cells #[.int .i64 0] 3)).alloc (.cells #[.int .i64 0] 3)).alloc (.cells #[.int .i64 0] 23)).alloc (.cells #[.string s] 9)) := below_alloc (below_alloc (below_alloc (below_alloc (below_alloc (Below.refl _ _) _) _) _) _) _
    have hsz : (((((w.alloc (.cells #[.slice none 0 0] 22)).alloc (.cells #[.int .i64 0] 3)).alloc (.cells #[.int .i64 0] 3)).alloc (.cells #[.int .i64 0] 23)).alloc (.cells #[.string s] 9)).heap.size = w.heap.size + 5 := by simp
    have hcs : (((((w.alloc (.cells #[.slice none 0 0] 22)).alloc (.cells #[.int .i64 0] 3)).alloc (.cells #[.int .i64 0] 3)).alloc (.cells #[.int .i64 0] 23)).alloc (.cells #[.string s] 9)).heap[w.heap.size + 4]? = some (.cells #[.string s] 9 (0, 0)) := by
      have := blk_new ((((w.alloc (.cells #[.slice none 0 0] 22)).alloc (.cells #[.int .i64 0] 3)).alloc (.cells #[.int .i64 0] 3)).alloc (.cells #[.int .i64 0] 23)) (.cells #[.string s] 9)
      simpa using this
    have hst0 : St w 0 0 0 (.slice none 0 0) [] (((((w.alloc (.cells #[.slice none 0 0] 22)).alloc (.cells #[.int .i64 0] 3)).alloc (.cells #[.int .i64 0] 3)).alloc (.cells #[.int .i64 0] 23)).alloc (.cells #[.string s] 9)) := by
      refine ⟨blk_alloc (blk_alloc (blk_alloc (blk_alloc (blk_new w _) _) _) _) _, ?_, ?_, ?_, Kd.R_nil _ _ _ _ _, hb1, by rw [hsz]; exact Nat.le_refl _⟩
      · have := blk_new (w.alloc (.cells #[.slice none 0 0] 22)) (.cells #[.int .i64 0] 3)
        rw [World.size_alloc] at this
        exact blk_alloc (blk_alloc (blk_alloc this _) _) _
      · have := blk_new ((w.alloc (.cells #[.slice none 0 0] 22)).alloc (.cells #[.int .i64 0] 3)) (.cells #[.int .i64 0] 3)
        rw [World.size_alloc, World.size_alloc] at this
        exact blk_alloc (blk_alloc this _) _
      · have := blk_new (((w.alloc (.cells #[.slice none 0 0] 22)).alloc (.cells #[.int .i64 0] 3)).alloc (.cells #[.int .i64 0] 3)) (.cells #[.int .i64 0] 23)
        rw [World.size_alloc, World.size_alloc, World.size_alloc] at this
        exact blk_alloc this _
    generalize (((((w.alloc (.cells #[.slice none 0 0] 22)).alloc (.cells #[.int .i64 0] 3)).alloc (.cells #[.int .i64 0] 3)).alloc (.cells #[.int .i64 0] 23)).alloc (.cells #[.string s] 9)) = W5 at hb1 hsz hcs hst0 ⊢
    have hsl : s.size ≤ 1048576 := by omega
    have HSZ := Aside0.mk hsz
    have HS0 := Aside0.mk hst0
    have HB1 := Aside0.mk hb1
    clear hsz hst0 hb1
    refine range_cell (F := Fence.wide) rfl (by omega) (gf := 20) (lb := #[.pointer (some ⟨w.heap.size + 1 + 1 + 1 + 1, 0, none⟩)]) rfl trivial (enters_of Tryd.func20 (by kernel_rfl) rfl) (cb := w.heap.size + 4) (by rw [HSZ.out]; omega)
      (encs := encNL) (Kp := fun A B => B.heap[w.heap.size + 4]? = A.heap[w.heap.size + 4]?) (S := fun ys => ys = numb 1 (linesB s)) (Sp := fun pre => pre <+: numb 1 (linesB s)) (w0 := W5)
      (fun l J Jx W hW hJ hJx hY h0 => each1_in 2 l (w.heap.size + 4) s hsl J Jx hJ hJx hY W (blk_below hcs hW) h0) (Below.refl _ _) (fun _ => rfl) (fun h k => k.trans h) (fun W l o hl => World.putObj_heap_other (by rw [HSZ.out] at hl; omega))
      (IL w) (IxL w) (IL_from w _ (by rw [HSZ.out]; exact Nat.le_refl _)) (IxL_from w _ (by rw [HSZ.out]; exact Nat.le_refl _)) (IL_at w) (IxL_at w) ⟨(fun x hx => by cases hx), _, HS0.out⟩
      (fun x => { tmps := #[.string s, undef, .slice none 0 0, .int .i64 0, .int .i64 0, .int .i64 0, .pointer (some ⟨w.heap.size, 0, none⟩), .pointer (some ⟨w.heap.size + 1, 0, none⟩), .pointer (some ⟨w.heap.size + 1 + 1, 0, none⟩), .pointer (some ⟨w.heap.size + 1 + 1 + 1, 0, none⟩), .int .i64 x.1, .string x.2, undef, undef, .string s, .int .i64 s.size, .bool (decide ((65536 : Int) < (s.size : Int))), .string s, .func (.func 20) #[] #[.pointer (some ⟨w.heap.size + 1 + 1 + 1 + 1, 0, none⟩)], .int .i64 x.1, .string x.2, undef, undef, undef, undef, undef, undef, undef, undef, undef, undef, undef, undef, undef, undef, undef, undef, undef, undef, undef, undef, undef, undef, undef, undef, undef, undef, undef, undef, undef, undef, undef, undef, undef, undef, undef], defers := [] }) ?assign ?body ?done ?stop
    case assign =>
      intro l x W K hK
      dsimp only [encNL]
      gi_wp2
      exact hK
    case body =>
      intro l pre x W hi hpre
      obtain ⟨hgood, v, hst⟩ := hi
      have hmem := numb_mem (linesB s) 1 x (hpre.subset (List.mem_append_right _ (List.mem_singleton.2 rfl)))
      have hll := lines_len _ s (Nat.le_refl _)
      have hx1 : 1 ≤ x.1 := by have := hmem.1; omega
      have hx2 : x.1 ≤ 65537 := by have := hmem.2.1; omega
      have hx3 : x.2.size ≤ 65536 := Nat.le_trans (lines_mem s _ hmem.2.2) (by omega)
      have hbr := bad_range x.2 x.2.size 0
      have HG := Aside0.mk hgood
      have HST := Aside0.mk hst
      have HX3 := Aside0.mk hx3
      have HPL := Aside0.mk (show pre.length ≤ 65537 by have := hpre.length_le; rw [numb_len] at this; simp at this; omega)
      clear hgood hst hmem hpre
      by_cases hbig : 4096 < x.1
      · have hm7 : W.cell? ⟨w.heap.size + 1, 0, none⟩ = some (.int .i64 0) := blk_cell HST.out.cn 0
        have hm9 : W.cell? ⟨w.heap.size + 1 + 1 + 1, 0, none⟩ = some (.int .i64 0) := blk_cell HST.out.ce 0
        have hf7 := blk_frozen HST.out.cn 0
        have hf9 := blk_frozen HST.out.ce 0
        gi_wp2
        refine ⟨((KeepsOthers.setCell _ _ _).trans (KeepsOthers.setCell _ _ _)).from _, rfl, pre, x, v, pre.flatMap lineOf, rfl, HG.out, (by unfold goodB; rw [decide_eq_false (by omega)]; rfl), ?_⟩
        have hfo : failOf x = (x.1, 0, 12) := if_pos hbig
        rw [hfo]
        exact (HST.out.setN x.1).setE 12
      · have hle : x.1 ≤ 4096 := by omega
        gi_wp2
        refine ⟨trivial, CallsIn.inRound l ((callsIn_wide.2 (bad_any x.2 (by omega) _)).mono ?_)⟩
        rintro e w2 ⟨rfl, m, rfl⟩
        have HST2 := Aside0.mk (HST.out.drewN m)
        rcases hbr with hb | ⟨j, hb, hj⟩
        · have hgx : goodB x = true := by unfold goodB; rw [decide_eq_true hle, decide_eq_true (show badOf x.2 = -1 from hb)]; rfl
          have HGX := Aside0.mk (show ∀ y, y ∈ pre ++ [x] → goodB y = true from fun y hy => (List.mem_append.1 hy).elim (HG.out y) (fun h => by rw [List.mem_singleton.1 h]; exact hgx))
          rw [show badOf x.2 = -1 from hb]
          gi_wp2
          refine ⟨trivial, CallsIn.inRound l ((callsIn_wide.2 (Tryd.strings_Trim_one x.2 32 (by decide) _ (by omega))).mono ?_)⟩
          rintro e w3 ⟨rfl, hw3⟩
          obtain ⟨m2, rfl⟩ : ∃ m2, w3 = W.drewN m2 := by
            rcases hw3 with rfl | rfl
            · exact ⟨m, rfl⟩
            · exact ⟨m + 1, rfl⟩
          have HST3 := Aside0.mk (HST.out.drewN m2)
          clear HST2
          generalize ht : (⟨(Lib.trimB x.2.data.toList 32).toArray⟩ : ByteArray) = t
          have HTR := Aside0.mk (show trimL x.2 = t from ht)
          clear ht hw3
          have hdone : skipB t = true → leaves W5.heap.size (fun A B => B.heap[w.heap.size + 4]? = A.heap[w.heap.size + 4]?) (IL w) (IxL w) (pre ++ [x]) W .normal { tmps := #[], defers := [] } (W.drewN m2) := fun hsk => by
            refine ⟨(KeepsOthers.of_grownBy (grown_drewN W m2) (fun j o h => by cases h)).from _, rfl, HGX.out, v, ?_⟩
            have : lineOf x = [] := by unfold lineOf; rw [HTR.out, if_pos hsk]
            rw [List.flatMap_append, List.flatMap_cons, this]
            simpa using HST3.out
          have HDONE := Aside0.mk hdone
          clear hdone
          by_cases h0 : t.size = 0
          · have h0' : t.toList = [] := List.length_eq_zero_iff.1 (by rw [ByteArray.toList_eq, Array.length_toList]; exact h0)
            gi_wp2
            exact HDONE.out (by unfold skipB; rw [decide_eq_true h0]; rfl)
          · have h0' : t.toList.isEmpty = false := by
              cases hh : t.toList with
              | nil => exact absurd (show t.size = 0 by have := congrArg List.length hh; rwa [ByteArray.toList_eq, Array.length_toList] at this) h0
              | cons a b => rfl
            have hz : 0 < t.size := by omega
            have hz' : (0 : Int) < (t.size : Int) := by omega
            have hbt : bt t 0 = (t[0].toNat : Int) := (bt_at t 0 hz).symm
            by_cases hc : (t[0].toNat : Int) = 35
            · have HSK := Aside0.mk (show skipB t = true by unfold skipB; rw [hbt, decide_eq_true hc, Bool.or_true])
              clear hbt
              gi_wp2
              exact HDONE.out HSK.out
            · have HNS := Aside0.mk (show skipB t = false by unfold skipB; rw [hbt, decide_eq_false hc, decide_eq_false h0]; rfl)
              clear hbt
              gi_wp2
              have hst6 : St w 0 0 0 v (pre.flatMap lineOf) (W.drewN m2).drew := HST3.out.drewN 1
              have HG6 := Aside0.mk (show W.grownBy (W.drewN m2).drew none from grown_drewN W (m2 + 1))
              have hcell6 : (W.drewN m2).drew.cell? ⟨w.heap.size, 0, none⟩ = some v := blk_cell hst6.co 0
              have HST6 := Aside0.mk hst6
              have HLEN := Aside0.mk (show (pre.flatMap lineOf).length ≤ 70000 from flat_len pre HPL.out)
              have h1t : (1 : Int) ≤ (t.size : Int) := by omega
              clear hst6
              refine startIn_ (k := 11) (S := fun w' => w'.cell? ⟨w.heap.size, 0, none⟩ = some v) (ds := [9, 10]) #[false, false, false, false, false, false, false, false, false, false, false] (by kernel_rfl) rfl rfl hcell6 (by kernel_rfl) (fun ⟨_, _, h⟩ => h) (fun hHeld => ?_)
              clear hcell6
              generalize (W.drewN m2).drew = w6 at HST6 HG6 hHeld ⊢
              have HO := Aside0.mk HST6.out.own
              have HSZ6 := Aside0.mk HST6.out.sz
              have HC6 := Aside0.mk (show w6.cell? ⟨w.heap.size, 0, none⟩ = some v from blk_cell HST6.out.co 0)
              have HCO6 := Aside0.mk HST6.out.co
              refine pure_ (i := 1) (N := some 41) (v := ?_) (a' := ?_) #[false, true, false, false, false, false, false, false, false, false, false] rfl rfl (by kernel_rfl) (fun _ _ _ h => h) (Or.inl ⟨by rfl, ?_⟩) ?_ ?_
              rotate_left
              · intro w'
                go_simp
                with_reducible rfl
              rotate_left
              · simp only [Act.put, List.setIfInBounds_toArray, List.set_cons_zero, List.set_cons_succ, i64_w, i32_w]
                rfl
              refine pure_ (i := 2) (N := some 42) (v := ?_) (a' := ?_) #[false, true, true, false, false, false, false, false, false, false, false] rfl rfl (by kernel_rfl) (fun _ _ _ h => h) (Or.inl ⟨by rfl, ?_⟩) ?_ ?_
              rotate_left
              · intro w'
                go_simp
                with_reducible rfl
              rotate_left
              · simp only [Act.put, List.setIfInBounds_toArray, List.set_cons_zero, List.set_cons_succ, i64_w, i32_w]
                rfl
              refine pure_ (i := 3) (N := some 43) (v := ?_) (a' := ?_) #[false, true, true, true, false, false, false, false, false, false, false] rfl rfl (by kernel_rfl) (fun _ _ _ h => h) (Or.inl ⟨by rfl, ?_⟩) ?_ ?_
              rotate_left
              · intro w'
                go_simp
                with_reducible rfl
              rotate_left
              · simp only [Act.put, List.setIfInBounds_toArray, List.set_cons_zero, List.set_cons_succ, i64_w, i32_w]
                rfl
              refine pure_ (i := 4) (N := some 44) (v := ?_) (a' := ?_) #[false, true, true, true, true, false, false, false, false, false, false] rfl rfl (by kernel_rfl) (fun _ _ _ h => h) (Or.inl ⟨by rfl, ?_⟩) ?_ ?_
              rotate_left
              · intro w'
                go_simp
                with_reducible rfl
              rotate_left
              · simp only [Act.put, List.setIfInBounds_toArray, List.set_cons_zero, List.set_cons_succ, i64_w, i32_w]
                rfl
              refine pure_ (i := 6) (N := some 46) (v := ?_) (a' := ?_) #[false, true, true, true, true, false, true, false, false, false, false] rfl rfl (by kernel_rfl) (fun _ _ _ h => h) (Or.inl ⟨by rfl, ?_⟩) ?_ ?_
              rotate_left
              · intro w'
                go_simp
                with_reducible rfl
              rotate_left
              · simp only [Act.put, List.setIfInBounds_toArray, List.set_cons_zero, List.set_cons_succ, i64_w, i32_w]
                rfl
              refine take_ (i := 0) (N := some 40) (v := ?_) (a' := ?_) #[true, true, true, true, true, false, true, false, false, false, false] rfl rfl (by kernel_rfl) (fun _ _ _ h => h) (Or.inl ⟨by rfl, ?_⟩) hHeld ?_ ?_
              rotate_left
              · intro w' s0
                go_simp
                with_reducible rfl
              rotate_left
              · simp only [Act.put, List.setIfInBounds_toArray, List.set_cons_zero, List.set_cons_succ, i64_w, i32_w]
                rfl
              refine one_ (i := 5) (N := some 45) #[true, true, true, true, true, true, true, false, false, false, false] rfl rfl (by kernel_rfl) (by decide) (fun K hK => ?_)
              refine goes_ Tryd.func19 (by kernel_rfl) rfl #[.string x.2, .string (t.extract 0 1)] (by rfl) rfl rfl (by simp only [List.map_toArray, List.map_cons, List.map_nil]; rfl) ?_
              with_reducible refine (index_any x.2 t hz _).mono ?_
              rintro e w3 ⟨rfl, rfl⟩
              refine ⟨_, rfl, ?_⟩
              refine hK.out _ _ (hHeld) (fun hHeld => ?_)
              clear hK K
              refine norm_ (a' := ?_) ?_ ?_
              rotate_left
              · show Act.put _ (some 45) _ = _
                simp only [Act.put, List.setIfInBounds_toArray, List.set_cons_zero, List.set_cons_succ, i64_w, i32_w]
                rfl
              refine pure_ (i := 7) (N := some 47) (v := ?_) (a' := ?_) #[true, true, true, true, true, true, true, true, false, false, false] rfl rfl (by kernel_rfl) (fun _ _ _ h => h) (Or.inl ⟨by rfl, ?_⟩) ?_ ?_
              rotate_left
              · intro w'
                go_simp
                with_reducible rfl
              rotate_left
              · simp only [Act.put, List.setIfInBounds_toArray, List.set_cons_zero, List.set_cons_succ, i64_w, i32_w]
                rfl
              refine one_ (i := 8) (N := some 48) #[true, true, true, true, true, true, true, true, true, false, false] rfl rfl (by kernel_rfl) (by decide) (fun K hK => ?_)
              refine value_ (w1 := ?_) (v := ?_) (by rfl) rfl ?_ ?_
              rotate_left 2
              · go_simp
                constructor
                · rfl
                · rfl
              refine hK.out _ _ (pw_cell_below (below_alloc (Below.refl _ _) _) hHeld) (fun hHeld => ?_)
              clear hK K
              refine norm_ (a' := ?_) ?_ ?_
              rotate_left
              · show Act.put _ (some 48) _ = _
                simp only [Act.put, List.setIfInBounds_toArray, List.set_cons_zero, List.set_cons_succ, i64_w, i32_w]
                rfl
              refine last_ (i := 9) (N := some 49) #[true, true, true, true, true, true, true, true, true, true, false] rfl rfl (by kernel_rfl) (by decide) (fun K hK => ?_)
              refine Kd.R_append_step k33 (w0 := w3) (w.heap.size + 5) (by rfl) (.tmp 40) (.tmp 48) 22 33 (.agg #[(.int .i64 0), (.int .i64 0), (.string ⟨#[]⟩)]) 32 rfl Tryd.underlying22 info33 rfl (by decide) (by omega) v (pre.flatMap lineOf) (⟨x.1, Lib.indexByte x.2.data.toList (t[0]'hz), t⟩ : S33) [.int .i64 x.1, .int .i64 (Lib.indexByte x.2.data.toList (t[0]'hz)), .string t] (fun _ => True) (fun _ => False) rfl rfl (k33_mkM _ _ _ _) (fun _ h => h.elim) (fun _ _ => trivial) HO.out (Below.refl _ _) HSZ6.out (by have := HLEN.out; omega) ?_
              intro v1 w4 ho1 hb1 hg1 hat1
              obtain ⟨A1, L1, c1, e1⟩ : ∃ A L c, v1 = .slice A L c := by obtain ⟨A1, c1, e1⟩ := Kd.R_slice ho1; exact ⟨A1, _, c1, e1⟩
              subst e1
              have hc4 : w4.cell? ⟨w.heap.size, 0, none⟩ = some v := (hb1.cell (p := ⟨w.heap.size, 0, none⟩) (by show w.heap.size < _; omega)).trans HC6.out
              have hf4 : w4.frozen? ⟨w.heap.size, 0, none⟩ = false := blk_frozen ((hb1.block w.heap.size (by omega)).trans HCO6.out) 0
              have HO1 := Aside0.mk ho1
              have HB1' := Aside0.mk hb1
              have HG1 := Aside0.mk hg1
              clear ho1 hb1 hg1 hat1
              refine hK.out _ _ ?_
              clear hK K
              refine norm_ (a' := ?_) ?_ ?_
              rotate_left
              · show Act.put _ (some 49) _ = _
                simp only [Act.put, List.setIfInBounds_toArray, List.set_cons_zero, List.set_cons_succ, i64_w, i32_w]
                rfl
              refine last_ (i := 10) (N := none) #[true, true, true, true, true, true, true, true, true, true, true] rfl rfl (by kernel_rfl) (by decide) (fun K hK => ?_)
              refine skip_ (w1 := ?_) (by rfl) rfl ?_ ?_
              rotate_left
              · go_simp
                rfl
              refine hK.out _ _ ?_
              clear hK K
              refine done_ (by kernel_rfl) ?_
              gi_wp2
              have hst3 := HST6.out
              have hbw : Below w.heap.size w w4 := hst3.below.trans (HB1'.out.mono (by omega))
              have hsz4 : w.heap.size + 5 ≤ w4.heap.size := Nat.le_trans hst3.sz HB1'.out.size
              have hke := fun k (hk : k < w.heap.size + 5) => HB1'.out.block k hk
              refine ⟨((KeepsOthers.of_grownBy HG6.out (fun j o h => by cases h)).trans ((KeepsOthers.of_grownBy HG1.out (fun j o hj ho => by
                obtain ⟨cells, hcl⟩ := Kd.R_typed hst3.own j hj
                rw [hcl] at ho
                cases ho
                rfl)).trans (KeepsOthers.setCell _ _ _))).from _, ?kp, HGX.out, .slice A1 L1 c1, ?st⟩
              case kp =>
                show (w4.setCell ⟨w.heap.size, 0, none⟩ _).heap[w.heap.size + 4]? = W.heap[w.heap.size + 4]?
                refine (Below.heap_setCell w4 ⟨w.heap.size, 0, none⟩ _ (w.heap.size + 4) (by show _ ≠ w.heap.size; omega)).trans ((hke _ (by omega)).trans ?_)
                exact HG6.out.block _ (by have := HST.out.sz; omega) (by simp)
              case st =>
                have hli : (pre ++ [x]).flatMap lineOf = pre.flatMap lineOf ++ [(⟨x.1, Lib.indexByte x.2.data.toList (t[0]'hz), t⟩ : LN)] := by
                  have : lineOf x = [(⟨x.1, Lib.indexByte x.2.data.toList (t[0]'hz), t⟩ : LN)] := by
                    unfold lineOf
                    rw [HTR.out, if_neg (by rw [HNS.out]; decide)]
                    have : (bt t 0).toNat.toUInt8 = t[0]'hz := by
                      rw [← bt_at t 0 hz]
                      simp
                    rw [this]
                  rw [List.flatMap_append, List.flatMap_cons, this]
                  rfl
                rw [hli]
                exact ⟨blk_put ((hke w.heap.size (by omega)).trans hst3.co) 0 _ rfl, blk_far (p := ⟨w.heap.size, 0, none⟩) ((hke (w.heap.size + 1) (by omega)).trans hst3.cn) (by show _ ≠ w.heap.size; omega) _, blk_far (p := ⟨w.heap.size, 0, none⟩) ((hke (w.heap.size + 1 + 1) (by omega)).trans hst3.cc) (by show _ ≠ w.heap.size; omega) _, blk_far (p := ⟨w.heap.size, 0, none⟩) ((hke (w.heap.size + 1 + 1 + 1) (by omega)).trans hst3.ce) (by show _ ≠ w.heap.size; omega) _, own_put HO1.out w.heap.size (by omega) _, hbw.setCell (p := ⟨w.heap.size, 0, none⟩) (Nat.le_refl _) _, by simpa [World.setCell] using hsz4⟩
        · have HJ := Aside0.mk (show failOf x = (x.1, (j : Int) + 1, 11) by unfold failOf; rw [if_neg (by omega), show badOf x.2 = (j : Int) from hb])
          have HGF := Aside0.mk (show goodB x = false by unfold goodB; rw [decide_eq_false (show ¬ badOf x.2 = -1 by rw [show badOf x.2 = (j : Int) from hb]; omega), Bool.and_false])
          rw [show badOf x.2 = (j : Int) from hb]
          have hm7 : (W.drewN m).cell? ⟨w.heap.size + 1, 0, none⟩ = some (.int .i64 0) := blk_cell HST2.out.cn 0
          have hm8 : (W.drewN m).cell? ⟨w.heap.size + 1 + 1, 0, none⟩ = some (.int .i64 0) := blk_cell HST2.out.cc 0
          have hm9 : (W.drewN m).cell? ⟨w.heap.size + 1 + 1 + 1, 0, none⟩ = some (.int .i64 0) := blk_cell HST2.out.ce 0
          have hf7 := blk_frozen HST2.out.cn 0
          have hf8 := blk_frozen HST2.out.cc 0
          have hf9 := blk_frozen HST2.out.ce 0
          gi_wp2
          refine ⟨(((KeepsOthers.of_grownBy (grown_drewN W m) (fun j o h => by cases h)).trans (KeepsOthers.setCell _ _ _)).trans ((KeepsOthers.setCell _ _ _).trans (KeepsOthers.setCell _ _ _))).from _, rfl, pre, x, v, pre.flatMap lineOf, rfl, HG.out, HGF.out, ?_⟩
          rw [HJ.out]
          exact ((HST2.out.setN x.1).setC ((j : Int) + 1)).setE 11
    case done =>
      intro xs W hxs hi hD
      obtain ⟨hgood, v, hst⟩ := hi
      have hm6 : W.cell? ⟨w.heap.size, 0, none⟩ = some v := blk_cell hst.co 0
      have hm9 : W.cell? ⟨w.heap.size + 1 + 1 + 1, 0, none⟩ = some (.int .i64 0) := blk_cell hst.ce 0
      obtain rfl : res = (xs.flatMap lineOf, 0, 0, 0) := by
        rw [HRES.out, ← hxs, goL_good xs [] hgood, List.nil_append]
      have HST := Aside0.mk hst
      have HD := Aside0.mk hD
      clear hst hD hgood hxs
      dsimp only [Exit.inBlock, Exit.then]
      gi_wp2
      refine ⟨by simp, .inl ⟨_, _, rfl, run_takeDeferred HD.out, ?_⟩⟩
      have hso := HST.out.sz
      have hs5 := HSZ.out
      refine ⟨_, results4 rfl _ _ _, ?_⟩
      refine ⟨v, rfl, ?_, ?_⟩
      · refine Kd.R_mono (Kd.R_step (Kd.R_bound (Kd.R_lower HST.out.own (by omega))) (fun k hk _ => World.putObj_heap_other (fun he => ?_))) (fun _ _ => trivial)
        obtain ⟨_, hb, _, q, _, cells, hc⟩ := hk
        subst he
        rw [HD.out] at hc
        cases hc
      · have := HST.out.below
        exact ⟨this.os, this.tape, this.output, by simpa using this.size, fun k hk => (World.putObj_heap_other (by omega)).trans (this.block k hk)⟩
    case stop =>
      intro c pre W hpre hx hD
      obtain ⟨rfl, pre', x, v, acc, rfl, hgood, hbad, hst⟩ := hx
      obtain ⟨f1, f2, f3, hf⟩ : ∃ a b c, failOf x = (a, b, c) := ⟨_, _, _, rfl⟩
      rw [hf] at hst
      have hm7 : W.cell? ⟨w.heap.size + 1, 0, none⟩ = some (.int .i64 f1) := blk_cell hst.cn 0
      have hm8 : W.cell? ⟨w.heap.size + 1 + 1, 0, none⟩ = some (.int .i64 f2) := blk_cell hst.cc 0
      have hm9 : W.cell? ⟨w.heap.size + 1 + 1 + 1, 0, none⟩ = some (.int .i64 f3) := blk_cell hst.ce 0
      have hne : ¬ f3 = 0 := by
        have : ¬ (failOf x).2.2 = 0 := by
          unfold failOf
          split <;> simp
        rwa [hf] at this
      obtain rfl : res = ([], f1, f2, f3) := by
        rw [HRES.out]
        have hg := goL_bad pre' x
        rw [hf] at hg
        obtain ⟨r, hr⟩ := hpre
        rw [← hr, List.append_assoc]
        exact hg r [] hgood hbad
      have HST := Aside0.mk hst
      have HD := Aside0.mk hD
      clear hst hD hgood hpre hbad hf
      dsimp only [Exit.inBlock, Exit.then]
      gi_wp2
      refine (wpIn_wide (n := 3)).2 ?_
      go_quiet (fail)
      have HST2 := Aside0.mk (HST.out.drewN nq)
      have HD2 := Aside0.mk (show (W.drewN nq).heap[W5.heap.size]? = some (Obj.deferred (some [])) from ((grown_drewN W nq).block _ (by have := getElem?_some_lt' HD.out; exact this) (by simp)).trans HD.out)
      generalize W.drewN nq = W9 at HST2 HD2 ⊢
      gi_wp2
      refine ⟨by simp, .inl ⟨_, _, rfl, run_takeDeferred HD2.out, ?_⟩⟩
      have hso := HST2.out.sz
      have hs5 := HSZ.out
      refine ⟨_, results4 rfl _ _ _, ?_⟩
      refine ⟨_, rfl, Kd.R_nil _ _ _ _ _, ?_⟩
      have := HST2.out.below
      exact ⟨this.os, this.tape, this.output, by simpa using this.size, fun k hk => (World.putObj_heap_other (by omega)).trans (this.block k hk)⟩
end Go.Proofs.YthddjlkgnmbomaaDoor.Q
