/- What the laws' spoilers of lists, picks and matrices write to: nothing but their arguments' own blocks. -/
import Derived.Test.YtdgllnaeookddaaBGLend
namespace Go.Proofs.Ytdgllnaeookddaa.Q
open Go.RowKit Go.Proofs.YtdgllnaeookddaaW.PrintWords Go.Proofs.YtdgllnaeookddaaW.PrintLast Go.Proofs.YtdgllnaeookddaaW.PrintMore
set_option linter.unusedVariables false
set_option linter.unusedSimpArgs false
/-- Each row of cells stays one, of its type and its length; and nothing but memory turns. -/
structure TK (w w' : World) : Prop where
  b : Below 0 w w'
  row : ∀ (g : Nat) (t : TypeId) (cells : Array Value), w.heap[g]? = some (.cells cells t (0, 0)) → ∃ cells' : Array Value, w'.heap[g]? = some (.cells cells' t (0, 0)) ∧ cells'.size = cells.size
theorem TK.refl (w : World) : TK w w := ⟨Below.refl _ _, fun g t cells h => ⟨cells, h, rfl⟩⟩
theorem TK.trans {a b c : World} (h : TK a b) (k : TK b c) : TK a c := ⟨h.b.trans k.b, fun g t cells hg => by
  obtain ⟨c1, h1, h2⟩ := h.row g t cells hg
  obtain ⟨c2, h3, h4⟩ := k.row g t c1 h1
  exact ⟨c2, h3, h4.trans h2⟩⟩
theorem TK.of_same {w w' : World} (hb : Below 0 w w') (h : ∀ k, k < w.heap.size → w'.heap[k]? = w.heap[k]?) : TK w w' := ⟨hb, fun g t cells hg => ⟨cells, (h g (blk_lt hg)).trans hg, rfl⟩⟩
theorem TK.of_below {w w' : World} (h : Below w.heap.size w w') : TK w w' := TK.of_same (h.mono (Nat.zero_le _)) fun k hk => h.block k hk
theorem TK.set {a w : World} (h : TK a w) (g j : Nat) (u : Value) : TK a (w.setCell ⟨g, j, none⟩ u) := h.trans ⟨(Below.refl 0 w).setCell (p := ⟨g, j, none⟩) (Nat.zero_le _) u, fun g' t cells hg => by
  by_cases he : g' = g
  · subst he
    exact ⟨_, blk_set hg j u, by simp⟩
  · exact ⟨cells, blk_far hg he u, rfl⟩⟩
theorem TK.setCells {a : World} (g : Nat) : ∀ (vs : List Value) (o : Nat) (w : World), TK a w → TK a (w.setCells g o vs)
  | [], o, w, h => h
  | v :: vs, o, w, h => TK.setCells g vs (o + 1) (w.setCell ⟨g, o, none⟩ v) (h.set g o v)
theorem TK.alloc (w : World) (o : Obj) : TK w (w.alloc o) := TK.of_same ((Below.refl 0 w).alloc (Nat.zero_le _) o) fun k hk => Below.heap_alloc w o k hk
theorem TK.grown {w w' : World} (hg : w.grownBy w' none) : TK w w' := TK.of_same ⟨hg.os, hg.tape, hg.output, hg.size, fun k hk => absurd hk (Nat.not_lt_zero _)⟩ fun k hk => hg.block k hk (by simp)
/-- What is kept but for blocks from a number on is Below that number. -/
theorem TK.below {w w' : World} {S : Nat → Prop} (h : TK w w') (hk : Kept w w' S) {B : Nat} (hB : B ≤ w.heap.size) (hS : ∀ k, S k → B ≤ k) : Below B w w' :=
  ⟨h.b.os, h.b.tape, h.b.output, h.b.size, fun k hlt => hk.2 k (Nat.lt_of_lt_of_le hlt hB) (fun hs => by have := hS k hs; omega)⟩
section
variable {α : Type} {d : Kd α} {w : World} {e base n c : Nat} {ok : Nat → Prop} {A : Option Addr} {xs : List α}
theorem add_zero' (g i : Nat) : (⟨g, 0, none⟩ : Addr).add i = ⟨g, i, none⟩ := by
  unfold Addr.add
  split
  case isTrue h0 => rw [h0]
  case isFalse => simp
/-- A row of the call's own: its head, its block, its elements' cells. -/
theorem R_opened (h : d.R e w base ok (.slice A n c) xs) (hn : 0 < n) : ∃ g, A = some ⟨g, 0, none⟩ ∧ ok g ∧ base ≤ g ∧ g < w.heap.size ∧ n = xs.length ∧ (∃ cells, w.heap[g]? = some (.cells cells e (0, 0)) ∧ (0 < d.sz → n * d.sz ≤ cells.size)) ∧
    ∀ j p, xs[j]? = some p → ∃ cs, d.M w base (fun k => ok k ∧ k ≠ g) p cs ∧ ∀ i u, cs[i]? = some u → w.cell? ⟨g, j * d.sz + i, none⟩ = some u := by
  have hr := Kd.R_reads' h
  obtain ⟨g, cap, e1, hb, hlt, cells, hc⟩ := Kd.R_form h (by rw [← hr.1]; exact hn)
  injection e1 with e1 e2 e3
  subst e1 e3
  have hgo : (Value.slice (some ⟨g, 0, none⟩) n c).ownBlock = some g := by simp [Value.ownBlock]
  have hokg := h.1 g hgo
  obtain ⟨h0, inner, ho, hrep⟩ := h
  have hlen : inner.length = xs.length * d.sz := hrep.1
  have hcell : ∀ i u, inner[i]? = some u → w.cell? ⟨g, i, none⟩ = some u := fun i u hu => by
    have := ho.cells (g := g) hgo _ u hu
    rwa [add_zero'] at this
  refine ⟨g, rfl, hokg, hb, hlt, e2, ⟨cells, hc, fun hsz => ?_⟩, fun j p hj => ?_⟩
  · have h1 : n * d.sz - 1 < inner.length := by
      rw [hlen, ← e2]
      have : 0 < n * d.sz := Nat.mul_pos hn hsz
      omega
    have h2 := hcell _ _ (List.getElem?_eq_getElem h1)
    rw [blk_cell hc] at h2
    have := (Array.getElem?_eq_some_iff.1 h2).1
    omega
  · refine ⟨_, d.M_mono (fun k hk => ⟨hk.1, fun hkg => hk.2 (by rw [hkg, hgo])⟩) (hrep.2 j p hj), fun i u hu => ?_⟩
    rw [List.getElem?_take] at hu
    split at hu
    · rw [List.getElem?_drop] at hu
      exact hcell _ u hu
    · cases hu
theorem getElem?_zip {β : Type} {ys : List β} {j : Nat} {p : β} (h : ys[j]? = some p) : ys.zipIdx[j]? = some (p, j) := by rw [List.getElem?_zipIdx, h, Nat.zero_add]; rfl
/-- A row whose elements lie apart: f tells the element to which a block belongs. -/
theorem S_opened (h : Kd.S d e w base ok (.slice A n c) xs) (hn : 0 < n) : ∃ (f : Nat → Nat) (g : Nat), A = some ⟨g, 0, none⟩ ∧ ok g ∧ base ≤ g ∧ g < w.heap.size ∧ n = xs.length ∧ (∃ cells, w.heap[g]? = some (.cells cells e (0, 0)) ∧ (0 < d.sz → n * d.sz ≤ cells.size)) ∧
    ∀ j p, xs[j]? = some p → ∃ cs, d.M w base (fun k => (ok k ∧ k ≠ g) ∧ f k = j) p cs ∧ ∀ i u, cs[i]? = some u → w.cell? ⟨g, j * d.sz + i, none⟩ = some u := by
  obtain ⟨f, hf⟩ := h
  obtain ⟨g, h1, h2, h3, h4, h5, h6, h7⟩ := R_opened hf hn
  rw [List.length_zipIdx] at h5
  refine ⟨f, g, h1, h2, h3, h4, h5, h6, fun j p hj => ?_⟩
  obtain ⟨cs, hM, hc⟩ := h7 j (p, j) (getElem?_zip hj)
  exact ⟨cs, hM, hc⟩
end
theorem own_some (g n c : Nat) : (Value.slice (some ⟨g, 0, none⟩) n c).ownBlock = some g := by simp [Value.ownBlock]
def ownS (A : Option Addr) (k : Nat) : Prop := A = some ⟨k, 0, none⟩
def SpRel (w w1 : World) (S : Nat → Prop) (m : Nat) (i : Value) (wr : World) : Prop := ∃ k : Nat, k ≤ m ∧ i = .int .i64 k ∧ TK w1 wr ∧ Kept w wr S
theorem setCells_kept (w0 : World) (S : Nat → Prop) (g : Nat) (hg : S g ∨ w0.heap.size ≤ g) : ∀ (vs : List Value) (o : Nat) (w : World), Kept w0 w S → Kept w0 (w.setCells g o vs) S
  | [], o, w, h => h
  | v :: vs, o, w, h => setCells_kept w0 S g hg vs (o + 1) (w.setCell ⟨g, o, none⟩ v) (h.setCell (p := ⟨g, o, none⟩) hg v)
theorem own_row {W : World} {base e size n : Nat} {v : Value} {xs : List Value} (h : W.ownsRow base e size v n xs) (hn : 0 < n) : ∃ g cap cells, v = .slice (some ⟨g, 0, none⟩) n cap ∧ base ≤ g ∧ W.heap[g]? = some (.cells cells e (0, 0)) ∧ n * size ≤ cells.size := by
  rcases h.2 with ⟨_, h0⟩ | ⟨g, cap, cur, hv, hb, hh, hc, _, hs, _⟩
  · omega
  · exact ⟨g, cap, cur, hv, hb, hh, by rw [hs]; exact Nat.mul_le_mul_right _ hc⟩
/-- A row of one's own behind writes that keep rows as rows: what its cells hold is not said. -/
theorem own_tk {W W' : World} {base e size n : Nat} {v : Value} {xs : List Value} (h : W.ownsRow base e size v n xs) (ht : TK W W') : ∃ ys, W'.ownsRow base e size v n ys := by
  obtain ⟨hl, hv⟩ := h
  rcases hv with ⟨rfl, h0⟩ | ⟨g, cap, cur, hv, hb, hh, hc, hm, hs, htk⟩
  · exact ⟨xs, hl, .inl ⟨rfl, h0⟩⟩
  · obtain ⟨c2, h2, h3⟩ := ht.row g e cur hh
    refine ⟨c2.toList.take (n * size), ?_, .inr ⟨g, cap, c2, hv, hb, h2, hc, hm, h3.trans hs, rfl⟩⟩
    rw [List.length_take, Array.length_toList, h3, hs]
    exact Nat.min_eq_left (Nat.mul_le_mul_right _ hc)
section
variable {P : Program} {ops : Array Oper} {rest : List Oper} {o : Oper} {a : Act} {Q : Exit → Act → World → Prop}
/-- append of one element to a row of the call's own: what is new lies in its block or in a new one, and each row stays one. -/
theorem append_spoil {W : World} (base : Nat) (hgd : o.guard = none) (s x : Operand) (t e : TypeId) (z : Value) (size bytes : Nat)
    (ho : o.op = .call { callee := .builtin .append, args := #[s, x], argTypes := #[t, t] })
    (ht : P.underlying t = some (.slice e)) (hinfo : (P.info? e).map (fun i => (i.zero, i.size, i.bytes)) = some (some z, size, bytes)) (hz : z.cells.size = size) (hs0 : 0 < size) (hb0 : 0 < bytes)
    (A : Option Addr) (n c : Nat) (inner ys : List Value) (hs : a.eval s = .slice A n c) (hx : a.eval x = .slice (some ⟨W.heap.size, 0, none⟩) 1 1) (hys : ys.length = size) (h1 : ∀ u ∈ ys, u.oneCell' = true)
    (HO : W.ownsRow base e size (.slice A n c) n inner) (hl : (n + 1) * bytes ≤ 140737488355328)
    (h : ∀ g cap w1, (∃ cells, w1.heap[g]? = some (.cells cells e (0, 0)) ∧ (n + 1) * size ≤ cells.size) → TK W w1 → Kept W w1 (ownS A) → (ownS A g ∨ W.heap.size ≤ g) → wpList P ops Q rest (a.put o.dst (.slice (some ⟨g, 0, none⟩) (n + 1) cap)) w1) :
    wpList P ops Q (o :: rest) a (W.alloc (.cells ys.toArray e)) := by
  obtain ⟨i0, hi, hzz⟩ := Option.map_eq_some_iff.1 hinfo
  simp only [Prod.mk.injEq] at hzz
  obtain ⟨hz0, hz1, hz2⟩ := hzz
  have hlen : n + 1 ≤ 140737488355328 := Nat.le_trans (Nat.le_mul_of_pos_right _ hb0) hl
  have hin : inner.length = n * size := HO.1
  have hnews : ∀ j u, ys[j]? = some u → (W.alloc (.cells ys.toArray e)).cell? ((⟨W.heap.size, 0, none⟩ : Addr).add j) = some u := by
    simpa using World.news_of_block (cs := ys.toArray) (t := e) (fr := (0, 0)) (heap_alloc_new W (.cells ys.toArray e))
  have hTa : TK W (W.alloc (.cells ys.toArray e)) := TK.alloc W _
  have hgrown : ∀ (v' : Value) (w' : World), w'.ownsRow (W.alloc (.cells ys.toArray e)).heap.size e size v' (n + 1) (inner ++ ys) → (W.alloc (.cells ys.toArray e)).grownBy w' none → wpList P ops Q rest (a.put o.dst v') w' := by
    rintro v' w' hown hg
    obtain ⟨g, cap, cells, rfl, hb, hh, hsz⟩ := own_row hown (by omega)
    exact h g cap w' ⟨cells, hh, hsz⟩ (hTa.trans (TK.grown hg)) (Kept.of_grown hg ((Kept.refl W _).alloc _) (fun k hk => by cases hk)) (.inr (by simp at hb; omega))
  rcases HO.2 with ⟨hv, h0⟩ | ⟨g, cap, cur, hv, hb, hh, hc, hm, hsz, htake⟩
  · injection hv with e1 e2 e3
    subst e1 e2 e3
    exact wpList_append_grows _ hgd s x t ho e i0 z size bytes ht hi hz0 hz1 hz2 hz hs0 none 0 0 inner hs (fun _ => ⟨rfl, rfl⟩) hin (fun b hb => by cases hb) ⟨W.heap.size, 0, none⟩ 1 1 ys hx (by rw [hys]; simp) hnews h1 (by omega) (by simp only [maxLen]; omega) hl hgrown
  · injection hv with e1 e2 e3
    subst e1 e3
    have hh2 : (W.alloc (.cells ys.toArray e)).heap[g]? = some (.cells cur e (0, 0)) := blk_alloc hh _
    have hcs : ∀ j u, inner[j]? = some u → (W.alloc (.cells ys.toArray e)).cell? ⟨g, 0 + j, none⟩ = some u := fun j u hu => by
      rw [Nat.zero_add, blk_cell hh2]
      rw [← htake, List.getElem?_take] at hu
      split at hu
      · simpa using hu
      · cases hu
    refine wpList_append_arg _ hgd s x t ho e i0 z size bytes ht hi hz0 hz1 hz2 hz hs0 g 0 n c inner hs hin hcs ⟨W.heap.size, 0, none⟩ 1 1 ys hx (by rw [hys]; simp) hnews h1 (fun hr j hj => ?_) (by simp only [maxLen]; omega) hl (fun hr => ?_) (fun _ => hgrown)
    · have h4 : (n + 1) * size ≤ cur.size := by rw [hsz]; exact Nat.mul_le_mul_right _ hr
      rw [Nat.succ_mul] at h4
      refine ⟨?_, blk_frozen hh2 _⟩
      rw [blk_cell hh2, Array.getElem?_eq_getElem (by omega)]
      rfl
    · have htk := TK.setCells (a := W) g ys (0 + n * size) _ hTa
      obtain ⟨c2, h2, h3⟩ := htk.row g e cur hh
      exact h g c _ ⟨c2, h2, by rw [h3, hsz]; exact Nat.mul_le_mul_right _ hr⟩ htk (setCells_kept W (ownS (some ⟨g, 0, none⟩)) g (.inl rfl) ys _ _ ((Kept.refl W _).alloc _)) (.inl rfl)
end
set_option maxHeartbeats 1000000 in
set_option maxRecDepth 100000 in
theorem spoilVars_any (A : Option Addr) (n c : Nat) (inner : List Value) (w : World) (base : Nat) (h : w.ownsRow base 51 2 (.slice A n c) n inner) (hl : n ≤ 4398046511000) :
    Calls Try.prog 19 #[.slice A n c] w fun e w' => e = .returned (.tuple #[]) ∧ Kept w w' (ownS A) ∧ TK w w' := by
  have HO := Aside0.mk h
  have HROW := Aside0.mk (fun hn => own_row (n := n) h hn)
  clear h
  go_enter Try.func19, Try.ntmps19
  go_wp2_with (at_builtin; go_loud (refine append_spoil base rfl (.tmp 5) (.tmp 7) 36 51 (.agg #[(.string ⟨#[]⟩), (.string ⟨#[]⟩)]) 2 32 rfl Try.underlying36 info51 rfl (by decide) (by omega) A n c inner [.string ⟨#[115, 112, 111, 105, 108, 116]⟩, .string ⟨#[115, 112, 111, 105, 108, 116]⟩] rfl (by first | (go_simp; done) | (go_simp; rfl)) rfl (by simp [Value.oneCell']) HO.out (by omega) ?_); intro g cap w1 hce htk hk1 hgs)
  have HCE := Aside0.mk hce
  have HTK := Aside0.mk htk
  have HK := Aside0.mk hk1
  have HGS := Aside0.mk hgs
  clear hce htk hk1 hgs HO
  go_loopw [3] (fun i wr => SpRel w w1 (ownS A) (n + 1) i wr) (fun i _ => n + 1 - (intOf i).toNat)
  case atStart => exact ⟨0, Nat.zero_le _, rfl, TK.refl _, HK.out⟩
  case round =>
    obtain ⟨k, hk, rfl, ht, hkw⟩ := hrel
    have HKW := Aside0.mk hkw
    have HT := Aside0.mk ht
    by_cases hlt : k < n + 1
    · obtain ⟨cells1, hce1, hcs1⟩ := HCE.out
      obtain ⟨cells, hce, hcs⟩ := ht.row g _ cells1 hce1
      have hc0 : wr.cell? ⟨g, k * 2, none⟩ = some (cells[k * 2]'(by omega)) := (blk_cell hce _).trans (Array.getElem?_eq_getElem (by omega))
      have hc1 : wr.cell? ⟨g, k * 2 + 1, none⟩ = some (cells[k * 2 + 1]'(by omega)) := (blk_cell hce _).trans (Array.getElem?_eq_getElem (by omega))
      have hf0 := blk_frozen hce (k * 2)
      have hf1 := blk_frozen hce (k * 2 + 1)
      generalize cells[k * 2]'(by omega) = x0 at hc0
      generalize cells[k * 2 + 1]'(by omega) = x1 at hc1
      clear hce hkw ht hcs hce1 hcs1
      go_wp2
      exact ⟨⟨k + 1, by omega, by go_num, (HT.out.set g _ _).set g _ _, (HKW.out.setCell (p := ⟨g, k * 2, none⟩) HGS.out _).setCell (p := ⟨g, k * 2 + 1, none⟩) HGS.out _⟩, by simp [intOf]; omega⟩
    · clear hkw ht
      obtain ⟨wo, rfl⟩ : ∃ wo : World, wo = wr := ⟨_, rfl⟩
      go_wp2
      go_loopw [4] (fun i wr => SpRel w w1 (ownS A) n i wr) (fun i _ => n - (intOf i).toNat)
      case atStart => exact ⟨0, Nat.zero_le _, rfl, HT.out, HKW.out⟩
      case round =>
        clear HKW HT
        obtain ⟨j, hj, rfl, ht, hkw⟩ := hrel
        have HKW := Aside0.mk hkw
        have HT := Aside0.mk ht
        by_cases hltj : j < n
        · obtain ⟨ga, ca, cells1, ea, _, hce1, hcs1⟩ := HROW.out (by omega)
          injection ea with ea _ _
          subst ea
          obtain ⟨cells, hce, hcs⟩ := (HTK.out.trans ht).row ga _ cells1 hce1
          have hc0 : wr.cell? ⟨ga, j * 2, none⟩ = some (cells[j * 2]'(by omega)) := (blk_cell hce _).trans (Array.getElem?_eq_getElem (by omega))
          have hc1 : wr.cell? ⟨ga, j * 2 + 1, none⟩ = some (cells[j * 2 + 1]'(by omega)) := (blk_cell hce _).trans (Array.getElem?_eq_getElem (by omega))
          have hf0 := blk_frozen hce (j * 2)
          have hf1 := blk_frozen hce (j * 2 + 1)
          generalize cells[j * 2]'(by omega) = x0 at hc0
          generalize cells[j * 2 + 1]'(by omega) = x1 at hc1
          clear hce hkw ht hcs hce1 hcs1
          go_wp2
          exact ⟨⟨j + 1, by omega, by go_num, (HT.out.set ga _ _).set ga _ _, (HKW.out.setCell (p := ⟨ga, j * 2, none⟩) (.inl rfl) _).setCell (p := ⟨ga, j * 2 + 1, none⟩) (.inl rfl) _⟩, by simp [intOf]; omega⟩
        · clear hkw ht
          go_wp2
          go_end0
          exact ⟨rfl, HKW.out, HTK.out.trans HT.out⟩
set_option maxHeartbeats 1000000 in
set_option maxRecDepth 100000 in
theorem spoilTexts_any (A : Option Addr) (n c : Nat) (inner : List Value) (w : World) (base : Nat) (h : w.ownsRow base 9 1 (.slice A n c) n inner) (hl : n ≤ 8796093022000) :
    Calls Try.prog 48 #[.slice A n c] w fun e w' => e = .returned (.tuple #[]) ∧ Kept w w' (ownS A) ∧ TK w w' := by
  have HO := Aside0.mk h
  have HROW := Aside0.mk (fun hn => own_row (n := n) h hn)
  clear h
  go_enter Try.func48, Try.ntmps48
  go_wp2_with (at_builtin; go_loud (refine append_spoil base rfl (.tmp 5) (.tmp 6) 44 9 (.string ⟨#[]⟩) 1 16 rfl Try.underlying44 info9 rfl (by decide) (by omega) A n c inner [.string ⟨#[115, 112, 111, 105, 108, 116]⟩] rfl (by first | (go_simp; done) | (go_simp; rfl)) rfl (by simp [Value.oneCell']) HO.out (by omega) ?_); intro g cap w1 hce htk hk1 hgs)
  have HCE := Aside0.mk hce
  have HTK := Aside0.mk htk
  have HK := Aside0.mk hk1
  have HGS := Aside0.mk hgs
  clear hce htk hk1 hgs HO
  go_loopw [3] (fun i wr => SpRel w w1 (ownS A) (n + 1) i wr) (fun i _ => n + 1 - (intOf i).toNat)
  case atStart => exact ⟨0, Nat.zero_le _, rfl, TK.refl _, HK.out⟩
  case round =>
    obtain ⟨k, hk, rfl, ht, hkw⟩ := hrel
    have HKW := Aside0.mk hkw
    have HT := Aside0.mk ht
    by_cases hlt : k < n + 1
    · obtain ⟨cells1, hce1, hcs1⟩ := HCE.out
      obtain ⟨cells, hce, hcs⟩ := ht.row g _ cells1 hce1
      have hc0 : wr.cell? ⟨g, k, none⟩ = some (cells[k]'(by omega)) := (blk_cell hce _).trans (Array.getElem?_eq_getElem (by omega))
      have hf0 := blk_frozen hce (k)
      generalize cells[k]'(by omega) = x0 at hc0
      clear hce hkw ht hcs hce1 hcs1
      go_wp2
      exact ⟨⟨k + 1, by omega, by go_num, HT.out.set g _ _, HKW.out.setCell (p := ⟨g, k, none⟩) HGS.out _⟩, by simp [intOf]; omega⟩
    · clear hkw ht
      obtain ⟨wo, rfl⟩ : ∃ wo : World, wo = wr := ⟨_, rfl⟩
      go_wp2
      go_loopw [4] (fun i wr => SpRel w w1 (ownS A) n i wr) (fun i _ => n - (intOf i).toNat)
      case atStart => exact ⟨0, Nat.zero_le _, rfl, HT.out, HKW.out⟩
      case round =>
        clear HKW HT
        obtain ⟨j, hj, rfl, ht, hkw⟩ := hrel
        have HKW := Aside0.mk hkw
        have HT := Aside0.mk ht
        by_cases hltj : j < n
        · obtain ⟨ga, ca, cells1, ea, _, hce1, hcs1⟩ := HROW.out (by omega)
          injection ea with ea _ _
          subst ea
          obtain ⟨cells, hce, hcs⟩ := (HTK.out.trans ht).row ga _ cells1 hce1
          have hc0 : wr.cell? ⟨ga, j, none⟩ = some (cells[j]'(by omega)) := (blk_cell hce _).trans (Array.getElem?_eq_getElem (by omega))
          have hf0 := blk_frozen hce (j)
          generalize cells[j]'(by omega) = x0 at hc0
          clear hce hkw ht hcs hce1 hcs1
          go_wp2
          exact ⟨⟨j + 1, by omega, by go_num, HT.out.set ga _ _, HKW.out.setCell (p := ⟨ga, j, none⟩) (.inl rfl) _⟩, by simp [intOf]; omega⟩
        · clear hkw ht
          go_wp2
          go_end0
          exact ⟨rfl, HKW.out, HTK.out.trans HT.out⟩
theorem own_ok {α : Type} {d : Kd α} {w : World} {e base n c : Nat} {ok : Nat → Prop} {A : Option Addr} {xs : List α} (h : d.R e w base ok (.slice A n c) xs) : ∀ k, ownS A k → ok k := by
  intro k hk
  subst hk
  exact h.1 k (own_some k n c)
def PkRel (w : World) (ok : Nat → Prop) (A : Option Addr) (n : Nat) (i : Value) (wr : World) : Prop := ∃ k : Nat, k ≤ n ∧ i = .int .i64 k ∧ TK w wr ∧ Kept w wr ok ∧ ∀ g, ownS A g → ∀ j, k ≤ j → wr.cell? ⟨g, j, none⟩ = w.cell? ⟨g, j, none⟩
set_option maxHeartbeats 1000000 in
set_option maxRecDepth 100000 in
theorem spoilPicks_any (A : Option Addr) (n c : Nat) (xs : List (List SV)) (w0 w : World) (base : Nat) (ok : Nat → Prop) (h : Kd.R (Kd.slice 51 k51) 36 w0 base ok (.slice A n c) xs) (ht0 : TK w0 w) (hsame : ∀ k, ownS A k → w.heap[k]? = w0.heap[k]?)
    (hl : n ≤ 4398046511000) (hls : ∀ x, x ∈ xs → x.length ≤ 4398046511000) :
    Calls Try.prog 47 #[.slice A n c] w fun e w' => e = .returned (.tuple #[]) ∧ Kept w w' ok ∧ TK w w' := by
  have HN := Aside0.mk (Kd.R_reads' h).1
  have HH := Aside0.mk (fun hn => R_opened (n := n) h hn)
  have HT0 := Aside0.mk ht0
  have HS := Aside0.mk hsame
  have HLS := Aside0.mk hls
  clear h ht0 hsame hls
  go_enter Try.func47, Try.ntmps47
  go_wp2
  go_loopw [2] (fun i wr => PkRel w ok A n i wr) (fun i _ => n - (intOf i).toNat)
  case atStart => exact ⟨0, Nat.zero_le _, rfl, TK.refl _, Kept.refl _ _, fun _ _ _ _ => rfl⟩
  case round =>
    obtain ⟨k, hk, rfl, ht, hkw, hcl⟩ := hrel
    have HK := Aside0.mk hkw
    have HT := Aside0.mk ht
    have HCL := Aside0.mk hcl
    clear hkw ht hcl
    by_cases hlt : k < n
    · obtain ⟨g, rfl, hokg, _, _, -, ⟨cells0, hce0, hcs0⟩, hM⟩ := HH.out (by omega)
      have hcs1 : n ≤ cells0.size := by simpa [Kd.slice] using hcs0 (by decide)
      have hce1 := (HS.out g rfl).trans hce0
      obtain ⟨cells, hce, hcs⟩ := HT.out.row g _ _ hce1
      obtain ⟨cs, hMk, hcell⟩ := hM k (xs[k]'(by have := HN.out; omega)) (List.getElem?_eq_getElem (by have := HN.out; omega))
      obtain ⟨v, rfl, hR⟩ := hMk
      have hcv : wr.cell? ⟨g, k, none⟩ = some v := by
        have h1 := hcell 0 v rfl
        rw [HCL.out g rfl k (Nat.le_refl _), blk_cell hce1, ← blk_cell hce0]
        simpa [Kd.slice] using h1
      have hxl := HLS.out _ (List.getElem_mem (show k < xs.length by have := HN.out; omega))
      generalize xs[k]'(by have := HN.out; omega) = x at hR hxl
      obtain ⟨A', c', e', _, _⟩ := Kd.R_reads hR
      subst e'
      have hown := own_ok hR
      obtain ⟨inner0, hin0⟩ := Kd.R_own hR
      obtain ⟨inner, hin⟩ := own_tk hin0 (HT0.out.trans HT.out)
      have HIN := Aside0.mk hin
      have HOWN := Aside0.mk hown
      have HCE := Aside0.mk hce
      have hf0 := blk_frozen hce k
      have HCS := Aside0.mk (show k < cells.size by omega)
      clear hR hown hce hcell hcs hM hce0 hce1 hcs0 hin hin0
      go_wp2_with (go_at_call 19; refine (spoilVars_any A' x.length c' inner _ _ HIN.out hxl).mono ?_; rintro e w2 ⟨rfl, hk2, ht2⟩; have HCE2 := Aside0.mk (blk_kept HCE.out hk2 (fun h2 => (HOWN.out g h2).2 rfl)); have HK2 := Aside0.mk hk2; have HT2 := Aside0.mk ht2; have hcv2 : w2.cell? ⟨g, k, none⟩ = some (cells[k]'HCS.out) := (blk_cell HCE2.out _).trans (Array.getElem?_eq_getElem HCS.out); have hf2 := blk_frozen HCE2.out k; clear hk2 ht2 hcv hf0)
      go_roundw
      case measure => simp [intOf]; omega
      refine ⟨k + 1, by omega, by go_num, (HT.out.trans HT2.out).set g _ _, ?_, fun g' hg' j hj => ?_⟩
      · refine Kept.setCell (p := ⟨g, k, none⟩) ?_ (.inl hokg) _
        exact HK.out.then_ HK2.out (fun b hb => .inl (HOWN.out b hb).1)
      · obtain rfl : g = g' := by injection hg' with e; injection e
        rw [blk_cell (blk_set HCE2.out k _), Array.getElem?_setIfInBounds_ne (by omega), ← HCL.out g rfl j (by omega), blk_cell HCE.out]
    · go_wp2
      go_end0
      exact ⟨rfl, HK.out, HT.out⟩
theorem R_typed2 {α : Type} {d : Kd α} {w : World} {e base n c : Nat} {ok : Nat → Prop} {A : Option Addr} {xs : List α} (h : d.R e w base ok (.slice A n c) xs) : d.R e w base (fun k => ok k ∧ ∃ q, q ∈ e :: d.E ∧ ∃ cells, w.heap[k]? = some (.cells cells q (0, 0))) (.slice A n c) xs :=
  Kd.R_mono (Kd.R_bound h) (fun k hk => ⟨hk.1, hk.2.2.2⟩)
def AxRel (w : World) (ok : Nat → Prop) (bx : Obj) (A : Option Addr) (n : Nat) (i : Value) (wr : World) : Prop := ∃ k : Nat, k ≤ n ∧ i = .int .i64 k ∧ wr.heap[w.heap.size]? = some bx ∧ TK w wr ∧ Kept w wr ok ∧ ∀ g, ownS A g → ∀ j, k * 2 ≤ j → wr.cell? ⟨g, j, none⟩ = w.cell? ⟨g, j, none⟩
set_option maxHeartbeats 1000000 in
set_option maxRecDepth 100000 in
theorem spoilMatrix_any (A0 A1 A2 : Option Addr) (n0 n1 n2 c0 c1 c2 : Nat) (axes : AX) (inc exc : List (List SV)) (w : World) (base : Nat) (ok0 ok1 ok2 ok : Nat → Prop) (h0 : Kd.R k46 46 w base ok0 (.slice A0 n0 c0) axes)
    (h1 : Kd.R (Kd.slice 51 k51) 36 w base ok1 (.slice A1 n1 c1) inc) (h2 : Kd.R (Kd.slice 51 k51) 36 w base ok2 (.slice A2 n2 c2) exc) (hd : ∀ k, ownS A2 k → ¬ ok1 k) (hk0 : ∀ k, ok0 k → ok k) (hk1 : ∀ k, ok1 k → ok k) (hk2 : ∀ k, ok2 k → ok k)
    (hl0 : n0 ≤ 4398046511000) (hl1 : n1 ≤ 4398046511000) (hl2 : n2 ≤ 4398046511000) (hls0 : ∀ x, x ∈ axes → x.f1.length ≤ 4398046511000) (hls1 : ∀ x, x ∈ inc → x.length ≤ 4398046511000) (hls2 : ∀ x, x ∈ exc → x.length ≤ 4398046511000) :
    Calls Try.prog 18 #[.agg #[.slice A0 n0 c0, .slice A1 n1 c1, .slice A2 n2 c2]] w fun e w' => e = .returned (.tuple #[]) ∧ Kept w w' ok ∧ TK w w' := by
  have hb := blk_new w (.cells #[.slice A0 n0 c0, .slice A1 n1 c1, .slice A2 n2 c2] 25)
  have H0 := Aside0.mk (R_typed2 h0)
  have H1 := Aside0.mk (Kd.R_alloc (R_typed2 h1) (.cells #[.slice A0 n0 c0, .slice A1 n1 c1, .slice A2 n2 c2] 25))
  have H2 := Aside0.mk (Kd.R_alloc (R_typed2 h2) (.cells #[.slice A0 n0 c0, .slice A1 n1 c1, .slice A2 n2 c2] 25))
  have HD := Aside0.mk hd
  have HH := Aside0.mk (fun hn => R_opened (n := n0) h0 hn)
  have HN := Aside0.mk (Kd.R_reads' h0).1
  have hW : ∀ k, k < w.heap.size → (w.alloc (.cells #[.slice A0 n0 c0, .slice A1 n1 c1, .slice A2 n2 c2] 25)).heap[k]? = w.heap[k]? := fun k hk => Below.heap_alloc w _ k hk
  have htk0 := TK.alloc w (.cells #[.slice A0 n0 c0, .slice A1 n1 c1, .slice A2 n2 c2] 25)
  have hkp0 := (Kept.refl w ok).alloc (.cells #[.slice A0 n0 c0, .slice A1 n1 c1, .slice A2 n2 c2] 25)
  have HB := Aside0.mk hb
  have HTK := Aside0.mk htk0
  have HKP := Aside0.mk hkp0
  have HW := Aside0.mk hW
  have HLS0 := Aside0.mk hls0
  have HLS1 := Aside0.mk hls1
  have HLS2 := Aside0.mk hls2
  have HK0 := Aside0.mk hk0
  have HK1 := Aside0.mk hk1
  have HK2 := Aside0.mk hk2
  clear h0 h1 h2 hd hb hW htk0 hkp0 hls0 hls1 hls2 hk0 hk1 hk2
  go_enter Try.func18, Try.ntmps18
  go_wp2_with (first
    | (go_at_call 47; refine (spoilPicks_any A2 n2 c2 exc _ w2 base _ H2.out HT2.out (fun k hk => HC2.out.2 k (by subst hk; exact Kd.R_lt H2.out k (own_some k n2 c2)) (fun h => HD.out k hk h.1)) hl2 HLS2.out).mono ?_; rintro e w3 ⟨rfl, hc3, ht3⟩; have HB3 := Aside0.mk (blk_kept HB2.out hc3 (fun h => by obtain ⟨_, _, _, _, h⟩ := h; have := blk_lt h; omega)); have HC3 := Aside0.mk hc3; have HT3 := Aside0.mk ht3; have m0 : w3.cell? ⟨w.heap.size, 0, none⟩ = some (.slice A0 n0 c0) := (blk_cell HB3.out 0).trans rfl; clear hc3 ht3)
    | (go_at_call 47; refine (spoilPicks_any A1 n1 c1 inc _ _ base _ H1.out (TK.refl _) (fun _ _ => rfl) hl1 HLS1.out).mono ?_; rintro e w2 ⟨rfl, hc2, ht2⟩; have HB2 := Aside0.mk (blk_kept HB.out hc2 (fun h => by obtain ⟨_, _, _, _, h⟩ := h; have := blk_lt h; omega)); have HC2 := Aside0.mk hc2; have HT2 := Aside0.mk ht2; have m2 : w2.cell? ⟨w.heap.size, 2, none⟩ = some (.slice A2 n2 c2) := (blk_cell HB2.out 2).trans rfl; clear hc2 ht2))
  have hkk : Kept w w3 ok := (HKP.out.then_ HC2.out (fun k hk => .inl (HK1.out k hk.1))).then_ HC3.out (fun k hk => .inl (HK2.out k hk.1))
  have hax : ∀ g, ownS A0 g → w3.heap[g]? = w.heap[g]? := by
    intro g hg
    subst hg
    obtain ⟨cells, hc⟩ := Kd.R_typed H0.out g (own_some g n0 c0)
    have hlt := blk_lt hc
    have e1 := HC2.out.2 g (by simp; omega) (fun h => by
      obtain ⟨_, q, hq, cells', hc'⟩ := h
      rw [hc] at hc'
      injection hc' with hc'
      injection hc' with _ hc' _
      subst hc'
      revert hq
      decide)
    have e2 := HC3.out.2 g (by have := HC2.out.1; simp at this; omega) (fun h => by
      obtain ⟨_, q, hq, cells', hc'⟩ := h
      rw [hc] at hc'
      injection hc' with hc'
      injection hc' with _ hc' _
      subst hc'
      revert hq
      decide)
    exact (e2.trans e1).trans (HW.out g hlt)
  have HAX := Aside0.mk hax
  have HKK := Aside0.mk hkk
  have HTT := Aside0.mk ((HTK.out.trans HT2.out).trans HT3.out)
  clear hax hkk HC2 HC3 HT2 HT3 HB2 HB HTK HKP m2 H1 H2
  go_loopw [2] (fun i wr => AxRel w ok (.cells #[.slice A0 n0 c0, .slice A1 n1 c1, .slice A2 n2 c2] 25 (0, 0)) A0 n0 i wr) (fun i _ => n0 - (intOf i).toNat)
  case atStart => exact ⟨0, Nat.zero_le _, rfl, HB3.out, HTT.out, HKK.out, fun g hg j _ => World.cell?_of_block (HAX.out g hg)⟩
  case round =>
    clear HB3 HTT HKK HAX m0
    obtain ⟨k, hk, rfl, hbx, ht, hkw, hcl⟩ := hrel
    have hm0 : wr.cell? ⟨w.heap.size, 0, none⟩ = some (.slice A0 n0 c0) := (blk_cell hbx 0).trans rfl
    have HK := Aside0.mk hkw
    have HT := Aside0.mk ht
    have HCL := Aside0.mk hcl
    have HBX := Aside0.mk hbx
    clear hkw ht hcl hbx
    by_cases hlt : k < n0
    · obtain ⟨g, rfl, hokg, _, hgw, -, ⟨cells0, hce0, hcs0⟩, hM⟩ := HH.out (by omega)
      have hcs1 : n0 * 2 ≤ cells0.size := hcs0 (by decide)
      obtain ⟨cells, hce, hcs⟩ := HT.out.row g _ _ hce0
      obtain ⟨cs, hMk, hcell⟩ := hM k (axes[k]'(by have := HN.out; omega)) (List.getElem?_eq_getElem (by have := HN.out; omega))
      obtain ⟨v, rfl, hR⟩ := k46_openM hMk
      have hcv0 : wr.cell? ⟨g, k * 2, none⟩ = some (.string (axes[k]'(by have := HN.out; omega)).f0) := by
        rw [HCL.out g rfl _ (Nat.le_refl _)]
        exact hcell 0 _ rfl
      have hcv1 : wr.cell? ⟨g, k * 2 + 1, none⟩ = some v := by
        rw [HCL.out g rfl _ (by omega)]
        exact hcell 1 _ rfl
      have hxl := HLS0.out _ (List.getElem_mem (show k < axes.length by have := HN.out; omega))
      generalize axes[k]'(by have := HN.out; omega) = x at hR hxl hcv0
      obtain ⟨A', c', e', _, _⟩ := Kd.R_reads hR
      subst e'
      have hown := own_ok hR
      have holt : ∀ b, ownS A' b → b < w.heap.size := fun b hb => by subst hb; exact Kd.R_lt hR b (own_some b _ _)
      obtain ⟨inner0, hin0⟩ := Kd.R_own hR
      obtain ⟨inner, hin⟩ := own_tk hin0 HT.out
      have HIN := Aside0.mk hin
      have HOWN := Aside0.mk hown
      have HOLT := Aside0.mk holt
      have HCE := Aside0.mk hce
      have HCS := Aside0.mk (show k * 2 + 1 < cells.size by omega)
      clear hR hown holt hce hcell hcs hM hce0 hcs0 hin hin0
      go_wp2_with (go_at_call 48; refine (spoilTexts_any A' x.f1.length c' inner _ _ HIN.out (by omega)).mono ?_; rintro e w2 ⟨rfl, hk2, ht2⟩; have HCE2 := Aside0.mk (blk_kept HCE.out hk2 (fun h2 => (HOWN.out g h2).2 rfl)); have HBX2 := Aside0.mk (blk_kept HBX.out hk2 (fun h2 => by have := HOLT.out _ h2; omega)); have HKS2 := Aside0.mk hk2; have HT2 := Aside0.mk ht2; have hcw0 : w2.cell? ⟨g, k * 2, none⟩ = some (cells[k * 2]'(by have := HCS.out; omega)) := (blk_cell HCE2.out _).trans (Array.getElem?_eq_getElem (by have := HCS.out; omega)); have hcw1 : w2.cell? ⟨g, k * 2 + 1, none⟩ = some (cells[k * 2 + 1]'HCS.out) := (blk_cell HCE2.out _).trans (Array.getElem?_eq_getElem HCS.out); have hf2 := blk_frozen HCE2.out (k * 2); have hf3 := blk_frozen HCE2.out (k * 2 + 1); have hm2 : w2.cell? ⟨w.heap.size, 0, none⟩ = some (.slice (some ⟨g, 0, none⟩) n0 c0) := (blk_cell HBX2.out 0).trans rfl; clear hk2 ht2 hcv0 hcv1 hm0; generalize cells[k * 2]'(by have := HCS.out; omega) = y0 at hcw0; generalize cells[k * 2 + 1]'HCS.out = y1 at hcw1)
      go_roundw
      case measure => simp [intOf]; omega
      refine ⟨k + 1, by omega, by go_num, ?_, ((HT.out.trans HT2.out).set g _ _).set g _ _, ?_, fun g' hg' j hj => ?_⟩
      · exact blk_far (p := ⟨g, k * 2 + 1, none⟩) (blk_far (p := ⟨g, k * 2, none⟩) HBX2.out (by show _ ≠ g; omega) _) (by show _ ≠ g; omega) _
      · refine Kept.setCell (p := ⟨g, k * 2 + 1, none⟩) (Kept.setCell (p := ⟨g, k * 2, none⟩) ?_ (.inl (HK0.out g hokg)) _) (.inl (HK0.out g hokg)) _
        exact HK.out.then_ HKS2.out (fun b hb => .inl (HK0.out b (HOWN.out b hb).1))
      · obtain rfl : g = g' := by injection hg' with e; injection e
        rw [blk_cell (blk_set (blk_set HCE2.out (k * 2) _) (k * 2 + 1) _), Array.getElem?_setIfInBounds_ne (by omega), Array.getElem?_setIfInBounds_ne (by omega), ← HCL.out g rfl j (by omega), blk_cell HCE.out]
    · go_wp2
      go_end0
      exact ⟨rfl, HK.out, HT.out⟩
end Go.Proofs.Ytdgllnaeookddaa.Q
