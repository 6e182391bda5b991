/- What the laws' spoilers of lists, picks and matrices write to: nothing but their arguments' own blocks. -/
import Derived.Test.YtfkibolpanlelaaFAVLend
namespace Go.Proofs.Ytfkibolpanlelaa.Q
open Go Go.RowKit Go.Shelf Go.Proofs.YtfkibolpanlelaaW.PrintWords Go.Proofs.YtfkibolpanlelaaW.PrintLast Go.Proofs.YtfkibolpanlelaaW.PrintMore Go.Proofs.Ytfkibolpanlelaa.SMap
set_option linter.unusedVariables false
set_option linter.unusedSimpArgs false
/-- Each row of cells stays one, of its type and its length; and nothing but memory turns. -/
structure TK (w w' : World) : Prop where
  b : Below 0 w w'
  row : ∀ (g : Nat) (t : TypeId) (cells : Array Value), w.heap[g]? = some (.cells cells t (0, 0)) → ∃ cells' : Array Value, w'.heap[g]? = some (.cells cells' t (0, 0)) ∧ cells'.size = cells.size
theorem TK.refl (w : World) : TK w w := ⟨Below.refl _ _, fun g t cells h => ⟨cells, h, rfl⟩⟩
theorem TK.trans {a b c : World} (h : TK a b) (k : TK b c) : TK a c := ⟨h.b.trans k.b, fun g t cells hg => by
  obtain ⟨c1, h1, h2⟩ := h.row g t cells hg
  obtain ⟨c2, h3, h4⟩ := k.row g t c1 h1
  exact ⟨c2, h3, h4.trans h2⟩⟩
theorem TK.of_same {w w' : World} (hb : Below 0 w w') (h : ∀ k, k < w.heap.size → w'.heap[k]? = w.heap[k]?) : TK w w' := ⟨hb, fun g t cells hg => ⟨cells, (h g (blk_lt hg)).trans hg, rfl⟩⟩
theorem TK.of_below {w w' : World} (h : Below w.heap.size w w') : TK w w' := TK.of_same (h.mono (Nat.zero_le _)) fun k hk => h.block k hk
theorem TK.set {a w : World} (h : TK a w) (g j : Nat) (u : Value) : TK a (w.setCell ⟨g, j, none⟩ u) := h.trans ⟨(Below.refl 0 w).setCell (p := ⟨g, j, none⟩) (Nat.zero_le _) u, fun g' t cells hg => by
  by_cases he : g' = g
  · subst he
    exact ⟨_, blk_set hg j u, by simp⟩
  · exact ⟨cells, blk_far hg he u, rfl⟩⟩
theorem TK.setCells {a : World} (g : Nat) : ∀ (vs : List Value) (o : Nat) (w : World), TK a w → TK a (w.setCells g o vs)
  | [], o, w, h => h
  | v :: vs, o, w, h => TK.setCells g vs (o + 1) (w.setCell ⟨g, o, none⟩ v) (h.set g o v)
theorem TK.alloc (w : World) (o : Obj) : TK w (w.alloc o) := TK.of_same ((Below.refl 0 w).alloc (Nat.zero_le _) o) fun k hk => Below.heap_alloc w o k hk
theorem TK.grown {w w' : World} (hg : w.grownBy w' none) : TK w w' := TK.of_same ⟨hg.os, hg.tape, hg.output, hg.size, fun k hk => absurd hk (Nat.not_lt_zero _)⟩ fun k hk => hg.block k hk (by simp)
/-- What is kept but for blocks from a number on is Below that number. -/
theorem TK.below {w w' : World} {S : Nat → Prop} (h : TK w w') (hk : Kept w w' S) {B : Nat} (hB : B ≤ w.heap.size) (hS : ∀ k, S k → B ≤ k) : Below B w w' :=
  ⟨h.b.os, h.b.tape, h.b.output, h.b.size, fun k hlt => hk.2 k (Nat.lt_of_lt_of_le hlt hB) (fun hs => by have := hS k hs; omega)⟩
theorem own_some (g n c : Nat) : (Value.slice (some ⟨g, 0, none⟩) n c).ownBlock = some g := by simp [Value.ownBlock]
def ownS (A : Option Addr) (k : Nat) : Prop := A = some ⟨k, 0, none⟩
def SpRel (w w1 : World) (S : Nat → Prop) (m : Nat) (i : Value) (wr : World) : Prop := ∃ k : Nat, k ≤ m ∧ i = .int .i64 k ∧ TK w1 wr ∧ Kept w wr S
theorem setCells_kept (w0 : World) (S : Nat → Prop) (g : Nat) (hg : S g ∨ w0.heap.size ≤ g) : ∀ (vs : List Value) (o : Nat) (w : World), Kept w0 w S → Kept w0 (w.setCells g o vs) S
  | [], o, w, h => h
  | v :: vs, o, w, h => setCells_kept w0 S g hg vs (o + 1) (w.setCell ⟨g, o, none⟩ v) (h.setCell (p := ⟨g, o, none⟩) hg v)
theorem own_row {W : World} {base e size n : Nat} {v : Value} {xs : List Value} (h : W.ownsRow base e size v n xs) (hn : 0 < n) : ∃ g cap cells, v = .slice (some ⟨g, 0, none⟩) n cap ∧ base ≤ g ∧ W.heap[g]? = some (.cells cells e (0, 0)) ∧ n * size ≤ cells.size := by
  rcases h.2 with ⟨_, h0⟩ | ⟨g, cap, cur, hv, hb, hh, hc, _, hs, _⟩
  · omega
  · exact ⟨g, cap, cur, hv, hb, hh, by rw [hs]; exact Nat.mul_le_mul_right _ hc⟩
section
variable {P : Program} {ops : Array Oper} {rest : List Oper} {o : Oper} {a : Act} {Q : Exit → Act → World → Prop}
/-- append of one element to a row of the call's own: what is new lies in its block or in a new one, and each row stays one. -/
theorem append_spoil {W : World} (base : Nat) (hgd : o.guard = none) (s x : Operand) (t e : TypeId) (z : Value) (size bytes : Nat)
    (ho : o.op = .call { callee := .builtin .append, args := #[s, x], argTypes := #[t, t] })
    (ht : P.underlying t = some (.slice e)) (hinfo : (P.info? e).map (fun i => (i.zero, i.size, i.bytes)) = some (some z, size, bytes)) (hz : z.cells.size = size) (hs0 : 0 < size) (hb0 : 0 < bytes)
    (A : Option Addr) (n c : Nat) (inner ys : List Value) (hs : a.eval s = .slice A n c) (hx : a.eval x = .slice (some ⟨W.heap.size, 0, none⟩) 1 1) (hys : ys.length = size) (h1 : ∀ u ∈ ys, u.oneCell' = true)
    (HO : W.ownsRow base e size (.slice A n c) n inner) (hl : (n + 1) * bytes ≤ 140737488355328)
    (h : ∀ g cap w1, (∃ cells, w1.heap[g]? = some (.cells cells e (0, 0)) ∧ (n + 1) * size ≤ cells.size) → TK W w1 → Kept W w1 (ownS A) → (ownS A g ∨ W.heap.size ≤ g) → wpList P ops Q rest (a.put o.dst (.slice (some ⟨g, 0, none⟩) (n + 1) cap)) w1) :
    wpList P ops Q (o :: rest) a (W.alloc (.cells ys.toArray e)) := by
  obtain ⟨i0, hi, hzz⟩ := Option.map_eq_some_iff.1 hinfo
  simp only [Prod.mk.injEq] at hzz
  obtain ⟨hz0, hz1, hz2⟩ := hzz
  have hlen : n + 1 ≤ 140737488355328 := Nat.le_trans (Nat.le_mul_of_pos_right _ hb0) hl
  have hin : inner.length = n * size := HO.1
  have hnews : ∀ j u, ys[j]? = some u → (W.alloc (.cells ys.toArray e)).cell? ((⟨W.heap.size, 0, none⟩ : Addr).add j) = some u := by
    simpa using World.news_of_block (cs := ys.toArray) (t := e) (fr := (0, 0)) (heap_alloc_new W (.cells ys.toArray e))
  have hTa : TK W (W.alloc (.cells ys.toArray e)) := TK.alloc W _
  have hgrown : ∀ (v' : Value) (w' : World), w'.ownsRow (W.alloc (.cells ys.toArray e)).heap.size e size v' (n + 1) (inner ++ ys) → (W.alloc (.cells ys.toArray e)).grownBy w' none → wpList P ops Q rest (a.put o.dst v') w' := by
    rintro v' w' hown hg
    obtain ⟨g, cap, cells, rfl, hb, hh, hsz⟩ := own_row hown (by omega)
    exact h g cap w' ⟨cells, hh, hsz⟩ (hTa.trans (TK.grown hg)) (Kept.of_grown hg ((Kept.refl W _).alloc _) (fun k hk => by cases hk)) (.inr (by simp at hb; omega))
  rcases HO.2 with ⟨hv, h0⟩ | ⟨g, cap, cur, hv, hb, hh, hc, hm, hsz, htake⟩
  · injection hv with e1 e2 e3
    subst e1 e2 e3
    exact wpList_append_grows _ hgd s x t ho e i0 z size bytes ht hi hz0 hz1 hz2 hz hs0 none 0 0 inner hs (fun _ => ⟨rfl, rfl⟩) hin (fun b hb => by cases hb) ⟨W.heap.size, 0, none⟩ 1 1 ys hx (by rw [hys]; simp) hnews h1 (by omega) (by simp only [maxLen]; omega) hl hgrown
  · injection hv with e1 e2 e3
    subst e1 e3
    have hh2 : (W.alloc (.cells ys.toArray e)).heap[g]? = some (.cells cur e (0, 0)) := blk_alloc hh _
    have hcs : ∀ j u, inner[j]? = some u → (W.alloc (.cells ys.toArray e)).cell? ⟨g, 0 + j, none⟩ = some u := fun j u hu => by
      rw [Nat.zero_add, blk_cell hh2]
      rw [← htake, List.getElem?_take] at hu
      split at hu
      · simpa using hu
      · cases hu
    refine wpList_append_arg _ hgd s x t ho e i0 z size bytes ht hi hz0 hz1 hz2 hz hs0 g 0 n c inner hs hin hcs ⟨W.heap.size, 0, none⟩ 1 1 ys hx (by rw [hys]; simp) hnews h1 (fun hr j hj => ?_) (by simp only [maxLen]; omega) hl (fun hr => ?_) (fun _ => hgrown)
    · have h4 : (n + 1) * size ≤ cur.size := by rw [hsz]; exact Nat.mul_le_mul_right _ hr
      rw [Nat.succ_mul] at h4
      refine ⟨?_, blk_frozen hh2 _⟩
      rw [blk_cell hh2, Array.getElem?_eq_getElem (by omega)]
      rfl
    · have htk := TK.setCells (a := W) g ys (0 + n * size) _ hTa
      obtain ⟨c2, h2, h3⟩ := htk.row g e cur hh
      exact h g c _ ⟨c2, h2, by rw [h3, hsz]; exact Nat.mul_le_mul_right _ hr⟩ htk (setCells_kept W (ownS (some ⟨g, 0, none⟩)) g (.inl rfl) ys _ _ ((Kept.refl W _).alloc _)) (.inl rfl)
end
set_option maxHeartbeats 1000000 in
set_option maxRecDepth 100000 in
theorem spoilVars_any (A : Option Addr) (n c : Nat) (inner : List Value) (w : World) (base : Nat) (h : w.ownsRow base 41 2 (.slice A n c) n inner) (hl : n ≤ 4398046511000) :
    Calls Try.prog 18 #[.slice A n c] w fun e w' => e = .returned (.tuple #[]) ∧ Kept w w' (ownS A) ∧ TK w w' := by
  have HO := Aside0.mk h
  have HROW := Aside0.mk (fun hn => own_row (n := n) h hn)
  clear h
  go_enter Try.func18, Try.ntmps18
  go_wp2_with (at_builtin; go_loud (refine append_spoil base rfl (.tmp 5) (.tmp 7) 22 41 (.agg #[(.string ⟨#[]⟩), (.string ⟨#[]⟩)]) 2 32 rfl Try.underlying22 info41 rfl (by decide) (by omega) A n c inner [.string ⟨#[115, 112, 111, 105, 108, 116]⟩, .string ⟨#[115, 112, 111, 105, 108, 116]⟩] rfl (by first | (go_simp; done) | (go_simp; rfl)) rfl (by simp [Value.oneCell']) HO.out (by omega) ?_); intro g cap w1 hce htk hk1 hgs)
  have HCE := Aside0.mk hce
  have HTK := Aside0.mk htk
  have HK := Aside0.mk hk1
  have HGS := Aside0.mk hgs
  clear hce htk hk1 hgs HO
  go_loopw [3] (fun i wr => SpRel w w1 (ownS A) (n + 1) i wr) (fun i _ => n + 1 - (intOf i).toNat)
  case atStart => exact ⟨0, Nat.zero_le _, rfl, TK.refl _, HK.out⟩
  case round =>
    obtain ⟨k, hk, rfl, ht, hkw⟩ := hrel
    have HKW := Aside0.mk hkw
    have HT := Aside0.mk ht
    by_cases hlt : k < n + 1
    · obtain ⟨cells1, hce1, hcs1⟩ := HCE.out
      obtain ⟨cells, hce, hcs⟩ := ht.row g _ cells1 hce1
      have hc0 : wr.cell? ⟨g, k * 2, none⟩ = some (cells[k * 2]'(by omega)) := (blk_cell hce _).trans (Array.getElem?_eq_getElem (by omega))
      have hc1 : wr.cell? ⟨g, k * 2 + 1, none⟩ = some (cells[k * 2 + 1]'(by omega)) := (blk_cell hce _).trans (Array.getElem?_eq_getElem (by omega))
      have hf0 := blk_frozen hce (k * 2)
      have hf1 := blk_frozen hce (k * 2 + 1)
      generalize cells[k * 2]'(by omega) = x0 at hc0
      generalize cells[k * 2 + 1]'(by omega) = x1 at hc1
      clear hce hkw ht hcs hce1 hcs1
      go_wp2
      exact ⟨⟨k + 1, by omega, by go_num, (HT.out.set g _ _).set g _ _, (HKW.out.setCell (p := ⟨g, k * 2, none⟩) HGS.out _).setCell (p := ⟨g, k * 2 + 1, none⟩) HGS.out _⟩, by simp [intOf]; omega⟩
    · clear hkw ht
      obtain ⟨wo, rfl⟩ : ∃ wo : World, wo = wr := ⟨_, rfl⟩
      go_wp2
      go_loopw [4] (fun i wr => SpRel w w1 (ownS A) n i wr) (fun i _ => n - (intOf i).toNat)
      case atStart => exact ⟨0, Nat.zero_le _, rfl, HT.out, HKW.out⟩
      case round =>
        clear HKW HT
        obtain ⟨j, hj, rfl, ht, hkw⟩ := hrel
        have HKW := Aside0.mk hkw
        have HT := Aside0.mk ht
        by_cases hltj : j < n
        · obtain ⟨ga, ca, cells1, ea, _, hce1, hcs1⟩ := HROW.out (by omega)
          injection ea with ea _ _
          subst ea
          obtain ⟨cells, hce, hcs⟩ := (HTK.out.trans ht).row ga _ cells1 hce1
          have hc0 : wr.cell? ⟨ga, j * 2, none⟩ = some (cells[j * 2]'(by omega)) := (blk_cell hce _).trans (Array.getElem?_eq_getElem (by omega))
          have hc1 : wr.cell? ⟨ga, j * 2 + 1, none⟩ = some (cells[j * 2 + 1]'(by omega)) := (blk_cell hce _).trans (Array.getElem?_eq_getElem (by omega))
          have hf0 := blk_frozen hce (j * 2)
          have hf1 := blk_frozen hce (j * 2 + 1)
          generalize cells[j * 2]'(by omega) = x0 at hc0
          generalize cells[j * 2 + 1]'(by omega) = x1 at hc1
          clear hce hkw ht hcs hce1 hcs1
          go_wp2
          exact ⟨⟨j + 1, by omega, by go_num, (HT.out.set ga _ _).set ga _ _, (HKW.out.setCell (p := ⟨ga, j * 2, none⟩) (.inl rfl) _).setCell (p := ⟨ga, j * 2 + 1, none⟩) (.inl rfl) _⟩, by simp [intOf]; omega⟩
        · clear hkw ht
          go_wp2
          go_end0
          exact ⟨rfl, HKW.out, HTK.out.trans HT.out⟩
end Go.Proofs.Ytfkibolpanlelaa.Q
