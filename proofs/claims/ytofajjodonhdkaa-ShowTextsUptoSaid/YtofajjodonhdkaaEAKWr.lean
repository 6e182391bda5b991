/- The writer writes a node's parts: write of package show. -/
import Derived.Test.YtofajjodonhdkaaEAKSayT
import Derived.Test.YtofajjodonhdkaaEAKBld
import Derived.Test.YtofajjodonhdkaaEAKRange
import Derived.Scope
import Derived.Outline
import Derived.StillTailTactics
namespace Go.Proofs.Ytofajjodonhdkaa.Q
open Go Go.RowKit Go.Shelf Go.Proofs.YtofajjodonhdkaaW.PrintWords Go.Proofs.YtofajjodonhdkaaW.PrintLast Go.Proofs.YtofajjodonhdkaaW.PrintMore
attribute [local go_sem] Oper.semAt_some
set_option linter.unusedVariables false
set_option linter.unusedSimpArgs false
set_option linter.unusedSectionVars false
def indU (d : Int) : List UInt8 := Lib.repeatL [32, 32] (d - 1).toNat
def signU (t : List SN) (p x : Nat) : List UInt8 := if (nd t p).f0 = 1 then keyU (nd t x).f2 ++ [58] else [45]
def lineU (t : List SN) (p x : Nat) : List UInt8 := ((indU (nd t x).f1 ++ signU t p x) ++ saysU t x) ++ [10]
abbrev OL := List UInt8 × Nat
/-- One part: nothing more, if there is too much already. -/
def rnd (f : Nat → OL → OL) (t : List SN) (p : Nat) (s : OL) (x : Nat) : OL := if 65536 < s.1.length then s else f x (s.1 ++ lineU t p x, s.2 + 1)
def wr (t : List SN) : Nat → Nat → OL → OL
  | 0, _, s => s
  | k + 1, p, s => (partsOf t p).foldl (rnd (wr t k) t p) s
structure Good (t : List SN) : Prop where
  len : t.length ≤ 1048576
  kind : ∀ i, 1 ≤ i → i < t.length → (nd t i).f0 = 1 ∨ (nd t i).f0 = 2 ∨ (nd t i).f0 = 3
  d1 : ∀ i, 1 ≤ i → i < t.length → 1 ≤ (nd t i).f1
  d0 : ∀ i, i < t.length → 0 ≤ (nd t i).f1
  d2 : ∀ i, i < t.length → (nd t i).f1 ≤ 32
  key : ∀ i, i < t.length → (nd t i).f2.size ≤ 1048576
  txt : ∀ i, i < t.length → (nd t i).f3.size ≤ 1048576
theorem partsFrom_mem (t : List SN) (d : Int) : ∀ k n x, x ∈ partsFrom t d k n → n ≤ x ∧ x < n + k
  | 0, n, x, h => by cases h
  | k + 1, n, x, h => by
    unfold partsFrom at h
    split at h
    · rcases List.mem_append.1 h with h | h
      · split at h
        · rw [List.mem_singleton.1 h]; omega
        · cases h
      · have := partsFrom_mem t d k (n + 1) x h
        omega
    · cases h
theorem parts_mem {t : List SN} {i x : Nat} (h : x ∈ partsOf t i) : i < x ∧ x < t.length := by
  have := partsFrom_mem t _ _ _ _ h
  by_cases hi : i + 1 ≤ t.length
  · omega
  · have e : t.length - (i + 1) = 0 := by omega
    rw [e] at this
    omega
theorem repeatL_len (l : List UInt8) : ∀ c, (Lib.repeatL l c).length = l.length * c
  | 0 => by simp [Lib.repeatL]
  | c + 1 => by
    have := repeatL_len l c
    simp [Lib.repeatL] at this ⊢
    rw [Nat.mul_succ]
    omega
theorem indU_len {d : Int} (h : d ≤ 32) : (indU d).length ≤ 62 := by
  unfold indU
  rw [repeatL_len]
  show 2 * _ ≤ _
  omega
theorem keyU_len (s : ByteArray) : (keyU s).length ≤ 4 * s.size + 2 := by
  unfold keyU
  split
  · rw [Array.length_toList]; show s.size ≤ _; omega
  · have := (flat_len s.data.toList).2
    have e : s.data.toList.length = s.size := by rw [Array.length_toList]; rfl
    unfold writeU
    rw [List.length_cons, List.length_append, List.length_singleton]
    omega
theorem signU_len {t : List SN} (G : Good t) (p : Nat) {x : Nat} (hx : x < t.length) : (signU t p x).length ≤ 4194307 := by
  unfold signU
  have := keyU_len (nd t x).f2
  have := G.key x hx
  split
  · rw [List.length_append, List.length_singleton]; omega
  · simp
theorem saysU_len {t : List SN} (G : Good t) {x : Nat} (hx : x < t.length) : (saysU t x).length ≤ 4194307 := by
  unfold saysU
  have := valueU_len (nd t x).f3
  have := G.txt x hx
  split
  · rw [List.length_cons]; omega
  · split
    · simp
    · split <;> simp
theorem lineU_len {t : List SN} (G : Good t) (p : Nat) {x : Nat} (hx : x < t.length) : 1 ≤ (lineU t p x).length ∧ (lineU t p x).length ≤ 8388677 := by
  unfold lineU
  have h1 := indU_len (G.d2 x hx)
  have h2 := signU_len G p hx
  have h3 := saysU_len G hx
  rw [List.length_append, List.length_append, List.length_append, List.length_singleton]
  omega
def Okay (s : OL) : Prop := s.2 ≤ s.1.length ∧ s.1.length ≤ 33554432
theorem rnd_ok {f : Nat → OL → OL} {t : List SN} (G : Good t) (p : Nat) (hf : ∀ x s, x < t.length → Okay s → Okay (f x s)) (s : OL) (x : Nat) (hx : x < t.length) (h : Okay s) : Okay (rnd f t p s x) := by
  unfold rnd
  split
  · exact h
  · refine hf x _ hx ⟨?_, ?_⟩
    · have := h.1
      have := lineU_len G p hx
      rw [List.length_append]
      show s.2 + 1 ≤ _
      omega
    · have := lineU_len G p hx
      show (s.1 ++ _).length ≤ _
      rw [List.length_append]
      omega
theorem foldl_ok {f : Nat → OL → OL} {t : List SN} (G : Good t) (p : Nat) (hf : ∀ x s, x < t.length → Okay s → Okay (f x s)) : ∀ (l : List Nat) (s : OL), (∀ x ∈ l, x < t.length) → Okay s → Okay (l.foldl (rnd f t p) s)
  | [], s, _, h => h
  | x :: r, s, hl, h => foldl_ok G p hf r _ (fun y hy => hl y (List.mem_cons_of_mem _ hy)) (rnd_ok G p hf s x (hl x (List.mem_cons_self ..)) h)
theorem wr_ok {t : List SN} (G : Good t) : ∀ k p s, Okay s → Okay (wr t k p s)
  | 0, p, s, h => h
  | k + 1, p, s, h => foldl_ok G p (fun x s _ h => wr_ok G k x s h) _ s (fun x hx => (parts_mem hx).2) h
theorem foldl_stop {f : Nat → OL → OL} {t : List SN} {p : Nat} : ∀ (l : List Nat) (s : OL), 65536 < s.1.length → l.foldl (rnd f t p) s = s
  | [], s, _ => rfl
  | x :: r, s, h => by
    rw [List.foldl_cons]
    have e : rnd f t p s x = s := if_pos h
    rw [e]
    exact foldl_stop r s h
theorem repeat_any (d : Int) (h1 : 1 ≤ d) (h2 : d ≤ 32) (w : World) : Calls Try.prog 33 #[.string ⟨#[32, 32]⟩, .int .i64 (d - 1)] w fun e w' => e = .returned (.string (mkB (indU d))) ∧ Below w.heap.size w w' := by
  have e : d - 1 = (((d - 1).toNat : Nat) : Int) := by omega
  have := Try.strings_Repeat ⟨#[32, 32]⟩ (d - 1).toNat w (by omega) (by show 2 * _ ≤ _; omega)
  rw [← e] at this
  exact this
section
variable (w0 : World) (b : Nat) (A : Option Addr) (c : Nat) (t : List SN)
/-- Between two rounds of write: what is written comes of the parts that have come. -/
def IW (k p : Nat) (s0 : OL) (n : Nat) (W4 : World) (pre : List Nat) (W : World) : Prop :=
  ∃ s : OL, s = pre.foldl (rnd (wr t k) t p) s0 ∧ Okay s ∧ Wt w0.heap.size b (.slice A t.length c) s.1 s.2 W ∧ Fr (n + 3) w0.heap.size b W4 W
def IxW (k p : Nat) (s0 : OL) (n : Nat) (W4 : World) (cd : Code) (pre : List Nat) (W : World) : Prop :=
  cd = .ret ∧ ∃ s : OL, s = pre.foldl (rnd (wr t k) t p) s0 ∧ 65536 < s.1.length ∧ Wt w0.heap.size b (.slice A t.length c) s.1 s.2 W ∧ Fr (n + 3) w0.heap.size b W4 W
end
theorem Wt.turn {base b : Nat} {tv : Value} {bs : List UInt8} {m : Int} {W W' : World} {row : Option Nat} (h : Wt base b tv bs m W) (hg : W.grownBy W' row) (h1 : row ≠ some b) (h2 : ∀ r, row = some r → ∀ cs fr, W.heap[r]? ≠ some (.cells cs 5 fr)) : Wt base b tv bs m W' := by
  obtain ⟨h0, p, v, hp, hbk, hown⟩ := h
  refine ⟨h0, p, v, hp, (hg.block b (Array.getElem?_eq_some_iff.1 hbk).1 (fun e => h1 e.symm)).trans hbk, own_move hown (fun k hk => hg.block k (hown.lt k hk).2 (fun e => ?_))⟩
  obtain ⟨cells, hc⟩ := own_typed hown k hk
  exact h2 k e.symm _ _ hc
theorem Fr.turn {N base b : Nat} {X W W' : World} {row : Option Nat} (h : Fr N base b X W) (hg : W.grownBy W' row) (h1 : ∀ r, row = some r → N ≤ r) : Fr N base b X W' :=
  h.trans ⟨hg.os, hg.tape, hg.output, hg.size, fun k hN hk _ => hg.block k hk (fun e => by have := h1 k e.symm; omega)⟩
/-- In a round: what is written, and what lies as it lay at the round's start. -/
structure Rn (w0 : World) (b : Nat) (A : Option Addr) (c : Nat) (t : List SN) (n p : Nat) (W : World) (s : OL) (X : World) : Prop where
  wt : Wt w0.heap.size b (.slice A t.length c) s.1 s.2 X
  fr : Fr W.heap.size w0.heap.size b W X
theorem Rn.below {w0 : World} {b : Nat} {A : Option Addr} {c : Nat} {t : List SN} {n p : Nat} {W X Y : World} {s : OL} (h : Rn w0 b A c t n p W s X) (hb : Below X.heap.size X Y) : Rn w0 b A c t n p W s Y :=
  ⟨h.wt.keep hb (Nat.le_refl _), h.fr.trans (Fr.of_below hb h.fr.size)⟩
theorem Fr.keeps {base b : Nat} {X Y : World} {tv : Value} {bs : List UInt8} {m : Int} (h : Fr X.heap.size base b X Y) (hw : Wt base b tv bs m X) (B : Nat) : KeepsFrom B X Y := by
  obtain ⟨_, p, v, _, hb, _⟩ := hw
  refine ⟨h.size, fun k o _ hk ho => ?_⟩
  have hlt := (Array.getElem?_eq_some_iff.1 hk).1
  refine (h.block k hlt hlt (.inr ⟨?_, fun cs fr e => ?_⟩)).trans hk
  · rintro rfl
    rw [hb] at hk
    cases hk
    cases ho
  · rw [hk] at e
    cases e
    cases ho
theorem Rn.base {w0 : World} {b : Nat} {A : Option Addr} {c : Nat} {t : List SN} {n p : Nat} {W X : World} {s : OL} (h : Rn w0 b A c t n p W s X) (hb : Below w0.heap.size w0 W) : Below w0.heap.size w0 X := hb.trans (h.fr.to_below hb.size hb.size)
theorem Fr.cells {N base b k : Nat} {X Y : World} {cs : Array Value} {ty : TypeId} {fr : Nat × Nat} (h : Fr N base b X Y) (hN : k < N) (hx : X.heap[k]? = some (.cells cs ty fr)) (hty : ty ≠ 5) (hne : k ≠ b) : Y.heap[k]? = some (.cells cs ty fr) :=
  (h.block k hN (Array.getElem?_eq_some_iff.1 hx).1 (.inr ⟨hne, fun cs' fr' e => by rw [hx] at e; injection e with e; injection e with _ e; exact hty e⟩)).trans hx
theorem Wt.cell0 {base b : Nat} {tv : Value} {bs : List UInt8} {m : Int} {W : World} (h : Wt base b tv bs m W) : W.cell? ⟨b, 0, none⟩ = some tv := by
  obtain ⟨_, p, v, _, hb, _⟩ := h
  exact blk_cell hb 0
theorem Wt.cell3 {base b : Nat} {tv : Value} {bs : List UInt8} {m : Int} {W : World} (h : Wt base b tv bs m W) : W.cell? ⟨b, 3, none⟩ = some (.int .i64 m) := by
  obtain ⟨_, p, v, _, hb, _⟩ := h
  exact blk_cell hb 3
theorem Wt.fz3 {base b : Nat} {tv : Value} {bs : List UInt8} {m : Int} {W : World} (h : Wt base b tv bs m W) : W.frozen? ⟨b, 3, none⟩ = false := by
  obtain ⟨_, p, v, _, hb, _⟩ := h
  exact blk_frozen hb 3
theorem Wt.set3 {base b : Nat} {tv : Value} {bs : List UInt8} {m : Int} {W : World} (h : Wt base b tv bs m W) (k : Int) : Wt base b tv bs k (W.setCell ⟨b, 3, none⟩ (.int .i64 k)) := by
  obtain ⟨h0, p, v, hp, hb, hown⟩ := h
  exact ⟨h0, p, v, hp, blk_put hb 3 _ rfl, Wt.own_set hown (own_ne hown hb) 3 _⟩
set_option maxRecDepth 100000 in
set_option maxHeartbeats 4000000 in
theorem wr_any (w0 : World) (b : Nat) (A : Option Addr) (c : Nat) (t : List SN) (G : Good t) (hc : t.length ≤ c) (h0 : Kd.C k31 w0 A t.length t) (hgm : GM w0) : ∀ (k p : Nat), p < t.length → t.length - p ≤ k → ∀ (s : OL) (W : World), Okay s → Below w0.heap.size w0 W → Wt w0.heap.size b (.slice A t.length c) s.1 s.2 W →
    Calls Try.prog 20 #[.pointer (some ⟨b, 0, none⟩), .int .i64 (p : Int)] W fun e W' => e = .returned (.tuple #[]) ∧ Wt w0.heap.size b (.slice A t.length c) (wr t k p s).1 (wr t k p s).2 W' ∧ Fr W.heap.size w0.heap.size b W W'
  | 0, p, hp, hk, s, W, hs, hbW, hwt => by omega
  | k + 1, p, hp, hk, s, W, hs, hbW, hwt => by
    have ih := wr_any w0 b A c t G hc h0 hgm k
    have IH := Aside0.mk ih
    have HS := Aside0.mk hs
    have HBW := Aside0.mk hbW
    have HWT := Aside0.mk hwt
    have HKP := Aside0.mk hk
    have hbn := hwt.lt
    have hbase := hwt.1
    have hc0 := hwt.cell0
    clear ih hs hbW hwt hk
    refine (callsIn_wide (n := 3)).1 ?_
    refine callsIn_of_wp_marks Try.func20 rfl trivial ?_ rfl
    simp only [Try.ntmps20, List.size_toArray, List.length_cons, List.length_nil, Nat.reduceAdd, Nat.reduceSub, Array.replicate_succ, Array.replicate_zero, List.push_toArray, List.append_toArray, List.nil_append, List.cons_append]
    gi_wp2
    have hb2 : Below W.heap.size W ((W.alloc (.cells #[.pointer (some ⟨b, 0, none⟩)] 37)).alloc (.cells #[.int .i64 (p : Int)] 3)) := below_alloc (below_alloc (Below.refl _ _) _) _
    have kw : ((W.alloc (.cells #[.pointer (some ⟨b, 0, none⟩)] 37)).alloc (.cells #[.int .i64 (p : Int)] 3)).heap[W.heap.size]? = some (.cells #[.pointer (some ⟨b, 0, none⟩)] 37 (0, 0)) := blk_alloc (blk_new W _) _
    have ka : ((W.alloc (.cells #[.pointer (some ⟨b, 0, none⟩)] 37)).alloc (.cells #[.int .i64 (p : Int)] 3)).heap[W.heap.size + 1]? = some (.cells #[.int .i64 (p : Int)] 3 (0, 0)) := by
      have := blk_new (W.alloc (.cells #[.pointer (some ⟨b, 0, none⟩)] 37)) (.cells #[.int .i64 (p : Int)] 3)
      rwa [World.size_alloc] at this
    have hsz2 : ((W.alloc (.cells #[.pointer (some ⟨b, 0, none⟩)] 37)).alloc (.cells #[.int .i64 (p : Int)] 3)).heap.size = W.heap.size + 2 := by simp
    have hcb : ((W.alloc (.cells #[.pointer (some ⟨b, 0, none⟩)] 37)).alloc (.cells #[.int .i64 (p : Int)] 3)).cell? ⟨b, 0, none⟩ = some (.slice A t.length c) := pw_cell_below hb2 hc0
    obtain ⟨n, hn0⟩ : ∃ n, n = W.heap.size := ⟨_, rfl⟩
    rw [← hn0] at kw ka hsz2 hb2 hbn ⊢
    have HN0 := Aside0.mk hn0
    clear hc0 hn0
    generalize ((W.alloc (.cells #[.pointer (some ⟨b, 0, none⟩)] 37)).alloc (.cells #[.int .i64 (p : Int)] 3)) = W2 at kw ka hsz2 hb2 hcb ⊢
    have HB2 := Aside0.mk hb2
    have HSZ2 := Aside0.mk hsz2
    have HKW := Aside0.mk kw
    have HKA := Aside0.mk ka
    have g0 : W2.cell? ⟨n, 0, none⟩ = some (.pointer (some ⟨b, 0, none⟩)) := blk_cell kw 0
    have g1 : W2.cell? ⟨n + 1, 0, none⟩ = some (.int .i64 (p : Int)) := blk_cell ka 0
    clear kw ka hb2 hsz2
    refine (wpIn_wide (n := 3)).2 ?_
    go_still_tail 5, (by kernel_rfl)
    change wpList _ _ _ _ _ W2.drew
    go_wp2_with (go_at_call 30; refine (of_any A t.length c (p : Int) _).mono ?_; rintro e w' ⟨rfl, rfl⟩)
    gi_wp2
    have hb4 : Below W2.heap.size W2 ((W2.alloc (.cells #[.slice A t.length c] 22)).alloc (.cells #[.int .i64 (p : Int)] 3)).drew := (below_alloc (below_alloc (Below.refl _ _) _) _).drew
    have kT : ((W2.alloc (.cells #[.slice A t.length c] 22)).alloc (.cells #[.int .i64 (p : Int)] 3)).drew.heap[W2.heap.size]? = some (.cells #[.slice A t.length c] 22 (0, 0)) := blk_alloc (blk_new W2 _) _
    have kA : ((W2.alloc (.cells #[.slice A t.length c] 22)).alloc (.cells #[.int .i64 (p : Int)] 3)).drew.heap[W2.heap.size + 1]? = some (.cells #[.int .i64 (p : Int)] 3 (0, 0)) := by
      have := blk_new (W2.alloc (.cells #[.slice A t.length c] 22)) (.cells #[.int .i64 (p : Int)] 3)
      rw [World.size_alloc] at this
      exact this
    have hz4 : ((W2.alloc (.cells #[.slice A t.length c] 22)).alloc (.cells #[.int .i64 (p : Int)] 3)).drew.heap.size = W2.heap.size + 2 := by simp
    rw [HSZ2.out] at hb4 kT kA hz4 ⊢
    generalize ((W2.alloc (.cells #[.slice A t.length c] 22)).alloc (.cells #[.int .i64 (p : Int)] 3)).drew = W4 at hb4 kT kA hz4 ⊢
    have hb04 : Below n W W4 := HB2.out.trans (hb4.mono (by omega))
    have hbw4 : Below w0.heap.size w0 W4 := HBW.out.trans (hb04.mono (by omega))
    have hwt4 : Wt w0.heap.size b (.slice A t.length c) s.1 s.2 W4 := HWT.out.keep hb04 (by rw [← HN0.out]; exact Nat.le_refl _)
    have HKW4 := Aside0.mk ((hb4.block n (by omega)).trans HKW.out)
    have HKA4 := Aside0.mk ((hb4.block (n + 1) (by omega)).trans HKA.out)
    have HB04 := Aside0.mk hb04
    have HBW4 := Aside0.mk hbw4
    have HWT4 := Aside0.mk hwt4
    have HZ4 := Aside0.mk hz4
    have HOF := Aside0.mk (show OfAt w0 (n + 3) (n + 2) A c t p W4 from ⟨kA, kT, hbw4, h0⟩)
    have hd0 := G.d0 p hp
    have hd2 := G.d2 p hp
    clear hb4 kT kA hz4 hb04 hbw4 hwt4 g0 g1 hcb HKW HKA HB2 HSZ2 HBW HWT
    refine range_0 (F := Fence.wide) rfl (by omega) (gf := 37) (lb := #[.pointer (some ⟨n + 3, 0, none⟩), .pointer (some ⟨n + 2, 0, none⟩)]) rfl trivial (enters_of Try.func37 (by kernel_rfl) rfl)
      (encs := fun x : Nat => #[.int .i64 (x : Int)]) (Kp := Fr (n + 4) w0.heap.size b) (S := fun ys => ys = partsOf t p) (Sp := fun pre => pre <+: partsOf t p) (w0 := W4)
      (fun l J Jx X hX hJ hJx hY h0' => of1_in w0 2 l (n + 3) (n + 2) A c t p hp G.len hc hd0 (by omega) J Jx _ (fun s W m h => hJ s W _ h (grown_drewN W m)) (fun X Y (hk : Fr (n + 4) w0.heap.size b X Y) ho => ⟨hk.cells (by omega) ho.hi (by decide) (by omega), hk.cells (by omega) ho.ht (by decide) (by omega), ho.hb.trans (hk.to_below (by omega) ho.hb.size), ho.h0⟩) hY X ⟨(hX.block _ (by rw [HZ4.out]; omega)).trans HOF.out.hi, (hX.block _ (by rw [HZ4.out]; omega)).trans HOF.out.ht, HBW4.out.trans (hX.mono (by rw [HZ4.out]; omega)), h0⟩ h0') (Below.refl _ _) (fun _ => rfl) (fun h k => h.trans k) (fun X l o hl => ⟨rfl, rfl, rfl, by simp, fun k hk _ _ => World.putObj_heap_other (by rw [HZ4.out] at hl; omega)⟩)
      (IW w0 b A c t k p s n W4) (IxW w0 b A c t k p s n W4) ?own ?ownx ?ab ?abx ⟨s, rfl, HS.out, HWT4.out, Fr.refl _ _ _ _⟩
      (fun x => { tmps := #[.pointer (some ⟨b, 0, none⟩), .int .i64 (p : Int), .pointer (some ⟨n, 0, none⟩), .pointer (some ⟨n + 1, 0, none⟩), .int .i64 (x : Int), undef, .pointer (some ⟨b, 0, none⟩), .pointer (some ⟨b, 0, none⟩), .pointer (some ⟨b, 0, none⟩), .slice A t.length c, .int .i64 (p : Int), .func (.func 37) #[] #[.pointer (some ⟨n + 3, 0, none⟩), .pointer (some ⟨n + 2, 0, none⟩)], .int .i64 (x : Int), undef, undef, undef, undef, undef, undef, undef, undef, undef, undef, undef, undef, undef, undef, undef, undef, undef, undef, undef, undef, undef, undef, undef, undef, undef, undef, undef, undef, undef, undef, undef, undef, undef, undef, undef, undef, undef, undef, undef, undef, undef, undef, undef, undef, undef, undef, undef, undef, undef, undef, undef, undef, undef, undef, undef], defers := [] }) ?assign ?body ?done ?stop
    case own =>
      rintro pre X Y row ⟨s', h1, h2, h3, h4⟩ hg hr
      exact ⟨s', h1, h2, h3.turn hg (fun e => by have := (hr b e).1; rw [HZ4.out] at this; omega) (fun r e cs fr hx => by obtain ⟨_, o, ho, hoc⟩ := hr r e; rw [hx] at ho; cases ho; cases hoc), h4.turn hg (fun r e => by have := (hr r e).1; rw [HZ4.out] at this; omega)⟩
    case ownx =>
      rintro cd pre X Y row ⟨hcd, s', h1, h2, h3, h4⟩ hg hr
      exact ⟨hcd, s', h1, h2, h3.turn hg (fun e => by have := (hr b e).1; rw [HZ4.out] at this; omega) (fun r e cs fr hx => by obtain ⟨_, o, ho, hoc⟩ := hr r e; rw [hx] at ho; cases ho; cases hoc), h4.turn hg (fun r e => by have := (hr r e).1; rw [HZ4.out] at this; omega)⟩
    case ab =>
      rintro pre X Y ⟨s', h1, h2, h3, h4⟩ hg
      exact ⟨s', h1, h2, h3.turn hg (by simp) (fun r e => by cases e), h4.turn hg (fun r e => by cases e)⟩
    case abx =>
      rintro cd pre X Y ⟨hcd, s', h1, h2, h3, h4⟩ hg
      exact ⟨hcd, s', h1, h2, h3.turn hg (by simp) (fun r e => by cases e), h4.turn hg (fun r e => by cases e)⟩
    case assign =>
      intro l x X K hK
      gi_wp2
      exact hK
    case body =>
      intro l pre x X hi hpre
      obtain ⟨s1, hs1, hok1, hwt1, hfr1⟩ := hi
      have hmem := parts_mem (hpre.subset (List.mem_append_right _ (List.mem_singleton.2 rfl)))
      have hpx := hmem.1
      have hxl := hmem.2
      have hbX : Below w0.heap.size w0 X := HBW4.out.trans (hfr1.to_below (by omega) HBW4.out.size)
      have kw : X.heap[n]? = some (.cells #[.pointer (some ⟨b, 0, none⟩)] 37 (0, 0)) := hfr1.cells (by omega) HKW4.out (by decide) (by omega)
      have ka : X.heap[n + 1]? = some (.cells #[.int .i64 (p : Int)] 3 (0, 0)) := hfr1.cells (by omega) HKA4.out (by decide) (by omega)
      have hnX : n + 4 ≤ X.heap.size := by have := hfr1.size; rw [HZ4.out] at this; omega
      have hne1 : ¬ b = n := by omega
      have hne2 : ¬ n = b := by omega
      have HNEXT := Aside0.mk (show (pre ++ [x]).foldl (rnd (wr t k) t p) s = rnd (wr t k) t p s1 x by rw [List.foldl_append, ← hs1]; rfl)
      have HFR1 := Aside0.mk hfr1
      have HBX := Aside0.mk hbX
      have HWT1 := Aside0.mk hwt1
      have HOK1 := Aside0.mk hok1
      have HKWX := Aside0.mk kw
      have HKAX := Aside0.mk ka
      have HHC := Aside0.mk (Kd.C_below h0 hbX)
      have g0 : X.cell? ⟨n, 0, none⟩ = some (.pointer (some ⟨b, 0, none⟩)) := blk_cell kw 0
      have g1 : X.cell? ⟨n + 1, 0, none⟩ = some (.int .i64 (p : Int)) := blk_cell ka 0
      have g2 := hwt1.cell0
      obtain ⟨ad, he, hP0, -⟩ := at_T31 HHC.out (p : Int) (by omega) (by omega)
      subst he
      have g3 : X.cell? (ad.add (p * 8)) = some (.int .i64 (nd t p).f0) := hP0
      have hpl : (p : Int) < (t.length : Int) := by omega
      have hxl' : (x : Int) < (t.length : Int) := by omega
      clear hs1 hfr1 hbX hwt1 hok1 kw ka hP0 hmem hpre
      by_cases hbig : 65536 < s1.1.length
      · have hbig' : (65536 : Int) < ((s1.1.length : Nat) : Int) := by omega
        gi_wp2
        refine ⟨trivial, CallsIn.inRound l ((callsIn_wide.2 (len_any _ _ _ _ _ _ HWT1.out)).mono ?_)⟩
        rintro e w2 ⟨rfl, rfl⟩
        gi_wp2
        have e1 : rnd (wr t k) t p s1 x = s1 := if_pos hbig
        exact ⟨KeepsFrom.refl _ _, rfl, s1, by rw [HNEXT.out, e1], hbig, HWT1.out, HFR1.out⟩
      · have hbig' : ¬ (65536 : Int) < ((s1.1.length : Nat) : Int) := by omega
        have HNX := Aside0.mk (show rnd (wr t k) t p s1 x = wr t k x (s1.1 ++ lineU t p x, s1.2 + 1) from if_neg hbig)
        gi_wp2
        refine ⟨trivial, CallsIn.inRound l ((callsIn_wide.2 (len_any _ _ _ _ _ _ HWT1.out)).mono ?_)⟩
        rintro e w2 ⟨rfl, rfl⟩
        gi_wp2
        have HR0 := Aside0.mk (show Rn w0 b (some ad) c t n p w2 s1 w2.drew from ⟨HWT1.out.keep (Below.refl _ _).drew (Nat.le_refl _), Fr.of_below (Below.refl w2.heap.size w2).drew (Nat.le_refl _)⟩)
        have hK0 := at_T31 HHC.out (x : Int) (by omega) (by omega)
        obtain ⟨ad2, he2, -, -, hK1, -⟩ := hK0
        obtain rfl : ad = ad2 := Option.some.inj he2
        clear he2
        have hK : w2.cell? ⟨(ad.add (x * 8)).block, (ad.add (x * 8)).off + 2, none⟩ = some (.string (nd t x).f2) := hK1
        clear hK1
        by_cases hkind : (nd t p).f0 = 1
        · have hkb : ((nd t p).f0 == 1) = true := by rw [hkind]; rfl
          have HSG := Aside0.mk (show mkB (keyU (nd t x).f2) ++ ⟨#[58]⟩ = mkB (signU t p x) by
            unfold signU
            rw [if_pos hkind]
            apply ByteArray.ext
            apply Array.toList_inj.1
            rw [ByteArray.data_append, Array.toList_append]
            rfl)
          have hksz : ¬ 9223372036854775807 < (mkB (keyU (nd t x).f2)).size + 1 := by
            have h1 := keyU_len (nd t x).f2
            have h2 := G.key x hxl
            rw [mkB_size]
            omega
          clear hkind
          refine startIn_ (k := 9) (S := fun w' => w'.cell? ⟨n, 0, none⟩ = some (.pointer (some ⟨b, 0, none⟩)) ∧ w'.cell? ⟨n + 1, 0, none⟩ = some (.int .i64 (p : Int)) ∧ w'.cell? ⟨b, 0, none⟩ = some (.slice (some ad) t.length c) ∧ w'.cell? (ad.add (p * 8)) = some (.int .i64 (nd t p).f0)) (ds := []) #[false, false, false, false, false, false, false, false, false] (by kernel_rfl) rfl rfl ⟨g0, g1, g2, g3⟩ (by kernel_rfl) (fun ⟨_, _, h⟩ => h) (fun hHeld => ?_)
          refine take_ (i := 0) (N := some 18) (v := ?_) (a' := ?_) #[true, false, false, false, false, false, false, false, false] rfl rfl (by kernel_rfl) (fun _ _ _ h => h) (Or.inl ⟨by rfl, ?_⟩) hHeld ?_ ?_
          rotate_left
          · rintro w' ⟨s0, s1, s2, s3⟩
            go_simp
            with_reducible rfl
          rotate_left
          · simp only [Act.put, List.setIfInBounds_toArray, List.set_cons_zero, List.set_cons_succ, i64_w, i32_w]
            rfl
          refine pure_ (i := 1) (N := some 19) (v := ?_) (a' := ?_) #[true, true, false, false, false, false, false, false, false] rfl rfl (by kernel_rfl) (fun _ _ _ h => h) (Or.inl ⟨by rfl, ?_⟩) ?_ ?_
          rotate_left
          · intro w'
            go_simp
            with_reducible rfl
          rotate_left
          · simp only [Act.put, List.setIfInBounds_toArray, List.set_cons_zero, List.set_cons_succ, i64_w, i32_w]
            rfl
          refine pure_ (i := 2) (N := some 20) (v := ?_) (a' := ?_) #[true, true, true, false, false, false, false, false, false] rfl rfl (by kernel_rfl) (fun _ _ _ h => h) (Or.inl ⟨by rfl, ?_⟩) ?_ ?_
          rotate_left
          · intro w'
            go_simp
            with_reducible rfl
          rotate_left
          · simp only [Act.put, List.setIfInBounds_toArray, List.set_cons_zero, List.set_cons_succ, i64_w, i32_w]
            rfl
          refine take_ (i := 3) (N := some 21) (v := ?_) (a' := ?_) #[true, true, true, true, false, false, false, false, false] rfl rfl (by kernel_rfl) (fun _ _ _ h => h) (Or.inl ⟨by rfl, ?_⟩) hHeld ?_ ?_
          rotate_left
          · rintro w' ⟨s0, s1, s2, s3⟩
            go_simp
            with_reducible rfl
          rotate_left
          · simp only [Act.put, List.setIfInBounds_toArray, List.set_cons_zero, List.set_cons_succ, i64_w, i32_w]
            rfl
          refine take_ (i := 4) (N := some 22) (v := ?_) (a' := ?_) #[true, true, true, true, true, false, false, false, false] rfl rfl (by kernel_rfl) (fun _ _ _ h => h) (Or.inl ⟨by rfl, ?_⟩) hHeld ?_ ?_
          rotate_left
          · rintro w' ⟨s0, s1, s2, s3⟩
            go_simp
            with_reducible rfl
          rotate_left
          · simp only [Act.put, List.setIfInBounds_toArray, List.set_cons_zero, List.set_cons_succ, i64_w, i32_w]
            rfl
          refine pure_ (i := 5) (N := some 23) (v := ?_) (a' := ?_) #[true, true, true, true, true, true, false, false, false] rfl rfl (by kernel_rfl) (fun _ _ _ h => h) (Or.inl ⟨by rfl, ?_⟩) ?_ ?_
          rotate_left
          · intro w'
            go_simp
            with_reducible rfl
          rotate_left
          · simp only [Act.put, List.setIfInBounds_toArray, List.set_cons_zero, List.set_cons_succ, i64_w, i32_w]
            rfl
          refine pure_ (i := 6) (N := some 24) (v := ?_) (a' := ?_) #[true, true, true, true, true, true, true, false, false] rfl rfl (by kernel_rfl) (fun _ _ _ h => h) (Or.inl ⟨by rfl, ?_⟩) ?_ ?_
          rotate_left
          · intro w'
            go_simp
            with_reducible rfl
          rotate_left
          · simp only [Act.put, List.setIfInBounds_toArray, List.set_cons_zero, List.set_cons_succ, i64_w, i32_w]
            rfl
          refine take_ (i := 7) (N := some 25) (v := ?_) (a' := ?_) #[true, true, true, true, true, true, true, true, false] rfl rfl (by kernel_rfl) (fun _ _ _ h => h) (Or.inl ⟨by rfl, ?_⟩) hHeld ?_ ?_
          rotate_left
          · rintro w' ⟨s0, s1, s2, s3⟩
            go_simp
            with_reducible rfl
          rotate_left
          · simp only [Act.put, List.setIfInBounds_toArray, List.set_cons_zero, List.set_cons_succ, i64_w, i32_w]
            rfl
          refine pure_ (i := 8) (N := some 26) (v := ?_) (a' := ?_) #[true, true, true, true, true, true, true, true, true] rfl rfl (by kernel_rfl) (fun _ _ _ h => h) (Or.inl ⟨by rfl, ?_⟩) ?_ ?_
          rotate_left
          · intro w'
            go_simp
            with_reducible rfl
          rotate_left
          · simp only [Act.put, List.setIfInBounds_toArray, List.set_cons_zero, List.set_cons_succ, i64_w, i32_w]
            rfl
          refine done_ (by kernel_rfl) ?_
          gi_wp2
          refine ⟨trivial, CallsIn.inRound l ((callsIn_wide.2 (key_any _ (by have := G.key x hxl; omega) _)).mono ?_)⟩
          rintro e w3 ⟨rfl, hb3⟩
          have HR := Aside0.mk (HR0.out.below hb3)
          clear hb3 hK g0 g1 g2 g3
          gi_wp2
          rw [HSG.out]
          clear hkb hksz HSG
          generalize w3 = X5 at HR ⊢
          have hr := HR.out
          have g0 : X5.cell? ⟨n, 0, none⟩ = some (.pointer (some ⟨b, 0, none⟩)) := blk_cell (hr.fr.cells (by omega) HKWX.out (by decide) (by omega)) 0
          have g2 : X5.cell? ⟨b, 0, none⟩ = some (.slice (some ad) t.length c) := hr.wt.cell0
          obtain ⟨ad3, he3, -, hD, -⟩ := at_T31 (Kd.C_below h0 (hr.base HBX.out)) (x : Int) (by omega) (by omega)
          obtain rfl : ad = ad3 := Option.some.inj he3
          clear he3
          have g3 : X5.cell? ⟨(ad.add (x * 8)).block, (ad.add (x * 8)).off + 1, none⟩ = some (.int .i64 (nd t x).f1) := hD
          clear hD
          have hd1 := G.d1 x (by omega) hxl
          have hd3 := G.d2 x hxl
          have hwr : IntKind.i64.wrap ((nd t x).f1 - 1) = (nd t x).f1 - 1 := by rw [IntKind.wrap_i64]; omega
          have hl1 := indU_len hd3
          have hl2 := signU_len G p hxl
          have hl3 := saysU_len G hxl
          have hz1 : ¬ 9223372036854775807 < (mkB (indU (nd t x).f1)).size + (mkB (signU t p x)).size := by simp only [mkB_size]; omega
          have hz2 : ¬ 9223372036854775807 < (mkB (indU (nd t x).f1)).size + (mkB (signU t p x)).size + (mkB (saysU t x)).size := by simp only [mkB_size]; omega
          have hz3 : ¬ 9223372036854775807 < (mkB (indU (nd t x).f1)).size + (mkB (signU t p x)).size + (mkB (saysU t x)).size + 1 := by simp only [mkB_size]; omega
          have HLEN := Aside0.mk (show s1.1.length + (((mkB (indU (nd t x).f1) ++ mkB (signU t p x)) ++ mkB (saysU t x)) ++ ⟨#[10]⟩).size ≤ 140737488355328 by
            rw [ByteArray.size_append, ByteArray.size_append, ByteArray.size_append]
            simp only [mkB_size]
            have := HOK1.out.2
            show _ + (_ + 1) ≤ _
            omega)
          have HLN := Aside0.mk (show (((mkB (indU (nd t x).f1) ++ mkB (signU t p x)) ++ mkB (saysU t x)) ++ ⟨#[10]⟩).data.toList = lineU t p x by
            rw [ByteArray.data_append, ByteArray.data_append, ByteArray.data_append, Array.toList_append, Array.toList_append, Array.toList_append]
            rfl)
          have HR5 := Aside0.mk (show Rn w0 b (some ad) c t n p w2 s1 X5.drew from hr.below (Below.refl _ _).drew)
          clear hr hl1 hl2 hl3
          refine startIn_ (k := 21) (S := fun w' => w'.cell? ⟨n, 0, none⟩ = some (.pointer (some ⟨b, 0, none⟩)) ∧ w'.cell? ⟨b, 0, none⟩ = some (.slice (some ad) t.length c) ∧ w'.cell? ⟨(ad.add (x * 8)).block, (ad.add (x * 8)).off + 1, none⟩ = some (.int .i64 (nd t x).f1)) (ds := [20]) #[false, false, false, false, false, false, false, false, false, false, false, false, false, false, false, false, false, false, false, false, false] (by kernel_rfl) rfl rfl ⟨g0, g2, g3⟩ (by kernel_rfl) (fun ⟨_, _, h⟩ => h) (fun hHeld => ?_)
          refine pure_ (i := 7) (N := some 44) (v := ?_) (a' := ?_) #[false, false, false, false, false, false, false, true, false, false, false, false, false, false, false, false, false, false, false, false, false] rfl rfl (by kernel_rfl) (fun _ _ _ h => h) (Or.inl ⟨by rfl, ?_⟩) ?_ ?_
          rotate_left
          · intro w'
            go_simp
            with_reducible rfl
          rotate_left
          · simp only [Act.put, List.setIfInBounds_toArray, List.set_cons_zero, List.set_cons_succ, i64_w, i32_w]
            rfl
          refine pure_ (i := 13) (N := some 50) (v := ?_) (a' := ?_) #[false, false, false, false, false, false, false, true, false, false, false, false, false, true, false, false, false, false, false, false, false] rfl rfl (by kernel_rfl) (fun _ _ _ h => h) (Or.inl ⟨by rfl, ?_⟩) ?_ ?_
          rotate_left
          · intro w'
            go_simp
            with_reducible rfl
          rotate_left
          · simp only [Act.put, List.setIfInBounds_toArray, List.set_cons_zero, List.set_cons_succ, i64_w, i32_w]
            rfl
          refine pure_ (i := 16) (N := some 53) (v := ?_) (a' := ?_) #[false, false, false, false, false, false, false, true, false, false, false, false, false, true, false, false, true, false, false, false, false] rfl rfl (by kernel_rfl) (fun _ _ _ h => h) (Or.inl ⟨by rfl, ?_⟩) ?_ ?_
          rotate_left
          · intro w'
            go_simp
            with_reducible rfl
          rotate_left
          · simp only [Act.put, List.setIfInBounds_toArray, List.set_cons_zero, List.set_cons_succ, i64_w, i32_w]
            rfl
          refine take_ (i := 0) (N := some 37) (v := ?_) (a' := ?_) #[true, false, false, false, false, false, false, true, false, false, false, false, false, true, false, false, true, false, false, false, false] rfl rfl (by kernel_rfl) (fun _ _ _ h => h) (Or.inl ⟨by rfl, ?_⟩) hHeld ?_ ?_
          rotate_left
          · rintro w' ⟨s0, s1, s2⟩
            go_simp
            with_reducible rfl
          rotate_left
          · simp only [Act.put, List.setIfInBounds_toArray, List.set_cons_zero, List.set_cons_succ, i64_w, i32_w]
            rfl
          refine pure_ (i := 1) (N := some 38) (v := ?_) (a' := ?_) #[true, true, false, false, false, false, false, true, false, false, false, false, false, true, false, false, true, false, false, false, false] rfl rfl (by kernel_rfl) (fun _ _ _ h => h) (Or.inl ⟨by rfl, ?_⟩) ?_ ?_
          rotate_left
          · intro w'
            go_simp
            with_reducible rfl
          rotate_left
          · simp only [Act.put, List.setIfInBounds_toArray, List.set_cons_zero, List.set_cons_succ, i64_w, i32_w]
            rfl
          refine pure_ (i := 2) (N := some 39) (v := ?_) (a' := ?_) #[true, true, true, false, false, false, false, true, false, false, false, false, false, true, false, false, true, false, false, false, false] rfl rfl (by kernel_rfl) (fun _ _ _ h => h) (Or.inl ⟨by rfl, ?_⟩) ?_ ?_
          rotate_left
          · intro w'
            go_simp
            with_reducible rfl
          rotate_left
          · simp only [Act.put, List.setIfInBounds_toArray, List.set_cons_zero, List.set_cons_succ, i64_w, i32_w]
            rfl
          refine take_ (i := 3) (N := some 40) (v := ?_) (a' := ?_) #[true, true, true, true, false, false, false, true, false, false, false, false, false, true, false, false, true, false, false, false, false] rfl rfl (by kernel_rfl) (fun _ _ _ h => h) (Or.inl ⟨by rfl, ?_⟩) hHeld ?_ ?_
          rotate_left
          · rintro w' ⟨s0, s1, s2⟩
            go_simp
            with_reducible rfl
          rotate_left
          · simp only [Act.put, List.setIfInBounds_toArray, List.set_cons_zero, List.set_cons_succ, i64_w, i32_w]
            rfl
          refine pure_ (i := 4) (N := some 41) (v := ?_) (a' := ?_) #[true, true, true, true, true, false, false, true, false, false, false, false, false, true, false, false, true, false, false, false, false] rfl rfl (by kernel_rfl) (fun _ _ _ h => h) (Or.inl ⟨by rfl, ?_⟩) ?_ ?_
          rotate_left
          · intro w'
            go_simp
            with_reducible rfl
          rotate_left
          · simp only [Act.put, List.setIfInBounds_toArray, List.set_cons_zero, List.set_cons_succ, i64_w, i32_w]
            rfl
          refine pure_ (i := 5) (N := some 42) (v := ?_) (a' := ?_) #[true, true, true, true, true, true, false, true, false, false, false, false, false, true, false, false, true, false, false, false, false] rfl rfl (by kernel_rfl) (fun _ _ _ h => h) (Or.inl ⟨by rfl, ?_⟩) ?_ ?_
          rotate_left
          · intro w'
            go_simp
            with_reducible rfl
          rotate_left
          · simp only [Act.put, List.setIfInBounds_toArray, List.set_cons_zero, List.set_cons_succ, i64_w, i32_w]
            rfl
          refine take_ (i := 6) (N := some 43) (v := ?_) (a' := ?_) #[true, true, true, true, true, true, true, true, false, false, false, false, false, true, false, false, true, false, false, false, false] rfl rfl (by kernel_rfl) (fun _ _ _ h => h) (Or.inl ⟨by rfl, ?_⟩) hHeld ?_ ?_
          rotate_left
          · rintro w' ⟨s0, s1, s2⟩
            go_simp
            with_reducible rfl
          rotate_left
          · simp only [Act.put, List.setIfInBounds_toArray, List.set_cons_zero, List.set_cons_succ, i64_w, i32_w]
            rfl
          refine pure_ (i := 8) (N := some 45) (v := ?_) (a' := ?_) #[true, true, true, true, true, true, true, true, true, false, false, false, false, true, false, false, true, false, false, false, false] rfl rfl (by kernel_rfl) (fun _ _ _ h => h) (Or.inl ⟨by rfl, ?_⟩) ?_ ?_
          rotate_left
          · intro w'
            go_simp
            with_reducible rfl
          rotate_left
          · simp only [Act.put, List.setIfInBounds_toArray, List.set_cons_zero, List.set_cons_succ, i64_w, i32_w]
            rfl
          refine pure_ (i := 9) (N := some 46) (v := ?_) (a' := ?_) #[true, true, true, true, true, true, true, true, true, true, false, false, false, true, false, false, true, false, false, false, false] rfl rfl (by kernel_rfl) (fun _ _ _ h => h) (Or.inl ⟨by rfl, ?_⟩) ?_ ?_
          rotate_left
          · intro w'
            go_simp
            with_reducible rfl
          rotate_left
          · simp only [Act.put, List.setIfInBounds_toArray, List.set_cons_zero, List.set_cons_succ, i64_w, i32_w]
            rfl
          refine take_ (i := 10) (N := some 47) (v := ?_) (a' := ?_) #[true, true, true, true, true, true, true, true, true, true, true, false, false, true, false, false, true, false, false, false, false] rfl rfl (by kernel_rfl) (fun _ _ _ h => h) (Or.inl ⟨by rfl, ?_⟩) hHeld ?_ ?_
          rotate_left
          · rintro w' ⟨s0, s1, s2⟩
            go_simp
            with_reducible rfl
          rotate_left
          · simp only [Act.put, List.setIfInBounds_toArray, List.set_cons_zero, List.set_cons_succ, i64_w, i32_w]
            rfl
          refine pure_ (i := 11) (N := some 48) (v := ?_) (a' := ?_) #[true, true, true, true, true, true, true, true, true, true, true, true, false, true, false, false, true, false, false, false, false] rfl rfl (by kernel_rfl) (fun _ _ _ h => h) (Or.inl ⟨by rfl, ?_⟩) ?_ ?_
          rotate_left
          · intro w'
            go_simp
            with_reducible rfl
          rotate_left
          · simp only [Act.put, List.setIfInBounds_toArray, List.set_cons_zero, List.set_cons_succ, i64_w, i32_w]
            rfl
          refine take_ (i := 15) (N := some 52) (v := ?_) (a' := ?_) #[true, true, true, true, true, true, true, true, true, true, true, true, false, true, false, true, true, false, false, false, false] rfl rfl (by kernel_rfl) (fun _ _ _ h => h) (Or.inl ⟨by rfl, ?_⟩) hHeld ?_ ?_
          rotate_left
          · rintro w' ⟨s0, s1, s2⟩
            go_simp
            with_reducible rfl
          rotate_left
          · simp only [Act.put, List.setIfInBounds_toArray, List.set_cons_zero, List.set_cons_succ, i64_w, i32_w]
            rfl
          refine one_ (i := 12) (N := some 49) #[true, true, true, true, true, true, true, true, true, true, true, true, true, true, false, true, true, false, false, false, false] rfl rfl (by kernel_rfl) (by decide) (fun K hK => ?_)
          refine goes_ Try.func33 (by kernel_rfl) rfl #[.string ⟨#[32, 32]⟩, .int .i64 ((nd t x).f1 - 1)] (by rfl) rfl rfl (by simp only [List.map_toArray, List.map_cons, List.map_nil]; rfl) ?_
          with_reducible refine (repeat_any (nd t x).f1 hd1 hd3 _).mono ?_
          rintro e w6 ⟨rfl, hb6⟩
          refine ⟨_, rfl, ?_⟩
          have HR6 := Aside0.mk (HR5.out.below hb6)
          refine hK.out _ _ ⟨pw_cell_below hb6 hHeld.1, pw_cell_below hb6 hHeld.2.1, pw_cell_below hb6 hHeld.2.2⟩ (fun hHeld => ?_)
          clear hK K
          refine norm_ (a' := ?_) ?_ ?_
          rotate_left
          · show Act.put _ (some 49) _ = _
            simp only [Act.put, List.setIfInBounds_toArray, List.set_cons_zero, List.set_cons_succ, i64_w, i32_w]
            rfl
          refine pure_ (i := 14) (N := some 51) (v := ?_) (a' := ?_) #[true, true, true, true, true, true, true, true, true, true, true, true, true, true, true, true, true, false, false, false, false] rfl rfl (by kernel_rfl) (fun _ _ _ h => h) (Or.inl ⟨by rfl, ?_⟩) ?_ ?_
          rotate_left
          · intro w'
            go_simp
            with_reducible rfl
          rotate_left
          · simp only [Act.put, List.setIfInBounds_toArray, List.set_cons_zero, List.set_cons_succ, i64_w, i32_w]
            rfl
          refine one_ (i := 17) (N := some 54) #[true, true, true, true, true, true, true, true, true, true, true, true, true, true, true, true, true, true, false, false, false] rfl rfl (by kernel_rfl) (by decide) (fun K hK => ?_)
          refine goes_ Try.func34 (by kernel_rfl) rfl #[.pointer (some ⟨b, 0, none⟩), .int .i64 (x : Int)] (by rfl) rfl rfl (by simp only [List.map_toArray, List.map_cons, List.map_nil]; rfl) ?_
          with_reducible refine (says_any b (some ad) c t x _ hHeld.2.1 (Kd.C_below h0 (HR6.out.base HBX.out)) hxl G.len hc (G.kind x (by omega) hxl) (by have := G.txt x hxl; omega) (GM.below hgm (HR6.out.base HBX.out))).mono ?_
          rintro e w7 ⟨rfl, hb7⟩
          refine ⟨_, rfl, ?_⟩
          have HR7 := Aside0.mk (HR6.out.below hb7)
          refine hK.out _ _ ⟨pw_cell_below hb7 hHeld.1, pw_cell_below hb7 hHeld.2.1, pw_cell_below hb7 hHeld.2.2⟩ (fun hHeld => ?_)
          clear hK K
          refine norm_ (a' := ?_) ?_ ?_
          rotate_left
          · show Act.put _ (some 54) _ = _
            simp only [Act.put, List.setIfInBounds_toArray, List.set_cons_zero, List.set_cons_succ, i64_w, i32_w]
            rfl
          refine pure_ (i := 18) (N := some 55) (v := ?_) (a' := ?_) #[true, true, true, true, true, true, true, true, true, true, true, true, true, true, true, true, true, true, true, false, false] rfl rfl (by kernel_rfl) (fun _ _ _ h => h) (Or.inl ⟨by rfl, ?_⟩) ?_ ?_
          rotate_left
          · intro w'
            go_simp
            with_reducible rfl
          rotate_left
          · simp only [Act.put, List.setIfInBounds_toArray, List.set_cons_zero, List.set_cons_succ, i64_w, i32_w]
            rfl
          refine pure_ (i := 19) (N := some 56) (v := ?_) (a' := ?_) #[true, true, true, true, true, true, true, true, true, true, true, true, true, true, true, true, true, true, true, true, false] rfl rfl (by kernel_rfl) (fun _ _ _ h => h) (Or.inl ⟨by rfl, ?_⟩) ?_ ?_
          rotate_left
          · intro w'
            go_simp
            with_reducible rfl
          rotate_left
          · simp only [Act.put, List.setIfInBounds_toArray, List.set_cons_zero, List.set_cons_succ, i64_w, i32_w]
            rfl
          refine last_ (i := 20) (N := some 57) #[true, true, true, true, true, true, true, true, true, true, true, true, true, true, true, true, true, true, true, true, true] rfl rfl (by kernel_rfl) (by decide) (fun K hK => ?_)
          refine goes_ Try.func32 (by kernel_rfl) rfl #[.pointer (some ⟨b, 1, none⟩), .string (((mkB (indU (nd t x).f1) ++ mkB (signU t p x)) ++ mkB (saysU t x)) ++ ⟨#[10]⟩)] (by rfl) rfl rfl (by simp only [List.map_toArray, List.map_cons, List.map_nil]; rfl) ?_
          with_reducible refine (write_any w0.heap.size b (.slice (some ad) t.length c) s1.1 s1.2 _ _ HR7.out.wt HLEN.out).mono ?_
          rintro e w8 ⟨rfl, hwt8, hfr8⟩
          refine ⟨_, rfl, ?_⟩
          have HWT8 := Aside0.mk hwt8
          have HFR8 := Aside0.mk (HR7.out.fr.trans (hfr8 _))
          clear hwt8 hfr8
          refine hK.out _ _ ?_
          clear hK K
          refine norm_ (a' := ?_) ?_ ?_
          rotate_left
          · show Act.put _ (some 57) _ = _
            simp only [Act.put, List.setIfInBounds_toArray, List.set_cons_zero, List.set_cons_succ, i64_w, i32_w]
            rfl
          refine done_ (by kernel_rfl) ?_
          clear g0 g2 g3 hz1 hz2 hz3 hwr
          rw [HLN.out] at HWT8
          have h8w : w8.cell? ⟨n, 0, none⟩ = some (.pointer (some ⟨b, 0, none⟩)) := blk_cell (HFR8.out.cells (by omega) HKWX.out (by decide) (by omega)) 0
          have h8n : w8.cell? ⟨b, 3, none⟩ = some (.int .i64 (s1.2 : Int)) := HWT8.out.cell3
          have h8f : w8.frozen? ⟨b, 3, none⟩ = false := HWT8.out.fz3
          have hs2 := HOK1.out.1
          have hs3 : (s1.2 : Int) + 1 ≤ 33554433 := by have := HOK1.out.2; omega
          have hs4 : (0 : Int) ≤ (s1.2 : Int) := by omega
          have hrl := lineU_len G p hxl
          have HOK2 := Aside0.mk (show Okay (s1.1 ++ lineU t p x, s1.2 + 1) from ⟨by show s1.2 + 1 ≤ _; rw [List.length_append]; omega, by show (s1.1 ++ _).length ≤ _; rw [List.length_append]; omega⟩)
          have HWT9 := Aside0.mk (show Wt w0.heap.size b (.slice (some ad) t.length c) (s1.1 ++ lineU t p x) ((s1.2 + 1 : Nat) : Int) (w8.setCell ⟨b, 3, none⟩ (.int .i64 ((s1.2 : Int) + 1))) from by
            have := HWT8.out.set3 ((s1.2 : Int) + 1)
            rwa [show ((s1.2 + 1 : Nat) : Int) = (s1.2 : Int) + 1 from by omega])
          have HFR9 := Aside0.mk (show Fr w2.heap.size w0.heap.size b w2 (w8.setCell ⟨b, 3, none⟩ (.int .i64 ((s1.2 : Int) + 1))) from HFR8.out.trans (fr_set _ hbase 3 _))
          clear hs2 hrl
          gi_wp2
          refine ⟨trivial, CallsIn.inRound l ((callsIn_wide.2 (IH.out x hxl (by have := HKP.out; omega) (s1.1 ++ lineU t p x, s1.2 + 1) _ HOK2.out (HBX.out.trans (HFR9.out.to_below HBX.out.size HBX.out.size)) HWT9.out)).mono ?_)⟩
          rintro e w10 ⟨rfl, hwt10, hfr10⟩
          have HWT10 := Aside0.mk hwt10
          have HFR10 := Aside0.mk (HFR9.out.trans (hfr10.less HFR9.out.size))
          clear hwt10 hfr10 h8w h8n h8f
          gi_wp2
          exact ⟨HFR10.out.keeps HWT1.out _, HFR10.out.less hnX, wr t k x (s1.1 ++ lineU t p x, s1.2 + 1), by rw [HNEXT.out, HNX.out], wr_ok G k x _ HOK2.out, HWT10.out, HFR1.out.trans (HFR10.out.less (by omega))⟩
        · have hkb : ((nd t p).f0 == 1) = false := by simpa using hkind
          have HSG := Aside0.mk (show (⟨#[45]⟩ : ByteArray) = mkB (signU t p x) by
            unfold signU
            rw [if_neg hkind]
            rfl)
          clear hkind
          refine startIn_ (k := 9) (S := fun w' => w'.cell? ⟨n, 0, none⟩ = some (.pointer (some ⟨b, 0, none⟩)) ∧ w'.cell? ⟨n + 1, 0, none⟩ = some (.int .i64 (p : Int)) ∧ w'.cell? ⟨b, 0, none⟩ = some (.slice (some ad) t.length c) ∧ w'.cell? (ad.add (p * 8)) = some (.int .i64 (nd t p).f0)) (ds := []) #[false, false, false, false, false, false, false, false, false] (by kernel_rfl) rfl rfl ⟨g0, g1, g2, g3⟩ (by kernel_rfl) (fun ⟨_, _, h⟩ => h) (fun hHeld => ?_)
          refine take_ (i := 0) (N := some 18) (v := ?_) (a' := ?_) #[true, false, false, false, false, false, false, false, false] rfl rfl (by kernel_rfl) (fun _ _ _ h => h) (Or.inl ⟨by rfl, ?_⟩) hHeld ?_ ?_
          rotate_left
          · rintro w' ⟨s0, s1, s2, s3⟩
            go_simp
            with_reducible rfl
          rotate_left
          · simp only [Act.put, List.setIfInBounds_toArray, List.set_cons_zero, List.set_cons_succ, i64_w, i32_w]
            rfl
          refine pure_ (i := 1) (N := some 19) (v := ?_) (a' := ?_) #[true, true, false, false, false, false, false, false, false] rfl rfl (by kernel_rfl) (fun _ _ _ h => h) (Or.inl ⟨by rfl, ?_⟩) ?_ ?_
          rotate_left
          · intro w'
            go_simp
            with_reducible rfl
          rotate_left
          · simp only [Act.put, List.setIfInBounds_toArray, List.set_cons_zero, List.set_cons_succ, i64_w, i32_w]
            rfl
          refine pure_ (i := 2) (N := some 20) (v := ?_) (a' := ?_) #[true, true, true, false, false, false, false, false, false] rfl rfl (by kernel_rfl) (fun _ _ _ h => h) (Or.inl ⟨by rfl, ?_⟩) ?_ ?_
          rotate_left
          · intro w'
            go_simp
            with_reducible rfl
          rotate_left
          · simp only [Act.put, List.setIfInBounds_toArray, List.set_cons_zero, List.set_cons_succ, i64_w, i32_w]
            rfl
          refine take_ (i := 3) (N := some 21) (v := ?_) (a' := ?_) #[true, true, true, true, false, false, false, false, false] rfl rfl (by kernel_rfl) (fun _ _ _ h => h) (Or.inl ⟨by rfl, ?_⟩) hHeld ?_ ?_
          rotate_left
          · rintro w' ⟨s0, s1, s2, s3⟩
            go_simp
            with_reducible rfl
          rotate_left
          · simp only [Act.put, List.setIfInBounds_toArray, List.set_cons_zero, List.set_cons_succ, i64_w, i32_w]
            rfl
          refine take_ (i := 4) (N := some 22) (v := ?_) (a' := ?_) #[true, true, true, true, true, false, false, false, false] rfl rfl (by kernel_rfl) (fun _ _ _ h => h) (Or.inl ⟨by rfl, ?_⟩) hHeld ?_ ?_
          rotate_left
          · rintro w' ⟨s0, s1, s2, s3⟩
            go_simp
            with_reducible rfl
          rotate_left
          · simp only [Act.put, List.setIfInBounds_toArray, List.set_cons_zero, List.set_cons_succ, i64_w, i32_w]
            rfl
          refine pure_ (i := 5) (N := some 23) (v := ?_) (a' := ?_) #[true, true, true, true, true, true, false, false, false] rfl rfl (by kernel_rfl) (fun _ _ _ h => h) (Or.inl ⟨by rfl, ?_⟩) ?_ ?_
          rotate_left
          · intro w'
            go_simp
            with_reducible rfl
          rotate_left
          · simp only [Act.put, List.setIfInBounds_toArray, List.set_cons_zero, List.set_cons_succ, i64_w, i32_w]
            rfl
          refine pure_ (i := 6) (N := some 24) (v := ?_) (a' := ?_) #[true, true, true, true, true, true, true, false, false] rfl rfl (by kernel_rfl) (fun _ _ _ h => h) (Or.inl ⟨by rfl, ?_⟩) ?_ ?_
          rotate_left
          · intro w'
            go_simp
            with_reducible rfl
          rotate_left
          · simp only [Act.put, List.setIfInBounds_toArray, List.set_cons_zero, List.set_cons_succ, i64_w, i32_w]
            rfl
          refine take_ (i := 7) (N := some 25) (v := ?_) (a' := ?_) #[true, true, true, true, true, true, true, true, false] rfl rfl (by kernel_rfl) (fun _ _ _ h => h) (Or.inl ⟨by rfl, ?_⟩) hHeld ?_ ?_
          rotate_left
          · rintro w' ⟨s0, s1, s2, s3⟩
            go_simp
            with_reducible rfl
          rotate_left
          · simp only [Act.put, List.setIfInBounds_toArray, List.set_cons_zero, List.set_cons_succ, i64_w, i32_w]
            rfl
          refine pure_ (i := 8) (N := some 26) (v := ?_) (a' := ?_) #[true, true, true, true, true, true, true, true, true] rfl rfl (by kernel_rfl) (fun _ _ _ h => h) (Or.inl ⟨by rfl, ?_⟩) ?_ ?_
          rotate_left
          · intro w'
            go_simp
            with_reducible rfl
          rotate_left
          · simp only [Act.put, List.setIfInBounds_toArray, List.set_cons_zero, List.set_cons_succ, i64_w, i32_w]
            rfl
          refine done_ (by kernel_rfl) ?_
          gi_wp2
          rw [HSG.out]
          have HR := HR0
          clear hK g0 g1 g2 g3 hkb HSG
          generalize w2.drew = X5 at HR ⊢
          have hr := HR.out
          have g0 : X5.cell? ⟨n, 0, none⟩ = some (.pointer (some ⟨b, 0, none⟩)) := blk_cell (hr.fr.cells (by omega) HKWX.out (by decide) (by omega)) 0
          have g2 : X5.cell? ⟨b, 0, none⟩ = some (.slice (some ad) t.length c) := hr.wt.cell0
          obtain ⟨ad3, he3, -, hD, -⟩ := at_T31 (Kd.C_below h0 (hr.base HBX.out)) (x : Int) (by omega) (by omega)
          obtain rfl : ad = ad3 := Option.some.inj he3
          clear he3
          have g3 : X5.cell? ⟨(ad.add (x * 8)).block, (ad.add (x * 8)).off + 1, none⟩ = some (.int .i64 (nd t x).f1) := hD
          clear hD
          have hd1 := G.d1 x (by omega) hxl
          have hd3 := G.d2 x hxl
          have hwr : IntKind.i64.wrap ((nd t x).f1 - 1) = (nd t x).f1 - 1 := by rw [IntKind.wrap_i64]; omega
          have hl1 := indU_len hd3
          have hl2 := signU_len G p hxl
          have hl3 := saysU_len G hxl
          have hz1 : ¬ 9223372036854775807 < (mkB (indU (nd t x).f1)).size + (mkB (signU t p x)).size := by simp only [mkB_size]; omega
          have hz2 : ¬ 9223372036854775807 < (mkB (indU (nd t x).f1)).size + (mkB (signU t p x)).size + (mkB (saysU t x)).size := by simp only [mkB_size]; omega
          have hz3 : ¬ 9223372036854775807 < (mkB (indU (nd t x).f1)).size + (mkB (signU t p x)).size + (mkB (saysU t x)).size + 1 := by simp only [mkB_size]; omega
          have HLEN := Aside0.mk (show s1.1.length + (((mkB (indU (nd t x).f1) ++ mkB (signU t p x)) ++ mkB (saysU t x)) ++ ⟨#[10]⟩).size ≤ 140737488355328 by
            rw [ByteArray.size_append, ByteArray.size_append, ByteArray.size_append]
            simp only [mkB_size]
            have := HOK1.out.2
            show _ + (_ + 1) ≤ _
            omega)
          have HLN := Aside0.mk (show (((mkB (indU (nd t x).f1) ++ mkB (signU t p x)) ++ mkB (saysU t x)) ++ ⟨#[10]⟩).data.toList = lineU t p x by
            rw [ByteArray.data_append, ByteArray.data_append, ByteArray.data_append, Array.toList_append, Array.toList_append, Array.toList_append]
            rfl)
          have HR5 := Aside0.mk (show Rn w0 b (some ad) c t n p w2 s1 X5.drew from hr.below (Below.refl _ _).drew)
          clear hr hl1 hl2 hl3
          refine startIn_ (k := 21) (S := fun w' => w'.cell? ⟨n, 0, none⟩ = some (.pointer (some ⟨b, 0, none⟩)) ∧ w'.cell? ⟨b, 0, none⟩ = some (.slice (some ad) t.length c) ∧ w'.cell? ⟨(ad.add (x * 8)).block, (ad.add (x * 8)).off + 1, none⟩ = some (.int .i64 (nd t x).f1)) (ds := [20]) #[false, false, false, false, false, false, false, false, false, false, false, false, false, false, false, false, false, false, false, false, false] (by kernel_rfl) rfl rfl ⟨g0, g2, g3⟩ (by kernel_rfl) (fun ⟨_, _, h⟩ => h) (fun hHeld => ?_)
          refine pure_ (i := 7) (N := some 44) (v := ?_) (a' := ?_) #[false, false, false, false, false, false, false, true, false, false, false, false, false, false, false, false, false, false, false, false, false] rfl rfl (by kernel_rfl) (fun _ _ _ h => h) (Or.inl ⟨by rfl, ?_⟩) ?_ ?_
          rotate_left
          · intro w'
            go_simp
            with_reducible rfl
          rotate_left
          · simp only [Act.put, List.setIfInBounds_toArray, List.set_cons_zero, List.set_cons_succ, i64_w, i32_w]
            rfl
          refine pure_ (i := 13) (N := some 50) (v := ?_) (a' := ?_) #[false, false, false, false, false, false, false, true, false, false, false, false, false, true, false, false, false, false, false, false, false] rfl rfl (by kernel_rfl) (fun _ _ _ h => h) (Or.inl ⟨by rfl, ?_⟩) ?_ ?_
          rotate_left
          · intro w'
            go_simp
            with_reducible rfl
          rotate_left
          · simp only [Act.put, List.setIfInBounds_toArray, List.set_cons_zero, List.set_cons_succ, i64_w, i32_w]
            rfl
          refine pure_ (i := 16) (N := some 53) (v := ?_) (a' := ?_) #[false, false, false, false, false, false, false, true, false, false, false, false, false, true, false, false, true, false, false, false, false] rfl rfl (by kernel_rfl) (fun _ _ _ h => h) (Or.inl ⟨by rfl, ?_⟩) ?_ ?_
          rotate_left
          · intro w'
            go_simp
            with_reducible rfl
          rotate_left
          · simp only [Act.put, List.setIfInBounds_toArray, List.set_cons_zero, List.set_cons_succ, i64_w, i32_w]
            rfl
          refine take_ (i := 0) (N := some 37) (v := ?_) (a' := ?_) #[true, false, false, false, false, false, false, true, false, false, false, false, false, true, false, false, true, false, false, false, false] rfl rfl (by kernel_rfl) (fun _ _ _ h => h) (Or.inl ⟨by rfl, ?_⟩) hHeld ?_ ?_
          rotate_left
          · rintro w' ⟨s0, s1, s2⟩
            go_simp
            with_reducible rfl
          rotate_left
          · simp only [Act.put, List.setIfInBounds_toArray, List.set_cons_zero, List.set_cons_succ, i64_w, i32_w]
            rfl
          refine pure_ (i := 1) (N := some 38) (v := ?_) (a' := ?_) #[true, true, false, false, false, false, false, true, false, false, false, false, false, true, false, false, true, false, false, false, false] rfl rfl (by kernel_rfl) (fun _ _ _ h => h) (Or.inl ⟨by rfl, ?_⟩) ?_ ?_
          rotate_left
          · intro w'
            go_simp
            with_reducible rfl
          rotate_left
          · simp only [Act.put, List.setIfInBounds_toArray, List.set_cons_zero, List.set_cons_succ, i64_w, i32_w]
            rfl
          refine pure_ (i := 2) (N := some 39) (v := ?_) (a' := ?_) #[true, true, true, false, false, false, false, true, false, false, false, false, false, true, false, false, true, false, false, false, false] rfl rfl (by kernel_rfl) (fun _ _ _ h => h) (Or.inl ⟨by rfl, ?_⟩) ?_ ?_
          rotate_left
          · intro w'
            go_simp
            with_reducible rfl
          rotate_left
          · simp only [Act.put, List.setIfInBounds_toArray, List.set_cons_zero, List.set_cons_succ, i64_w, i32_w]
            rfl
          refine take_ (i := 3) (N := some 40) (v := ?_) (a' := ?_) #[true, true, true, true, false, false, false, true, false, false, false, false, false, true, false, false, true, false, false, false, false] rfl rfl (by kernel_rfl) (fun _ _ _ h => h) (Or.inl ⟨by rfl, ?_⟩) hHeld ?_ ?_
          rotate_left
          · rintro w' ⟨s0, s1, s2⟩
            go_simp
            with_reducible rfl
          rotate_left
          · simp only [Act.put, List.setIfInBounds_toArray, List.set_cons_zero, List.set_cons_succ, i64_w, i32_w]
            rfl
          refine pure_ (i := 4) (N := some 41) (v := ?_) (a' := ?_) #[true, true, true, true, true, false, false, true, false, false, false, false, false, true, false, false, true, false, false, false, false] rfl rfl (by kernel_rfl) (fun _ _ _ h => h) (Or.inl ⟨by rfl, ?_⟩) ?_ ?_
          rotate_left
          · intro w'
            go_simp
            with_reducible rfl
          rotate_left
          · simp only [Act.put, List.setIfInBounds_toArray, List.set_cons_zero, List.set_cons_succ, i64_w, i32_w]
            rfl
          refine pure_ (i := 5) (N := some 42) (v := ?_) (a' := ?_) #[true, true, true, true, true, true, false, true, false, false, false, false, false, true, false, false, true, false, false, false, false] rfl rfl (by kernel_rfl) (fun _ _ _ h => h) (Or.inl ⟨by rfl, ?_⟩) ?_ ?_
          rotate_left
          · intro w'
            go_simp
            with_reducible rfl
          rotate_left
          · simp only [Act.put, List.setIfInBounds_toArray, List.set_cons_zero, List.set_cons_succ, i64_w, i32_w]
            rfl
          refine take_ (i := 6) (N := some 43) (v := ?_) (a' := ?_) #[true, true, true, true, true, true, true, true, false, false, false, false, false, true, false, false, true, false, false, false, false] rfl rfl (by kernel_rfl) (fun _ _ _ h => h) (Or.inl ⟨by rfl, ?_⟩) hHeld ?_ ?_
          rotate_left
          · rintro w' ⟨s0, s1, s2⟩
            go_simp
            with_reducible rfl
          rotate_left
          · simp only [Act.put, List.setIfInBounds_toArray, List.set_cons_zero, List.set_cons_succ, i64_w, i32_w]
            rfl
          refine pure_ (i := 8) (N := some 45) (v := ?_) (a' := ?_) #[true, true, true, true, true, true, true, true, true, false, false, false, false, true, false, false, true, false, false, false, false] rfl rfl (by kernel_rfl) (fun _ _ _ h => h) (Or.inl ⟨by rfl, ?_⟩) ?_ ?_
          rotate_left
          · intro w'
            go_simp
            with_reducible rfl
          rotate_left
          · simp only [Act.put, List.setIfInBounds_toArray, List.set_cons_zero, List.set_cons_succ, i64_w, i32_w]
            rfl
          refine pure_ (i := 9) (N := some 46) (v := ?_) (a' := ?_) #[true, true, true, true, true, true, true, true, true, true, false, false, false, true, false, false, true, false, false, false, false] rfl rfl (by kernel_rfl) (fun _ _ _ h => h) (Or.inl ⟨by rfl, ?_⟩) ?_ ?_
          rotate_left
          · intro w'
            go_simp
            with_reducible rfl
          rotate_left
          · simp only [Act.put, List.setIfInBounds_toArray, List.set_cons_zero, List.set_cons_succ, i64_w, i32_w]
            rfl
          refine take_ (i := 10) (N := some 47) (v := ?_) (a' := ?_) #[true, true, true, true, true, true, true, true, true, true, true, false, false, true, false, false, true, false, false, false, false] rfl rfl (by kernel_rfl) (fun _ _ _ h => h) (Or.inl ⟨by rfl, ?_⟩) hHeld ?_ ?_
          rotate_left
          · rintro w' ⟨s0, s1, s2⟩
            go_simp
            with_reducible rfl
          rotate_left
          · simp only [Act.put, List.setIfInBounds_toArray, List.set_cons_zero, List.set_cons_succ, i64_w, i32_w]
            rfl
          refine pure_ (i := 11) (N := some 48) (v := ?_) (a' := ?_) #[true, true, true, true, true, true, true, true, true, true, true, true, false, true, false, false, true, false, false, false, false] rfl rfl (by kernel_rfl) (fun _ _ _ h => h) (Or.inl ⟨by rfl, ?_⟩) ?_ ?_
          rotate_left
          · intro w'
            go_simp
            with_reducible rfl
          rotate_left
          · simp only [Act.put, List.setIfInBounds_toArray, List.set_cons_zero, List.set_cons_succ, i64_w, i32_w]
            rfl
          refine take_ (i := 15) (N := some 52) (v := ?_) (a' := ?_) #[true, true, true, true, true, true, true, true, true, true, true, true, false, true, false, true, true, false, false, false, false] rfl rfl (by kernel_rfl) (fun _ _ _ h => h) (Or.inl ⟨by rfl, ?_⟩) hHeld ?_ ?_
          rotate_left
          · rintro w' ⟨s0, s1, s2⟩
            go_simp
            with_reducible rfl
          rotate_left
          · simp only [Act.put, List.setIfInBounds_toArray, List.set_cons_zero, List.set_cons_succ, i64_w, i32_w]
            rfl
          refine one_ (i := 12) (N := some 49) #[true, true, true, true, true, true, true, true, true, true, true, true, true, true, false, true, true, false, false, false, false] rfl rfl (by kernel_rfl) (by decide) (fun K hK => ?_)
          refine goes_ Try.func33 (by kernel_rfl) rfl #[.string ⟨#[32, 32]⟩, .int .i64 ((nd t x).f1 - 1)] (by rfl) rfl rfl (by simp only [List.map_toArray, List.map_cons, List.map_nil]; rfl) ?_
          with_reducible refine (repeat_any (nd t x).f1 hd1 hd3 _).mono ?_
          rintro e w6 ⟨rfl, hb6⟩
          refine ⟨_, rfl, ?_⟩
          have HR6 := Aside0.mk (HR5.out.below hb6)
          refine hK.out _ _ ⟨pw_cell_below hb6 hHeld.1, pw_cell_below hb6 hHeld.2.1, pw_cell_below hb6 hHeld.2.2⟩ (fun hHeld => ?_)
          clear hK K
          refine norm_ (a' := ?_) ?_ ?_
          rotate_left
          · show Act.put _ (some 49) _ = _
            simp only [Act.put, List.setIfInBounds_toArray, List.set_cons_zero, List.set_cons_succ, i64_w, i32_w]
            rfl
          refine pure_ (i := 14) (N := some 51) (v := ?_) (a' := ?_) #[true, true, true, true, true, true, true, true, true, true, true, true, true, true, true, true, true, false, false, false, false] rfl rfl (by kernel_rfl) (fun _ _ _ h => h) (Or.inl ⟨by rfl, ?_⟩) ?_ ?_
          rotate_left
          · intro w'
            go_simp
            with_reducible rfl
          rotate_left
          · simp only [Act.put, List.setIfInBounds_toArray, List.set_cons_zero, List.set_cons_succ, i64_w, i32_w]
            rfl
          refine one_ (i := 17) (N := some 54) #[true, true, true, true, true, true, true, true, true, true, true, true, true, true, true, true, true, true, false, false, false] rfl rfl (by kernel_rfl) (by decide) (fun K hK => ?_)
          refine goes_ Try.func34 (by kernel_rfl) rfl #[.pointer (some ⟨b, 0, none⟩), .int .i64 (x : Int)] (by rfl) rfl rfl (by simp only [List.map_toArray, List.map_cons, List.map_nil]; rfl) ?_
          with_reducible refine (says_any b (some ad) c t x _ hHeld.2.1 (Kd.C_below h0 (HR6.out.base HBX.out)) hxl G.len hc (G.kind x (by omega) hxl) (by have := G.txt x hxl; omega) (GM.below hgm (HR6.out.base HBX.out))).mono ?_
          rintro e w7 ⟨rfl, hb7⟩
          refine ⟨_, rfl, ?_⟩
          have HR7 := Aside0.mk (HR6.out.below hb7)
          refine hK.out _ _ ⟨pw_cell_below hb7 hHeld.1, pw_cell_below hb7 hHeld.2.1, pw_cell_below hb7 hHeld.2.2⟩ (fun hHeld => ?_)
          clear hK K
          refine norm_ (a' := ?_) ?_ ?_
          rotate_left
          · show Act.put _ (some 54) _ = _
            simp only [Act.put, List.setIfInBounds_toArray, List.set_cons_zero, List.set_cons_succ, i64_w, i32_w]
            rfl
          refine pure_ (i := 18) (N := some 55) (v := ?_) (a' := ?_) #[true, true, true, true, true, true, true, true, true, true, true, true, true, true, true, true, true, true, true, false, false] rfl rfl (by kernel_rfl) (fun _ _ _ h => h) (Or.inl ⟨by rfl, ?_⟩) ?_ ?_
          rotate_left
          · intro w'
            go_simp
            with_reducible rfl
          rotate_left
          · simp only [Act.put, List.setIfInBounds_toArray, List.set_cons_zero, List.set_cons_succ, i64_w, i32_w]
            rfl
          refine pure_ (i := 19) (N := some 56) (v := ?_) (a' := ?_) #[true, true, true, true, true, true, true, true, true, true, true, true, true, true, true, true, true, true, true, true, false] rfl rfl (by kernel_rfl) (fun _ _ _ h => h) (Or.inl ⟨by rfl, ?_⟩) ?_ ?_
          rotate_left
          · intro w'
            go_simp
            with_reducible rfl
          rotate_left
          · simp only [Act.put, List.setIfInBounds_toArray, List.set_cons_zero, List.set_cons_succ, i64_w, i32_w]
            rfl
          refine last_ (i := 20) (N := some 57) #[true, true, true, true, true, true, true, true, true, true, true, true, true, true, true, true, true, true, true, true, true] rfl rfl (by kernel_rfl) (by decide) (fun K hK => ?_)
          refine goes_ Try.func32 (by kernel_rfl) rfl #[.pointer (some ⟨b, 1, none⟩), .string (((mkB (indU (nd t x).f1) ++ mkB (signU t p x)) ++ mkB (saysU t x)) ++ ⟨#[10]⟩)] (by rfl) rfl rfl (by simp only [List.map_toArray, List.map_cons, List.map_nil]; rfl) ?_
          with_reducible refine (write_any w0.heap.size b (.slice (some ad) t.length c) s1.1 s1.2 _ _ HR7.out.wt HLEN.out).mono ?_
          rintro e w8 ⟨rfl, hwt8, hfr8⟩
          refine ⟨_, rfl, ?_⟩
          have HWT8 := Aside0.mk hwt8
          have HFR8 := Aside0.mk (HR7.out.fr.trans (hfr8 _))
          clear hwt8 hfr8
          refine hK.out _ _ ?_
          clear hK K
          refine norm_ (a' := ?_) ?_ ?_
          rotate_left
          · show Act.put _ (some 57) _ = _
            simp only [Act.put, List.setIfInBounds_toArray, List.set_cons_zero, List.set_cons_succ, i64_w, i32_w]
            rfl
          refine done_ (by kernel_rfl) ?_
          clear g0 g2 g3 hz1 hz2 hz3 hwr
          rw [HLN.out] at HWT8
          have h8w : w8.cell? ⟨n, 0, none⟩ = some (.pointer (some ⟨b, 0, none⟩)) := blk_cell (HFR8.out.cells (by omega) HKWX.out (by decide) (by omega)) 0
          have h8n : w8.cell? ⟨b, 3, none⟩ = some (.int .i64 (s1.2 : Int)) := HWT8.out.cell3
          have h8f : w8.frozen? ⟨b, 3, none⟩ = false := HWT8.out.fz3
          have hs2 := HOK1.out.1
          have hs3 : (s1.2 : Int) + 1 ≤ 33554433 := by have := HOK1.out.2; omega
          have hs4 : (0 : Int) ≤ (s1.2 : Int) := by omega
          have hrl := lineU_len G p hxl
          have HOK2 := Aside0.mk (show Okay (s1.1 ++ lineU t p x, s1.2 + 1) from ⟨by show s1.2 + 1 ≤ _; rw [List.length_append]; omega, by show (s1.1 ++ _).length ≤ _; rw [List.length_append]; omega⟩)
          have HWT9 := Aside0.mk (show Wt w0.heap.size b (.slice (some ad) t.length c) (s1.1 ++ lineU t p x) ((s1.2 + 1 : Nat) : Int) (w8.setCell ⟨b, 3, none⟩ (.int .i64 ((s1.2 : Int) + 1))) from by
            have := HWT8.out.set3 ((s1.2 : Int) + 1)
            rwa [show ((s1.2 + 1 : Nat) : Int) = (s1.2 : Int) + 1 from by omega])
          have HFR9 := Aside0.mk (show Fr w2.heap.size w0.heap.size b w2 (w8.setCell ⟨b, 3, none⟩ (.int .i64 ((s1.2 : Int) + 1))) from HFR8.out.trans (fr_set _ hbase 3 _))
          clear hs2 hrl
          gi_wp2
          refine ⟨trivial, CallsIn.inRound l ((callsIn_wide.2 (IH.out x hxl (by have := HKP.out; omega) (s1.1 ++ lineU t p x, s1.2 + 1) _ HOK2.out (HBX.out.trans (HFR9.out.to_below HBX.out.size HBX.out.size)) HWT9.out)).mono ?_)⟩
          rintro e w10 ⟨rfl, hwt10, hfr10⟩
          have HWT10 := Aside0.mk hwt10
          have HFR10 := Aside0.mk (HFR9.out.trans (hfr10.less HFR9.out.size))
          clear hwt10 hfr10 h8w h8n h8f
          gi_wp2
          exact ⟨HFR10.out.keeps HWT1.out _, HFR10.out.less hnX, wr t k x (s1.1 ++ lineU t p x, s1.2 + 1), by rw [HNEXT.out, HNX.out], wr_ok G k x _ HOK2.out, HWT10.out, HFR1.out.trans (HFR10.out.less (by omega))⟩
    case done =>
      intro xs X hxs hi hD
      obtain ⟨s1, hs1, hok1, hwt1, hfr1⟩ := hi
      have HRES := Aside0.mk (show wr t (k + 1) p s = s1 by rw [hs1, hxs]; rfl)
      have HWT1 := Aside0.mk hwt1
      have HFR1 := Aside0.mk hfr1
      have HD := Aside0.mk hD
      clear hs1 hxs hok1 hwt1 hfr1 hD
      dsimp only [Exit.inBlock, Exit.then]
      gi_wp2
      refine ⟨by simp, .inl ⟨_, _, rfl, run_takeDeferred HD.out, ?_⟩⟩
      have hz := HZ4.out
      refine ⟨_, results_none rfl _ _ _, rfl, ?_, ?_⟩
      · rw [HRES.out]
        exact HWT1.out.turn (grownBy_putObj' X W4.heap.size (.deferred none)) (fun e => by have := Option.some.inj e; omega) (fun r e cs fr hx => by cases e; rw [HD.out] at hx; cases hx)
      · rw [← HN0.out]
        exact ((Fr.of_below HB04.out (Nat.le_refl _)).trans (HFR1.out.less (by omega))).turn (grownBy_putObj' X W4.heap.size (.deferred none)) (fun r e => by cases e; omega)
    case stop =>
      intro cd pre X hpre hx hD
      obtain ⟨rfl, s1, hs1, hbig, hwt1, hfr1⟩ := hx
      obtain ⟨rest, hrest⟩ := hpre
      have HRES := Aside0.mk (show wr t (k + 1) p s = s1 by
        show (partsOf t p).foldl (rnd (wr t k) t p) s = s1
        rw [← hrest, List.foldl_append, ← hs1]
        exact foldl_stop rest s1 hbig)
      have HWT1 := Aside0.mk hwt1
      have HFR1 := Aside0.mk hfr1
      have HD := Aside0.mk hD
      clear hs1 hrest hbig hwt1 hfr1 hD
      dsimp only [Exit.inBlock, Exit.then]
      gi_wp2
      refine ⟨by simp, .inl ⟨_, _, rfl, run_takeDeferred HD.out, ?_⟩⟩
      have hz := HZ4.out
      refine ⟨_, results_none rfl _ _ _, rfl, ?_, ?_⟩
      · rw [HRES.out]
        exact HWT1.out.turn (grownBy_putObj' X W4.heap.size (.deferred none)) (fun e => by have := Option.some.inj e; omega) (fun r e cs fr hx => by cases e; rw [HD.out] at hx; cases hx)
      · rw [← HN0.out]
        exact ((Fr.of_below HB04.out (Nat.le_refl _)).trans (HFR1.out.less (by omega))).turn (grownBy_putObj' X W4.heap.size (.deferred none)) (fun r e => by cases e; omega)
end Go.Proofs.Ytofajjodonhdkaa.Q
