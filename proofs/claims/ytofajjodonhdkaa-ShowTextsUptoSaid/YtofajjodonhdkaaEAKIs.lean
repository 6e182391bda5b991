/- Is it a tree: Is of package tree. -/
import Derived.Test.YtofajjodonhdkaaEAKOf
import Derived.Test.YtofajjodonhdkaaEAKFits
import Derived.Test.YtofajjodonhdkaaEAKRange
import Derived.Test.YtofajjodonhdkaaEASMap
import Derived.StillTailTactics
import Derived.Outline
import Derived.Lib.Hide
import Derived.WalkMore
namespace Go.Proofs.Ytofajjodonhdkaa.Q
open Go Go.RowKit Go.Shelf Go.Proofs.YtofajjodonhdkaaW.PrintWords Go.Proofs.YtofajjodonhdkaaW.PrintLast Go.Proofs.YtofajjodonhdkaaW.PrintMore Go.Proofs.Ytofajjodonhdkaa.SMap
attribute [local go_sem] max2_int min2_int max_two min_two
set_option linter.unusedVariables false
set_option linter.unusedSimpArgs false
set_option linter.unusedSectionVars false
/-- An open block: its node, and the block of its keys' map. -/
structure SB where
  f0 : Int
  f1 : Bool
  f2 : Int
  f3 : Nat
def zB : SB := ⟨0, false, 0, 0⟩
def kmap : Kd Nat := Kd.scalar (fun b : Nat => Value.map (some b)) (fun _ => rfl)
def kB : Kd SB := Kd.iso (Kd.pair (Kd.int .i64) (Kd.pair Kd.bool (Kd.pair (Kd.int .i64) kmap))) (fun x : SB => (x.f0, x.f1, x.f2, x.f3))
theorem kB_open {w : World} {x : SB} {cs : List Value} (h : kB.K w x cs) : cs = [.int .i64 x.f0, .bool x.f1, .int .i64 x.f2, .map (some x.f3)] := by
  obtain ⟨_, _, rfl, rfl, ⟨_, _, rfl, rfl, ⟨_, _, rfl, rfl, rfl⟩⟩⟩ := h
  exact rfl
theorem kB_mkM (w : World) (base : Nat) (ok : Nat → Prop) (x : SB) : kB.M w base ok x [.int .i64 x.f0, .bool x.f1, .int .i64 x.f2, .map (some x.f3)] := ⟨[.int .i64 x.f0], [.bool x.f1, .int .i64 x.f2, .map (some x.f3)], rfl, rfl, ⟨[.bool x.f1], [.int .i64 x.f2, .map (some x.f3)], rfl, rfl, ⟨[.int .i64 x.f2], [.map (some x.f3)], rfl, rfl, rfl⟩⟩⟩
theorem at_B {w : World} {A : Option Addr} {n : Nat} {xs : List SB} (h : Kd.C kB w A n xs) (i : Nat) (h1 : i < n) : ∃ ad, A = some ad ∧ w.cell? (ad.add (i * 4)) = some (.int .i64 (xs.getD i zB).f0) ∧ w.cell? ⟨(ad.add (i * 4)).block, (ad.add (i * 4)).off + 1, none⟩ = some (.bool (xs.getD i zB).f1) ∧ w.cell? ⟨(ad.add (i * 4)).block, (ad.add (i * 4)).off + 2, none⟩ = some (.int .i64 (xs.getD i zB).f2) ∧ w.cell? ⟨(ad.add (i * 4)).block, (ad.add (i * 4)).off + 3, none⟩ = some (.map (some (xs.getD i zB).f3)) := by
  obtain ⟨ad, c, e, _, hK, hc0⟩ := Kd.C_get h zB (i : Int) (by omega) (by omega)
  have hc : ∀ j u, c[j]? = some u → w.cell? (ad.add (i * 4 + j)) = some u := hc0
  have ek := kB_open hK
  subst ek
  exact ⟨ad, e, hc 0 _ rfl, by rw [← add_field _ _ 1 (by omega)]; exact hc 1 _ rfl, by rw [← add_field _ _ 2 (by omega)]; exact hc 2 _ rfl, by rw [← add_field _ _ 3 (by omega)]; exact hc 3 _ rfl⟩
theorem infoB : (Try.prog.info? 48).map (fun i => (i.zero, i.size, i.bytes)) = some (some (.agg #[.int .i64 0, .bool false, .int .i64 0, .map none]), 4, 32) := by kernel_rfl
/-- The open blocks: each with its node and its keys, the root's first. -/
abbrev OS := List (Nat × List ByteArray)
def kvOf (ks : List ByteArray) : KV := ks.map fun k => (k, .int .i64 1)
def rowB (os : OS) (bs : List Nat) : List SB := List.zipWith (fun o b => ⟨0, false, (o.1 : Int), b⟩) os bs
def hasK (s : ByteArray) (ks : List ByteArray) : Bool := ks.any fun k => decide (s = k)
theorem hasK_iff (s : ByteArray) (ks : List ByteArray) : hasK s ks = true ↔ s ∈ ks := by simp [hasK]
def isGo (t : List SN) : OS → Nat → Nat → Bool
  | _, 0, _ => true
  | os, k + 1, i =>
    if fitsB (nd t i) (nd t (i - 1)) = false then false
    else if (nd t (os.getD ((nd t i).f1.toNat - 1) (0, [])).1).f0 = 2 then
      if (nd t i).f2.toList ≠ [] then false else isGo t (os.take (nd t i).f1.toNat ++ [(i, [])]) k (i + 1)
    else if (hasK (nd t i).f2 (os.getD ((nd t i).f1.toNat - 1) (0, [])).2 || decide (64 < (nd t i).f2.size)) = true then false
    else isGo t ((os.take (nd t i).f1.toNat).set ((nd t i).f1.toNat - 1) ((os.getD ((nd t i).f1.toNat - 1) (0, [])).1, (os.getD ((nd t i).f1.toNat - 1) (0, [])).2 ++ [(nd t i).f2]) ++ [(i, [])]) k (i + 1)
def rootB (t : List SN) : Bool := decide (1 ≤ t.length) && (decide (t.length ≤ 16384) && (decide ((nd t 0).f0 = 1) && (decide ((nd t 0).f1 = 0) && ((nd t 0).f2.toList.isEmpty && (nd t 0).f3.toList.isEmpty))))
def isP (t : List SN) : Bool := rootB t && isGo t [(0, [])] (t.length - 1) 1
theorem getS_kv (s : ByteArray) : ∀ ks : List ByteArray, getS (kvOf ks) s = if hasK s ks = true then some (Value.int .i64 1) else none
  | [] => rfl
  | k :: r => by
    show (if s = k then some (Value.int .i64 1) else getS (kvOf r) s) = if (decide (s = k) || hasK s r) = true then _ else _
    rw [getS_kv s r]
    by_cases h : s = k
    · rw [if_pos h, decide_eq_true h, Bool.true_or, if_pos rfl]
    · rw [if_neg h, decide_eq_false h, Bool.false_or]
theorem set_kv (s : ByteArray) (ks : List ByteArray) (h : hasK s ks = false) : setS (kvOf ks) s (.int .i64 1) = kvOf (ks ++ [s]) := by
  rw [set_new]
  · unfold kvOf
    rw [List.map_append]
    rfl
  · rw [idx_none, getS_kv, h, if_neg (by decide)]
/-- What the maps of the open blocks hold. -/
structure OpenRel (w : World) (base : Nat) (os : OS) (bs : List Nat) : Prop where
  len : bs.length = os.length
  maps : ∀ j, j < os.length → SM w (bs.getD j 0) (kvOf (os.getD j (0, [])).2)
  low : ∀ b ∈ bs, base ≤ b
  nodup : bs.Nodup
theorem OpenRel.grow {w w' : World} {base : Nat} {os : OS} {bs : List Nat} {row : Option Nat} (h : OpenRel w base os bs) (hg : w.grownBy w' row) (hr : ∀ r, row = some r → ∃ cs ty fr, w.heap[r]? = some (.cells cs ty fr)) : OpenRel w' base os bs :=
  ⟨h.len, fun j hj => (h.maps j hj).kept hg (fun e => by
    obtain ⟨cs, ty, fr, hx⟩ := hr _ e.symm
    have := h.maps j hj
    unfold SM at this
    rw [this] at hx
    cases hx), h.low, h.nodup⟩
theorem OpenRel.below {w w' : World} {base : Nat} {os : OS} {bs : List Nat} (h : OpenRel w base os bs) (hb : Below w.heap.size w w') : OpenRel w' base os bs :=
  ⟨h.len, fun j hj => (h.maps j hj).below hb (h.maps j hj).lt, h.low, h.nodup⟩
theorem OpenRel.take {w : World} {base : Nat} {os : OS} {bs : List Nat} (h : OpenRel w base os bs) (d : Nat) : OpenRel w base (os.take d) (bs.take d) := by
  refine ⟨by rw [List.length_take, List.length_take, h.len], fun j hj => ?_, fun b hb => h.low b (List.mem_of_mem_take hb), h.nodup.sublist (List.take_sublist _ _)⟩
  rw [List.length_take] at hj
  have hj1 : j < os.length := by omega
  have := h.maps j hj1
  have hl := h.len
  simp only [List.getD_eq_getElem?_getD, List.getElem?_take] at this ⊢
  rw [if_pos (by omega), if_pos (by omega)]
  exact this
theorem OpenRel.push {w : World} {base : Nat} {os : OS} {bs : List Nat} (h : OpenRel w base os bs) (i m : Nat) (hm : SM w m []) (hb : base ≤ m) (hn : m ∉ bs) : OpenRel w base (os ++ [(i, [])]) (bs ++ [m]) := by
  have hl := h.len
  refine ⟨by simp [hl], fun j hj => ?_, fun b hb' => ?_, ?_⟩
  · rw [List.length_append, List.length_singleton] at hj
    by_cases hlt : j < os.length
    · have := h.maps j hlt
      simp only [List.getD_eq_getElem?_getD] at this ⊢
      rw [List.getElem?_append_left hlt, List.getElem?_append_left (by omega)]
      exact this
    · have e : j = os.length := by omega
      subst e
      simp only [List.getD_eq_getElem?_getD]
      rw [List.getElem?_append_right (Nat.le_refl _), List.getElem?_append_right (by omega), hl, Nat.sub_self]
      exact hm
  · rcases List.mem_append.1 hb' with h1 | h1
    · exact h.low b h1
    · rw [List.mem_singleton.1 h1]; exact hb
  · rw [List.nodup_append]
    exact ⟨h.nodup, by simp, fun a ha b hb' e => hn (by rw [← List.mem_singleton.1 hb', ← e]; exact ha)⟩
theorem OpenRel.put {w w' : World} {base : Nat} {os : OS} {bs : List Nat} (h : OpenRel w base os bs) (j : Nat) (hj : j < os.length) (x : Nat) (ks : List ByteArray) (hm : SM w' (bs.getD j 0) (kvOf ks)) (hg : w.grownBy w' (some (bs.getD j 0))) : OpenRel w' base (os.set j (x, ks)) bs := by
  have hl := h.len
  refine ⟨by rw [List.length_set, hl], fun k hk => ?_, h.low, h.nodup⟩
  rw [List.length_set] at hk
  by_cases e : k = j
  · subst e
    simp only [List.getD_eq_getElem?_getD] at hm ⊢
    rw [List.getElem?_set_self hk]
    exact hm
  · have h1 := h.maps k hk
    simp only [List.getD_eq_getElem?_getD] at h1 ⊢
    rw [List.getElem?_set_ne (fun e' => e e'.symm)]
    refine h1.kept hg (fun e' => e ?_)
    have e2 := Option.some.inj e'
    have hk' : k < bs.length := by omega
    have hj' : j < bs.length := by omega
    simp only [List.getD_eq_getElem?_getD, List.getElem?_eq_getElem hk', List.getElem?_eq_getElem hj', Option.getD_some] at e2
    have hp := List.pairwise_iff_getElem.1 h.nodup
    rcases Nat.lt_trichotomy k j with h3 | h3 | h3
    · exact absurd e2 (hp k j hk' hj' h3)
    · exact h3
    · exact absurd e2.symm (hp j k hj' hk' h3)
theorem OpenRel.lt {w : World} {base : Nat} {os : OS} {bs : List Nat} (h : OpenRel w base os bs) : ∀ b ∈ bs, b < w.heap.size := fun b hb => by
  obtain ⟨j, hj, rfl⟩ := List.getElem_of_mem hb
  have := (h.maps j (by have := h.len; omega)).lt
  simpa [List.getD_eq_getElem?_getD, List.getElem?_eq_getElem hj] using this
theorem rowB_len (os : OS) (bs : List Nat) (h : bs.length = os.length) : (rowB os bs).length = os.length := by unfold rowB; rw [List.length_zipWith, h, Nat.min_self]
theorem rowB_take (os : OS) (bs : List Nat) (d : Nat) : (rowB os bs).take d = rowB (os.take d) (bs.take d) := by unfold rowB; rw [List.take_zipWith]
theorem rowB_push (os : OS) (bs : List Nat) (h : bs.length = os.length) (i m : Nat) : rowB os bs ++ [⟨0, false, (i : Int), m⟩] = rowB (os ++ [(i, [])]) (bs ++ [m]) := by
  unfold rowB
  rw [List.zipWith_append h.symm]
  rfl
theorem rowB_get (os : OS) (bs : List Nat) (h : bs.length = os.length) (j : Nat) (hj : j < os.length) : (rowB os bs).getD j zB = ⟨0, false, ((os.getD j (0, [])).1 : Int), bs.getD j 0⟩ := by
  unfold rowB
  have hj' : j < bs.length := by omega
  simp only [List.getD_eq_getElem?_getD, List.getElem?_zipWith, List.getElem?_eq_getElem hj, List.getElem?_eq_getElem hj', Option.getD_some]
theorem rowB_put (os : OS) (bs : List Nat) (h : bs.length = os.length) (j : Nat) (hj : j < os.length) (ks : List ByteArray) : rowB (os.set j ((os.getD j (0, [])).1, ks)) bs = rowB os bs := by
  apply List.ext_getElem?
  intro k
  unfold rowB
  rw [List.getElem?_zipWith, List.getElem?_zipWith]
  by_cases e : k = j
  · subst e
    rw [List.getElem?_set_self hj, List.getElem?_eq_getElem hj]
    simp only [List.getD_eq_getElem?_getD, List.getElem?_eq_getElem hj, Option.getD_some]
    cases bs[k]? <;> rfl
  · rw [List.getElem?_set_ne (fun e' => e e'.symm)]
theorem nodes_push {os : OS} {k : Nat} (h : ∀ j, j < os.length → (os.getD j (0, [])).1 < k) : ∀ j, j < (os ++ [(k, ([] : List ByteArray))]).length → ((os ++ [(k, [])]).getD j (0, [])).1 < k + 1 := fun j hj => by
  rw [List.length_append, List.length_singleton] at hj
  by_cases hlt : j < os.length
  · have := h j hlt
    simp only [List.getD_eq_getElem?_getD] at this ⊢
    rw [List.getElem?_append_left hlt]
    omega
  · have e : j = os.length := by omega
    subst e
    simp only [List.getD_eq_getElem?_getD]
    rw [List.getElem?_append_right (Nat.le_refl _), Nat.sub_self]
    exact Nat.lt_succ_self k
theorem nodes_set {os : OS} {k j0 : Nat} (h : ∀ j, j < os.length → (os.getD j (0, [])).1 < k) (x : Nat) (hx : x < k) (ks : List ByteArray) : ∀ j, j < (os.set j0 (x, ks)).length → ((os.set j0 (x, ks)).getD j (0, [])).1 < k := fun j hj => by
  rw [List.length_set] at hj
  have := h j hj
  simp only [List.getD_eq_getElem?_getD] at this ⊢
  by_cases e : j0 = j
  · subst e
    rw [List.getElem?_set_self hj]
    exact hx
  · rw [List.getElem?_set_ne e]
    exact this
theorem R_map {W W' : World} {base mb : Nat} {v : Value} {xs : List SB} {kvs : KV} (h : Kd.R kB 48 W base (fun _ => True) v xs) (hm : SM W mb kvs) (hg : W.grownBy W' (some mb)) : Kd.R kB 48 W' base (fun _ => True) v xs := by
  refine Kd.R_mono (Kd.R_step (Kd.R_bound h) (fun k hk hlt => hg.block k hlt (fun he => ?_))) (fun _ _ => trivial)
  obtain ⟨_, hb, _, q, _, cells, hc⟩ := hk
  cases he
  unfold SM at hm
  rw [hm] at hc
  cases hc
theorem zero3I (w : World) : (zeroValue 3).run Try.prog w = .ok (.int .i64 0) w := by kernel_rfl
theorem below_map {B mb : Nat} {a b c : World} (h : Below B a b) (hs : B ≤ b.heap.size) (hg : b.grownBy c (some mb)) (hm : B ≤ mb) : Below B a c :=
  h.trans ⟨hg.os, hg.tape, hg.output, hg.size, fun k hk => hg.block k (by omega) (fun e => by have := Option.some.inj e; omega)⟩
theorem ret_boolI {a b : Bool} (h : a = b) : Ending.returned (.bool a) = .returned (.bool b) := by rw [h]
/-- Where the loop of Is stands. -/
structure IsR (w : World) (t : List SN) (res : Bool) (k : Nat) (os : OS) (bs : List Nat) (v : Value) (wr : World) : Prop where
  k1 : 1 ≤ k
  k2 : k ≤ t.length
  dep : os.length = (nd t (k - 1)).f1.toNat + 1
  d0 : 0 ≤ (nd t (k - 1)).f1
  d2 : (nd t (k - 1)).f1 ≤ 32
  nodes : ∀ j, j < os.length → (os.getD j (0, [])).1 < k
  go : isGo t os (t.length - k) k = res
  rel : OpenRel wr w.heap.size os bs
  row : Kd.R kB 48 wr w.heap.size (fun _ => True) v (rowB os bs)
  bel : Below w.heap.size w wr
set_option maxRecDepth 100000 in
set_option maxHeartbeats 4000000 in
theorem is_any (A : Option Addr) (c : Nat) (t : List SN) (w : World) (hr : Kd.C k31 w A t.length t) (hc : t.length ≤ c) (hlen : t.length ≤ 1048576) :
    Calls Try.prog 15 #[.slice A t.length c] w fun e w' => e = .returned (.bool (isP t)) ∧ Below w.heap.size w w' := by
  have HR := Aside0.mk hr
  by_cases h0 : t.length = 0
  · have e : isP t = false := by unfold isP rootB; rw [decide_eq_false (show ¬ 1 ≤ t.length by omega)]; rfl
    have h0' : ((t.length : Int) == 0) = true := by rw [h0]; rfl
    rw [e]
    clear hr e h0
    go_enter Try.func15, Try.ntmps15
    go_wp2
    go_ret
    exact ⟨rfl, Below.refl _ _⟩
  have h0' : ((t.length : Int) == 0) = false := beq_eq_false_iff_ne.2 (by omega)
  by_cases h1 : t.length ≤ 16384
  case neg =>
    have e : isP t = false := by unfold isP rootB; rw [decide_eq_false h1, Bool.false_and, Bool.and_false]; rfl
    have h1' : (16384 : Int) < (t.length : Int) := by omega
    rw [e]
    clear hr e h0 h1
    go_enter Try.func15, Try.ntmps15
    go_wp2
    go_ret
    exact ⟨rfl, Below.refl _ _⟩
  have h1' : ¬ (16384 : Int) < (t.length : Int) := by omega
  have hpos : 0 < t.length := by omega
  have hpos' : (0 : Int) < (t.length : Int) := by omega
  obtain ⟨ad, he, c0, c1, c2, c3, -⟩ := at_T31 hr (0 : Int) (by omega) (by omega)
  subst he
  have e00 : (ad.add ((0 : Int).toNat * 8)) = ad := by show ad.add (0 * 8) = ad; rw [Nat.zero_mul]; rfl
  rw [e00] at c0 c1 c2 c3
  have c0' : w.cell? ad = some (.int .i64 (nd t 0).f0) := c0
  have c1' : w.cell? ⟨ad.block, ad.off + 1, none⟩ = some (.int .i64 (nd t 0).f1) := c1
  have c2' : w.cell? ⟨ad.block, ad.off + 2, none⟩ = some (.string (nd t 0).f2) := c2
  have c3' : w.cell? ⟨ad.block, ad.off + 3, none⟩ = some (.string (nd t 0).f3) := c3
  clear c0 c1 c2 c3 e00 hr
  by_cases hk : (nd t 0).f0 = 1
  case neg =>
    have e : isP t = false := by unfold isP rootB; rw [decide_eq_false hk]; simp
    have hk' : ((nd t 0).f0 != 1) = true := by simpa using hk
    rw [e]
    clear e hk
    go_enter Try.func15, Try.ntmps15
    go_wp2
    go_ret
    exact ⟨rfl, Below.refl _ _⟩
  have hk' : ((nd t 0).f0 != 1) = false := by rw [hk]; rfl
  by_cases hd : (nd t 0).f1 = 0
  case neg =>
    have e : isP t = false := by unfold isP rootB; rw [decide_eq_false hd]; simp
    have hd' : ((nd t 0).f1 != 0) = true := by simpa using hd
    rw [e]
    clear e hk hd
    go_enter Try.func15, Try.ntmps15
    go_wp2
    go_ret
    exact ⟨rfl, Below.refl _ _⟩
  have hd' : ((nd t 0).f1 != 0) = false := by rw [hd]; rfl
  by_cases hs2 : (nd t 0).f2.toList = []
  case neg =>
    have hs2' : (nd t 0).f2.toList.isEmpty = false := by simpa using hs2
    have e : isP t = false := by unfold isP rootB; rw [hs2']; simp
    rw [e]
    clear e hk hd hs2
    go_enter Try.func15, Try.ntmps15
    go_wp2
    go_ret
    exact ⟨rfl, Below.refl _ _⟩
  have hs2' : (nd t 0).f2.toList.isEmpty = true := by simpa using hs2
  by_cases hs3 : (nd t 0).f3.toList = []
  case neg =>
    have hs3' : (nd t 0).f3.toList.isEmpty = false := by simpa using hs3
    have e : isP t = false := by unfold isP rootB; rw [hs3']; simp
    rw [e]
    clear e hk hd hs3
    go_enter Try.func15, Try.ntmps15
    go_wp2
    go_ret
    exact ⟨rfl, Below.refl _ _⟩
  have hs3' : (nd t 0).f3.toList.isEmpty = true := by simpa using hs3
  have HRES := Aside0.mk (show isP t = isGo t [(0, [])] (t.length - 1) 1 by
    unfold isP rootB
    rw [decide_eq_true (show 1 ≤ t.length by omega), decide_eq_true h1, decide_eq_true hk, decide_eq_true hd, hs2', hs3']
    rfl)
  rw [HRES.out]
  have HD := Aside0.mk hd
  have hmm := @run_makeMap Try.prog
  clear HRES h0 h1 hk hd
  go_enter Try.func15, Try.ntmps15
  go_wp2
  go_loopw [3, 4] (fun v i wr => ∃ k os bs, i = .int .i64 ((k : Nat) : Int) ∧ IsR w t (isGo t [(0, [])] (t.length - 1) 1) k os bs v wr) (fun _ i _ => t.length - (intOf i).toNat)
  case atStart =>
    refine ⟨1, [(0, [])], [w.heap.size], rfl, Nat.le_refl _, hpos, by rw [show (1 : Nat) - 1 = 0 from rfl, HD.out]; rfl, by rw [show (1 : Nat) - 1 = 0 from rfl, HD.out]; exact Int.le_refl 0, by rw [show (1 : Nat) - 1 = 0 from rfl, HD.out]; decide, fun j hj => ?_, rfl, ⟨rfl, fun j hj => ?_, fun b hb => ?_, by simp⟩, ⟨fun _ _ => trivial, [.int .i64 0, .bool false, .int .i64 0, .map (some w.heap.size)], ?_, ?_⟩, below_alloc (below_alloc (Below.refl _ _) _) _⟩
    · have : j = 0 := by simpa using hj
      subst this
      decide
    · have : j = 0 := by simpa using hj
      subst this
      exact (SM.made w).alloc _
    · rw [List.mem_singleton.1 hb]; exact Nat.le_refl _
    · have h2 := World.ownsRow_lit (base := w.heap.size) (e := 48) (size := 4) (w.alloc (.map #[] 0)) #[.int .i64 0, .bool false, .int .i64 0, .map (some w.heap.size)] 1 (by simp) (by decide) rfl
      simp at h2
      exact h2
    · exact Reps.c4 (kB_mkM _ _ _ ⟨0, false, 0, w.heap.size⟩) (Reps.none _ _)
  case round =>
    obtain ⟨k, os, bs, rfl, hrel⟩ := hrel
    have HREL := Aside0.mk hrel
    have hk1 := hrel.k1
    have hk2 := hrel.k2
    have hCw := Kd.C_below HR.out hrel.bel
    by_cases hlt : k < t.length
    · obtain ⟨ad1, he1, a0, a1, a2, a3, a4, a5, a6, a7⟩ := at_T31 hCw (k : Int) (by omega) (by omega)
      obtain rfl : ad = ad1 := Option.some.inj he1
      obtain ⟨ad1, he2, b0, b1, b2, b3, b4, b5, b6, b7⟩ := at_T31 hCw ((k - 1 : Nat) : Int) (by omega) (by omega)
      obtain rfl : ad = ad1 := Option.some.inj he2
      clear he1 he2 hrel hCw
      rw [show ((k : Int).toNat) = k from rfl] at a0 a1 a2 a3 a4 a5 a6 a7
      rw [show (((k - 1 : Nat) : Int).toNat) = k - 1 from rfl] at b0 b1 b2 b3 b4 b5 b6 b7
      obtain ⟨x, hx⟩ : ∃ x, x = nd t k := ⟨_, rfl⟩
      obtain ⟨y, hy⟩ : ∃ y, y = nd t (k - 1) := ⟨_, rfl⟩
      rw [show rd_T31 t (k : Int) = x from hx.symm] at a0 a1 a2 a3 a4 a5 a6 a7
      rw [show rd_T31 t ((k - 1 : Nat) : Int) = y from hy.symm] at b0 b1 b2 b3 b4 b5 b6 b7
      have HX := Aside0.mk hx
      have HY := Aside0.mk hy
      have hyd0 : 0 ≤ y.f1 := by rw [hy]; exact HREL.out.d0
      have hyd2 : y.f1 ≤ 32 := by rw [hy]; exact HREL.out.d2
      have hkk : (k : Int) < (t.length : Int) := by omega
      have hk3 : (k : Int) ≤ 16384 := by omega
      have hk4 : (k : Int) - 1 = ((k - 1 : Nat) : Int) := by omega
      have hk5 : ((k - 1 : Nat) : Int) < (t.length : Int) := by omega
      have hwr2 : wrap64 ((k - 1 : Nat) : Int) = ((k - 1 : Nat) : Int) := by unfold wrap64; omega
      have hwr : IntKind.i64.wrap ((k : Int) - 1) = ((k - 1 : Nat) : Int) := by rw [IntKind.wrap_i64]; omega
      have hlt8 : (wr.alloc (.cells #[.int .i64 x.f0, .int .i64 x.f1, .string x.f2, .string x.f3, .string x.f4, .int .i64 x.f5, .int .i64 x.f6, .int .i64 x.f7] 31)).heap[wr.heap.size]? = some (.cells #[.int .i64 x.f0, .int .i64 x.f1, .string x.f2, .string x.f3, .string x.f4, .int .i64 x.f5, .int .i64 x.f6, .int .i64 x.f7] 31 (0, 0)) := blk_new wr _
      have hb8 : Below wr.heap.size wr (wr.alloc (.cells #[.int .i64 x.f0, .int .i64 x.f1, .string x.f2, .string x.f3, .string x.f4, .int .i64 x.f5, .int .i64 x.f6, .int .i64 x.f7] 31)) := below_alloc (Below.refl _ _) _
      have hz8 : (wr.alloc (.cells #[.int .i64 x.f0, .int .i64 x.f1, .string x.f2, .string x.f3, .string x.f4, .int .i64 x.f5, .int .i64 x.f6, .int .i64 x.f7] 31)).heap.size = wr.heap.size + 1 := by simp
      clear hx hy
      go_wp2
      generalize (wr.alloc (.cells #[.int .i64 x.f0, .int .i64 x.f1, .string x.f2, .string x.f3, .string x.f4, .int .i64 x.f5, .int .i64 x.f6, .int .i64 x.f7] 31)) = W8 at hlt8 hb8 hz8 ⊢
      obtain ⟨nb, hnb⟩ : ∃ nb, nb = wr.heap.size := ⟨_, rfl⟩
      rw [← hnb] at hlt8 hz8 hb8 ⊢
      have HN8 := Aside0.mk hlt8
      have n0 : W8.cell? ⟨nb, 0, none⟩ = some (.int .i64 x.f0) := blk_cell hlt8 0
      have n1 : W8.cell? ⟨nb, 1, none⟩ = some (.int .i64 x.f1) := blk_cell hlt8 1
      have n2 : W8.cell? ⟨nb, 2, none⟩ = some (.string x.f2) := blk_cell hlt8 2
      have n3 : W8.cell? ⟨nb, 3, none⟩ = some (.string x.f3) := blk_cell hlt8 3
      have n4 : W8.cell? ⟨nb, 4, none⟩ = some (.string x.f4) := blk_cell hlt8 4
      have n5 : W8.cell? ⟨nb, 5, none⟩ = some (.int .i64 x.f5) := blk_cell hlt8 5
      have n6 : W8.cell? ⟨nb, 6, none⟩ = some (.int .i64 x.f6) := blk_cell hlt8 6
      have n7 : W8.cell? ⟨nb, 7, none⟩ = some (.int .i64 x.f7) := blk_cell hlt8 7
      have HB8 := Aside0.mk (show Below wr.heap.size wr W8 by rw [← hnb]; exact hb8)
      have d0 := pw_cell_below HB8.out b0
      have d1 := pw_cell_below HB8.out b1
      have d2 := pw_cell_below HB8.out b2
      have d3 := pw_cell_below HB8.out b3
      have d4 := pw_cell_below HB8.out b4
      have d5 := pw_cell_below HB8.out b5
      have d6 := pw_cell_below HB8.out b6
      have d7 := pw_cell_below HB8.out b7
      clear a0 a1 a2 a3 a4 a5 a6 a7 b0 b1 b2 b3 b4 b5 b6 b7 hb8 hlt8
      have HNB := Aside0.mk hnb
      clear hnb
      refine start_ (n := 8) (S := fun w' => w'.cell? ⟨nb, 0, none⟩ = some (.int .i64 x.f0) ∧ w'.cell? ⟨nb, 1, none⟩ = some (.int .i64 x.f1) ∧ w'.cell? ⟨nb, 2, none⟩ = some (.string x.f2) ∧ w'.cell? ⟨nb, 3, none⟩ = some (.string x.f3) ∧ w'.cell? ⟨nb, 4, none⟩ = some (.string x.f4) ∧ w'.cell? ⟨nb, 5, none⟩ = some (.int .i64 x.f5) ∧ w'.cell? ⟨nb, 6, none⟩ = some (.int .i64 x.f6) ∧ w'.cell? ⟨nb, 7, none⟩ = some (.int .i64 x.f7) ∧ w'.cell? (ad.add ((k - 1) * 8)) = some (.int .i64 y.f0) ∧ w'.cell? ⟨(ad.add ((k - 1) * 8)).block, (ad.add ((k - 1) * 8)).off + 1, none⟩ = some (.int .i64 y.f1) ∧ w'.cell? ⟨(ad.add ((k - 1) * 8)).block, (ad.add ((k - 1) * 8)).off + 2, none⟩ = some (.string y.f2) ∧ w'.cell? ⟨(ad.add ((k - 1) * 8)).block, (ad.add ((k - 1) * 8)).off + 3, none⟩ = some (.string y.f3) ∧ w'.cell? ⟨(ad.add ((k - 1) * 8)).block, (ad.add ((k - 1) * 8)).off + 4, none⟩ = some (.string y.f4) ∧ w'.cell? ⟨(ad.add ((k - 1) * 8)).block, (ad.add ((k - 1) * 8)).off + 5, none⟩ = some (.int .i64 y.f5) ∧ w'.cell? ⟨(ad.add ((k - 1) * 8)).block, (ad.add ((k - 1) * 8)).off + 6, none⟩ = some (.int .i64 y.f6) ∧ w'.cell? ⟨(ad.add ((k - 1) * 8)).block, (ad.add ((k - 1) * 8)).off + 7, none⟩ = some (.int .i64 y.f7)) (ds := [6]) #[false, false, false, false, false, false, false, false] (by kernel_rfl) rfl rfl ⟨n0, n1, n2, n3, n4, n5, n6, n7, d0, d1, d2, d3, d4, d5, d6, d7⟩ (fun hHeld => ?_)
      refine pure_ (i := 1) (N := some 59) (v := ?_) (a' := ?_) #[false, true, false, false, false, false, false, false] rfl rfl (by kernel_rfl) (fun _ _ _ h => h) (Or.inl ⟨by rfl, ?_⟩) ?_ ?_
      rotate_left
      · intro w'
        go_simp
        with_reducible rfl
      rotate_left
      · simp only [Act.put, List.setIfInBounds_toArray, List.set_cons_zero, List.set_cons_succ, i64_w, i32_w]
        rfl
      refine pure_ (i := 2) (N := some 60) (v := ?_) (a' := ?_) #[false, true, true, false, false, false, false, false] rfl rfl (by kernel_rfl) (fun _ _ _ h => h) (Or.inl ⟨by rfl, ?_⟩) ?_ ?_
      rotate_left
      · intro w'
        go_simp
        with_reducible rfl
      rotate_left
      · simp only [Act.put, List.setIfInBounds_toArray, List.set_cons_zero, List.set_cons_succ, i64_w, i32_w]
        rfl
      refine pure_ (i := 3) (N := some 61) (v := ?_) (a' := ?_) #[false, true, true, true, false, false, false, false] rfl rfl (by kernel_rfl) (fun _ _ _ h => h) (Or.inl ⟨by rfl, ?_⟩) ?_ ?_
      rotate_left
      · intro w'
        go_simp
        with_reducible rfl
      rotate_left
      · simp only [Act.put, List.setIfInBounds_toArray, List.set_cons_zero, List.set_cons_succ, i64_w, i32_w]
        rfl
      refine pure_ (i := 4) (N := some 62) (v := ?_) (a' := ?_) #[false, true, true, true, true, false, false, false] rfl rfl (by kernel_rfl) (fun _ _ _ h => h) (Or.inl ⟨by rfl, ?_⟩) ?_ ?_
      rotate_left
      · intro w'
        go_simp
        with_reducible rfl
      rotate_left
      · simp only [Act.put, List.setIfInBounds_toArray, List.set_cons_zero, List.set_cons_succ, i64_w, i32_w]
        rfl
      refine take_ (i := 0) (N := some 58) (v := ?_) (a' := ?_) #[true, true, true, true, true, false, false, false] rfl rfl (by kernel_rfl) (fun _ _ _ h => h) (Or.inl ⟨by rfl, ?_⟩) hHeld ?_ ?_
      rotate_left
      · rintro w' ⟨s0, s1, s2, s3, s4, s5, s6, s7, s8, s9, s10, s11, s12, s13, s14, s15⟩
        go_simp
        with_reducible rfl
      rotate_left
      · simp only [Act.put, List.setIfInBounds_toArray, List.set_cons_zero, List.set_cons_succ, i64_w, i32_w]
        rfl
      refine take_ (i := 5) (N := some 63) (v := ?_) (a' := ?_) #[true, true, true, true, true, true, false, false] rfl rfl (by kernel_rfl) (fun _ _ _ h => h) (Or.inl ⟨by rfl, ?_⟩) hHeld ?_ ?_
      rotate_left
      · rintro w' ⟨s0, s1, s2, s3, s4, s5, s6, s7, s8, s9, s10, s11, s12, s13, s14, s15⟩
        go_simp
        with_reducible rfl
      rotate_left
      · simp only [Act.put, List.setIfInBounds_toArray, List.set_cons_zero, List.set_cons_succ, i64_w, i32_w]
        rfl
      refine last_ (i := 6) (N := some 64) #[true, true, true, true, true, true, true, false] rfl rfl (by kernel_rfl) (by decide) (fun K hK => ?_)
      refine goes_ Try.func24 (by kernel_rfl) rfl #[.agg #[.int .i64 x.f0, .int .i64 x.f1, .string x.f2, .string x.f3, .string x.f4, .int .i64 x.f5, .int .i64 x.f6, .int .i64 x.f7], .agg #[.int .i64 y.f0, .int .i64 y.f1, .string y.f2, .string y.f3, .string y.f4, .int .i64 y.f5, .int .i64 y.f6, .int .i64 y.f7]] (by rfl) rfl rfl (by simp only [List.map_toArray, List.map_cons, List.map_nil]; rfl) ?_
      with_reducible refine (fits_any x.f0 x.f1 y.f0 y.f1 x.f2 x.f4 x.f3 y.f3 y.f2 y.f4 x.f5 x.f6 x.f7 y.f5 y.f6 y.f7 _ hyd0 hyd2).mono ?_
      rintro e w9 ⟨rfl, hb9⟩
      refine ⟨_, rfl, ?_⟩
      have HB9 := Aside0.mk (show Below W8.heap.size W8 w9 from (Below.refl W8.heap.size W8).drew.trans hb9)
      clear hb9
      refine hK.out _ _ ?_
      clear hK K
      refine norm_ (a' := ?_) ?_ ?_
      rotate_left
      · show Act.put _ (some 64) _ = _
        simp only [Act.put, List.setIfInBounds_toArray, List.set_cons_zero, List.set_cons_succ, i64_w, i32_w]
        rfl
      refine pure_ (i := 7) (N := some 65) (v := ?_) (a' := ?_) #[true, true, true, true, true, true, true, true] rfl rfl (by kernel_rfl) (fun _ _ _ h => h) (Or.inl ⟨by rfl, ?_⟩) ?_ ?_
      rotate_left
      · intro w'
        go_simp
        with_reducible rfl
      rotate_left
      · simp only [Act.put, List.setIfInBounds_toArray, List.set_cons_zero, List.set_cons_succ, i64_w, i32_w]
        rfl
      refine done_ (by kernel_rfl) ?_
      have HLK := Aside0.mk (show t.length - k = (t.length - (k + 1)) + 1 by omega)
      have hfe : fitsB ⟨x.f0, x.f1, x.f2, x.f3, x.f4, x.f5, x.f6, x.f7⟩ ⟨y.f0, y.f1, y.f2, y.f3, y.f4, y.f5, y.f6, y.f7⟩ = fitsB x y := rfl
      cases hf : fitsB x y
      case false =>
        rw [hf] at hfe
        have HRS := Aside0.mk (show isGo t [(0, [])] (t.length - 1) 1 = false by rw [← HREL.out.go, HLK.out, isGo, ← HX.out, ← HY.out, if_pos hf])
        rw [hfe]
        clear hf hfe
        go_wp2
        go_ret
        exact ⟨ret_boolI HRS.out.symm, HREL.out.bel.trans ((HB8.out.mono HREL.out.bel.size).trans (HB9.out.mono (Nat.le_trans HREL.out.bel.size HB8.out.size)))⟩
      case true =>
        rw [hf] at hfe
        rw [hfe]
        have hd1 : 1 ≤ x.f1 ∧ x.f1 ≤ 32 ∧ x.f1 ≤ y.f1 + 1 := by
          have := hf
          unfold fitsB at this
          simp only [Bool.and_eq_true, Bool.or_eq_true, decide_eq_true_eq] at this
          omega
        have HF := Aside0.mk hf
        obtain ⟨hx1, hx2, hx3⟩ := hd1
        clear hf hfe n0 n1 n2 n3 n4 n5 n6 n7 d0 d1 d2 d3 d4 d5 d6 d7 hwr hwr2 hk4
        have hlen9 : os.length = y.f1.toNat + 1 := by have := HREL.out.dep; rwa [← HY.out] at this
        have HL9 := Aside0.mk hlen9
        have hN9 : w9.heap[nb]? = some (.cells #[.int .i64 x.f0, .int .i64 x.f1, .string x.f2, .string x.f3, .string x.f4, .int .i64 x.f5, .int .i64 x.f6, .int .i64 x.f7] 31 (0, 0)) := (HB9.out.block nb (by omega)).trans HN8.out
        have e1 : w9.cell? ⟨nb, 1, none⟩ = some (.int .i64 x.f1) := blk_cell hN9 1
        have e2 : w9.cell? ⟨nb, 2, none⟩ = some (.string x.f2) := blk_cell hN9 2
        have HN9 := Aside0.mk hN9
        have HB := Aside0.mk (HB8.out.trans (HB9.out.mono HB8.out.size))
        have hrow := Kd.R_below HREL.out.row HB.out
        have hrl := rowB_len os bs HREL.out.rel.len
        obtain ⟨A1, c1, hv⟩ := Kd.R_slice hrow
        subst hv
        have HROW := Aside0.mk hrow
        have HRL := Aside0.mk hrl
        have hcap := (Kd.R_reads' hrow).2.1
        rw [hrl] at hrow hcap ⊢
        have hxo : x.f1 ≤ (os.length : Int) := by omega
        have hco : (os.length : Int) ≤ (c1 : Int) := by omega
        clear hN9 hrow hrl
        obtain ⟨d, hd⟩ : ∃ d : Nat, d = x.f1.toNat := ⟨_, rfl⟩
        have hd0 : x.f1.toNat = d := hd.symm
        have hdo : d ≤ os.length := by omega
        have hd1 : 1 ≤ d := by omega
        have hdx : (d : Int) = x.f1 := by omega
        obtain ⟨ad1, hA1, q0, q1, q2, q3⟩ := at_B (Kd.R_reads' HROW.out).2.2 (d - 1) (by rw [HRL.out]; omega)
        subst hA1
        rw [rowB_get os bs HREL.out.rel.len (d - 1) (by omega)] at q0 q1 q2 q3
        have hix0 : (0 : Int) ≤ x.f1 - 1 := by omega
        have hix1 : x.f1 - 1 < (d : Int) := by omega
        have hixn : (x.f1 - 1).toNat = d - 1 := by omega
        have hwx : IntKind.i64.wrap (x.f1 - 1) = x.f1 - 1 := by rw [IntKind.wrap_i64]; omega
        have hnode := HREL.out.nodes (d - 1) (by omega)
        obtain ⟨ob, hob⟩ : ∃ ob, ob = os.getD (d - 1) (0, []) := ⟨_, rfl⟩
        obtain ⟨mb, hmb⟩ : ∃ mb, mb = bs.getD (d - 1) 0 := ⟨_, rfl⟩
        rw [← hob] at q0 q1 q2 q3 hnode
        rw [← hmb] at q0 q1 q2 q3
        have hCn := Kd.C_below HR.out (HREL.out.bel.trans (HB.out.mono HREL.out.bel.size))
        obtain ⟨ad2, he2, z0, -⟩ := at_T31 hCn (ob.1 : Int) (by omega) (by omega)
        obtain rfl : ad = ad2 := Option.some.inj he2
        have z0' : w9.cell? (ad.add (ob.1 * 8)) = some (.int .i64 (nd t ob.1).f0) := z0
        have hobl : (ob.1 : Int) < (t.length : Int) := by omega
        have HOB := Aside0.mk hob
        have HMB := Aside0.mk hmb
        have HDX := Aside0.mk hd
        have hkb : k < t.length := hlt
        have HGO := Aside0.mk (show isGo t [(0, [])] (t.length - 1) 1 = (if (nd t ob.1).f0 = 2 then if x.f2.toList ≠ [] then false else isGo t (os.take d ++ [(k, [])]) (t.length - (k + 1)) (k + 1) else if (hasK x.f2 ob.2 || decide (64 < x.f2.size)) = true then false else isGo t ((os.take d).set (d - 1) (ob.1, ob.2 ++ [x.f2]) ++ [(k, [])]) (t.length - (k + 1)) (k + 1)) by
          rw [← HREL.out.go, HLK.out, isGo, ← HX.out, ← HY.out, if_neg (show ¬ fitsB x y = false by rw [HF.out]; decide), hd0, ← hob])
        have HBW := Aside0.mk (HREL.out.bel.trans (HB.out.mono HREL.out.bel.size))
        have HREL9 := Aside0.mk ((HREL.out.rel.below HB.out).take d)
        have HROW9 := Aside0.mk (show Kd.R kB 48 w9 w.heap.size (fun _ => True) (.slice (some ad1) d c1) (rowB (os.take d) (bs.take d)) by
          have := Kd.R_take HROW.out (m := d) (by rw [HRL.out]; omega)
          rwa [rowB_take] at this)
        have HLTB := Aside0.mk (fun b hb => (HREL.out.rel.below HB.out).lt b (List.mem_of_mem_take (i := d) hb))
        have HKEY := Aside0.mk (show SM w9 mb (kvOf ob.2) by
          have := (HREL.out.rel.below HB.out).maps (d - 1) (by omega)
          rwa [← hob, ← hmb] at this)
        have HTL := Aside0.mk (show (os.take d).length = d by rw [List.length_take]; omega)
        have HTB := Aside0.mk (show (bs.take d).length = (os.take d).length by rw [List.length_take, List.length_take, HREL.out.rel.len])
        have HNOD := Aside0.mk (show ∀ j, j < (os.take d).length → ((os.take d).getD j (0, [])).1 < k from fun j hj => by
          have h1 := HREL.out.nodes j (by rw [List.length_take] at hj; omega)
          rw [List.length_take] at hj
          simp only [List.getD_eq_getElem?_getD, List.getElem?_take] at h1 ⊢
          rw [if_pos (by omega)]
          exact h1)
        have HXN := Aside0.mk HX.out
        clear hob hmb hd he2 z0 hCn hdo hlen9 hcap hx3 hyd0 hyd2 HREL HX HY
        have HOBT := Aside0.mk (show (os.take d).getD (d - 1) (0, []) = ob by
          rw [HOB.out]
          simp only [List.getD_eq_getElem?_getD, List.getElem?_take]
          rw [if_pos (by omega)])
        have HMBT := Aside0.mk (show (bs.take d).getD (d - 1) 0 = mb by
          rw [HMB.out]
          simp only [List.getD_eq_getElem?_getD, List.getElem?_take]
          rw [if_pos (by omega)])
        have z1 : (w9.alloc (.cells #[.int .i64 0, .bool false, .int .i64 (ob.1 : Int), .map (some mb)] 48)).cell? (ad.add (ob.1 * 8)) = some (.int .i64 (nd t ob.1).f0) := pw_cell_below (below_alloc (Below.refl _ _) _) z0'
        have e2' : (w9.alloc (.cells #[.int .i64 0, .bool false, .int .i64 (ob.1 : Int), .map (some mb)] 48)).cell? ⟨nb, 2, none⟩ = some (.string x.f2) := pw_cell_below (below_alloc (Below.refl _ _) _) e2
        have hnb9 : nb < w9.heap.size := by have := HB9.out.size; omega
        by_cases hkl : (nd t ob.1).f0 = 2
        · have hkl' : ((nd t ob.1).f0 == 2) = true := by rw [hkl]; rfl
          by_cases hem : x.f2.toList = []
          · have hem' : x.f2.toList.isEmpty = true := by simpa using hem
            have HG2 := Aside0.mk (show isGo t [(0, [])] (t.length - 1) 1 = isGo t (os.take d ++ [(k, [])]) (t.length - (k + 1)) (k + 1) by rw [HGO.out, if_pos hkl, if_neg (fun h => h hem)])
            clear hkl hem
            obtain ⟨os1, hos1⟩ : ∃ os1, os1 = os.take d := ⟨_, rfl⟩
            obtain ⟨bs1, hbs1⟩ : ∃ bs1, bs1 = bs.take d := ⟨_, rfl⟩
            rw [← hos1] at HROW9 HREL9 HTL HTB HNOD HG2
            rw [← hbs1] at HROW9 HREL9 HTB HLTB
            have hos2 : os1.length ≤ 16384 := by rw [HTL.out]; omega
            clear hos1 hbs1
            have HBV := Aside0.mk (show Below w.heap.size w ((w9.alloc (.cells #[.int .i64 0, .bool false, .int .i64 (ob.1 : Int), .map (some mb)] 48)).alloc (.map #[] 0)) from HBW.out.trans ((below_alloc (below_alloc (Below.refl w9.heap.size w9) _) _).mono HBW.out.size))
            have HRW := Aside0.mk (show Kd.R kB 48 ((w9.alloc (.cells #[.int .i64 0, .bool false, .int .i64 (ob.1 : Int), .map (some mb)] 48)).alloc (.map #[] 0)) w.heap.size (fun _ => True) (.slice (some ad1) d c1) (rowB os1 bs1) from Kd.R_below HROW9.out (below_alloc (below_alloc (Below.refl _ _) _) _))
            have HRLN := Aside0.mk (show (rowB os1 bs1).length = d by rw [rowB_len _ _ HTB.out, HTL.out])
            have HSMB := Aside0.mk (show SM ((w9.alloc (.cells #[.int .i64 0, .bool false, .int .i64 (ob.1 : Int), .map (some mb)] 48)).alloc (.map #[] 0)) (w9.heap.size + 1) [] by have := SM.made (w9.alloc (.cells #[.int .i64 0, .bool false, .int .i64 (ob.1 : Int), .map (some mb)] 48)); rw [World.size_alloc] at this; exact this)
            have HRELV := Aside0.mk (show OpenRel ((w9.alloc (.cells #[.int .i64 0, .bool false, .int .i64 (ob.1 : Int), .map (some mb)] 48)).alloc (.map #[] 0)) w.heap.size os1 bs1 from HREL9.out.below (below_alloc (below_alloc (Below.refl _ _) _) _))
            go_wp2_with (at_builtin; refine Kd.R_append kB (w0 := w) w.heap.size rfl (.tmp 110) (.tmp 114) 49 48 (.agg #[.int .i64 0, .bool false, .int .i64 0, .map none]) 32 rfl Try.underlying49 infoB rfl (by decide) (by omega) (.slice (some ad1) d c1) (rowB os1 bs1) ⟨0, false, (k : Int), w9.heap.size + 1⟩ [.int .i64 0, .bool false, .int .i64 (k : Int), .map (some (w9.heap.size + 1))] (fun _ => True) (fun _ => False) rfl (by first | (go_simp; done) | (go_simp; rfl)) (kB_mkM _ _ _ _) (fun _ h => h.elim) (fun _ _ => trivial) HRW.out HBV.out HBV.out.size (by rw [HRLN.out]; omega) ?_; intro v1 w12 ho1 hb1 hg1 hat1)
            have HO1 := Aside0.mk ho1
            have HB1 := Aside0.mk hb1
            have HG1 := Aside0.mk hg1
            clear ho1 hb1 hg1 hat1
            go_roundw
            case rel =>
              have hown := HRW.out
              refine ⟨k + 1, os1 ++ [(k, [])], bs1 ++ [w9.heap.size + 1], by go_num, by omega, by omega, ?_, ?_, ?_, ?_, ?_, ?_, ?_, HB1.out⟩
              · rw [Nat.add_sub_cancel, List.length_append, HTL.out, List.length_singleton, ← HXN.out, hd0]
              · rw [Nat.add_sub_cancel, ← HXN.out]; omega
              · rw [Nat.add_sub_cancel, ← HXN.out]; omega
              · exact nodes_push HNOD.out
              · exact HG2.out.symm
              · exact (HRELV.out.push k _ HSMB.out (by have := HBW.out.size; omega) (fun hm => by have := HLTB.out _ hm; omega)).grow HG1.out (fun r e => by obtain ⟨cells, hcl⟩ := Kd.R_typed hown r e; exact ⟨cells, _, _, hcl⟩)
              · have := HO1.out
                rwa [rowB_push os1 bs1 HTB.out] at this
            case measure => simp [intOf]; omega
          · have hem' : x.f2.toList.isEmpty = false := by simpa using hem
            have HG2 := Aside0.mk (show isGo t [(0, [])] (t.length - 1) 1 = false by rw [HGO.out, if_pos hkl, if_pos hem])
            clear hkl hem
            go_wp2
            go_ret
            exact ⟨ret_boolI HG2.out.symm, HBW.out.trans ((below_alloc (Below.refl w9.heap.size w9) _).mono HBW.out.size)⟩
        · have hkl' : ((nd t ob.1).f0 == 2) = false := by simpa using hkl
          have HKEYB := Aside0.mk (show SM (w9.alloc (.cells #[.int .i64 0, .bool false, .int .i64 (ob.1 : Int), .map (some mb)] 48)) mb (kvOf ob.2) from HKEY.out.alloc _)
          cases hh : hasK x.f2 ob.2
          case true =>
            have HG2 := Aside0.mk (show isGo t [(0, [])] (t.length - 1) 1 = false by rw [HGO.out, if_neg hkl, hh]; rfl)
            have HGV := Aside0.mk (show (getS (kvOf ob.2) x.f2).getD (.int .i64 0) = .int .i64 1 by rw [getS_kv, hh]; rfl)
            have HGS := Aside0.mk (show (getS (kvOf ob.2) x.f2).isSome = true by rw [getS_kv, hh]; rfl)
            clear hkl hh
            go_wp2_with (at_lookup; refine wpList_lookupOk_sm _ rfl (.tmp 91) (.tmp 93) 46 rfl 9 3 Try.underlying46 Try.underlying9 (.int .i64 0) (zero3I _) mb (kvOf ob.2) rfl HKEYB.out x.f2 rfl (.int .i64 1) HGV.out true HGS.out ?_)
            go_ret
            exact ⟨ret_boolI HG2.out.symm, HBW.out.trans ((below_alloc (Below.refl w9.heap.size w9) _).mono HBW.out.size)⟩
          case false =>
            have HGV := Aside0.mk (show (getS (kvOf ob.2) x.f2).getD (.int .i64 0) = .int .i64 0 by rw [getS_kv, hh]; rfl)
            have HGS := Aside0.mk (show (getS (kvOf ob.2) x.f2).isSome = false by rw [getS_kv, hh]; rfl)
            by_cases hbig : 64 < x.f2.size
            · have HG2 := Aside0.mk (show isGo t [(0, [])] (t.length - 1) 1 = false by rw [HGO.out, if_neg hkl, hh, decide_eq_true hbig]; rfl)
              have hbig' : (64 : Int) < (x.f2.size : Int) := by omega
              clear hkl hh hbig
              go_wp2_with (at_lookup; refine wpList_lookupOk_sm _ rfl (.tmp 91) (.tmp 93) 46 rfl 9 3 Try.underlying46 Try.underlying9 (.int .i64 0) (zero3I _) mb (kvOf ob.2) rfl HKEYB.out x.f2 rfl (.int .i64 0) HGV.out false HGS.out ?_)
              go_ret
              exact ⟨ret_boolI HG2.out.symm, HBW.out.trans ((below_alloc (Below.refl w9.heap.size w9) _).mono HBW.out.size)⟩
            · have HG2 := Aside0.mk (show isGo t [(0, [])] (t.length - 1) 1 = isGo t ((os.take d).set (d - 1) (ob.1, ob.2 ++ [x.f2]) ++ [(k, [])]) (t.length - (k + 1)) (k + 1) by rw [HGO.out, if_neg hkl, hh, decide_eq_false hbig, if_neg (by decide)])
              have HSK := Aside0.mk (set_kv x.f2 ob.2 hh)
              have hbig' : ¬ (64 : Int) < (x.f2.size : Int) := by omega
              clear hkl hh hbig
              obtain ⟨os1, hos1⟩ : ∃ os1, os1 = os.take d := ⟨_, rfl⟩
              obtain ⟨bs1, hbs1⟩ : ∃ bs1, bs1 = bs.take d := ⟨_, rfl⟩
              rw [← hos1] at HROW9 HREL9 HTL HTB HNOD HG2 HOBT
              rw [← hbs1] at HROW9 HREL9 HTB HLTB HMBT
              clear hos1 hbs1
              have HRLN := Aside0.mk (show (rowB os1 bs1).length = d by rw [rowB_len _ _ HTB.out, HTL.out])
              have HROWB := Aside0.mk (show Kd.R kB 48 (w9.alloc (.cells #[.int .i64 0, .bool false, .int .i64 (ob.1 : Int), .map (some mb)] 48)) w.heap.size (fun _ => True) (.slice (some ad1) d c1) (rowB os1 bs1) from Kd.R_below HROW9.out (below_alloc (Below.refl _ _) _))
              have HRELB := Aside0.mk (show OpenRel (w9.alloc (.cells #[.int .i64 0, .bool false, .int .i64 (ob.1 : Int), .map (some mb)] 48)) w.heap.size os1 bs1 from HREL9.out.below (below_alloc (Below.refl _ _) _))
              have HBB := Aside0.mk (show Below w.heap.size w (w9.alloc (.cells #[.int .i64 0, .bool false, .int .i64 (ob.1 : Int), .map (some mb)] 48)) from HBW.out.trans ((below_alloc (Below.refl w9.heap.size w9) _).mono HBW.out.size))
              have HBBS := Aside0.mk HBB.out.size
              have HMLOW := Aside0.mk (show w.heap.size ≤ mb by
                rw [← HMBT.out]
                have hl := HTB.out
                have hl2 := HTL.out
                rw [List.getD_eq_getElem?_getD, List.getElem?_eq_getElem (show d - 1 < bs1.length by omega)]
                exact HREL9.out.low _ (List.getElem_mem _))
              go_wp2_with (first
                | (at_builtin; refine Kd.R_append kB (w0 := w) w.heap.size rfl (.tmp 110) (.tmp 114) 49 48 (.agg #[.int .i64 0, .bool false, .int .i64 0, .map none]) 32 rfl Try.underlying49 infoB rfl (by decide) (by omega) (.slice (some ad1) d c1) (rowB os1 bs1) ⟨0, false, (k : Int), w11.heap.size⟩ [.int .i64 0, .bool false, .int .i64 (k : Int), .map (some w11.heap.size)] (fun _ => True) (fun _ => False) rfl (by first | (go_simp; done) | (go_simp; rfl)) (kB_mkM _ _ _ _) (fun _ h => h.elim) (fun _ _ => trivial) (Kd.R_below (R_map HROWB.out HKEYB.out HG11.out) (below_alloc (Below.refl _ _) _)) (below_alloc (below_map HBB.out HBBS.out HG11.out HMLOW.out) _) (below_alloc (below_map HBB.out HBBS.out HG11.out HMLOW.out) _).size (by rw [HRLN.out]; omega) ?_; intro v1 w12 ho1 hb1 hg1 hat1)
                | (at_mapUpdate; refine wpList_update_sm _ rfl _ _ _ 46 rfl 9 3 Try.underlying46 Try.underlying9 mb (kvOf ob.2) rfl HKEYB.out x.f2 rfl (.int .i64 1) rfl ?_; intro w11 hsm11 hg11; have HSM11 := Aside0.mk hsm11; have HG11 := Aside0.mk hg11; clear hsm11 hg11)
                | (at_lookup; refine wpList_lookup_sm _ rfl (.tmp 105) (.tmp 107) 46 rfl 9 3 Try.underlying46 Try.underlying9 (.int .i64 0) (zero3I _) mb (kvOf ob.2) rfl HKEYB.out x.f2 rfl (.int .i64 0) HGV.out ?_)
                | (at_lookup; refine wpList_lookupOk_sm _ rfl (.tmp 91) (.tmp 93) 46 rfl 9 3 Try.underlying46 Try.underlying9 (.int .i64 0) (zero3I _) mb (kvOf ob.2) rfl HKEYB.out x.f2 rfl (.int .i64 0) HGV.out false HGS.out ?_))
              have HO1 := Aside0.mk ho1
              have HB1 := Aside0.mk hb1
              have HG1 := Aside0.mk hg1
              clear ho1 hb1 hg1 hat1
              go_roundw
              case rel =>
                have hown := Kd.R_below (R_map HROWB.out HKEYB.out HG11.out) (below_alloc (o := .map #[] 0) (Below.refl _ _))
                have hm11 : SM w11 (bs1.getD (d - 1) 0) (kvOf (ob.2 ++ [x.f2])) := by rw [HMBT.out, ← HSK.out]; exact HSM11.out
                have hg11 : (w9.alloc (.cells #[.int .i64 0, .bool false, .int .i64 (ob.1 : Int), .map (some mb)] 48)).grownBy w11 (some (bs1.getD (d - 1) 0)) := by rw [HMBT.out]; exact HG11.out
                have hr11 := HRELB.out.put (d - 1) (by have := HTL.out; omega) ob.1 (ob.2 ++ [x.f2]) hm11 hg11
                refine ⟨k + 1, os1.set (d - 1) (ob.1, ob.2 ++ [x.f2]) ++ [(k, [])], bs1 ++ [w11.heap.size], by go_num, by omega, by omega, ?_, ?_, ?_, ?_, ?_, ?_, ?_, HB1.out⟩
                · rw [Nat.add_sub_cancel, List.length_append, List.length_set, HTL.out, List.length_singleton, ← HXN.out, hd0]
                · rw [Nat.add_sub_cancel, ← HXN.out]; omega
                · rw [Nat.add_sub_cancel, ← HXN.out]; omega
                · exact nodes_push (nodes_set HNOD.out _ hnode _)
                · exact HG2.out.symm
                · exact ((hr11.below (below_alloc (o := .map #[] 0) (Below.refl _ _))).push k _ (SM.made w11) (by have := HBB.out.size; have := HG11.out.size; omega) (fun hm => by have := HLTB.out _ hm; have := HG11.out.size; rw [World.size_alloc] at this; omega)).grow HG1.out (fun r e => by obtain ⟨cells, hcl⟩ := Kd.R_typed hown r e; exact ⟨cells, _, _, hcl⟩)
                · have := HO1.out
                  rw [rowB_push os1 bs1 HTB.out] at this
                  have e2 := rowB_put os1 bs1 HTB.out (d - 1) (by have := HTL.out; omega) (ob.2 ++ [x.f2])
                  rw [HOBT.out] at e2
                  rw [← rowB_push _ bs1 (by rw [List.length_set]; exact HTB.out), e2, rowB_push os1 bs1 HTB.out]
                  exact this
              case measure => simp [intOf]; omega
    · have HG2 := Aside0.mk (show isGo t [(0, [])] (t.length - 1) 1 = true by
        rw [← HREL.out.go, show t.length - k = 0 by omega]
        rfl)
      have HBE := Aside0.mk hrel.bel
      have hkk : ¬ (k : Int) < (t.length : Int) := by omega
      clear hrel hCw
      go_wp2
      go_ret
      exact ⟨ret_boolI HG2.out.symm, HBE.out⟩
end Go.Proofs.Ytofajjodonhdkaa.Q
