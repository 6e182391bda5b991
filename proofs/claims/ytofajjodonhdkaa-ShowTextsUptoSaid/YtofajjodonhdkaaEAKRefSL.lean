/- A line that the document's Show writes, byte by byte: what a walk of it needs. -/
import Derived.Test.YtofajjodonhdkaaEAKRefIs
import Derived.Test.YtofajjodonhdkaaEAKRefSP
import Derived.Test.YtofajjodonhdkaaEAKRefW
import Derived.Deep.Cut
import Derived.Deep.CutRange
namespace Go.Proofs.Ytofajjodonhdkaa.Q
open Go Go.RowKit Go.Shelf Go.Proofs.YtofajjodonhdkaaW.PrintWords Go.Proofs.YtofajjodonhdkaaW.PrintLast Go.Proofs.YtofajjodonhdkaaW.PrintMore
set_option linter.unusedVariables false
set_option linter.unusedSimpArgs false
set_option linter.unusedSectionVars false
theorem refIs_at (A : Option Addr) (c : Nat) (t : List SN) (w : World) (hr : Kd.C k31 w A t.length t) (hc : t.length ≤ c) (hlen : t.length ≤ 1048576) {r : Bool} (h : refP t = r) :
    Calls Try.prog 16 #[.slice A t.length c] w fun e w' => e = .returned (.bool r) ∧ Below w.heap.size w w' := by
  subst h
  exact refIs_any A c t w hr hc hlen
theorem refEnd_at (A : Option Addr) (c : Nat) (t : List SN) (i : Nat) (w : World) (hr : Kd.C k31 w A t.length t) (hc : t.length ≤ c) (hi : i < t.length) (hn : t.length ≤ 1048576) {r : Nat} (h : endOf t i = r) :
    Calls Try.prog 18 #[.slice A t.length c, .int .i64 (i : Int)] w fun e w' => e = .returned (.int .i64 (r : Int)) ∧ Below w.heap.size w w' := by
  subst h
  obtain ⟨k, hk⟩ := (refEnd_ev t i hi hn).rounds
  refine (shuttleref4_End.calls k A c t (i : Int) _ w hr hc hk).mono ?_
  rintro e w' ⟨rfl, hd⟩
  exact ⟨rfl, hd.below⟩
theorem refKey_at (s : ByteArray) (hs : s.size ≤ 1073741824) (w : World) : Calls Try.prog 17 #[.string s] w fun e w' => e = .returned (.string (mkB (keyU s))) ∧ Below w.heap.size w w' := by
  obtain ⟨k, hk⟩ := (refKey_ev s hs).rounds
  have e : (if nameB s = true then s else mkB (writeU s.data.toList)) = mkB (keyU s) := by unfold keyU; split <;> rfl
  rw [e] at hk
  exact (shuttleref2_Key.calls k s _ w hk).mono fun e w' h => h
theorem refValue_at (s : ByteArray) (hs : s.size ≤ 1073741824) (w : World) : Calls Try.prog 19 #[.string s] w fun e w' => e = .returned (.string (mkB (valueU s))) ∧ Below w.heap.size w w' := by
  obtain ⟨k, hk⟩ := (refValue_ev s hs).rounds
  have e : (if plainB s = true then s else mkB (writeU s.data.toList)) = mkB (valueU s) := by unfold valueU; split <;> rfl
  rw [e] at hk
  exact (shuttleref2_Value.calls k s _ w hk).mono fun e w' h => h
theorem u8_info : (Try.prog.info? 5).map (fun i => (i.zero, i.size, i.bytes)) = some (some (.int .u8 0), 1, 1) := by kernel_rfl
/-- The document's loop: the kinds by depth, and what has been written. -/
structure RsR (w : World) (t : List SN) (kb : Nat) (res : ByteArray × Int) (k : Nat) (ks : List Int) (out : List UInt8) (v : Value) (wr : World) : Prop where
  k1 : 1 ≤ k
  k2 : k ≤ t.length
  len : ks.length = 34
  kinds : ∀ j : Nat, (j : Int) ≤ (nd t (k - 1)).f1 → ks.getD j 0 = (nd t (parGo t ((j : Int) + 1) k)).f0
  small : out.length ≤ 65536
  go : rs t (t.length - k) k out = res
  row : wr.heap[kb]? = some (.cells (ksA ks) 33 (0, 0))
  own : Kd.R (Kd.int .u8) 5 wr w.heap.size (fun _ => True) v (numsU out)
  bel : Below w.heap.size w wr
theorem ownR_ne {W : World} {base : Nat} {v : Value} {xs : List Int} {b : Nat} {cs : Array Value} {T : TypeId} (h : Kd.R (Kd.int .u8) 5 W base (fun _ => True) v xs) (hb : W.heap[b]? = some (.cells cs T (0, 0))) (hT : T ≠ 5) : Kd.R (Kd.int .u8) 5 W base (fun g => g ≠ b) v xs :=
  Kd.R_mono (Kd.R_bound h) (fun k hk e => by
    subst e
    obtain ⟨-, -, -, q, hq, c2, hc⟩ := hk
    rw [hb] at hc
    injection hc with hc
    injection hc with h1 h2 h3
    rw [List.mem_cons] at hq
    rcases hq with hq | hq
    · exact hT (h2.trans hq)
    · exact absurd hq (by simp [Kd.int, Kd.scalar]))
theorem own_set {W : World} {base : Nat} {v : Value} {xs : List Int} {b d : Nat} {cs : Array Value} {T : TypeId} (h : Kd.R (Kd.int .u8) 5 W base (fun _ => True) v xs) (hb : W.heap[b]? = some (.cells cs T (0, 0))) (hT : T ≠ 5) (u : Value) : Kd.R (Kd.int .u8) 5 (W.setCell ⟨b, d, none⟩ u) base (fun _ => True) v xs :=
  Kd.R_mono (Kd.R_far (p := ⟨b, d, none⟩) (ownR_ne h hb hT) (fun g hg => hg) u) (fun _ _ => trivial)
/-- A line that is being written: the node's copy, the kinds, the bytes so far. -/
structure LnR (w : World) (x : SN) (kb nb : Nat) (ks : List Int) (out : List UInt8) (v : Value) (W : World) : Prop where
  node : W.heap[nb]? = some (.cells #[.int .i64 x.f0, .int .i64 x.f1, .string x.f2, .string x.f3, .string x.f4, .int .i64 x.f5, .int .i64 x.f6, .int .i64 x.f7] 31 (0, 0))
  row : W.heap[kb]? = some (.cells (ksA ks) 33 (0, 0))
  own : Kd.R (Kd.int .u8) 5 W w.heap.size (fun _ => True) v (numsU out)
  bel : Below w.heap.size w W
theorem LnR.below {w W W1 : World} {x : SN} {kb nb : Nat} {ks : List Int} {out : List UInt8} {v : Value} (H : LnR w x kb nb ks out v W) (hb : Below W.heap.size W W1) : LnR w x kb nb ks out v W1 :=
  ⟨(hb.block nb (blk_lt H.node)).trans H.node, (hb.block kb (blk_lt H.row)).trans H.row, Kd.R_below H.own hb, H.bel.trans (hb.mono H.bel.size)⟩
theorem LnR.grow {w W w1 : World} {x : SN} {kb nb : Nat} {ks : List Int} {out out1 : List UInt8} {v v1 : Value} (H : LnR w x kb nb ks out v W) (hown : Kd.R (Kd.int .u8) 5 w1 w.heap.size (fun _ => True) v1 (numsU out1)) (hb : Below w.heap.size w w1) (hg : W.grownBy w1 v.ownBlock) : LnR w x kb nb ks out1 v1 w1 :=
  ⟨(hg.block nb (blk_lt H.node) (Kd.R_away (ownR_ne H.own H.node (by decide)) (fun _ h => h))).trans H.node, (hg.block kb (blk_lt H.row) (Kd.R_away (ownR_ne H.own H.row (by decide)) (fun _ h => h))).trans H.row, hown, hb⟩
theorem numsU_len (l : List UInt8) : (numsU l).length = l.length := List.length_map ..
section
variable {ops : Array Oper} {rest : List Oper} {oo : Oper} {a : Act} {Q : Exit → Act → World → Prop} {w W : World} {x : SN} {kb nb : Nat} {ks : List Int} {out : List UInt8} {v : Value}
theorem ln_str (hgd : oo.guard = none) (s z : Operand) (ho : oo.op = .call { callee := .builtin .append, args := #[s, z], argTypes := #[34, 9] }) (y : ByteArray) (hs : a.eval s = v) (hx : a.eval z = .string y) (H : LnR w x kb nb ks out v W) (hl : out.length + y.size ≤ 1099511627776)
    (h : ∀ v1 w1, LnR w x kb nb ks (out ++ y.data.toList) v1 w1 → wpList Try.prog ops Q rest (a.put oo.dst v1) w1) : wpList Try.prog ops Q (oo :: rest) a W := by
  refine print_append_str (w0 := w) w.heap.size hgd s z 34 9 5 ho Try.underlying34 Try.underlying9 u8_info v (numsU out) y hs hx (Kd.own_of_R H.own) H.bel H.bel.size (by rw [numsU_len]; omega) ?_
  intro v2 w2 ho2 hb2 hg2
  refine h v2 w2 (H.grow ?_ hb2 hg2)
  rw [numsU_app]
  exact Kd.R_of_own (h1 := fun _ => rfl) (ok := fun _ => True) ho2 (fun _ _ => trivial)
theorem ln_lit (hgd : oo.guard = none) (s z : Operand) (ho : oo.op = .call { callee := .builtin .append, args := #[s, z], argTypes := #[34, 34] }) (b : Array Value) (ys : List UInt8) (m : Nat) (hb : b.toList = (numsU ys).map (Value.int .u8)) (hm : ys.length = m) (hs : a.eval s = v) (hx : a.eval z = .slice (some ⟨W.heap.size, 0, none⟩) m m) (H : LnR w x kb nb ks out v W) (hl : out.length + ys.length ≤ 1099511627776)
    (h : ∀ v1 w1, LnR w x kb nb ks (out ++ ys) v1 w1 → wpList Try.prog ops Q rest (a.put oo.dst v1) w1) : wpList Try.prog ops Q (oo :: rest) a (W.alloc (.cells b 5)) := by
  have H1 : LnR w x kb nb ks out v (W.alloc (.cells b 5)) := H.below (below_alloc (Below.refl _ _) _)
  have hbx : ∀ i, (W.alloc (.cells b 5)).cell? ⟨W.heap.size, i, none⟩ = b[i]? := fun i => blk_cell (blk_new W _) i
  refine Kd.R_append_rows (Kd.int .u8) (Rr := fun p cs => cs = [Value.int .u8 p]) (w0 := w) w.heap.size hgd s z 34 5 (.int .u8 0) 1 ho Try.underlying34 u8_info rfl (by decide) (by omega) v (numsU out) (numsU ys) _ m m (fun _ => True) (fun _ => False) hs hx H1.own ?_ (fun _ _ h => h) (fun _ h => h.elim) (fun _ _ => trivial) H1.bel H1.bel.size (by rw [numsU_len]; omega) ?_
  · refine ⟨by rw [numsU_len]; exact hm, by omega, fun _ => ⟨_, rfl, fun j p hj => ⟨[.int .u8 p], rfl, rfl, fun i u hi => ?_⟩⟩⟩
    have hi0 : i = 0 := by
      rcases i with _ | i
      · rfl
      · simp at hi
    subst hi0
    have hu : Value.int .u8 p = u := by simpa using hi
    subst hu
    have e : (⟨W.heap.size, 0, none⟩ : Addr).add (j * (Kd.int .u8).sz + 0) = ⟨W.heap.size, j, none⟩ := by
      show (⟨W.heap.size, 0, none⟩ : Addr).add (j * 1 + 0) = _
      cases j <;> simp [Addr.add]
    rw [e, hbx, ← Array.getElem?_toList, hb, List.getElem?_map, hj]
    rfl
  · intro v1 w1 ho1 hb1 hg1 _
    rw [← numsU_app] at ho1
    exact h v1 w1 (H1.grow ho1 hb1 hg1)
end
theorem rs_kv {t : List SN} {ks : List Int} {k d : Nat} (V : Valid t) (hk1 : 1 ≤ k) (hk : k < t.length) (hd : (d : Int) = (nd t k).f1) (hd1 : 1 ≤ d) (hkinds : ∀ j : Nat, (j : Int) ≤ (nd t (k - 1)).f1 → ks.getD j 0 = (nd t (parGo t ((j : Int) + 1) k)).f0) : (ks.set d (nd t k).f0).getD (d - 1) 0 = (nd t (par t k)).f0 := by
  have hs := V.step k hk1 hk
  have e : (ks.set d (nd t k).f0).getD (d - 1) 0 = ks.getD (d - 1) 0 := by
    rw [List.getD_eq_getElem?_getD, List.getD_eq_getElem?_getD, List.getElem?_set_ne (by omega)]
  rw [e, hkinds (d - 1) (by omega)]
  unfold par
  rw [show ((d - 1 : Nat) : Int) + 1 = (nd t k).f1 by omega]
theorem rs_kinds {t : List SN} {ks : List Int} {k d : Nat} (V : Valid t) (hk1 : 1 ≤ k) (hk : k < t.length) (hd : (d : Int) = (nd t k).f1) (hdl : d < ks.length) (hkinds : ∀ j : Nat, (j : Int) ≤ (nd t (k - 1)).f1 → ks.getD j 0 = (nd t (parGo t ((j : Int) + 1) k)).f0) :
    ∀ j : Nat, (j : Int) ≤ (nd t (k + 1 - 1)).f1 → (ks.set d (nd t k).f0).getD j 0 = (nd t (parGo t ((j : Int) + 1) (k + 1))).f0 := by
  intro j hj
  rw [Nat.add_sub_cancel] at hj
  have hs := V.step k hk1 hk
  unfold parGo
  by_cases e : j = d
  · subst e
    rw [if_pos (by omega), List.getD_eq_getElem?_getD, List.getElem?_set_self hdl]
    rfl
  · rw [if_neg (by omega), ← hkinds j (by omega), List.getD_eq_getElem?_getD, List.getD_eq_getElem?_getD, List.getElem?_set_ne (fun q => e q.symm)]
theorem rs_over {t : List SN} {k : Nat} {out : List UInt8} {res : ByteArray × Int} (hk : k < t.length) (h : 65536 < (out ++ lineU t (par t k) k).length ∨ 4096 < k) (hgo : rs t (t.length - k) k out = res) : res = (⟨#[]⟩, 51) := by
  subst hgo
  rw [show t.length - k = (t.length - (k + 1)) + 1 by omega, rs, if_pos h]
theorem rs_on {t : List SN} {k : Nat} {out : List UInt8} {res : ByteArray × Int} (hk : k < t.length) (h : ¬ (65536 < (out ++ lineU t (par t k) k).length ∨ 4096 < k)) (hgo : rs t (t.length - k) k out = res) : rs t (t.length - (k + 1)) (k + 1) (out ++ lineU t (par t k) k) = res := by
  subst hgo
  rw [show t.length - k = (t.length - (k + 1)) + 1 by omega]
  conv => rhs; rw [rs, if_neg h]
theorem rs_end {t : List SN} {k : Nat} {out : List UInt8} {res : ByteArray × Int} (hk : k = t.length) (hgo : rs t (t.length - k) k out = res) : res = (mkB out, 0) := by
  subst hgo
  rw [show t.length - k = 0 by omega, rs]
theorem rep_succ (l : List UInt8) : ∀ n, Lib.repeatL l (n + 1) = Lib.repeatL l n ++ l
  | 0 => by simp [Lib.repeatL]
  | n + 1 => by
    have ih := rep_succ l n
    rw [Lib.repeatL, ih, ← List.append_assoc]
    congr 1
theorem d_pos {d : Nat} {z : Int} (hd : (d : Int) = z) (h1 : 1 ≤ z) : 1 ≤ d := by omega
theorem ind_len (out : List UInt8) {j d n : Nat} (h : out.length ≤ 65536) (hd : d - 1 < n) (hn : n = 34) (hj : j ≤ d) : (out ++ Lib.repeatL [32, 32] (j - 1)).length ≤ 70000 := by
  rw [List.length_append, repeatL_len, show ([32, 32] : List UInt8).length = 2 from rfl]
  omega
theorem lt_d {j d : Nat} {z : Int} (hd : (d : Int) = z) (h : j < d) : (j : Int) < z := by omega
theorem not_lt_d {j d : Nat} {z : Int} (hd : (d : Int) = z) (h : ¬ j < d) : ¬ (j : Int) < z := by omega
theorem big_of {n m : Nat} (h : n ≤ 70000) (hm : m ≤ 4294967300) : n + m ≤ 1099511627776 := by omega
theorem key_big {s : ByteArray} (hs : s.size ≤ 1073741824) : (mkB (keyU s)).size ≤ 4294967298 := by
  have := keyU_len s
  show (keyU s).length ≤ _
  omega
theorem value_big {s : ByteArray} (hs : s.size ≤ 1073741824) : (mkB (valueU s)).size ≤ 4294967298 := by
  have := valueU_len s
  show (valueU s).length ≤ _
  omega
theorem rep_next (out : List UInt8) {j : Nat} (h : 1 ≤ j) : out ++ Lib.repeatL [32, 32] (j + 1 - 1) = (out ++ Lib.repeatL [32, 32] (j - 1)) ++ [32, 32] := by
  rw [show j + 1 - 1 = (j - 1) + 1 by omega, rep_succ, ← List.append_assoc]
theorem ne_next {a k : Nat} (h : ¬ a = k + 1) : ¬ ((a : Nat) : Int) = (k : Int) + 1 := by omega
theorem wrap_k {k n : Nat} (h : (k : Int) < (n : Int)) (hn : n ≤ 1048576) : wrap64 ((k : Int) + 1) = (k : Int) + 1 := by unfold wrap64; omega
theorem says3 {t : List SN} {k : Nat} {x : SN} (hx : x = nd t k) (h : x.f0 = 3) : saysU t k = [32] ++ valueU x.f3 := by
  subst hx
  unfold saysU
  rw [if_pos h]
  rfl
theorem saysN {t : List SN} {k : Nat} {x : SN} (hx : x = nd t k) (h3 : ¬ x.f0 = 3) (he : ¬ endOf t k = k + 1) : saysU t k = [] := by
  subst hx
  unfold saysU
  have := (endFrom_le t (nd t k).f1 (t.length - (k + 1)) (k + 1)).1
  rw [if_neg h3, if_pos (show endOf t k > k + 1 by unfold endOf at he ⊢; omega)]
theorem says2 {t : List SN} {k : Nat} {x : SN} (hx : x = nd t k) (h3 : ¬ x.f0 = 3) (he : endOf t k = k + 1) (h2 : x.f0 = 2) : saysU t k = [32, 91, 93] := by
  subst hx
  unfold saysU
  rw [if_neg h3, if_neg (by omega), if_pos h2]
theorem says1 {t : List SN} {k : Nat} {x : SN} (hx : x = nd t k) (h3 : ¬ x.f0 = 3) (he : endOf t k = k + 1) (h2 : ¬ x.f0 = 2) : saysU t k = [32, 123, 125] := by
  subst hx
  unfold saysU
  rw [if_neg h3, if_neg (by omega), if_neg h2]
theorem line_eq {t : List SN} {k d : Nat} {x : SN} {out o1 o2 : List UInt8} (hx : x = nd t k) (hd : (d : Int) = x.f1) (h1 : o1 = out ++ Lib.repeatL [32, 32] (d - 1)) (h2 : o2 = o1 ++ signU t (par t k) k) : (o2 ++ saysU t k) ++ [10] = out ++ lineU t (par t k) k := by
  subst hx h1 h2
  unfold lineU indU
  rw [← hd, show ((d : Int) - 1).toNat = d - 1 by omega]
  simp only [List.append_assoc]
theorem big2 {a b c n : Nat} (h : a + b ≤ 70000 + 4294967300) (hn : n = a + b) (hc : c ≤ 8589934592) : n + c ≤ 1099511627776 := by omega
theorem says_big {t : List SN} {k : Nat} {x : SN} (hx : x = nd t k) (hs : x.f3.size ≤ 1073741824) : (saysU t k).length ≤ 4294967299 := by
  subst hx
  unfold saysU
  split
  · have := valueU_len (nd t k).f3
    rw [List.length_cons]
    omega
  · split
    · exact Nat.zero_le _
    · split
      · exact (by decide : 3 ≤ 4294967299)
      · exact (by decide : 3 ≤ 4294967299)
theorem ret_pair {res : ByteArray × Int} {a : ByteArray} {b : Int} (h : res = (a, b)) : Ending.returned (.tuple #[.string a, .int .i64 b]) = .returned (.tuple #[.string res.1, .int .i64 res.2]) := by rw [h]
theorem gt_nat {n : Nat} (h : 65536 < n) : (65536 : Int) < (n : Int) := by omega
theorem not_gt_nat {n : Nat} (h : ¬ 65536 < n) : ¬ (65536 : Int) < (n : Int) := by omega
theorem gt_nat2 {n : Nat} (h : 4096 < n) : (4096 : Int) < (n : Int) := by omega
theorem not_gt_nat2 {n : Nat} (h : ¬ 4096 < n) : ¬ (4096 : Int) < (n : Int) := by omega
end Go.Proofs.Ytofajjodonhdkaa.Q
