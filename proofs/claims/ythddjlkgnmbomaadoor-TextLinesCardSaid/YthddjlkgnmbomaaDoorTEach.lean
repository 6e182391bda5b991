/- The lines of a text, as the program's package text tells them one by one: strings.Cut at a newline, and the iterator each. -/
import Derived.Test.YthddjlkgnmbomaaDoorTIn
import Derived.Test.YthddjlkgnmbomaaDoorGShelf
import Derived.Lib.IndexLaws
import Derived.Lib.Hide
import Derived.Deep.QuietTactic
import Derived.BigQuiet
namespace Go.Proofs.YthddjlkgnmbomaaDoor.Q
open Go Go.RowKit Go.Shelf Go.Proofs.YthddjlkgnmbomaaDoorW.PrintWords Go.Proofs.YthddjlkgnmbomaaDoorW.PrintLast Go.Proofs.YthddjlkgnmbomaaDoorW.PrintMore
attribute [local go_sem] Oper.semAt_some
set_option linter.unusedVariables false
set_option linter.unusedSimpArgs false
set_option linter.unusedSectionVars false
/-- A text's lines, byte by byte. -/
def linesU : List UInt8 → List (List UInt8)
  | [] => []
  | c :: r => if c = 10 then [] :: linesU r else match linesU r with | [] => [[c]] | l :: ls => (c :: l) :: ls
def nlOf (s : ByteArray) : Int := Lib.indexByte s.data.toList 10
def headL (s : ByteArray) : ByteArray := if nlOf s = -1 then s else s.extract 0 (nlOf s).toNat
def restL (s : ByteArray) : ByteArray := if nlOf s = -1 then ⟨#[]⟩ else s.extract ((nlOf s).toNat + 1) s.size
def linesB (s : ByteArray) : List ByteArray := (linesU s.data.toList).map fun l => ⟨l.toArray⟩
theorem linesU_none : ∀ l : List UInt8, l ≠ [] → Lib.indexByte l 10 = -1 → linesU l = [l]
  | [], h, _ => absurd rfl h
  | c :: r, _, h => by
    unfold Lib.indexByte at h
    split at h
    · omega
    · rename_i hc
      have hc' : c ≠ 10 := by simpa using hc
      split at h
      · rename_i hr
        have hr' : Lib.indexByte r 10 = -1 := by simpa using hr
        unfold linesU
        rw [if_neg hc']
        cases r with
        | nil => rfl
        | cons d t => rw [linesU_none (d :: t) (by simp) hr']
      · have := Lib.indexByte_ge r 10
        rename_i hr
        have hr' : Lib.indexByte r 10 ≠ -1 := by simpa using hr
        omega
theorem linesU_some : ∀ (l : List UInt8) (i : Nat), Lib.indexByte l 10 = (i : Int) → linesU l = l.take i :: linesU (l.drop (i + 1))
  | [], i, h => by
    unfold Lib.indexByte at h
    omega
  | c :: r, i, h => by
    unfold Lib.indexByte at h
    split at h
    · rename_i hc
      have hc' : c = 10 := by simpa using hc
      have : i = 0 := by omega
      subst this
      show (if c = 10 then [] :: linesU r else match linesU r with | [] => [[c]] | l :: ls => (c :: l) :: ls) = _
      rw [if_pos hc']
      rfl
    · rename_i hc
      have hc' : c ≠ 10 := by simpa using hc
      split at h
      · omega
      · obtain ⟨j, hj⟩ : ∃ j : Nat, Lib.indexByte r 10 = (j : Int) := ⟨(Lib.indexByte r 10).toNat, by
          have := Lib.indexByte_ge r 10
          rename_i hr
          have hr' : Lib.indexByte r 10 ≠ -1 := by simpa using hr
          omega⟩
        have hi : i = j + 1 := by omega
        subst hi
        have ih := linesU_some r j hj
        show (if c = 10 then [] :: linesU r else match linesU r with | [] => [[c]] | l :: ls => (c :: l) :: ls) = _
        rw [if_neg hc', ih]
        rfl
theorem nl_cases (s : ByteArray) : nlOf s = -1 ∨ ∃ i : Nat, nlOf s = (i : Int) ∧ i < s.size := by
  by_cases h : nlOf s < 0
  · have := Lib.indexByte_ge s.data.toList 10
    left
    unfold nlOf at *
    omega
  · right
    refine ⟨(nlOf s).toNat, by omega, ?_⟩
    have hi : Lib.indexByte s.data.toList 10 = (((nlOf s).toNat : Nat) : Int) := by unfold nlOf at *; omega
    have := (Lib.indexByte_some hi).1
    have h2 := (List.getElem?_eq_some_iff.1 this).1
    rw [Array.length_toList] at h2
    exact h2
theorem extract_list (s : ByteArray) (a b : Nat) (hb : b ≤ s.size) : (s.extract a b).data.toList = (s.data.toList.take b).drop a := by
  rw [ByteArray.data_extract, Array.toList_extract]
  simp [List.extract, List.drop_take]
theorem lines_nil : linesB ⟨#[]⟩ = [] := rfl
theorem lines_step (s : ByteArray) (h : s.size ≠ 0) : linesB s = headL s :: linesB (restL s) := by
  unfold linesB headL restL
  rcases nl_cases s with hn | ⟨i, hn, hi⟩
  · rw [if_pos hn, if_pos hn, linesU_none _ (fun he => h (by have := congrArg List.length he; rw [Array.length_toList] at this; exact this)) hn]
    rfl
  · have e : ¬ (nlOf s = -1) := by omega
    rw [if_neg e, if_neg e, hn, Int.toNat_natCast, linesU_some _ i hn, extract_list s (i + 1) s.size (Nat.le_refl _)]
    have e1 : (s.extract 0 i).data.toList = s.data.toList.take i := by rw [extract_list s 0 i (Nat.le_of_lt hi)]; rfl
    have e2 : s.data.toList.take s.size = s.data.toList := List.take_of_length_le (by rw [Array.length_toList]; exact Nat.le_refl _)
    rw [e2, List.map_cons, ← e1]
theorem rest_lt (s : ByteArray) (h : s.size ≠ 0) : (restL s).size < s.size := by
  unfold restL
  rcases nl_cases s with hn | ⟨i, hn, hi⟩
  · rw [if_pos hn]
    show 0 < s.size
    omega
  · rw [if_neg (by omega), ByteArray.size_extract]
    omega
theorem lines_len : ∀ (n : Nat) (s : ByteArray), s.size ≤ n → (linesB s).length ≤ s.size
  | 0, s, h => by
    have : s.data.toList = [] := List.length_eq_zero_iff.1 (by rw [Array.length_toList]; exact Nat.le_zero.1 h)
    unfold linesB
    rw [this]
    exact Nat.zero_le _
  | n + 1, s, h => by
    by_cases h0 : s.size = 0
    · have : s.data.toList = [] := List.length_eq_zero_iff.1 (by rw [Array.length_toList]; exact h0)
      unfold linesB
      rw [this]
      exact Nat.zero_le _
    · have hl := rest_lt s h0
      rw [lines_step s h0, List.length_cons]
      have := lines_len n (restL s) (by omega)
      omega

theorem cutIn_any (s : ByteArray) (w : World) (hs : s.size ≤ 1048576) : Calls Tryd.prog 30 #[.string s, .string ⟨#[10]⟩] w fun e w' => (∃ b : Bool, e = .returned (.tuple #[.string (headL s), .string (restL s), .bool b])) ∧ ∃ n, w' = w.drewN n := by
  have HSZ := Aside0.mk hs
  rcases nl_cases s with hn | ⟨i, hn, hi⟩
  · have hh : headL s = s := if_pos hn
    have hr : restL s = ⟨#[]⟩ := if_pos hn
    rw [hh, hr]
    have hn' : Lib.indexByte s.data.toList 10 = -1 := hn
    go_enter Tryd.func30, Tryd.ntmps30
    go_wp2_with (go_at_call 29; refine (Tryd.stringslite_Index_one s 10 _).mono ?_; rintro e w' ⟨rfl, rfl⟩; rw [hn'])
    go_ret3
    exact ⟨⟨_, rfl⟩, 0, rfl⟩
  · have hh : headL s = s.extract 0 i := by unfold headL; rw [if_neg (by omega), hn, Int.toNat_natCast]
    have hr : restL s = s.extract (i + 1) s.size := by unfold restL; rw [if_neg (by omega), hn, Int.toNat_natCast]
    rw [hh, hr]
    have hn' : Lib.indexByte s.data.toList 10 = (i : Int) := hn
    have h1 : ((⟨#[10]⟩ : ByteArray).size : Int) = 1 := rfl
    have h0i : (0 : Int) ≤ (i : Int) := by omega
    have hii : (i : Int) ≤ (s.size : Int) := by omega
    have hw : IntKind.i64.wrap ((i : Int) + 1) = ((i + 1 : Nat) : Int) := by rw [IntKind.wrap_i64]; omega
    have h2 : (0 : Int) ≤ ((i + 1 : Nat) : Int) := by omega
    have h3 : ((i + 1 : Nat) : Int) ≤ (s.size : Int) := by omega
    generalize i + 1 = i1 at hw h2 h3 ⊢
    go_enter Tryd.func30, Tryd.ntmps30
    go_wp2_with (go_at_call 29; refine (Tryd.stringslite_Index_one s 10 _).mono ?_; rintro e w' ⟨rfl, rfl⟩; rw [hn'])
    go_quiet (fail)
    go_wp2
    go_ret3
    exact ⟨⟨_, rfl⟩, nq, rfl⟩
theorem cut_any (s : ByteArray) (w : World) (hs : s.size ≤ 1048576) : Calls Tryd.prog 21 #[.string s, .string ⟨#[10]⟩] w fun e w' => (∃ b : Bool, e = .returned (.tuple #[.string (headL s), .string (restL s), .bool b])) ∧ ∃ n, w' = w.drewN n := by
  have HSZ := Aside0.mk hs
  go_enter Tryd.func21, Tryd.ntmps21
  go_wp2_with (go_at_call 30; refine (cutIn_any s _ HSZ.out).mono ?_; rintro e w' ⟨⟨b, rfl⟩, m, rfl⟩)
  go_ret3
  exact ⟨⟨_, rfl⟩, m, rfl⟩

abbrev NL := Int × ByteArray
def encNL (x : NL) : Array Value := #[.int .i64 x.1, .string x.2]
/-- Lines with their numbers. -/
def numb : Nat → List ByteArray → List NL
  | _, [] => []
  | k, l :: r => ((k : Int), l) :: numb (k + 1) r
theorem numb_len : ∀ (l : List ByteArray) (k : Nat), (numb k l).length = l.length
  | [], _ => rfl
  | _ :: r, k => by rw [numb, List.length_cons, numb_len r (k + 1), List.length_cons]
def textOf (b : Nat) (w : World) : Nat := match w.cell? ⟨b, 0, none⟩ with | some (.string t) => t.size | _ => 0
theorem grown_set (W : World) (b : Nat) (u : Value) : W.grownBy (W.setCell ⟨b, 0, none⟩ u) (some b) :=
  ⟨rfl, rfl, rfl, by simp [World.setCell], fun k _ hk => Below.heap_setCell W ⟨b, 0, none⟩ u k (fun h => hk (by rw [h]))⟩
theorem grown_drewN (W : World) (m : Nat) : W.grownBy (W.drewN m) none := ⟨rfl, rfl, rfl, Nat.le_refl _, fun k _ _ => rfl⟩
def EachRel (cb : Nat) (all : List NL) (J : List NL → World → Prop) (p : Value) (wr : World) : Prop :=
  ∃ (pre : List NL) (t : ByteArray), p = .int .i64 ((pre.length + 1 : Nat) : Int) ∧ all = pre ++ numb (pre.length + 1) (linesB t) ∧ t.size ≤ 1048576 ∧ pre.length + t.size ≤ 1048576 ∧ wr.heap[cb]? = some (.cells #[.string t] 9 (0, 0)) ∧ J pre wr
set_option maxRecDepth 100000 in
set_option maxHeartbeats 1000000 in
theorem each1_in (n : Nat) (l cb : Nat) (s : ByteArray) (hs : s.size ≤ 1048576) (J Jx : List NL → World → Prop) (hJ : AbidesAt cb J) (hJx : AbidesAt cb Jx)
    (hY : ∀ pre x W1, J pre W1 → pre ++ [x] <+: numb 1 (linesB s) → YieldAt Fence.wide (n - 1) Tryd.prog l (encNL x) W1 fun e W' =>
      (e = .returned (.bool true) ∧ J (pre ++ [x]) W' ∧ W'.heap[cb]? = W1.heap[cb]?) ∨ (e = .returned (.bool false) ∧ Jx (pre ++ [x]) W'))
    (W : World) (hc : W.heap[cb]? = some (.cells #[.string s] 9 (0, 0))) (h0 : J [] W) :
    CallsIn Fence.wide n Tryd.prog 20 #[.func (.yield l) #[] #[], .pointer (some ⟨cb, 0, none⟩)] W fun e W' => (∃ v, e = .returned v) ∧
      ((∃ ys, ys = numb 1 (linesB s) ∧ J ys W') ∨ (∃ pre, pre <+: numb 1 (linesB s) ∧ Jx pre W')) := by
  have HJ := Aside0.mk hJ
  have HJX := Aside0.mk hJx
  have HY := Aside0.mk hY
  have HS := Aside0.mk hs
  have HC := Aside0.mk hc
  have H0 := Aside0.mk h0
  clear hJ hJx hY hs hc h0
  obtain ⟨all, hall⟩ : ∃ all, numb 1 (linesB s) = all := ⟨_, rfl⟩
  have HLEN := Aside0.mk (show all.length = (linesB s).length by rw [← hall, numb_len])
  have HALL := Aside0.mk hall
  rw [hall]
  clear hall
  have hm0 := Aside0.mk (blk_cell HC.out 0)
  refine callsIn_of_wp Tryd.func20 rfl trivial ?_ rfl
  simp only [Tryd.ntmps20, List.size_toArray, List.length_cons, List.length_nil, Nat.reduceAdd, Nat.reduceSub, Array.replicate_succ, Array.replicate_zero, List.push_toArray, List.append_toArray, List.nil_append, List.cons_append]
  gi_wp2
  gi_loopw [3] (fun p wr => EachRel cb all J p wr) (fun _ wr => textOf cb wr)
  case atStart => exact ⟨[], s, rfl, HALL.out.symm, HS.out, by simpa using HS.out, HC.out, H0.out⟩
  case round =>
    obtain ⟨pre, t, rfl, hx, ht, hpt, hct, hj⟩ := hrel
    have hct0 : wr.cell? ⟨cb, 0, none⟩ = some (.string t) := blk_cell hct 0
    have hf0 := blk_frozen hct 0
    have HCT := Aside0.mk hct
    have HX := Aside0.mk hx
    have HJ0 := Aside0.mk hj
    have HT := Aside0.mk ht
    have HPT := Aside0.mk hpt
    clear hct hx hj
    by_cases h0 : t.size = 0
    · have h0' : t.toList = [] := List.length_eq_zero_iff.1 (by rw [ByteArray.toList_eq, Array.length_toList]; exact h0)
      have hl0 : linesB t = [] := by
        have : t.data.toList = [] := by rw [← ByteArray.toList_eq]; exact h0'
        unfold linesB
        rw [this]
        rfl
      have HE := Aside0.mk (show pre = all by rw [HX.out, hl0]; simp [numb])
      gi_wp2
      go_end0
      exact ⟨⟨_, rfl⟩, .inl ⟨pre, HE.out, HJ0.out⟩⟩
    · have h0' : t.toList.isEmpty = false := by
        cases hh : t.toList with
        | nil => exact absurd (show t.size = 0 by have := congrArg List.length hh; rwa [ByteArray.toList_eq, Array.length_toList] at this) h0
        | cons a b => rfl
      have hst := lines_step t h0
      have hlt := rest_lt t h0
      have HLT := Aside0.mk hlt
      have HX2 := Aside0.mk (show all = (pre ++ [((pre.length : Int) + 1, headL t)]) ++ numb (pre.length + 1 + 1) (linesB (restL t)) by
        rw [HX.out, hst]
        simp [numb])
      have HLN := Aside0.mk (show pre ++ [((pre.length : Int) + 1, headL t)] <+: numb 1 (linesB s) from ⟨_, by rw [HALL.out]; exact HX2.out.symm⟩)
      clear hst hlt
      gi_wp2
      refine ⟨trivial, fun hd => absurd hd Bool.false_ne_true, (callsIn_wide.2 (cut_any t wr HT.out)).mono ?_⟩
      rintro e w2 ⟨⟨bb, rfl⟩, m, rfl⟩
      have HJ2 := Aside0.mk (HJ.out pre _ _ none HJ0.out (grown_drewN wr m) (fun r e => by cases e))
      obtain ⟨fn, tmps, assign, body, hy, hR⟩ := HY.out pre ((pre.length : Int) + 1, headL t) (wr.drewN m) HJ2.out HLN.out
      dsimp only [encNL] at hy
      gi_wp2
      refine ⟨fun hd => absurd hd Bool.false_ne_true, hR.mono ?_⟩
      rintro e W3 (⟨rfl, hJ3, hk3⟩ | ⟨rfl, hJx3⟩)
      · have hct3 : W3.heap[cb]? = some (.cells #[.string t] 9 (0, 0)) := hk3.trans (blk_drewN HCT.out m)
        have hc3 : W3.cell? ⟨cb, 0, none⟩ = some (.string t) := blk_cell hct3 0
        have hf3 := blk_frozen hct3 0
        have HCT3 := Aside0.mk hct3
        have HJ3 := Aside0.mk hJ3
        clear hct3 hk3 hJ3 hf0 hct0
        gi_wp2
        have hset := blk_set HCT3.out 0 (.string (restL t))
        go_roundw
        case rel => exact ⟨pre ++ [((pre.length : Int) + 1, headL t)], restL t, by simp, by rw [HX2.out]; simp, by have := HLT.out; omega, by have := HLT.out; simp; omega, hset, HJ.out _ _ _ (some cb) HJ3.out (grown_set W3 cb _) (fun r e => by cases e; rfl)⟩
        case measure =>
          unfold textOf
          rw [blk_cell hset 0, blk_cell HCT.out 0]
          exact HLT.out
      · gi_wp2
        refine bodyPost_ret (results_none rfl _ _ _) rfl ?_
        exact ⟨⟨_, rfl⟩, .inr ⟨pre ++ [((pre.length : Int) + 1, headL t)], ⟨_, HX2.out.symm⟩, hJx3⟩⟩
end Go.Proofs.YthddjlkgnmbomaaDoor.Q
