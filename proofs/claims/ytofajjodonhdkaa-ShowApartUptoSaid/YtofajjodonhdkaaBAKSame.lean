/- Trees that are alike are written alike. -/
import Derived.Test.YtofajjodonhdkaaBAKApart
import Derived.Test.YtofajjodonhdkaaBAKAw
import Derived.Test.YtofajjodonhdkaaBAKOpen
namespace Go.Proofs.Ytofajjodonhdkaa.Q
open Go Go.RowKit Go.Shelf Go.Proofs.YtofajjodonhdkaaW.PrintWords Go.Proofs.YtofajjodonhdkaaW.PrintLast Go.Proofs.YtofajjodonhdkaaW.PrintMore
set_option linter.unusedVariables false
set_option linter.unusedSimpArgs false
/-- Alike but for their places. -/
structure SameT (a b : List SN) : Prop where
  len : a.length = b.length
  at_ : ∀ i, (nd a i).f0 = (nd b i).f0 ∧ (nd a i).f1 = (nd b i).f1 ∧ (nd a i).f2 = (nd b i).f2 ∧ (nd a i).f3 = (nd b i).f3
theorem nd_out (t : List SN) (i : Nat) (h : t.length ≤ i) : nd t i = z31 := by
  unfold nd rd_T31
  rw [List.getD_eq_getElem?_getD, List.getElem?_eq_none (by omega)]
  rfl
theorem SameT.of_alike {a b : List SN} (h : alikeB a b = true) : SameT a b := by
  obtain ⟨h1, h2⟩ := alike_at_ a b h
  refine ⟨h1, fun i => ?_⟩
  by_cases hi : i < a.length
  · have := h2 i hi
    unfold likeN at this
    simp only [Bool.and_eq_true, decide_eq_true_eq, beq_iff_eq] at this
    exact ⟨this.1, this.2.1, list_bytes this.2.2.1, list_bytes this.2.2.2⟩
  · rw [nd_out a i (by omega), nd_out b i (by omega)]
    exact ⟨rfl, rfl, rfl, rfl⟩
section
variable {a b : List SN} (S : SameT a b)
include S
theorem same_partsFrom (d : Int) : ∀ k n, partsFrom a d k n = partsFrom b d k n
  | 0, n => rfl
  | k + 1, n => by
    unfold partsFrom
    rw [(S.at_ n).2.1, same_partsFrom d k (n + 1)]
theorem same_endFrom (d : Int) : ∀ k n, endFrom a d k n = endFrom b d k n
  | 0, n => rfl
  | k + 1, n => by
    unfold endFrom
    rw [(S.at_ n).2.1, same_endFrom d k (n + 1)]
theorem same_parts (i : Nat) : partsOf a i = partsOf b i := by
  unfold partsOf
  rw [(S.at_ i).2.1, S.len, same_partsFrom S]
theorem same_end (i : Nat) : endOf a i = endOf b i := by
  unfold endOf
  rw [(S.at_ i).2.1, S.len, same_endFrom S]
theorem same_line (p x : Nat) : lineU a p x = lineU b p x := by
  unfold lineU signU saysU
  rw [(S.at_ x).2.1, (S.at_ p).1, (S.at_ x).2.2.1, (S.at_ x).1, (S.at_ x).2.2.2, same_end S]
theorem same_wr : ∀ k p s, wr a k p s = wr b k p s
  | 0, p, s => rfl
  | k + 1, p, s => by
    have hk : wr a k = wr b k := funext fun p => funext fun s => same_wr k p s
    unfold wr
    rw [same_parts S, hk]
    congr 1
    funext s x
    unfold rnd
    rw [same_line S]
theorem same_fits (i j : Nat) : fitsB (nd a i) (nd a j) = fitsB (nd b i) (nd b j) := by
  unfold fitsB
  rw [(S.at_ i).1, (S.at_ i).2.1, (S.at_ i).2.2.2, (S.at_ j).1, (S.at_ j).2.1]
theorem same_go : ∀ k os i, isGo a os k i = isGo b os k i
  | 0, os, i => rfl
  | k + 1, os, i => by
    unfold isGo
    rw [same_fits S, (S.at_ i).2.1, (S.at_ i).2.2.1, (S.at_ _).1, same_go k, same_go k]
theorem same_is : isP a = isP b := by
  unfold isP rootB
  rw [S.len, (S.at_ 0).1, (S.at_ 0).2.1, (S.at_ 0).2.2.1, (S.at_ 0).2.2.2, same_go S]
theorem same_show : showP a = showP b := by
  unfold showP
  rw [same_is S, S.len, same_wr S]
end
theorem show_ok {t : List SN} (h : (showP t).2 = 0) : isP t = true ∧ (wr t t.length 0 ([], 0)).1.length ≤ 65536 ∧ (showP t).1 = mkB (wr t t.length 0 ([], 0)).1 := by
  unfold showP at h ⊢
  by_cases h1 : isP t = false
  · rw [if_pos h1] at h; cases h
  · rw [if_neg h1] at h ⊢
    by_cases h2 : 65536 < (wr t t.length 0 ([], 0)).1.length ∨ 4096 < (wr t t.length 0 ([], 0)).2
    · rw [if_pos h2] at h; cases h
    · rw [if_neg h2]
      exact ⟨by simpa using h1, by omega, rfl⟩
theorem apart_ok {a b : List SN} (ha : (showP a).2 = 0) (hb : (showP b).2 = 0) : (((showP a).1.toList == (showP b).1.toList) == alikeB a b) = true := by
  obtain ⟨a1, a2, a3⟩ := show_ok ha
  obtain ⟨b1, b2, b3⟩ := show_ok hb
  cases h : alikeB a b with
  | true =>
    rw [same_show (SameT.of_alike h)]
    simp
  | false =>
    rw [a3, b3, mkB_nil, mkB_nil, wr_text (is_valid a1) a2, wr_text (is_valid b1) b2]
    have : ¬ flatF a (a.length - 1) 1 = flatF b (b.length - 1) 1 := fun e => by rw [text_alike a1 b1 e] at h; cases h
    rw [beq_eq_false_iff_ne.2 this]
    rfl
theorem tiny_of {t : List SN} (h : (t.map bN).sum ≤ 1048576) : tinyT t = true := by
  unfold tinyT
  simp only [Bool.and_eq_true, decide_eq_true_eq, List.all_eq_true]
  refine ⟨Nat.le_trans (nodes_len t) h, fun x hx => ?_⟩
  have := nodes_mem t x hx
  have e : bN x = x.f2.size + x.f3.size + 1 := rfl
  omega
theorem show_f {t : List SN} (h : (t.map bN).sum ≤ 1048576) : show_Show.f t = some (showP t) := by
  unfold show_Show.f
  rw [if_pos (tiny_of h)]
theorem showApart_f (a b : List SN) (ha : (a.map bN).sum ≤ 1048576) (hb : (b.map bN).sum ≤ 1048576) : ∃ k, shuttlelaw5_ShowApart.f k a b = some true := by
  have la : a.length ≤ 1048576 := Nat.le_trans (nodes_len a) ha
  have lb : b.length ≤ 1048576 := Nat.le_trans (nodes_len b) hb
  refine ⟨0 + 1, ?_⟩
  unfold shuttlelaw5_ShowApart.f
  rw [copyNodes_f a (by omega), Option.bind_some, show_f ha, Option.bind_some, copyNodes_f b (by omega), Option.bind_some, show_f hb, Option.bind_some]
  by_cases h1 : (showP a).2 = 0
  · rw [if_pos h1]
    by_cases h2 : (showP b).2 = 0
    · rw [show ((showP b).2 != 0) = false by rw [h2]; rfl]
      rw [shuttlelaw5_ShowApart.j0]
      rw [if_neg (by decide), copyNodes_f a (by omega), Option.bind_some, copyNodes_f b (by omega), Option.bind_some, show show_Alike.f a b = some (alikeB a b) by unfold show_Alike.f; rw [if_pos (by omega)], Option.bind_some, if_pos (apart_ok h1 h2), awake_f]
      rfl
    · rw [show ((showP b).2 != 0) = true from bne_iff_ne.2 h2]
      rw [shuttlelaw5_ShowApart.j0]
      rw [if_pos rfl, awake_f]
      rfl
  · rw [if_neg h1]
    rw [shuttlelaw5_ShowApart.j0]
    rw [if_pos rfl, awake_f]
    rfl
theorem showApart_go (A : Option Addr) (c : Nat) (a : List SN) (B : Option Addr) (d : Nat) (b : List SN) (w : World) (hgm : GM w) (hA : Kd.C k31 w A a.length a) (hc : a.length ≤ c) (hsa : (a.map bN).sum ≤ 1048576)
    (hB : Kd.C k31 w B b.length b) (hd : b.length ≤ d) (hsb : (b.map bN).sum ≤ 1048576) :
    Calls Try.prog 5 #[.slice A a.length c, .slice B b.length d] w fun e w' => e = .returned (.bool true) ∧ Below w.heap.size w w' := by
  obtain ⟨k, hk⟩ := showApart_f a b hsa hsb
  exact shuttlelaw5_ShowApart.calls k A c a B d b true w hA hc hB hd hgm hk
end Go.Proofs.Ytofajjodonhdkaa.Q
