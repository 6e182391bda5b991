/- Trees that are alike are written alike. -/
import Derived.Test.YtofajjodonhdkaaDAKShow
import Derived.Test.YtofajjodonhdkaaDAKFlat
import Derived.Test.YtofajjodonhdkaaDAKAlike
import Derived.Test.YtofajjodonhdkaaDAKAw
import Derived.Test.YtofajjodonhdkaaDAKOpen
namespace Go.Proofs.Ytofajjodonhdkaa.Q
open Go Go.RowKit Go.Shelf Go.Proofs.YtofajjodonhdkaaW.PrintWords Go.Proofs.YtofajjodonhdkaaW.PrintLast Go.Proofs.YtofajjodonhdkaaW.PrintMore
set_option linter.unusedVariables false
set_option linter.unusedSimpArgs false
/-- Alike but for their places. -/
structure SameT (a b : List SN) : Prop where
  len : a.length = b.length
  at_ : ∀ i, (nd a i).f0 = (nd b i).f0 ∧ (nd a i).f1 = (nd b i).f1 ∧ (nd a i).f2 = (nd b i).f2 ∧ (nd a i).f3 = (nd b i).f3
section
variable {a b : List SN} (S : SameT a b)
include S
theorem same_partsFrom (d : Int) : ∀ k n, partsFrom a d k n = partsFrom b d k n
  | 0, n => rfl
  | k + 1, n => by
    unfold partsFrom
    rw [(S.at_ n).2.1, same_partsFrom d k (n + 1)]
theorem same_endFrom (d : Int) : ∀ k n, endFrom a d k n = endFrom b d k n
  | 0, n => rfl
  | k + 1, n => by
    unfold endFrom
    rw [(S.at_ n).2.1, same_endFrom d k (n + 1)]
theorem same_parts (i : Nat) : partsOf a i = partsOf b i := by
  unfold partsOf
  rw [(S.at_ i).2.1, S.len, same_partsFrom S]
theorem same_end (i : Nat) : endOf a i = endOf b i := by
  unfold endOf
  rw [(S.at_ i).2.1, S.len, same_endFrom S]
theorem same_line (p x : Nat) : lineU a p x = lineU b p x := by
  unfold lineU signU saysU
  rw [(S.at_ x).2.1, (S.at_ p).1, (S.at_ x).2.2.1, (S.at_ x).1, (S.at_ x).2.2.2, same_end S]
theorem same_wr : ∀ k p s, wr a k p s = wr b k p s
  | 0, p, s => rfl
  | k + 1, p, s => by
    have hk : wr a k = wr b k := funext fun p => funext fun s => same_wr k p s
    unfold wr
    rw [same_parts S, hk]
    congr 1
    funext s x
    unfold rnd
    rw [same_line S]
theorem same_fits (i j : Nat) : fitsB (nd a i) (nd a j) = fitsB (nd b i) (nd b j) := by
  unfold fitsB
  rw [(S.at_ i).1, (S.at_ i).2.1, (S.at_ i).2.2.2, (S.at_ j).1, (S.at_ j).2.1]
theorem same_go : ∀ k os i, isGo a os k i = isGo b os k i
  | 0, os, i => rfl
  | k + 1, os, i => by
    unfold isGo
    rw [same_fits S, (S.at_ i).2.1, (S.at_ i).2.2.1, (S.at_ _).1, same_go k, same_go k]
theorem same_is : isP a = isP b := by
  unfold isP rootB
  rw [S.len, (S.at_ 0).1, (S.at_ 0).2.1, (S.at_ 0).2.2.1, (S.at_ 0).2.2.2, same_go S]
theorem same_show : showP a = showP b := by
  unfold showP
  rw [same_is S, S.len, same_wr S]
end
theorem tiny_of {t : List SN} (h : (t.map bN).sum ≤ 1048576) : tinyT t = true := by
  unfold tinyT
  simp only [Bool.and_eq_true, decide_eq_true_eq, List.all_eq_true]
  refine ⟨Nat.le_trans (nodes_len t) h, fun x hx => ?_⟩
  have := nodes_mem t x hx
  have e : bN x = x.f2.size + x.f3.size + 1 := rfl
  omega
theorem show_f {t : List SN} (h : (t.map bN).sum ≤ 1048576) : show_Show.f t = some (showP t) := by
  unfold show_Show.f
  rw [if_pos (tiny_of h)]
end Go.Proofs.Ytofajjodonhdkaa.Q
