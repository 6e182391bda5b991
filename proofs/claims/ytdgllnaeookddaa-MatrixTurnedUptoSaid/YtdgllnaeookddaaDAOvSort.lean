/- Variables of the call's own sorted by their names (slices.SortFunc with Overlay's closure); the order of bytes. -/
import Derived.Test.YtdgllnaeookddaaDAQ0
import Derived.Test.YtdgllnaeookddaaDAGShelf
import Derived.Test.YtdgllnaeookddaaDAGSrt
import Derived.Shelf.SlSortCmp.WholeK
namespace Go.Proofs.Ytdgllnaeookddaa.Ov
open Go.RowKit Go.Proofs.YtdgllnaeookddaaW.PrintWords Go.Proofs.YtdgllnaeookddaaW.PrintLast Go.Proofs.YtdgllnaeookddaaW.PrintMore Go.Proofs.Ytdgllnaeookddaa.Q
set_option linter.unusedVariables false
set_option linter.unusedSimpArgs false
abbrev SV := S51
instance : Inhabited SV := ⟨z51⟩
def encV (v : SV) : List Value := [.string v.f0, .string v.f1]
abbrev cb := Lib.compareBytes
theorem cb_refl : ∀ a : List UInt8, cb a a = 0
  | [] => rfl
  | x :: r => by
    show (if x < x then -1 else if x < x then 1 else cb r r) = 0
    rw [if_neg (UInt8.lt_irrefl x), if_neg (UInt8.lt_irrefl x), cb_refl r]
theorem cb_swap : ∀ a b : List UInt8, cb b a = -cb a b
  | [], [] => rfl
  | [], _ :: _ => rfl
  | _ :: _, [] => rfl
  | x :: r, y :: s => by
    show (if y < x then -1 else if x < y then 1 else cb s r) = -(if x < y then -1 else if y < x then 1 else cb r s)
    have ha := @UInt8.lt_asymm x y
    by_cases h1 : x < y
    · rw [if_neg (ha h1), if_pos h1, if_pos h1]; rfl
    · by_cases h2 : y < x
      · rw [if_pos h2, if_neg h1, if_pos h2]
      · rw [if_neg h2, if_neg h1, if_neg h1, if_neg h2, cb_swap r s]
theorem u8_eq {x y : UInt8} (h1 : ¬ x < y) (h2 : ¬ y < x) : x = y := by
  rw [UInt8.lt_iff_toNat_lt] at h1 h2
  exact UInt8.toNat_inj.1 (by omega)
theorem cb_eq : ∀ a b : List UInt8, cb a b = 0 → a = b
  | [], [], _ => rfl
  | [], _ :: _, h => by cases h
  | _ :: _, [], h => by cases h
  | x :: r, y :: s, h => by
    have h : (if x < y then -1 else if y < x then 1 else cb r s) = 0 := h
    by_cases h1 : x < y
    · rw [if_pos h1] at h; omega
    · by_cases h2 : y < x
      · rw [if_neg h1, if_pos h2] at h; omega
      · rw [if_neg h1, if_neg h2] at h
        rw [u8_eq h1 h2, cb_eq r s h]
theorem cb_trans : ∀ a b c : List UInt8, cb a b ≤ 0 → cb b c ≤ 0 → cb a c ≤ 0
  | [], _, [], _, _ => Int.le_refl _
  | [], _, _ :: _, _, _ => by show (-1 : Int) ≤ 0; omega
  | _ :: _, [], _, h, _ => by
    have h : (1 : Int) ≤ 0 := h
    omega
  | _ :: _, _ :: _, [], _, h => by
    have h : (1 : Int) ≤ 0 := h
    omega
  | x :: r, y :: s, z :: t, h1, h2 => by
    have h1 : (if x < y then -1 else if y < x then 1 else cb r s) ≤ 0 := h1
    have h2 : (if y < z then -1 else if z < y then 1 else cb s t) ≤ 0 := h2
    show (if x < z then -1 else if z < x then 1 else cb r t) ≤ 0
    have ih := cb_trans r s t
    simp only [UInt8.lt_iff_toNat_lt] at h1 h2 ⊢
    split
    · omega
    · rename_i g1
      split
      · rename_i g2
        split at h1
        · split at h2
          · omega
          · split at h2 <;> omega
        · split at h1
          · omega
          · split at h2
            · omega
            · split at h2 <;> omega
      · rename_i g2
        refine ih ?_ ?_
        · split at h1
          · split at h2
            · omega
            · split at h2 <;> omega
          · split at h1
            · omega
            · exact h1
        · split at h2
          · split at h1
            · omega
            · split at h1 <;> omega
          · split at h2
            · omega
            · exact h2
def cmpV (x y : SV) : Int := cb x.f0.data.toList y.f0.data.toList
theorem name_of {x y : SV} (h : cmpV x y = 0) : x.f0 = y.f0 := by
  have := cb_eq _ _ h
  exact ByteArray.ext (Array.toList_inj.1 this)
theorem swoV : Sort.SWO (ltOf cmpV) where
  irrefl x := by
    show decide (cmpV x x < 0) = false
    rw [show cmpV x x = 0 from cb_refl _]
    rfl
  trans x y z h1 h2 := by
    have h1 : decide (cmpV x y < 0) = true := h1
    have h2 : decide (cmpV y z < 0) = true := h2
    show decide (cmpV x z < 0) = true
    simp only [decide_eq_true_eq] at *
    have h3 : cmpV x z ≤ 0 := cb_trans _ _ _ (Int.le_of_lt h1) (Int.le_of_lt h2)
    rcases Int.lt_or_eq_of_le h3 with h | h
    · exact h
    · have e := cb_eq _ _ h
      have : cmpV y z = -cmpV x y := by
        unfold cmpV
        rw [← e]
        exact cb_swap _ _
      omega
  ntrans x y z h1 h2 := by
    have h1 : decide (cmpV x y < 0) = false := h1
    have h2 : decide (cmpV y z < 0) = false := h2
    show decide (cmpV x z < 0) = false
    simp only [decide_eq_false_iff_not] at *
    have e1 : cmpV y x = -cmpV x y := cb_swap _ _
    have e2 : cmpV z y = -cmpV y z := cb_swap _ _
    have e3 : cmpV z x = -cmpV x z := cb_swap _ _
    have := cb_trans z.f0.data.toList y.f0.data.toList x.f0.data.toList (show cmpV z y ≤ 0 by omega) (show cmpV y x ≤ 0 by omega)
    have : cmpV z x ≤ 0 := this
    omega
/-- Sorted by their names, no two of one name. -/
def SortedV (l : List SV) : Prop := l.Pairwise fun x y => cmpV x y < 0
theorem sorted_one : ∀ {a b : List SV}, a.Perm b → SortedV a → SortedV b → a = b
  | [], b, h, _, _ => (List.nil_perm.1 h).symm
  | x :: r, [], h, _, _ => (List.perm_nil.1 h)
  | x :: r, y :: s, h, ha, hb => by
    have hx : x ∈ y :: s := h.subset List.mem_cons_self
    have hy : y ∈ x :: r := h.symm.subset List.mem_cons_self
    have ha' := List.pairwise_cons.1 ha
    have hb' := List.pairwise_cons.1 hb
    have e : x = y := by
      rcases List.mem_cons.1 hx with e | hx
      · exact e
      · rcases List.mem_cons.1 hy with e | hy
        · exact e.symm
        · have h1 := ha'.1 _ hy
          have h2 := hb'.1 _ hx
          have h3 : cmpV y x = -cmpV x y := cb_swap _ _
          omega
    subst e
    rw [sorted_one (List.Perm.cons_inv h) ha'.2 hb'.2]
def insV (v : SV) : List SV → List SV
  | [] => [v]
  | x :: r => if cmpV v x < 0 then v :: x :: r else x :: insV v r
def sortV : List SV → List SV
  | [] => []
  | x :: r => insV x (sortV r)
theorem ins_perm (v : SV) : ∀ l, (insV v l).Perm (v :: l)
  | [] => List.Perm.refl _
  | x :: r => by
    unfold insV
    split
    · exact List.Perm.refl _
    · exact ((ins_perm v r).cons x).trans (List.Perm.swap v x r)
theorem sort_perm : ∀ l, (sortV l).Perm l
  | [] => List.Perm.refl _
  | x :: r => (ins_perm x (sortV r)).trans ((sort_perm r).cons x)
theorem ins_sorted {v : SV} : ∀ {l : List SV}, SortedV l → (∀ x ∈ l, x.f0 ≠ v.f0) → SortedV (insV v l)
  | [], _, _ => List.pairwise_singleton _ _
  | x :: r, h, hn => by
    have h' := List.pairwise_cons.1 h
    unfold insV
    split
    · rename_i hlt
      refine List.pairwise_cons.2 ⟨fun y hy => ?_, h⟩
      rcases List.mem_cons.1 hy with rfl | hy
      · exact hlt
      · exact of_decide_eq_true (swoV.trans v x y (decide_eq_true hlt) (decide_eq_true (h'.1 y hy)))
    · rename_i hlt
      refine List.pairwise_cons.2 ⟨fun y hy => ?_, ins_sorted h'.2 (fun y hy => hn y (List.mem_cons_of_mem _ hy))⟩
      rcases List.mem_cons.1 ((ins_perm v r).subset hy) with rfl | hy
      · have e : cmpV x y = -cmpV y x := cb_swap _ _
        have : cmpV x y ≠ 0 := fun h0 => hn x List.mem_cons_self (name_of h0)
        omega
      · exact h'.1 y hy
theorem sort_sorted : ∀ {l : List SV}, (l.map (·.f0)).Nodup → SortedV (sortV l)
  | [], _ => List.Pairwise.nil
  | x :: r, h => by
    rw [List.map_cons, List.nodup_cons] at h
    refine ins_sorted (sort_sorted h.2) (fun y hy e => h.1 ?_)
    rw [← e]
    exact List.mem_map_of_mem ((sort_perm r).subset hy)
theorem sort_unique {a b : List SV} (hp : b.Perm a) (hs : SortedV b) (hn : (a.map (·.f0)).Nodup) : b = sortV a := sorted_one (hp.trans (sort_perm a).symm) hs (sort_sorted hn)
end Go.Proofs.Ytdgllnaeookddaa.Ov
