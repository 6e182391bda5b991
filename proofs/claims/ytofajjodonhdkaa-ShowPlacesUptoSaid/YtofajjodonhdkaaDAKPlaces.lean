/- Places change nothing of what is written. -/
import Derived.Test.YtofajjodonhdkaaDAKSame
import Derived.Test.YtofajjodonhdkaaDAKRefIs
import Derived.Test.YtofajjodonhdkaaDAKIsF
import Derived.Test.YtofajjodonhdkaaDAQPlaces
namespace Go.Proofs.Ytofajjodonhdkaa.Q
open Go Go.RowKit Go.Shelf Go.Proofs.YtofajjodonhdkaaW.PrintWords Go.Proofs.YtofajjodonhdkaaW.PrintLast Go.Proofs.YtofajjodonhdkaaW.PrintMore
set_option linter.unusedVariables false
set_option linter.unusedSimpArgs false
theorem SameT.refl (t : List SN) : SameT t t := ⟨rfl, fun i => ⟨rfl, rfl, rfl, rfl⟩⟩
theorem nd_set (u : List SN) (i j : Nat) (v : SN) (h : i < u.length) : nd (u.set i v) j = if j = i then v else nd u j := by
  unfold nd rd_T31
  rw [List.getD_eq_getElem?_getD, List.getD_eq_getElem?_getD]
  show ((u.set i v)[j]?).getD _ = _
  by_cases e : j = i
  · subst e
    rw [if_pos rfl, List.getElem?_set_self h]
    rfl
  · rw [if_neg e, List.getElem?_set_ne (Ne.symm e)]
    rfl
theorem SameT.set {t u : List SN} (S : SameT t u) {i : Nat} (h : i < u.length) {v : SN} (h0 : v.f0 = (nd u i).f0) (h1 : v.f1 = (nd u i).f1) (h2 : v.f2 = (nd u i).f2) (h3 : v.f3 = (nd u i).f3) : SameT t (u.set i v) := by
  refine ⟨by rw [List.length_set]; exact S.len, fun j => ?_⟩
  rw [nd_set u i j v h]
  by_cases e : j = i
  · subst e
    rw [if_pos rfl, h0, h1, h2, h3]
    exact S.at_ j
  · rw [if_neg e]
    exact S.at_ j
theorem SameT.tiny {t u : List SN} (S : SameT t u) (h : (t.map bN).sum ≤ 1048576) : tinyT u = true := by
  have ht := tiny_of h
  unfold tinyT at ht ⊢
  simp only [Bool.and_eq_true, decide_eq_true_eq, List.all_eq_true] at ht ⊢
  refine ⟨S.len ▸ ht.1, fun x hx => ?_⟩
  obtain ⟨j, hj, e⟩ := List.mem_iff_getElem.1 hx
  have hjt : j < t.length := by rw [S.len]; exact hj
  have q := ht.2 (t[j]) (List.getElem_mem hjt)
  have s := S.at_ j
  rw [nd_at t j hjt, nd_at u j hj, e] at s
  rw [← s.2.2.1, ← s.2.2.2]
  exact q
theorem places_l0 (t : List SN) (a1 : Int) (a2 : ByteArray) (hs : (t.map bN).sum ≤ 1048576) : ∀ (d i : Nat) (u : List SN), SameT t u → i + d = u.length → Ev (fun k => shuttlelaw5_ShowPlaces.l0 k t a1 a2 u (i : Int)) true
  | 0, i, u, S, h => by
    have lt := Nat.le_trans (nodes_len t) hs
    have lu : u.length ≤ 1048576 := S.len ▸ lt
    refine Ev.step (fun k => by rw [shuttlelaw5_ShowPlaces.l0, if_neg (by omega), copyNodes_f t (by omega), Option.bind_some, show_f hs, Option.bind_some, show show_Show.f u = some (showP t) by unfold show_Show.f; rw [if_pos (S.tiny hs), ← same_show S], Option.bind_some, if_pos rfl, if_pos rfl, copyNodes_f u (by omega), Option.bind_some, show tree_Is.f u = some (isP t) by unfold tree_Is.f; rw [if_pos lu, ← same_is S], Option.bind_some, show shuttleref4_Is.f t = some (isP t) by unfold shuttleref4_Is.f; rw [if_pos lt, ref_is], Option.bind_some, if_pos (by simp), awake_f]) ?_
    exact Ev.now _
  | d + 1, i, u, S, h => by
    have lt := Nat.le_trans (nodes_len t) hs
    have lu : u.length ≤ 1048576 := S.len ▸ lt
    have S1 := S.set (i := i) (by omega) (v := ⟨(rd_T31 u (i : Int)).f0, (rd_T31 u (i : Int)).f1, (rd_T31 u (i : Int)).f2, (rd_T31 u (i : Int)).f3, a2, (rd_T31 u (i : Int)).f5, (rd_T31 u (i : Int)).f6, (rd_T31 u (i : Int)).f7⟩) rfl rfl rfl rfl
    have l1 : (u.set i ⟨(rd_T31 u (i : Int)).f0, (rd_T31 u (i : Int)).f1, (rd_T31 u (i : Int)).f2, (rd_T31 u (i : Int)).f3, a2, (rd_T31 u (i : Int)).f5, (rd_T31 u (i : Int)).f6, (rd_T31 u (i : Int)).f7⟩).length = u.length := List.length_set
    refine Ev.step (fun k => by rw [shuttlelaw5_ShowPlaces.l0, if_pos (by omega), if_pos (by omega), show ((i : Int)).toNat = i from rfl, Option.bind_some, Option.bind_some, Option.bind_some, wrN i (by omega)]) ?_
    generalize (u.set i ⟨(rd_T31 u (i : Int)).f0, (rd_T31 u (i : Int)).f1, (rd_T31 u (i : Int)).f2, (rd_T31 u (i : Int)).f3, a2, (rd_T31 u (i : Int)).f5, (rd_T31 u (i : Int)).f6, (rd_T31 u (i : Int)).f7⟩ : List SN) = u1 at S1 l1 ⊢
    have S2 := S1.set (i := i) (by omega) (v := ⟨(rd_T31 u1 (i : Int)).f0, (rd_T31 u1 (i : Int)).f1, (rd_T31 u1 (i : Int)).f2, (rd_T31 u1 (i : Int)).f3, (rd_T31 u1 (i : Int)).f4, wrap64 (a1 + (i : Int)), (rd_T31 u1 (i : Int)).f6, (rd_T31 u1 (i : Int)).f7⟩) rfl rfl rfl rfl
    have l2 : (u1.set i ⟨(rd_T31 u1 (i : Int)).f0, (rd_T31 u1 (i : Int)).f1, (rd_T31 u1 (i : Int)).f2, (rd_T31 u1 (i : Int)).f3, (rd_T31 u1 (i : Int)).f4, wrap64 (a1 + (i : Int)), (rd_T31 u1 (i : Int)).f6, (rd_T31 u1 (i : Int)).f7⟩).length = u1.length := List.length_set
    generalize (u1.set i ⟨(rd_T31 u1 (i : Int)).f0, (rd_T31 u1 (i : Int)).f1, (rd_T31 u1 (i : Int)).f2, (rd_T31 u1 (i : Int)).f3, (rd_T31 u1 (i : Int)).f4, wrap64 (a1 + (i : Int)), (rd_T31 u1 (i : Int)).f6, (rd_T31 u1 (i : Int)).f7⟩ : List SN) = u2 at S2 l2 ⊢
    have S3 := S2.set (i := i) (by omega) (v := ⟨(rd_T31 u2 (i : Int)).f0, (rd_T31 u2 (i : Int)).f1, (rd_T31 u2 (i : Int)).f2, (rd_T31 u2 (i : Int)).f3, (rd_T31 u2 (i : Int)).f4, (rd_T31 u2 (i : Int)).f5, wrap64 (a1 - (i : Int)), (rd_T31 u2 (i : Int)).f7⟩) rfl rfl rfl rfl
    have l3 : (u2.set i ⟨(rd_T31 u2 (i : Int)).f0, (rd_T31 u2 (i : Int)).f1, (rd_T31 u2 (i : Int)).f2, (rd_T31 u2 (i : Int)).f3, (rd_T31 u2 (i : Int)).f4, (rd_T31 u2 (i : Int)).f5, wrap64 (a1 - (i : Int)), (rd_T31 u2 (i : Int)).f7⟩).length = u2.length := List.length_set
    generalize (u2.set i ⟨(rd_T31 u2 (i : Int)).f0, (rd_T31 u2 (i : Int)).f1, (rd_T31 u2 (i : Int)).f2, (rd_T31 u2 (i : Int)).f3, (rd_T31 u2 (i : Int)).f4, (rd_T31 u2 (i : Int)).f5, wrap64 (a1 - (i : Int)), (rd_T31 u2 (i : Int)).f7⟩ : List SN) = u3 at S3 l3 ⊢
    exact places_l0 t a1 a2 hs d (i + 1) _ (S3.set (i := i) (by omega) rfl rfl rfl rfl) (by rw [List.length_set]; omega)
theorem showPlaces_go (A : Option Addr) (c : Nat) (t : List SN) (a1 : Int) (a2 : ByteArray) (w : World) (hgm : GM w) (hA : Kd.C k31 w A t.length t) (hc : t.length ≤ c) (hs : (t.map bN).sum ≤ 1048576) (h2 : a2.size ≤ 1048576) :
    Calls Try.prog 6 #[.slice A t.length c, .int .i64 a1, .string a2] w fun e w' => e = .returned (.bool true) ∧ Below w.heap.size w w' := by
  have lt := Nat.le_trans (nodes_len t) hs
  have H : Ev (fun k => shuttlelaw5_ShowPlaces.f k t a1 a2) true := by
    unfold shuttlelaw5_ShowPlaces.f
    refine Ev.congr (fun k => by rw [copyNodes_f t (by omega), Option.bind_some]) ?_
    exact places_l0 t a1 a2 hs t.length 0 t (SameT.refl t) (by omega)
  obtain ⟨k, hk⟩ := H.rounds
  exact shuttlelaw5_ShowPlaces.calls k A c t a1 a2 true w hA hc hgm hk
end Go.Proofs.Ytofajjodonhdkaa.Q
