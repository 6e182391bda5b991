/- What the laws over any variables share: alike lists, doubled dollars. -/
import Derived.Test.YtfkibolpanlelaaCAVTheC
import Derived.Test.YtfkibolpanlelaaCAQ6
namespace Go.Proofs.Ytfkibolpanlelaa.Q
open Go Go.RowKit Go.Shelf Go.Proofs.YtfkibolpanlelaaW.PrintWords Go.Proofs.YtfkibolpanlelaaW.PrintLast Go.Proofs.YtfkibolpanlelaaW.PrintMore Go.Proofs.Ytfkibolpanlelaa.SMap
set_option linter.unusedVariables false
set_option linter.unusedSimpArgs false
theorem same_l0 (l : List SV) (hl : l.length ≤ 1048576) : ∀ (d i : Nat), i + d = l.length → Ev (fun k => shuttlelaw0_SameVars.l0 k l l (i : Int)) true
  | 0, i, h => Ev.step (fun k => by rw [shuttlelaw0_SameVars.l0, if_neg (by omega)]) (Ev.now _)
  | d + 1, i, h => Ev.step (fun k => by rw [shuttlelaw0_SameVars.l0, if_pos (by omega), if_pos (by omega), if_pos (by omega), if_neg (by simp), wrap_up (by omega)]) (same_l0 l hl d (i + 1) (by omega))
theorem same_ev (l : List SV) (hl : l.length ≤ 1048576) : Ev (fun k => shuttlelaw0_SameVars.f k l l) true := by
  unfold shuttlelaw0_SameVars.f
  exact Ev.congr (fun k => if_pos rfl) (same_l0 l hl l.length 0 (by omega))
theorem getv_ev (l : List SV) (s : ByteArray) (hl : l.length ≤ 1048576) : Ev (fun k => vars_Get.f k l s) (getR l s) := by
  obtain ⟨k, hk⟩ := get_f s l (by omega)
  exact Ev.of (fun k => vars_Get.mono _ _ _) hk
def dblU (l : List UInt8) : List UInt8 := l.flatMap fun c => if c = 36 then [36, 36] else [c]
def dblS (s : ByteArray) : ByteArray := ⟨(dblU s.data.toList).toArray⟩
def numsU (l : List UInt8) : List Int := l.map fun b => (b.toNat : Int)
theorem dblU_app (a b : List UInt8) : dblU (a ++ b) = dblU a ++ dblU b := List.flatMap_append ..
theorem dblU_len : ∀ l : List UInt8, (dblU l).length ≤ 2 * l.length
  | [] => Nat.le_refl _
  | c :: r => by
    have ih := dblU_len r
    have e : dblU (c :: r) = (if c = 36 then [36, 36] else [c]) ++ dblU r := rfl
    rw [e, List.length_append, List.length_cons]
    split
    · simp only [List.length_cons, List.length_nil]; omega
    · simp only [List.length_cons, List.length_nil]; omega
theorem dblS_size (s : ByteArray) : (dblS s).size ≤ 2 * s.size := by
  have := dblU_len s.data.toList
  rw [data_length] at this
  exact this
theorem nums_numsU (l : List UInt8) : strOfNums (numsU l) = ⟨l.toArray⟩ := by
  have hid : ((fun n : Int => UInt8.ofNat n.toNat) ∘ fun b : UInt8 => (b.toNat : Int)) = id := by
    funext b
    simp
  apply ByteArray.ext
  simp [strOfNums, numsU, hid]
theorem bt_u (s : ByteArray) (i : Nat) (c : UInt8) (h : s.data.toList[i]? = some c) : bt s (i : Int) = (c.toNat : Int) := by
  rw [bt_of, bytesOf, List.getD_eq_getElem?_getD, List.getElem?_map, h]
  rfl
theorem u36 (c : UInt8) : (c.toNat : Int) = 36 ↔ c = 36 := by
  constructor
  · intro h
    have : c.toNat = 36 := by omega
    exact UInt8.toNat_inj.1 (by rw [this]; rfl)
  · rintro rfl; rfl
theorem dbl_l0 (s : ByteArray) (hs : s.size ≤ 4096) : ∀ (d i : Nat), i + d = s.size → Ev (fun k => shuttlelaw10_double.l0 k s (numsU (dblU (s.data.toList.take i))) (i : Int)) (dblS s)
  | 0, i, h => by
    have e : numsU (dblU (s.data.toList.take i)) = numsU (dblU s.data.toList) := by rw [List.take_of_length_le (by rw [data_length]; omega)]
    rw [e]
    refine Ev.step (fun k => by rw [shuttlelaw10_double.l0, if_neg (by omega), nums_numsU]; rfl) (Ev.now _)
  | d + 1, i, h => by
    have hi : i < s.data.toList.length := by rw [data_length]; omega
    have hc : s.data.toList[i]? = some s.data.toList[i] := List.getElem?_eq_getElem hi
    have hb := bt_u s i _ hc
    have ih := dbl_l0 s hs d (i + 1) (by omega)
    have hl : (numsU (dblU (s.data.toList.take i))).length ≤ 8192 := by
      have := dblU_len (s.data.toList.take i)
      rw [List.length_take, data_length] at this
      rw [numsU, List.length_map]
      omega
    have e : numsU (dblU (s.data.toList.take (i + 1))) = numsU (dblU (s.data.toList.take i)) ++ numsU (if s.data.toList[i] = 36 then [36, 36] else [s.data.toList[i]]) := by
      rw [List.take_succ_eq_append_getElem hi, dblU_app, numsU, List.map_append]
      congr 1
      show numsU (dblU [s.data.toList[i]]) = _
      congr 1
      unfold dblU
      simp
    rw [e] at ih
    refine Ev.step (fun k => by rw [shuttlelaw10_double.l0, if_pos (by omega), if_pos (by omega), if_pos (by omega), Option.bind_some, hb]) ?_
    by_cases h36 : s.data.toList[i] = 36
    · rw [if_pos h36] at ih
      refine Ev.congr (fun k => by rw [if_pos ((u36 _).2 h36), if_pos (by rw [List.length_append]; simp only [List.length_cons, List.length_nil]; omega), wrap_up (by omega), List.append_assoc]) ?_
      rw [h36]
      exact ih
    · rw [if_neg h36] at ih
      exact Ev.congr (fun k => by rw [if_neg (fun x => h36 ((u36 _).1 x)), wrap_up (by omega)]; rfl) ih
theorem dbl_ev (s : ByteArray) (hs : s.size ≤ 4096) : Ev (fun k => shuttlelaw10_double.f k s) (dblS s) := dbl_l0 s hs s.size 0 (by omega)
theorem dbl_run {G : KS → ByteArray → Nat → Except Er KS} (l : List UInt8) (hl : l.length ≤ 4096) : ∀ (r pre : List UInt8) (d : Nat), pre ++ r = l → (dblU l).length < (dblU pre).length + d →
    piecesP kF G ⟨(dblU l).toArray⟩ d (dblU pre).length (numsU pre, 0) = .ok (numsU l, 0)
  | [], pre, d, h, hd => by
    rw [List.append_nil] at h
    subst h
    exact piecesP_end _ _ _ _ _ _ (Nat.le_refl _)
  | c :: r, pre, 0, h, hd => by
    have : (dblU l).length = (dblU pre).length + (dblU (c :: r)).length := by rw [← h, dblU_app, List.length_append]
    omega
  | c :: r, pre, d + 1, h, hd => by
    have hU : dblU l = dblU pre ++ ((if c = 36 then [36, 36] else [c]) ++ dblU r) := by rw [← h, dblU_app]; rfl
    have hU2 : (dblU l).length = (dblU pre).length + ((if c = 36 then [36, 36] else [c] : List UInt8).length + (dblU r).length) := by rw [hU, List.length_append, List.length_append]
    have hpl : (numsU pre).length + 1 ≤ 4096 := by
      have : l.length = pre.length + (r.length + 1) := by rw [← h, List.length_append, List.length_cons]
      rw [numsU, List.length_map]
      omega
    have hfrom : (fromB ⟨(dblU l).toArray⟩ (dblU pre).length).data.toList = (if c = 36 then [36, 36] else [c]) ++ dblU r := by
      rw [from_list]
      show (dblU l).drop _ = _
      rw [hU, List.drop_left]
    have hat : ∀ c2 r2, (if c = 36 then [36, 36] else [c]) ++ dblU r = c2 :: r2 → bt ⟨(dblU l).toArray⟩ ((dblU pre).length : Int) = (c2.toNat : Int) := fun c2 r2 e => by
      apply bt_u
      show (dblU l)[(dblU pre).length]? = _
      rw [hU, e, List.getElem?_append_right (Nat.le_refl _), Nat.sub_self]
      rfl
    have hk : ∀ x : Int, kF (numsU pre, 0) x (dblU pre).length = .ok (numsU pre ++ [x], 0) := fun x => by
      unfold kF
      rw [if_neg (by rw [List.length_append]; simp only [List.length_cons, List.length_nil]; omega)]
    have hsz : (⟨(dblU l).toArray⟩ : ByteArray).size = (dblU l).length := rfl
    by_cases h36 : c = 36
    · subst h36
      rw [if_pos rfl] at hU hU2 hfrom hat
      have hp : prefAt ⟨(dblU l).toArray⟩ (dblU pre).length [36, 36] = true := by
        unfold prefAt
        rw [hfrom]
        rfl
      have hs : stepP kF G ⟨(dblU l).toArray⟩ (dblU pre).length (numsU pre, 0) = (.ok (numsU (pre ++ [36]), 0), (dblU (pre ++ [36])).length) := by
        unfold stepP
        rw [hat 36 (36 :: dblU r) rfl, if_neg (by decide), if_pos hp, hk, dblU_app, List.length_append]
        show (Except.ok (numsU pre ++ [36], 0), _) = (Except.ok (numsU (pre ++ [36]), 0), _)
        rw [numsU, numsU, List.map_append]
        rfl
      rw [piecesP_ok (by rw [hsz]; simp only [List.length_cons] at hU2; omega) hs]
      refine dbl_run l hl r (pre ++ [36]) d (by rw [List.append_assoc]; exact h) ?_
      rw [dblU_app, List.length_append]
      show _ < _ + 2 + d
      omega
    · rw [if_neg h36] at hU hU2 hfrom hat
      have hs : stepP kF G ⟨(dblU l).toArray⟩ (dblU pre).length (numsU pre, 0) = (.ok (numsU (pre ++ [c]), 0), (dblU (pre ++ [c])).length) := by
        have e1 : (dblU (pre ++ [c])).length = (dblU pre).length + 1 := by
          rw [dblU_app, List.length_append]
          show _ + (dblU [c]).length = _
          unfold dblU
          simp [h36]
        unfold stepP
        rw [hat c (dblU r) rfl, if_pos (fun x => h36 ((u36 _).1 x)), hk, e1]
        rw [numsU, numsU, List.map_append]
        rfl
      have e1 : (dblU (pre ++ [c])).length = (dblU pre).length + 1 := by
        rw [dblU_app, List.length_append]
        show _ + (dblU [c]).length = _
        unfold dblU
        simp [h36]
      rw [piecesP_ok (by rw [hsz]; simp only [List.length_cons] at hU2; omega) hs]
      refine dbl_run l hl r (pre ++ [c]) d (by rw [List.append_assoc]; exact h) ?_
      rw [e1]
      omega
theorem dbl_pieces {G : KS → ByteArray → Nat → Except Er KS} (s : ByteArray) (hs : s.size ≤ 4096) : piecesOf kF G (dblS s) ([], 0) = .ok (bytesOf s, 0) := by
  unfold piecesOf
  exact dbl_run s.data.toList (by rw [data_length]; exact hs) s.data.toList [] _ rfl (by show _ < 0 + ((dblU s.data.toList).length + 1); omega)
end Go.Proofs.Ytfkibolpanlelaa.Q
