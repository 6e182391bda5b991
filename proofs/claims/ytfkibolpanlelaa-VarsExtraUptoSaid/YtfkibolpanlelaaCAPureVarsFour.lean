/- Statements VarsSettled, VarsOwn, VarsOrder, VarsExtra, with no program in sight. -/
import Derived.Test.YtfkibolpanlelaaCAVFour
import Derived.Test.YtfkibolpanlelaaCAQ7
import Derived.Test.YtfkibolpanlelaaCAQ8
import Derived.Test.YtfkibolpanlelaaCAQ9
import Derived.Test.YtfkibolpanlelaaCAQ12
namespace Go.Proofs.Ytfkibolpanlelaa.Q
open Go Go.RowKit Go.Shelf Go.Proofs.YtfkibolpanlelaaW.PrintWords Go.Proofs.YtfkibolpanlelaaW.PrintLast Go.Proofs.YtfkibolpanlelaaW.PrintMore Go.Proofs.Ytfkibolpanlelaa.SMap
set_option linter.unusedVariables false
set_option linter.unusedSimpArgs false
theorem awake_some : Ev (fun k => (shuttlelaw10_awake.f k).bind fun t => some t) true := Ev.bind awake_ev (Ev.now _)
theorem gV_names (V : VM) (l : List SV) : (l.map (gV V)).map (·.f0) = l.map (·.f0) := by rw [List.map_map]; rfl
theorem smallV_out {raw : List SV} {V : VM} (hF : Fix raw V) (hd : ∀ v ∈ raw, (V v.f0).isSome = true) : ∀ u ∈ raw.map (gV V), u.f1.size ≤ 4096 := fun u hu => by
  obtain ⟨v, hv, rfl⟩ := List.mem_map.1 hu
  obtain ⟨x, hx⟩ := Option.isSome_iff_exists.1 (hd v hv)
  show ((V v.f0).getD zVD).text.size ≤ 4096
  rw [hx]
  exact (hF.size hx).1
theorem small_4096 {l : List SV} (h : ∀ u ∈ l, u.f1.size ≤ 4096) : smallV l = true := smallV_of fun u hu => Nat.le_trans (h u hu) (by decide)
section
variable (l : List SV) (hs : smallV l = true) (hl : l.length ≤ 1048576)
def dblV (v : SV) : SV := ⟨v.f0, dblS v.f1⟩
theorem settled_l0 (o : List SV) (ho : o.length = l.length) (hn : o.map (·.f0) = l.map (·.f0)) (hz : ∀ u ∈ o, u.f1.size ≤ 4096) (hl : l.length ≤ 1048576) (hr : resolveP (o.map dblV) = (o, 0, 0)) :
    ∀ (d i : Nat), i + d = o.length → Ev (fun k => shuttlelaw10_VarsSettled.l0 k l o ((o.take i).map dblV) (i : Int)) true
  | 0, i, h => by
    have e : (o.take i).map dblV = o.map dblV := by rw [List.take_of_length_le (by omega)]
    have hsm : smallV (o.map dblV) = true := smallV_of fun v hv => by
      obtain ⟨u, hu, rfl⟩ := List.mem_map.1 hv
      have h1 := dblS_size u.f1
      have h2 := hz u hu
      show (dblS u.f1).size ≤ _
      omega
    rw [e]
    refine Ev.step (fun k => by rw [shuttlelaw10_VarsSettled.l0, if_neg (by omega), res_ev _ hsm, Option.bind_some, hr, if_pos rfl]) ?_
    refine Ev.bind (same_ev o (by omega)) ?_
    exact Ev.congr (fun k => if_pos rfl) awake_some
  | d + 1, i, h => by
    have hi : i < o.length := by omega
    have hi2 : i < l.length := by omega
    have hname : (rd_T41 o (i : Int)).f0 = (rd_T41 l (i : Int)).f0 := by
      rw [rd_var _ _ hi, rd_var _ _ hi2]
      have := congrArg (fun x : List ByteArray => x[i]?) hn
      simp only [List.getElem?_map, List.getElem?_eq_getElem hi, List.getElem?_eq_getElem hi2, Option.map_some] at this
      exact Option.some.inj this
    have hsz : (rd_T41 o (i : Int)).f1.size ≤ 4096 := by
      rw [rd_var _ _ hi]
      exact hz _ (List.getElem_mem hi)
    have ih := settled_l0 o ho hn hz hl hr d (i + 1) (by omega)
    rw [List.take_succ_eq_append_getElem hi, List.map_append] at ih
    have hel : ((o.take i).map dblV).length < 4398046511104 := by rw [List.length_map, List.length_take]; omega
    refine Ev.step (fun k => by rw [shuttlelaw10_VarsSettled.l0, if_pos (by omega), if_pos (by omega), if_pos (by omega), if_pos (by rw [hname]), if_neg (by omega)]) ?_
    refine Ev.bind (dbl_ev _ hsz) ?_
    refine Ev.congr (fun k => by rw [if_pos hel, wrap_up (by omega)]) ?_
    rw [rd_var _ _ hi]
    exact ih
include hs hl in
theorem settled_ev : Ev (fun k => shuttlelaw10_VarsSettled.f k l) true := by
  unfold shuttlelaw10_VarsSettled.f
  refine Ev.congr (fun k => by rw [copy_ev l (by omega), Option.bind_some, res_ev l hs, Option.bind_some]) ?_
  by_cases h0 : (resolveP l).2.2 = 0
  · obtain ⟨h256, hc, V, hF, hd, hr⟩ := res_sound h0
    rw [hr]
    have hz := smallV_out hF hd
    refine Ev.congr (fun k => by rw [if_pos rfl, if_pos (by rw [List.length_map])]) ?_
    refine settled_l0 l (l.map (gV V)) (List.length_map ..) (gV_names V l) hz hl ?_ (l.map (gV V)).length 0 (by omega)
    -- the doubled ones come to themselves
    have hn : (((l.map (gV V)).map dblV)).map (·.f0) = l.map (·.f0) := by rw [List.map_map, List.map_map]; rfl
    have hc2 : chkV [] ((l.map (gV V)).map dblV) = none := by rw [chk_names _ l [] [] rfl hn]; exact hc
    have hnd := ((chk_iff _ _).1 hc2).2.2
    let W : VM := fun s => ((findV (l.map (gV V)) s).map fun u => (⟨u.f1, 0, false⟩ : VD))
    have hW : ∀ u ∈ l.map (gV V), W u.f0 = some ⟨u.f1, 0, false⟩ := fun u hu => by
      show (findV (l.map (gV V)) u.f0).map _ = _
      rw [(find_iff (by rw [gV_names]; rw [hn] at hnd; exact hnd) u.f0 u).2 ⟨hu, rfl⟩]
      rfl
    have hF2 : Fix ((l.map (gV V)).map dblV) W := fun s x hx => by
      obtain ⟨u, hu, rfl⟩ := Option.map_eq_some_iff.1 hx
      obtain ⟨hm, rfl⟩ := findV_some hu
      refine ⟨rfl, dblV u, bytesOf u.f1, (find_iff hnd _ _).2 ⟨List.mem_map.2 ⟨u, hm, rfl⟩, rfl⟩, ?_, dbl_pieces u.f1 (hz u hm)⟩
      show u.f1 = _
      have := nums_numsU u.f1.data.toList
      exact this.symm
    rw [res_all (by rw [List.length_map, List.length_map]; exact h256) hc2 hF2 (fun v hv => by
      obtain ⟨u, hu, rfl⟩ := List.mem_map.1 hv
      show (W u.f0).isSome = true
      rw [hW u hu]; rfl)]
    congr 1
    rw [List.map_map]
    refine (List.map_congr_left fun u hu => ?_).trans (List.map_id _)
    show (⟨u.f0, ((W u.f0).getD zVD).text⟩ : SV) = u
    rw [hW u hu]
    rfl
  · rcases res_cases l with ⟨_, h1, h2, h3⟩ | ⟨_, _, out, _, h4⟩
    · refine Ev.congr (fun k => by rw [if_neg h0, if_pos h2, if_pos h3, if_pos (by rw [h1]; rfl)]) awake_some
    · exact absurd (by rw [h4]) h0
theorem own_l0 (V : VM) (hF : Fix l V) (hd : ∀ v ∈ l, (V v.f0).isSome = true) (hnd : (l.map (·.f0)).Nodup) (hs : smallV l = true) (hl : l.length ≤ 1048576) :
    ∀ (d i : Nat), i + d = l.length → Ev (fun k => shuttlelaw10_VarsOwn.l0 k l (l.map (gV V)) (i : Int)) true
  | 0, i, h => Ev.step (fun k => by rw [shuttlelaw10_VarsOwn.l0, if_neg (by omega)]) awake_some
  | d + 1, i, h => by
    have hi : i < l.length := by omega
    have hlen : (l.map (gV V)).length = l.length := List.length_map ..
    obtain ⟨x, hx⟩ := Option.isSome_iff_exists.1 (hd _ (List.getElem_mem hi))
    obtain ⟨_, v, bs, hv, ht, hp⟩ := hF _ x hx
    rw [(find_iff hnd _ l[i]).2 ⟨List.getElem_mem hi, rfl⟩] at hv
    obtain rfl := Option.some.inj hv
    have he := own_exp hp
    have hval : (rd_T41 (l.map (gV V)) (i : Int)).f1 = strOfNums bs := by
      rw [rd_var _ _ (by omega), List.getElem_map]
      show ((V _).getD zVD).text = _
      rw [hx]
      exact ht
    refine Ev.step (fun k => by
      rw [shuttlelaw10_VarsOwn.l0, if_pos (by omega), if_pos (by omega), copy_ev _ (by omega), Option.bind_some, rd_var _ _ hi, exp_ev _ _ (smallV_iff hs _ (List.getElem_mem hi)) (small_4096 (smallV_out hF hd)), Option.bind_some, he, if_pos rfl, if_pos (by omega), hval, if_pos rfl, wrap_up (by omega)]) ?_
    exact own_l0 V hF hd hnd hs hl d (i + 1) (by omega)
include hs hl in
theorem own_ev : Ev (fun k => shuttlelaw10_VarsOwn.f k l) true := by
  unfold shuttlelaw10_VarsOwn.f
  refine Ev.congr (fun k => by rw [copy_ev l (by omega), Option.bind_some, res_ev l hs, Option.bind_some]) ?_
  by_cases h0 : (resolveP l).2.2 = 0
  · obtain ⟨h256, hc, V, hF, hd, hr⟩ := res_sound h0
    rw [hr]
    refine Ev.congr (fun k => by rw [if_pos rfl, if_pos (by rw [List.length_map])]) ?_
    exact own_l0 l V hF hd ((chk_iff _ _).1 hc).2.2 hs hl l.length 0 (by omega)
  · exact Ev.congr (fun k => by rw [if_neg h0]) awake_some
include hs hl in
theorem order_ev (a : Int) : Ev (fun k => shuttlelaw10_VarsOrder.f k l a) true := by
  have hj : ∀ x : List SV, Ev (fun k => shuttlelaw10_VarsOrder.j0 k l a x true) true := fun x => Ev.step (fun k => by rw [shuttlelaw10_VarsOrder.j0, if_pos rfl]) awake_some
  unfold shuttlelaw10_VarsOrder.f
  refine Ev.congr (fun k => by rw [copy_ev l (by omega), Option.bind_some, res_ev l hs, Option.bind_some]) ?_
  by_cases h0 : (resolveP l).2.2 = 0
  · refine Ev.congr (fun k => by rw [if_pos h0]) ?_
    by_cases hlen : l.length = 0
    · rw [show ((l.length : Int) == 0) = true by simp [hlen]]
      exact hj _
    · rw [show ((l.length : Int) == 0) = false by simp; intro e; simp [e] at hlen]
      obtain ⟨h256, hc, V, hF, hd, hr⟩ := res_sound h0
      rw [hr]
      obtain ⟨m, hm⟩ := low_nat a
      have ht : Int.tmod (m : Int) (l.length : Int) = ((m % l.length : Nat) : Int) := rfl
      have hlt : m % l.length < l.length := Nat.mod_lt _ (by omega)
      generalize m % l.length = q at ht hlt
      have hw : wrap64 ((l.length : Int) - ((q : Nat) : Int)) = ((l.length - q : Nat) : Int) := by unfold wrap64; omega
      have hmem : ∀ v, v ∈ l ↔ v ∈ l.drop q ++ l.take q := fun v => by
        rw [List.mem_append, Or.comm, ← List.mem_append, List.take_append_drop]
      have hlen2 : (l.drop q ++ l.take q).length = l.length := by rw [List.length_append, List.length_drop, List.length_take]; omega
      have hnd := ((chk_iff _ _).1 hc).2.2
      have hnd2 : ((l.drop q ++ l.take q).map (·.f0)).Nodup := by
        have hp : List.Perm ((l.drop q ++ l.take q).map (·.f0)) (l.map (·.f0)) := by
          have h1 : List.Perm (l.drop q ++ l.take q) (l.take q ++ l.drop q) := List.perm_append_comm
          rw [List.take_append_drop] at h1
          exact h1.map _
        exact hp.nodup_iff.2 hnd
      have hc2 : chkV [] (l.drop q ++ l.take q) = none := (chk_iff _ _).2 ⟨fun v hv => ((chk_iff _ _).1 hc).1 v ((hmem v).2 hv), fun v _ => rfl, hnd2⟩
      have hr2 := res_all (by rw [hlen2]; exact h256) hc2 (fix_perm (find_perm hnd hnd2 hmem) hF) (fun v hv => hd v ((hmem v).2 hv))
      have hs2 : smallV (l.drop q ++ l.take q) = true := smallV_of fun v hv => smallV_iff hs v ((hmem v).2 hv)
      have e1 : ((l.drop q ++ l.take q).map (gV V)).drop (l.length - q) = (l.map (gV V)).take q := by
        rw [List.map_append, List.drop_left' (by rw [List.length_map, List.length_drop]), List.map_take]
      have e2 : ((l.drop q ++ l.take q).map (gV V)).take (l.length - q) = (l.map (gV V)).drop q := by
        rw [List.map_append, List.take_left' (by rw [List.length_map, List.length_drop]), List.map_drop]
      have hl2 : ((l.drop q ++ l.take q).map (gV V)).length = l.length := by rw [List.length_map, hlen2]
      refine Ev.step (f := fun k => (shuttlelaw0_SameVars.f k (l.map (gV V)) (l.map (gV V))).bind fun t342 => (if t342 = true then ((shuttlelaw10_awake.f k).bind fun t343 => (some t343)) else (some false))) (fun k => by
        rw [shuttlelaw10_VarsOrder.j0, if_neg (by decide), hm, Option.bind_some, if_neg (by omega), ht, if_pos (by omega), if_pos (by omega), Int.toNat_natCast, copy_ev _ (by rw [List.length_drop]; omega), Option.bind_some, Option.bind_some, if_pos (by rw [List.length_drop, List.length_take]; omega),
          res_ev _ hs2, Option.bind_some, hr2, if_pos rfl, hw, if_pos (by omega), if_pos (by show _ ≤ (((l.drop q ++ l.take q).map (gV V)).length : Int); rw [hl2]; omega), Int.toNat_natCast]
        show (shuttlelaw0_CopyVars.f (((l.drop q ++ l.take q).map (gV V)).drop (l.length - q))).bind _ = _
        rw [copy_ev _ (by rw [List.length_drop, hl2]; omega), Option.bind_some, Option.bind_some]
        show (if (((l.drop q ++ l.take q).map (gV V)).drop (l.length - q)).length + (((l.drop q ++ l.take q).map (gV V)).take (l.length - q)).length < 4398046511104 then (shuttlelaw0_SameVars.f k ((((l.drop q ++ l.take q).map (gV V)).drop (l.length - q)) ++ (((l.drop q ++ l.take q).map (gV V)).take (l.length - q))) (l.map (gV V))).bind _ else _) = _
        rw [if_pos (by rw [List.length_drop, List.length_take, hl2]; omega), e1, e2, List.take_append_drop]) ?_
      refine Ev.bind (same_ev (l.map (gV V)) (by rw [List.length_map]; exact hl)) ?_
      exact Ev.congr (fun k => if_pos rfl) awake_some
  · exact Ev.congr (fun k => by rw [if_neg h0]) (hj _)
end
end Go.Proofs.Ytfkibolpanlelaa.Q
