/- Statement VarsExtra, with no program in sight: a text as one more variable is worked out to what the text expands to. -/
import Derived.Test.YtfkibolpanlelaaCAPureVarsFour
namespace Go.Proofs.Ytfkibolpanlelaa.Q
open Go Go.RowKit Go.Shelf Go.Proofs.YtfkibolpanlelaaW.PrintWords Go.Proofs.YtfkibolpanlelaaW.PrintLast Go.Proofs.YtfkibolpanlelaaW.PrintMore Go.Proofs.Ytfkibolpanlelaa.SMap
set_option linter.unusedVariables false
set_option linter.unusedSimpArgs false
def exN : ByteArray := ⟨#[69, 120, 116, 114, 97, 95, 49]⟩
theorem exN_ok : varNameB exN = true := by kernel_rfl
theorem find_left {l m : List SV} {s : ByteArray} {v : SV} (h : findV l s = some v) : findV (l ++ m) s = some v := by
  unfold findV at h ⊢
  rw [List.find?_append, h]
  rfl
theorem gath_ok {bs t : List Int} {c : Int} {i : Nat} (h : gathF bs c i = .ok t) : t = bs ++ [c] ∧ ¬ 4096 < (bs ++ [c]).length := by
  unfold gathF at h
  split at h
  · cases h
  · rename_i hl
    exact ⟨(Except.ok.inj h).symm, hl⟩
theorem ref_ok {vs : List SV} {bs t : List Int} {nm : ByteArray} {i : Nat} (h : refF vs bs nm i = .ok t) : ∃ val, getV vs nm = some val ∧ t = bs ++ bytesOf val ∧ ¬ 4096 < (bs ++ bytesOf val).length := by
  unfold refF at h
  cases hg : getV vs nm with
  | none => rw [hg] at h; cases h
  | some val =>
    rw [hg] at h
    have h : (if 4096 < (bs ++ bytesOf val).length then Except.error ((104 : Int), (i : Int)) else .ok (bs ++ bytesOf val)) = .ok t := h
    split at h
    · cases h
    · rename_i hl
      exact ⟨val, rfl, (Except.ok.inj h).symm, hl⟩
theorem exp_ne {vs : List SV} {s : ByteArray} {x : Er} (h : piecesOf gathF (refF vs) s [] = .error x) : x.1 ≠ 0 :=
  piecesP_ne (F := gathF) (G := refF vs) (fun st c i y hy => by
    unfold gathF at hy
    split at hy
    · injection hy with hy
      subst hy
      show (104 : Int) ≠ 0
      decide
    · cases hy) (fun st m i y hy => by
    unfold refF at hy
    cases hg : getV vs m with
    | none =>
      rw [hg] at hy
      have hy : Except.error ((102 : Int), (i : Int)) = (Except.error y : Except Er (List Int)) := hy
      injection hy with hy
      subst hy
      show (102 : Int) ≠ 0
      decide
    | some val =>
      rw [hg] at hy
      have hy : (if 4096 < (st ++ bytesOf val).length then Except.error ((104 : Int), (i : Int)) else .ok (st ++ bytesOf val)) = .error y := hy
      split at hy
      · injection hy with hy
        subst hy
        show (104 : Int) ≠ 0
        decide
      · cases hy) _ _ _ _ h
section
variable {l : List SV} {V : VM} (hF : Fix l V) (hd : ∀ v ∈ l, (V v.f0).isSome = true) (hc : chkV [] l = none) (h256 : l.length < 256) (hE : findV l exN = none) (text : ByteArray)
include hF hd hc h256 hE
theorem extra_cases : (∃ s, expandP text (l.map (gV V)) = (s, 0, 0) ∧ resolveP (l ++ [(⟨exN, text⟩ : SV)]) = (l.map (gV V) ++ [⟨exN, s⟩], 0, 0)) ∨
    (∃ s, expandP text (l.map (gV V)) = (s, 0, 0) ∧ resolveP (l ++ [(⟨exN, text⟩ : SV)]) = ([], (l.length : Int), 103)) ∨
    ((expandP text (l.map (gV V))).2.2 ≠ 0 ∧ (resolveP (l ++ [(⟨exN, text⟩ : SV)])).2.2 ≠ 0 ∧ (resolveP (l ++ [(⟨exN, text⟩ : SV)])).2.1 = (l.length : Int)) := by
  have hck := (chk_iff _ _).1 hc
  have hfE : ∀ v ∈ l, v.f0 ≠ exN := fun v hv e => by
    have := find_self hv
    rw [e, hE] at this
    cases this
  have hnd : ((l ++ [(⟨exN, text⟩ : SV)]).map (·.f0)).Nodup := by
    rw [List.map_append, List.nodup_append]
    refine ⟨hck.2.2, by simp, fun a ha b hb => ?_⟩
    obtain ⟨v, hv, rfl⟩ := List.mem_map.1 ha
    simp only [List.map_cons, List.map_nil, List.mem_singleton] at hb
    subst hb
    exact hfE v hv
  have hc2 : chkV [] (l ++ [(⟨exN, text⟩ : SV)]) = none := (chk_iff _ _).2 ⟨fun v hv => by
    rcases List.mem_append.1 hv with hv | hv
    · exact hck.1 v hv
    · rw [List.mem_singleton.1 hv]; exact exN_ok, fun v _ => rfl, hnd⟩
  have hF2 : Fix (l ++ [(⟨exN, text⟩ : SV)]) V := fun s x hx => by
    obtain ⟨h1, v, bs, h2, h3, h4⟩ := hF s x hx
    refine ⟨h1, v, bs, find_left h2, h3, ?_⟩
    obtain ⟨t', h5, rfl⟩ := piecesP_sim (F := kF) (G := kG l V) (F' := kF) (G' := kG (l ++ [(⟨exN, text⟩ : SV)]) V) (R := Eq) (fun st st' c i t r hh => ⟨t, by rw [← r]; exact hh, rfl⟩) (fun st st' m i t r hh => ⟨t, by
      obtain ⟨v, x, hv, hx, hu⟩ := kG_ok hh
      rw [← r, kG_some (find_left hv) hx]
      exact hu, rfl⟩) _ _ _ _ _ rfl h4
    exact h5
  obtain ⟨dn, hT, _, hall, hsol⟩ := all_solve hF2 [⟨exN, text⟩] l [] [] 0 hd (fun s x hx => by cases hx)
  rw [List.nil_append, Nat.zero_add, solveP] at hsol
  have hgE : getDn dn exN = none := by
    cases hg : getDn dn exN with
    | none => rfl
    | some x =>
      obtain ⟨_, v, bs, hv, _, _⟩ := hF exN x (hT exN x hg).2
      rw [hE] at hv
      cases hv
  have hfl : findV (l ++ [(⟨exN, text⟩ : SV)]) exN = some ⟨exN, text⟩ := (find_iff hnd _ _).2 ⟨List.mem_append_right _ (List.mem_singleton.2 rfl), rfl⟩
  obtain ⟨f, hf⟩ := todo_pos hfl hgE
  -- what is known while the last is worked out
  have hlast : ∀ nm v, findV (l ++ [(⟨exN, text⟩ : SV)]) nm = some v → (nm = exN ∧ getDn (setDn dn exN zU) nm = some zU) ∨ (findV l nm = some v ∧ ∃ x, V nm = some x ∧ x.under = false ∧ getDn (setDn dn exN zU) nm = some x) := fun nm v hv => by
    obtain ⟨hm, rfl⟩ := findV_some hv
    rcases List.mem_append.1 hm with hm | hm
    · obtain ⟨x, hx⟩ := Option.isSome_iff_exists.1 (hd v hm)
      refine .inr ⟨(find_iff hck.2.2 _ _).2 ⟨hm, rfl⟩, x, hx, (hF _ x hx).1, ?_⟩
      rw [getDn_other _ (hfE v hm), hall v hm, hx]
    · rw [List.mem_singleton.1 hm]
      exact .inl ⟨rfl, getDn_same ..⟩
  have hlen : ¬ 256 < (l ++ [(⟨exN, text⟩ : SV)]).length := by rw [List.length_append]; simp only [List.length_cons, List.length_nil]; omega
  have hres : ∀ r, solveP (l ++ [(⟨exN, text⟩ : SV)]) [] [] (l ++ [(⟨exN, text⟩ : SV)]) 0 = r → resolveP (l ++ [(⟨exN, text⟩ : SV)]) = match r with | .error x => ([], (x.1 : Int), x.2) | .ok out => (out, 0, 0) := fun r hr => by
    unfold resolveP
    rw [if_neg hlen, hc2]
    simp only [hr]
    cases r <;> rfl
  cases hp : piecesOf wkF (wkG (workP (l ++ [(⟨exN, text⟩ : SV)]) f) (l ++ [(⟨exN, text⟩ : SV)])) text ([], 0, setDn dn exN zU) with
  | ok st =>
    have ho := one_ok hgE (by rw [hf]; exact work_ok hfl hp)
    have hsol' : solveP (l ++ [(⟨exN, text⟩ : SV)]) [] [] (l ++ [(⟨exN, text⟩ : SV)]) 0 = .ok (l.map (gV V) ++ [⟨exN, strOfNums st.1⟩]) := by
      rw [hsol, ho]
      show solveP _ _ _ [] _ = _
      rw [solveP]
    have hr := hres _ hsol'
    refine .inl ⟨strOfNums st.1, ?_, ?_⟩
    · obtain ⟨t', h1, h2, _⟩ := piecesP_sim (F := wkF) (G := wkG (workP (l ++ [(⟨exN, text⟩ : SV)]) f) (l ++ [(⟨exN, text⟩ : SV)])) (F' := gathF) (G' := refF (l.map (gV V))) (R := fun (a : WS) (b : List Int) => a.1 = b ∧ a.2.2 = setDn dn exN zU) (fun a b c i t r hh => by
        obtain ⟨bs, dp, dn0⟩ := a
        obtain ⟨rfl, rfl⟩ := r
        rw [wkF_eq] at hh
        cases hk : kF (bs, dp) c i with
        | error y => rw [hk] at hh; cases hh
        | ok k =>
          rw [hk] at hh
          obtain rfl := Except.ok.inj hh
          unfold kF at hk
          split at hk
          · cases hk
          · rename_i hl
            obtain rfl := Except.ok.inj hk
            exact ⟨_, if_neg hl, rfl, rfl⟩) (fun a b m i t r hh => by
        obtain ⟨bs, dp, dn0⟩ := a
        obtain ⟨rfl, hdn⟩ := r
        have hdn : dn0 = setDn dn exN zU := hdn
        subst hdn
        obtain ⟨v, x, dn1, k, hv, hk, rfl, hcs⟩ := wkG_ok hh
        obtain ⟨hu, _, rfl, hl⟩ := useK_ok hk
        rcases hlast m v hv with ⟨rfl, hz⟩ | ⟨hv2, y, hy, hyu, hz⟩
        · rcases hcs with ⟨hg, _⟩ | ⟨hg, _⟩
          · rw [hz] at hg
            obtain rfl := Option.some.inj hg
            cases hu
          · rw [hz] at hg; cases hg
        · rcases hcs with ⟨hg, rfl⟩ | ⟨hg, _⟩
          · rw [hz] at hg
            obtain rfl := Option.some.inj hg
            have hl : (bs ++ bytesOf y.text).length ≤ 4096 := hl
            refine ⟨_, ?_, rfl, rfl⟩
            unfold refF
            rw [get_out, hv2, Option.map_some, (findV_some hv2).2, hy]
            show (if 4096 < (bs ++ bytesOf y.text).length then _ else _) = _
            rw [if_neg (by omega)]
            rfl
          · rw [hz] at hg; cases hg) _ _ ([], 0, setDn dn exN zU) [] st ⟨rfl, rfl⟩ hp
      have h1 : piecesOf gathF (refF (l.map (gV V))) text [] = .ok t' := h1
      unfold expandP
      rw [h1, expandOf_ok, h2]
    · rw [hr]
  | error y =>
    have ho := one_bad hgE (by rw [hf]; exact work_bad hfl hp)
    have hy : y.1 ≠ 0 := workP_ne _ _ _ _ _ (work_bad hfl hp)
    rw [ho] at hsol
    have hr := hres _ hsol
    cases he : piecesOf gathF (refF (l.map (gV V))) text [] with
    | error x =>
      refine .inr (.inr ⟨?_, ?_, ?_⟩)
      · unfold expandP
        rw [he, expandOf_bad]
        exact exp_ne he
      · rw [hr]; exact hy
      · rw [hr]
    | ok t =>
      refine .inr (.inl ⟨strOfNums t, ?_, ?_⟩)
      · unfold expandP
        rw [he, expandOf_ok]
      · have h3 := piecesP_sim2 (C := 103) (F := gathF) (G := refF (l.map (gV V))) (F' := wkF) (G' := wkG (workP (l ++ [(⟨exN, text⟩ : SV)]) f) (l ++ [(⟨exN, text⟩ : SV)])) (R := fun (b : List Int) (a : WS) => a.1 = b ∧ a.2.2 = setDn dn exN zU) (fun b a c i t r hh => by
          obtain ⟨bs, dp, dn0⟩ := a
          obtain ⟨rfl, rfl⟩ := r
          obtain ⟨rfl, hl⟩ := gath_ok hh
          exact ⟨(bs ++ [c], dp, _), if_neg hl, rfl, rfl⟩) (fun b a m i t r hh => by
          obtain ⟨bs, dp, dn0⟩ := a
          obtain ⟨rfl, hdn⟩ := r
          have hdn : dn0 = setDn dn exN zU := hdn
          subst hdn
          obtain ⟨val, hg, rfl, hl⟩ := ref_ok hh
          rw [get_out] at hg
          obtain ⟨v, hv, rfl⟩ := Option.map_eq_some_iff.1 hg
          rcases hlast m v (find_left hv) with ⟨rfl, _⟩ | ⟨_, x, hx, hxu, hz⟩
          · rw [hE] at hv; cases hv
          · rw [g_known (find_left hv) hz, useD_eq]
            rw [(findV_some hv).2, hx] at hl ⊢
            have hl : ¬ 4096 < (bs ++ bytesOf x.text).length := hl
            unfold useK
            by_cases hdp : x.depth = 16
            · rw [if_pos (.inr hdp)]
              exact .inr ⟨_, rfl, rfl⟩
            · rw [if_neg (fun h => h.elim (fun e => by rw [hxu] at e; cases e) hdp), if_neg hl]
              exact .inl ⟨_, rfl, rfl, rfl⟩) _ _ [] ([], 0, setDn dn exN zU) t ⟨rfl, rfl⟩ he
        rcases h3 with ⟨t', h4, _⟩ | ⟨x, h4, h5⟩
        · have h4 : piecesOf wkF (wkG (workP (l ++ [(⟨exN, text⟩ : SV)]) f) (l ++ [(⟨exN, text⟩ : SV)])) text ([], 0, setDn dn exN zU) = .ok t' := h4
          rw [hp] at h4
          cases h4
        · have h4 : piecesOf wkF (wkG (workP (l ++ [(⟨exN, text⟩ : SV)]) f) (l ++ [(⟨exN, text⟩ : SV)])) text ([], 0, setDn dn exN zU) = .error x := h4
          rw [hp] at h4
          injection h4 with h4
          rw [hr]
          show ([], (l.length : Int), y.1) = _
          rw [h4, h5]
end
theorem extra_ev (l : List SV) (hs : smallV l = true) (hl : l.length ≤ 1048576) (text : ByteArray) (ht : text.size ≤ 1048576) : Ev (fun k => shuttlelaw10_VarsExtra.f k l text) true := by
  have hj : ∀ x : List SV, Ev (fun k => shuttlelaw10_VarsExtra.j0 k l text x true) true := fun x => Ev.step (fun k => by rw [shuttlelaw10_VarsExtra.j0, if_pos rfl]) awake_some
  unfold shuttlelaw10_VarsExtra.f
  refine Ev.congr (fun k => by rw [copy_ev l (by omega), Option.bind_some, res_ev l hs, Option.bind_some]) ?_
  by_cases h0 : (resolveP l).2.2 = 0
  · refine Ev.congr (fun k => by rw [if_pos h0]) ?_
    by_cases h256 : 256 ≤ l.length
    · rw [show decide ((l.length : Int) ≥ 256) = true from decide_eq_true (by omega)]
      exact hj _
    · rw [show decide ((l.length : Int) ≥ 256) = false from decide_eq_false (by omega)]
      obtain ⟨_, hc, V, hF, hd, hr⟩ := res_sound h0
      rw [hr]
      refine Ev.step (fun k => by rw [shuttlelaw10_VarsExtra.j0, if_neg (by decide)]) ?_
      refine Ev.bind (getv_ev l exN hl) ?_
      have hg : getV l exN = (findV l exN).map (·.f1) := rfl
      unfold getR
      cases hE : findV l exN with
      | some v =>
        rw [hg, hE]
        exact Ev.congr (fun k => if_pos rfl) awake_some
      | none =>
        rw [hg, hE]
        have hout : smallV (l.map (gV V)) = true := small_4096 (smallV_out hF hd)
        have hs2 : smallV (l ++ [(⟨exN, text⟩ : SV)]) = true := smallV_of fun v hv => by
          rcases List.mem_append.1 hv with hv | hv
          · exact smallV_iff hs v hv
          · rw [List.mem_singleton.1 hv]; show text.size ≤ _; omega
        have hlo : (l.map (gV V)).length = l.length := List.length_map ..
        have hx := extra_cases hF hd hc (by omega) hE text
        have hE2 := exp_ev text (l.map (gV V)) (by omega) hout
        have hR2 := res_ev (l ++ [(⟨exN, text⟩ : SV)]) hs2
        refine Ev.congr (fun k => by
          rw [if_neg (by decide), copy_ev _ (by show (l.map (gV V)).length < _; omega), Option.bind_some, hE2, Option.bind_some, copy_ev l (by omega), Option.bind_some, if_pos (by omega)]) ?_
        refine Ev.congr (fun k => congrArg (fun x => Option.bind x _) hR2) ?_
        refine Ev.congr (fun k => by rw [Option.bind_some]) ?_
        rcases hx with ⟨s, h1, h2⟩ | ⟨s, h1, h2⟩ | ⟨h1, h2, h3⟩
        · rw [h1, h2]
          have hlen : ((l.map (gV V) ++ [(⟨exN, s⟩ : SV)]).length : Int) = wrap64 ((l.length : Int) + 1) := by rw [List.length_append, hlo, wrap_up (by omega)]; rfl
          have hat : (rd_T41 (l.map (gV V) ++ [(⟨exN, s⟩ : SV)]) (l.length : Int)).f1 = s := by
            rw [rd_var _ _ (by rw [List.length_append, hlo]; simp)]
            simp
          refine Ev.congr (fun k => if_pos rfl) ?_
          refine Ev.congr (fun k => if_neg (by show ¬ (0 : Int) = 103; decide)) ?_
          refine Ev.congr (fun k => if_pos rfl) ?_
          refine Ev.congr (fun k => if_pos hlen) ?_
          refine Ev.congr (fun k => if_pos (by omega)) ?_
          refine Ev.congr (fun k => if_pos (by show _ < ((l.map (gV V) ++ [(⟨exN, s⟩ : SV)]).length : Int); rw [List.length_append, hlo]; simp; omega)) ?_
          exact Ev.congr (fun k => if_pos (by show (rd_T41 (l.map (gV V) ++ [(⟨exN, s⟩ : SV)]) (l.length : Int)).f1.toList = s.toList; rw [hat])) awake_some
        · rw [h1, h2]
          exact Ev.congr (fun k => if_pos rfl) (Ev.congr (fun k => if_pos rfl) (Ev.congr (fun k => if_pos rfl) awake_some))
        · exact Ev.congr (fun k => by rw [if_neg h1, if_neg h2, if_pos h3]) awake_some
  · exact Ev.congr (fun k => by rw [if_neg h0]) (hj _)
end Go.Proofs.Ytfkibolpanlelaa.Q
