/- Where values say what their texts say, working out finds them, in any order. -/
import Derived.Test.YtfkibolpanlelaaCAVTheS
namespace Go.Proofs.Ytfkibolpanlelaa.Q
open Go Go.RowKit Go.Shelf Go.Proofs.YtfkibolpanlelaaW.PrintWords Go.Proofs.YtfkibolpanlelaaW.PrintLast Go.Proofs.YtfkibolpanlelaaW.PrintMore Go.Proofs.Ytfkibolpanlelaa.SMap
set_option linter.unusedVariables false
set_option linter.unusedSimpArgs false
def Cons (V : VM) (dn : DN) (d0 : Int) : Prop := ∀ s x, getDn dn s = some x → (x.under = false → V s = some x) ∧ (x.under = true → ∃ y, V s = some y ∧ d0 ≤ y.depth)
def Grow (V : VM) (a b : DN) : Prop := Pres a b ∧ ∀ s y, getDn b s = some y → getDn a s = some y ∨ (y.under = false ∧ V s = some y)
theorem Cons.grow {V : VM} {a b : DN} {d0 : Int} (h : Cons V a d0) (g : Grow V a b) : Cons V b d0 := fun s x hx => by
  rcases g.2 s x hx with h1 | ⟨h1, h2⟩
  · exact h s x h1
  · exact ⟨fun _ => h2, fun e => by rw [h1] at e; cases e⟩
theorem Grow.refl (V : VM) (a : DN) : Grow V a a := ⟨Pres.refl a, fun _ _ h => .inl h⟩
theorem Grow.trans {V : VM} {a b c : DN} (h : Grow V a b) (k : Grow V b c) : Grow V a c := ⟨h.1.trans k.1, fun s y hy => (k.2 s y hy).elim (fun h1 => h.2 s y h1) .inr⟩
theorem Grow.ext {V : VM} {a b : DN} (h : Grow V a b) : Ext a b := fun s hs => by
  obtain ⟨y, hy⟩ := Option.isSome_iff_exists.1 hs
  rw [h.1 s y hy]
  rfl
theorem all_pieces {raw : List SV} {V : VM} {rec : DN → ByteArray → Except Er (VD × DN)} {d0 : Int} {f : Nat}
    (hrec : ∀ dn nm x, V nm = some x → x.depth < d0 → getDn dn nm = none → Cons V dn d0 → todo raw dn ≤ f → ∃ dn', rec dn nm = .ok (x, dn') ∧ Grow V dn dn' ∧ getDn dn' nm = some x) {s : ByteArray} :
    ∀ (d i : Nat) (bs : List Int) (dp : Int) (dn : DN) (t : KS), piecesP kF (kG raw V) s d i (bs, dp) = .ok t → t.2 ≤ d0 → Cons V dn d0 → todo raw dn ≤ f →
      ∃ dn', piecesP wkF (wkG rec raw) s d i (bs, dp, dn) = .ok (t.1, t.2, dn') ∧ Grow V dn dn'
  | 0, i, bs, dp, dn, t, h, _, _, _ => by
    obtain rfl := Except.ok.inj h
    exact ⟨dn, rfl, Grow.refl _ _⟩
  | d + 1, i, bs, dp, dn, t, h, ht, hC, hf => by
    rcases piecesP_split h with ⟨hi, rfl⟩ | ⟨hi, k, hu, hr⟩
    · exact ⟨dn, piecesP_end _ _ _ _ _ _ hi, Grow.refl _ _⟩
    · rcases stepP_cases s i with ⟨c, j, e⟩ | ⟨m, j, e⟩ | e
      · rw [e] at hu hr
        have hu : kF (bs, dp) c i = .ok k := hu
        obtain ⟨dn', h1, h2⟩ := all_pieces hrec d j k.1 k.2 dn t hr ht hC hf
        refine ⟨dn', ?_, h2⟩
        rw [piecesP_join (u := (k.1, k.2, dn)) hi (by rw [e, wkF_eq, hu]), e]
        exact h1
      · rw [e] at hu hr
        have hu : kG raw V (bs, dp) m i = .ok k := hu
        obtain ⟨v, x, hv, hx, hk⟩ := kG_ok hu
        have hup := pieces_up hr
        have hdx : x.depth < d0 := by
          obtain ⟨_, _, e2, _⟩ := useK_ok hk
          have e3 : k.2 = max dp (x.depth + 1) := by rw [e2]
          omega
        have huse : ∀ dn0 dn1, useD (bs, dp, dn0) x dn1 i = .ok (k.1, k.2, dn1) := fun dn0 dn1 => by rw [useD_eq, hk]
        cases hg : getDn dn m with
        | some y =>
          have hy : y = x := by
            obtain ⟨c1, c2⟩ := hC m y hg
            cases hb : y.under with
            | false =>
              have := c1 hb
              rw [hx] at this
              exact (Option.some.inj this).symm
            | true =>
              obtain ⟨z, h1, h2⟩ := c2 hb
              rw [hx] at h1
              obtain rfl := Option.some.inj h1
              omega
          subst hy
          obtain ⟨dn', h1, h2⟩ := all_pieces hrec d j k.1 k.2 dn t hr ht hC hf
          refine ⟨dn', ?_, h2⟩
          rw [piecesP_join (u := (k.1, k.2, dn)) hi (by rw [e, g_known hv hg]; exact huse dn dn), e]
          exact h1
        | none =>
          obtain ⟨dn1, a1, a2, a3⟩ := hrec dn m x hx hdx hg hC hf
          obtain ⟨dn', h1, h2⟩ := all_pieces hrec d j k.1 k.2 dn1 t hr ht (hC.grow a2) (Nat.le_trans (todo_ext a2.ext) hf)
          refine ⟨dn', ?_, a2.trans h2⟩
          have hw : wkG rec raw (bs, dp, dn) m i = .ok (k.1, k.2, dn1) := by
            unfold wkG
            rw [hv]
            show (match getDn dn m with | some x => useD (bs, dp, dn) x dn i | none => match rec dn m with | .error x => Except.error x | .ok (x, dn1) => useD (bs, dp, dn) x dn1 i) = _
            rw [hg]
            show (match rec dn m with | .error x => Except.error x | .ok (x, dn1) => useD (bs, dp, dn) x dn1 i) = _
            rw [a1]
            exact huse dn dn1
          rw [piecesP_join (u := (k.1, k.2, dn1)) hi (by rw [e]; exact hw), e]
          exact h1
      · rw [e] at hu; cases hu
theorem all_work {raw : List SV} {V : VM} (hF : Fix raw V) : ∀ (f : Nat) (dn : DN) (nm : ByteArray) (x : VD), V nm = some x → getDn dn nm = none → Cons V dn x.depth → todo raw dn ≤ f →
    ∃ dn', workP raw f dn nm = .ok (x, dn') ∧ Grow V dn dn' ∧ getDn dn' nm = some x
  | 0, dn, nm, x, hx, hg, _, hf => by
    obtain ⟨_, v, bs, hv, _, _⟩ := hF nm x hx
    obtain ⟨m, hm⟩ := todo_pos hv hg
    omega
  | f + 1, dn, nm, x, hx, hg, hC, hf => by
    obtain ⟨hu, v, bs, hv, ht, hp⟩ := hF nm x hx
    obtain ⟨hm, hn⟩ := findV_some hv
    have hC1 : Cons V (setDn dn nm zU) x.depth := fun s y hy => by
      by_cases e : s = nm
      · subst e
        rw [getDn_same] at hy
        obtain rfl := Option.some.inj hy
        exact ⟨(fun e => by cases e), fun _ => ⟨x, hx, Int.le_refl _⟩⟩
      · rw [getDn_other _ e] at hy
        exact hC s y hy
    have htodo : todo raw (setDn dn nm zU) ≤ f := by
      have := todo_set (raw := raw) (a := dn) hm (by rw [hn]; exact hg) zU
      rw [hn] at this
      omega
    obtain ⟨dn2, h1, h2⟩ := all_pieces (rec := workP raw f) (f := f) (fun dn nm y hy hd hg hC hf => all_work hF f dn nm y hy hg (fun s z hz => ⟨(hC s z hz).1, fun hzu => by
      obtain ⟨y2, a1, a2⟩ := (hC s z hz).2 hzu
      exact ⟨y2, a1, by omega⟩⟩) hf) _ _ _ _ (setDn dn nm zU) _ hp (Int.le_refl _) hC1 htodo
    have hw := work_ok hv h1
    have ex : (⟨strOfNums bs, x.depth, false⟩ : VD) = x := by
      obtain ⟨t, d, u⟩ := x
      have hu : u = false := hu
      have ht : t = strOfNums bs := ht
      rw [hu, ht]
    have hw : workP raw (f + 1) dn nm = .ok ((⟨strOfNums bs, x.depth, false⟩ : VD), setDn dn2 nm ⟨strOfNums bs, x.depth, false⟩) := hw
    rw [ex] at hw
    refine ⟨_, hw, ⟨fun s y hy => ?_, fun s y hy => ?_⟩, getDn_same ..⟩
    · have e : s ≠ nm := fun e => by subst e; rw [hg] at hy; cases hy
      rw [getDn_other _ e]
      exact h2.1 s y (by rw [getDn_other _ e]; exact hy)
    · by_cases e : s = nm
      · subst e
        rw [getDn_same] at hy
        obtain rfl := Option.some.inj hy
        exact .inr ⟨hu, hx⟩
      · rw [getDn_other _ e] at hy
        rcases h2.2 s y hy with h5 | h5
        · rw [getDn_other _ e] at h5
          exact .inl h5
        · exact .inr h5
def TopC (V : VM) (dn : DN) : Prop := ∀ s x, getDn dn s = some x → x.under = false ∧ V s = some x
theorem TopC.cons {V : VM} {dn : DN} (h : TopC V dn) (d0 : Int) : Cons V dn d0 := fun s x hx => ⟨fun _ => (h s x hx).2, fun e => by rw [(h s x hx).1] at e; cases e⟩
theorem all_solve {raw : List SV} {V : VM} (hF : Fix raw V) (l2 : List SV) : ∀ (l : List SV) (dn : DN) (out : List SV) (c : Nat), (∀ v ∈ l, (V v.f0).isSome = true) → TopC V dn →
    ∃ dn', TopC V dn' ∧ Pres dn dn' ∧ (∀ v ∈ l, getDn dn' v.f0 = V v.f0) ∧ solveP raw dn out (l ++ l2) c = solveP raw dn' (out ++ l.map (gV V)) l2 (c + l.length)
  | [], dn, out, c, _, hT => ⟨dn, hT, Pres.refl _, (fun v hv => by cases hv), by simp⟩
  | v :: l, dn, out, c, hl, hT => by
    obtain ⟨x, hx⟩ := Option.isSome_iff_exists.1 (hl v List.mem_cons_self)
    have key : ∃ dn1, oneP raw dn v.f0 = .ok (x.text, dn1) ∧ TopC V dn1 ∧ Pres dn dn1 ∧ getDn dn1 v.f0 = some x := by
      cases hg : getDn dn v.f0 with
      | some y =>
        have h2 := (hT _ y hg).2
        rw [hx] at h2
        obtain rfl := Option.some.inj h2
        exact ⟨dn, by unfold oneP; rw [hg], hT, Pres.refl _, hg⟩
      | none =>
        obtain ⟨dn1, a1, a2, a3⟩ := all_work hF (todo raw dn) dn v.f0 x hx hg (hT.cons _) (Nat.le_refl _)
        exact ⟨dn1, one_ok hg a1, fun s y hy => (a2.2 s y hy).elim (fun h => hT s y h) id, a2.1, a3⟩
    obtain ⟨dn1, k1, k2, k3, k4⟩ := key
    obtain ⟨dn', h1, h2, h3, h4⟩ := all_solve hF l2 l dn1 (out ++ [⟨v.f0, x.text⟩]) (c + 1) (fun u hu => hl u (List.mem_cons_of_mem _ hu)) k2
    refine ⟨dn', h1, k3.trans h2, fun u hu => ?_, ?_⟩
    · rcases List.mem_cons.1 hu with rfl | hu
      · rw [h2 _ _ k4, hx]
      · exact h3 u hu
    · rw [List.cons_append, solveP, k1]
      show solveP raw dn1 (out ++ [⟨v.f0, x.text⟩]) (l ++ l2) (c + 1) = _
      rw [h4, List.map_cons, List.append_assoc, List.length_cons, show c + 1 + l.length = c + (l.length + 1) by omega]
      unfold gV
      rw [hx]
      rfl
theorem res_all {raw : List SV} {V : VM} (hl : raw.length ≤ 256) (hc : chkV [] raw = none) (hF : Fix raw V) (hd : ∀ v ∈ raw, (V v.f0).isSome = true) : resolveP raw = (raw.map (gV V), 0, 0) := by
  obtain ⟨dn', _, _, _, h⟩ := all_solve hF [] raw [] [] 0 hd (fun s x hx => by cases hx)
  rw [List.append_nil, solveP, List.nil_append] at h
  unfold resolveP
  rw [if_neg (by omega), hc]
  simp only [h]
theorem find_app (s : ByteArray) (v : SV) : ∀ p : List SV, (findV (p ++ [v]) s).isSome = ((findV p s).isSome || decide (v.f0 = s))
  | [] => by
    unfold findV
    by_cases e : v.f0 = s
    · rw [List.nil_append, List.find?_cons_of_pos (by simp [e])]; simp [e]
    · rw [List.nil_append, List.find?_cons_of_neg (by simp [e])]; simp [e]
  | u :: p => by
    have ih := find_app s v p
    unfold findV at ih ⊢
    by_cases e : u.f0 = s
    · rw [List.cons_append, List.find?_cons_of_pos (by simp [e]), List.find?_cons_of_pos (by simp [e])]; rfl
    · rw [List.cons_append, List.find?_cons_of_neg (by simp [e]), List.find?_cons_of_neg (by simp [e])]
      exact ih
theorem chk_iff : ∀ (l p : List SV), chkV p l = none ↔ (∀ v ∈ l, varNameB v.f0 = true) ∧ (∀ v ∈ l, (findV p v.f0).isSome = false) ∧ (l.map (·.f0)).Nodup
  | [], p => ⟨fun _ => ⟨(fun v hv => by cases hv), (fun v hv => by cases hv), List.nodup_nil⟩, fun _ => rfl⟩
  | v :: l, p => by
    have ih := chk_iff l (p ++ [v])
    have hstep : chkV p (v :: l) = none ↔ varNameB v.f0 = true ∧ (findV p v.f0).isSome = false ∧ chkV (p ++ [v]) l = none := by
      rw [chkV]
      cases h1 : varNameB v.f0 with
      | false => simp
      | true =>
        cases h2 : (findV p v.f0).isSome with
        | true => simp
        | false => simp
    rw [hstep, ih, List.map_cons, List.nodup_cons]
    constructor
    · rintro ⟨a, b, c, d, e⟩
      refine ⟨fun u hu => ?_, fun u hu => ?_, ?_, e⟩
      · rcases List.mem_cons.1 hu with rfl | hu
        · exact a
        · exact c u hu
      · rcases List.mem_cons.1 hu with rfl | hu
        · exact b
        · have := d u hu
          rw [find_app, Bool.or_eq_false_iff] at this
          exact this.1
      · intro hm
        obtain ⟨u, hu, e2⟩ := List.mem_map.1 hm
        have := d u hu
        rw [find_app, Bool.or_eq_false_iff] at this
        exact of_decide_eq_false this.2 e2.symm
    · rintro ⟨a, b, c, d⟩
      refine ⟨a v List.mem_cons_self, b v List.mem_cons_self, fun u hu => a u (List.mem_cons_of_mem _ hu), fun u hu => ?_, d⟩
      rw [find_app, b u (List.mem_cons_of_mem _ hu), Bool.false_or]
      exact decide_eq_false fun e => c (by rw [e]; exact List.mem_map.2 ⟨u, hu, rfl⟩)
theorem find_iff {l : List SV} (h : (l.map (·.f0)).Nodup) (s : ByteArray) (v : SV) : findV l s = some v ↔ v ∈ l ∧ v.f0 = s := by
  constructor
  · exact findV_some
  · rintro ⟨hm, rfl⟩
    induction l with
    | nil => cases hm
    | cons u l ih =>
      rw [List.map_cons, List.nodup_cons] at h
      unfold findV
      by_cases e : u.f0 = v.f0
      · rw [List.find?_cons_of_pos (by simp [e])]
        rcases List.mem_cons.1 hm with rfl | hm
        · rfl
        · exact absurd (List.mem_map.2 ⟨v, hm, e.symm⟩) h.1
      · rw [List.find?_cons_of_neg (by simp [e])]
        rcases List.mem_cons.1 hm with rfl | hm
        · exact absurd rfl e
        · exact ih h.2 hm
theorem find_perm {a b : List SV} (ha : (a.map (·.f0)).Nodup) (hb : (b.map (·.f0)).Nodup) (h : ∀ v, v ∈ a ↔ v ∈ b) (s : ByteArray) : findV a s = findV b s := by
  apply Option.ext
  intro v
  rw [find_iff ha, find_iff hb, h]
theorem fix_perm {a b : List SV} {V : VM} (h : ∀ s, findV a s = findV b s) (hF : Fix a V) : Fix b V := fun s x hx => by
  obtain ⟨h1, v, bs, h2, h3, h4⟩ := hF s x hx
  have e : kG a V = kG b V := by
    funext st nm i
    unfold kG
    rw [h]
  exact ⟨h1, v, bs, by rw [← h]; exact h2, h3, by rw [← e]; exact h4⟩
theorem get_out (V : VM) (nm : ByteArray) (raw : List SV) : getV (raw.map (gV V)) nm = (findV raw nm).map fun v => ((V v.f0).getD zVD).text := by
  unfold getV findV
  rw [List.find?_map]
  have : ((fun v : SV => decide (v.f0 = nm)) ∘ gV V) = fun v : SV => decide (v.f0 = nm) := rfl
  rw [this]
  cases raw.find? fun v : SV => decide (v.f0 = nm) <;> rfl
theorem ref_of {raw : List SV} {V : VM} {st t : KS} {nm : ByteArray} {i : Nat} (h : kG raw V st nm i = .ok t) : refF (raw.map (gV V)) st.1 nm i = .ok t.1 := by
  obtain ⟨v, x, hv, hx, hu⟩ := kG_ok h
  obtain ⟨_, _, rfl, hl⟩ := useK_ok hu
  have hn := (findV_some hv).2
  unfold refF
  rw [get_out, hv, Option.map_some, hn, hx]
  show (if 4096 < (st.1 ++ bytesOf x.text).length then _ else _) = _
  rw [if_neg (by omega)]
  rfl
theorem own_exp {raw : List SV} {V : VM} {s : ByteArray} {t : KS} (h : piecesOf kF (kG raw V) s ([], 0) = .ok t) : expandP s (raw.map (gV V)) = (strOfNums t.1, 0, 0) := by
  obtain ⟨t', h1, h2⟩ := piecesP_sim (F := kF) (G := kG raw V) (F' := gathF) (G' := refF (raw.map (gV V))) (R := fun a b => a.1 = b) (fun st st' c i u r hh => by
    subst r
    unfold kF at hh
    unfold gathF
    split at hh
    · cases hh
    · rename_i hl
      obtain rfl := Except.ok.inj hh
      exact ⟨_, if_neg hl, rfl⟩) (fun st st' m i u r hh => by
    subst r
    exact ⟨_, ref_of hh, rfl⟩) _ _ ([], 0) [] t rfl h
  have h1 : piecesOf gathF (refF (raw.map (gV V))) s [] = .ok t' := h1
  unfold expandP
  rw [h1, expandOf_ok, h2]
end Go.Proofs.Ytfkibolpanlelaa.Q
