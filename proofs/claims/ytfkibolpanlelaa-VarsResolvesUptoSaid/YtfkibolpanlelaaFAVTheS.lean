/- What is worked out says what its texts say. -/
import Derived.Test.YtfkibolpanlelaaFAVThe
namespace Go.Proofs.Ytfkibolpanlelaa.Q
open Go Go.RowKit Go.Shelf Go.Proofs.YtfkibolpanlelaaW.PrintWords Go.Proofs.YtfkibolpanlelaaW.PrintLast Go.Proofs.YtfkibolpanlelaaW.PrintMore Go.Proofs.Ytfkibolpanlelaa.SMap
set_option linter.unusedVariables false
set_option linter.unusedSimpArgs false
def Inv (raw : List SV) (dn : DN) : Prop := ∀ s x, getDn dn s = some x → x.under = false → ∃ v bs, findV raw s = some v ∧ x.text = strOfNums bs ∧ ∀ V, Le (getDn dn) V → piecesOf kF (kG raw V) v.f1 ([], 0) = .ok (bs, x.depth)
def Pres (a b : DN) : Prop := ∀ s y, getDn a s = some y → getDn b s = some y
def New (a b : DN) : Prop := ∀ s y, getDn b s = some y → getDn a s = some y ∨ y.under = false
theorem wkG_ok {rec : DN → ByteArray → Except Er (VD × DN)} {raw : List SV} {bs : List Int} {dp : Int} {dn : DN} {nm : ByteArray} {i : Nat} {u : WS} (h : wkG rec raw (bs, dp, dn) nm i = .ok u) :
    ∃ v x dn1 t, findV raw nm = some v ∧ useK (bs, dp) x i = .ok t ∧ u = (t.1, t.2, dn1) ∧ ((getDn dn nm = some x ∧ dn1 = dn) ∨ (getDn dn nm = none ∧ rec dn nm = .ok (x, dn1))) := by
  have huse : ∀ (dn0 : DN) (x : VD) (dn1 : DN), useD (bs, dp, dn0) x dn1 i = .ok u → ∃ t, useK (bs, dp) x i = .ok t ∧ u = (t.1, t.2, dn1) := by
    intro dn0 x dn1 hh
    rw [useD_eq] at hh
    cases hk : useK (bs, dp) x i with
    | error y => rw [hk] at hh; cases hh
    | ok t => rw [hk] at hh; exact ⟨t, rfl, (Except.ok.inj hh).symm⟩
  unfold wkG at h
  cases hv : findV raw nm with
  | none => rw [hv] at h; cases h
  | some v =>
    rw [hv] at h
    have h : (match getDn dn nm with | some x => useD (bs, dp, dn) x dn i | none => match rec dn nm with | .error x => Except.error x | .ok (x, dn1) => useD (bs, dp, dn) x dn1 i) = .ok u := h
    cases hg : getDn dn nm with
    | some x =>
      rw [hg] at h
      obtain ⟨t, h1, h2⟩ := huse dn x dn h
      exact ⟨v, x, dn, t, rfl, h1, h2, .inl ⟨rfl, rfl⟩⟩
    | none =>
      rw [hg] at h
      have h : (match rec dn nm with | .error x => Except.error x | .ok (x, dn1) => useD (bs, dp, dn) x dn1 i) = .ok u := h
      cases hr : rec dn nm with
      | error x => rw [hr] at h; cases h
      | ok p =>
        rw [hr] at h
        obtain ⟨x, dn1⟩ := p
        obtain ⟨t, h1, h2⟩ := huse dn x dn1 h
        exact ⟨v, x, dn1, t, rfl, h1, h2, .inr ⟨rfl, rfl⟩⟩
def Sound (raw : List SV) (dn : DN) (nm : ByteArray) (x : VD) (dn' : DN) : Prop := Inv raw dn' ∧ Pres dn dn' ∧ New dn dn' ∧ getDn dn' nm = some x ∧ x.under = false
theorem Pres.refl (a : DN) : Pres a a := fun _ _ h => h
theorem New.refl (a : DN) : New a a := fun _ _ h => .inl h
theorem New.trans {a b c : DN} (h : New a b) (k : New b c) : New a c := fun s y hy => (k s y hy).elim (fun h1 => h s y h1) .inr
theorem Pres.trans {a b c : DN} (h : Pres a b) (k : Pres b c) : Pres a c := fun s y hy => k s y (h s y hy)
theorem Le.trans {a b c : VM} (h : Le a b) (k : Le b c) : Le a c := fun s y hy hu => k s y (h s y hy hu) hu
theorem sound_pieces {raw : List SV} {rec : DN → ByteArray → Except Er (VD × DN)} (hrec : ∀ dn nm x dn', (findV raw nm).isSome = true → getDn dn nm = none → rec dn nm = .ok (x, dn') → Inv raw dn → Sound raw dn nm x dn') {s : ByteArray} :
    ∀ (d i : Nat) (bs : List Int) (dp : Int) (dn : DN) (t : WS), piecesP wkF (wkG rec raw) s d i (bs, dp, dn) = .ok t → Inv raw dn →
      Inv raw t.2.2 ∧ Pres dn t.2.2 ∧ New dn t.2.2 ∧ ∀ V, Le (getDn t.2.2) V → piecesP kF (kG raw V) s d i (bs, dp) = .ok (t.1, t.2.1)
  | 0, i, bs, dp, dn, t, h, hI => by
    obtain rfl := Except.ok.inj h
    exact ⟨hI, Pres.refl _, New.refl _, fun V _ => rfl⟩
  | d + 1, i, bs, dp, dn, t, h, hI => by
    rcases piecesP_split h with ⟨hi, rfl⟩ | ⟨hi, u, hu, hr⟩
    · exact ⟨hI, Pres.refl _, New.refl _, fun V _ => piecesP_end _ _ _ _ _ _ hi⟩
    · rcases stepP_cases s i with ⟨c, j, e⟩ | ⟨m, j, e⟩ | e
      · rw [e] at hu hr
        have hu : wkF (bs, dp, dn) c i = .ok u := hu
        rw [wkF_eq] at hu
        cases hk : kF (bs, dp) c i with
        | error y => rw [hk] at hu; cases hu
        | ok k =>
          rw [hk] at hu
          obtain rfl := Except.ok.inj hu
          obtain ⟨h1, h2, h3, h4⟩ := sound_pieces hrec d j k.1 k.2 dn t hr hI
          exact ⟨h1, h2, h3, fun V hV => by
            rw [piecesP_join (u := k) hi (by rw [e]; exact hk), e]
            exact h4 V hV⟩
      · rw [e] at hu hr
        obtain ⟨v, x, dn1, k, hv, hk, rfl, hc⟩ := wkG_ok hu
        rcases hc with ⟨hg, rfl⟩ | ⟨hg, hrc⟩
        · obtain ⟨h1, h2, h3, h4⟩ := sound_pieces hrec d j k.1 k.2 dn1 t hr hI
          exact ⟨h1, h2, h3, fun V hV => by
            rw [piecesP_join (u := k) hi (by rw [e]; exact (kG_some hv (hV m x (h2 m x hg) (useK_ok hk).1)).trans hk), e]
            exact h4 V hV⟩
        · obtain ⟨a1, a2, a3, a4, a5⟩ := hrec dn m x dn1 (by rw [hv]; rfl) hg hrc hI
          obtain ⟨h1, h2, h3, h4⟩ := sound_pieces hrec d j k.1 k.2 dn1 t hr a1
          exact ⟨h1, a2.trans h2, a3.trans h3, fun V hV => by
            rw [piecesP_join (u := k) hi (by rw [e]; exact (kG_some hv (hV m x (h2 m x a4) a5)).trans hk), e]
            exact h4 V hV⟩
      · rw [e] at hu; cases hu
theorem work_sound {raw : List SV} : ∀ (f : Nat) (dn : DN) (nm : ByteArray) (x : VD) (dn' : DN), (findV raw nm).isSome = true → getDn dn nm = none → workP raw f dn nm = .ok (x, dn') → Inv raw dn → Sound raw dn nm x dn'
  | 0, dn, nm, x, dn', _, _, h, _ => by cases h
  | f + 1, dn, nm, x, dn', hv, hg, h, hI => by
    obtain ⟨v, hv⟩ := Option.isSome_iff_exists.1 hv
    have hle : Le (getDn dn) (getDn (setDn dn nm zU)) := fun s y hy _ => by
      rw [getDn_other _ (fun e => by subst e; rw [hg] at hy; cases hy)]
      exact hy
    have hI1 : Inv raw (setDn dn nm zU) := fun s y hy hu => by
      by_cases e : s = nm
      · subst e
        rw [getDn_same] at hy
        obtain rfl := Option.some.inj hy
        cases hu
      · rw [getDn_other _ e] at hy
        obtain ⟨w, bs, h1, h2, h3⟩ := hI s y hy hu
        exact ⟨w, bs, h1, h2, fun V hV => h3 V (hle.trans hV)⟩
    cases hp : piecesOf wkF (wkG (workP raw f) raw) v.f1 ([], 0, setDn dn nm zU) with
    | error y => rw [work_bad hv hp] at h; cases h
    | ok st =>
      rw [work_ok hv hp] at h
      have h := Except.ok.inj h
      obtain ⟨h1, h2, h3, h4⟩ := sound_pieces (fun dn nm x dn' => work_sound f dn nm x dn') _ _ _ _ _ st hp hI1
      have hz : getDn st.2.2 nm = some zU := h2 nm zU (getDn_same ..)
      have ex : x = ⟨strOfNums st.1, st.2.1, false⟩ := (congrArg Prod.fst h).symm
      have ed : dn' = setDn st.2.2 nm x := by rw [ex]; exact (congrArg Prod.snd h).symm
      clear h
      subst ed
      have hle2 : ∀ V, Le (getDn (setDn st.2.2 nm x)) V → Le (getDn st.2.2) V := fun V hV s y hy hu => by
        by_cases e : s = nm
        · subst e
          rw [hz] at hy
          obtain rfl := Option.some.inj hy
          cases hu
        · exact hV s y (by rw [getDn_other _ e]; exact hy) hu
      refine ⟨fun s y hy hu => ?_, fun s y hy => ?_, fun s y hy => ?_, getDn_same .., by rw [ex]⟩
      · by_cases e : s = nm
        · subst e
          rw [getDn_same] at hy
          obtain rfl := Option.some.inj hy
          refine ⟨v, st.1, hv, by rw [ex], fun V hV => ?_⟩
          rw [ex]
          exact h4 V (hle2 V hV)
        · rw [getDn_other _ e] at hy
          obtain ⟨w, bs, b1, b2, b3⟩ := h1 s y hy hu
          exact ⟨w, bs, b1, b2, fun V hV => b3 V (hle2 V hV)⟩
      · have e : s ≠ nm := fun e => by subst e; rw [hg] at hy; cases hy
        rw [getDn_other _ e]
        exact h2 s y (by rw [getDn_other _ e]; exact hy)
      · by_cases e : s = nm
        · subst e
          rw [getDn_same] at hy
          obtain rfl := Option.some.inj hy
          exact .inr (by rw [ex])
        · rw [getDn_other _ e] at hy
          rcases h3 s y hy with h5 | h5
          · rw [getDn_other _ e] at h5
            exact .inl h5
          · exact .inr h5
def gV (V : VM) (v : SV) : SV := ⟨v.f0, ((V v.f0).getD zVD).text⟩
def NoU (dn : DN) : Prop := ∀ s y, getDn dn s = some y → y.under = false
theorem oneP_ok {raw : List SV} {dn dn1 : DN} {nm t : ByteArray} (h : oneP raw dn nm = .ok (t, dn1)) : ∃ x, t = x.text ∧ ((getDn dn nm = some x ∧ dn1 = dn) ∨ (getDn dn nm = none ∧ workP raw (todo raw dn) dn nm = .ok (x, dn1))) := by
  cases hg : getDn dn nm with
  | some x =>
    have e : oneP raw dn nm = .ok (x.text, dn) := by unfold oneP; rw [hg]
    rw [e] at h
    have h := Except.ok.inj h
    exact ⟨x, (congrArg Prod.fst h).symm, .inl ⟨rfl, (congrArg Prod.snd h).symm⟩⟩
  | none =>
    cases hw : workP raw (todo raw dn) dn nm with
    | error y => rw [one_bad hg hw] at h; cases h
    | ok p =>
      obtain ⟨x, dn2⟩ := p
      rw [one_ok hg hw] at h
      have h := Except.ok.inj h
      have e : dn2 = dn1 := congrArg Prod.snd h
      subst e
      exact ⟨x, (congrArg Prod.fst h).symm, .inr ⟨rfl, rfl⟩⟩
theorem solve_sound {raw : List SV} : ∀ (l : List SV) (dn : DN) (out : List SV) (c : Nat) (r : List SV), (∀ v ∈ l, (findV raw v.f0).isSome = true) → solveP raw dn out l c = .ok r → Inv raw dn → NoU dn →
    ∃ dn', Inv raw dn' ∧ NoU dn' ∧ Pres dn dn' ∧ (∀ v ∈ l, (getDn dn' v.f0).isSome = true) ∧ r = out ++ l.map (gV (getDn dn'))
  | [], dn, out, c, r, _, h, hI, hN => by
    rw [solveP] at h
    obtain rfl := Except.ok.inj h
    exact ⟨dn, hI, hN, Pres.refl _, (fun v hv => by cases hv), by simp⟩
  | v :: l, dn, out, c, r, hl, h, hI, hN => by
    rw [solveP] at h
    cases ho : oneP raw dn v.f0 with
    | error y => rw [ho] at h; cases h
    | ok p =>
      obtain ⟨t, dn1⟩ := p
      rw [ho] at h
      obtain ⟨x, rfl, hc⟩ := oneP_ok ho
      have key : Inv raw dn1 ∧ NoU dn1 ∧ Pres dn dn1 ∧ getDn dn1 v.f0 = some x := by
        rcases hc with ⟨hg, rfl⟩ | ⟨hg, hw⟩
        · exact ⟨hI, hN, Pres.refl _, hg⟩
        · obtain ⟨a1, a2, a3, a4, a5⟩ := work_sound _ _ _ _ _ (hl v List.mem_cons_self) hg hw hI
          exact ⟨a1, fun s y hy => (a3 s y hy).elim (fun h => hN s y h) id, a2, a4⟩
      obtain ⟨k1, k2, k3, k4⟩ := key
      obtain ⟨dn', h1, h2, h3, h4, rfl⟩ := solve_sound l dn1 _ _ r (fun u hu => hl u (List.mem_cons_of_mem _ hu)) h k1 k2
      have hx := h3 _ _ k4
      refine ⟨dn', h1, h2, k3.trans h3, fun u hu => ?_, ?_⟩
      · rcases List.mem_cons.1 hu with rfl | hu
        · rw [hx]; rfl
        · exact h4 u hu
      · rw [List.map_cons, List.append_assoc]
        unfold gV
        rw [hx]
        rfl
theorem chk_ne : ∀ (l p : List SV) (x : Nat × Int), chkV p l = some x → x.2 ≠ 0 ∧ x.1 ≤ p.length + l.length
  | [], _, x, h => by cases h
  | v :: l, p, x, h => by
    unfold chkV at h
    split at h
    · obtain rfl := Option.some.inj h
      exact ⟨by show (101 : Int) ≠ 0; decide, by show p.length ≤ _; omega⟩
    · split at h
      · obtain rfl := Option.some.inj h
        exact ⟨by show (100 : Int) ≠ 0; decide, by show p.length ≤ _; omega⟩
      · have := chk_ne l (p ++ [v]) x h
        refine ⟨this.1, ?_⟩
        have := this.2
        rw [List.length_append] at this
        simp only [List.length_cons, List.length_nil] at this ⊢
        omega
theorem oneP_ne {raw : List SV} {dn : DN} {nm : ByteArray} {y : Int} (h : oneP raw dn nm = .error y) : y ≠ 0 := by
  cases hg : getDn dn nm with
  | some x =>
    have e : oneP raw dn nm = .ok (x.text, dn) := by unfold oneP; rw [hg]
    rw [e] at h
    cases h
  | none =>
    cases hw : workP raw (todo raw dn) dn nm with
    | error z =>
      rw [one_bad hg hw] at h
      injection h with h
      rw [← h]
      exact workP_ne raw _ _ _ _ hw
    | ok p =>
      rw [one_ok hg hw] at h
      cases h
theorem solve_ne {raw : List SV} : ∀ (l : List SV) (dn : DN) (out : List SV) (c : Nat) (x : Nat × Int), solveP raw dn out l c = .error x → x.2 ≠ 0 ∧ x.1 ≤ c + l.length
  | [], dn, out, c, x, h => by rw [solveP] at h; cases h
  | v :: l, dn, out, c, x, h => by
    rw [solveP] at h
    cases ho : oneP raw dn v.f0 with
    | error y =>
      rw [ho] at h
      have h : Except.error (c, y) = (Except.error x : Except (Nat × Int) (List SV)) := h
      injection h with h
      subst h
      exact ⟨oneP_ne ho, by show c ≤ _; omega⟩
    | ok p =>
      rw [ho] at h
      have := solve_ne l p.2 _ (c + 1) x h
      refine ⟨this.1, ?_⟩
      rw [List.length_cons]
      omega
theorem res_cases (raw : List SV) : ((resolveP raw).2.2 ≠ 0 ∧ (resolveP raw).1 = [] ∧ 0 ≤ (resolveP raw).2.1 ∧ (resolveP raw).2.1 ≤ (raw.length : Int)) ∨
    (raw.length ≤ 256 ∧ chkV [] raw = none ∧ ∃ out, solveP raw [] [] raw 0 = .ok out ∧ resolveP raw = (out, 0, 0)) := by
  unfold resolveP
  split
  · exact .inl ⟨by decide, rfl, by decide, by show (256 : Int) ≤ _; omega⟩
  · rename_i hl
    cases hc : chkV [] raw with
    | some x =>
      have := chk_ne _ _ _ hc
      have h2 := this.2
      simp only [List.length_nil] at h2
      exact .inl ⟨this.1, rfl, by show (0 : Int) ≤ (x.1 : Int); omega, by show (x.1 : Int) ≤ _; omega⟩
    | none =>
      cases hs : solveP raw [] [] raw 0 with
      | error x =>
        have := solve_ne _ _ _ _ _ hs
        have h2 := this.2
        refine .inl ⟨?_, ?_⟩
        · simp only [hs]; exact this.1
        · simp only [hs]
          exact ⟨trivial, by show (0 : Int) ≤ (x.1 : Int); omega, by show (x.1 : Int) ≤ _; omega⟩
      | ok out => exact .inr ⟨by omega, rfl, out, rfl, by simp only [hs]⟩
theorem find_self {v : SV} : ∀ {l : List SV}, v ∈ l → (findV l v.f0).isSome = true
  | u :: l, h => by
    unfold findV
    by_cases e : u.f0 = v.f0
    · rw [List.find?_cons_of_pos (by simp [e])]; rfl
    · rw [List.find?_cons_of_neg (by simp [e])]
      rcases List.mem_cons.1 h with rfl | h
      · exact absurd rfl e
      · exact find_self h
theorem res_sound {raw : List SV} (h : (resolveP raw).2.2 = 0) : raw.length ≤ 256 ∧ chkV [] raw = none ∧ ∃ V : VM, Fix raw V ∧ (∀ v ∈ raw, (V v.f0).isSome = true) ∧ resolveP raw = (raw.map (gV V), 0, 0) := by
  rcases res_cases raw with ⟨h1, _⟩ | ⟨hl, hc, out, hs, hr⟩
  · exact absurd h h1
  · obtain ⟨dn, h1, h2, h3, h4, rfl⟩ := solve_sound raw [] [] 0 out (fun v hv => find_self hv) hs (fun s x hx => by cases hx) (fun s x hx => by cases hx)
    refine ⟨hl, hc, getDn dn, fun s x hx => ⟨h2 s x hx, ?_⟩, h4, by rw [hr, List.nil_append]⟩
    obtain ⟨v, bs, a1, a2, a3⟩ := h1 s x hx (h2 s x hx)
    exact ⟨v, bs, a1, a2, a3 _ (fun s y hy _ => hy)⟩
end Go.Proofs.Ytfkibolpanlelaa.Q
