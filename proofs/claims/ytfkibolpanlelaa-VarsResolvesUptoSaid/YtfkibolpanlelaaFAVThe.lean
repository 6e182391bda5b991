/- What working variables out means: values that say what their texts say, told without an order. -/
import Derived.Test.YtfkibolpanlelaaFAVPure
namespace Go.Proofs.Ytfkibolpanlelaa.Q
open Go Go.RowKit Go.Shelf Go.Proofs.YtfkibolpanlelaaW.PrintWords Go.Proofs.YtfkibolpanlelaaW.PrintLast Go.Proofs.YtfkibolpanlelaaW.PrintMore Go.Proofs.Ytfkibolpanlelaa.SMap
set_option linter.unusedVariables false
set_option linter.unusedSimpArgs false
theorem stepP_cases (s : ByteArray) (i : Nat) : (∃ (c : Int) (j : Nat), ∀ (σ : Type) (F : σ → Int → Nat → Except Er σ) (G : σ → ByteArray → Nat → Except Er σ) (st : σ), stepP F G s i st = (F st c i, j)) ∨
    (∃ (nm : ByteArray) (j : Nat), ∀ (σ : Type) (F : σ → Int → Nat → Except Er σ) (G : σ → ByteArray → Nat → Except Er σ) (st : σ), stepP F G s i st = (G st nm i, j)) ∨
    (∀ (σ : Type) (F : σ → Int → Nat → Except Er σ) (G : σ → ByteArray → Nat → Except Er σ) (st : σ), stepP F G s i st = (.error (101, (i : Int)), 0)) := by
  by_cases h1 : bt s (i : Int) ≠ 36
  · exact .inl ⟨_, _, fun σ F G st => by unfold stepP; rw [if_pos h1]⟩
  by_cases h2 : prefAt s i [36, 36] = true
  · exact .inl ⟨_, _, fun σ F G st => by unfold stepP; rw [if_neg h1, if_pos h2]⟩
  by_cases h3 : refOk s i = true
  · exact .inr (.inl ⟨_, _, fun σ F G st => by unfold stepP; rw [if_neg h1, if_neg h2, if_pos h3]⟩)
  · exact .inr (.inr fun σ F G st => by unfold stepP; rw [if_neg h1, if_neg h2, if_neg h3])
theorem piecesP_split {σ : Type} {F : σ → Int → Nat → Except Er σ} {G : σ → ByteArray → Nat → Except Er σ} {s : ByteArray} {d i : Nat} {st t : σ} (h : piecesP F G s (d + 1) i st = .ok t) :
    (s.size ≤ i ∧ t = st) ∨ (i < s.size ∧ ∃ u, (stepP F G s i st).1 = .ok u ∧ piecesP F G s d (stepP F G s i st).2 u = .ok t) := by
  unfold piecesP at h
  split at h
  · rename_i hi
    exact .inl ⟨hi, (Except.ok.inj h).symm⟩
  · rename_i hi
    refine .inr ⟨by omega, ?_⟩
    cases hs : (stepP F G s i st).1 with
    | ok u => rw [hs] at h; exact ⟨u, rfl, h⟩
    | error x => rw [hs] at h; cases h
theorem piecesP_join {σ : Type} {F : σ → Int → Nat → Except Er σ} {G : σ → ByteArray → Nat → Except Er σ} {s : ByteArray} {d i : Nat} {st u : σ} (hi : i < s.size) (h : (stepP F G s i st).1 = .ok u) : piecesP F G s (d + 1) i st = piecesP F G s d (stepP F G s i st).2 u := by
  rw [piecesP, if_neg (by omega), h]
theorem piecesP_inv {σ : Type} {F : σ → Int → Nat → Except Er σ} {G : σ → ByteArray → Nat → Except Er σ} {s : ByteArray} {P : σ → Prop} (hF : ∀ st c i t, P st → F st c i = .ok t → P t) (hG : ∀ st m i t, P st → G st m i = .ok t → P t) :
    ∀ d i st t, P st → piecesP F G s d i st = .ok t → P t
  | 0, i, st, t, hp, h => by
    obtain rfl : st = t := Except.ok.inj h
    exact hp
  | d + 1, i, st, t, hp, h => by
    rcases piecesP_split h with ⟨_, rfl⟩ | ⟨_, u, hu, hr⟩
    · exact hp
    · refine piecesP_inv hF hG d _ u t ?_ hr
      rcases stepP_cases s i with ⟨c, j, e⟩ | ⟨m, j, e⟩ | e
      · rw [e σ F G st] at hu; exact hF _ _ _ _ hp hu
      · rw [e σ F G st] at hu; exact hG _ _ _ _ hp hu
      · rw [e σ F G st] at hu; cases hu
abbrev KS := List Int × Int
abbrev VM := ByteArray → Option VD
def useK (st : KS) (x : VD) (i : Nat) : Except Er KS :=
  if x.under = true ∨ x.depth = 16 then .error (103, (i : Int))
  else if 4096 < (st.1 ++ bytesOf x.text).length then .error (104, (i : Int)) else .ok (st.1 ++ bytesOf x.text, max st.2 (x.depth + 1))
def kF (st : KS) (c : Int) (i : Nat) : Except Er KS := if 4096 < (st.1 ++ [c]).length then .error (104, (i : Int)) else .ok (st.1 ++ [c], st.2)
def kG (raw : List SV) (V : VM) (st : KS) (nm : ByteArray) (i : Nat) : Except Er KS := match findV raw nm with
  | none => .error (102, (i : Int))
  | some _ => match V nm with
    | none => .error (102, (i : Int))
    | some x => useK st x i
theorem wkF_eq (bs : List Int) (d : Int) (dn : DN) (c : Int) (i : Nat) : wkF (bs, d, dn) c i = match kF (bs, d) c i with | .ok t => .ok (t.1, t.2, dn) | .error x => .error x := by
  unfold wkF kF
  show (if 4096 < (bs ++ [c]).length then _ else _) = _
  split <;> rfl
theorem useD_eq (bs : List Int) (d : Int) (dn0 : DN) (x : VD) (dn : DN) (i : Nat) : useD (bs, d, dn0) x dn i = match useK (bs, d) x i with | .ok t => .ok (t.1, t.2, dn) | .error x => .error x := by
  unfold useD useK
  show (if x.under = true ∨ x.depth = 16 then _ else if 4096 < (bs ++ bytesOf x.text).length then _ else _) = _
  split
  · rfl
  · split <;> rfl
theorem useK_ok {st t : KS} {x : VD} {i : Nat} (h : useK st x i = .ok t) : x.under = false ∧ x.depth ≠ 16 ∧ t = (st.1 ++ bytesOf x.text, max st.2 (x.depth + 1)) ∧ (st.1 ++ bytesOf x.text).length ≤ 4096 := by
  unfold useK at h
  split at h
  · cases h
  · rename_i h1
    split at h
    · cases h
    · rename_i h2
      refine ⟨?_, fun e => h1 (.inr e), (Except.ok.inj h).symm, by omega⟩
      cases hu : x.under
      · rfl
      · exact absurd (.inl hu) h1
theorem kG_ok {raw : List SV} {V : VM} {st t : KS} {nm : ByteArray} {i : Nat} (h : kG raw V st nm i = .ok t) : ∃ v x, findV raw nm = some v ∧ V nm = some x ∧ useK st x i = .ok t := by
  unfold kG at h
  cases hv : findV raw nm with
  | none => rw [hv] at h; cases h
  | some v =>
    rw [hv] at h
    cases hx : V nm with
    | none =>
      have h : (match V nm with | none => Except.error (102, (i : Int)) | some x => useK st x i) = .ok t := h
      rw [hx] at h
      cases h
    | some x =>
      have h : (match V nm with | none => Except.error (102, (i : Int)) | some x => useK st x i) = .ok t := h
      rw [hx] at h
      exact ⟨v, x, rfl, rfl, h⟩
theorem kG_some {raw : List SV} {V : VM} {st : KS} {nm : ByteArray} {i : Nat} {v : SV} {x : VD} (hv : findV raw nm = some v) (hx : V nm = some x) : kG raw V st nm i = useK st x i := by
  unfold kG
  rw [hv]
  show (match V nm with | none => Except.error (102, (i : Int)) | some x => useK st x i) = _
  rw [hx]
/-- Each value is what its variable's text says, with the values of what it names. -/
def Fix (raw : List SV) (V : VM) : Prop := ∀ s x, V s = some x → x.under = false ∧ ∃ v bs, findV raw s = some v ∧ x.text = strOfNums bs ∧ piecesOf kF (kG raw V) v.f1 ([], 0) = .ok (bs, x.depth)
def Le (V W : VM) : Prop := ∀ s x, V s = some x → x.under = false → W s = some x
theorem kF_inv {P : KS → Prop} (hP : ∀ st bs d, P st → st.1.length ≤ bs.length → bs.length ≤ 4096 → st.2 ≤ d → P (bs, d)) {st t : KS} {c : Int} {i : Nat} (hp : P st) (h : kF st c i = .ok t) : P t := by
  unfold kF at h
  split at h
  · cases h
  · rename_i hl
    obtain rfl := Except.ok.inj h
    exact hP st _ _ hp (by simp) (by omega) (Int.le_refl _)
theorem kG_inv {raw : List SV} {V : VM} {P : KS → Prop} (hP : ∀ st bs d, P st → st.1.length ≤ bs.length → bs.length ≤ 4096 → st.2 ≤ d → P (bs, d)) {st t : KS} {m : ByteArray} {i : Nat} (hp : P st) (h : kG raw V st m i = .ok t) : P t := by
  obtain ⟨v, x, _, _, hu⟩ := kG_ok h
  obtain ⟨_, _, rfl, hl⟩ := useK_ok hu
  exact hP st _ _ hp (by simp) hl (Int.le_max_left ..)
theorem pieces_up {raw : List SV} {V : VM} {s : ByteArray} {d i : Nat} {st t : KS} (h : piecesP kF (kG raw V) s d i st = .ok t) : st.2 ≤ t.2 :=
  piecesP_inv (P := fun u : KS => st.2 ≤ u.2) (fun _ _ _ _ hp h => kF_inv (P := fun u : KS => st.2 ≤ u.2) (fun a b d hp _ _ h => Int.le_trans hp h) hp h) (fun _ _ _ _ hp h => kG_inv (P := fun u : KS => st.2 ≤ u.2) (fun a b d hp _ _ h => Int.le_trans hp h) hp h) _ _ _ _ (Int.le_refl _) h
theorem pieces_len {raw : List SV} {V : VM} {s : ByteArray} {t : KS} (h : piecesOf kF (kG raw V) s ([], 0) = .ok t) : t.1.length ≤ 4096 ∧ 0 ≤ t.2 :=
  ⟨piecesP_inv (P := fun u : KS => u.1.length ≤ 4096) (fun _ _ _ _ hp h => kF_inv (P := fun u : KS => u.1.length ≤ 4096) (fun a b d _ _ h _ => h) hp h) (fun _ _ _ _ hp h => kG_inv (P := fun u : KS => u.1.length ≤ 4096) (fun a b d _ _ h _ => h) hp h) _ _ _ _ (by simp) h, pieces_up h⟩
theorem Fix.size {raw : List SV} {V : VM} (h : Fix raw V) {s : ByteArray} {x : VD} (hx : V s = some x) : x.text.size ≤ 4096 ∧ 0 ≤ x.depth := by
  obtain ⟨_, v, bs, _, ht, hp⟩ := h s x hx
  have := pieces_len hp
  exact ⟨by rw [ht, nums_size]; exact this.1, this.2⟩
end Go.Proofs.Ytfkibolpanlelaa.Q
