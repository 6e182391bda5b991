/- The solver of package vars: what is worked out, as lists; what working out answers. -/
import Derived.Test.YtfkibolpanlelaaFAVOver
import Derived.Test.YtfkibolpanlelaaFAVRun
namespace Go.Proofs.Ytfkibolpanlelaa.Q
open Go Go.RowKit Go.Shelf Go.Proofs.YtfkibolpanlelaaW.PrintWords Go.Proofs.YtfkibolpanlelaaW.PrintLast Go.Proofs.YtfkibolpanlelaaW.PrintMore Go.Proofs.Ytfkibolpanlelaa.SMap
set_option linter.unusedVariables false
set_option linter.unusedSimpArgs false
structure VD where
  text : ByteArray
  depth : Int
  under : Bool
def zVD : VD := ⟨⟨#[]⟩, 0, false⟩
def encD (x : VD) : Value := .agg #[.string x.text, .int .i64 x.depth, .bool x.under]
abbrev DN := List (ByteArray × VD)
def kvD (dn : DN) : KV := dn.map fun p => (p.1, encD p.2)
def getDn : DN → ByteArray → Option VD
  | [], _ => none
  | p :: r, s => if s = p.1 then some p.2 else getDn r s
def setDn : DN → ByteArray → VD → DN
  | [], s, v => [(s, v)]
  | p :: r, s, v => if s = p.1 then (p.1, v) :: r else p :: setDn r s v
theorem set_kvD (s : ByteArray) (v : VD) : ∀ dn, setS (kvD dn) s (encD v) = kvD (setDn dn s v)
  | [] => rfl
  | p :: r => by
    show (if s = p.1 then (p.1, encD v) :: kvD r else (p.1, encD p.2) :: setS (kvD r) s (encD v)) = kvD (if s = p.1 then (p.1, v) :: r else p :: setDn r s v)
    by_cases h : s = p.1
    · rw [if_pos h, if_pos h]; rfl
    · rw [if_neg h, if_neg h, set_kvD s v r]; rfl
theorem get_kvD (s : ByteArray) : ∀ dn, getS (kvD dn) s = (getDn dn s).map encD
  | [] => rfl
  | p :: r => by
    show (if s = p.1 then some (encD p.2) else getS (kvD r) s) = (if s = p.1 then some p.2 else getDn r s).map encD
    by_cases h : s = p.1
    · rw [if_pos h, if_pos h]; rfl
    · rw [if_neg h, if_neg h, get_kvD s r]
theorem getDn_same (s : ByteArray) (v : VD) : ∀ dn, getDn (setDn dn s v) s = some v
  | [] => by simp [setDn, getDn]
  | p :: r => by by_cases h : s = p.1 <;> simp [setDn, getDn, h, getDn_same s v r]
theorem getDn_other {s t : ByteArray} (v : VD) (h : t ≠ s) : ∀ dn, getDn (setDn dn s v) t = getDn dn t
  | [] => by simp [setDn, getDn, h]
  | p :: r => by
    by_cases e : s = p.1
    · subst e; simp [setDn, getDn, h]
    · by_cases e' : t = p.1 <;> simp [setDn, getDn, e, e', getDn_other v h r]
def findV (raw : List SV) (s : ByteArray) : Option SV := raw.find? fun v => decide (v.f0 = s)
theorem get_kvV (s : ByteArray) : ∀ raw : List SV, getS (kvV raw) s = (findV raw s).map fun v => .agg #[.string v.f0, .string v.f1]
  | [] => rfl
  | v :: r => by
    show (if s = v.f0 then some (.agg #[.string v.f0, .string v.f1]) else getS (kvV r) s) = _
    unfold findV
    by_cases h : s = v.f0
    · rw [if_pos h, List.find?_cons_of_pos (by simp [h])]; rfl
    · rw [if_neg h, List.find?_cons_of_neg (by simp; exact fun e => h e.symm)]
      exact get_kvV s r
theorem findV_some {raw : List SV} {s : ByteArray} {v : SV} (h : findV raw s = some v) : v ∈ raw ∧ v.f0 = s := ⟨List.mem_of_find?_eq_some h, by have := List.find?_some h; simpa using this⟩
/-- How many are still to be worked out. -/
def todo (raw : List SV) (dn : DN) : Nat := (raw.filter fun v => (getDn dn v.f0).isNone).length
def Ext (a b : DN) : Prop := ∀ s, (getDn a s).isSome = true → (getDn b s).isSome = true
theorem Ext.refl (a : DN) : Ext a a := fun _ h => h
theorem Ext.trans {a b c : DN} (h : Ext a b) (k : Ext b c) : Ext a c := fun s hs => k s (h s hs)
theorem Ext.set (a : DN) (s : ByteArray) (v : VD) : Ext a (setDn a s v) := fun t ht => by
  by_cases e : t = s
  · subst e; rw [getDn_same]; rfl
  · rw [getDn_other v e]; exact ht
theorem filter_len {α : Type} {p q : α → Bool} : ∀ {l : List α}, (∀ x ∈ l, q x = true → p x = true) → (l.filter q).length ≤ (l.filter p).length
  | [], _ => Nat.le_refl _
  | x :: r, h => by
    have ih := filter_len (p := p) (q := q) (l := r) (fun y hy => h y (List.mem_cons_of_mem _ hy))
    have hx := h x List.mem_cons_self
    cases hq : q x
    · rw [List.filter_cons_of_neg (by rw [hq]; decide)]
      refine Nat.le_trans ih ?_
      cases hp : p x
      · rw [List.filter_cons_of_neg (by rw [hp]; decide)]; exact Nat.le_refl _
      · rw [List.filter_cons_of_pos hp, List.length_cons]; omega
    · rw [List.filter_cons_of_pos hq, List.filter_cons_of_pos (hx hq), List.length_cons, List.length_cons]; omega
theorem filter_lt {α : Type} {p q : α → Bool} {x : α} : ∀ {l : List α}, (∀ x ∈ l, q x = true → p x = true) → x ∈ l → p x = true → q x = false → (l.filter q).length < (l.filter p).length
  | [], _, hx, _, _ => by cases hx
  | y :: r, h, hx, hp, hq => by
    have hr := fun z hz => h z (List.mem_cons_of_mem y hz)
    rcases List.mem_cons.1 hx with rfl | hx
    · rw [List.filter_cons_of_neg (by rw [hq]; decide), List.filter_cons_of_pos hp, List.length_cons]
      exact Nat.lt_succ_of_le (filter_len hr)
    · have ih := filter_lt hr hx hp hq
      cases hqy : q y
      · rw [List.filter_cons_of_neg (by rw [hqy]; decide)]
        cases hpy : p y
        · rw [List.filter_cons_of_neg (by rw [hpy]; decide)]; exact ih
        · rw [List.filter_cons_of_pos hpy, List.length_cons]; omega
      · rw [List.filter_cons_of_pos hqy, List.filter_cons_of_pos (h y List.mem_cons_self hqy), List.length_cons, List.length_cons]; omega
theorem todo_ext {raw : List SV} {a b : DN} (h : Ext a b) : todo raw b ≤ todo raw a := by
  refine filter_len fun v _ hv => ?_
  cases ha : getDn a v.f0 with
  | none => rfl
  | some x =>
    have := h v.f0 (by rw [ha]; rfl)
    rw [Option.isNone_iff_eq_none] at hv
    rw [hv] at this
    cases this
theorem todo_set {raw : List SV} {a : DN} {v : SV} (hv : v ∈ raw) (hn : getDn a v.f0 = none) (x : VD) : todo raw (setDn a v.f0 x) < todo raw a := by
  refine filter_lt (x := v) (fun u _ hu => ?_) hv (by rw [hn]; rfl) (by rw [getDn_same]; rfl)
  by_cases e : u.f0 = v.f0
  · rw [e, hn]; rfl
  · rw [getDn_other x e] at hu; exact hu
/-- What is worked out is of a bounded size. -/
def okD (dn : DN) : Prop := ∀ s x, getDn dn s = some x → x.text.size ≤ 4096 ∧ 0 ≤ x.depth ∧ x.depth ≤ 16
theorem okD.set {dn : DN} (h : okD dn) (s : ByteArray) {v : VD} (hv : v.text.size ≤ 4096 ∧ 0 ≤ v.depth ∧ v.depth ≤ 16) : okD (setDn dn s v) := fun t x hx => by
  by_cases e : t = s
  · subst e
    rw [getDn_same] at hx
    obtain rfl := Option.some.inj hx
    exact hv
  · rw [getDn_other v e] at hx
    exact h t x hx
/-- The state while one is worked out: the bytes, the depth, what is worked out. -/
abbrev WS := List Int × Int × DN
def useD (st : WS) (x : VD) (dn : DN) (i : Nat) : Except Er WS :=
  if x.under = true ∨ x.depth = 16 then .error (103, (i : Int))
  else if 4096 < (st.1 ++ bytesOf x.text).length then .error (104, (i : Int)) else .ok (st.1 ++ bytesOf x.text, max st.2.1 (x.depth + 1), dn)
def wkF (st : WS) (c : Int) (i : Nat) : Except Er WS := if 4096 < (st.1 ++ [c]).length then .error (104, (i : Int)) else .ok (st.1 ++ [c], st.2)
def wkG (rec : DN → ByteArray → Except Er (VD × DN)) (raw : List SV) (st : WS) (nm : ByteArray) (i : Nat) : Except Er WS := match findV raw nm with
  | none => .error (102, (i : Int))
  | some _ => match getDn st.2.2 nm with
    | some x => useD st x st.2.2 i
    | none => match rec st.2.2 nm with
      | .error x => .error x
      | .ok (x, dn) => useD st x dn i
/-- What working one out answers. -/
def workP (raw : List SV) : Nat → DN → ByteArray → Except Er (VD × DN)
  | 0, _, _ => .error (103, 0)
  | f + 1, dn, nm => match piecesOf wkF (wkG (workP raw f) raw) ((findV raw nm).getD z41).f1 ([], 0, setDn dn nm ⟨⟨#[]⟩, 0, true⟩) with
    | .error x => .error x
    | .ok st => .ok (⟨strOfNums st.1, st.2.1, false⟩, setDn st.2.2 nm ⟨strOfNums st.1, st.2.1, false⟩)
theorem piecesP_ne {σ : Type} {F : σ → Int → Nat → Except Er σ} {G : σ → ByteArray → Nat → Except Er σ} {s : ByteArray} (hF : ∀ st c i x, F st c i = .error x → x.1 ≠ 0) (hG : ∀ st m i x, G st m i = .error x → x.1 ≠ 0) : ∀ d i st x, piecesP F G s d i st = .error x → x.1 ≠ 0
  | 0, i, st, x, h => by cases h
  | d + 1, i, st, x, h => by
    unfold piecesP at h
    split at h
    · cases h
    · cases hs : (stepP F G s i st).1 with
      | ok t =>
        rw [hs] at h
        exact piecesP_ne hF hG d _ t x h
      | error y =>
        rw [hs] at h
        injection h with h
        subst h
        unfold stepP at hs
        split at hs
        · exact hF _ _ _ _ hs
        · split at hs
          · exact hF _ _ _ _ hs
          · split at hs
            · exact hG _ _ _ _ hs
            · injection hs with hs
              subst hs
              simp
theorem useD_ne {st : WS} {x : VD} {dn : DN} {i : Nat} {y : Er} (h : useD st x dn i = .error y) : y.1 ≠ 0 := by
  unfold useD at h
  split at h
  · injection h with h; subst h; simp
  · split at h
    · injection h with h; subst h; simp
    · cases h
theorem workP_ne (raw : List SV) : ∀ f dn nm x, workP raw f dn nm = .error x → x.1 ≠ 0
  | 0, _, _, x, h => by injection h with h; subst h; simp
  | f + 1, dn, nm, x, h => by
    have ih := workP_ne raw f
    unfold workP at h
    cases hp : piecesOf wkF (wkG (workP raw f) raw) ((findV raw nm).getD z41).f1 ([], 0, setDn dn nm ⟨⟨#[]⟩, 0, true⟩) with
    | ok st => rw [hp] at h; cases h
    | error y =>
      rw [hp] at h
      injection h with h
      subst h
      refine piecesP_ne (fun st c i z hz => ?_) (fun st m i z hz => ?_) _ _ _ _ hp
      · unfold wkF at hz
        split at hz
        · injection hz with hz; subst hz; simp
        · cases hz
      · unfold wkG at hz
        cases hv : findV raw m with
        | none => rw [hv] at hz; injection hz with hz; subst hz; simp
        | some rv =>
          rw [hv] at hz
          cases hd : getDn st.2.2 m with
          | some x2 => simp only [hd] at hz; exact useD_ne hz
          | none =>
            simp only [hd] at hz
            cases hw : workP raw f st.2.2 m with
            | error e2 => rw [hw] at hz; injection hz with hz; subst hz; exact ih _ _ _ hw
            | ok q => rw [hw] at hz; exact useD_ne hz
end Go.Proofs.Ytfkibolpanlelaa.Q
