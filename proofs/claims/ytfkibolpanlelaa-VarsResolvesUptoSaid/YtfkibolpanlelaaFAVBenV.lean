/- The document's bench: a text worked out (value), where working out one (work) is told. -/
import Derived.Test.YtfkibolpanlelaaFAVBenA
namespace Go.Proofs.Ytfkibolpanlelaa.Q
open Go Go.RowKit Go.Shelf Go.Proofs.YtfkibolpanlelaaW.PrintWords Go.Proofs.YtfkibolpanlelaaW.PrintLast Go.Proofs.YtfkibolpanlelaaW.PrintMore Go.Proofs.Ytfkibolpanlelaa.SMap
set_option linter.unusedVariables false
set_option linter.unusedSimpArgs false
def WOk (dn0 : DN) (st : WS) : Prop := st.1.length ≤ 4096 ∧ 0 ≤ st.2.1 ∧ st.2.1 ≤ 16 ∧ okD st.2.2 ∧ Ext dn0 st.2.2
theorem wkF_ok {dn0 : DN} {st t : WS} {c : Int} {i : Nat} (h : WOk dn0 st) (e : wkF st c i = .ok t) : WOk dn0 t := by
  unfold wkF at e
  split at e
  · cases e
  · rename_i hl
    obtain rfl := Except.ok.inj e
    exact ⟨by show (st.1 ++ [c]).length ≤ 4096; omega, h.2⟩
theorem useD_ok {dn0 : DN} {st t : WS} {x : VD} {dn : DN} {i : Nat} (h : WOk dn0 st) (hx : 0 ≤ x.depth ∧ x.depth ≤ 16) (hd : okD dn) (he : Ext dn0 dn) (e : useD st x dn i = .ok t) : WOk dn0 t := by
  unfold useD at e
  split at e
  · cases e
  · rename_i hu
    split at e
    · cases e
    · rename_i hl
      obtain rfl := Except.ok.inj e
      have h16 : x.depth ≠ 16 := fun e => hu (.inr e)
      have h1 := h.2.1
      have h2 := h.2.2.1
      exact ⟨by show (st.1 ++ bytesOf x.text).length ≤ 4096; omega, by show 0 ≤ max st.2.1 (x.depth + 1); omega, by show max st.2.1 (x.depth + 1) ≤ 16; omega, hd, he⟩
theorem workP_facts {raw : List SV} : ∀ (f : Nat) (dn : DN) (nm : ByteArray) (x : VD) (dn' : DN), okD dn → workP raw f dn nm = .ok (x, dn') → okD dn' ∧ Ext dn dn' ∧ getDn dn' nm = some x ∧ x.under = false
  | 0, _, _, _, _, _, h => by cases h
  | f + 1, dn, nm, x, dn', ho, h => by
    rw [workP] at h
    cases hp : piecesOf wkF (wkG (workP raw f) raw) ((findV raw nm).getD z41).f1 ([], 0, setDn dn nm ⟨⟨#[]⟩, 0, true⟩) with
    | error y => rw [hp] at h; cases h
    | ok st =>
      rw [hp] at h
      have h := Except.ok.inj h
      have hw : WOk (setDn dn nm ⟨⟨#[]⟩, 0, true⟩) st := by
        refine piecesP_inv (P := WOk (setDn dn nm ⟨⟨#[]⟩, 0, true⟩)) (fun a c i t ha e => wkF_ok ha e) (fun a m i t ha e => ?_) _ _ _ _ ⟨Nat.zero_le _, Int.le_refl _, by show (0 : Int) ≤ 16; omega, ho.set nm ⟨Nat.zero_le _, Int.le_refl _, by show (0 : Int) ≤ 16; omega⟩, Ext.refl _⟩ hp
        obtain ⟨bs, dp, d⟩ := a
        unfold wkG at e
        cases hv : findV raw m with
        | none => rw [hv] at e; cases e
        | some v =>
          rw [hv] at e
          have e : (match getDn d m with | some x => useD (bs, dp, d) x d i | none => match workP raw f d m with | .error x => Except.error x | .ok (x, dn1) => useD (bs, dp, d) x dn1 i) = .ok t := e
          cases hg : getDn d m with
          | some y => rw [hg] at e; exact useD_ok ha (ha.2.2.2.1 _ _ hg).2 ha.2.2.2.1 ha.2.2.2.2 e
          | none =>
            rw [hg] at e
            have e : (match workP raw f d m with | .error x => Except.error x | .ok (x, dn1) => useD (bs, dp, d) x dn1 i) = .ok t := e
            cases hr : workP raw f d m with
            | error y => rw [hr] at e; cases e
            | ok p =>
              rw [hr] at e
              obtain ⟨y, d1⟩ := p
              obtain ⟨q1, q2, q3, q4⟩ := workP_facts f d m y d1 ha.2.2.2.1 hr
              exact useD_ok ha (q1 _ _ q3).2 q1 (ha.2.2.2.2.trans q2) e
      have ex : (⟨strOfNums st.1, st.2.1, false⟩ : VD) = x := congrArg Prod.fst h
      have ed : setDn st.2.2 nm x = dn' := by rw [← ex]; exact congrArg Prod.snd h
      subst ed
      refine ⟨hw.2.2.2.1.set nm ?_, (Ext.set dn nm _).trans (hw.2.2.2.2.trans (Ext.set _ nm x)), getDn_same .., by rw [← ex]⟩
      rw [← ex]
      exact ⟨by show (strOfNums st.1).size ≤ 4096; rw [nums_size]; exact hw.1, hw.2.1, hw.2.2.1⟩
structure Con (W0 : World) (P g : Nat) (A : Option Addr) (c : Nat) (vs : List SV) : Prop where
  vars : Kd.C k41 W0 A vs.length vs
  cap : vs.length ≤ c
  small : vs.length ≤ 256
  names : (vs.map (·.f0)).Nodup
  texts : ∀ v ∈ vs, v.f1.size ≤ 1073741824
  pP : W0.heap.size ≤ P
  pg : W0.heap.size ≤ g
  ne : P ≠ g
def wkA (st : Int) (t : ByteArray) (d c : Int) : Value := .agg #[.int .i64 st, .string t, .int .i64 d, .int .i64 c]
section
variable (W0 : World) (P g : Nat) (A : Option Addr) (c : Nat) (vs : List SV)
def VPost (w0 : World) (r : Except Er WS) (e : Ending) (w' : World) : Prop := Stp g w0 w' ∧ match r with
  | .ok st => e = .returned (wkA 0 (strOfNums st.1) st.2.1 0) ∧ Ben W0 w' P g A c vs (rowW vs st.2.2)
  | .error y => e = .returned (wkA 0 ⟨#[]⟩ 0 y.1) ∧ ∃ cells, Ben W0 w' P g A c vs cells
def KPost (w0 : World) (r : Except Er (VD × DN)) (e : Ending) (w' : World) : Prop := Stp g w0 w' ∧ match r with
  | .ok p => e = .returned (wkA 2 p.1.text p.1.depth 0) ∧ Ben W0 w' P g A c vs (rowW vs p.2)
  | .error y => e = .returned (wkA 2 ⟨#[]⟩ 0 y.1) ∧ ∃ cells, Ben W0 w' P g A c vs cells
/-- One that is worked out, or is to be. -/
def knownP (f : Nat) (dn : DN) (nm : ByteArray) : Except Er (VD × DN) := match getDn dn nm with
  | some x => .ok (x, dn)
  | none => workP vs f dn nm
def WorkC (f : Nat) : Prop := ∀ (dn : DN) (i : Nat) (hi : i < vs.length) (w : World), Ben W0 w P g A c vs (rowW vs dn) → okD dn → todo vs dn ≤ f → (∀ x, getDn dn vs[i].f0 = some x → x.under = false) →
  Calls Try.prog 31 #[.pointer (some ⟨P, 0, none⟩), .int .i64 i] w (KPost W0 P g A c vs w (knownP vs f dn vs[i].f0))
def VRel (w0 : World) (f : Nat) (s : ByteArray) (R : Except Er WS) (gk : Nat) (v5 v6 v7 : Value) (wr : World) : Prop :=
  ∃ (i : Nat) (bs : List Int) (dp : Int) (dn : DN), v7 = .int .i64 i ∧ v6 = .int .i64 dp ∧ s.size < i + gk ∧ i ≤ s.size + 4294967296 ∧ piecesP wkF (wkG (workP vs f) vs) s gk i (bs, dp, dn) = R ∧ bs.length ≤ 4096 ∧ 0 ≤ dp ∧ dp ≤ 16 ∧ okD dn ∧ todo vs dn ≤ f ∧
    Ben W0 wr P g A c vs (rowW vs dn) ∧ Kd.R (Kd.int .u8) 5 wr (w0.heap.size + 1) (fun _ => True) v5 bs ∧ wr.heap[w0.heap.size]? = some (.cells #[.int .i64 0, .string ⟨#[]⟩, .int .i64 0, .int .i64 0] 57 (0, 0)) ∧ Stp g w0 wr
end
theorem put4 {W : World} {r : Nat} {a b c d : Value} (h : W.heap[r]? = some (.cells #[a, b, c, d] 57 (0, 0))) (a' b' c' d' : Value) :
    ((((W.setCell ⟨r, 0, none⟩ a').setCell ⟨r, 1, none⟩ b').setCell ⟨r, 2, none⟩ c').setCell ⟨r, 3, none⟩ d').heap[r]? = some (.cells #[a', b', c', d'] 57 (0, 0)) :=
  blk_set (blk_set (blk_set (blk_set h 0 _) 1 _) 2 _) 3 _
theorem val_results {tmps : Array Value} {r : Nat} (w : World) {a b c d : Value} (h4 : tmps[4]? = some (.pointer (some ⟨r, 0, none⟩))) (hc : w.heap[r]? = some (.cells #[a, b, c, d] 57 (0, 0))) :
    (results Try.f45 tmps).run Try.prog w = .ok (.agg #[a, b, c, d]) w := by
  have g4 : tmps[4]?.getD undef = .pointer (some ⟨r, 0, none⟩) := by rw [h4]; rfl
  have c0 : w.cell? ⟨r, 0, none⟩ = some a := blk_cell hc 0
  have c1 : w.cell? ⟨r, 1, none⟩ = some b := blk_cell hc 1
  have c2 : w.cell? ⟨r, 2, none⟩ = some c := blk_cell hc 2
  have c3 : w.cell? ⟨r, 3, none⟩ = some d := blk_cell hc 3
  simp [results, Try.results45, g4, asAddr, go_sem, c0, c1, c2, c3]
section
variable {W0 : World} {P g : Nat} {A : Option Addr} {c : Nat} {vs : List SV} (hc : Con W0 P g A c vs)
theorem Stp.put4 {w0 W : World} {r : Nat} (h : Stp g w0 W) (hr : w0.heap.size ≤ r) (a b c d : Value) : Stp g w0 ((((W.setCell ⟨r, 0, none⟩ a).setCell ⟨r, 1, none⟩ b).setCell ⟨r, 2, none⟩ c).setCell ⟨r, 3, none⟩ d) :=
  (((h.set (.inr hr) 0 a).set (.inr hr) 1 b).set (.inr hr) 2 c).set (.inr hr) 3 d
theorem Ben.put4 {W : World} {cells : List Value} {r : Nat} (h : Ben W0 W P g A c vs cells) (hr : W0.heap.size ≤ r) (h1 : r ≠ P) (h2 : r ≠ g) (x y z u : Value) : Ben W0 ((((W.setCell ⟨r, 0, none⟩ x).setCell ⟨r, 1, none⟩ y).setCell ⟨r, 2, none⟩ z).setCell ⟨r, 3, none⟩ u) P g A c vs cells :=
  (((h.far hr h1 h2 0 x).far hr h1 h2 1 y).far hr h1 h2 2 z).far hr h1 h2 3 u
theorem err_post {w0 W : World} {cells : List Value} {r : Nat} {y : Er} {co : Int} (hs : Stp g w0 W) (hb : Ben W0 W P g A c vs cells) (hr : w0.heap.size = r) (h0 : W0.heap.size ≤ r) (h1 : r ≠ P) (h2 : r ≠ g) (hy : y.1 = co) :
    VPost W0 P g A c vs w0 (.error y) (.returned (wkA 0 ⟨#[]⟩ 0 co)) ((((W.setCell ⟨r, 0, none⟩ (.int .i64 0)).setCell ⟨r, 1, none⟩ (.string ⟨#[]⟩)).setCell ⟨r, 2, none⟩ (.int .i64 0)).setCell ⟨r, 3, none⟩ (.int .i64 co)) :=
  ⟨hs.put4 (by omega) _ _ _ _, by rw [hy], cells, hb.put4 h0 h1 h2 _ _ _ _⟩
include hc
theorem idx_at (nm : ByteArray) (w : World) (hb : Below W0.heap.size W0 w) {j : Int} (hj : idxI vs nm 0 = j) : Calls Try.prog 30 #[.slice A vs.length c, .string nm] w fun e w' => e = .returned (.int .i64 j) ∧ Below w.heap.size w w' := by
  obtain ⟨k, hk⟩ := (idx_ev vs nm (by have := hc.small; omega)).rounds
  rw [hj] at hk
  refine (shuttleref10_Index.calls k A c vs nm _ w (Kd.C_below hc.vars hb) hc.cap hk).mono ?_
  rintro e w' ⟨rfl, hd⟩
  exact ⟨rfl, hd.below⟩
end
theorem ref_at (s : ByteArray) (i : Nat) (hs : s.size ≤ 1073741824) (h : i < s.size) (h36 : bt s (i : Int) = 36) (w : World) {r1 : ByteArray} {r2 : Int} {r3 : Bool} (hq : refQ s i = (r1, r2, r3)) :
    Calls Try.prog 34 #[.string s, .int .i64 i] w fun e w' => e = .returned (.tuple #[.string r1, .int .i64 r2, .bool r3]) ∧ Below w.heap.size w w' := by
  obtain ⟨k, hk⟩ := (ref_ev s i hs h h36).rounds
  refine (shuttleref10_ref.calls k s i r1 r2 r3 w (hk.trans (congrArg some hq))).mono ?_
  rintro e w' ⟨rfl, hd⟩
  exact ⟨rfl, hd.below⟩
theorem wkG_eq {vs : List SV} {f : Nat} {bs : List Int} {dp : Int} {dn : DN} {nm : ByteArray} {i : Nat} {v : SV} (hv : findV vs nm = some v) : wkG (workP vs f) vs (bs, dp, dn) nm i = match knownP vs f dn nm with
    | .error y => .error y
    | .ok p => useD (bs, dp, dn) p.1 p.2 i := by
  unfold wkG knownP
  rw [hv]
  show (match getDn dn nm with | some x => useD (bs, dp, dn) x dn i | none => match workP vs f dn nm with | .error x => Except.error x | .ok (x, dn1) => useD (bs, dp, dn) x dn1 i) = _
  cases getDn dn nm with
  | some x => rfl
  | none =>
    cases workP vs f dn nm with
    | error y => rfl
    | ok p => rfl
theorem known_facts {vs : List SV} {f : Nat} {dn dn1 : DN} {nm : ByteArray} {x : VD} (ho : okD dn) (hu : ∀ x, getDn dn nm = some x → x.under = false) (h : knownP vs f dn nm = .ok (x, dn1)) : okD dn1 ∧ Ext dn dn1 ∧ x.under = false ∧ x.text.size ≤ 4096 ∧ 0 ≤ x.depth ∧ x.depth ≤ 16 := by
  unfold knownP at h
  cases hg : getDn dn nm with
  | some y =>
    rw [hg] at h
    have h := Except.ok.inj h
    have e1 : y = x := congrArg Prod.fst h
    have e2 : dn = dn1 := congrArg Prod.snd h
    subst e1 e2
    exact ⟨ho, Ext.refl _, hu _ hg, ho _ _ hg⟩
  | none =>
    rw [hg] at h
    obtain ⟨h1, h2, h3, h4⟩ := workP_facts f dn nm x dn1 ho h
    exact ⟨h1, h2, h4, h1 _ _ h3⟩
theorem known_ne {vs : List SV} {f : Nat} {dn : DN} {nm : ByteArray} {y : Er} (h : knownP vs f dn nm = .error y) : y.1 ≠ 0 := by
  unfold knownP at h
  cases hg : getDn dn nm with
  | some x => rw [hg] at h; cases h
  | none => rw [hg] at h; exact workP_ne _ _ _ _ _ h
end Go.Proofs.Ytfkibolpanlelaa.Q
