/- The solver's second closure: a reference is worked out, if it is not yet, and its value gathered. -/
import Derived.Test.YtfkibolpanlelaaFAVDone
namespace Go.Proofs.Ytfkibolpanlelaa.Q
open Go Go.RowKit Go.Shelf Go.Proofs.YtfkibolpanlelaaW.PrintWords Go.Proofs.YtfkibolpanlelaaW.PrintLast Go.Proofs.YtfkibolpanlelaaW.PrintMore Go.Proofs.Ytfkibolpanlelaa.SMap
set_option linter.unusedVariables false
set_option linter.unusedSimpArgs false
theorem update2 {P : Program} {w : World} {b : Nat} {kvs : KV} {t k e : TypeId} (h : SM w b kvs) (ht : P.underlying t = some (.map k e)) (hk : P.underlying k = some .string) (s : ByteArray) (v : Value) :
    ∃ w', (Instr.mapUpdate t (.map (some b)) (.string s) v).run P w = .ok () w' ∧ SM w' b (setS kvs s v) ∧ w.grownBy w' (some b) ∧ w'.heap.size = w.heap.size := by
  refine ⟨{ w with heap := w.heap.setIfInBounds b (.map (ents (setS kvs s v)) (setS kvs s v).length) }, ?_, (MapKept.heap_set h).1, ⟨rfl, rfl, rfl, by simp, fun i _ hi => (MapKept.heap_set h).2 i (fun e => hi (by rw [e]))⟩, by simp⟩
  obtain ⟨w2, hrun, hsm, hg⟩ := h.update (P := P) ht hk s v
  have := hrun
  unfold Instr.mapUpdate at this ⊢
  have hf := MapKept.run_findKey (P := P) (w := w) hk (findNow_ents s kvs 0 0)
  simp only [Sem.run_bind, run_underlying ht, Result.andThen, MapKept.run_getObj_map h, Sem.run_pure, MapKept.run_checkKey (d := .string) (k := .string s) hk trivial]
  rw [show (ents kvs).toList = entsAt 0 kvs from rfl, hf]
  cases hi : idxS kvs s with
  | none =>
    simp only [Option.map_none]
    rw [ents_new, set_new v hi, MapKept.run_setObj_map _ h]
    simp
  | some n =>
    obtain ⟨v0, hg, hn⟩ := idx_some hi
    simp only [Option.map_some, Nat.zero_add, Sem.run_bind]
    rw [ents_at hn]
    simp only [Option.map_some, Option.getD_some, Instr.keyThatStays, sameBits_string, if_true, Sem.run_pure, Result.andThen]
    rw [ents_old v hi, MapKept.run_setObj_map _ h, length_set_old v hi]
theorem wpList_update_sm2 {P : Program} (w : World) {ops : Array Oper} {rest : List Oper} {o : Oper} {a : Act} {Q : Exit → Act → World → Prop} (hg : o.guard = none) (m x v : Operand) (t : TypeId) (hop : o.op = Op.mapUpdate t m x v)
    (k e : TypeId) (ht : P.underlying t = some (.map k e)) (hk : P.underlying k = some .string) (b : Nat) (kvs : KV)
    (hm : a.eval m = .map (some b)) (hown : SM w b kvs) (s : ByteArray) (hx : a.eval x = .string s) (val : Value) (hv : a.eval v = val)
    (hK : ∀ w', SM w' b (setS kvs s val) → w.grownBy w' (some b) → w'.heap.size = w.heap.size → wpList P ops Q rest (a.put o.dst undef) w') : wpList P ops Q (o :: rest) a w := by
  refine wpList_plain hg fun K' hK' => ?_
  obtain ⟨w', hrun, r1, r2, r3⟩ := update2 hown ht hk s val
  unfold Oper.wp
  simp [execOp, hop, hm, hx, hv, hrun, Result.andThen]
  exact hK' _ _ (hK w' r1 r2 r3)
structure Solv (SB rb db : Nat) (raw : List SV) (dn : DN) (w : World) : Prop where
  sb : w.heap[SB]? = some (.cells #[.map (some rb), .map (some db)] 63 (0, 0))
  rm : SM w rb (kvV raw)
  dm : SM w db (kvD dn)
  ne : rb ≠ db
theorem Solv.ch {SB rb db n : Nat} {raw : List SV} {dn : DN} {S : Nat → Prop} {w w' : World} (h : Solv SB rb db raw dn w) (hc : Ch n S w w') (h1 : SB < n) (h2 : rb < n) (h3 : db < n) (s1 : ¬ S SB) (s2 : ¬ S rb) (s3 : ¬ S db) : Solv SB rb db raw dn w' where
  sb := (hc.block _ h1 s1).trans h.sb
  rm := (hc.block _ h2 s2).trans h.rm
  dm := (hc.block _ h3 s3).trans h.dm
  ne := h.ne
def okV (v : VD) : Prop := v.text.size ≤ 4096 ∧ 0 ≤ v.depth ∧ v.depth ≤ 16
/-- How working one out ends. -/
def WPost (SB rb db : Nat) (raw : List SV) (w0 : World) (dn : DN) (r : Except Er (VD × DN)) (e : Ending) (w' : World) : Prop :=
  Ch w0.heap.size (fun k => k = db) w0 w' ∧ match r with
    | .ok p => e = .returned (encD p.1) ∧ Solv SB rb db raw p.2 w' ∧ Ext dn p.2 ∧ okD p.2 ∧ okV p.1
    | .error x => e = .panicked (stopV x.1 x.2)
def RecC (SB rb db : Nat) (raw : List SV) (f : Nat) : Prop := ∀ (dn : DN) (nm : ByteArray) (w : World), GM w → okD dn → todo raw dn ≤ f → (findV raw nm).isSome = true → getDn dn nm = none → Solv SB rb db raw dn w →
  Calls Try.prog 48 #[.pointer (some ⟨SB, 0, none⟩), .string nm] w (WPost SB rb db raw w dn (workP raw f dn nm))
structure WInv (n : Nat) (w0 : World) (SB rb db : Nat) (raw : List SV) (dn0 : DN) (st : WS) (w : World) : Prop where
  ch : Ch n (fun k => k = db) w0 w
  size : n + 1 + 1 + 1 + 1 ≤ w.heap.size
  sv : w.heap[n]? = some (.cells #[.pointer (some ⟨SB, 0, none⟩)] 59 (0, 0))
  res : w.heap[n + 1]? = some (.cells #[.string ⟨#[]⟩, .int .i64 0, .bool false] 85 (0, 0))
  vb : w.heap[n + 1 + 1]? = some (.cells #[.string ⟨#[]⟩, .int .i64 st.2.1, .bool false] 85 (0, 0))
  bx : Bx w (n + 1 + 1 + 1) (n + 1 + 1 + 1 + 1) st.1
  solv : Solv SB rb db raw st.2.2 w
  len : st.1.length ≤ 4096
  dp : 0 ≤ st.2.1 ∧ st.2.1 ≤ 16
  okd : okD st.2.2
  ext : Ext dn0 st.2.2
theorem zero41 (w : World) : (zeroValue 41).run Try.prog w = .ok (.agg #[.string ⟨#[]⟩, .string ⟨#[]⟩]) w := by kernel_rfl
theorem zero85 (w : World) : (zeroValue 85).run Try.prog w = .ok (.agg #[.string ⟨#[]⟩, .int .i64 0, .bool false]) w := by kernel_rfl
theorem WInv.below {n : Nat} {w0 : World} {SB rb db : Nat} {raw : List SV} {dn0 : DN} {st : WS} {w w' : World} (h : WInv n w0 SB rb db raw dn0 st w) (hb : Below w.heap.size w w') (h1 : SB < n) (h2 : rb < n) (h3 : db < n) : WInv n w0 SB rb db raw dn0 st w' where
  ch := h.ch.trans (Ch.below hb (by have := h.size; omega))
  size := Nat.le_trans h.size hb.size
  sv := (hb.block _ (blk_lt h.sv)).trans h.sv
  res := (hb.block _ (blk_lt h.res)).trans h.res
  vb := (hb.block _ (blk_lt h.vb)).trans h.vb
  bx := by obtain ⟨v, hv, hr⟩ := h.bx; exact ⟨v, (hb.block _ (blk_lt hv)).trans hv, Kd.R_below hr hb⟩
  solv := ⟨(hb.block _ (blk_lt h.solv.sb)).trans h.solv.sb, (hb.block _ h.solv.rm.lt).trans h.solv.rm, (hb.block _ h.solv.dm.lt).trans h.solv.dm, h.solv.ne⟩
  len := h.len
  dp := h.dp
  okd := h.okd
  ext := h.ext
/-- What is below a size has changed at the map alone. -/
theorem WInv.again {n : Nat} {w0 : World} {SB rb db : Nat} {raw : List SV} {dn0 : DN} {st : WS} {dn : DN} {w w' : World} (h : WInv n w0 SB rb db raw dn0 st w) (hc : Ch w.heap.size (fun k => k = db) w w') (hs : Solv SB rb db raw dn w') (h3 : db < n) (hok : okD dn) (he : Ext st.2.2 dn) : WInv n w0 SB rb db raw dn0 (st.1, st.2.1, dn) w' where
  ch := h.ch.trans (hc.mono (by have := h.size; omega) (fun _ _ e => e))
  size := Nat.le_trans h.size hc.size
  sv := (hc.block _ (blk_lt h.sv) (by omega)).trans h.sv
  res := (hc.block _ (blk_lt h.res) (by omega)).trans h.res
  vb := (hc.block _ (blk_lt h.vb) (by omega)).trans h.vb
  bx := by
    obtain ⟨v, hv, hr⟩ := h.bx
    exact ⟨v, (hc.block _ (blk_lt hv) (by omega)).trans hv, Kd.R_mono (Kd.R_step (Kd.R_bound hr) (fun k hk hl => hc.block k hl (by have := hk.2.1; omega))) (fun _ _ => trivial)⟩
  solv := hs
  len := h.len
  dp := h.dp
  okd := hok
  ext := h.ext.trans he
/-- A block of the closure's own is written. -/
theorem WInv.far {n : Nat} {w0 : World} {SB rb db : Nat} {raw : List SV} {dn0 : DN} {st : WS} {w : World} (h : WInv n w0 SB rb db raw dn0 st w) (p : Addr) (u : Value) (hp : n + 1 + 1 + 1 + 1 ≤ p.block) (hr : ∀ v, w.heap[n + 1 + 1 + 1]? = some (.cells #[v] 46 (0, 0)) → v.ownBlock ≠ some p.block) (h1 : SB < n) (h2 : rb < n) (h3 : db < n) : WInv n w0 SB rb db raw dn0 st (w.setCell p u) where
  ch := h.ch.trans (Ch.set w p u (.inl (by omega)))
  size := by have := h.size; simpa [World.setCell] using this
  sv := blk_far h.sv (by omega) u
  res := blk_far h.res (by omega) u
  vb := blk_far h.vb (by omega) u
  bx := by
    obtain ⟨v, hv, hr'⟩ := h.bx
    have hne := hr v hv
    obtain ⟨h0, inner, ho, hre⟩ := hr'
    exact ⟨v, blk_far hv (by omega) u, fun k hk => trivial, inner, own_move ho (fun k hk => Below.heap_setCell w p u k (fun e => hne (by rw [hk, e]))), hre.imp_ (fun _ _ hp => hp)⟩
  solv := ⟨blk_far h.solv.sb (by omega) u, h.solv.rm.setCell p u (by omega), h.solv.dm.setCell p u (by omega), h.solv.ne⟩
  len := h.len
  dp := h.dp
  okd := h.okd
  ext := h.ext
theorem WInv.put {n : Nat} {w0 : World} {SB rb db : Nat} {raw : List SV} {dn0 : DN} {st : WS} {w : World} (h : WInv n w0 SB rb db raw dn0 st w) {g : Nat} {cs : Array Value} (hg : w.heap[g]? = some (.cells cs 85 (0, 0))) (hn : n + 1 + 1 + 1 + 1 ≤ g) (i : Nat) (u : Value) (h1 : SB < n) (h2 : rb < n) (h3 : db < n) : WInv n w0 SB rb db raw dn0 st (w.setCell ⟨g, i, none⟩ u) := by
  refine h.far ⟨g, i, none⟩ u hn (fun v hv e => ?_) h1 h2 h3
  obtain ⟨v', hv', hr⟩ := h.bx
  rw [hv'] at hv
  injection hv with hv
  injection hv with hv
  have hvv : v' = v := by
    have := congrArg (fun a : Array Value => a[0]?) hv
    simpa using this
  subst hvv
  obtain ⟨cells, hc⟩ := Kd.R_typed hr g e
  rw [hg] at hc
  injection hc with hc
  injection hc with _ hc
  exact absurd hc (by decide)
theorem WInv.deep {n : Nat} {w0 : World} {SB rb db : Nat} {raw : List SV} {dn0 dn : DN} {bs : List Int} {d : Int} {w : World} (h : WInv n w0 SB rb db raw dn0 (bs, d, dn) w) (d2 : Int) (hd : 0 ≤ d2 ∧ d2 ≤ 16) (h1 : SB < n) (h2 : rb < n) (h3 : db < n) : WInv n w0 SB rb db raw dn0 (bs, d2, dn) (w.setCell ⟨n + 1 + 1, 1, none⟩ (.int .i64 d2)) where
  ch := h.ch.trans (Ch.set w ⟨n + 1 + 1, 1, none⟩ _ (.inl (by show n ≤ n + 1 + 1; omega)))
  size := by have := h.size; simpa [World.setCell] using this
  sv := blk_far h.sv (p := ⟨n + 1 + 1, 1, none⟩) (by show n ≠ n + 1 + 1; omega) _
  res := blk_far h.res (p := ⟨n + 1 + 1, 1, none⟩) (by show n + 1 ≠ n + 1 + 1; omega) _
  vb := blk_set h.vb 1 _
  bx := by
    obtain ⟨v, hv, hr⟩ := h.bx
    exact ⟨v, blk_far hv (p := ⟨n + 1 + 1, 1, none⟩) (by show n + 1 + 1 + 1 ≠ n + 1 + 1; omega) _, Kd.R_mono (Kd.R_far (p := ⟨n + 1 + 1, 1, none⟩) (Kd.R_bound hr) (fun k hk => by have := hk.2.1; show k ≠ n + 1 + 1; omega) _) (fun _ _ => trivial)⟩
  solv := ⟨blk_far h.solv.sb (p := ⟨n + 1 + 1, 1, none⟩) (by show SB ≠ n + 1 + 1; omega) _, h.solv.rm.setCell ⟨n + 1 + 1, 1, none⟩ _ (by show rb ≠ n + 1 + 1; omega), h.solv.dm.setCell ⟨n + 1 + 1, 1, none⟩ _ (by show db ≠ n + 1 + 1; omega), h.solv.ne⟩
  len := h.len
  dp := hd
  okd := h.okd
  ext := h.ext
theorem WInv.gath {n : Nat} {w0 : World} {SB rb db : Nat} {raw : List SV} {dn0 : DN} {st : WS} {out : List Int} {w w' : World} (h : WInv n w0 SB rb db raw dn0 st w) (hc : Ch (n + 1 + 1 + 1 + 1) (fun k => k = n + 1 + 1 + 1) w w') (hb : Bx w' (n + 1 + 1 + 1) (n + 1 + 1 + 1 + 1) out) (hl : out.length ≤ 4096) (h1 : SB < n) (h2 : rb < n) (h3 : db < n) : WInv n w0 SB rb db raw dn0 (out, st.2) w' where
  ch := h.ch.trans (hc.mono (by omega) (fun k hk e => by omega))
  size := Nat.le_trans h.size hc.size
  sv := (hc.block _ (by omega) (by omega)).trans h.sv
  res := (hc.block _ (by omega) (by omega)).trans h.res
  vb := (hc.block _ (by omega) (by omega)).trans h.vb
  bx := hb
  solv := h.solv.ch hc (by omega) (by omega) (by omega) (by omega) (by omega) (by omega)
  len := hl
  dp := h.dp
  okd := h.okd
  ext := h.ext
end Go.Proofs.Ytfkibolpanlelaa.Q
