/- What pieces of package vars does: a text is gone through, its bytes and its references told to two closures, which may give up. -/
import Derived.Test.YtfkibolpanlelaaFAGScal
import Derived.Test.YtfkibolpanlelaaFAGShelf
import Derived.Deep.LoopGhost
namespace Go.Proofs.Ytfkibolpanlelaa.Q
open Go Go.RowKit Go.Shelf Go.Proofs.YtfkibolpanlelaaW.PrintWords Go.Proofs.YtfkibolpanlelaaW.PrintLast Go.Proofs.YtfkibolpanlelaaW.PrintMore
set_option linter.unusedVariables false
set_option linter.unusedSimpArgs false
/-- The library's own variable bytealg.MaxLen holds some number. -/
def GM (w : World) : Prop := ∃ m : Int, w.cell? ⟨0, 0, none⟩ = some (.int .i64 m)
theorem GM.below {w w' : World} (h : GM w) (hb : Below w.heap.size w w') : GM w' := by
  obtain ⟨m, hm⟩ := h
  exact ⟨m, pw_cell_below hb hm⟩
def stopV (why j : Int) : List PanicEntry := [{ v := .iface 76 (.agg #[.int .i64 why, .int .i64 j]), recovered := false }]
abbrev Er := Int × Int
section
variable {σ : Type}
def fromB (s : ByteArray) (i : Nat) : ByteArray := s.extract i s.size
def cutAt (s : ByteArray) (i : Nat) : List UInt8 × List UInt8 × Bool := Lib.cut (Lib.trimPrefix (fromB s i).data.toList [36, 123]) [125]
def nameAt (s : ByteArray) (i : Nat) : ByteArray := ⟨(cutAt s i).1.toArray⟩
def prefAt (s : ByteArray) (i : Nat) (p : List UInt8) : Bool := Lib.hasPrefix (fromB s i).data.toList p
def refOk (s : ByteArray) (i : Nat) : Bool := (cutAt s i).2.2 && prefAt s i [36, 123] && varNameB (nameAt s i)
/-- What stands at a place, told: what becomes of the state, and the next place. -/
def stepP (F : σ → Int → Nat → Except Er σ) (G : σ → ByteArray → Nat → Except Er σ) (s : ByteArray) (i : Nat) (st : σ) : Except Er σ × Nat :=
  if bt s (i : Int) ≠ 36 then (F st (bt s (i : Int)) i, i + 1)
  else if prefAt s i [36, 36] = true then (F st 36 i, i + 2)
  else if refOk s i = true then (G st (nameAt s i) i, i + ((nameAt s i).size + 2) + 1)
  else (.error (101, (i : Int)), 0)
def piecesP (F : σ → Int → Nat → Except Er σ) (G : σ → ByteArray → Nat → Except Er σ) (s : ByteArray) : Nat → Nat → σ → Except Er σ
  | 0, _, st => .ok st
  | d + 1, i, st => if s.size ≤ i then .ok st else
    match (stepP F G s i st).1 with
    | .ok t => piecesP F G s d (stepP F G s i st).2 t
    | .error x => .error x
def piecesOf (F : σ → Int → Nat → Except Er σ) (G : σ → ByteArray → Nat → Except Er σ) (s : ByteArray) (st : σ) : Except Er σ := piecesP F G s (s.size + 1) 0 st
theorem piecesP_end (F : σ → Int → Nat → Except Er σ) (G : σ → ByteArray → Nat → Except Er σ) (s : ByteArray) (d i : Nat) (st : σ) (h : s.size ≤ i) : piecesP F G s d i st = .ok st := by
  cases d with
  | zero => rfl
  | succ d => unfold piecesP; rw [if_pos h]
theorem piecesP_ok {F : σ → Int → Nat → Except Er σ} {G : σ → ByteArray → Nat → Except Er σ} {s : ByteArray} {d i j : Nat} {st t : σ} (h : i < s.size) (hs : stepP F G s i st = (.ok t, j)) : piecesP F G s (d + 1) i st = piecesP F G s d j t := by
  rw [piecesP, if_neg (by omega), hs]
theorem piecesP_err {F : σ → Int → Nat → Except Er σ} {G : σ → ByteArray → Nat → Except Er σ} {s : ByteArray} {d i j : Nat} {st : σ} {x : Er} (h : i < s.size) (hs : stepP F G s i st = (.error x, j)) : piecesP F G s (d + 1) i st = .error x := by
  rw [piecesP, if_neg (by omega), hs]
theorem cut_le (a b : List UInt8) : (Lib.cut a b).1.length ≤ a.length := by
  unfold Lib.cut
  split <;> simp <;> omega
theorem trim_le (a b : List UInt8) : (Lib.trimPrefix a b).length ≤ a.length := by
  unfold Lib.trimPrefix
  split <;> simp
theorem name_le (s : ByteArray) (i : Nat) : (nameAt s i).size ≤ s.size := by
  have h1 := cut_le (Lib.trimPrefix (fromB s i).data.toList [36, 123]) [125]
  have h2 := trim_le (fromB s i).data.toList [36, 123]
  have h3 : (fromB s i).data.toList.length ≤ s.size := by
    have : (fromB s i).size ≤ s.size := by unfold fromB; rw [ByteArray.size_extract]; omega
    simpa using this
  have h4 : (nameAt s i).size = (cutAt s i).1.length := by simp [nameAt, ByteArray.size]
  rw [h4]
  exact Nat.le_trans h1 (Nat.le_trans h2 h3)
/-- How a call that may give up ends. -/
def Out (Inv : σ → World → Prop) (Bad : World → Prop) : Except Er σ → Ending → World → Prop
  | .ok st, e, w => e = .returned (.tuple #[]) ∧ Inv st w
  | .error x, e, w => e = .panicked (stopV x.1 x.2) ∧ Bad w
def PRel (Inv : σ → World → Prop) (F : σ → Int → Nat → Except Er σ) (G : σ → ByteArray → Nat → Except Er σ) (s : ByteArray) (R : Except Er σ) (g : Nat) (i : Value) (wr : World) : Prop :=
  ∃ (k : Nat) (st : σ), i = .int .i64 k ∧ k ≤ 2 * s.size + 8 ∧ s.size < k + g ∧ piecesP F G s g k st = R ∧ Inv st wr
set_option maxHeartbeats 2000000 in
set_option maxRecDepth 100000 in
theorem pieces_any (Inv : σ → World → Prop) (Bad : World → Prop) (hdr : ∀ st w n, Inv st w → Inv st (w.drewN n)) (hgm : ∀ st w, Inv st w → GM w) (hbad : ∀ st w, Inv st w → Bad w)
    (F : σ → Int → Nat → Except Er σ) (G : σ → ByteArray → Nat → Except Er σ) (fs fg : Nat) (cs cg : Array Value) (s : ByteArray) (hs : s.size ≤ 1073741824)
    (eF : ∀ args w, (callFunc fs args).run Try.prog w = .ok (.enter fs args) w) (eG : ∀ args w, (callFunc fg args).run Try.prog w = .ok (.enter fg args) w)
    (hF : ∀ (st : σ) (c : Int) (i : Nat) (w : World), 0 ≤ c → c ≤ 255 → i < s.size → Inv st w → Calls Try.prog fs (#[.int .u8 c, .int .i64 i] ++ cs) w (Out Inv Bad (F st c i)))
    (hG : ∀ (st : σ) (i : Nat) (w : World), i < s.size → Inv st w → Calls Try.prog fg (#[.string (nameAt s i), .int .i64 i] ++ cg) w (Out Inv Bad (G st (nameAt s i) i)))
    (st : σ) (w : World) (h0 : Inv st w) :
    Calls Try.prog 36 #[.string s, .func (.func fs) #[] cs, .func (.func fg) #[] cg] w (Out Inv Bad (piecesOf F G s st)) := by
  obtain ⟨R, hR⟩ : ∃ R, R = piecesOf F G s st := ⟨_, rfl⟩
  rw [← hR]
  have HR := Aside0.mk hR
  have HI := Aside0.mk h0
  have HF := Aside0.mk hF
  have HG := Aside0.mk hG
  have HDR := Aside0.mk hdr
  have HGM := Aside0.mk hgm
  have HBAD := Aside0.mk hbad
  clear hR h0 hF hG hdr hgm hbad
  go_enter Try.func36, Try.ntmps36
  go_wp2
  go_loopg [6] (s.size + 1) (fun g i wr => PRel Inv F G s R g i wr)
  case atStart => exact ⟨0, st, rfl, by omega, by omega, HR.out.symm, HI.out⟩
  case round =>
    obtain ⟨k, t, rfl, hkb, hkg, hp, hi⟩ := hrel
    have HP := Aside0.mk hp
    have HT := Aside0.mk hi
    clear hp hi
    by_cases hlt : k < s.size
    · have HC := Aside0.mk (show bt s (k : Int) = (s[k].toNat : Int) from (bt_at s (k : Int) (by simpa using hlt)).symm)
      have hc0 : 0 ≤ (s[k].toNat : Int) := by omega
      have hc1 : (s[k].toNat : Int) ≤ 255 := by have := s[k].toNat_lt; omega
      obtain ⟨d, rfl⟩ : ∃ d, gk = d + 1 := ⟨gk - 1, by omega⟩
      by_cases h36 : (s[k].toNat : Int) = 36
      · have HH2 : ∀ W, Calls Try.prog 49 #[.string (s.extract k s.size), .string ⟨#[36, 36]⟩] W fun e w' => e = .returned (.bool (prefAt s k [36, 36])) ∧ w' = W := fun W => Try.strings_HasPrefix (fromB s k) ⟨#[36, 36]⟩ W
        clear hc0 hc1
        cases h2 : prefAt s k [36, 36] with
        | true =>
          rw [h2] at HH2
          have HS := Aside0.mk (show stepP F G s k t = (F t 36 k, k + 2) by unfold stepP; rw [HC.out, if_neg (by omega), if_pos h2])
          have HFC := Aside0.mk (HF.out t 36 k wr (by omega) (by omega) hlt HT.out)
          clear h2
          have H2 := Aside0.mk HH2
          clear HH2
          rcases hf : F t 36 k with x | u
          · have HE : Aside0 (R = .error x) := ⟨by rw [← HP.out]; exact piecesP_err hlt (by rw [HS.out, hf])⟩
            rw [hf] at HFC
            clear hf
            go_wp2_with (first
              | (go_at_call 49; refine (H2.out _).mono ?_; rintro e w' ⟨rfl, rfl⟩)
              | (go_at_fn fs; refine HFC.out.mono ?_; rintro e w' ⟨rfl, hb⟩; have HB := Aside0.mk hb; clear hb))
            rw [HE.out]
            exact ⟨rfl, rfl, HB.out⟩
          · have HE : Aside0 (piecesP F G s d (k + 2) u = R) := ⟨by rw [← HP.out]; exact (piecesP_ok hlt (by rw [HS.out, hf])).symm⟩
            rw [hf] at HFC
            clear hf
            go_wp2_with (first
              | (go_at_call 49; refine (H2.out _).mono ?_; rintro e w' ⟨rfl, rfl⟩)
              | (go_at_fn fs; refine HFC.out.mono ?_; rintro e w' ⟨rfl, hb⟩; have HB := Aside0.mk hb; clear hb))
            go_roundg d
            case measure => omega
            case rel => exact ⟨k + 2, u, by go_num, by omega, by omega, HE.out, HB.out⟩
        | false =>
          rw [h2] at HH2
          have H2 := Aside0.mk HH2
          clear HH2
          have HH3 : ∀ W, Calls Try.prog 49 #[.string (s.extract k s.size), .string ⟨#[36, 123]⟩] W fun e w' => e = .returned (.bool (prefAt s k [36, 123])) ∧ w' = W := fun W => Try.strings_HasPrefix (fromB s k) ⟨#[36, 123]⟩ W
          obtain ⟨tp, htp⟩ : ∃ tp : ByteArray, tp = ⟨(Lib.trimPrefix (fromB s k).data.toList [36, 123]).toArray⟩ := ⟨_, rfl⟩
          have HT3 : ∀ W, Calls Try.prog 51 #[.string (s.extract k s.size), .string ⟨#[36, 123]⟩] W fun e w' => e = .returned (.string tp) ∧ w' = W := fun W => by rw [htp]; exact Try.strings_TrimPrefix (fromB s k) ⟨#[36, 123]⟩ W
          obtain ⟨rs, hrs⟩ : ∃ rs : ByteArray, rs = ⟨(cutAt s k).2.1.toArray⟩ := ⟨_, rfl⟩
          have htl : tp.data.toList = Lib.trimPrefix (fromB s k).data.toList [36, 123] := by rw [htp]
          have htz : tp.size < 4294967281 := by
            have h1 := trim_le (fromB s k).data.toList [36, 123]
            have h2 : (fromB s k).data.toList.length ≤ s.size := by
              have : (fromB s k).size ≤ s.size := by unfold fromB; rw [ByteArray.size_extract]; omega
              simpa using this
            have h3 : tp.size = (Lib.trimPrefix (fromB s k).data.toList [36, 123]).length := by rw [← htl]; simp
            omega
          obtain ⟨nm, hnm⟩ : ∃ nm, nm = nameAt s k := ⟨_, rfl⟩
          obtain ⟨ok, hok⟩ : ∃ ok, ok = (cutAt s k).2.2 := ⟨_, rfl⟩
          have HCUT : ∀ W, GM W → Calls Try.prog 50 #[.string tp, .string ⟨#[125]⟩] W fun e w' => e = .returned (.tuple #[.string nm, .string rs, .bool ok]) ∧ ∃ n, w' = W.drewN n := by
            rintro W ⟨m, hm⟩
            have := Try.strings_Cut tp ⟨#[125]⟩ m W htz hm
            rw [htl] at this
            rw [hnm, hrs, hok]
            exact this
          have HNL := Aside0.mk (show nm.size ≤ s.size by rw [hnm]; exact name_le s k)
          have hnl : (nm.size : Int) ≤ 1073741824 := by have := HNL.out; omega
          obtain ⟨vn, hvn⟩ : ∃ vn, vn = varNameB nm := ⟨_, rfl⟩
          have HVN : ∀ W, Calls Try.prog 32 #[.string nm] W fun e w' => e = .returned (.bool vn) ∧ W = w' := fun W => by rw [hvn]; exact varName_any nm W
          obtain ⟨pr, hpr⟩ : ∃ pr, pr = prefAt s k [36, 123] := ⟨_, rfl⟩
          rw [← hpr] at HH3
          have HRO := Aside0.mk (show refOk s k = (ok && pr && vn) by unfold refOk; rw [hok, hpr, hvn, hnm])
          have H3 := Aside0.mk HH3
          have H4 := Aside0.mk HT3
          have H5 := Aside0.mk HCUT
          have H6 := Aside0.mk HVN
          have HGMW := Aside0.mk (HGM.out t wr HT.out)
          have HH2' := Aside0.mk h2
          have HNM := Aside0.mk hnm
          clear HH3 HT3 HCUT HVN hnm hrs htp htl htz hok hvn hpr h2 HF
          cases hall : (ok && pr && vn) with
          | false =>
            have HS := Aside0.mk (show stepP F G s k t = (.error (101, (k : Int)), 0) by unfold stepP; rw [HC.out, if_neg (by omega), if_neg (by rw [HH2'.out]; decide), if_neg (by rw [HRO.out, hall]; decide)])
            have HE : Aside0 (R = .error (101, (k : Int))) := ⟨by rw [← HP.out]; exact piecesP_err hlt HS.out⟩
            cases ok <;> cases pr <;> cases vn <;> first | (simp at hall; done) | skip
            all_goals
              clear hall
              go_wp2_with (first
                | (go_at_call 49; refine (H2.out _).mono ?_; rintro e w' ⟨rfl, rfl⟩)
                | (go_at_call 49; refine (H3.out _).mono ?_; rintro e w' ⟨rfl, rfl⟩)
                | (go_at_call 51; refine (H4.out _).mono ?_; rintro e w' ⟨rfl, rfl⟩)
                | (go_at_call 50; refine (H5.out _ HGMW.out).mono ?_; rintro e w' ⟨rfl, n5, rfl⟩)
                | (go_at_call 32; refine (H6.out _).mono ?_; rintro e w' ⟨rfl, rfl⟩))
              rw [HE.out]
              exact ⟨rfl, rfl, HBAD.out t _ (HDR.out t _ n5 HT.out)⟩
          | true =>
            rw [Bool.and_eq_true, Bool.and_eq_true] at hall
            obtain ⟨⟨rfl, rfl⟩, rfl⟩ := hall
            have HS := Aside0.mk (show stepP F G s k t = (G t nm k, k + (nm.size + 2) + 1) by unfold stepP; rw [HC.out, if_neg (by omega), if_neg (by rw [HH2'.out]; decide), if_pos (by rw [HRO.out]; rfl), HNM.out])
            have HGC := Aside0.mk (fun n => HG.out t k (wr.drewN n) hlt (HDR.out t wr n HT.out))
            rw [← HNM.out] at HGC
            rcases hf : G t nm k with x | u
            · have HE : Aside0 (R = .error x) := ⟨by rw [← HP.out]; exact piecesP_err hlt (by rw [HS.out, hf])⟩
              rw [hf] at HGC
              clear hf
              go_wp2_with (first
                | (go_at_call 49; refine (H2.out _).mono ?_; rintro e w' ⟨rfl, rfl⟩)
                | (go_at_call 49; refine (H3.out _).mono ?_; rintro e w' ⟨rfl, rfl⟩)
                | (go_at_call 51; refine (H4.out _).mono ?_; rintro e w' ⟨rfl, rfl⟩)
                | (go_at_call 50; refine (H5.out _ HGMW.out).mono ?_; rintro e w' ⟨rfl, n5, rfl⟩)
                | (go_at_call 32; refine (H6.out _).mono ?_; rintro e w' ⟨rfl, rfl⟩)
                | (go_at_fn fg; go_loud (refine (HGC.out n5).mono ?_); rintro e w' ⟨rfl, hb⟩; have HB := Aside0.mk hb; clear hb))
              rw [HE.out]
              exact ⟨rfl, rfl, HB.out⟩
            · have HE : Aside0 (piecesP F G s d (k + (nm.size + 2) + 1) u = R) := ⟨by rw [← HP.out]; exact (piecesP_ok hlt (by rw [HS.out, hf])).symm⟩
              rw [hf] at HGC
              clear hf
              go_wp2_with (first
                | (go_at_call 49; refine (H2.out _).mono ?_; rintro e w' ⟨rfl, rfl⟩)
                | (go_at_call 49; refine (H3.out _).mono ?_; rintro e w' ⟨rfl, rfl⟩)
                | (go_at_call 51; refine (H4.out _).mono ?_; rintro e w' ⟨rfl, rfl⟩)
                | (go_at_call 50; refine (H5.out _ HGMW.out).mono ?_; rintro e w' ⟨rfl, n5, rfl⟩)
                | (go_at_call 32; refine (H6.out _).mono ?_; rintro e w' ⟨rfl, rfl⟩)
                | (go_at_fn fg; go_loud (refine (HGC.out n5).mono ?_); rintro e w' ⟨rfl, hb⟩; have HB := Aside0.mk hb; clear hb))
              go_roundg d
              case measure => omega
              case rel => exact ⟨k + (nm.size + 2) + 1, u, by go_num, by have := HNL.out; omega, by omega, HE.out, HB.out⟩
      · have HS := Aside0.mk (show stepP F G s k t = (F t (s[k].toNat : Int) k, k + 1) by unfold stepP; rw [HC.out, if_pos h36])
        have HFC := Aside0.mk (HF.out t (s[k].toNat : Int) k wr hc0 hc1 hlt HT.out)
        clear hc0 hc1
        rcases hf : F t (s[k].toNat : Int) k with x | u
        · have HE : Aside0 (R = .error x) := ⟨by rw [← HP.out]; exact piecesP_err hlt (by rw [HS.out, hf])⟩
          rw [hf] at HFC
          clear hf
          go_wp2_with (go_at_fn fs; refine HFC.out.mono ?_; rintro e w' ⟨rfl, hb⟩; have HB := Aside0.mk hb; clear hb)
          rw [HE.out]
          exact ⟨rfl, rfl, HB.out⟩
        · have HE : Aside0 (piecesP F G s d (k + 1) u = R) := ⟨by rw [← HP.out]; exact (piecesP_ok hlt (by rw [HS.out, hf])).symm⟩
          rw [hf] at HFC
          clear hf
          go_wp2_with (go_at_fn fs; refine HFC.out.mono ?_; rintro e w' ⟨rfl, hb⟩; have HB := Aside0.mk hb; clear hb)
          go_roundg d
          case measure => omega
          case rel => exact ⟨k + 1, u, by go_num, by omega, by omega, HE.out, HB.out⟩
    · have HE : Aside0 (R = .ok t) := ⟨by rw [← HP.out, piecesP_end F G s _ k t (by omega)]⟩
      go_wp2
      rw [HE.out]
      (try simp only [Exit.inBlock, Exit.then])
      first | go_end0 | refine bodyPost_ret (results_none rfl _ _ _) rfl ?_
      exact ⟨rfl, HT.out⟩
end
end Go.Proofs.Ytfkibolpanlelaa.Q
