/- Statement VarsLong, with no program in sight: a value may grow by references up to its bound, and is refused past it, however it doubles. -/
import Derived.Test.YtfkibolpanlelaaBAQ11
import Derived.Test.YtfkibolpanlelaaBAVPure
import Derived.Test.YtfkibolpanlelaaBAVChainW
namespace Go.Proofs.Ytfkibolpanlelaa.Q
open Go Go.RowKit Go.Shelf Go.Proofs.YtfkibolpanlelaaW.PrintWords Go.Proofs.YtfkibolpanlelaaW.PrintLast Go.Proofs.YtfkibolpanlelaaW.PrintMore Go.Proofs.Ytfkibolpanlelaa.SMap
set_option linter.unusedVariables false
set_option linter.unusedSimpArgs false
/-- As far as a text's first bytes are no dollars. -/
theorem piecesP_pre {σ : Type} {F : σ → Int → Nat → Except Er σ} {G : σ → ByteArray → Nat → Except Er σ} {s : ByteArray} {n : Nat} (acc : Nat → σ) (hn : n ≤ s.size) (hne : ∀ i, i < n → bt s (i : Int) ≠ 36) (hF : ∀ k, k < n → F (acc k) (bt s (k : Int)) k = .ok (acc (k + 1))) :
    ∀ m k d, k + m = n → piecesP F G s (d + m) k (acc k) = piecesP F G s d n (acc n)
  | 0, k, d, h => by
    obtain rfl : k = n := by omega
    rfl
  | m + 1, k, d, h => by
    rw [show d + (m + 1) = d + m + 1 from rfl, piecesP_ok (t := acc (k + 1)) (j := k + 1) (show k < s.size by omega) (by unfold stepP; rw [if_pos (hne k (by omega)), hF k (by omega)])]
    exact piecesP_pre acc hn hne hF m (k + 1) d (by omega)
def X (m : Nat) : ByteArray := strOfNums (List.replicate m 120)
theorem bytes_X (m : Nat) : bytesOf (X m) = List.replicate m (120 : Int) := bytes_rep m 120
theorem X_size (m : Nat) : (X m).size = m := by rw [← bytesOf_length, bytes_X, List.length_replicate]
def dblT (j : Nat) : ByteArray := ⟨#[36, 123, (64 + j).toUInt8, 125, 36, 123, (64 + j).toUInt8, 125]⟩
def textL (j : Nat) : ByteArray := if j = 0 then ⟨#[120]⟩ else dblT j
def longL (k : Nat) : List SV := (List.range (k + 1)).map fun j => (⟨nmJ j, textL j⟩ : SV)
def dblOk (j : Nat) : Bool := decide (bt (dblT (j + 1)) 0 = 36) && decide (bt (dblT (j + 1)) 4 = 36) && !prefAt (dblT (j + 1)) 0 [36, 36] && !prefAt (dblT (j + 1)) 4 [36, 36] && refOk (dblT (j + 1)) 0 && refOk (dblT (j + 1)) 4 && decide (nameAt (dblT (j + 1)) 0 = nmJ j) && decide (nameAt (dblT (j + 1)) 4 = nmJ j) && decide ((nmJ j).size = 1)
theorem dbls_ok : (List.range 13).all dblOk = true := by kernel_rfl
section
variable {G : WS → ByteArray → Nat → Except Er WS} {j : Nat} (h : j < 13)
include h
theorem dbl_0 (st : WS) : stepP wkF G (dblT (j + 1)) 0 st = (G st (nmJ j) 0, 4) := by
  have := List.all_eq_true.1 dbls_ok j (List.mem_range.2 h)
  unfold dblOk at this
  simp only [Bool.and_eq_true, decide_eq_true_eq, Bool.not_eq_true'] at this
  obtain ⟨⟨⟨⟨⟨⟨⟨⟨a, b⟩, c⟩, d⟩, e⟩, f⟩, g⟩, i⟩, k⟩ := this
  unfold stepP
  rw [show ((0 : Nat) : Int) = 0 from rfl, a, if_neg (by decide), if_neg (by rw [c]; decide), if_pos e, g, k]
theorem dbl_4 (st : WS) : stepP wkF G (dblT (j + 1)) 4 st = (G st (nmJ j) 4, 8) := by
  have := List.all_eq_true.1 dbls_ok j (List.mem_range.2 h)
  unfold dblOk at this
  simp only [Bool.and_eq_true, decide_eq_true_eq, Bool.not_eq_true'] at this
  obtain ⟨⟨⟨⟨⟨⟨⟨⟨a, b⟩, c⟩, d⟩, e⟩, f⟩, g⟩, i⟩, k⟩ := this
  unfold stepP
  rw [show ((4 : Nat) : Int) = 4 from rfl, b, if_neg (by decide), if_neg (by rw [d]; decide), if_pos f, i, k]
theorem dbl_w {st t : WS} {r : Except Er WS} (h0 : G st (nmJ j) 0 = .ok t) (h4 : G t (nmJ j) 4 = r) : piecesOf wkF G (dblT (j + 1)) st = r := by
  unfold piecesOf
  rw [show (dblT (j + 1)).size + 1 = 9 from rfl, piecesP_ok (t := t) (j := 4) (show 0 < (dblT (j + 1)).size from by show 0 < 8; decide) (by rw [dbl_0 h, h0])]
  cases r with
  | error x => exact piecesP_err (j := 8) (show 4 < (dblT (j + 1)).size from by show 4 < 8; decide) (by rw [dbl_4 h, h4])
  | ok u =>
    rw [piecesP_ok (t := u) (j := 8) (show 4 < (dblT (j + 1)).size from by show 4 < 8; decide) (by rw [dbl_4 h, h4])]
    exact piecesP_end _ _ _ _ _ _ (Nat.le_refl _)
end
theorem long_find (K i : Nat) (hK : K ≤ 13) (hi : i ≤ K) : findV (longL K) (nmJ i) = some ⟨nmJ i, textL i⟩ := by
  unfold findV longL
  rw [List.find?_map]
  have : (List.range (K + 1)).find? ((fun v : SV => decide (v.f0 = nmJ i)) ∘ fun j => (⟨nmJ j, textL j⟩ : SV)) = some i := by
    rw [List.find?_range_eq_some]
    refine ⟨by simp, List.mem_range.2 (by omega), fun m hm => ?_⟩
    have := nm_ne (i := m) (j := i) (by omega) (by omega) (by omega)
    simpa using this
  rw [this]
  rfl
def Lf (K n : Nat) (dn : DN) : Prop := (∀ m, m < n → getDn dn (nmJ m) = some ⟨X (2 ^ m), (m : Int), false⟩) ∧ ∀ m, n ≤ m → m ≤ K → getDn dn (nmJ m) = none
theorem pow_le (m : Nat) (h : m ≤ 12) : 2 ^ m ≤ 4096 := Nat.le_trans (Nat.pow_le_pow_right (by decide) h) (by decide)
theorem long_one (K : Nat) (hK : K ≤ 13) (n : Nat) (hn : n ≤ K) (h12 : n ≤ 12) (dn : DN) (hd : Lf K n dn) : ∃ dn', oneP (longL K) dn (nmJ n) = .ok (X (2 ^ n), dn') ∧ Lf K (n + 1) dn' := by
  have hf := long_find K n hK hn
  obtain ⟨f, hf1⟩ := todo_pos hf (hd.2 n (Nat.le_refl _) hn)
  have hset : ∀ (dn2 : DN) (x y : VD), dn2 = setDn dn (nmJ n) x → y = ⟨X (2 ^ n), (n : Int), false⟩ → Lf K (n + 1) (setDn dn2 (nmJ n) y) := by
    rintro dn2 x y rfl rfl
    refine ⟨fun m hm => ?_, fun m h1 h2 => ?_⟩
    · by_cases e : m = n
      · subst e; rw [getDn_same]
      · rw [getDn_other _ (nm_ne (by omega) (by omega) e), getDn_other _ (nm_ne (by omega) (by omega) e), hd.1 m (by omega)]
    · rw [getDn_other _ (nm_ne (by omega) (by omega) (by omega)), getDn_other _ (nm_ne (by omega) (by omega) (by omega)), hd.2 m (by omega) h2]
  suffices h : ∃ st : WS, piecesOf wkF (wkG (workP (longL K) f) (longL K)) (textL n) ([], 0, setDn dn (nmJ n) zU) = .ok st ∧ strOfNums st.1 = X (2 ^ n) ∧ st.2.1 = (n : Int) ∧ st.2.2 = setDn dn (nmJ n) zU by
    obtain ⟨st, hp, e1, e2, e3⟩ := h
    have hw := work_ok hf hp
    rw [← hf1, e1, e2] at hw
    exact ⟨_, one_ok (hd.2 n (Nat.le_refl _) hn) hw, hset _ _ _ e3 rfl⟩
  by_cases h0 : n = 0
  · subst h0
    exact ⟨_, plain_w (X 1) (fun i hi => by rw [X_size] at hi; obtain rfl : i = 0 := (by omega); rw [bt_of, bytes_X]; decide) (by rw [X_size]; decide) _, nums_bytes (X 1), rfl, rfl⟩
  · obtain ⟨j, rfl⟩ : ∃ j, n = j + 1 := ⟨n - 1, by omega⟩
    have hj := long_find K j hK (by omega)
    have hp := pow_le (j + 1) h12
    have h2 : 2 ^ (j + 1) = 2 ^ j + 2 ^ j := by rw [Nat.pow_succ]; omega
    have hx : getDn (setDn dn (nmJ (j + 1)) zU) (nmJ j) = some ⟨X (2 ^ j), (j : Int), false⟩ := by
      rw [getDn_other _ (nm_ne (by omega) (by omega) (by omega)), hd.1 j (by omega)]
    have g0 : wkG (workP (longL K) f) (longL K) ([], 0, setDn dn (nmJ (j + 1)) zU) (nmJ j) 0 = .ok (List.replicate (2 ^ j) 120, (j : Int) + 1, setDn dn (nmJ (j + 1)) zU) := by
      rw [g_known hj hx]
      unfold useD
      rw [if_neg (by rintro (h | h); cases h; have h : (j : Int) = 16 := h; omega), if_neg (by show ¬ 4096 < ([] ++ bytesOf (X (2 ^ j))).length; rw [bytes_X]; simp; omega)]
      show Except.ok ([] ++ bytesOf (X (2 ^ j)), max (0 : Int) ((j : Int) + 1), _) = _
      rw [bytes_X, List.nil_append, Int.max_eq_right (by omega)]
    have g4 : wkG (workP (longL K) f) (longL K) (List.replicate (2 ^ j) 120, (j : Int) + 1, setDn dn (nmJ (j + 1)) zU) (nmJ j) 4 = .ok (List.replicate (2 ^ (j + 1)) 120, (j : Int) + 1, setDn dn (nmJ (j + 1)) zU) := by
      rw [g_known hj hx]
      unfold useD
      rw [if_neg (by rintro (h | h); cases h; have h : (j : Int) = 16 := h; omega), if_neg (by show ¬ 4096 < (List.replicate (2 ^ j) (120 : Int) ++ bytesOf (X (2 ^ j))).length; rw [bytes_X]; simp; omega)]
      show Except.ok (List.replicate (2 ^ j) (120 : Int) ++ bytesOf (X (2 ^ j)), max ((j : Int) + 1) ((j : Int) + 1), _) = _
      rw [bytes_X, List.replicate_append_replicate, ← h2, Int.max_eq_right (by omega)]
    exact ⟨_, dbl_w (by omega) g0 g4, rfl, by simp, rfl⟩
theorem long_bad (dn : DN) (hd : Lf 13 13 dn) : oneP (longL 13) dn (nmJ 13) = .error 104 := by
  have hf := long_find 13 13 (by decide) (by decide)
  obtain ⟨f, hf1⟩ := todo_pos hf (hd.2 13 (Nat.le_refl _) (Nat.le_refl _))
  have hj := long_find 13 12 (by decide) (by decide)
  have hx : getDn (setDn dn (nmJ 13) zU) (nmJ 12) = some ⟨X (2 ^ 12), ((12 : Nat) : Int), false⟩ := by
    rw [getDn_other _ (nm_ne (by decide) (by decide) (by decide)), hd.1 12 (by decide)]
  have g0 : wkG (workP (longL 13) f) (longL 13) ([], 0, setDn dn (nmJ 13) zU) (nmJ 12) 0 = .ok (bytesOf (X (2 ^ 12)), 13, setDn dn (nmJ 13) zU) := by
    rw [g_known hj hx]
    unfold useD
    rw [if_neg (by rintro (h | h); cases h; exact absurd h (by decide)), if_neg (by show ¬ 4096 < ([] ++ bytesOf (X (2 ^ 12))).length; rw [List.nil_append, bytesOf_length, X_size]; decide)]
    rfl
  have g4 : wkG (workP (longL 13) f) (longL 13) (bytesOf (X (2 ^ 12)), 13, setDn dn (nmJ 13) zU) (nmJ 12) 4 = .error (104, 4) := by
    rw [g_known hj hx]
    unfold useD
    rw [if_neg (by rintro (h | h); cases h; exact absurd h (by decide)), if_pos (by show 4096 < (bytesOf (X (2 ^ 12)) ++ bytesOf (X (2 ^ 12))).length; rw [List.length_append, bytesOf_length, X_size]; decide)]
    rfl
  exact one_bad (hd.2 13 (Nat.le_refl _) (Nat.le_refl _)) (by rw [hf1]; exact work_bad hf (dbl_w (by decide) g0 g4))
def gL (j : Nat) : SV := ⟨nmJ j, X (2 ^ j)⟩
theorem long_run (K : Nat) (hK : K ≤ 13) (n : Nat) (hn : n ≤ K + 1) (h13 : n ≤ 13) (R : Except (Nat × Int) (List SV)) (hfin : ∀ dn, Lf K n dn → solveP (longL K) dn ((List.range n).map gL) ((longL K).drop n) n = R) :
    ∀ (d i : Nat) (dn : DN), i + d = n → Lf K i dn → solveP (longL K) dn ((List.range i).map gL) ((longL K).drop i) i = R
  | 0, i, dn, h, hd => by
    obtain rfl : i = n := by omega
    exact hfin dn hd
  | d + 1, i, dn, h, hd => by
    have hi : i < (longL K).length := by simp [longL]; omega
    have he : (longL K)[i] = ⟨nmJ i, textL i⟩ := by simp [longL]
    obtain ⟨dn', h1, h2⟩ := long_one K hK i (by omega) (by omega) dn hd
    rw [List.drop_eq_getElem_cons hi, he, solveP, h1]
    have ih := long_run K hK n hn h13 R hfin d (i + 1) dn' (by omega) h2
    rw [List.range_succ, List.map_append] at ih
    exact ih
def namesOk (k : Nat) : Bool := decide (chkV [] (longL k) = none)
theorem names_ok : (List.range 14).all namesOk = true := by kernel_rfl
theorem long_chk (K : Nat) (hK : K ≤ 13) : chkV [] (longL K) = none := of_decide_eq_true (List.all_eq_true.1 names_ok K (List.mem_range.2 (by omega)))
theorem long_le (K : Nat) (hK : K ≤ 12) : resolveP (longL K) = ((List.range (K + 1)).map gL, 0, 0) := by
  have h0 : Lf K 0 [] := ⟨fun m hm => absurd hm (Nat.not_lt_zero m), fun _ _ _ => rfl⟩
  have := long_run K (by omega) (K + 1) (Nat.le_refl _) (by omega) (.ok ((List.range (K + 1)).map gL)) (fun dn _ => by rw [List.drop_eq_nil_of_le (by simp [longL]), solveP]) (K + 1) 0 [] (by omega) h0
  rw [List.drop_zero] at this
  unfold resolveP
  rw [if_neg (by simp [longL]; omega), long_chk K (by omega)]
  have this : solveP (longL K) [] [] (longL K) 0 = _ := this
  rw [this]
theorem long_13 : resolveP (longL 13) = ([], 13, 104) := by
  have h0 : Lf 13 0 [] := ⟨fun m hm => absurd hm (Nat.not_lt_zero m), fun _ _ _ => rfl⟩
  have := long_run 13 (by decide) 13 (by decide) (by decide) (.error (13, 104)) (fun dn hd => by
    have hi : 13 < (longL 13).length := by simp [longL]
    have he : (longL 13)[13] = ⟨nmJ 13, textL 13⟩ := by simp [longL]
    rw [List.drop_eq_getElem_cons hi, he, solveP, long_bad dn hd]) 13 0 [] (by decide) h0
  rw [List.drop_zero] at this
  unfold resolveP
  rw [if_neg (by simp [longL]), long_chk 13 (by decide)]
  have this : solveP (longL 13) [] [] (longL 13) 0 = _ := this
  rw [this]
  rfl
def padS (n : Nat) : ByteArray := (strOfNums (List.replicate n 121)) ++ (⟨#[36, 123, 65, 125]⟩ : ByteArray)
theorem pad_bytes (n : Nat) : bytesOf (padS n) = List.replicate n (121 : Int) ++ [36, 123, 65, 125] := by
  unfold padS
  rw [bytes_app]
  congr 1
  exact bytes_rep n 121
theorem pad_size (n : Nat) : (padS n).size = n + 4 := by rw [← bytesOf_length, pad_bytes]; simp
theorem pad_bt (n i : Nat) (h : i < n) : bt (padS n) (i : Int) = 121 := by
  rw [bt_of, pad_bytes, List.getD_eq_getElem?_getD, List.getElem?_append_left (by simpa using h)]
  simp [h]
theorem pad_from (n : Nat) : (fromB (padS n) n).data.toList = [36, 123, 65, 125] := by
  rw [from_list]
  unfold padS
  rw [ByteArray.data_append]
  show List.drop n ((strOfNums (List.replicate n 121)).data ++ #[36, 123, 65, 125]).toList = _
  rw [Array.toList_append, List.drop_left' (by simp [strOfNums])]
theorem pad_step {F : List Int → Int → Nat → Except Er (List Int)} {G : List Int → ByteArray → Nat → Except Er (List Int)} (n : Nat) (st : List Int) : stepP F G (padS n) n st = (G st (nmJ 0) n, n + 3 + 1) := by
  have hb : bt (padS n) (n : Int) = 36 := by
    rw [bt_of, pad_bytes, List.getD_eq_getElem?_getD, List.getElem?_append_right (by simp)]
    simp
  have hn : nameAt (padS n) n = nmJ 0 := by
    unfold nameAt cutAt
    rw [pad_from]
    kernel_rfl
  have hr : refOk (padS n) n = true := by
    unfold refOk
    rw [hn]
    unfold cutAt prefAt
    rw [pad_from]
    kernel_rfl
  unfold stepP
  rw [hb, if_neg (by decide), if_neg (by unfold prefAt; rw [pad_from]; decide), if_pos hr, hn]
  rfl
def oneL : List SV := [gL 0]
theorem pad_pre (n m : Nat) (h1 : m ≤ n) (h2 : m ≤ 4096) (G : List Int → ByteArray → Nat → Except Er (List Int)) (d : Nat) : piecesP gathF G (padS n) (d + m) 0 [] = piecesP gathF G (padS n) d m (List.replicate m 121) :=
  piecesP_pre (F := gathF) (G := G) (n := m) (fun k => List.replicate k (121 : Int)) (by rw [pad_size]; omega) (fun i hi => by rw [pad_bt n i (by omega)]; decide) (fun k hk => by
    rw [pad_bt n k (by omega)]
    unfold gathF
    rw [if_neg (by simp; omega), ← List.replicate_succ']) m 0 d (by omega)
theorem ref_one (st : List Int) (i : Nat) : refF oneL st (nmJ 0) i = if 4096 < st.length + 1 then .error (104, (i : Int)) else .ok (st ++ [120]) := by
  unfold refF
  rw [show getV oneL (nmJ 0) = some (X 1) from by unfold getV oneL; rw [List.find?_cons_of_pos (by simp [gL])]; rfl]
  show (if 4096 < (st ++ bytesOf (X 1)).length then _ else _) = _
  rw [bytes_X, List.length_append]
  rfl
theorem pad_4095 : (expandP (padS 4095) oneL).2.2 = 0 ∧ (expandP (padS 4095) oneL).1.size = 4096 := by
  have : piecesOf gathF (refF oneL) (padS 4095) [] = .ok (List.replicate 4095 121 ++ [120]) := by
    unfold piecesOf
    rw [pad_size, show 4095 + 4 + 1 = 5 + 4095 from rfl, pad_pre 4095 4095 (Nat.le_refl _) (by decide)]
    rw [piecesP_ok (t := List.replicate 4095 121 ++ [120]) (j := 4095 + 3 + 1) (show 4095 < (padS 4095).size by rw [pad_size]; decide) (by rw [pad_step, ref_one, if_neg (by rw [List.length_replicate]; decide)])]
    exact piecesP_end _ _ _ _ _ _ (by rw [pad_size]; decide)
  unfold expandP
  rw [this, expandOf_ok]
  have hz : (strOfNums (List.replicate 4095 (121 : Int) ++ [120])).size = 4096 := by rw [nums_size, List.length_append, List.length_replicate]; rfl
  exact ⟨rfl, hz⟩
theorem pad_4096 : expandP (padS 4096) oneL = (⟨#[]⟩, 4096, 104) := by
  have : piecesOf gathF (refF oneL) (padS 4096) [] = .error (104, 4096) := by
    unfold piecesOf
    rw [pad_size, show 4096 + 4 + 1 = 5 + 4096 from rfl, pad_pre 4096 4096 (Nat.le_refl _) (by decide)]
    exact piecesP_err (j := 4096 + 3 + 1) (show 4096 < (padS 4096).size by rw [pad_size]; decide) (by rw [pad_step, ref_one, if_pos (by rw [List.length_replicate]; decide)]; rfl)
  unfold expandP
  rw [this, expandOf_bad]
theorem pad_4097 : expandP (padS 4097) oneL = (⟨#[]⟩, 4096, 104) := by
  have : piecesOf gathF (refF oneL) (padS 4097) [] = .error (104, 4096) := by
    unfold piecesOf
    rw [pad_size, show 4097 + 4 + 1 = 6 + 4096 from rfl, pad_pre 4097 4096 (by decide) (by decide)]
    refine piecesP_err (j := 4097) (show 4096 < (padS 4097).size by rw [pad_size]; decide) ?_
    unfold stepP
    rw [pad_bt 4097 4096 (by decide), if_pos (by decide)]
    unfold gathF
    rw [if_pos (by rw [List.length_append, List.length_replicate]; decide)]
    rfl
  unfold expandP
  rw [this, expandOf_bad]
theorem lo_l1 (n : Nat) (hn : n = 4095 ∨ n = 4096 ∨ n = 4097) (x : List SV) (hx : x.take 1 = oneL) (h1 : 1 ≤ x.length) : ∀ (d i : Nat), i + d = n → Ev (fun k => shuttlelaw10_VarsLong.l1 k x (List.replicate i 121 ++ List.replicate d 0) (i : Int)) true
  | 0, i, h => by
    obtain rfl : i = n := by omega
    rw [List.replicate_zero, List.append_nil]
    have hs : (strOfNums (List.replicate i (121 : Int))).size = i := by rw [nums_size, List.length_replicate]
    have he : vars_Expand.f ((strOfNums (List.replicate i 121)) ++ (⟨#[36, 123, 65, 125]⟩ : ByteArray)) (x.take 1) = some (expandP (padS i) oneL) := by
      rw [hx]
      exact exp_ev (padS i) oneL (by rw [pad_size]; omega) rfl
    have hf : Ev (fun k => if ((List.replicate i (121 : Int)).length : Int) ≥ 4096 then (if (expandP (padS i) oneL).2.2 = 104 then (if (expandP (padS i) oneL).1.toList = ([] : List UInt8) then (if (expandP (padS i) oneL).2.1 = 4096 then ((shuttlelaw10_awake.f k).bind fun t412 => (some t412)) else (some false)) else (some false)) else (some false)) else (if (expandP (padS i) oneL).2.2 = 0 then (if ((expandP (padS i) oneL).1.size : Int) = 4096 then ((shuttlelaw10_awake.f k).bind fun t413 => (some t413)) else (some false)) else (some false))) true := by
      rcases hn with rfl | rfl | rfl
      · refine Ev.congr (fun k => by rw [if_neg (by rw [List.length_replicate]; decide), if_pos pad_4095.1, if_pos (by rw [pad_4095.2]; rfl)]) (Ev.bind awake_ev (Ev.now _))
      · rw [pad_4096]
        refine Ev.congr (fun k => by rw [if_pos (by rw [List.length_replicate]; decide), if_pos rfl, if_pos (by show (⟨#[]⟩ : ByteArray).toList = []; exact ByteArray.toList_empty)]) (Ev.congr (fun k => if_pos rfl) (Ev.bind awake_ev (Ev.now _)))
      · rw [pad_4097]
        refine Ev.congr (fun k => by rw [if_pos (by rw [List.length_replicate]; decide), if_pos rfl, if_pos (by show (⟨#[]⟩ : ByteArray).toList = []; exact ByteArray.toList_empty)]) (Ev.congr (fun k => if_pos rfl) (Ev.bind awake_ev (Ev.now _)))
    exact Ev.step (fun k => by rw [shuttlelaw10_VarsLong.l1, if_neg (by rw [List.length_replicate]; omega), if_pos (by rw [hs]; omega), if_pos (by omega), he, Option.bind_some]) hf
  | d + 1, i, h => by
    have hl : (i : Int) < ((List.replicate i (121 : Int) ++ List.replicate (d + 1) 0).length : Int) := by simp; omega
    have hset : (List.replicate i (121 : Int) ++ List.replicate (d + 1) 0).set ((i : Int)).toNat 121 = List.replicate (i + 1) 121 ++ List.replicate d (0 : Int) := by
      rw [Int.toNat_natCast, List.set_append_right _ _ (by simp), List.length_replicate, Nat.sub_self, List.replicate_succ, List.set_cons_zero, List.replicate_succ', List.append_assoc]
      rfl
    exact Ev.step (fun k => by rw [shuttlelaw10_VarsLong.l1, if_pos hl, if_pos (by omega), hset, wrap_up (by omega)]) (lo_l1 n hn x hx h1 d (i + 1) (by omega))
theorem lo_j1 (a : Int) (x : List SV) (hx : x.take 1 = oneL) (h1 : 1 ≤ x.length) : Ev (fun k => shuttlelaw10_VarsLong.j1 k a x false) true := by
  obtain ⟨m, hm⟩ := low_nat a
  have hw : wrap64 (4095 + Int.tmod (m : Int) 3) = ((4095 + m % 3 : Nat) : Int) := by
    rw [show Int.tmod (m : Int) 3 = ((m % 3 : Nat) : Int) from rfl]
    unfold wrap64
    omega
  refine Ev.step (fun k => by rw [shuttlelaw10_VarsLong.j1, if_neg (by decide), hm, Option.bind_some, hw, if_pos (by omega), if_pos (by rw [Int.toNat_natCast]; omega), Int.toNat_natCast]) ?_
  exact lo_l1 (4095 + m % 3) (by omega) x hx h1 (4095 + m % 3) 0 (by omega)
def L26 : ByteArray := ⟨#[65, 66, 67, 68, 69, 70, 71, 72, 73, 74, 75, 76, 77, 78, 79, 80, 81, 82, 83, 84, 85, 86, 87, 88, 89, 90]⟩
def letOk (j : Nat) : Bool :=
  decide (L26.extract (((j + 1 : Nat) : Int)).toNat (wrap64 (((j + 1 : Nat) : Int) + 1)).toNat = nmJ (j + 1)) &&
  decide (((((⟨#[36, 123]⟩ : ByteArray) ++ (L26.extract (wrap64 (((j + 1 : Nat) : Int) - 1)).toNat (((j + 1 : Nat) : Int)).toNat)) ++ (⟨#[125, 36, 123]⟩ : ByteArray)) ++ (L26.extract (wrap64 (((j + 1 : Nat) : Int) - 1)).toNat (((j + 1 : Nat) : Int)).toNat)) ++ (⟨#[125]⟩ : ByteArray) = dblT (j + 1)) &&
  decide ((L26.extract (wrap64 (((j + 1 : Nat) : Int) - 1)).toNat (((j + 1 : Nat) : Int)).toNat).size = 1)
theorem lets_ok : (List.range 13).all letOk = true := by kernel_rfl
theorem lo_end (a : Int) (K : Nat) (hK : K ≤ 13) : Ev (fun k => shuttlelaw10_VarsLong.l0 k a (K : Int) ((2 ^ K : Nat) : Int) (longL K) L26 ((K + 1 : Nat) : Int)) true := by
  have hlen : (longL K).length = K + 1 := by simp [longL]
  have hsm : smallV (longL K) = true := smallV_of fun v hv => by
    obtain ⟨j, _, rfl⟩ := List.mem_map.1 hv
    show (textL j).size ≤ _
    unfold textL
    split
    · decide
    · show 8 ≤ _; decide
  have hcp := copy_ev (longL K) (by rw [hlen]; omega)
  by_cases h13 : K = 13
  · subst h13
    refine Ev.step (fun k => by rw [shuttlelaw10_VarsLong.l0, if_neg (by omega), hcp, Option.bind_some, res_ev _ hsm, Option.bind_some, long_13, if_pos (by decide), if_pos rfl, if_pos rfl]) ?_
    exact Ev.congr (fun k => if_pos rfl) (Ev.bind awake_ev (Ev.now _))
  · have hp := pow_le K (by omega)
    have hl2 : ((List.range (K + 1)).map gL).length = K + 1 := by simp
    have hat : (rd_T41 ((List.range (K + 1)).map gL) (K : Int)).f1.size = 2 ^ K := by
      rw [rd_var _ _ (by rw [hl2]; omega)]
      simp [gL, X_size]
    have hne : ((((rd_T41 ((List.range (K + 1)).map gL) (K : Int)).f1).size : Int) != ((2 ^ K : Nat) : Int)) = false := by rw [hat]; simp
    refine Ev.step (fun k => by rw [shuttlelaw10_VarsLong.l0, if_neg (by omega), hcp, Option.bind_some, res_ev _ hsm, Option.bind_some, long_le K (by omega), if_neg (by omega), if_pos rfl, if_pos (by show (((List.range (K + 1)).map gL).length : Int) = _; rw [hl2, wrap_up (by omega)]), if_pos (by omega), if_pos (by show (K : Int) < (((List.range (K + 1)).map gL).length : Int); rw [hl2]; omega)]) ?_
    refine Ev.congr (fun k => congrArg (shuttlelaw10_VarsLong.j1 k a ((List.range (K + 1)).map gL)) hne) ?_
    refine lo_j1 a _ ?_ (by rw [hl2]; omega)
    rw [List.range_succ_eq_map]
    rfl
theorem lo_l0 (a : Int) (K : Nat) (hK : K ≤ 13) : ∀ (d i : Nat), i + d = K → Ev (fun k => shuttlelaw10_VarsLong.l0 k a (K : Int) ((2 ^ i : Nat) : Int) (longL i) L26 ((i + 1 : Nat) : Int)) true
  | 0, i, h => by
    obtain rfl : i = K := by omega
    exact lo_end a i hK
  | d + 1, i, h => by
    have hk := List.all_eq_true.1 lets_ok i (List.mem_range.2 (by omega))
    unfold letOk at hk
    simp only [Bool.and_eq_true, decide_eq_true_eq] at hk
    obtain ⟨⟨k1, k2⟩, k3⟩ := hk
    have hz : L26.size = 26 := rfl
    have w1 : wrap64 (((i + 1 : Nat) : Int) + 1) = ((i + 1 + 1 : Nat) : Int) := wrap_up (by omega)
    have w2 : wrap64 (((i + 1 : Nat) : Int) - 1) = (i : Int) := by unfold wrap64; omega
    have hp := pow_le i (by omega)
    have w3 : wrap64 (2 * ((2 ^ i : Nat) : Int)) = ((2 ^ (i + 1) : Nat) : Int) := by
      rw [Nat.pow_succ]
      unfold wrap64
      omega
    have ih := lo_l0 a K hK d (i + 1) (by omega)
    have e1 : longL (i + 1) = longL i ++ [⟨nmJ (i + 1), dblT (i + 1)⟩] := by
      unfold longL
      rw [List.range_succ, List.map_append]
      rfl
    rw [e1] at ih
    refine Ev.step (fun k => by
      rw [shuttlelaw10_VarsLong.l0, if_pos (by omega), if_pos (by omega), if_pos (by omega), if_pos (by rw [w1, hz]; omega), if_pos (by omega), if_pos (by omega), if_pos (by rw [hz]; omega), if_pos (by rw [k3]; omega),
        if_pos (by rw [ByteArray.size_append, k3]; show 2 + 1 + 3 ≤ _; omega), if_pos (by rw [ByteArray.size_append, ByteArray.size_append, k3]; show 2 + 1 + 3 + 1 ≤ _; omega), if_pos (by rw [ByteArray.size_append, ByteArray.size_append, ByteArray.size_append, k3]; show 2 + 1 + 3 + 1 + 1 ≤ _; omega), if_pos (by simp [longL]; omega), k1, k2, w3, w1]) ih
end Go.Proofs.Ytfkibolpanlelaa.Q
namespace Go.Proofs.Ytfkibolpanlelaa.Pure
open Go.RowKit Go.Proofs.Ytfkibolpanlelaa.Q Go.Proofs.YtfkibolpanlelaaW.PrintWords Go.Proofs.YtfkibolpanlelaaW.PrintLast
theorem VarsLong : shuttlelaw10_VarsLong.Pure := fun a b _ _ => Ev.rounds (by
  obtain ⟨m, hm⟩ := low_nat a
  refine Ev.congr (fun k => by
    show (shuttlelaw0_Low.f a).bind _ = _
    rw [hm, Option.bind_some, show Int.tmod (m : Int) 14 = ((m % 14 : Nat) : Int) from rfl]) ?_
  exact lo_l0 b (m % 14) (by omega) (m % 14) 0 (by omega))
end Go.Proofs.Ytfkibolpanlelaa.Pure
