/- Quoted texts over lists of bytes: no program in sight. -/
import Derived.Test.YtmkfjjfdbaaknaaDoorJAQ2
import Derived.Test.YtmkfjjfdbaaknaaDoorJAQ4
import Derived.Lib.TrimByte
namespace Go.Proofs.YtmkfjjfdbaaknaaDoor.Q
open Go Go.RowKit Go.Proofs.YtmkfjjfdbaaknaaDoorW.PrintWords Go.Proofs.YtmkfjjfdbaaknaaDoorW.PrintLast Go.Proofs.YtmkfjjfdbaaknaaDoorW.PrintMore
set_option linter.unusedVariables false
set_option linter.unusedSimpArgs false
def mkB (l : List UInt8) : ByteArray := ⟨l.toArray⟩
theorem mkB_list (l : List UInt8) : (mkB l).data.toList = l := rfl
theorem mkB_of (s : ByteArray) : mkB s.data.toList = s := rfl
theorem mkB_size (l : List UInt8) : (mkB l).size = l.length := Go.Lib.size_mk l
theorem bt_mk (l : List UInt8) (i : Nat) (c : UInt8) (h : l[i]? = some c) : bt (mkB l) (i : Int) = (c.toNat : Int) := by
  obtain ⟨hi, hc⟩ := List.getElem?_eq_some_iff.1 h
  have h1 : (i : Int).toNat < (mkB l).size := by rw [mkB_size]; exact hi
  rw [← bt_at (mkB l) (i : Int) h1]
  have h2 := Go.Lib.getElem_mk l i (by rw [mkB_size] at h1; simpa [ByteArray.size] using h1)
  rw [h] at h2
  injection h2 with h2
  rw [h2]
  rfl
theorem mkB_nil (l : List UInt8) : (mkB l).toList = l := by rw [ByteArray.toList_eq]; rfl
theorem mkB_extract (l : List UInt8) (i : Nat) : (mkB l).extract i (mkB l).size = mkB (l.drop i) := by
  apply ByteArray.ext
  apply Array.toList_inj.1
  rw [ByteArray.data_extract]
  show ((l.toArray).extract i (mkB l).size).toList = l.drop i
  rw [mkB_size]
  simp
  exact List.take_of_length_le (by simp)
theorem wrN (i : Nat) (h : i < 4611686018427387904) : wrap64 ((i : Int) + 1) = ((i + 1 : Nat) : Int) := by unfold wrap64; omega
theorem wrI (x : Int) (h : -4611686018427387904 < x) (h2 : x < 4611686018427387904) : wrap64 x = x := by unfold wrap64; omega
/-- A small one of base 16; -1: none. -/
def digU (c : UInt8) : Int := if 48 ≤ c.toNat ∧ c.toNat ≤ 57 then (c.toNat : Int) - 48 else if 97 ≤ c.toNat ∧ c.toNat ≤ 102 then (c.toNat : Int) - 87 else -1
theorem digU_range (c : UInt8) : -1 ≤ digU c ∧ digU c ≤ 15 := by
  unfold digU
  split
  · omega
  · split
    · omega
    · omega
theorem digit_ev (c : UInt8) : Ev (fun k => quote_digit.f k (c.toNat : Int)) (digU c) := by
  have hc := c.toNat_lt
  unfold digU
  by_cases h1 : 48 ≤ c.toNat
  · refine Ev.congr (f := fun k => quote_digit.j0 k (c.toNat : Int) (decide ((c.toNat : Int) ≤ 57))) (fun k => if_pos (by omega)) ?_
    by_cases h2 : c.toNat ≤ 57
    · rw [if_pos ⟨h1, h2⟩]
      refine Ev.step (fun k => by rw [quote_digit.j0, if_pos (by simp; omega), show ((c.toNat : Int) - 48) % 256 = (c.toNat : Int) - 48 from by omega]) (Ev.now _)
    · rw [if_neg (by omega)]
      by_cases h3 : 97 ≤ c.toNat ∧ c.toNat ≤ 102
      · rw [if_pos h3]
        refine Ev.step (fun k => by rw [quote_digit.j0, if_neg (by simp; omega), if_pos (by omega), if_pos (by omega), show ((c.toNat : Int) - 97) % 256 + 10 = (c.toNat : Int) - 87 from by omega]) (Ev.now _)
      · rw [if_neg h3]
        by_cases h4 : 97 ≤ c.toNat
        · refine Ev.step (fun k => by rw [quote_digit.j0, if_neg (by simp; omega), if_pos (by omega), if_neg (by omega)]) (Ev.now _)
        · refine Ev.step (fun k => by rw [quote_digit.j0, if_neg (by simp; omega), if_neg (by omega)]) (Ev.now _)
  · refine Ev.congr (f := fun k => quote_digit.j0 k (c.toNat : Int) false) (fun k => if_neg (by omega)) ?_
    rw [if_neg (by omega), if_neg (by omega)]
    refine Ev.step (fun k => by rw [quote_digit.j0, if_neg (by decide), if_neg (by omega)]) (Ev.now _)
def escX : List UInt8 → Int × Nat
  | a :: b :: _ => if 0 ≤ digU a ∧ 0 ≤ digU b then (16 * digU a + digU b, 3) else (0, 0)
  | _ => (0, 0)
def escC (c : UInt8) (r : List UInt8) : Int × Nat := if c.toNat = 34 ∨ c.toNat = 92 then ((c.toNat : Int), 1) else if c.toNat = 110 then (10, 1) else if c.toNat = 120 then escX r else (0, 0)
/-- What stands behind a backslash: the byte that is said, and how many bytes there are; 0: it is wrong. -/
def escL : List UInt8 → Int × Nat
  | [] => (0, 0)
  | c :: r => escC c r
theorem escX_le : ∀ l : List UInt8, (escX l).2 ≤ l.length + 1
  | [] => by simp [escX]
  | [_] => by simp [escX]
  | a :: b :: r => by
    show (if 0 ≤ digU a ∧ 0 ≤ digU b then (16 * digU a + digU b, 3) else (0, 0) : Int × Nat).2 ≤ r.length + 1 + 1 + 1
    split
    · show 3 ≤ _
      omega
    · show 0 ≤ _
      omega
theorem escL_le : ∀ l : List UInt8, (escL l).2 ≤ l.length
  | [] => Nat.le_refl _
  | c :: r => by
    show (escC c r).2 ≤ (c :: r).length
    have := escX_le r
    unfold escC
    split
    · simp
    · split
      · simp
      · split
        · simpa using this
        · simp
set_option maxHeartbeats 1000000 in
theorem escape_ev (R : List UInt8) (hR : R.length ≤ 1099511627776) : Ev (fun k => quote_escape.f k (mkB R)) ((escL R).1, ((escL R).2 : Int)) := by
  unfold quote_escape.f
  rw [mkB_nil, mkB_size]
  cases R with
  | nil =>
    exact Ev.congr (fun k => if_pos rfl) (Ev.now _)
  | cons c r =>
    have h0 : bt (mkB (c :: r)) 0 = (c.toNat : Int) := bt_mk _ 0 c rfl
    have hs : (mkB (c :: r)).size = r.length + 1 := mkB_size _
    refine Ev.congr (f := fun k => quote_escape.j0 k (mkB (c :: r)) (c.toNat : Int) (decide (c.toNat = 34 ∨ c.toNat = 92))) (fun k => ?_) ?_
    · rw [if_neg (by simp), if_pos (by simp), h0]
      by_cases h : c.toNat = 34
      · rw [if_pos (by omega), h]
        rfl
      · rw [if_neg (by omega)]
        congr 1
        rw [Bool.eq_iff_iff]
        simp [h]
        omega
    · show Ev (fun k => quote_escape.j0 k (mkB (c :: r)) (c.toNat : Int) (decide (c.toNat = 34 ∨ c.toNat = 92))) ((escC c r).1, ((escC c r).2 : Int))
      unfold escC
      by_cases h1 : c.toNat = 34 ∨ c.toNat = 92
      · rw [if_pos h1]
        refine Ev.step (fun k => by rw [quote_escape.j0, if_pos (decide_eq_true h1), hs, if_pos (by omega), h0]; rfl) (Ev.now _)
      · rw [if_neg h1]
        by_cases h2 : c.toNat = 110
        · rw [if_pos h2]
          refine Ev.step (fun k => by rw [quote_escape.j0, if_neg (by simpa using h1), if_pos (by omega)]; rfl) (Ev.now _)
        · rw [if_neg h2]
          by_cases h3 : c.toNat = 120
          · rw [if_pos h3]
            match r, hR, h0, hs with
            | [], _, h0, hs =>
              refine Ev.step (f := fun k => quote_escape.j1 k (mkB [c]) true) (fun k => by rw [quote_escape.j0, if_neg (by simpa using h1), if_neg (by omega), hs, if_pos (by simp), h0, if_pos (by omega), if_pos (by simp)]) ?_
              exact Ev.step (fun k => by rw [quote_escape.j1, if_pos rfl]; rfl) (Ev.now _)
            | [a], _, h0, hs =>
              refine Ev.step (f := fun k => quote_escape.j1 k (mkB [c, a]) true) (fun k => by rw [quote_escape.j0, if_neg (by simpa using h1), if_neg (by omega), hs, if_pos (by simp), h0, if_pos (by omega), if_pos (by simp)]) ?_
              exact Ev.step (fun k => by rw [quote_escape.j1, if_pos rfl]; rfl) (Ev.now _)
            | a :: b :: r', hR, h0, hs =>
              have b1 : bt (mkB (c :: a :: b :: r')) 1 = (a.toNat : Int) := bt_mk _ 1 a rfl
              have b2 : bt (mkB (c :: a :: b :: r')) 2 = (b.toNat : Int) := bt_mk _ 2 b rfl
              have hs' : (mkB (c :: a :: b :: r')).size = r'.length + 3 := hs
              refine Ev.step (f := fun k => (quote_digit.f k (a.toNat : Int)).bind fun t101 => (if t101 < 0 then (quote_escape.j1 k (mkB (c :: a :: b :: r')) true) else ((quote_digit.f k (b.toNat : Int)).bind fun t102 => (quote_escape.j1 k (mkB (c :: a :: b :: r')) (decide (t102 < 0)))))) (fun k => by
                rw [quote_escape.j0, if_neg (by simpa using h1), if_neg (by omega), hs', if_pos (by omega), h0, if_pos (by omega), if_neg (by omega), if_pos (by omega), b1]
                congr 1
                funext t
                by_cases ht : t < 0
                · rw [if_pos ht, if_pos ht]
                · rw [if_neg ht, if_neg ht, if_pos (by omega), b2]) (Ev.bind (digit_ev a) ?_)
              have ht : Ev (fun k => quote_escape.j1 k (mkB (c :: a :: b :: r')) true) ((0, 0) : Int × Int) := Ev.step (fun k => by rw [quote_escape.j1, if_pos rfl]) (Ev.now _)
              have ha := digU_range a
              have hb := digU_range b
              by_cases ha0 : digU a < 0
              · show Ev (fun k => _) ((if 0 ≤ digU a ∧ 0 ≤ digU b then (16 * digU a + digU b, 3) else (0, 0) : Int × Nat).1, (((if 0 ≤ digU a ∧ 0 ≤ digU b then (16 * digU a + digU b, 3) else (0, 0) : Int × Nat).2 : Nat) : Int))
                rw [if_neg (fun h => by omega)]
                exact Ev.congr (fun k => if_pos ha0) ht
              · refine Ev.congr (fun k => if_neg ha0) (Ev.bind (digit_ev b) ?_)
                by_cases hb0 : digU b < 0
                · show Ev (fun k => _) ((if 0 ≤ digU a ∧ 0 ≤ digU b then (16 * digU a + digU b, 3) else (0, 0) : Int × Nat).1, (((if 0 ≤ digU a ∧ 0 ≤ digU b then (16 * digU a + digU b, 3) else (0, 0) : Int × Nat).2 : Nat) : Int))
                  rw [if_neg (fun h => by omega), decide_eq_true hb0]
                  exact ht
                · show Ev (fun k => _) ((if 0 ≤ digU a ∧ 0 ≤ digU b then (16 * digU a + digU b, 3) else (0, 0) : Int × Nat).1, (((if 0 ≤ digU a ∧ 0 ≤ digU b then (16 * digU a + digU b, 3) else (0, 0) : Int × Nat).2 : Nat) : Int))
                  rw [if_pos (by omega), decide_eq_false hb0]
                  refine Ev.step (f := fun k => (quote_digit.f k (a.toNat : Int)).bind fun t103 => ((quote_digit.f k (b.toNat : Int)).bind fun t104 => (some ((wrap64 ((wrap64 (16 * t103)) + t104)) % 256, 3)))) (fun k => by
                    rw [quote_escape.j1, if_neg (by decide), hs', if_pos (by omega), b1]
                    congr 1
                    funext t
                    rw [if_pos (by omega), b2]) (Ev.bind (digit_ev a) (Ev.bind (digit_ev b) ?_))
                  rw [wrI (16 * digU a) (by omega) (by omega), wrI _ (by omega) (by omega), show (16 * digU a + digU b) % 256 = 16 * digU a + digU b from by omega]
                  exact Ev.now _
          · rw [if_neg h3]
            refine Ev.step (f := fun k => quote_escape.j1 k (mkB (c :: r)) true) (fun k => by rw [quote_escape.j0, if_neg (by simpa using h1), if_neg (by omega), hs, if_pos (by omega), h0, if_neg (by omega)]) ?_
            exact Ev.step (fun k => by rw [quote_escape.j1, if_pos rfl]; rfl) (Ev.now _)
/-- The rest of a quoted text, at a place: what it says and the place behind it; or the place that is wrong. -/
def readL : Nat → List UInt8 → List Int → Nat → ByteArray × Int × Bool
  | 0, l, _, at_ => (⟨#[]⟩, ((at_ + l.length : Nat) : Int), false)
  | n + 1, [], _, at_ => (⟨#[]⟩, (at_ : Int), false)
  | n + 1, c :: r, acc, at_ => if c.toNat = 34 then (strOfNums acc, ((at_ + 1 : Nat) : Int), true)
      else if c.toNat = 92 then (if (escL r).2 = 0 then (⟨#[]⟩, (at_ : Int), false) else readL n (r.drop (escL r).2) (acc ++ [(escL r).1]) (at_ + 1 + (escL r).2))
      else readL n r (acc ++ [(c.toNat : Int)]) (at_ + 1)
theorem readL_range : ∀ (n : Nat) (l : List UInt8) (acc : List Int) (at_ : Nat), (at_ : Int) ≤ (readL n l acc at_).2.1 ∧ (readL n l acc at_).2.1 ≤ ((at_ + l.length : Nat) : Int)
  | 0, l, acc, at_ => by
    unfold readL
    exact ⟨by show (at_ : Int) ≤ ((at_ + l.length : Nat) : Int); omega, Int.le_refl _⟩
  | n + 1, [], acc, at_ => by
    unfold readL
    exact ⟨Int.le_refl _, by show (at_ : Int) ≤ ((at_ + 0 : Nat) : Int); omega⟩
  | n + 1, c :: r, acc, at_ => by
    unfold readL
    rw [List.length_cons]
    split
    · exact ⟨by show (at_ : Int) ≤ ((at_ + 1 : Nat) : Int); omega, by show ((at_ + 1 : Nat) : Int) ≤ _; omega⟩
    · split
      · split
        · exact ⟨Int.le_refl _, by show (at_ : Int) ≤ _; omega⟩
        · have h := readL_range n (r.drop (escL r).2) (acc ++ [(escL r).1]) (at_ + 1 + (escL r).2)
          have hl := escL_le r
          rw [List.length_drop] at h
          omega
      · have h := readL_range n r (acc ++ [(c.toNat : Int)]) (at_ + 1)
        omega
theorem drop_cons (L : List UInt8) (i : Nat) (h : i < L.length) : L.drop i = L[i] :: L.drop (i + 1) := List.drop_eq_getElem_cons h
set_option maxHeartbeats 1000000 in
theorem read_l0 (L : List UInt8) (hL : L.length ≤ 1073741824) : ∀ (n at_ : Nat) (acc : List Int), at_ ≤ L.length → L.length ≤ n + at_ → acc.length ≤ at_ → Ev (fun k => quote_Read.l0 k (mkB L) acc (at_ : Int)) (readL n (L.drop at_) acc at_)
  | 0, at_, acc, h1, h2, h3 => by
    have h : at_ = L.length := by omega
    subst h
    rw [List.drop_length]
    refine Ev.step (fun k => by rw [quote_Read.l0, mkB_size, if_neg (by omega)]; rfl) (Ev.now _)
  | n + 1, at_, acc, h1, h2, h3 => by
    by_cases hlt : at_ < L.length
    · have hb : bt (mkB L) (at_ : Int) = (L[at_].toNat : Int) := bt_mk L at_ _ (List.getElem?_eq_getElem hlt)
      rw [drop_cons L at_ hlt]
      have hw := wrN at_ (by omega)
      unfold readL
      generalize hc : L[at_] = c at hb ⊢
      split
      · rename_i h34
        refine Ev.step (fun k => by rw [quote_Read.l0, mkB_size, if_pos (by omega), if_pos (by omega), hb, if_pos (by omega), hw]) (Ev.now _)
      · rename_i h34
        split
        · rename_i h92
          have hesc := escape_ev (L.drop (at_ + 1)) (by rw [List.length_drop]; omega)
          have hle := escL_le (L.drop (at_ + 1))
          rw [List.length_drop] at hle
          refine Ev.step (f := fun k => (quote_escape.f k (mkB (L.drop (at_ + 1)))).bind fun bt105 => (if bt105.2 = 0 then (some ((⟨#[]⟩ : ByteArray), (at_ : Int), false)) else (if acc.length < 140737488355328 then (quote_Read.l0 k (mkB L) (acc ++ [bt105.1]) (wrap64 ((wrap64 ((at_ : Int) + bt105.2)) + 1))) else (none)))) (fun k => by
            rw [quote_Read.l0, if_pos (by rw [mkB_size]; omega), if_pos (by omega), hb, if_neg (by omega), if_pos (by omega), hw, if_pos (by omega), if_pos (by rw [mkB_size]; omega), Int.toNat_natCast, mkB_extract]) (Ev.bind hesc ?_)
          generalize escL (L.drop (at_ + 1)) = e at hesc hle ⊢
          obtain ⟨v, n1⟩ := e
          show Ev _ (if n1 = 0 then ((⟨#[]⟩ : ByteArray), (at_ : Int), false) else readL n ((L.drop (at_ + 1)).drop n1) (acc ++ [v]) (at_ + 1 + n1))
          have hle' : n1 ≤ L.length - (at_ + 1) := hle
          by_cases h0 : n1 = 0
          · rw [if_pos h0]
            exact Ev.congr (fun k => if_pos (show (n1 : Int) = 0 by omega)) (Ev.now _)
          · rw [if_neg h0]
            have hw2 : wrap64 (wrap64 ((at_ : Int) + (n1 : Int)) + 1) = ((at_ + 1 + n1 : Nat) : Int) := by
              rw [wrI ((at_ : Int) + (n1 : Int)) (by omega) (by omega), wrI ((at_ : Int) + (n1 : Int) + 1) (by omega) (by omega)]
              omega
            refine Ev.congr (f := fun k => quote_Read.l0 k (mkB L) (acc ++ [v]) ((at_ + 1 + n1 : Nat) : Int)) (fun k => ?_) ?_
            · show (if (n1 : Int) = 0 then _ else (if acc.length < 140737488355328 then quote_Read.l0 k (mkB L) (acc ++ [v]) (wrap64 (wrap64 ((at_ : Int) + (n1 : Int)) + 1)) else none)) = _
              rw [if_neg (by omega), if_pos (by omega), hw2]
            · have ih := read_l0 L hL n (at_ + 1 + n1) (acc ++ [v]) (by omega) (by omega) (by simp; omega)
              rw [List.drop_drop]
              exact ih
        · rename_i h92
          refine Ev.step (f := fun k => quote_Read.l0 k (mkB L) (acc ++ [(c.toNat : Int)]) ((at_ + 1 : Nat) : Int)) (fun k => by
            rw [quote_Read.l0, mkB_size, if_pos (by omega), if_pos (by omega), hb, if_neg (by omega), if_neg (by omega), if_pos (by omega), hw]) ?_
          exact read_l0 L hL n (at_ + 1) _ (by omega) (by omega) (by simp; omega)
    · have h : at_ = L.length := by omega
      subst h
      rw [List.drop_length]
      refine Ev.step (fun k => by rw [quote_Read.l0, mkB_size, if_neg (by omega)]; rfl) (Ev.now _)
/-- The quoted text that begins at a place of s, told from that place on. -/
def quotedQ (s : ByteArray) (i : Nat) : ByteArray × Int × Bool := readL s.size (s.data.toList.drop (i + 1)) [] 1
theorem quotedQ_ev (s : ByteArray) (i : Nat) (hi : i < s.size) (hs : s.size ≤ 1073741824) : Ev (fun k => quote_Read.f k (s.extract i s.size)) (quotedQ s i) := by
  have hl : s.data.toList.length = s.size := rfl
  have e : s.extract i s.size = mkB (s.data.toList.drop i) := by
    have := mkB_extract s.data.toList i
    rwa [mkB_of] at this
  rw [e]
  have h := read_l0 (s.data.toList.drop i) (by rw [List.length_drop]; omega) s.size 1 [] (by rw [List.length_drop]; omega) (by rw [List.length_drop]; omega) (Nat.zero_le _)
  rw [List.drop_drop] at h
  exact h
theorem quotedQ_range (s : ByteArray) (i : Nat) (hi : i < s.size) : 0 ≤ (quotedQ s i).2.1 ∧ (i : Int) + (quotedQ s i).2.1 ≤ s.size := by
  have h := readL_range s.size (s.data.toList.drop (i + 1)) [] 1
  have hl : s.data.toList.length = s.size := rfl
  unfold quotedQ
  rw [List.length_drop, hl] at h
  omega
end Go.Proofs.YtmkfjjfdbaaknaaDoor.Q
