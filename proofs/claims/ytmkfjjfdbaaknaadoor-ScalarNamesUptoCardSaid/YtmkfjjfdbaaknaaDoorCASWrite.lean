/- Quoted texts are written, over lists of bytes; plain texts; names: no program in sight. -/
import Derived.Test.YtmkfjjfdbaaknaaDoorCASAw
namespace Go.Proofs.YtmkfjjfdbaaknaaDoor.Q
open Go Go.RowKit Go.Proofs.YtmkfjjfdbaaknaaDoorW.PrintWords Go.Proofs.YtmkfjjfdbaaknaaDoorW.PrintLast Go.Proofs.YtmkfjjfdbaaknaaDoorW.PrintMore
set_option linter.unusedVariables false
set_option linter.unusedSimpArgs false
section
variable (L : List UInt8) (hL : L.length ≤ 1073741824)
include hL
end
def allOk (s : ByteArray) (i : Nat) : Bool := allFrom (fun c => decide (32 ≤ c) && decide (c ≠ 127)) s i
/-- Would a text, written bare, be read as itself? -/
def plainB (s : ByteArray) : Bool :=
  if s.toList = [] then false else if bt s 0 = 32 ∨ bt s 0 = 34 ∨ bt s 0 = 35 ∨ bt s ((s.size : Int) - 1) = 32 ∨ s.toList = [91, 93] ∨ s.toList = [123, 125] ∨ Lib.contains s.data.toList [32, 35] = true then false else allOk s 0
theorem plain_l0 (s : ByteArray) (hs : s.size ≤ 1073741824) : ∀ d i : Nat, i + d = s.size → Ev (fun k => scalar_Plain.l0 k s (i : Int)) (allOk s i)
  | 0, i, h => by
    unfold allOk
    rw [allFrom_end _ _ _ (by omega)]
    exact Ev.step (fun k => by rw [scalar_Plain.l0, if_neg (by omega)]) (Ev.now _)
  | d + 1, i, h => by
    have ih := plain_l0 s hs d (i + 1) (by omega)
    unfold allOk at ih ⊢
    rw [allFrom_bt _ _ _ (by omega)]
    have hstep : ∀ k, scalar_Plain.l0 (k + 1) s (i : Int) = (if (bt s (i : Int)) < 32 then (some false) else (if (bt s (i : Int)) = 127 then (some false) else (scalar_Plain.l0 k s ((i + 1 : Nat) : Int)))) := fun k => by
      rw [scalar_Plain.l0, if_pos (show (i : Int) < (s.size : Int) by omega), if_pos (show 0 ≤ (i : Int) by omega), wrN i (by omega)]
    generalize bt s (i : Int) = c at hstep ⊢
    by_cases h1 : c < 32
    · rw [show decide (32 ≤ c) = false from decide_eq_false (by omega), Bool.false_and, Bool.false_and]
      exact Ev.step (fun k => by rw [hstep, if_pos h1]) (Ev.now _)
    · rw [show decide (32 ≤ c) = true from decide_eq_true (by omega), Bool.true_and]
      by_cases h2 : c = 127
      · rw [show decide (c ≠ 127) = false from decide_eq_false (fun h => h h2), Bool.false_and]
        exact Ev.step (fun k => by rw [hstep, if_neg h1, if_pos h2]) (Ev.now _)
      · rw [show decide (c ≠ 127) = true from decide_eq_true h2, Bool.true_and]
        exact Ev.step (fun k => by rw [hstep, if_neg h1, if_neg h2]) ih
theorem plain_ev (s : ByteArray) (hs : s.size ≤ 1073741824) : Ev (fun k => scalar_Plain.f k s) (plainB s) := by
  have hbad : Ev (fun k => scalar_Plain.j0 k s true) false := Ev.step (fun k => by rw [scalar_Plain.j0, if_pos rfl]) (Ev.now _)
  unfold plainB
  by_cases h0 : s.toList = []
  · rw [if_pos h0]
    exact Ev.congr (fun k => by rw [scalar_Plain.f, if_pos h0]) hbad
  · rw [if_neg h0]
    have hz : 0 < s.size := by
      have := mt (empty_iff s).2 h0
      omega
    have hw : wrap64 ((s.size : Int) - 1) = (s.size : Int) - 1 := wrI _ (by omega) (by omega)
    have hf : ∀ k, scalar_Plain.f k s = (if (bt s 0) = 32 then (scalar_Plain.j0 k s true) else (if (bt s 0) = 34 then (scalar_Plain.j0 k s true) else (if (bt s 0) = 35 then (scalar_Plain.j0 k s true) else (if (bt s ((s.size : Int) - 1)) = 32 then (scalar_Plain.j0 k s true) else (if s.toList = ([91, 93] : List UInt8) then (scalar_Plain.j0 k s true) else (if s.toList = ([123, 125] : List UInt8) then (scalar_Plain.j0 k s true) else (scalar_Plain.j0 k s (Lib.contains s.data.toList [32, 35])))))))) := fun k => by
      rw [scalar_Plain.f, if_neg h0, if_pos (show (0 : Int) < (s.size : Int) by omega), hw, if_pos (show (0 : Int) ≤ (s.size : Int) - 1 by omega), if_pos (show (s.size : Int) - 1 < (s.size : Int) by omega)]
      have hc : strings_Contains.f s (⟨#[32, 35]⟩ : ByteArray) = some (Lib.contains s.data.toList [32, 35]) := if_pos (by omega)
      rw [hc]
      rfl
    by_cases h1 : bt s 0 = 32
    · rw [if_pos (.inl h1)]
      exact Ev.congr (fun k => by rw [hf, if_pos h1]) hbad
    · by_cases h2 : bt s 0 = 34
      · rw [if_pos (.inr (.inl h2))]
        exact Ev.congr (fun k => by rw [hf, if_neg h1, if_pos h2]) hbad
      · by_cases h3 : bt s 0 = 35
        · rw [if_pos (.inr (.inr (.inl h3)))]
          exact Ev.congr (fun k => by rw [hf, if_neg h1, if_neg h2, if_pos h3]) hbad
        · by_cases h4 : bt s ((s.size : Int) - 1) = 32
          · rw [if_pos (.inr (.inr (.inr (.inl h4))))]
            exact Ev.congr (fun k => by rw [hf, if_neg h1, if_neg h2, if_neg h3, if_pos h4]) hbad
          · by_cases h5 : s.toList = [91, 93]
            · rw [if_pos (.inr (.inr (.inr (.inr (.inl h5)))))]
              exact Ev.congr (fun k => by rw [hf, if_neg h1, if_neg h2, if_neg h3, if_neg h4, if_pos h5]) hbad
            · by_cases h6 : s.toList = [123, 125]
              · rw [if_pos (.inr (.inr (.inr (.inr (.inr (.inl h6))))))]
                exact Ev.congr (fun k => by rw [hf, if_neg h1, if_neg h2, if_neg h3, if_neg h4, if_neg h5, if_pos h6]) hbad
              · have hf' : ∀ k, scalar_Plain.f k s = scalar_Plain.j0 k s (Lib.contains s.data.toList [32, 35]) := fun k => by
                  rw [hf, if_neg h1, if_neg h2, if_neg h3, if_neg h4, if_neg h5, if_neg h6]
                cases h7 : Lib.contains s.data.toList [32, 35] with
                | true =>
                  rw [if_pos (.inr (.inr (.inr (.inr (.inr (.inr rfl))))))]
                  exact Ev.congr (fun k => by rw [hf', h7]) hbad
                | false =>
                  rw [if_neg (fun h => by rcases h with h | h | h | h | h | h | h; exact h1 h; exact h2 h; exact h3 h; exact h4 h; exact h5 h; exact h6 h; cases h)]
                  refine Ev.congr (fun k => by rw [hf', h7]) ?_
                  exact Ev.step (f := fun k => scalar_Plain.l0 k s ((0 : Nat) : Int)) (fun k => by rw [scalar_Plain.j0, if_neg (by decide)]; rfl) (plain_l0 s hs s.size 0 (Nat.zero_add _))
def hasH (l : List UInt8) : Bool := decide (hashN l < l.length)
theorem hasH_contains (l : List UInt8) : Lib.contains l [32, 35] = hasH l := by
  unfold Lib.contains hasH
  rw [index_hash]
  by_cases h : hashN l < l.length
  · rw [if_pos h, decide_eq_true h, decide_eq_true (by omega)]
  · rw [if_neg h, decide_eq_false h]
    rfl
theorem hasH_one (p : UInt8) : hasH [p] = false := by
  unfold hasH hashN
  rw [if_neg (fun h => by cases h.2)]
  rfl
theorem hasH_two (p c : UInt8) (r : List UInt8) : hasH (p :: c :: r) = (decide (p = 32 ∧ c = 35) || hasH (c :: r)) := by
  unfold hasH
  rw [hashN]
  by_cases h : p = 32 ∧ c = 35
  · rw [if_pos ⟨h.1, by rw [h.2]; rfl⟩, decide_eq_true h, Bool.true_or]
    rfl
  · rw [if_neg (fun h2 => h ⟨h2.1, Option.some.inj h2.2⟩), decide_eq_false h, Bool.false_or]
    rw [Bool.eq_iff_iff, decide_eq_true_eq, decide_eq_true_eq, List.length_cons (a := p)]
    omega
end Go.Proofs.YtmkfjjfdbaaknaaDoor.Q
