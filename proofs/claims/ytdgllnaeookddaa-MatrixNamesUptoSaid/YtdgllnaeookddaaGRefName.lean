/- An instance's name, as the document's answer makes it. -/
import Derived.Test.YtdgllnaeookddaaGName
import Derived.BigQuiet
namespace Go.Proofs.Ytdgllnaeookddaa.Q
open Go.RowKit Go.Proofs.YtdgllnaeookddaaW.PrintWords Go.Proofs.YtdgllnaeookddaaW.PrintLast Go.Proofs.YtdgllnaeookddaaW.PrintMore
set_option linter.unusedVariables false
set_option linter.unusedSimpArgs false
theorem ret_string {a b : ByteArray} (h : a = b) : Ending.returned (.string a) = .returned (.string b) := by rw [h]
def preS (job : ByteArray) (pick : List SV) : Nat → ByteArray
  | 0 => job ++ ⟨#[91]⟩
  | k + 1 => (((if k = 0 then preS job pick k else preS job pick k ++ ⟨#[44]⟩) ++ (rd_T51 pick (k : Int)).f0) ++ ⟨#[61]⟩) ++ (rd_T51 pick (k : Int)).f1
def refNameB (job : ByteArray) (pick : List SV) : ByteArray := if pick.length = 0 then job else preS job pick pick.length ++ ⟨#[93]⟩
/-- The room that the first k pairs take. -/
def roomS (job : ByteArray) (pick : List SV) : Nat → Nat
  | 0 => job.size + 1
  | k + 1 => roomS job pick k + ((rd_T51 pick (k : Int)).f0.size + (rd_T51 pick (k : Int)).f1.size + 2)
theorem size_append (a b : ByteArray) : (a ++ b).size = a.size + b.size := by simp
theorem preS_size (job : ByteArray) (pick : List SV) : ∀ k, (preS job pick k).size ≤ roomS job pick k
  | 0 => by
    show (job ++ ⟨#[91]⟩).size ≤ job.size + 1
    rw [size_append]
    exact Nat.le_refl _
  | k + 1 => by
    have ih := preS_size job pick k
    show ((((if k = 0 then preS job pick k else preS job pick k ++ ⟨#[44]⟩) ++ _) ++ _) ++ _).size ≤ roomS job pick k + _
    rw [size_append, size_append, size_append]
    have h1 : (if k = 0 then preS job pick k else preS job pick k ++ ⟨#[44]⟩).size ≤ (preS job pick k).size + 1 := by
      split
      · omega
      · rw [size_append]; exact Nat.le_refl _
    have h2 : (⟨#[61]⟩ : ByteArray).size = 1 := rfl
    omega
theorem roomS_mono (job : ByteArray) (pick : List SV) (k : Nat) : ∀ d, roomS job pick k ≤ roomS job pick (k + d)
  | 0 => Nat.le_refl _
  | d + 1 => Nat.le_trans (roomS_mono job pick k d) (by show _ ≤ roomS job pick (k + d) + _; omega)
def RefNameRel (w : World) (job : ByteArray) (pick : List SV) (s i : Value) (wr : World) : Prop := ∃ k : Nat, k ≤ pick.length ∧ i = .int .i64 k ∧ s = .string (preS job pick k) ∧ Below w.heap.size w wr
set_option maxHeartbeats 1000000 in
set_option maxRecDepth 100000 in
theorem refName_any (job : ByteArray) (A : Option Addr) (c : Nat) (pick : List SV) (w : World) (hr : Kd.C k51 w A pick.length pick) (hc : pick.length ≤ c) (hs : roomS job pick pick.length ≤ 4611686018427387904) :
    Calls Try.prog 25 #[.string job, .slice A pick.length c] w fun e w' => e = .returned (.string (refNameB job pick)) ∧ Below w.heap.size w w' := by
  have HR := Aside0.mk hr
  have hlen : pick.length ≤ 9223372036854775807 := hr.2.1
  have HS := Aside0.mk hs
  have hj : ¬ 9223372036854775807 < job.size + 1 := by
    have := roomS_mono job pick 0 pick.length
    rw [Nat.zero_add] at this
    have h2 : roomS job pick 0 = job.size + 1 := rfl
    omega
  clear hr hs
  obtain ⟨res, hres⟩ : ∃ r, r = refNameB job pick := ⟨_, rfl⟩
  rw [← hres]
  by_cases h0 : pick.length = 0
  · obtain rfl : res = job := by rw [hres, refNameB, if_pos h0]
    have ht : ((pick.length : Int) == 0) = true := by rw [beq_iff_eq]; omega
    clear hres h0
    go_enter Try.func25, Try.ntmps25
    go_wp2
    go_ret
    exact ⟨rfl, Below.refl _ _⟩
  · have ht : ((pick.length : Int) == 0) = false := by rw [beq_eq_false_iff_ne]; omega
    have HRES := Aside0.mk (show res = preS job pick pick.length ++ ⟨#[93]⟩ by rw [hres, refNameB, if_neg h0])
    clear hres
    go_enter Try.func25, Try.ntmps25
    go_wp2
    go_loopw [5, 6] (fun s i wr => RefNameRel w job pick s i wr) (fun _ i _ => pick.length - (intOf i).toNat)
    case atStart => exact ⟨0, Nat.zero_le _, rfl, rfl, Below.refl _ _⟩
    case round =>
      obtain ⟨k, hk, rfl, rfl, hb⟩ := hrel
      have HB := Aside0.mk hb
      by_cases hlt : k < pick.length
      · obtain ⟨ad, e, hx, hx1⟩ := at_T51 HR.out (k : Int) (by omega) (by omega)
        subst e
        have hroom := roomS_mono job pick (k + 1) (pick.length - (k + 1))
        rw [show k + 1 + (pick.length - (k + 1)) = pick.length by omega] at hroom
        have hroom1 : roomS job pick (k + 1) = roomS job pick k + ((rd_T51 pick (k : Int)).f0.size + (rd_T51 pick (k : Int)).f1.size + 2) := rfl
        have hpre := preS_size job pick k
        have HSTEP := Aside0.mk (show preS job pick (k + 1) = (((if k = 0 then preS job pick k else preS job pick k ++ ⟨#[44]⟩) ++ (rd_T51 pick (k : Int)).f0) ++ ⟨#[61]⟩) ++ (rd_T51 pick (k : Int)).f1 from rfl)
        generalize rd_T51 pick (k : Int) = v at hx hx1 hroom1 HSTEP
        generalize preS job pick k = s at hpre HSTEP ⊢
        replace hx : wr.cell? (ad.add (k * 2)) = _ := pw_cell_below hb hx
        replace hx1 : wr.cell? ⟨(ad.add (k * 2)).block, (ad.add (k * 2)).off + 1, none⟩ = _ := pw_cell_below hb hx1
        have hS := HS.out
        have hB0 : ¬ 9223372036854775807 < s.size + 1 := by omega
        clear hb
        by_cases hk0 : k = 0
        · have hkd : decide ((0 : Int) < (k : Int)) = false := decide_eq_false (by omega)
          have hkn : decide (0 < k) = false := decide_eq_false (by omega)
          rw [if_pos hk0] at HSTEP
          have hA1 : ¬ 9223372036854775807 < s.size + v.f0.size := by omega
          have hA2 : ¬ 9223372036854775807 < s.size + v.f0.size + 1 := by omega
          have hA3 : ¬ 9223372036854775807 < s.size + v.f0.size + 1 + v.f1.size := by omega
          clear hk0 hroom hroom1 hpre hS
          go_wp2
          go_quiet (fail)
          go_wp2
          exact ⟨⟨k + 1, by omega, by go_num, by rw [HSTEP.out], pw_below_drewN HB.out nq⟩, by simp [intOf]; omega⟩
        · have hkd : decide ((0 : Int) < (k : Int)) = true := decide_eq_true (by omega)
          have hkn : decide (0 < k) = true := decide_eq_true (by omega)
          rw [if_neg hk0] at HSTEP
          have hA1 : ¬ 9223372036854775807 < s.size + 1 + v.f0.size := by omega
          have hA2 : ¬ 9223372036854775807 < s.size + 1 + v.f0.size + 1 := by omega
          have hA3 : ¬ 9223372036854775807 < s.size + 1 + v.f0.size + 1 + v.f1.size := by omega
          clear hk0 hroom hroom1 hpre hS
          go_wp2
          go_quiet (fail)
          go_wp2
          exact ⟨⟨k + 1, by omega, by go_num, by rw [HSTEP.out], pw_below_drewN HB.out nq⟩, by simp [intOf]; omega⟩
      · obtain rfl : k = pick.length := by omega
        have hpre := preS_size job pick pick.length
        have hA : ¬ 9223372036854775807 < (preS job pick pick.length).size + 1 := by have := HS.out; omega
        have HF := HRES.out
        generalize preS job pick pick.length = s at hA HF hpre ⊢
        have HF2 := Aside0.mk HF
        clear hpre hb HF HRES
        go_wp2
        go_ret
        exact ⟨ret_string HF2.out.symm, HB.out⟩

def shuttleref13_Name.f (a0 : ByteArray) (l1 : List SV) : Option ByteArray := if roomS a0 l1 l1.length ≤ 4611686018427387904 then some (refNameB a0 l1) else none
theorem shuttleref13_Name.calls (a0 : ByteArray) (A1 : Option Addr) (c1 : Nat) (l1 : List SV) (r : ByteArray) (w : World) (hr1 : Kd.C k51 w A1 l1.length l1) (hc1 : l1.length ≤ c1) (h : shuttleref13_Name.f a0 l1 = some r) :
    Calls Try.prog 25 #[.string a0, .slice A1 l1.length c1] w fun e w' => e = .returned (.string r) ∧ Below w.heap.size w w' := by
  unfold shuttleref13_Name.f at h
  split at h
  case isFalse => cases h
  case isTrue hs =>
    obtain rfl := Option.some.inj h
    exact refName_any a0 A1 c1 l1 w hr1 hc1 hs
/-- The program's name and the document's are one. -/
theorem preS_bytes (job : ByteArray) (pick : List SV) : ∀ k, k + 1 ≤ pick.length → (preS job pick (k + 1)).data.toList = job.data.toList ++ [91] ++ Lib.join (((pick.take (k + 1)).map pairS).map (·.data.toList)) [44] := by
  intro k
  induction k with
  | zero =>
    intro h
    have e : pick.take 1 = [rd_T51 pick ((0 : Nat) : Int)] := by
      have := List.take_succ_eq_append_getElem (l := pick) (i := 0) (by omega)
      rw [rd_var pick 0 (by omega)]
      simpa using this
    rw [e]
    show ((((preS job pick 0) ++ _) ++ _) ++ _ : ByteArray).data.toList = _
    simp [preS, Lib.join_one, pairS]
  | succ k ih =>
    intro h
    have e : pick.take (k + 1 + 1) = pick.take (k + 1) ++ [rd_T51 pick ((k + 1 : Nat) : Int)] := by
      rw [List.take_succ_eq_append_getElem (by omega), rd_var pick (k + 1) (by omega)]
    have hn : ((pick.take (k + 1)).map pairS).map (·.data.toList) ≠ [] := by
      intro h2
      have := congrArg List.length h2
      rw [List.length_map, List.length_map, List.length_take, List.length_nil] at this
      omega
    have hj : ∀ (l : List (List UInt8)) (x : List UInt8), l ≠ [] → Lib.join (l ++ [x]) [44] = Lib.join l [44] ++ ([44] ++ x) := by
      intro l x hl
      match l, hl with
      | a :: r, _ =>
        rw [List.cons_append, Lib.join_cons, Lib.join_cons]
        simp [Lib.joinTail]
    rw [e, List.map_append, List.map_append]
    show (((((if k + 1 = 0 then preS job pick (k + 1) else preS job pick (k + 1) ++ ⟨#[44]⟩)) ++ _) ++ _) ++ _ : ByteArray).data.toList = _
    rw [if_neg (by omega), List.map_cons, List.map_nil, List.map_cons, List.map_nil, hj _ _ hn]
    simp [ih (by omega), pairS]
theorem name_same (job : ByteArray) (pick : List SV) : nameB job pick = refNameB job pick := by
  unfold nameB refNameB
  split
  · rfl
  case isFalse h =>
    apply ByteArray.ext
    apply Array.ext'
    have := preS_bytes job pick (pick.length - 1) (by omega)
    rw [show pick.length - 1 + 1 = pick.length by omega, List.take_length] at this
    have e2 : (preS job pick pick.length ++ ⟨#[93]⟩ : ByteArray).data.toList = (preS job pick pick.length).data.toList ++ [93] := by simp
    rw [e2, this]
    simp [joinB]
end Go.Proofs.Ytdgllnaeookddaa.Q
