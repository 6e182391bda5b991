/- An instance's name, as the program's package matrix makes it: the contract of Name. -/
import Derived.Test.YtdgllnaeookddaaDAGBuild
import Derived.Test.YtdgllnaeookddaaDAGShelf
namespace Go.Proofs.Ytdgllnaeookddaa.Q
open Go.RowKit Go.Proofs.YtdgllnaeookddaaW.PrintWords Go.Proofs.YtdgllnaeookddaaW.PrintLast Go.Proofs.YtdgllnaeookddaaW.PrintMore
set_option linter.unusedVariables false
set_option linter.unusedSimpArgs false
def pairS (v : SV) : ByteArray := (v.f0 ++ ⟨#[61]⟩) ++ v.f1
def joinB (l : List ByteArray) : ByteArray := ⟨(Lib.join (l.map (·.data.toList)) [44]).toArray⟩
def nameB (job : ByteArray) (pick : List SV) : ByteArray := if pick.length = 0 then job else ((job ++ ⟨#[91]⟩) ++ joinB (pick.map pairS)) ++ ⟨#[93]⟩
def nameSmall (job : ByteArray) (pick : List SV) : Bool := decide (job.size ≤ 140737488355328) && (pick.all fun v => decide (v.f0.size + 1 + v.f1.size ≤ 140737488355328)) && decide (pick.length ≤ 4398046511103) && decide ((Lib.join ((pick.map pairS).map (·.data.toList)) [44]).length ≤ 140737488355328)
def NameRel (W1 : World) (pick : List SV) (v i : Value) (wr : World) : Prop := ∃ k : Nat, k ≤ pick.length ∧ i = .int .i64 k ∧ Kd.R Kd.string 9 wr W1.heap.size (fun _ => True) v ((pick.take k).map pairS) ∧ Below W1.heap.size W1 wr
theorem join_at (g c m : Nat) (xs : List ByteArray) (w : World) (hC : Kd.C Kd.string w (some ⟨g, 0, none⟩) xs.length xs) (hg : g < w.heap.size) (hc : xs.length ≤ c) (hm : xs.length = m) (hs : m ≤ 4398046511103) (hl : (Lib.join (xs.map (·.data.toList)) [44]).length ≤ 140737488355328) {j : ByteArray} (hj : joinB xs = j) :
    Calls Try.prog 50 #[.slice (some ⟨g, 0, none⟩) m c, .string ⟨#[44]⟩] w fun e w' => e = .returned (.string j) ∧ Below w.heap.size w w' := by
  subst hm hj
  refine Go.Proofs.Try.strings_Join g 0 c xs ⟨#[44]⟩ w (fun i x hx => ?_) hg (by omega) hc hl
  have hi : i < xs.length := (List.getElem?_eq_some_iff.1 hx).1
  obtain ⟨ad, e, hcell⟩ := Kd.at_string hC (i : Int) (by omega) (by omega)
  injection e with e
  subst e
  have hv : rdOf ByteArray.empty xs (i : Int) = x := by simp [rdOf, hx]
  rw [hv] at hcell
  by_cases h0 : i = 0
  · subst h0
    simpa [Addr.add] using hcell
  · simpa [Addr.add, h0] using hcell
set_option maxHeartbeats 1000000 in
set_option maxRecDepth 100000 in
theorem name_any (job : ByteArray) (A : Option Addr) (c : Nat) (pick : List SV) (w : World) (hr : Kd.C k51 w A pick.length pick) (hc : pick.length ≤ c) (hs : nameSmall job pick = true) :
    Calls Try.prog 23 #[.string job, .slice A pick.length c] w fun e w' => e = .returned (.string (nameB job pick)) ∧ Below w.heap.size w w' := by
  simp only [nameSmall, Bool.and_eq_true, decide_eq_true_eq, List.all_eq_true] at hs
  obtain ⟨⟨⟨hsj, hsv⟩, hs1⟩, hs2⟩ := hs
  have HSV := Aside0.mk hsv
  have HR := Aside0.mk hr
  have HS2 := Aside0.mk hs2
  clear hr hs2 hsv
  obtain ⟨res, hres⟩ : ∃ r, r = nameB job pick := ⟨_, rfl⟩
  rw [← hres]
  by_cases h0 : pick.length = 0
  · obtain rfl : res = job := by rw [hres, nameB, if_pos h0]
    have ht : ((pick.length : Int) == 0) = true := by rw [beq_iff_eq]; omega
    clear hres h0
    go_enter Try.func23, Try.ntmps23
    go_wp2
    go_ret
    exact ⟨rfl, Below.refl _ _⟩
  · have ht : ((pick.length : Int) == 0) = false := by rw [beq_eq_false_iff_ne]; omega
    have HRES := Aside0.mk (show res = ((job ++ ⟨#[91]⟩) ++ joinB (pick.map pairS)) ++ ⟨#[93]⟩ by rw [hres, nameB, if_neg h0])
    have hpos : 0 < pick.length := by omega
    clear hres
    go_enter Try.func23, Try.ntmps23
    go_wp2
    go_loopw [5, 14] (fun v i wr => NameRel w pick v i wr) (fun _ i _ => pick.length - (intOf i).toNat)
    case atStart => exact ⟨0, Nat.zero_le _, rfl, Kd.R_nil _ _ _ _ _, Below.refl _ _⟩
    case round =>
      obtain ⟨k, hk, rfl, ho, hb⟩ := hrel
      have HO := Aside0.mk ho
      have HB := Aside0.mk hb
      by_cases hlt : k < pick.length
      · obtain ⟨ad, e, hx, hx1⟩ := at_T51 HR.out (k : Int) (by omega) (by omega)
        subst e
        have htk := Aside0.mk (show (pick.take (k + 1)).map pairS = (pick.take k).map pairS ++ [pairS (rd_T51 pick (k : Int))] by rw [List.take_succ_eq_append_getElem hlt, List.map_append, rd_var pick k hlt]; rfl)
        have hsz := HSV.out _ (List.getElem_mem hlt)
        rw [← rd_var pick k hlt] at hsz
        generalize rd_T51 pick (k : Int) = v at hx hx1 htk hsz
        have hA1 : ¬ 9223372036854775807 < v.f0.size + 1 := by omega
        have hA2 : ¬ 9223372036854775807 < v.f0.size + 1 + v.f1.size := by omega
        replace hx : wr.cell? (ad.add (k * 2)) = _ := pw_cell_below hb hx
        replace hx1 : wr.cell? ⟨(ad.add (k * 2)).block, (ad.add (k * 2)).off + 1, none⟩ = _ := pw_cell_below hb hx1
        clear ho hb
        go_wp2_with (at_builtin; refine Kd.R_append Kd.string (w0 := w) w.heap.size rfl (.tmp 18) (.tmp 25) 44 9 (.string ⟨#[]⟩) 16 rfl Try.underlying44 info9 rfl (by decide) (by omega) u5 ((pick.take k).map pairS) (pairS v) [.string (pairS v)] (fun _ => True) (fun _ => False) rfl (by first | (go_simp; done) | (go_simp; rfl)) rfl (fun _ h => h.elim) (fun _ _ => trivial) (Kd.R_alloc HO.out _) (below_alloc HB.out _) (below_alloc HB.out _).size (by rw [List.length_map, List.length_take]; omega) ?_; intro v1 w1 ho1 hb1 hg1 hat1)
        exact ⟨⟨k + 1, by omega, by go_num, by rw [htk.out]; exact ho1, hb1⟩, by simp [intOf]; omega⟩
      · have hall : pick.take k = pick := List.take_of_length_le (by omega)
        rw [hall] at ho
        obtain ⟨g, cap, e, hg1, hg2, _⟩ := Kd.R_form ho (by rw [List.length_map]; exact hpos)
        subst e
        have hr' := Kd.R_reads' ho
        obtain ⟨j, hj⟩ : ∃ j, joinB (pick.map pairS) = j := ⟨_, rfl⟩
        have hjs : j.size ≤ 140737488355328 := by
          rw [← hj]
          exact HS2.out
        have HC := Aside0.mk hr'.2.2
        have HCAP := Aside0.mk hr'.2.1
        have HJE := Aside0.mk hj
        have hB1 : ¬ 9223372036854775807 < job.size + 1 := by omega
        have hB2 : ¬ 9223372036854775807 < job.size + 1 + j.size := by omega
        have hB3 : ¬ 9223372036854775807 < job.size + 1 + j.size + 1 := by omega
        obtain rfl : res = ((job ++ ⟨#[91]⟩) ++ j) ++ ⟨#[93]⟩ := by rw [HRES.out, hj]
        clear ho hb hj hr' HO hall
        go_wp2_with (go_at_call 50; refine (join_at g cap pick.length (pick.map pairS) _ HC.out hg2 HCAP.out (by rw [List.length_map]) (by omega) HS2.out HJE.out).mono ?_; rintro e w5 ⟨rfl, hb5⟩; have HB5 := Aside0.mk (below_step HB.out hb5); clear hb5)
        go_ret
        exact ⟨rfl, HB5.out⟩
def matrix_Name.f (a0 : ByteArray) (l1 : List SV) : Option ByteArray := if nameSmall a0 l1 = true then some (nameB a0 l1) else none
theorem matrix_Name.calls (a0 : ByteArray) (A1 : Option Addr) (c1 : Nat) (l1 : List SV) (r : ByteArray) (w : World) (hr1 : Kd.C k51 w A1 l1.length l1) (hc1 : l1.length ≤ c1) (h : matrix_Name.f a0 l1 = some r) :
    Calls Try.prog 23 #[.string a0, .slice A1 l1.length c1] w fun e w' => e = .returned (.string r) ∧ Below w.heap.size w w' := by
  unfold matrix_Name.f at h
  split at h
  case isFalse => cases h
  case isTrue hs =>
    obtain rfl := Option.some.inj h
    exact name_any a0 A1 c1 l1 w hr1 hc1 hs
end Go.Proofs.Ytdgllnaeookddaa.Q
