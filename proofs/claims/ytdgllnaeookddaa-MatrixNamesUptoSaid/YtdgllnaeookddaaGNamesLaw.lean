/- The walk of statement MatrixNames. -/
import Derived.Test.YtdgllnaeookddaaGAwake
import Derived.Test.YtdgllnaeookddaaGRefName
import Derived.Test.YtdgllnaeookddaaGLend
namespace Go.Proofs.Ytdgllnaeookddaa.Q
open Go.RowKit Go.Proofs.YtdgllnaeookddaaW.PrintWords Go.Proofs.YtdgllnaeookddaaW.PrintLast Go.Proofs.YtdgllnaeookddaaW.PrintMore
set_option linter.unusedVariables false
set_option linter.unusedSimpArgs false
theorem name_nil (job : ByteArray) (w : World) (hj : job.size ≤ 140737488355328) :
    Calls Try.prog 23 #[.string job, .slice none 0 0] w fun e w' => e = .returned (.string job) ∧ Below w.heap.size w w' :=
  name_any job none 0 [] w (Kd.C_nil _ _) (Nat.le_refl _) (by simp [nameSmall, hj, Lib.join_nil])
theorem name_lent (job : ByteArray) (A : Option Addr) (c m : Nat) (pick : List SV) (w : World) (hr : Kd.C k51 w A pick.length pick) (hc : m ≤ c) (hm : pick.length = m) (hs : nameSmall job pick = true) {s : ByteArray} (h : nameB job pick = s) :
    Calls Try.prog 23 #[.string job, .slice A m c] w fun e w' => e = .returned (.string s) ∧ Below w.heap.size w w' := by
  subst hm h
  exact name_any job A c pick w hr hc hs
theorem refName_at (job : ByteArray) (A : Option Addr) (c m : Nat) (pick : List SV) (w : World) (hr : Kd.C k51 w A pick.length pick) (hc : m ≤ c) (hm : pick.length = m) (hs : roomS job pick pick.length ≤ 4611686018427387904) {s : ByteArray} (h : nameB job pick = s) :
    Calls Try.prog 25 #[.string job, .slice A m c] w fun e w' => e = .returned (.string s) ∧ Below w.heap.size w w' := by
  rw [name_same] at h
  subst hm h
  exact refName_any job A c pick w hr hc hs
set_option maxHeartbeats 1000000 in
set_option maxRecDepth 100000 in
theorem namesLaw (job : ByteArray) (A : Option Addr) (c : Nat) (pick : List SV) (w : World) (hr : Kd.C k51 w A pick.length pick) (hc : pick.length ≤ c) (hl : pick.length ≤ 4398046511000) (hj : job.size ≤ 140737488355328) (hs : nameSmall job pick = true) (hroom : roomS job pick pick.length ≤ 4611686018427387904) :
    Calls Try.prog 4 #[.string job, .slice A pick.length c] w fun e w' => e = .returned (.bool true) ∧ Below w.heap.size w w' := by
  have HR := Aside0.mk hr
  have HS := Aside0.mk hs
  have HROOM := Aside0.mk hroom
  obtain ⟨s, hs'⟩ : ∃ s, nameB job pick = s := ⟨_, rfl⟩
  have HNM := Aside0.mk hs'
  clear hr hs hroom hs'
  have hss : (s.toList == s.toList) = true := by simp
  have hjj : (job.toList == job.toList) = true := by simp
  go_enter Try.func4, Try.ntmps4
  go_wp2_with (first
    | (go_at_call 22; refine (lend_any A c pick _ HR.out hc hl).mono ?_; rintro e w1 ⟨g, cap, rfl, hq⟩; have HQ := Aside0.mk hq; have HB1 := Aside0.mk hq.below; have HC1 := Aside0.mk (show Kd.C k51 w1 (some ⟨g, 0, none⟩) pick.length pick by have := Kd.C_take (xs := pick ++ [spV, spV]) (m := pick.length) (Kd.R_reads' hq.own).2.2 (by simp); rw [List.take_left' rfl] at this; exact this); have hcap : pick.length + 2 ≤ cap := (Kd.R_reads' hq.own).2.1; clear hq)
    | (go_at_call 23; have HX := HREF.out; refine (name_nil job _ hj).mono ?_; rintro e w5 ⟨rfl, hb⟩; have HB5 := Aside0.mk (below_step HREF.out hb); clear hb)
    | (go_at_call 23; refine (name_lent job (some ⟨g, 0, none⟩) cap pick.length pick _ HC1.out (by omega) rfl HS.out HNM.out).mono ?_; rintro e w2 ⟨rfl, hb⟩; have HB2 := Aside0.mk (below_step HB1.out hb); have HL2 := Aside0.mk (Kd.R_below HQ.out.own hb); clear hb)
    | (go_at_call 24; refine (kept_any w g cap A c pick _ (Kd.C_below HR.out HB2.out) hc hl HB2.out HL2.out).mono ?_; rintro e w3 ⟨rfl, hb⟩; have HB3 := Aside0.mk hb; clear hb)
    | (go_at_call 25; refine (refName_at job A c pick.length pick _ (Kd.C_below HR.out HB3.out) hc rfl HROOM.out HNM.out).mono ?_; rintro e w4 ⟨rfl, hb⟩; have HREF := Aside0.mk (below_step HB3.out hb); clear hb)
    | (go_at_call 21; refine (awake_any _).mono ?_; rintro e w6 ⟨rfl, hb⟩; have HB6 := Aside0.mk (below_step HB5.out hb); clear hb))
  go_ret
  exact ⟨rfl, HB6.out⟩
end Go.Proofs.Ytdgllnaeookddaa.Q
