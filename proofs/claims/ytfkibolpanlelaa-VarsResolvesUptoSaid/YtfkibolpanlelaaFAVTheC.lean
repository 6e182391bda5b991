/- Where values say what their texts say, working out finds them, in any order. -/
import Derived.Test.YtfkibolpanlelaaFAVTheS
namespace Go.Proofs.Ytfkibolpanlelaa.Q
open Go Go.RowKit Go.Shelf Go.Proofs.YtfkibolpanlelaaW.PrintWords Go.Proofs.YtfkibolpanlelaaW.PrintLast Go.Proofs.YtfkibolpanlelaaW.PrintMore Go.Proofs.Ytfkibolpanlelaa.SMap
set_option linter.unusedVariables false
set_option linter.unusedSimpArgs false
def Cons (V : VM) (dn : DN) (d0 : Int) : Prop := ∀ s x, getDn dn s = some x → (x.under = false → V s = some x) ∧ (x.under = true → ∃ y, V s = some y ∧ d0 ≤ y.depth)
def Grow (V : VM) (a b : DN) : Prop := Pres a b ∧ ∀ s y, getDn b s = some y → getDn a s = some y ∨ (y.under = false ∧ V s = some y)
theorem Grow.trans {V : VM} {a b c : DN} (h : Grow V a b) (k : Grow V b c) : Grow V a c := ⟨h.1.trans k.1, fun s y hy => (k.2 s y hy).elim (fun h1 => h.2 s y h1) .inr⟩
def TopC (V : VM) (dn : DN) : Prop := ∀ s x, getDn dn s = some x → x.under = false ∧ V s = some x
theorem TopC.cons {V : VM} {dn : DN} (h : TopC V dn) (d0 : Int) : Cons V dn d0 := fun s x hx => ⟨fun _ => (h s x hx).2, fun e => by rw [(h s x hx).1] at e; cases e⟩
theorem find_app (s : ByteArray) (v : SV) : ∀ p : List SV, (findV (p ++ [v]) s).isSome = ((findV p s).isSome || decide (v.f0 = s))
  | [] => by
    unfold findV
    by_cases e : v.f0 = s
    · rw [List.nil_append, List.find?_cons_of_pos (by simp [e])]; simp [e]
    · rw [List.nil_append, List.find?_cons_of_neg (by simp [e])]; simp [e]
  | u :: p => by
    have ih := find_app s v p
    unfold findV at ih ⊢
    by_cases e : u.f0 = s
    · rw [List.cons_append, List.find?_cons_of_pos (by simp [e]), List.find?_cons_of_pos (by simp [e])]; rfl
    · rw [List.cons_append, List.find?_cons_of_neg (by simp [e]), List.find?_cons_of_neg (by simp [e])]
      exact ih
theorem chk_iff : ∀ (l p : List SV), chkV p l = none ↔ (∀ v ∈ l, varNameB v.f0 = true) ∧ (∀ v ∈ l, (findV p v.f0).isSome = false) ∧ (l.map (·.f0)).Nodup
  | [], p => ⟨fun _ => ⟨(fun v hv => by cases hv), (fun v hv => by cases hv), List.nodup_nil⟩, fun _ => rfl⟩
  | v :: l, p => by
    have ih := chk_iff l (p ++ [v])
    have hstep : chkV p (v :: l) = none ↔ varNameB v.f0 = true ∧ (findV p v.f0).isSome = false ∧ chkV (p ++ [v]) l = none := by
      rw [chkV]
      cases h1 : varNameB v.f0 with
      | false => simp
      | true =>
        cases h2 : (findV p v.f0).isSome with
        | true => simp
        | false => simp
    rw [hstep, ih, List.map_cons, List.nodup_cons]
    constructor
    · rintro ⟨a, b, c, d, e⟩
      refine ⟨fun u hu => ?_, fun u hu => ?_, ?_, e⟩
      · rcases List.mem_cons.1 hu with rfl | hu
        · exact a
        · exact c u hu
      · rcases List.mem_cons.1 hu with rfl | hu
        · exact b
        · have := d u hu
          rw [find_app, Bool.or_eq_false_iff] at this
          exact this.1
      · intro hm
        obtain ⟨u, hu, e2⟩ := List.mem_map.1 hm
        have := d u hu
        rw [find_app, Bool.or_eq_false_iff] at this
        exact of_decide_eq_false this.2 e2.symm
    · rintro ⟨a, b, c, d⟩
      refine ⟨a v List.mem_cons_self, b v List.mem_cons_self, fun u hu => a u (List.mem_cons_of_mem _ hu), fun u hu => ?_, d⟩
      rw [find_app, b u (List.mem_cons_of_mem _ hu), Bool.false_or]
      exact decide_eq_false fun e => c (by rw [e]; exact List.mem_map.2 ⟨u, hu, rfl⟩)
theorem find_iff {l : List SV} (h : (l.map (·.f0)).Nodup) (s : ByteArray) (v : SV) : findV l s = some v ↔ v ∈ l ∧ v.f0 = s := by
  constructor
  · exact findV_some
  · rintro ⟨hm, rfl⟩
    induction l with
    | nil => cases hm
    | cons u l ih =>
      rw [List.map_cons, List.nodup_cons] at h
      unfold findV
      by_cases e : u.f0 = v.f0
      · rw [List.find?_cons_of_pos (by simp [e])]
        rcases List.mem_cons.1 hm with rfl | hm
        · rfl
        · exact absurd (List.mem_map.2 ⟨v, hm, e.symm⟩) h.1
      · rw [List.find?_cons_of_neg (by simp [e])]
        rcases List.mem_cons.1 hm with rfl | hm
        · exact absurd rfl e
        · exact ih h.2 hm
end Go.Proofs.Ytfkibolpanlelaa.Q
