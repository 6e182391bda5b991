/- Where values say what their texts say, working out finds them, in any order. -/
import Derived.Test.YtfkibolpanlelaaEAVTheS
namespace Go.Proofs.Ytfkibolpanlelaa.Q
open Go Go.RowKit Go.Shelf Go.Proofs.YtfkibolpanlelaaW.PrintWords Go.Proofs.YtfkibolpanlelaaW.PrintLast Go.Proofs.YtfkibolpanlelaaW.PrintMore Go.Proofs.Ytfkibolpanlelaa.SMap
set_option linter.unusedVariables false
set_option linter.unusedSimpArgs false
def Cons (V : VM) (dn : DN) (d0 : Int) : Prop := ∀ s x, getDn dn s = some x → (x.under = false → V s = some x) ∧ (x.under = true → ∃ y, V s = some y ∧ d0 ≤ y.depth)
def Grow (V : VM) (a b : DN) : Prop := Pres a b ∧ ∀ s y, getDn b s = some y → getDn a s = some y ∨ (y.under = false ∧ V s = some y)
theorem Grow.trans {V : VM} {a b c : DN} (h : Grow V a b) (k : Grow V b c) : Grow V a c := ⟨h.1.trans k.1, fun s y hy => (k.2 s y hy).elim (fun h1 => h.2 s y h1) .inr⟩
def TopC (V : VM) (dn : DN) : Prop := ∀ s x, getDn dn s = some x → x.under = false ∧ V s = some x
theorem TopC.cons {V : VM} {dn : DN} (h : TopC V dn) (d0 : Int) : Cons V dn d0 := fun s x hx => ⟨fun _ => (h s x hx).2, fun e => by rw [(h s x hx).1] at e; cases e⟩
theorem find_iff {l : List SV} (h : (l.map (·.f0)).Nodup) (s : ByteArray) (v : SV) : findV l s = some v ↔ v ∈ l ∧ v.f0 = s := by
  constructor
  · exact findV_some
  · rintro ⟨hm, rfl⟩
    induction l with
    | nil => cases hm
    | cons u l ih =>
      rw [List.map_cons, List.nodup_cons] at h
      unfold findV
      by_cases e : u.f0 = v.f0
      · rw [List.find?_cons_of_pos (by simp [e])]
        rcases List.mem_cons.1 hm with rfl | hm
        · rfl
        · exact absurd (List.mem_map.2 ⟨v, hm, e.symm⟩) h.1
      · rw [List.find?_cons_of_neg (by simp [e])]
        rcases List.mem_cons.1 hm with rfl | hm
        · exact absurd rfl e
        · exact ih h.2 hm
theorem find_perm {a b : List SV} (ha : (a.map (·.f0)).Nodup) (hb : (b.map (·.f0)).Nodup) (h : ∀ v, v ∈ a ↔ v ∈ b) (s : ByteArray) : findV a s = findV b s := by
  apply Option.ext
  intro v
  rw [find_iff ha, find_iff hb, h]
end Go.Proofs.Ytfkibolpanlelaa.Q
