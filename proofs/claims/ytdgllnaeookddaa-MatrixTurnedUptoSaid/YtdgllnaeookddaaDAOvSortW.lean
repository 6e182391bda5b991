/- Variables of the call's own sorted by their names: what slices.SortFunc does to their slice. -/
import Derived.Test.YtdgllnaeookddaaDAOvSort
import Derived.Shelf.SlSortCmp.NoneTotal
namespace Go.Proofs.Ytdgllnaeookddaa.Ov
open Go.RowKit Go.Proofs.YtdgllnaeookddaaW.PrintWords Go.Proofs.YtdgllnaeookddaaW.PrintLast Go.Proofs.YtdgllnaeookddaaW.PrintMore Go.Proofs.Ytdgllnaeookddaa.Q
set_option linter.unusedVariables false
set_option linter.unusedSimpArgs false
theorem cmp_any (x y : SV) (W : World) : Calls Try.prog 53 #[.agg #[.string x.f0, .string x.f1], .agg #[.string y.f0, .string y.f1]] W fun e w' => e = .returned (.int .i64 (cmpV x y)) ∧ ∃ q os', w' = Sort.grow (W.drewN q) os' := by
  obtain ⟨r, hr⟩ : ∃ r, r = cmpV x y := ⟨_, rfl⟩
  have hcon : ∀ W', Calls Try.prog 54 #[.string x.f0, .string y.f0] W' fun e w' => e = .returned (.int .i64 r) ∧ w' = W' := fun W' => by rw [hr]; exact Try.strings_Compare x.f0 y.f0 W'
  rw [← hr]
  clear hr
  go_enter Try.func53, Try.ntmps53
  go_wp2_with (go_at_call 54; refine (hcon _).mono ?_; rintro e w' ⟨rfl, rfl⟩)
  go_ret
  exact ⟨rfl, 0, _, by rw [Sort.alloc_eq_grow, Sort.alloc_eq_grow, Sort.grow_grow]; rfl⟩
theorem heap_put {w : World} {g n : Nat} {os : Array Obj} {cur : Array Value} {e : TypeId} {fr : Nat × Nat} (F : Array Value) (hb : w.heap[g]? = some (.cells cur e fr)) :
    (Sort.grow (Sort.putRow id (Sort.ahead w n) g 0 F) os).heap[g]? = some (.cells (Sort.putCells id 0 F cur) e fr) := by
  have hg : g < w.heap.size := (Array.getElem?_eq_some_iff.1 hb).1
  rw [Sort.heap_grow_old _ _ (by simpa using hg)]
  simp [Sort.putRow, Sort.mapBlock, Sort.ahead, Array.getElem?_modify, hb, Sort.onCells]
theorem grown_put {w : World} {g n : Nat} {os : Array Obj} (F : Array Value) : w.grownBy (Sort.grow (Sort.putRow id (Sort.ahead w n) g 0 F) os) (some g) := by
  refine ⟨rfl, rfl, rfl, by simp, fun k hk hne => ?_⟩
  rw [Sort.heap_grow_old _ _ (by simpa using hk)]
  have : g ≠ k := fun e => hne (by rw [e])
  simp [Sort.putRow, Sort.mapBlock, Sort.ahead, Array.getElem?_modify, this]
theorem take_put (cur F : Array Value) (h : F.size ≤ cur.size) : (Sort.putCells id 0 F cur).toList.take F.size = F.toList := by
  apply List.ext_getElem?
  intro j
  by_cases hj : j < F.size
  · rw [List.getElem?_take_of_lt hj, Array.getElem?_toList, Array.getElem?_toList]
    simp [Sort.putCells, hj, show j < cur.size by omega]
  · rw [List.getElem?_take_eq_none (by omega), List.getElem?_eq_none (by simp; omega)]
theorem encV_len (x : SV) : (encV x).length = 2 := rfl
/-- The row's cells, told flat. -/
theorem inner_at {w : World} {base : Nat} {ok : Nat → Prop} {xs : List SV} {inner : List Value} (h : Reps (k51.M w base ok) 2 xs inner) (t : Nat) (ht : t < xs.length * 2) : inner[t]? = some ((encV xs.toArray[t / 2]!)[t % 2]!) := by
  have hj : t / 2 < xs.length := by omega
  have h1 := h.2 (t / 2) xs[t / 2] (List.getElem?_eq_getElem hj)
  have h2 := k51_openM h1
  have e : xs.toArray[t / 2]! = xs[t / 2] := by simp [hj]
  rw [e]
  have hm : t % 2 < 2 := Nat.mod_lt _ (by omega)
  have h3 : inner[t]? = ((inner.drop (t / 2 * 2)).take 2)[t % 2]? := by
    rw [List.getElem?_take_of_lt hm, List.getElem?_drop, show t / 2 * 2 + t % 2 = t by omega]
  rw [h3, h2]
  show (encV xs[t / 2])[t % 2]? = _
  rw [List.getElem?_eq_getElem (by rw [encV_len]; exact hm), getElem!_pos _ _ (by rw [encV_len]; exact hm)]
theorem flat_reps (w : World) (base : Nat) (ok : Nat → Prop) (d : Array SV) : Reps (k51.M w base ok) 2 d.toList (Sort.flatK encV 2 d).toList := by
  refine ⟨by simp, fun j p hj => ?_⟩
  have hjl : j < d.size := by
    have := (List.getElem?_eq_some_iff.1 hj).1
    simpa using this
  have hp : d[j]! = p := by
    rw [Array.getElem?_toList] at hj
    simp [Array.getElem!_eq_getD, Array.getD, hjl]
    rw [Array.getElem?_eq_getElem hjl] at hj
    exact Option.some.inj hj
  have hF : ∀ r, r < 2 → (Sort.flatK encV 2 d)[j * 2 + r]? = some ((encV p)[r]!) := by
    intro r hr
    have hlt : j * 2 + r < d.size * 2 := by omega
    have := Sort.get_flatK encV 2 d (j * 2 + r) hlt
    rw [show (j * 2 + r) / 2 = j by omega, show (j * 2 + r) % 2 = r by omega, hp] at this
    rw [← this, Array.getElem?_eq_getElem (by simpa using hlt), getElem!_pos _ _ (by simpa using hlt)]
  have e : ((Sort.flatK encV 2 d).toList.drop (j * 2)).take 2 = [.string p.f0, .string p.f1] := by
    apply List.ext_getElem?
    intro r
    by_cases hr : r < 2
    · rw [List.getElem?_take_of_lt hr, List.getElem?_drop, Array.getElem?_toList, hF r hr]
      rcases r with _ | _ | r
      · rfl
      · rfl
      · omega
    · rw [List.getElem?_take_eq_none (by omega), List.getElem?_eq_none (by simp; omega)]
  rw [e]
  exact k51_mkM _ _ _ _
theorem eg_cmp : ∀ args w, (callFunc 53 args).run Try.prog w = .ok (.enter 53 args) w := enters_of Try.func53 (by kernel_rfl) rfl
/-- What the call does: the same slice holds the variables sorted. -/
theorem sort_any {base : Nat} {ok : Nat → Prop} {v : Value} {xs : List SV} {w : World} (hR : Kd.R k51 51 w base ok v xs) (hn : (xs.map (·.f0)).Nodup) (hsz : xs.length < 4611686018427387904) :
    Calls Try.prog 52 #[v, .func (.func 53) #[] #[]] w fun e w' =>
      e = .returned (.tuple #[]) ∧ Kd.R k51 51 w' base ok v (sortV xs) ∧ w.grownBy w' v.ownBlock := by
  by_cases h0 : xs = []
  · subst h0
    obtain ⟨A, c, rfl⟩ := Kd.R_slice hR
    refine (AnyF.slices_SortFunc_none Try.sortVar A c (.func (.func 53) #[] #[]) w).mono ?_
    rintro e w' ⟨rfl, rfl⟩
    exact ⟨rfl, hR, rfl, rfl, rfl, Nat.le_refl _, fun _ _ _ => rfl⟩
  · have hpos : 0 < xs.length := List.length_pos_iff.2 h0
    obtain ⟨hok, inner, hown, hreps⟩ := hR
    rcases hown.2 with ⟨_, hz⟩ | ⟨g, cap, cur, rfl, hbase, hb, h1, h2, h3, h4⟩
    · omega
    · have hH : Sort.HoldsK encV 2 w g 0 xs.toArray := by
        intro t ht
        have ht' : t < xs.length * 2 := by simpa using ht
        have hc : w.cell? ⟨g, t, none⟩ = inner[t]? := hown.cellAt t ht'
        rw [Nat.zero_add, hc, inner_at hreps t ht']
        refine ⟨?_, by simp [World.frozen?, hb]⟩
        rw [Sort.get_flatK encV 2 xs.toArray t (by simpa using ht')]
        rfl
      have hg : g < w.heap.size := (Array.getElem?_eq_some_iff.1 hb).1
      have hcon := AnyQ.slices_SortFunc Try.sortVar 2 Try.isAgg51 Try.sizeOf51 encV (fun _ => rfl) (fun x v hv => by simp [encV] at hv; rcases hv with rfl | rfl <;> rfl) cmpV swoV 53 #[] g 0 cap xs.toArray w eg_cmp (fun _ _ _ _ x y => cmp_any x y _) hH hg (by simpa using hsz)
      rw [List.size_toArray] at hcon
      refine hcon.mono ?_
      rintro e w' ⟨rfl, d', n, os, hp, hs, rfl⟩
      have hps : d'.size = xs.length := by simpa using hp.1
      have hpe : d'.toList.Perm xs := by
        have h5 := hp.2.2
        rw [Array.extract_eq_self_of_le (by omega), Array.extract_eq_self_of_le (by simp)] at h5
        simpa using h5
      have hnd : (d'.toList.map (·.f0)).Nodup := (hpe.map _).nodup_iff.2 hn
      have hsv : SortedV d'.toList := by
        refine List.pairwise_iff_getElem.2 fun i j hi hj hij => ?_
        have hi' : i < d'.size := by simpa using hi
        have hj' : j < d'.size := by simpa using hj
        have h6 : decide (cmpV d'[j]! d'[i]! < 0) = false := hs i j (Nat.zero_le _) hij (by omega)
        rw [getElem!_pos d' i hi', getElem!_pos d' j hj', decide_eq_false_iff_not] at h6
        have h7 : cmpV d'[j] d'[i] = -cmpV d'[i] d'[j] := cb_swap _ _
        have h8 : cmpV d'[i] d'[j] ≠ 0 := fun h0 => by
          have h9 := name_of h0
          have h10 := (List.pairwise_iff_getElem.1 (List.nodup_iff_pairwise_ne.1 hnd)) i j (by simpa using hi) (by simpa using hj) hij
          simp at h10
          exact h10 h9
        show cmpV d'.toList[i] d'.toList[j] < 0
        simp only [Array.getElem_toList]
        omega
      have hres := sort_unique hpe hsv hn
      have hlen : d'.toList.length = xs.length := by simpa using hps
      rw [← hres]
      refine ⟨rfl, ⟨hok, (Sort.flatK encV 2 d').toList, ?_, flat_reps _ _ _ _⟩, grown_put _⟩
      have hsz2 : (Sort.flatK encV 2 d').size = d'.toList.length * 2 := by simp
      refine ⟨by rw [Array.length_toList, hsz2]; rfl, .inr ⟨g, cap, _, by rw [hlen], hbase, heap_put _ hb, by rw [hlen]; exact h1, h2, by simp [Sort.putCells, h3], ?_⟩⟩
      show ((Sort.putCells id 0 (Sort.flatK encV 2 d') cur).toList.take (d'.toList.length * 2)) = _
      rw [← hsz2]
      exact take_put _ _ (by rw [hsz2, hlen, h3]; show xs.length * 2 ≤ cap * 2; omega)
end Go.Proofs.Ytdgllnaeookddaa.Ov
