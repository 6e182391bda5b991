/- The document's Sort and Overlay tell what the program's Overlay tells; layers laid in two steps come to the same. -/
import Derived.Test.YtfkibolpanlelaaEAVRefE
import Derived.Test.YtfkibolpanlelaaEAQ5
namespace Go.Proofs.Ytfkibolpanlelaa.Q
open Go Go.RowKit Go.Shelf Go.Proofs.YtfkibolpanlelaaW.PrintWords Go.Proofs.YtfkibolpanlelaaW.PrintLast Go.Proofs.YtfkibolpanlelaaW.PrintMore Go.Proofs.Ytfkibolpanlelaa.SMap
set_option linter.unusedVariables false
set_option linter.unusedSimpArgs false
theorem bl_cb : ∀ a b : List UInt8, Op.bytesLess a b = decide (cb a b < 0)
  | [], [] => rfl
  | _ :: _, [] => rfl
  | [], _ :: _ => rfl
  | a :: x, b :: y => by
    have ih := bl_cb x y
    show (decide (a < b) || (a == b && Op.bytesLess x y)) = decide ((if a < b then -1 else if b < a then 1 else cb x y) < 0)
    by_cases h1 : a < b
    · rw [if_pos h1, decide_eq_true h1]; rfl
    · rw [if_neg h1, decide_eq_false h1, Bool.false_or]
      by_cases h2 : b < a
      · have h3 : (a == b) = false := beq_eq_false_iff_ne.2 (fun e => by subst e; exact UInt8.lt_irrefl _ h2)
        rw [if_pos h2, h3]; rfl
      · have h3 := u8_eq h1 h2
        subst h3
        rw [if_neg h2, ih, beq_self_eq_true, Bool.true_and]
theorem less_cmp (v x : SV) : Op.bytesLess v.f0.toList x.f0.toList = decide (cmpV v x < 0) := by
  rw [ByteArray.toList_eq, ByteArray.toList_eq]
  exact bl_cb _ _
section
variable {l out : List SV} {i : Nat} (hi : i < l.length) (hl : l.length ≤ 4194304) (ho : out.length ≤ 4194304) {R : List SV}
include hi hl ho
theorem so_l2 (k : Nat) (hk : k ≤ out.length) (hK : Ev (fun n => shuttleref10_Sort.l0 n l (out.take k ++ l[i] :: out.drop k) ((i + 1 : Nat) : Int)) R) :
    ∀ (m j : Nat) (x : SV), k + m = j → j ≤ out.length → Ev (fun n => shuttleref10_Sort.l2 n l (out.take j ++ x :: out.drop j) (i : Int) (k : Int) (j : Int)) R
  | 0, j, x, h, hj => by
    obtain rfl : k = j := h
    have hlen : (out.take k ++ x :: out.drop k).length = out.length + 1 := by rw [List.length_append, List.length_take, List.length_cons, List.length_drop]; omega
    have hset : (out.take k ++ x :: out.drop k).set ((k : Int)).toNat (⟨(rd_T41 l (i : Int)).f0, (rd_T41 l (i : Int)).f1⟩ : SV) = out.take k ++ l[i] :: out.drop k := by
      rw [Int.toNat_natCast, rd_var _ _ hi, List.set_append_right _ _ (by rw [List.length_take]; omega), List.length_take, show k - min k out.length = 0 by omega]
      rfl
    exact Ev.step (fun n => by rw [shuttleref10_Sort.l2, if_neg (by omega), if_pos (by omega), if_pos (by omega), if_pos (by omega), if_pos (by omega), hset, wrap_up (by omega)]) hK
  | m + 1, j, x, h, hj => by
    obtain ⟨q, rfl⟩ : ∃ q, j = q + 1 := ⟨j - 1, by omega⟩
    have hq : q < out.length := by omega
    have hlen : (out.take (q + 1) ++ x :: out.drop (q + 1)).length = out.length + 1 := by rw [List.length_append, List.length_take, List.length_cons, List.length_drop]; omega
    have hw : wrap64 (((q + 1 : Nat) : Int) - 1) = (q : Int) := by unfold wrap64; omega
    have hrd : rd_T41 (out.take (q + 1) ++ x :: out.drop (q + 1)) (q : Int) = out[q] := by
      rw [rd_var _ _ (by omega), List.getElem_append_left (by rw [List.length_take]; omega), List.getElem_take]
    have hset : (out.take (q + 1) ++ x :: out.drop (q + 1)).set (((q + 1 : Nat) : Int)).toNat (⟨out[q].f0, out[q].f1⟩ : SV) = out.take q ++ out[q] :: out.drop q := by
      rw [Int.toNat_natCast, List.set_append_right _ _ (by rw [List.length_take]; omega), List.length_take, show q + 1 - min (q + 1) out.length = 0 by omega, List.take_succ_eq_append_getElem hq, List.append_assoc, List.drop_eq_getElem_cons hq]
      rfl
    refine Ev.step (fun n => by rw [shuttleref10_Sort.l2, if_pos (by omega), hw, if_pos (by omega), if_pos (by omega), if_pos (by omega), if_pos (by omega), hrd, hset]) ?_
    exact so_l2 k hk hK m q out[q] (by omega) (by omega)
theorem so_j2 (k : Nat) (hk : k ≤ out.length) (hK : Ev (fun n => shuttleref10_Sort.l0 n l (out.take k ++ l[i] :: out.drop k) ((i + 1 : Nat) : Int)) R) : Ev (fun n => shuttleref10_Sort.j2 n l out (i : Int) (k : Int)) R := by
  have h := so_l2 hi hl ho k hk hK (out.length - k) out.length ⟨⟨#[]⟩, ⟨#[]⟩⟩ (by omega) (Nat.le_refl _)
  rw [List.take_length, List.drop_length] at h
  have hw : wrap64 (((out ++ [(⟨⟨#[]⟩, ⟨#[]⟩⟩ : SV)]).length : Int) - 1) = (out.length : Int) := by rw [List.length_append]; simp only [List.length_cons, List.length_nil]; unfold wrap64; omega
  exact Ev.step (fun n => by rw [shuttleref10_Sort.j2, if_pos (by omega), Option.bind_some, hw]) h
omit hl in
theorem so_l1 (hK : ∀ k, k ≤ out.length → (∀ x ∈ out.drop k, cmpV l[i] x < 0) → (k = 0 ∨ ∃ h : k - 1 < out.length, ¬ cmpV l[i] out[k - 1] < 0) → Ev (fun n => shuttleref10_Sort.j2 n l out (i : Int) (k : Int)) R) :
    ∀ k, k ≤ out.length → (∀ x ∈ out.drop k, cmpV l[i] x < 0) → Ev (fun n => shuttleref10_Sort.l1 n l out (i : Int) (k : Int)) R
  | 0, hk, hd => Ev.step (fun n => by rw [shuttleref10_Sort.l1, if_neg (by omega)]) (hK 0 hk hd (.inl rfl))
  | k + 1, hk, hd => by
    have hq : k < out.length := by omega
    have hw : wrap64 (((k + 1 : Nat) : Int) - 1) = (k : Int) := by unfold wrap64; omega
    refine Ev.step (fun n => by rw [shuttleref10_Sort.l1, if_pos (by omega), hw, if_pos (by omega), if_pos (by omega), if_pos (by omega), if_pos (by omega), rd_var _ _ hi, rd_var _ _ hq, less_cmp]) ?_
    by_cases hc : cmpV l[i] out[k] < 0
    · refine Ev.congr (fun n => by rw [if_pos (decide_eq_true hc)]) ?_
      refine so_l1 hK k (by omega) (fun x hx => ?_)
      rw [List.drop_eq_getElem_cons hq] at hx
      rcases List.mem_cons.1 hx with rfl | hx
      · exact hc
      · exact hd x hx
    · refine Ev.congr (fun n => by rw [if_neg (by rw [decide_eq_false hc]; decide)]) ?_
      exact hK (k + 1) hk hd (.inr ⟨by omega, hc⟩)
end
theorem cmp_trans {a b c : SV} (h1 : cmpV a b < 0) (h2 : cmpV b c < 0) : cmpV a c < 0 := of_decide_eq_true (swoV.trans a b c (decide_eq_true h1) (decide_eq_true h2))
theorem place_sorted {v : SV} {out : List SV} (hs : SortedV out) (hn : ∀ x ∈ out, x.f0 ≠ v.f0) {k : Nat} (hk : k ≤ out.length) (hd : ∀ x ∈ out.drop k, cmpV v x < 0) (hp : k = 0 ∨ ∃ h : k - 1 < out.length, ¬ cmpV v out[k - 1] < 0) : SortedV (out.take k ++ v :: out.drop k) := by
  have hs' : SortedV (out.take k ++ out.drop k) := by rw [List.take_append_drop]; exact hs
  obtain ⟨p1, p2, p3⟩ := List.pairwise_append.1 hs'
  refine List.pairwise_append.2 ⟨p1, List.pairwise_cons.2 ⟨hd, p2⟩, fun x hx y hy => ?_⟩
  rcases List.mem_cons.1 hy with rfl | hy
  · rcases hp with rfl | ⟨h, hc⟩
    · rw [List.take_zero] at hx; cases hx
    · obtain ⟨q, rfl⟩ : ∃ q, k = q + 1 := by
        cases k with
        | zero => rw [List.take_zero] at hx; cases hx
        | succ q => exact ⟨q, rfl⟩
      have hq : q < out.length := by omega
      have hlast : cmpV out[q] y < 0 := by
        have e : cmpV out[q] y = -cmpV y out[q] := cb_swap _ _
        have hne : cmpV y out[q] ≠ 0 := fun e0 => hn out[q] (List.getElem_mem hq) (name_of e0).symm
        have hc : ¬ cmpV y out[q] < 0 := hc
        omega
      rw [List.take_succ_eq_append_getElem hq] at hx p1
      rcases List.mem_append.1 hx with hx | hx
      · exact cmp_trans ((List.pairwise_append.1 p1).2.2 x hx out[q] (List.mem_singleton.2 rfl)) hlast
      · rw [List.mem_singleton.1 hx]; exact hlast
  · exact p3 x hx y hy
theorem so_l0 (l : List SV) (hl : l.length ≤ 4194304) (hn : (l.map (·.f0)).Nodup) : ∀ (d i : Nat) (out : List SV), i + d = l.length → out.Perm (l.take i) → SortedV out → Ev (fun n => shuttleref10_Sort.l0 n l out (i : Int)) (sortV l)
  | 0, i, out, h, hp, hs => by
    rw [List.take_of_length_le (by omega)] at hp
    rw [← sort_unique hp hs hn]
    exact Ev.step (fun n => by rw [shuttleref10_Sort.l0, if_neg (by omega)]) (Ev.now _)
  | d + 1, i, out, h, hp, hs => by
    have hi : i < l.length := by omega
    have hlen : out.length = i := by rw [hp.length_eq, List.length_take]; omega
    have hne : ∀ x ∈ out, x.f0 ≠ l[i].f0 := fun x hx e => by
      have hx := hp.subset hx
      have e2 : l = l.take i ++ l[i] :: l.drop (i + 1) := by
        rw [← List.drop_eq_getElem_cons hi, List.take_append_drop]
      rw [e2, List.map_append, List.map_cons, List.nodup_append] at hn
      exact hn.2.2 _ (List.mem_map.2 ⟨x, hx, rfl⟩) _ List.mem_cons_self e
    have hlen2 : (out.length : Int) = (out.length : Int) := rfl
    refine Ev.step (fun n => by rw [shuttleref10_Sort.l0, if_pos (by omega)]) ?_
    refine so_l1 hi (by omega) (fun k hk hd hpl => ?_) out.length (Nat.le_refl _) (fun x hx => by rw [List.drop_length] at hx; cases hx)
    refine so_j2 hi hl (by omega) k hk ?_
    refine so_l0 l hl hn d (i + 1) _ (by omega) ?_ (place_sorted hs hne hk hd hpl)
    rw [List.take_succ_eq_append_getElem hi]
    refine List.perm_middle.trans ?_
    rw [List.take_append_drop]
    exact (hp.cons l[i]).trans (List.perm_append_singleton l[i] (l.take i)).symm
theorem sort_ev (l : List SV) (hl : l.length ≤ 4194304) (hn : (l.map (·.f0)).Nodup) : Ev (fun n => shuttleref10_Sort.f n l) (sortV l) := so_l0 l hl hn l.length 0 [] (by omega) (by simp) List.Pairwise.nil
theorem set_idx (v : SV) : ∀ (l : List SV) (i : Nat), (idxI l v.f0 i = -1 ∧ setV l v = l ++ [v]) ∨ ∃ j, j < l.length ∧ idxI l v.f0 i = ((i + j : Nat) : Int) ∧ setV l v = l.set j v
  | [], i => .inl ⟨rfl, rfl⟩
  | x :: r, i => by
    unfold idxI setV
    by_cases h : x.f0 = v.f0
    · rw [if_pos h, if_pos h.symm]
      exact .inr ⟨0, by simp, rfl, rfl⟩
    · rw [if_neg h, if_neg (fun e => h e.symm)]
      rcases set_idx v r (i + 1) with ⟨h1, h2⟩ | ⟨j, h1, h2, h3⟩
      · exact .inl ⟨h1, by rw [h2]; rfl⟩
      · exact .inr ⟨j + 1, by simpa using h1, by rw [h2]; congr 1; omega, by rw [h3]; rfl⟩
theorem ov_l1 (ls : List (List SV)) (m : Nat) (hm : m < ls.length) (hls : ls.length ≤ 4194304) {R : List SV} : ∀ (d i : Nat) (all : List SV), i + d = ls[m].length → all.length + d ≤ 1048576 →
    ls[m].length ≤ 1048576 → Ev (fun n => shuttleref10_Overlay.l0 n ls ((ls[m].drop i).foldl setV all) ((m + 1 : Nat) : Int)) R → Ev (fun n => shuttleref10_Overlay.l1 n ls all (m : Int) (i : Int)) R
  | 0, i, all, h, hb, hz, hK => by
    rw [List.drop_eq_nil_of_le (by omega)] at hK
    exact Ev.step (fun n => by rw [shuttleref10_Overlay.l1, if_pos (by omega), if_pos (by omega), rd_layer _ _ hm, if_neg (by omega), wrap_up (by omega)]; rfl) hK
  | d + 1, i, all, h, hb, hz, hK => by
    have hi : i < ls[m].length := by omega
    rw [List.drop_eq_getElem_cons hi, List.foldl_cons] at hK
    refine Ev.step (fun n => by rw [shuttleref10_Overlay.l1, if_pos (by omega), if_pos (by omega), rd_layer _ _ hm, if_pos (by omega), if_pos (by omega), rd_var _ _ hi]) ?_
    refine Ev.bind (idx_ev all _ (by omega)) ?_
    have hlen := len_set ls[m][i] all
    have ih := ov_l1 ls m hm hls d (i + 1) (setV all ls[m][i]) (by omega) (by omega) hz hK
    rcases set_idx ls[m][i] all 0 with ⟨h1, h2⟩ | ⟨j, h1, h2, h3⟩
    · rw [h2] at ih
      exact Ev.congr (fun n => by rw [h1, if_neg (by decide), if_pos (by omega), wrap_up (by omega)]) ih
    · rw [h3] at ih
      rw [Nat.zero_add] at h2
      exact Ev.congr (fun n => by rw [h2, if_pos (by omega), if_pos (by omega), if_pos (by omega), Int.toNat_natCast, wrap_up (by omega)]) ih
theorem ov_l0 (ls : List (List SV)) (hls : ls.length ≤ 4194304) : ∀ (d m : Nat) (all : List SV), m + d = ls.length → all.length + (ls.drop m).flatten.length ≤ 1048576 → (all.map (·.f0)).Nodup →
    Ev (fun n => shuttleref10_Overlay.l0 n ls all (m : Int)) (sortV ((ls.drop m).flatten.foldl setV all))
  | 0, m, all, h, hb, hn => by
    rw [List.drop_eq_nil_of_le (by omega)]
    refine Ev.step (fun n => by rw [shuttleref10_Overlay.l0, if_neg (by omega)]) ?_
    exact Ev.bind (sort_ev all (by omega) hn) (Ev.now _)
  | d + 1, m, all, h, hb, hn => by
    have hm : m < ls.length := by omega
    rw [List.drop_eq_getElem_cons hm, List.flatten_cons, List.length_append] at hb
    rw [List.drop_eq_getElem_cons hm, List.flatten_cons, List.foldl_append]
    have hf := over_facts ls[m] all hn
    refine Ev.step (fun n => by rw [shuttleref10_Overlay.l0, if_pos (by omega)]) ?_
    refine ov_l1 ls m hm hls ls[m].length 0 all (by omega) (by omega) (by omega) ?_
    rw [List.drop_zero]
    exact ov_l0 ls hls d (m + 1) _ (by omega) (by omega) hf.1
theorem rover_ev (ls : List (List SV)) (hls : ls.length ≤ 4194304) (hb : ls.flatten.length ≤ 1048576) : Ev (fun n => shuttleref10_Overlay.f n ls) (overB ls) :=
  ov_l0 ls hls ls.length 0 [] (by omega) (by simpa using hb) List.nodup_nil
theorem find_set (v : SV) (s : ByteArray) : ∀ l : List SV, findV (setV l v) s = if v.f0 = s then some v else findV l s
  | [] => by
    unfold setV findV
    by_cases h : v.f0 = s
    · rw [if_pos h, List.find?_cons_of_pos (by simp [h])]
    · rw [if_neg h, List.find?_cons_of_neg (by simp [h])]
  | x :: r => by
    have ih := find_set v s r
    unfold setV
    by_cases h : v.f0 = x.f0
    · rw [if_pos h]
      by_cases e : v.f0 = s
      · rw [if_pos e]
        unfold findV
        rw [List.find?_cons_of_pos (by simp [e])]
      · rw [if_neg e]
        unfold findV
        rw [List.find?_cons_of_neg (by simp [e]), List.find?_cons_of_neg (by simp [← h, e])]
    · rw [if_neg h]
      by_cases e : v.f0 = s
      · rw [if_pos e] at ih ⊢
        unfold findV at ih ⊢
        rw [List.find?_cons_of_neg (by simp; intro e2; exact h (e.trans e2.symm)), ih]
      · rw [if_neg e] at ih ⊢
        unfold findV at ih ⊢
        by_cases e2 : x.f0 = s
        · rw [List.find?_cons_of_pos (by simp [e2]), List.find?_cons_of_pos (by simp [e2])]
        · rw [List.find?_cons_of_neg (by simp [e2]), List.find?_cons_of_neg (by simp [e2]), ih]
theorem find_or (s : ByteArray) (a b : List SV) : findV (a ++ b) s = (findV a s).or (findV b s) := List.find?_append ..
theorem find_over (s : ByteArray) : ∀ (xs acc : List SV), findV (xs.foldl setV acc) s = (findV xs.reverse s).or (findV acc s)
  | [], acc => rfl
  | v :: xs, acc => by
    rw [List.foldl_cons, find_over s xs, List.reverse_cons, find_or, find_set]
    by_cases e : v.f0 = s
    · rw [if_pos e]
      have : findV [v] s = some v := by unfold findV; rw [List.find?_cons_of_pos (by simp [e])]
      rw [this]
      cases findV xs.reverse s <;> rfl
    · rw [if_neg e]
      have : findV [v] s = none := by unfold findV; rw [List.find?_cons_of_neg (by simp [e])]; rfl
      rw [this]
      cases findV xs.reverse s <;> rfl
theorem over_nodup (ls : List (List SV)) : ((overB ls).map (·.f0)).Nodup := ((sort_perm (overL ls.flatten)).map _).nodup_iff.2 (nodup_over _)
theorem over_sorted (ls : List (List SV)) : SortedV (overB ls) := sort_sorted (nodup_over _)
theorem over_find (ls : List (List SV)) (s : ByteArray) : findV (overB ls) s = findV ls.flatten.reverse s := by
  rw [find_perm (over_nodup ls) (nodup_over ls.flatten) (fun v => (sort_perm (overL ls.flatten)).mem_iff) s]
  show findV (ls.flatten.foldl setV []) s = _
  rw [find_over]
  cases findV ls.flatten.reverse s <;> rfl
theorem nodup_map {l : List SV} (h : (l.map (·.f0)).Nodup) : l.Nodup := (List.pairwise_map.1 h).imp fun hne e => hne (by rw [e])
theorem over_same {a b : List SV} (ha : (a.map (·.f0)).Nodup) (hb : (b.map (·.f0)).Nodup) (sa : SortedV a) (sb : SortedV b) (h : ∀ s, findV a s = findV b s) : a = b := by
  refine sorted_one ((List.perm_ext_iff_of_nodup (nodup_map ha) (nodup_map hb)).2 fun v => ?_) sa sb
  have h1 := find_iff ha v.f0 v
  have h2 := find_iff hb v.f0 v
  rw [h] at h1
  exact ⟨fun hm => (h2.1 (h1.2 ⟨hm, rfl⟩)).1, fun hm => (h1.1 (h2.2 ⟨hm, rfl⟩)).1⟩
theorem find_rev {l : List SV} (hn : (l.map (·.f0)).Nodup) (s : ByteArray) : findV l.reverse s = findV l s :=
  find_perm (((List.reverse_perm l).map _).nodup_iff.2 hn) hn (fun v => List.mem_reverse) s
theorem over_left (a b c : List SV) : overB [overB [a, b], c] = overB [a, b, c] :=
  over_same (over_nodup _) (over_nodup _) (over_sorted _) (over_sorted _) fun s => by
    rw [over_find, over_find]
    simp only [List.flatten_cons, List.flatten_nil, List.append_nil, List.reverse_append, find_or]
    rw [find_rev (over_nodup _), over_find]
    simp only [List.flatten_cons, List.flatten_nil, List.append_nil, List.reverse_append, find_or]
    all_goals (cases findV c.reverse s <;> rfl)
theorem over_right (a b c : List SV) : overB [a, overB [b, c]] = overB [a, b, c] :=
  over_same (over_nodup _) (over_nodup _) (over_sorted _) (over_sorted _) fun s => by
    rw [over_find, over_find]
    simp only [List.flatten_cons, List.flatten_nil, List.append_nil, List.reverse_append, find_or]
    rw [find_rev (over_nodup _), over_find]
    simp only [List.flatten_cons, List.flatten_nil, List.append_nil, List.reverse_append, find_or]
    all_goals (cases findV c.reverse s <;> rfl)
theorem over_len (ls : List (List SV)) : (overB ls).length ≤ ls.flatten.length := by
  show (sortV (overL ls.flatten)).length ≤ _
  rw [(sort_perm (overL ls.flatten)).length_eq]
  exact len_over _
end Go.Proofs.Ytfkibolpanlelaa.Q
