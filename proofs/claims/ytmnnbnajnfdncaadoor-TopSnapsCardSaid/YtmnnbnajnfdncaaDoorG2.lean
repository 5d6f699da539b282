/- One cell of a row of one's own is written. -/
import Derived.Test.YtmnnbnajnfdncaaDoorSnaph
set_option linter.unusedVariables false
set_option linter.unusedSimpArgs false
namespace Go.Proofs.YtmnnbnajnfdncaaDoor
open Go.RowKit E
theorem ovw_one {news : List Value} {o : Nat} {v : Value} (h : o < news.length) : ovw news o [v] = news.set o v := by
  unfold ovw
  rw [List.set_eq_take_append_cons_drop, if_pos h]
  simp
theorem cut_set_same {news : List Value} {k i j n : Nat} {v : Value} (hl : news.length = n * k) (hi : i < n) (hj : j < k) : cut k i (news.set (i * k + j) v) = (cut k i news).set j v := by
  have := mul_lt_le (k := k) hi
  refine List.ext_getElem? fun m => ?_
  unfold cut
  rw [List.getElem?_take, List.getElem?_set]
  rcases Nat.lt_or_ge m k with hm | hm
  · rw [if_pos hm, List.getElem?_drop, List.getElem?_set]
    by_cases h : j = m
    · subst h
      rw [if_pos rfl, if_pos rfl, if_pos (by omega), if_pos (by rw [List.length_take, List.length_drop]; omega)]
    · rw [if_neg h, if_neg (by omega), List.getElem?_take, if_pos hm, List.getElem?_drop]
  · rw [if_neg (by omega), if_neg (by omega), List.getElem?_take, if_neg (by omega)]
theorem cut_set_other {news : List Value} {k i i' j : Nat} {v : Value} (hj : j < k) (hne : i' ≠ i) : cut k i' (news.set (i * k + j) v) = cut k i' news := by
  refine List.ext_getElem? fun m => ?_
  unfold cut
  rw [List.getElem?_take, List.getElem?_take]
  rcases Nat.lt_or_ge m k with hm | hm
  · rw [if_pos hm, if_pos hm, List.getElem?_drop, List.getElem?_drop, List.getElem?_set, if_neg ?_]
    intro e
    rcases Nat.lt_or_gt_of_ne hne with h | h
    · have := mul_lt_le (k := k) h; omega
    · have := mul_lt_le (k := k) h; omega
  · rw [if_neg (by omega), if_neg (by omega)]
theorem Rows.set {α : Type} {R : Rd α} {F : FP} {w : World} {k : Nat} {news : List Value} {xs : List α} {i j : Nat} {v : Value} {x : α} (h : Rows R F w k news xs) (hi : i < xs.length) (hj : j < k) (hx : R F w ((cut k i news).set j v) x) : Rows R F w k (news.set (i * k + j) v) (xs.set i x) := by
  refine ⟨by rw [List.length_set, List.length_set]; exact h.len, fun m y hy => ?_⟩
  rw [List.getElem?_set] at hy
  by_cases e : i = m
  · subst e
    rw [if_pos rfl, if_pos hi] at hy
    injection hy with hy; subst hy
    rw [cut_set_same h.len hi hj]; exact hx
  · rw [if_neg e] at hy
    rw [cut_set_other hj (fun h' => e h'.symm)]; exact h.each m y hy
section
variable {P : Program} {n : Nat} {l : Fr} {w w' w0 : World} {Q : Exit → Act → World → Prop} {ops rest : List Oper} {ty : TypeId} {pos : String} {aft : Array Edge} {gd : Option (Nat × Bool)} {v : Value} {x y : Operand} {t T : TypeId} {base k : Nat}
/-- A store of one cell into a row of one's own. -/
theorem WL.storeCell {g m cap o : Nat} {news : List Value} (own : w.ownsRow base T k (.slice (some ⟨g, 0, none⟩) m cap) m news) (ho : o < m * k) (hx : l.ev x = some (.pointer (some ⟨g, o, none⟩))) (hy : l.ev y = some v)
    (hz : ∀ w, (sizeOf t).run P w = .ok 1 w) (hv : v.cells = [v].toArray) (h1 : v.oneCell' = true) (hg : want ops l gd = some true)
    (kk : ∀ w', w'.ownsRow base T k (.slice (some ⟨g, 0, none⟩) m cap) m (news.set o v) → Only g w w' → HasT w T g → Below base w w' → WL P n ops Q rest l w') : WL P n ops Q (⟨none, .store t x y, ty, pos, aft, gd⟩ :: rest) l w := by
  have hl := own.1
  rcases own.2 with ⟨h, _⟩ | ⟨g', cap', cur, h, hbg, hgg, hnc, hcm, hcs, ht⟩
  · cases h
  · simp only [Value.slice.injEq, Option.some.injEq, Addr.mk.injEq, and_true, true_and] at h
    obtain ⟨rfl, rfl⟩ := h
    have hmc : m * k ≤ cap * k := Nat.mul_le_mul_right k hnc
    have hcl : cur.toList.length = cap * k := by simpa using hcs
    refine WL.skip (w' := w.setRow g (ovw cur.toList o [v]).toArray) (fun a ha => ?_) hg rfl (kk _ ⟨by rw [List.length_set]; exact hl, .inr ⟨g, cap, _, rfl, hbg, setRow_heap w g _ _ T _ hgg, hnc, hcm, ?_, ?_⟩⟩ (Only.setRow _ _ _) ⟨_, hgg⟩ ?_)
    · have hgg' : w.heap[g]? = some (.cells cur.toList.toArray T (0, 0)) := by simpa using hgg
      have := run_storeAt (P := P) (w := w) (t := t) (v := v) (off := o) hgg' hz hv (by rfl) (by simp only [List.length_cons, List.length_nil]; omega) (by simpa using h1)
      rw [add_eq] at this
      simp [execOp, ha.ev hx, ha.ev hy, this]
    · have := ovw_len (news := cur.toList) (vs := [v]) (o := o) (by simp only [List.length_cons, List.length_nil]; omega)
      simp only [List.size_toArray]; omega
    · rw [ovw_one (by omega), ← ht, List.take_set]
    · exact ⟨rfl, rfl, rfl, by simp [World.setRow], fun j hj => (Only.setRow w g _).block j (by omega)⟩
end
theorem exists_list {α : Type} (P : Nat → α → Prop) : ∀ n, (∀ i, i < n → ∃ x, P i x) → ∃ l : List α, l.length = n ∧ ∀ i x, l[i]? = some x → P i x
  | 0, _ => ⟨[], rfl, fun i x h => by simp at h⟩
  | n + 1, h => by
    obtain ⟨l, hl, hp⟩ := exists_list P n (fun i hi => h i (by omega))
    obtain ⟨x, hx⟩ := h n (by omega)
    refine ⟨l ++ [x], by simp [hl], fun i y hy => ?_⟩
    rcases Nat.lt_or_ge i n with hi | hi
    · rw [List.getElem?_append_left (by omega)] at hy; exact hp i y hy
    · rw [List.getElem?_append_right (by omega)] at hy
      have hlt := (List.getElem?_eq_some_iff.1 hy).1
      have : i = n := by simp at hlt; omega
      subst this
      rw [hl, Nat.sub_self] at hy
      simp at hy; subst hy; exact hx
section
variable {w : World} {base T k : Nat} {v : Value}
theorem ownsRow_max {m : Nat} {xs : List Value} (h : w.ownsRow base T k v m xs) : m ≤ 9223372036854775807 := by
  rcases h.2 with ⟨rfl, rfl⟩ | ⟨g, cap, cur, rfl, _, _, hn, hm, _⟩
  · exact Nat.zero_le _
  · simp only [maxLen] at hm; omega
end
theorem add_zero' (p : Addr) : p.add 0 = p := by unfold Addr.add; rw [if_pos rfl]
end Go.Proofs.YtmnnbnajnfdncaaDoor
