/- Rows of cells that read as lists; memory of one's own. -/
import Derived.Test.YtmnnbnajnfdncaaDoorD1
import Derived.Test.YtmnnbnajnfdncaaDoorE6
set_option linter.unusedVariables false
set_option linter.unusedSimpArgs false
namespace Go.Proofs.YtmnnbnajnfdncaaDoor
open Go.RowKit E
abbrev Rd (α : Type) := FP → World → List Value → α → Prop
def cut (k i : Nat) (news : List Value) : List Value := (news.drop (i * k)).take k
structure Rows {α : Type} (R : Rd α) (F : FP) (w : World) (k : Nat) (news : List Value) (xs : List α) : Prop where
  len : news.length = xs.length * k
  each : ∀ i x, xs[i]? = some x → R F w (cut k i news) x
section
variable {α : Type} {R : Rd α} {F G : FP} {w w' : World} {k : Nat} {news more : List Value} {xs ys : List α} {x : α}
theorem add_add (p : Addr) (a b : Nat) : (p.add a).add b = p.add (a + b) := by
  unfold Addr.add
  by_cases h1 : a = 0
  · subst h1; simp
  · by_cases h2 : b = 0
    · subst h2; simp [h1]
    · rw [if_neg h1, if_neg h2, if_neg (by omega)]; simp only; congr 1; omega
theorem cut_len {i : Nat} (h : news.length = xs.length * k) (hi : i < xs.length) : (cut k i news).length = k := by
  unfold cut
  rw [List.length_take, List.length_drop, h]
  have : (i + 1) * k ≤ xs.length * k := Nat.mul_le_mul_right k hi
  rw [Nat.add_mul] at this
  omega
theorem Rows.nil : Rows R F w k [] ([] : List α) := ⟨by simp, fun i x h => by simp at h⟩
theorem Rows.one {cs : List Value} (h : R F w cs x) (hl : cs.length = k) : Rows R F w k cs [x] := ⟨by simp [hl], fun i y hy => by
  rcases i with _ | i
  · simp at hy; subst hy
    have : cut k 0 cs = cs := by unfold cut; rw [Nat.zero_mul, List.drop_zero, List.take_of_length_le (by omega)]
    rw [this]; exact h
  · simp at hy⟩
theorem Rows.app (h : Rows R F w k news xs) (h' : Rows R F w k more ys) : Rows R F w k (news ++ more) (xs ++ ys) := by
  refine ⟨by rw [List.length_append, List.length_append, h.len, h'.len, Nat.add_mul], fun i y hy => ?_⟩
  rcases Nat.lt_or_ge i xs.length with hi | hi
  · rw [List.getElem?_append_left hi] at hy
    have := h.each i y hy
    have hle : (i + 1) * k ≤ xs.length * k := Nat.mul_le_mul_right k hi
    rw [Nat.add_mul] at hle
    have e : cut k i (news ++ more) = cut k i news := by
      unfold cut
      rw [List.drop_append_of_le_length (by rw [h.len]; omega), List.take_append_of_le_length (by rw [List.length_drop, h.len]; omega)]
    rw [e]; exact this
  · rw [List.getElem?_append_right hi] at hy
    have := h'.each _ y hy
    have e : cut k i (news ++ more) = cut k (i - xs.length) more := by
      unfold cut
      have hik : i * k = news.length + (i - xs.length) * k := by rw [h.len, ← Nat.add_mul]; congr 1; omega
      rw [hik, List.drop_append, List.drop_eq_nil_of_le (Nat.le_add_right _ _), List.nil_append]
      congr 2
      omega
    rw [e]; exact this
theorem cut_take {i m : Nat} (hi : i < m) : cut k i (news.take (m * k)) = cut k i news := by
  unfold cut
  have hle : (i + 1) * k ≤ m * k := Nat.mul_le_mul_right k hi
  rw [Nat.add_mul] at hle
  rw [List.drop_take, List.take_take, Nat.min_eq_left (by omega)]
theorem cut_drop {i m : Nat} : cut k i (news.drop (m * k)) = cut k (m + i) news := by
  unfold cut
  rw [List.drop_drop, Nat.add_mul]
theorem Rows.take (h : Rows R F w k news xs) (m : Nat) : Rows R F w k (news.take (m * k)) (xs.take m) := by
  refine ⟨by rw [List.length_take, List.length_take, h.len, Nat.mul_min_mul_right], fun i y hy => ?_⟩
  rw [List.getElem?_take] at hy
  split at hy
  · rename_i hi
    rw [cut_take hi]; exact h.each i y hy
  · cases hy
theorem Rows.drop (h : Rows R F w k news xs) (m : Nat) : Rows R F w k (news.drop (m * k)) (xs.drop m) := by
  refine ⟨by rw [List.length_drop, List.length_drop, h.len, Nat.sub_mul], fun i y hy => ?_⟩
  rw [List.getElem?_drop] at hy
  rw [cut_drop]; exact h.each _ y hy
theorem Rows.to {R' : Rd α} (h : Rows R F w k news xs) (hR : ∀ cs x, R F w cs x → R' G w' cs x) : Rows R' G w' k news xs := ⟨h.len, fun i x hx => hR _ _ (h.each i x hx)⟩
theorem Rows.one1 (h : Rows R F w k news xs) (hk : 0 < k) (hR : ∀ cs x, R F w cs x → ∀ u ∈ cs, u.oneCell' = true) : ∀ u ∈ news, u.oneCell' = true := by
  intro u hu
  obtain ⟨j, hj, rfl⟩ := List.mem_iff_getElem.1 hu
  have hd : j / k < xs.length := by rw [h.len] at hj; exact (Nat.div_lt_iff_lt_mul hk).2 hj
  refine hR _ _ (h.each (j / k) _ (List.getElem?_eq_getElem hd)) _ ?_
  refine List.mem_of_getElem? (i := j % k) ?_
  unfold cut
  rw [List.getElem?_take, if_pos (Nat.mod_lt _ hk), List.getElem?_drop, Nat.mul_comm, Nat.div_add_mod, List.getElem?_eq_getElem hj]
/-- A slice's row. -/
theorem RdS.rows {T bytes : Nat} {p : Addr} {m c : Nat} (h : RdS F w T k bytes R (.slice (some p) m c) xs) (hk : 0 < k) : ∃ news, Rows R F w k news xs ∧ At w p news ∧ m = xs.length ∧ m ≤ c ∧ m * bytes ≤ 140737488351232 := by
  obtain ⟨A, c', e, hc, hby, hg⟩ := h
  injection e with e1 e2 e3
  subst e1; subst e2; subst e3
  have hcell : ∀ j, j < xs.length * k → ∃ u, w.cell? (p.add j) = some u := fun j hj => by
    have hd : j / k < xs.length := (Nat.div_lt_iff_lt_mul hk).2 hj
    obtain ⟨q, cs, hq, _, hl, hat, _⟩ := hg (j / k) _ (List.getElem?_eq_getElem hd)
    injection hq with hq; subst hq
    have hlt : j % k < cs.length := by rw [hl]; exact Nat.mod_lt _ hk
    have := hat (j % k) _ (List.getElem?_eq_getElem hlt)
    refine ⟨cs[j % k], ?_⟩
    rw [← this, add_add, Nat.mul_comm (j / k), Nat.div_add_mod]
  refine ⟨(List.range (xs.length * k)).map fun j => (w.cell? (p.add j)).getD undef, ⟨by simp, fun i x hx => ?_⟩, fun j u hu => ?_, rfl, hc, hby⟩
  · obtain ⟨q, cs, hq, _, hl, hat, hr⟩ := hg i x hx
    injection hq with hq; subst hq
    have hi := (List.getElem?_eq_some_iff.1 hx).1
    have hle : (i + 1) * k ≤ xs.length * k := Nat.mul_le_mul_right k hi
    rw [Nat.add_mul] at hle
    have e : cut k i ((List.range (xs.length * k)).map fun j => (w.cell? (p.add j)).getD undef) = cs := by
      refine List.ext_getElem? fun j => ?_
      unfold cut
      rcases Nat.lt_or_ge j k with hj | hj
      · rw [List.getElem?_take, if_pos hj, List.getElem?_drop, List.getElem?_map, List.getElem?_range (by omega)]
        have := hat j _ (List.getElem?_eq_getElem (by omega))
        rw [List.getElem?_eq_getElem (by omega)]
        simp only [Option.map_some]
        rw [add_add] at this
        rw [this]; rfl
      · rw [List.getElem?_take, if_neg (by omega), List.getElem?_eq_none (by omega)]
    rw [e]; exact hr
  · rw [List.getElem?_map] at hu
    cases hr : (List.range (xs.length * k))[j]? with
    | none => rw [hr] at hu; cases hu
    | some j' =>
      rw [hr] at hu
      have hj := (List.getElem?_eq_some_iff.1 hr).1
      simp at hj
      rw [List.getElem?_range hj] at hr
      injection hr with hr; subst hr
      obtain ⟨u', hu'⟩ := hcell _ hj
      simp only [Option.map_some, hu', Option.getD_some, Option.some.injEq] at hu
      rw [← hu]; exact hu'
theorem Rows.rdS {T bytes : Nat} {p : Addr} {c : Nat} (h : Rows R F w k news xs) (hat : At w p news) (hF : F T p.block) (hc : xs.length ≤ c) (hby : xs.length * bytes ≤ 140737488351232) : RdS F w T k bytes R (.slice (some p) xs.length c) xs := by
  refine ⟨some p, c, rfl, hc, hby, fun i x hx => ⟨p, cut k i news, rfl, hF, cut_len h.len (List.getElem?_eq_some_iff.1 hx).1, fun j u hu => ?_, h.each i x hx⟩⟩
  unfold cut at hu
  rw [List.getElem?_take] at hu
  split at hu
  · rw [List.getElem?_drop] at hu
    have := hat _ u hu
    rw [← this, add_add]
  · cases hu
/-- The first i. -/
theorem RdS.take_ {T bytes : Nat} {A : Option Addr} {m c i : Nat} (h : RdS F w T k bytes R (.slice A m c) xs) (hi : i ≤ xs.length) : RdS F w T k bytes R (.slice A i c) (xs.take i) := by
  obtain ⟨A', c', e, hc, hby, hg⟩ := h
  injection e with e1 e2 e3
  subst e1; subst e2; subst e3
  have hl : (xs.take i).length = i := by simp; omega
  refine ⟨A, c, by rw [hl], by rw [hl]; omega, by rw [hl]; exact Nat.le_trans (Nat.mul_le_mul_right _ hi) hby, fun j x hx => ?_⟩
  rw [List.getElem?_take] at hx
  split at hx
  · exact hg j x hx
  · cases hx
/-- A row of one's own. -/
theorem ownsRow_rdS {T bytes base : Nat} {v : Value} (own : w.ownsRow base T k v xs.length news) (h : Rows R F w k news xs) (hF : ∀ g cur, v.ownBlock = some g → base ≤ g → w.heap[g]? = some (.cells cur T (0, 0)) → F T g) (hby : xs.length * bytes ≤ 140737488351232) : RdS F w T k bytes R v xs := by
  rcases own.2 with ⟨rfl, h0⟩ | ⟨g, cap, cur, rfl, hb, hg, hc, hm, hs, ht⟩
  · have : xs = [] := List.eq_nil_of_length_eq_zero h0
    subst this; exact RdS.nil_
  · exact h.rdS (fun j u hu => own.cells (g := g) rfl j u hu) (hF g cur rfl hb hg) hc hby
end
end Go.Proofs.YtmnnbnajnfdncaaDoor
