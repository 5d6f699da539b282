/- A right book has few binds. -/
import Derived.Test.YtmnnbnajnfdncaaDoorP4
import Derived.Sort.Walk0
set_option linter.unusedVariables false
namespace Go.Proofs.YtmnnbnajnfdncaaDoor
open Go.RowKit E
theorem ltB_trans {a b c : ByteArray} (h1 : ltB a b = true) (h2 : ltB b c = true) : ltB a c = true := by
  unfold ltB at *
  rw [bytesLess_eq] at *
  exact decide_eq_true (List.lt_trans (of_decide_eq_true h1) (of_decide_eq_true h2))
theorem ltB_irrefl (a : ByteArray) : ltB a a = false := by
  unfold ltB
  rw [bytesLess_eq]
  exact decide_eq_false (List.lt_irrefl _)
theorem rising_lt {l : List ByteArray} (h : risingB l = true) : ∀ (d i : Nat) (hd : i + d + 1 < l.length), ltB (l[i]'(by omega)) (l[i + d + 1]) = true
  | 0, i, hd => by
    have := List.all_eq_true.1 h (i + 1) (List.mem_range.2 (by omega))
    rw [riseAt_get (by omega) (by omega)] at this
    simpa using this
  | d + 1, i, hd => by
    have h1 := rising_lt h d i (by omega)
    have := List.all_eq_true.1 h (i + (d + 1) + 1) (List.mem_range.2 (by omega))
    rw [riseAt_get (by omega) (by omega)] at this
    exact ltB_trans h1 this
theorem rising_nodup {l : List ByteArray} (h : risingB l = true) : l.Nodup := by
  rw [List.nodup_iff_pairwise_ne, List.pairwise_iff_getElem]
  intro i j hi hj hij e
  have := rising_lt h (j - i - 1) i (by omega)
  have e2 : ∀ (k : Nat) (hk : k < l.length), k = j → l[k] = l[j] := fun k hk e => by subst e; rfl
  rw [e2 (i + (j - i - 1) + 1) (by omega) (by omega), ← e, ltB_irrefl] at this
  cases this
theorem nodup_le {α : Type} [DecidableEq α] : ∀ (l m : List α), l.Nodup → (∀ x ∈ l, x ∈ m) → l.length ≤ m.length
  | [], m, _, _ => Nat.zero_le _
  | a :: l, m, hn, hs => by
    rw [List.nodup_cons] at hn
    have h1 : a ∈ m := hs a (by simp)
    have := nodup_le l (m.erase a) hn.2 (fun x hx => by
      have hne : x ≠ a := fun e => hn.1 (e ▸ hx)
      exact (List.mem_erase_of_ne hne).2 (hs x (by simp [hx])))
    rw [List.length_erase_of_mem h1] at this
    have hp := List.length_pos_of_mem h1
    simp only [List.length_cons]
    omega
theorem lists_le {b : BookD} (h : listsB b = true) : b.nodes.length ≤ 16 ∧ b.tasks.length ≤ 32 ∧ risingB (nodeNames b) = true ∧ risingB (taskNames b) = true ∧ risingB (bindNames b) = true := by
  unfold listsB at h
  simp only [Bool.and_eq_true, decide_eq_true_eq] at h
  exact h
theorem pre3_le {b : BookD} (h : pre3 b = true) : b.binds.length ≤ 32 := by
  unfold pre3 pre2 pre1 at h
  simp only [Bool.and_eq_true] at h
  obtain ⟨⟨⟨hl, _⟩, _⟩, hb⟩ := h
  obtain ⟨_, ht, _, _, hr⟩ := lists_le hl
  have hs : ∀ x ∈ bindNames b, x ∈ taskNames b := fun x hx => by
    unfold bindNames at hx
    obtain ⟨y, hy, rfl⟩ := List.mem_map.1 hx
    have : boundB b y = true := by
      have := hb
      simp only [Bool.not_eq_true', List.any_eq_false] at this
      simpa using this y hy
    unfold boundB at this
    simp only [Bool.and_eq_true] at this
    exact List.mem_of_getElem? (hasB_at this.2)
  have := nodup_le _ _ (rising_nodup hr) hs
  unfold bindNames taskNames at this
  simp only [List.length_map] at this
  omega
theorem check_le {b : BookD} (h : checkB b = true) : b.nodes.length ≤ 16 ∧ b.tasks.length ≤ 32 ∧ b.binds.length ≤ 32 := by
  unfold checkB at h
  simp only [Bool.and_eq_true] at h
  have h3 := pre3_le h.1
  have h1 := h.1
  unfold pre3 pre2 pre1 at h1
  simp only [Bool.and_eq_true] at h1
  have := lists_le h1.1.1.1
  exact ⟨this.1, this.2.1, h3⟩
theorem canP_fit {b : BookD} {task node : ByteArray} (h1 : hasB (taskNames b) task = true) (h2 : hasB (nodeNames b) node = true) (h3 : hasB (bindNames b) task = false) (hp : posB (taskNames b) task < b.tasks.length) (hq : posB (nodeNames b) node < b.nodes.length) :
    canP b task node = if ((suits b.tasks[posB (taskNames b) task] b.nodes[posB (nodeNames b) node] && roomB b.nodes[posB (nodeNames b) node] (sumP (thereB b node)).1 ⟨b.tasks[posB (taskNames b) task].n0, b.tasks[posB (taskNames b) task].n1, b.tasks[posB (taskNames b) task].n2⟩) && (thereB b node).all (bear b.tasks[posB (taskNames b) task])) = true then 0 else 13 := by
  unfold canP
  rw [if_neg (by rw [h1]; decide), if_neg (by rw [h2]; decide), if_neg (by rw [h3]; decide), List.getElem?_eq_getElem hp, List.getElem?_eq_getElem hq]
theorem taskPos_lt {b : BookD} {s : ByteArray} (h : hasB (taskNames b) s = true) : posB (taskNames b) s < b.tasks.length := by
  have := hasB_lt h; simpa [taskNames] using this
theorem nodePos_lt {b : BookD} {s : ByteArray} (h : hasB (nodeNames b) s = true) : posB (nodeNames b) s < b.nodes.length := by
  have := hasB_lt h; simpa [nodeNames] using this
theorem bindPos_lt {b : BookD} {s : ByteArray} (h : hasB (bindNames b) s = true) : posB (bindNames b) s < b.binds.length := by
  have := hasB_lt h; simpa [bindNames] using this
theorem all_take {α : Type} {p : α → Bool} {l : List α} {k : Nat} (hk : k < l.length) : (l.take (k + 1)).all p = ((l.take k).all p && p l[k]) := by
  rw [List.take_add_one, List.getElem?_eq_getElem hk, List.all_append]
  simp
theorem all_not {α : Type} {p : α → Bool} {l : List α} {k : Nat} (h : (l.take k).all p = false) : l.all p = false := by
  rw [← List.take_append_drop k l, List.all_append, h]
  rfl
end Go.Proofs.YtmnnbnajnfdncaaDoor
