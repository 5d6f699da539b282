/- Plain functions: lists gone through by a predicate; pairs, nodes, tasks; sums. -/
import Derived.Test.YtmnnbnajnfdncaaDoorP2
set_option linter.unusedVariables false
namespace Go.Proofs.YtmnnbnajnfdncaaDoor
open Go.RowKit E
def idxBy {α : Type} (p : α → Bool) (xs : List α) : Int := match xs.findIdx? p with | some i => (i : Int) | none => -1
theorem idxBy_hit {α : Type} {p : α → Bool} {xs : List α} {k : Nat} (hk : k < xs.length) (h : p xs[k] = true) (hb : ∀ i (hi : i < xs.length), i < k → p xs[i] = false) : idxBy p xs = k := by
  unfold idxBy
  have : xs.findIdx? p = some k := List.findIdx?_eq_some_iff_getElem.2 ⟨hk, h, fun j hj => by simpa using hb j (by omega) hj⟩
  rw [this]
theorem idxBy_miss {α : Type} {p : α → Bool} {xs : List α} (hb : ∀ i (hi : i < xs.length), p xs[i] = false) : idxBy p xs = -1 := by
  unfold idxBy
  have : xs.findIdx? p = none := by
    rw [List.findIdx?_eq_none_iff]
    intro x hx
    obtain ⟨i, hi, rfl⟩ := List.mem_iff_getElem.1 hx
    exact hb i hi
  rw [this]
theorem idxBy_any {α : Type} (p : α → Bool) (xs : List α) : decide (0 ≤ idxBy p xs) = xs.any p := by
  unfold idxBy
  cases h : xs.findIdx? p with
  | none =>
    rw [List.findIdx?_eq_none_iff] at h
    have : xs.any p = false := by simpa using h
    simp [this]
  | some i =>
    obtain ⟨hi, h1, _⟩ := List.findIdx?_eq_some_iff_getElem.1 h
    have : xs.any p = true := List.any_eq_true.2 ⟨xs[i], List.getElem_mem _, h1⟩
    simp [this]
/-- The pairs behind k are right, the one ahead of k being known. -/
def pairsOk : List PairD → Bool
  | [] => true
  | [p] => nameB p.key && namedB p.val
  | p :: q :: r => (nameB p.key && namedB p.val) && (decide (orderP p q < 0) && pairsOk (q :: r))
def pairsB (l : List PairD) : Bool := pairsOk l && decide (l.length ≤ 4)
def okAt (l : List PairD) (i : Nat) : Bool := match l[i]? with
  | none => true
  | some p => nameB p.key && namedB p.val && (match i with
    | 0 => true
    | j + 1 => match l[j]? with
      | none => true
      | some q => decide (orderP q p < 0))
def pairsAll (l : List PairD) : Bool := (List.range l.length).all (okAt l)
def pairB (l : List PairD) : Bool := pairsAll l && decide (l.length ≤ 4)
theorem pairsAll_of {l : List PairD} (h : ∀ i, i < l.length → okAt l i = true) : pairsAll l = true := List.all_eq_true.2 fun i hi => h i (List.mem_range.1 hi)
theorem pairsAll_not {l : List PairD} {i : Nat} (hi : i < l.length) (h : okAt l i = false) : pairsAll l = false := by
  cases hp : pairsAll l with
  | false => rfl
  | true => rw [List.all_eq_true.1 hp i (List.mem_range.2 hi)] at h; cases h
theorem okAt_name {l : List PairD} {k : Nat} (hk : k < l.length) (h : nameB l[k].key = false) : okAt l k = false := by
  unfold okAt; rw [List.getElem?_eq_getElem hk]; simp [h]
theorem okAt_val {l : List PairD} {k : Nat} (hk : k < l.length) (h : namedB l[k].val = false) : okAt l k = false := by
  unfold okAt; rw [List.getElem?_eq_getElem hk]; simp [h]
theorem okAt_ord {l : List PairD} {k : Nat} (hk : k < l.length) (h0 : 0 < k) (h : 0 ≤ orderP (l[k - 1]'(by omega)) l[k]) : okAt l k = false := by
  obtain ⟨j, rfl⟩ : ∃ j, k = j + 1 := ⟨k - 1, by omega⟩
  unfold okAt
  rw [List.getElem?_eq_getElem hk]
  simp only [List.getElem?_eq_getElem (show j < l.length by omega)]
  simp only [Nat.add_sub_cancel] at h
  rw [decide_eq_false (by omega)]; simp
theorem okAt_zero {l : List PairD} {k : Nat} (hk : k < l.length) (h0 : k = 0) (h1 : nameB l[k].key = true) (h2 : namedB l[k].val = true) : okAt l k = true := by
  subst h0; unfold okAt; rw [List.getElem?_eq_getElem hk]; simp [h1, h2]
theorem okAt_ok {l : List PairD} {k : Nat} (hk : k < l.length) (h0 : 0 < k) (h1 : nameB l[k].key = true) (h2 : namedB l[k].val = true) (h : ¬ 0 ≤ orderP (l[k - 1]'(by omega)) l[k]) : okAt l k = true := by
  obtain ⟨j, rfl⟩ : ∃ j, k = j + 1 := ⟨k - 1, by omega⟩
  unfold okAt
  rw [List.getElem?_eq_getElem hk]
  simp only [List.getElem?_eq_getElem (show j < l.length by omega)]
  simp only [Nat.add_sub_cancel] at h
  rw [decide_eq_true (by omega)]; simp [h1, h2]
theorem pairB_bad {l : List PairD} {k : Nat} (hk : k < l.length) (h : okAt l k = false) : pairB l = false := by
  unfold pairB; rw [pairsAll_not hk h]; rfl
theorem pairB_all {l : List PairD} (h : ∀ i, i < l.length → okAt l i = true) : pairB l = decide (l.length ≤ 4) := by
  unfold pairB; rw [pairsAll_of h]; rfl
def minI (a b : Int) : Int := if b < a then b else a
def maxI (a b : Int) : Int := if b > a then b else a
def min3 (a b c : Int) : Nat → Int | 1 => a | 2 => minI a b | _ => minI (minI a b) c
def max3 (a b c : Int) : Nat → Int | 1 => a | 2 => maxI a b | _ => maxI (maxI a b) c
def amtB (a b c m : Int) : Bool := decide (0 ≤ minI (minI a b) c) && decide (maxI (maxI a b) c ≤ m * 1099511627776)
theorem amtB_iff {a b c m : Int} : amtB a b c m = true ↔ (0 ≤ a ∧ 0 ≤ b ∧ 0 ≤ c) ∧ (a ≤ m * 1099511627776 ∧ b ≤ m * 1099511627776 ∧ c ≤ m * 1099511627776) := by
  unfold amtB minI maxI
  simp only [Bool.and_eq_true, decide_eq_true_eq]
  split <;> split <;> split <;> split <;> omega
def checkNode (n : NodeD) : Int := if nameB n.name = false then 5 else if amtB n.h0 n.h1 n.h2 1 = false then 1 else if pairB n.labels = false then 4 else if pairB n.taints = false then 4 else 0
def checkTask (t : TaskD) : Int :=
  if nameB t.name = false then 5 else if amtB t.n0 t.n1 t.n2 1 = false then 1 else if t.rank < -1000 then 1 else if 1000 < t.rank then 1
  else if pairB t.wants = false then 4 else if pairB t.bears = false then 4 else if namedB t.group = false then 4 else if namedB t.apart = false then 4 else 0
structure Sum3 where
  a : Int
  b : Int
  c : Int
  deriving DecidableEq
def Sum3.zero : Sum3 := ⟨0, 0, 0⟩
def Sum3.add (s : Sum3) (t : TaskD) : Sum3 := ⟨s.a + t.n0, s.b + t.n1, s.c + t.n2⟩
def sumOf (l : List TaskD) : Sum3 := l.foldl Sum3.add Sum3.zero
def amtsOk (t : TaskD) : Bool := amtB t.n0 t.n1 t.n2 1
def sumP (l : List TaskD) : Sum3 × Int := if 32 < l.length then (Sum3.zero, 1) else if l.any (fun t => !amtsOk t) = true then (Sum3.zero, 1) else (sumOf l, 0)
theorem sumOf_take {l : List TaskD} {k : Nat} (hk : k < l.length) : sumOf (l.take (k + 1)) = (sumOf (l.take k)).add l[k] := by
  unfold sumOf
  rw [List.take_add_one, List.getElem?_eq_getElem hk, List.foldl_append]
  rfl
theorem sumOf_bound {l : List TaskD} (h : ∀ t ∈ l, amtsOk t = true) : (0 ≤ (sumOf l).a ∧ (sumOf l).a ≤ l.length * 1099511627776) ∧ (0 ≤ (sumOf l).b ∧ (sumOf l).b ≤ l.length * 1099511627776) ∧ (0 ≤ (sumOf l).c ∧ (sumOf l).c ≤ l.length * 1099511627776) := by
  have key : ∀ (l : List TaskD) (s : Sum3) (m : Nat), (∀ t ∈ l, amtsOk t = true) → (0 ≤ s.a ∧ s.a ≤ m * 1099511627776) ∧ (0 ≤ s.b ∧ s.b ≤ m * 1099511627776) ∧ (0 ≤ s.c ∧ s.c ≤ m * 1099511627776) →
      (0 ≤ (l.foldl Sum3.add s).a ∧ (l.foldl Sum3.add s).a ≤ ((m + l.length : Nat) : Int) * 1099511627776) ∧ (0 ≤ (l.foldl Sum3.add s).b ∧ (l.foldl Sum3.add s).b ≤ ((m + l.length : Nat) : Int) * 1099511627776) ∧ (0 ≤ (l.foldl Sum3.add s).c ∧ (l.foldl Sum3.add s).c ≤ ((m + l.length : Nat) : Int) * 1099511627776) := by
    intro l
    induction l with
    | nil => intro s m _ hs; simpa using hs
    | cons t r ih =>
      intro s m hl hs
      have h1 := amtB_iff.1 (hl t (by simp))
      have := ih (s.add t) (m + 1) (fun u hu => hl u (by simp [hu])) (by simp only [Sum3.add]; omega)
      simp only [List.foldl_cons, List.length_cons]
      rw [show m + (r.length + 1) = m + 1 + r.length by omega]
      exact this
  have := key l Sum3.zero 0 h (by simp [Sum3.zero])
  simpa [sumOf] using this
def roomB (n : NodeD) (u v : Sum3) : Bool :=
  (amtB n.h0 n.h1 n.h2 1 && (amtB u.a u.b u.c 32 && amtB v.a v.b v.c 1)) && (decide (u.a ≤ n.h0 - v.a) && (decide (u.b ≤ n.h1 - v.b) && decide (u.c ≤ n.h2 - v.c)))
end Go.Proofs.YtmnnbnajnfdncaaDoor
