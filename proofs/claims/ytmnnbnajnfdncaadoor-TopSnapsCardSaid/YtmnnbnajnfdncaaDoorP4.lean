/- Plain functions: books: where a name is, what is on a node, what is right, what can be. -/
import Derived.Test.YtmnnbnajnfdncaaDoorP3
set_option linter.unusedVariables false
namespace Go.Proofs.YtmnnbnajnfdncaaDoor
open Go.RowKit E
theorem all_range {p : Nat → Bool} {n : Nat} (h : ∀ i, i < n → p i = true) : (List.range n).all p = true := List.all_eq_true.2 fun i hi => h i (List.mem_range.1 hi)
theorem all_range_not {p : Nat → Bool} {n i : Nat} (hi : i < n) (h : p i = false) : (List.range n).all p = false := by
  cases hp : (List.range n).all p with
  | false => rfl
  | true => rw [List.all_eq_true.1 hp i (List.mem_range.2 hi)] at h; cases h
/-- Halving, with so many rounds at most. -/
def bsLoop (p : Nat → Bool) : Nat → Nat → Nat → Nat
  | 0, i, _ => i
  | f + 1, i, j => if i < j then (if p ((i + j) / 2) = true then bsLoop p f ((i + j) / 2 + 1) j else bsLoop p f i ((i + j) / 2)) else i
theorem bsLoop_more (p : Nat → Bool) : ∀ (f g i j : Nat), j - i ≤ f → j - i ≤ g → bsLoop p f i j = bsLoop p g i j
  | 0, g, i, j, hf, hg => by
    have : ¬ i < j := by omega
    cases g with
    | zero => rfl
    | succ g => simp [bsLoop, this]
  | f + 1, 0, i, j, hf, hg => by
    have : ¬ i < j := by omega
    simp [bsLoop, this]
  | f + 1, g + 1, i, j, hf, hg => by
    unfold bsLoop
    by_cases h : i < j
    · rw [if_pos h, if_pos h]
      by_cases hp : p ((i + j) / 2) = true
      · rw [if_pos hp, if_pos hp]; exact bsLoop_more p f g _ _ (by omega) (by omega)
      · rw [if_neg hp, if_neg hp]; exact bsLoop_more p f g _ _ (by omega) (by omega)
    · rw [if_neg h, if_neg h]
def bsI (p : Nat → Bool) (i j : Nat) : Nat := bsLoop p (j - i) i j
theorem bsI_up {p : Nat → Bool} {i j : Nat} (h : i < j) (hp : p ((i + j) / 2) = true) : bsI p i j = bsI p ((i + j) / 2 + 1) j := by
  unfold bsI
  obtain ⟨f, hf⟩ : ∃ f, j - i = f + 1 := ⟨j - i - 1, by omega⟩
  rw [hf]
  conv => lhs; unfold bsLoop
  rw [if_pos h, if_pos hp]
  exact bsLoop_more p _ _ _ _ (by omega) (by omega)
theorem bsI_down {p : Nat → Bool} {i j : Nat} (h : i < j) (hp : p ((i + j) / 2) = false) : bsI p i j = bsI p i ((i + j) / 2) := by
  unfold bsI
  obtain ⟨f, hf⟩ : ∃ f, j - i = f + 1 := ⟨j - i - 1, by omega⟩
  rw [hf]
  conv => lhs; unfold bsLoop
  rw [if_pos h, if_neg (by rw [hp]; decide)]
  exact bsLoop_more p _ _ _ _ (by omega) (by omega)
theorem bsI_end {p : Nat → Bool} {i j : Nat} (h : ¬ i < j) : bsI p i j = i := by
  unfold bsI
  rw [show j - i = 0 by omega]
  rfl
theorem bsLoop_le (p : Nat → Bool) : ∀ (f i j : Nat), i ≤ j → bsLoop p f i j ≤ j
  | 0, i, j, h => h
  | f + 1, i, j, h => by
    unfold bsLoop
    by_cases h' : i < j
    · rw [if_pos h']
      by_cases hp : p ((i + j) / 2) = true
      · rw [if_pos hp]; exact bsLoop_le p f _ _ (by omega)
      · rw [if_neg hp]; exact Nat.le_trans (bsLoop_le p f _ _ (by omega)) (by omega)
    · rw [if_neg h']; exact h
def lessAt (ks : List ByteArray) (s : ByteArray) (h : Nat) : Bool := match ks[h]? with | some x => decide (cmpB x s < 0) | none => false
def hitAt (ks : List ByteArray) (s : ByteArray) (h : Nat) : Bool := match ks[h]? with | some x => decide (cmpB x s = 0) | none => false
/-- Where a name is, or would be; whether it is. -/
def posB (ks : List ByteArray) (s : ByteArray) : Nat := bsI (lessAt ks s) 0 ks.length
def hasB (ks : List ByteArray) (s : ByteArray) : Bool := hitAt ks s (posB ks s)
theorem posB_le (ks : List ByteArray) (s : ByteArray) : posB ks s ≤ ks.length := bsLoop_le _ _ _ _ (Nat.zero_le _)
theorem cmpB_zero {a b : ByteArray} (h : cmpB a b = 0) : a = b := by
  unfold cmpB at h
  split at h
  · cases h
  · split at h
    · assumption
    · cases h
theorem hasB_at {ks : List ByteArray} {s : ByteArray} (h : hasB ks s = true) : ks[posB ks s]? = some s := by
  unfold hasB hitAt at h
  split at h
  · rename_i x hx
    rw [hx, cmpB_zero (of_decide_eq_true h)]
  · cases h
theorem hasB_lt {ks : List ByteArray} {s : ByteArray} (h : hasB ks s = true) : posB ks s < ks.length := by
  have := hasB_at h
  exact (List.getElem?_eq_some_iff.1 this).1
theorem lessAt_get {ks : List ByteArray} {s : ByteArray} {h : Nat} (hh : h < ks.length) : lessAt ks s h = decide (cmpB ks[h] s < 0) := by
  unfold lessAt; rw [List.getElem?_eq_getElem hh]
theorem hitAt_get {ks : List ByteArray} {s : ByteArray} {h : Nat} (hh : h < ks.length) : hitAt ks s h = decide (cmpB ks[h] s = 0) := by
  unfold hitAt; rw [List.getElem?_eq_getElem hh]
theorem hitAt_none {ks : List ByteArray} {s : ByteArray} {h : Nat} (hh : ¬ h < ks.length) : hitAt ks s h = false := by
  unfold hitAt; rw [List.getElem?_eq_none (by omega)]
def nodeNames (b : BookD) : List ByteArray := b.nodes.map NodeD.name
def taskNames (b : BookD) : List ByteArray := b.tasks.map TaskD.name
def bindNames (b : BookD) : List ByteArray := b.binds.map BindD.task
/-- Rising. -/
def riseAt (l : List ByteArray) : Nat → Bool
  | 0 => true
  | j + 1 => match l[j]?, l[j + 1]? with
    | some a, some b => ltB a b
    | _, _ => true
def risingB (l : List ByteArray) : Bool := (List.range l.length).all (riseAt l)
theorem risingB_of {l : List ByteArray} (h : ∀ i, i < l.length → riseAt l i = true) : risingB l = true := List.all_eq_true.2 fun i hi => h i (List.mem_range.1 hi)
theorem risingB_not {l : List ByteArray} {i : Nat} (hi : i < l.length) (h : riseAt l i = false) : risingB l = false := all_range_not hi h
theorem riseAt_get {l : List ByteArray} {k : Nat} (hk : k < l.length) (h0 : 0 < k) : riseAt l k = ltB (l[k - 1]'(by omega)) l[k] := by
  obtain ⟨j, rfl⟩ : ∃ j, k = j + 1 := ⟨k - 1, by omega⟩
  unfold riseAt
  simp only [List.getElem?_eq_getElem hk, List.getElem?_eq_getElem (show j < l.length by omega)]
  rfl
/-- The tasks of a node. -/
def thereOf (ts : List TaskD) (node : ByteArray) (x : BindD) : List TaskD :=
  if hasB (ts.map TaskD.name) x.task = true then (if x.node = node then (match ts[posB (ts.map TaskD.name) x.task]? with | some t => [t] | none => []) else []) else []
def thereB (b : BookD) (node : ByteArray) : List TaskD := b.binds.flatMap (thereOf b.tasks node)
theorem thereOf_hit {ts : List TaskD} {node : ByteArray} {x : BindD} (h1 : hasB (ts.map TaskD.name) x.task = true) (h2 : x.node = node) (hl : posB (ts.map TaskD.name) x.task < ts.length) : thereOf ts node x = [ts[posB (ts.map TaskD.name) x.task]] := by
  unfold thereOf; rw [if_pos h1, if_pos h2, List.getElem?_eq_getElem hl]
theorem thereOf_off {ts : List TaskD} {node : ByteArray} {x : BindD} (h1 : hasB (ts.map TaskD.name) x.task = false) : thereOf ts node x = [] := by
  unfold thereOf; rw [if_neg (by rw [h1]; decide)]
theorem thereOf_other {ts : List TaskD} {node : ByteArray} {x : BindD} (h2 : ¬ x.node = node) : thereOf ts node x = [] := by
  unfold thereOf; simp [h2]
theorem thereOf_le (ts : List TaskD) (node : ByteArray) (x : BindD) : (thereOf ts node x).length ≤ 1 := by
  unfold thereOf
  split
  · split
    · split <;> simp
    · simp
  · simp
theorem there_take {b : BookD} {node : ByteArray} {k : Nat} (hk : k < b.binds.length) : (b.binds.take (k + 1)).flatMap (thereOf b.tasks node) = (b.binds.take k).flatMap (thereOf b.tasks node) ++ thereOf b.tasks node b.binds[k] := by
  rw [List.take_add_one, List.getElem?_eq_getElem hk, List.flatMap_append]
  simp
theorem there_le (ts : List TaskD) (node : ByteArray) : ∀ l : List BindD, (l.flatMap (thereOf ts node)).length ≤ l.length
  | [] => by simp
  | x :: r => by
    have h1 := thereOf_le ts node x
    have h2 := there_le ts node r
    simp only [List.flatMap_cons, List.length_append, List.length_cons]
    omega
/-- What is on a node is right. -/
def wellAt (l : List TaskD) (n : NodeD) (i : Nat) : Bool := match l[i]? with
  | none => true
  | some t => suits t n && !(l.take i).any fun u => !bear t u
def wellL (l : List TaskD) (n : NodeD) : Bool := decide ((sumP l).2 = 0) && (roomB n (sumP l).1 Sum3.zero && (List.range l.length).all (wellAt l n))
def wellB (b : BookD) (n : NodeD) : Bool := wellL (thereB b n.name) n
theorem wellAt_get {l : List TaskD} {n : NodeD} {i : Nat} (hi : i < l.length) : wellAt l n i = (suits l[i] n && !(l.take i).any fun u => !bear l[i] u) := by
  unfold wellAt; rw [List.getElem?_eq_getElem hi]
/-- A book is right. -/
def listsB (b : BookD) : Bool := decide (b.nodes.length ≤ 16) && (decide (b.tasks.length ≤ 32) && (risingB (nodeNames b) && (risingB (taskNames b) && risingB (bindNames b))))
def boundB (b : BookD) (x : BindD) : Bool := hasB (nodeNames b) x.node && hasB (taskNames b) x.task
def pre1 (b : BookD) : Bool := listsB b && !b.nodes.any fun n => decide (¬ checkNode n = 0)
def pre2 (b : BookD) : Bool := pre1 b && !b.tasks.any fun t => decide (¬ checkTask t = 0)
def pre3 (b : BookD) : Bool := pre2 b && !b.binds.any fun x => !boundB b x
def checkB (b : BookD) : Bool := pre3 b && !b.nodes.any fun n => !wellB b n
/-- What an order is. -/
def noThree (a b c : Int) : Bool := decide (a = 0) && (decide (b = 0) && decide (c = 0))
def noNode (n : NodeD) : Bool := decide (n.name = ByteArray.mk #[]) && (noThree n.h0 n.h1 n.h2 && decide ((n.labels.length : Int) + n.taints.length = 0))
def noTask (t : TaskD) : Bool := decide (t.name ++ t.group ++ t.apart = ByteArray.mk #[]) && (noThree t.n0 t.n1 t.n2 && (decide ((t.wants.length : Int) + t.bears.length = 0) && decide (t.rank = 0)))
def noRest (o : OrderD) : Bool := decide (o.name ++ o.on = ByteArray.mk #[]) && decide (o.fence = 0)
def orderB (o : OrderD) : Bool :=
  if o.kind = 1 then noTask o.task && noRest o
  else if o.kind = 3 then noNode o.node && noRest o
  else if o.kind = 5 then noNode o.node && noTask o.task
  else if o.kind = 2 ∨ o.kind = 4 ∨ o.kind = 6 ∨ o.kind = 7 then (noNode o.node && noTask o.task) && (decide (o.on = ByteArray.mk #[]) && decide (o.fence = 0))
  else false
/-- Whether a task can be on a node. -/
def canP (b : BookD) (task node : ByteArray) : Int :=
  if hasB (taskNames b) task = false then 6 else if hasB (nodeNames b) node = false then 6 else if hasB (bindNames b) task = true then 7
  else match b.tasks[posB (taskNames b) task]?, b.nodes[posB (nodeNames b) node]? with
    | some t, some n => if (suits t n && roomB n (sumP (thereB b node)).1 ⟨t.n0, t.n1, t.n2⟩) && (thereB b node).all (bear t) then 0 else 13
    | _, _ => 13
end Go.Proofs.YtmnnbnajnfdncaaDoor
