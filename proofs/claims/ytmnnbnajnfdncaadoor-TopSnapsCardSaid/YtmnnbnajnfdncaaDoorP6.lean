/- Plain functions: what orders make of a book. -/
import Derived.Test.YtmnnbnajnfdncaaDoorP5
set_option linter.unusedVariables false
namespace Go.Proofs.YtmnnbnajnfdncaaDoor
open Go.RowKit E
def putAt {α : Type} (i : Nat) (x : α) (l : List α) : List α := l.take i ++ x :: l.drop i
def dropAt {α : Type} (i : Nat) (l : List α) : List α := l.take i ++ l.drop (i + 1)
theorem putAt_len {α : Type} {i : Nat} {x : α} {l : List α} (h : i ≤ l.length) : (putAt i x l).length = l.length + 1 := by
  unfold putAt; simp only [List.length_append, List.length_take, List.length_cons, List.length_drop]; omega
theorem dropAt_len {α : Type} {i : Nat} {l : List α} (h : i < l.length) : (dropAt i l).length = l.length - 1 := by
  unfold dropAt; simp only [List.length_append, List.length_take, List.length_drop]; omega
def small (b : BookD) : Prop := b.nodes.length ≤ 16 ∧ b.tasks.length ≤ 32 ∧ b.binds.length ≤ 32
def addNodeP (b : BookD) (n : NodeD) : BookD × Int :=
  if ¬ checkNode n = 0 then (b, checkNode n) else if hasB (nodeNames b) n.name = true then (b, 7) else if 16 ≤ b.nodes.length then (b, 11) else ({ b with nodes := putAt (posB (nodeNames b) n.name) n b.nodes }, 0)
def addTaskP (b : BookD) (n : TaskD) : BookD × Int :=
  if ¬ checkTask n = 0 then (b, checkTask n) else if hasB (taskNames b) n.name = true then (b, 7) else if 32 ≤ b.tasks.length then (b, 11) else ({ b with tasks := putAt (posB (taskNames b) n.name) n b.tasks }, 0)
def goneP (b : BookD) (s : ByteArray) : BookD × Int :=
  if hasB (nodeNames b) s = false then (b, 6) else if 0 < (thereB b s).length then (b, 12) else ({ b with nodes := dropAt (posB (nodeNames b) s) b.nodes }, 0)
def freeP (b : BookD) (s : ByteArray) : BookD × Bool :=
  if hasB (bindNames b) s = true then ({ b with binds := dropAt (posB (bindNames b) s) b.binds }, true) else (b, false)
def placeP (b : BookD) (o : OrderD) : BookD × Int :=
  if o.fence < b.fence then (b, 14) else if canP b o.name o.on = 0 then ({ b with binds := putAt (posB (bindNames b) o.name) ⟨o.name, o.on⟩ b.binds }, 0) else (b, canP b o.name o.on)
def noText : ByteArray := ByteArray.mk #[]
def ofTaskP (b : BookD) (o : OrderD) : BookD × Int × ByteArray :=
  if hasB (taskNames b) o.name = false then (b, 6, noText)
  else if o.kind = 4 then ({ (freeP b o.name).1 with tasks := dropAt (posB (taskNames b) o.name) (freeP b o.name).1.tasks }, 0, noText)
  else if o.kind = 6 then ((freeP b o.name).1, (if (freeP b o.name).2 = true then 0 else 10), noText)
  else if o.kind = 7 then (b, 0, (if hasB (bindNames b) o.name = true then (match b.binds[posB (bindNames b) o.name]? with | some x => x.node | none => noText) else noText))
  else (b, 0, noText)
def noBook : BookD := ⟨[], [], [], 0⟩
def doP (b : BookD) (o : OrderD) : BookD × Int × ByteArray :=
  if checkB b = false then (noBook, 10, noText) else if orderB o = false then (b, 4, noText)
  else if o.kind = 1 then ((addNodeP b o.node).1, (addNodeP b o.node).2, noText)
  else if o.kind = 3 then ((addTaskP b o.task).1, (addTaskP b o.task).2, noText)
  else if o.kind = 2 then ((goneP b o.name).1, (goneP b o.name).2, noText)
  else if o.kind = 5 then ((placeP b o).1, (placeP b o).2, noText)
  else ofTaskP b o
def leadP (b : BookD) (t : Int) : BookD × Int := if checkB b = false then (noBook, 10) else ({ b with fence := if t > b.fence then t else b.fence }, 0)
theorem freeP_tasks (b : BookD) (s : ByteArray) : (freeP b s).1.tasks = b.tasks ∧ (freeP b s).1.nodes = b.nodes ∧ (freeP b s).1.fence = b.fence := by
  unfold freeP; split <;> exact ⟨rfl, rfl, rfl⟩
end Go.Proofs.YtmnnbnajnfdncaaDoor
