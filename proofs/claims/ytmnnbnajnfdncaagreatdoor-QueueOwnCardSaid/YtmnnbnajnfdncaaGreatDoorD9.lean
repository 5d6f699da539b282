/- The orders that 'lives' asks, in memory. -/
import Derived.Test.YtmnnbnajnfdncaaGreatDoorD8
import Derived.Test.YtmnnbnajnfdncaaGreatDoorP7
import Derived.Test.YtmnnbnajnfdncaaGreatDoorBook4
set_option linter.unusedVariables false
set_option linter.unusedSimpArgs false
namespace Go.Proofs.YtmnnbnajnfdncaaGreatDoor
open Go.RowKit E
def nilS : Value := .slice none 0 0
def ordCells (o : OrderD) : List Value :=
  [.int .u8 o.kind, .string o.node.name, .int .i64 o.node.h0, .int .i64 o.node.h1, .int .i64 o.node.h2, nilS, nilS, .string o.task.name, .int .i64 o.task.n0, .int .i64 o.task.n1, .int .i64 o.task.n2, nilS, nilS, .string o.task.group, .string o.task.apart, .int .i64 o.task.rank, .string o.name, .string o.on, .int .u64 o.fence]
def ordAll : List Value := ordCells (ord 0) ++ (ordCells (ord 1) ++ (ordCells (ord 2) ++ ordCells (ord 3)))
theorem ord_cut : ∀ k, k < 4 → (ordAll.drop (k * 19)).take 19 = ordCells (ord k)
  | 0, _ => rfl
  | 1, _ => rfl
  | 2, _ => rfl
  | 3, _ => rfl
theorem ord_rd {o : OrderD} (w : World) (h1 : o.node.labels = []) (h2 : o.node.taints = []) (h3 : o.task.wants = []) (h4 : o.task.bears = []) : ROrder Any w (ordCells o) o :=
  ⟨_, _, rfl, ⟨_, _, rfl, by rw [h1]; exact RdS.nil_, by rw [h2]; exact RdS.nil_⟩, ⟨_, _, rfl, by rw [h3]; exact RdS.nil_, by rw [h4]; exact RdS.nil_⟩⟩
theorem ord_rd' (w : World) : ∀ k, k < 7 → ROrder Any w (ordCells (ord k)) (ord k)
  | 0, _ => ord_rd w rfl rfl rfl rfl
  | 1, _ => ord_rd w rfl rfl rfl rfl
  | 2, _ => ord_rd w rfl rfl rfl rfl
  | 3, _ => ord_rd w rfl rfl rfl rfl
  | 4, _ => ord_rd w rfl rfl rfl rfl
  | 5, _ => ord_rd w rfl rfl rfl rfl
  | 6, _ => ord_rd w rfl rfl rfl rfl
theorem ord_fits : ∀ k, k < 7 → orderFits (ord k)
  | 0, _ => ⟨by unfold taskFits; decide, by decide⟩
  | 1, _ => ⟨by unfold taskFits; decide, by decide⟩
  | 2, _ => ⟨by unfold taskFits; decide, by decide⟩
  | 3, _ => ⟨by unfold taskFits; decide, by decide⟩
  | 4, _ => ⟨by unfold taskFits; decide, by decide⟩
  | 5, _ => ⟨by unfold taskFits; decide, by decide⟩
  | 6, _ => ⟨by unfold taskFits; decide, by decide⟩
theorem bk_small : ∀ k, k ≤ 4 → (bk k).nodes.length ≤ 1024 ∧ (bk k).tasks.length ≤ 1024 ∧ (bk k).binds.length ≤ 1024
  | 0, _ => by decide +kernel
  | 1, _ => by decide +kernel
  | 2, _ => by decide +kernel
  | 3, _ => by decide +kernel
  | 4, _ => by decide +kernel
theorem lead_small : (leadP (bk 4) 3).1.nodes.length ≤ 1024 ∧ (leadP (bk 4) 3).1.tasks.length ≤ 1024 ∧ (leadP (bk 4) 3).1.binds.length ≤ 1024 := by decide +kernel
theorem OBook.keeps {S : Nat → Prop} {base : Nat} {w w' : World} {cs : List Value} {b : BookD} (h : OBook base w cs b) (hk : Keeps S w w') (hS : S 32 ∧ S 34 ∧ S 47 ∧ S 45) : OBook base w' cs b := by
  obtain ⟨vn, vt, vb, nn, nt, nb, e, o1, o2, o3⟩ := h.out
  exact ⟨vn, vt, vb, nn, nt, nb, e, ONodes.keeps o1 hk hS.1 hS.2.2.2, OTasks.keeps o2 hk hS.2.1 hS.2.2.2, OBinds.keeps o3 hk hS.2.2.1⟩
theorem OBook.rd {base : Nat} {w : World} {cs : List Value} {b : BookD} (h : OBook base w cs b) (hs : b.nodes.length ≤ 1024 ∧ b.tasks.length ≤ 1024 ∧ b.binds.length ≤ 1024) : RBook (Own base w) w cs b := by
  obtain ⟨vn, vt, vb, nn, nt, nb, rfl, o1, o2, o3⟩ := h.out
  exact ORd hs o1 o2 o3
/-- A book's four cells. -/
theorem OBook.four {base : Nat} {w : World} {cs : List Value} {b : BookD} (h : OBook base w cs b) : ∃ A1 c1 A2 c2 A3 c3, cs = [.slice A1 b.nodes.length c1, .slice A2 b.tasks.length c2, .slice A3 b.binds.length c3, .int .u64 b.fence] := by
  obtain ⟨vn, vt, vb, nn, nt, nb, rfl, o1, o2, o3⟩ := h.out
  obtain ⟨A1, c1, rfl, _⟩ := ownsRow_open o1.row
  obtain ⟨A2, c2, rfl, _⟩ := ownsRow_open o2.row
  obtain ⟨A3, c3, rfl, _⟩ := ownsRow_open o3.row
  exact ⟨_, _, _, _, _, _, rfl⟩
end Go.Proofs.YtmnnbnajnfdncaaGreatDoor
