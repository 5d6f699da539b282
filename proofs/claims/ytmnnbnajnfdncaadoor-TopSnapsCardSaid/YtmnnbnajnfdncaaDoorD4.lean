/- Memory of one's own, by the kinds of its blocks; what is kept when blocks of other kinds turn. -/
import Derived.Test.YtmnnbnajnfdncaaDoorD3
set_option linter.unusedVariables false
set_option linter.unusedSimpArgs false
namespace Go.Proofs.YtmnnbnajnfdncaaDoor
open Go.RowKit E
def HasT (w : World) (T B : Nat) : Prop := ∃ cs, w.heap[B]? = some (.cells cs T (0, 0))
theorem HasT.lt {w : World} {T B : Nat} (h : HasT w T B) : B < w.heap.size := by
  obtain ⟨cs, h⟩ := h; exact (Array.getElem?_eq_some_iff.1 h).1
theorem HasT.uniq {w : World} {T U B : Nat} (h : HasT w T B) (h' : HasT w U B) : T = U := by
  obtain ⟨cs, h⟩ := h; obtain ⟨cs', h'⟩ := h'
  rw [h] at h'
  injection h' with h'
  injection h' with h1 h2 h3
def Own (base : Nat) (w : World) : FP := fun T B => base ≤ B ∧ HasT w T B
/-- Blocks of these kinds stand as they stood. -/
structure Keeps (S : Nat → Prop) (w w' : World) : Prop where
  size : w.heap.size ≤ w'.heap.size
  block : ∀ U B, S U → HasT w U B → w'.heap[B]? = w.heap[B]?
section
variable {S S' : Nat → Prop} {w w' w'' : World} {T U B base : Nat}
theorem Keeps.refl (w : World) : Keeps S w w := ⟨Nat.le_refl _, fun _ _ _ _ => rfl⟩
theorem Keeps.ext (h : Ext w w') : Keeps S w w' := ⟨h.size, fun U B _ hB => h.block B hB.lt⟩
theorem Keeps.hasT (h : Keeps S w w') (hS : S U) (hB : HasT w U B) : HasT w' U B := by
  obtain ⟨cs, hc⟩ := id hB
  exact ⟨cs, (h.block U B hS hB).trans hc⟩
theorem Keeps.trans (h : Keeps S w w') (h' : Keeps S w' w'') : Keeps S w w'' :=
  ⟨Nat.le_trans h.size h'.size, fun U B hS hB => (h'.block U B hS (h.hasT hS hB)).trans (h.block U B hS hB)⟩
theorem Keeps.only (h : Only B w w') (hB : HasT w T B) (hS : ¬ S T) : Keeps S w w' :=
  ⟨by rw [h.size]; exact Nat.le_refl _, fun U B' hU hB' => h.block B' (fun e => hS (by subst e; rw [hB.uniq hB']; exact hU))⟩
theorem Keeps.mono (h : Keeps S w w') (hS : ∀ U, S' U → S U) : Keeps S' w w' := ⟨h.size, fun U B hU hB => h.block U B (hS U hU) hB⟩
theorem Keeps.grown {row : Option Nat} (h : w.grownBy w' row) (hr : ∀ k, row = some k → HasT w T k) (hS : ¬ S T) : Keeps S w w' :=
  ⟨h.size, fun U B hU hB => h.block B hB.lt (fun e => hS (by rw [(hr B e.symm).uniq hB]; exact hU))⟩
theorem Own.keeps (h : Keeps S w w') (hS : S T) (hB : Own base w T B) : Own base w' T B := ⟨hB.1, h.hasT hS hB.2⟩
theorem Own.le {base' : Nat} (h : base' ≤ base) (hB : Own base w T B) : Own base' w T B := ⟨Nat.le_trans h hB.1, hB.2⟩
theorem Own.any (hB : Own base w T B) : Any T B := trivial
theorem _root_.Go.Proofs.YtmnnbnajnfdncaaDoor.E.Bx.hasT {w0 : World} {bl : Bxs} (hb : Bx base w0 w bl) (i : Nat) {cs : List Value} (hi : bl.at i = some (B, cs, T)) : HasT w T B := ⟨_, (hb.get hi).2⟩
theorem ownsRow_keeps {k m : Nat} {v : Value} {xs : List Value} (h : w.ownsRow base T k v m xs) (hk : Keeps S w w') (hS : S T) : w'.ownsRow base T k v m xs := by
  refine ⟨h.1, ?_⟩
  rcases h.2 with hn | ⟨g, cap, cur, rfl, hb, hgg, rest⟩
  · exact .inl hn
  · exact .inr ⟨g, cap, cur, rfl, hb, (hk.block T g hS ⟨_, hgg⟩).trans hgg, rest⟩
theorem ownsRow_hasT {k m : Nat} {v : Value} {xs : List Value} (h : w.ownsRow base T k v m xs) : ∀ g, v.ownBlock = some g → HasT w T g := by
  intro g hg
  rcases h.2 with ⟨rfl, _⟩ | ⟨g', cap, cur, rfl, hb, hgg, rest⟩
  · simp [Value.ownBlock] at hg
  · simp [Value.ownBlock] at hg; subst hg; exact ⟨_, hgg⟩
theorem ownsRow_le {k m base' : Nat} {v : Value} {xs : List Value} (h : w.ownsRow base T k v m xs) (hl : base' ≤ base) : w.ownsRow base' T k v m xs := by
  refine ⟨h.1, ?_⟩
  rcases h.2 with hn | ⟨g, cap, cur, rfl, hb, rest⟩
  · exact .inl hn
  · exact .inr ⟨g, cap, cur, rfl, Nat.le_trans hl hb, rest⟩
theorem RPairs.keeps {v : Value} {xs : List PairD} (h : RPairs (Own base w) w v xs) (hk : Keeps S w w') (hS : S 45) : RPairs (Own base w') w' v xs :=
  h.to (fun B hB => hB.keeps hk hS) (fun B hB _ => hk.block 45 B hS hB.2) (fun cs x hx => hx)
theorem RPairs.le {base' : Nat} {v : Value} {xs : List PairD} (h : RPairs (Own base w) w v xs) (hl : base' ≤ base) : RPairs (Own base' w) w v xs := h.mono RPair.goes (fun _ _ hB => hB.le hl)
theorem RNode.keeps {cs : List Value} {x : NodeD} (h : RNode (Own base w) w cs x) (hk : Keeps S w w') (hS : S 45) : RNode (Own base w') w' cs x := by
  obtain ⟨vl, vt, rfl, h1, h2⟩ := h; exact ⟨vl, vt, rfl, RPairs.keeps h1 hk hS, RPairs.keeps h2 hk hS⟩
theorem RTask.keeps {cs : List Value} {x : TaskD} (h : RTask (Own base w) w cs x) (hk : Keeps S w w') (hS : S 45) : RTask (Own base w') w' cs x := by
  obtain ⟨vl, vt, rfl, h1, h2⟩ := h; exact ⟨vl, vt, rfl, RPairs.keeps h1 hk hS, RPairs.keeps h2 hk hS⟩
theorem RNode.le {base' : Nat} {cs : List Value} {x : NodeD} (h : RNode (Own base w) w cs x) (hl : base' ≤ base) : RNode (Own base' w) w cs x := RNode.goes.mono h (fun _ _ hB => hB.le hl)
theorem RTask.le {base' : Nat} {cs : List Value} {x : TaskD} (h : RTask (Own base w) w cs x) (hl : base' ≤ base) : RTask (Own base' w) w cs x := RTask.goes.mono h (fun _ _ hB => hB.le hl)
/-- A slice all of whose row is one's own, its elements read as xs. -/
structure OwnS {α : Type} (R : Rd α) (base : Nat) (w : World) (T k : Nat) (v : Value) (xs : List α) (news : List Value) : Prop where
  row : w.ownsRow base T k v xs.length news
  rows : Rows R (Own base w) w k news xs
theorem OwnS.keeps {α : Type} {R : Rd α} {k : Nat} {v : Value} {xs : List α} {news : List Value} (h : OwnS R base w T k v xs news) (hk : Keeps S w w') (hS : S T) (hR : ∀ cs x, R (Own base w) w cs x → R (Own base w') w' cs x) : OwnS R base w' T k v xs news :=
  ⟨ownsRow_keeps h.row hk hS, h.rows.to hR⟩
theorem OwnS.rd {α : Type} {R : Rd α} {k bytes : Nat} {v : Value} {xs : List α} {news : List Value} (h : OwnS R base w T k v xs news) (hby : xs.length * bytes ≤ 140737488351232) : RdS (Own base w) w T k bytes R v xs :=
  ownsRow_rdS h.row h.rows (fun g cur _ hb hg => ⟨hb, _, hg⟩) hby
abbrev ONodes (base : Nat) (w : World) (v : Value) (xs : List NodeD) (news : List Value) : Prop := OwnS RNode base w 32 6 v xs news
abbrev OTasks (base : Nat) (w : World) (v : Value) (xs : List TaskD) (news : List Value) : Prop := OwnS RTask base w 34 9 v xs news
abbrev OBinds (base : Nat) (w : World) (v : Value) (xs : List BindD) (news : List Value) : Prop := OwnS RBind base w 47 2 v xs news
/-- A book of one's own. -/
structure OBook (base : Nat) (w : World) (cs : List Value) (b : BookD) : Prop where
  out : ∃ vn vt vb nn nt nb, cs = [vn, vt, vb, .int .u64 b.fence] ∧ ONodes base w vn b.nodes nn ∧ OTasks base w vt b.tasks nt ∧ OBinds base w vb b.binds nb
theorem Bx.own0 {w0 : World} {bl : Bxs} {k : Nat} (hb : Bx base w0 w ((B, [], T) :: bl)) : w.ownsRow base T k (.slice (some ⟨B, 0, none⟩) 0 0) 0 [] := by
  obtain ⟨h1, h2⟩ := hb.get (i := 0) rfl
  exact ⟨by simp, .inr ⟨B, 0, _, rfl, h1, h2, Nat.le_refl _, Nat.zero_le _, by simp, by simp⟩⟩
end
end Go.Proofs.YtmnnbnajnfdncaaDoor
