/- A keeper: a book of one's own that a pointer leads to. -/
import Derived.Test.YtmnnbnajnfdncaaGreatDoorD6
import Derived.Test.YtmnnbnajnfdncaaGreatDoorP6
set_option linter.unusedVariables false
set_option linter.unusedSimpArgs false
namespace Go.Proofs.YtmnnbnajnfdncaaGreatDoor
open Go.RowKit E
abbrev boxS : Nat → Prop := fun U => U = 27 ∨ U = 36 ∨ U = 41
/-- At K lies a book of one's own. -/
structure Kp (base : Nat) (w : World) (K : Nat) (b : BookD) : Prop where
  out : ∃ vn vt vb nn nt nb, base ≤ K ∧ w.heap[K]? = some (.cells [vn, vt, vb, .int .u64 b.fence].toArray 66 (0, 0)) ∧ ONodes base w vn b.nodes nn ∧ OTasks base w vt b.tasks nt ∧ OBinds base w vb b.binds nb
section
variable {w w' : World} {base K : Nat} {b : BookD} {vn vt vb : Value} {nn nt nb : List Value} {S : Nat → Prop}
theorem ONodes.keeps {xs : List NodeD} (h : ONodes base w vn xs nn) (hk : Keeps S w w') (h1 : S 32) (h2 : S 45) : ONodes base w' vn xs nn := OwnS.keeps h hk h1 fun cs x hx => RNode.keeps hx hk h2
theorem OTasks.keeps {xs : List TaskD} (h : OTasks base w vn xs nn) (hk : Keeps S w w') (h1 : S 34) (h2 : S 45) : OTasks base w' vn xs nn := OwnS.keeps h hk h1 fun cs x hx => RTask.keeps hx hk h2
theorem OBinds.keeps {xs : List BindD} (h : OBinds base w vn xs nn) (hk : Keeps S w w') (h1 : S 47) : OBinds base w' vn xs nn := OwnS.keeps h hk h1 fun cs x hx => hx
theorem ORd (hs : b.nodes.length ≤ 1024 ∧ b.tasks.length ≤ 1024 ∧ b.binds.length ≤ 1024) (o1 : ONodes base w vn b.nodes nn) (o2 : OTasks base w vt b.tasks nt) (o3 : OBinds base w vb b.binds nb) : RBook (Own base w) w [vn, vt, vb, .int .u64 b.fence] b :=
  ⟨vn, vt, vb, rfl, o1.rd (by omega), o2.rd (by omega), o3.rd (by omega)⟩
theorem Kp.mk' {w0 : World} {bl : Bxs} {b' : BookD} (hb : Bx base w0 w bl) (i : Nat) (hi : bl.at i = some (K, [vn, vt, vb, .int .u64 b'.fence], 66)) (o1 : ONodes base w vn b'.nodes nn) (o2 : OTasks base w vt b'.tasks nt) (o3 : OBinds base w vb b'.binds nb) : Kp base w K b' :=
  ⟨_, _, _, _, _, _, (hb.get hi).1, (hb.get hi).2, o1, o2, o3⟩
theorem Keeps.stepO {w2 : World} {B : Nat} (h : Keeps S w w') (hO : Only B w' w2) (hB : w.heap.size ≤ B) : Keeps S w w2 :=
  ⟨by rw [hO.size]; exact h.size, fun U B' hU hB' => (hO.block B' (by have := hB'.lt; omega)).trans (h.block U B' hU hB')⟩
theorem Bx.reK {w0 : World} {c c' : List Value} (bl : Bxs) (hb : Bx base w0 w (bl ++ [(K, c, 66)])) (hK6 : Keeps boxS w w') (hB6 : Below base w w') (hbl : ∀ p ∈ bl, boxS p.2.2) (hbK : base ≤ K) (hgK : w'.heap[K]? = some (.cells c'.toArray 66 (0, 0))) : Bx base w0 w' (bl ++ [(K, c', 66)]) :=
  ⟨hb.below.trans hB6, Nat.le_trans hb.le hB6.size, fun p hp => by
    rcases List.mem_append.1 hp with hp | hp
    · have h1 := hb.cell p (List.mem_append_left _ hp)
      exact ⟨h1.1, (hK6.block p.2.2 p.1 (hbl p hp) ⟨_, h1.2⟩).trans h1.2⟩
    · simp at hp; subst hp; exact ⟨hbK, hgK⟩, by have := hb.nodup; simpa using this⟩
theorem OBook.le {cs : List Value} {base' : Nat} (h : OBook base w cs b) (hl : base' ≤ base) : OBook base' w cs b := by
  obtain ⟨vn, vt, vb, nn, nt, nb, e, o1, o2, o3⟩ := h.out
  exact ⟨vn, vt, vb, nn, nt, nb, e, ⟨ownsRow_le o1.row hl, o1.rows.to fun cs x hx => RNode.le hx hl⟩, ⟨ownsRow_le o2.row hl, o2.rows.to fun cs x hx => RTask.le hx hl⟩, ⟨ownsRow_le o3.row hl, o3.rows.to fun cs x hx => hx⟩⟩
theorem Bx.reK2 {w0 : World} {c c' : List Value} (bl bl2 : Bxs) (hb : Bx base w0 w (bl ++ (K, c, 66) :: bl2)) (hK6 : Keeps boxS w w') (hB6 : Below base w w') (hbl : ∀ p ∈ bl ++ bl2, boxS p.2.2) (hbK : base ≤ K) (hgK : w'.heap[K]? = some (.cells c'.toArray 66 (0, 0))) : Bx base w0 w' (bl ++ (K, c', 66) :: bl2) :=
  ⟨hb.below.trans hB6, Nat.le_trans hb.le hB6.size, fun p hp => by
    have key : ∀ p ∈ bl ++ bl2, base ≤ p.1 ∧ w'.heap[p.1]? = some (.cells p.2.1.toArray p.2.2 (0, 0)) := fun p hp => by
      have h1 := hb.cell p (by simp only [List.mem_append, List.mem_cons] at hp ⊢; rcases hp with hp | hp; exact .inl hp; exact .inr (.inr hp))
      exact ⟨h1.1, (hK6.block p.2.2 p.1 (hbl p hp) ⟨_, h1.2⟩).trans h1.2⟩
    simp only [List.mem_append, List.mem_cons] at hp
    rcases hp with hp | rfl | hp
    · exact key p (List.mem_append_left _ hp)
    · exact ⟨hbK, hgK⟩
    · exact key p (List.mem_append_right _ hp), by have := hb.nodup; simpa using this⟩
theorem OwnS.put {α : Type} {R : Rd α} {T k i : Nat} {v v' : Value} {xs : List α} {x : α} {news cs : List Value} (h : OwnS R base w T k v xs news) (hx : R (Own base w) w cs x) (hl : cs.length = k) (hi : i ≤ xs.length) (own : w.ownsRow base T k v' (xs.length + 1) (putIn k i news cs)) : OwnS R base w T k v' (putAt i x xs) (putIn k i news cs) :=
  ⟨by rw [putAt_len hi]; exact own, h.rows.putIn hx hl⟩
theorem OwnS.out {α : Type} {R : Rd α} {T k i : Nat} {v v' : Value} {xs : List α} {news : List Value} (h : OwnS R base w T k v xs news) (hi : i < xs.length) (own : w.ownsRow base T k v' (xs.length - 1) (cutOut k i news)) : OwnS R base w T k v' (dropAt i xs) (cutOut k i news) :=
  ⟨by rw [dropAt_len hi]; exact own, h.rows.cutOut⟩
end
end Go.Proofs.YtmnnbnajnfdncaaGreatDoor
