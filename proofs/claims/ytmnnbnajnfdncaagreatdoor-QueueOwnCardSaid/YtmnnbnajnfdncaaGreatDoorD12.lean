/- Loads of nodes and names of nodes in memory of one's own. -/
import Derived.Test.YtmnnbnajnfdncaaGreatDoorD11
set_option linter.unusedVariables false
set_option linter.unusedSimpArgs false
namespace Go.Proofs.YtmnnbnajnfdncaaGreatDoor
open Go.RowKit E
/-- A node's load: the node, and three amounts. -/
def RLoad (F : FP) (w : World) (cs : List Value) (x : NodeD) : Prop := ∃ vl vt a b c, cs = [.string x.name, .int .i64 x.h0, .int .i64 x.h1, .int .i64 x.h2, vl, vt, .int .i64 a, .int .i64 b, .int .i64 c] ∧ RPairs F w vl x.labels ∧ RPairs F w vt x.taints
theorem RLoad.goes : Goes RLoad :=
  ⟨fun ⟨vl, vt, a, b, c, h1, h2, h3⟩ hs => ⟨vl, vt, a, b, c, h1, h2.stays RPair.goes hs, h3.stays RPair.goes hs⟩, fun ⟨vl, vt, a, b, c, h1, h2, h3⟩ hs => ⟨vl, vt, a, b, c, h1, h2.mono RPair.goes hs, h3.mono RPair.goes hs⟩⟩
def RStr (_F : FP) (_w : World) (cs : List Value) (x : ByteArray) : Prop := cs = [.string x]
theorem RStr.goes : Goes RStr := ⟨fun h _ => h, fun h _ => h⟩
abbrev RStrs (F : FP) (w : World) (v : Value) (xs : List ByteArray) : Prop := RdS F w 9 1 16 RStr v xs
section
variable {w w' w0 : World} {base : Nat} {S : Nat → Prop} {v : Value} {bl : Bxs}
theorem RLoad.keeps {cs : List Value} {x : NodeD} (h : RLoad (Own base w) w cs x) (hk : Keeps S w w') (hS : S 45) : RLoad (Own base w') w' cs x := by
  obtain ⟨vl, vt, a, b, c, rfl, h1, h2⟩ := h; exact ⟨vl, vt, a, b, c, rfl, RPairs.keeps h1 hk hS, RPairs.keeps h2 hk hS⟩
theorem RLoad.le {base' : Nat} {cs : List Value} {x : NodeD} (h : RLoad (Own base w) w cs x) (hl : base' ≤ base) : RLoad (Own base' w) w cs x := RLoad.goes.mono h (fun _ _ hB => hB.le hl)
theorem RLoad.one {F : FP} {cs : List Value} {x : NodeD} (h : RLoad F w cs x) : ∀ u ∈ cs, u.oneCell' = true := by
  obtain ⟨vl, vt, a, b, c, rfl, ⟨_, _, rfl, _⟩, ⟨_, _, rfl, _⟩⟩ := h; exact allOne rfl
abbrev OLoads (base : Nat) (w : World) (v : Value) (xs : List NodeD) (news : List Value) : Prop := OwnS RLoad base w 56 9 v xs news
theorem OLoads.keeps {xs : List NodeD} {nn : List Value} (h : OLoads base w v xs nn) (hk : Keeps S w w') (h1 : S 56) (h2 : S 45) : OLoads base w' v xs nn := OwnS.keeps h hk h1 fun cs x hx => RLoad.keeps hx hk h2
theorem OLoads.le {base' : Nat} {xs : List NodeD} {nn : List Value} (h : OLoads base w v xs nn) (hl : base' ≤ base) : OLoads base' w v xs nn := ⟨ownsRow_le h.row hl, h.rows.to fun cs x hx => RLoad.le hx hl⟩
theorem OTasks.le {base' : Nat} {xs : List TaskD} {nn : List Value} (h : OTasks base w v xs nn) (hl : base' ≤ base) : OTasks base' w v xs nn := ⟨ownsRow_le h.row hl, h.rows.to fun cs x hx => RTask.le hx hl⟩
theorem OLoads.only {B : Nat} {xs : List NodeD} {nn : List Value} (h : OLoads base w v xs nn) (hO : Only B w w') (hT : HasT w 56 B) (hne : v.ownBlock ≠ some B) : OLoads base w' v xs nn :=
  ⟨ownsRow_only h.row hO hne, h.rows.to fun cs x hx => RLoad.keeps hx (Keeps.only hO hT (S := fun U => U = 45) (by decide)) rfl⟩
theorem RLoad.spoilt {cs : List Value} {x : NodeD} (h : RLoad (Own base w) w cs x) (hs : Spoilt base w w') : ∃ x', RLoad (Own base w') w' cs x' := by
  obtain ⟨vl, vt, a, b, c, rfl, h1, h2⟩ := h
  obtain ⟨l1, _, p1⟩ := RPairs.spoilt h1 hs
  obtain ⟨l2, _, p2⟩ := RPairs.spoilt h2 hs
  exact ⟨⟨x.name, x.h0, x.h1, x.h2, l1, l2⟩, _, _, a, b, c, rfl, p1, p2⟩
theorem OLoads.spoilt {xs : List NodeD} {news : List Value} (h : OLoads base w v xs news) (hs : Spoilt base w w') : ∃ xs', xs'.length = xs.length ∧ OLoads base w' v xs' news := by
  obtain ⟨l, hl, hr⟩ := h.rows.spoilt (fun cs x hx => RLoad.spoilt hx hs)
  exact ⟨l, hl, by rw [hl]; exact ownsRow_keeps h.row hs.keeps (by decide), hr⟩
theorem OLoads.labels {xs : List NodeD} {news : List Value} {i m c : Nat} {A : Option Addr} {a0 a1 a2 a3 vt u0 u1 u2 : Value} (h : OLoads base w v xs news) (hi : i < xs.length) (e : cut 9 i news = [a0, a1, a2, a3, .slice A m c, vt, u0, u1, u2]) : ∃ ps, ps.length = m ∧ RPairs (Own base w) w (.slice A m c) ps := by
  obtain ⟨vl, vt', _, _, _, e', p1, p2⟩ := h.rows.each i _ (List.getElem?_eq_getElem hi)
  rw [e] at e'
  simp only [List.cons.injEq] at e'
  obtain ⟨_, _, _, _, rfl, _⟩ := e'
  obtain ⟨A', c', e2, _⟩ := id p1
  injection e2 with _ h2 _
  exact ⟨_, h2.symm, p1⟩
theorem OTasks.rename {xs : List TaskD} {news : List Value} {g i : Nat} {s : ByteArray} (h : OTasks base w v xs news) (hi : i < xs.length) (hO : Only g w w') (hT : HasT w 34 g) (own : w'.ownsRow base 34 9 v xs.length (news.set (i * 9 + 0) (.string s))) : ∃ xs', xs'.length = xs.length ∧ OTasks base w' v xs' (news.set (i * 9 + 0) (.string s)) := by
  have hK : Keeps (fun U => U = 45) w w' := Keeps.only hO hT (by decide)
  obtain ⟨vl, vt, e, p1, p2⟩ := h.rows.each i _ (List.getElem?_eq_getElem hi)
  have hr := (h.rows.to (R' := RTask) (G := Own base w') (w' := w') fun cs x hx => RTask.keeps hx hK rfl).set (v := .string s) (j := 0) (x := { xs[i] with name := s }) hi (by decide) (by rw [e]; exact ⟨vl, vt, rfl, RPairs.keeps p1 hK rfl, RPairs.keeps p2 hK rfl⟩)
  exact ⟨_, List.length_set .., by rw [List.length_set]; exact own, hr⟩
theorem OTasks.wants {xs : List TaskD} {news : List Value} {i m c : Nat} {A : Option Addr} {a0 a1 a2 a3 vt u0 u1 u2 : Value} (h : OTasks base w v xs news) (hi : i < xs.length) (e : cut 9 i news = [a0, a1, a2, a3, .slice A m c, vt, u0, u1, u2]) : ∃ ps, ps.length = m ∧ RPairs (Own base w) w (.slice A m c) ps := by
  obtain ⟨vl, vt', e', p1, p2⟩ := h.rows.each i _ (List.getElem?_eq_getElem hi)
  rw [e] at e'
  simp only [List.cons.injEq] at e'
  obtain ⟨_, _, _, _, rfl, _⟩ := e'
  obtain ⟨A', c', e2, _⟩ := id p1
  injection e2 with _ h2 _
  exact ⟨_, h2.symm, p1⟩
/-- Boxes go along where a row that is none of them has grown. -/
theorem Bx.grownBy {row : Option Nat} (hb : Bx base w0 w bl) (hB : Below base w w') (hg : w.grownBy w' row) (hne : ∀ p ∈ bl, row ≠ some p.1) : Bx base w0 w' bl :=
  ⟨hb.below.trans hB, Nat.le_trans hb.le hg.size, fun p hp => ⟨(hb.cell p hp).1, (hg.block p.1 (hb.lt hp) (hne p hp).symm).trans (hb.cell p hp).2⟩, hb.nodup⟩
end
section
variable {P : Program} {n : Nat} {l : Fr} {w : World} {dst : Option Tmp} {x : Operand} {t ty : TypeId} {pos : String} {aft : Array Edge} {gd : Option (Nat × Bool)} {v : Value}
/-- A field of a struct's value. -/
theorem y_field {fs : Array Field} {f : Field} {j : Nat} {cs : List Value} (ht : P.underlying t = some (.struct fs)) (hf : fs[j]? = some f) (hA : ∀ w, (isAgg f.type).run P w = .ok false w) (h : l.ev x = some (.agg cs.toArray)) (hv : cs[f.offset]? = some v) :
    RunV P n l ⟨dst, .field t x j, ty, pos, aft, gd⟩ w v w := fun a ha => by
  have hp := part1 (P := P) (w := w) (cs := cs) (o := f.offset) hA hv
  simp [execOp, ha.ev h, Instr.field, run_underlying ht, hf, asAgg, hp]
end
end Go.Proofs.YtmnnbnajnfdncaaGreatDoor
