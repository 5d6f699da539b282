/- The engine, eighth part: channels in one goroutine: make, a send with room, a select of one receive with a default. -/
import Derived.Test.YtmnnbnajnfdncaaGreatDoorD8
import Derived.Conc.LoneSelect
set_option linter.unusedVariables false
set_option linter.unusedSimpArgs false
namespace Go.Proofs.YtmnnbnajnfdncaaGreatDoor.E
open Go.RowKit
section
variable {P : Program} {Q : Exit → Act → World → Prop} {a : Act} {w w' : World} {ops : Array Oper} {i : Nat} {rest : List Nat} {o : Oper} {v : Value}
/-- From the middle of a region, at the machine's own steps. -/
def AtOps (P : Program) (ops : Array Oper) (Q : Exit → Act → World → Prop) (l : List Nat) (a : Act) (w : World) : Prop :=
  ∀ (b : Frame) (k : List Item) (cs : List Frame), ∃ e a' w', Q e a' w' ∧ Arrives P (lone (b.at a (.inRegion ops l :: k)) cs w) b k cs e a' w'
theorem AtOps.nil (h : Q .normal a w) : AtOps P ops Q [] a w := fun _ _ _ => ⟨.normal, a, w, h, .one step_region_end⟩
theorem AtOps.val (ho : ops[i]? = some o) (hw : Region.wanted o (yielded ops a.tmps) = true) (hr : (execOp a.eval o).run P w = .ok (.value v) w') (h : AtOps P ops Q rest (a.put o.dst v) w') : AtOps P ops Q (i :: rest) a w := fun b k cs => by
  obtain ⟨e, a', w'', hq, harr⟩ := h b k cs
  have hg := stepG_op (P := P) (b := b) (k := k) (cs := cs) (w := w) (rest := rest) ho hw
  have hfin : (b.at a (.inRegion ops (i :: rest) :: k)).finish v = b.at (a.put o.dst v) (.inRegion ops rest :: k) := by rw [Frame.finish_at, ho]; rfl
  refine ⟨e, a', w'', hq, .of_steps (.one (step_lone_go ?_)) harr⟩
  rw [hg, ← hfin]; simp [stepG.apply, hr]
theorem AtOps.comm {cases : Array CommCase} {blocking : Bool} {shape : CommShape} (ho : ops[i]? = some o) (hw : Region.wanted o (yielded ops a.tmps) = true) (hr : (execOp a.eval o).run P w = .ok (.comm cases blocking shape) w)
    (hs : ∀ (fr : Frame) (cs : List Frame) (es : Array Event), stepG P true (Conc.G fr cs) w = .comm (Conc.G fr cs) cases blocking shape w es → step P (Conc.solo (Conc.G fr cs) w) = .next (Conc.solo (Conc.G (fr.finish v) cs) w'))
    (h : AtOps P ops Q rest (a.put o.dst v) w') : AtOps P ops Q (i :: rest) a w := fun b k cs => by
  obtain ⟨e, a', w'', hq, harr⟩ := h b k cs
  have hg := stepG_op (P := P) (b := b) (k := k) (cs := cs) (w := w) (rest := rest) ho hw
  have hfin : (b.at a (.inRegion ops (i :: rest) :: k)).finish v = b.at (a.put o.dst v) (.inRegion ops rest :: k) := by rw [Frame.finish_at, ho]; rfl
  refine ⟨e, a', w'', hq, .of_steps (.one ?_) harr⟩
  obtain ⟨es, he⟩ : ∃ es, stepG P true (Conc.G (b.at a (.inRegion ops (i :: rest) :: k)) cs) w = .comm (Conc.G (b.at a (.inRegion ops (i :: rest) :: k)) cs) cases blocking shape w es := by
    have h2 := hg
    simp only [stepG.apply, Sem.runT_eq, hr, if_true, GStep.after] at h2
    exact ⟨_, h2⟩
  have := hs _ _ _ he
  rw [hfin] at this
  exact this
end
variable {P : Program} {n : Nat} {l : Fr} {w w' w0 : World} {Q : Exit → Act → World → Prop} {ops : List Oper} {rest : List Nat} {o : Oper} {i d : Nat} {v : Value}
/-- The same, from a frame. -/
def ML (P : Program) (n : Nat) (ops : List Oper) (Q : Exit → Act → World → Prop) (rest : List Nat) (l : Fr) (w : World) : Prop := ∀ a, Has n l a → AtOps P ops.toArray Q rest a w
theorem W.regionM {id : Nat} (h : ML P n ops Q (List.range ops.length) l w) : W P n (.region id ops.toArray false) Q l w := fun a ha b k cs => by
  obtain ⟨e, a', w', hq, harr⟩ := h a ha b k cs
  exact ⟨e, a', w', hq, .of_steps (.one step_region) (by simpa using harr)⟩
theorem ML.val (ho : nth ops i = some o) (hr : RunV P n l o w v w') (hg : want ops l o.guard = some true) (hd : o.dst = some d) (hn : Nat.blt d n = true) (k : ML P n ops Q rest ((d, v) :: l) w') : ML P n ops Q (i :: rest) l w := by
  intro a ha
  refine AtOps.val (by rw [← nth_eq]; exact ho) (want_spec ha hg) (hr a ha) ?_
  rw [hd]; exact k _ (ha.put hn v)
theorem ML.done (h : KQ n Q .normal l w) : ML P n ops Q [] l w := fun a ha => .nil (h a ha)
/-- An open channel. -/
abbrev ChanAt (w : World) (c cap : Nat) (buf : List Value) (s r : Nat) : Prop := w.heap[c]? = some (.chan cap buf.toArray false s r false)
theorem ML.send {x y : Operand} {ty : TypeId} {pos : String} {aft : Array Edge} {gd : Option (Nat × Bool)} {c cap s r : Nat} {buf : List Value} (ho : nth ops i = some ⟨none, .send x y, ty, pos, aft, gd⟩) (hx : l.ev x = some (.chan (some c))) (hy : l.ev y = some v)
    (hc : ChanAt w c cap buf s r) (hroom : buf.length < cap) (hg : want ops l gd = some true)
    (k : ML P n ops Q rest l (w.setChan c cap (buf ++ [v]).toArray false (s + 1) r false)) : ML P n ops Q (i :: rest) l w := by
  intro a ha
  refine AtOps.comm (v := undef) (by rw [← nth_eq]; exact ho) (want_spec ha hg) (cases := #[Conc.scase c v (.tuple #[])]) (blocking := true) (shape := .send) (by simp [execOp, ha.ev hx, ha.ev hy, Conc.scase]) (fun fr cs es he => Conc.step_lone_send_room he hc (by simpa using hroom)) ?_
  have h2 : buf.toArray.push v = (buf ++ [v]).toArray := by simp
  rw [h2]
  exact k a ha
/-- A select of one receive, something being there. -/
theorem ML.selRecv {ss : Array SelectCase} {x : Operand} {e ty : TypeId} {z u : Value} {pos : String} {aft : Array Edge} {gd : Option (Nat × Bool)} {c cap s r : Nat} {buf : List Value} (ho : nth ops i = some ⟨some d, .select ss false, ty, pos, aft, gd⟩) (hss : ss = #[⟨x, none, e⟩]) (hz : ∀ w, (zeroValue e).run P w = .ok z w) (hx : l.ev x = some (.chan (some c)))
    (hc : ChanAt w c cap (u :: buf) s r) (hg : want ops l gd = some true) (hn : Nat.blt d n = true)
    (k : ML P n ops Q rest ((d, .tuple #[.int .i64 0, .bool true, u]) :: l) (w.setChan c cap buf.toArray false s (r + 1) false)) : ML P n ops Q (i :: rest) l w := by
  subst hss
  intro a ha
  refine AtOps.comm (v := .tuple #[goInt 0, .bool true, u]) (by rw [← nth_eq]; exact ho) (want_spec ha hg) (cases := #[Conc.rcase c z]) (blocking := false) (shape := .select) (by simp [execOp, ha.ev hx, hz, Conc.rcase]) (fun fr cs es he => ?_) (k _ (ha.put hn _))
  have := Conc.step_lone_select_recv_buf he hc (by simp)
  simpa using this
/-- Nothing being there: the default. -/
theorem ML.selNone {ss : Array SelectCase} {x : Operand} {e ty : TypeId} {z : Value} {pos : String} {aft : Array Edge} {gd : Option (Nat × Bool)} {c cap s r : Nat} (ho : nth ops i = some ⟨some d, .select ss false, ty, pos, aft, gd⟩) (hss : ss = #[⟨x, none, e⟩]) (hz : ∀ w, (zeroValue e).run P w = .ok z w) (hx : l.ev x = some (.chan (some c)))
    (hc : ChanAt w c cap [] s r) (hg : want ops l gd = some true) (hn : Nat.blt d n = true)
    (k : ML P n ops Q rest ((d, .tuple #[.int .i64 (-1), .bool false, z]) :: l) w) : ML P n ops Q (i :: rest) l w := by
  subst hss
  intro a ha
  refine AtOps.comm (v := .tuple #[goInt (-1), .bool false, z]) (by rw [← nth_eq]; exact ho) (want_spec ha hg) (cases := #[Conc.rcase c z]) (blocking := false) (shape := .select) (by simp [execOp, ha.ev hx, hz, Conc.rcase]) (fun fr cs es he => ?_) (k _ (ha.put hn _))
  exact Conc.step_lone_select_default he hc
end Go.Proofs.YtmnnbnajnfdncaaGreatDoor.E
