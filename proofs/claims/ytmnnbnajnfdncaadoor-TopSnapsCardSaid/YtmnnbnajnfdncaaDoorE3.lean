/- The engine, third part: memory. The blocks that a call made itself are known one by one ("Bx"); whatever lay below a block number is as it was. -/
import Derived.Test.YtmnnbnajnfdncaaDoorE2
set_option linter.unusedVariables false
set_option linter.unusedSimpArgs false
namespace Go.Proofs.YtmnnbnajnfdncaaDoor.E
open Go.RowKit

/-- Blocks of the call's own: number, cells, element type. -/
abbrev Bxs := List (Nat × List Value × TypeId)
def Bxs.at : Bxs → Nat → Option (Nat × List Value × TypeId)
  | [], _ => none
  | p :: _, 0 => some p
  | _ :: r, k + 1 => Bxs.at r k
def Bxs.put : Bxs → Nat → List Value → Bxs
  | [], _, _ => []
  | (B, _, T) :: r, 0, cs => (B, cs, T) :: r
  | p :: r, k + 1, cs => p :: Bxs.put r k cs
structure Bx (base : Nat) (w0 w : World) (l : Bxs) : Prop where
  below : Below base w0 w
  le : base ≤ w.heap.size
  cell : ∀ p ∈ l, base ≤ p.1 ∧ w.heap[p.1]? = some (.cells p.2.1.toArray p.2.2 (0, 0))
  nodup : (l.map (·.1)).Nodup
/-- Nothing that was there has turned. -/
abbrev Ext (w w' : World) : Prop := Below w.heap.size w w'
theorem Ext.refl (w : World) : Ext w w := Below.refl _ _
theorem Ext.trans {a b c : World} (h : Ext a b) (k : Ext b c) : Ext a c := Below.trans h (Below.mono k h.size)
theorem Ext.drew (w : World) : Ext w w.drew := (Below.refl _ _).drew
theorem Ext.alloc (w : World) (o : Obj) : Ext w (w.alloc o) := (Below.refl _ _).alloc (Nat.le_refl _) o
theorem Bxs.at_mem : ∀ {l : Bxs} {i : Nat} {p}, l.at i = some p → p ∈ l
  | [], _, _, h => by simp [Bxs.at] at h
  | _ :: _, 0, _, h => by simp [Bxs.at] at h; subst h; simp
  | _ :: r, k + 1, _, h => by simp [Bxs.at] at h; exact List.mem_cons_of_mem _ (Bxs.at_mem h)
theorem Bxs.mem_at : ∀ {l : Bxs} {p}, p ∈ l → ∃ i, l.at i = some p
  | [], _, h => by cases h
  | q :: r, p, h => by
    rcases List.mem_cons.1 h with rfl | h
    · exact ⟨0, rfl⟩
    · obtain ⟨j, hj⟩ := Bxs.mem_at h; exact ⟨j + 1, hj⟩
theorem Bxs.put_ids : ∀ (l : Bxs) (i : Nat) (cs : List Value), (l.put i cs).map (·.1) = l.map (·.1)
  | [], _, _ => rfl
  | (B, c, T) :: r, 0, cs => rfl
  | p :: r, k + 1, cs => by simp [Bxs.put, Bxs.put_ids r k cs]
theorem Bxs.put_mem : ∀ {l : Bxs} {i : Nat} {cs : List Value} {B : Nat} {c : List Value} {T : TypeId}, l.at i = some (B, c, T) → ∀ {p}, p ∈ l.put i cs → p = (B, cs, T) ∨ ∃ j, j ≠ i ∧ l.at j = some p
  | [], _, _, _, _, _, h, _, _ => by simp [Bxs.at] at h
  | (B', c', T') :: r, 0, cs, B, c, T, h, p, hp => by
    simp [Bxs.at] at h
    obtain ⟨rfl, rfl, rfl⟩ := h
    simp [Bxs.put] at hp
    rcases hp with rfl | hp
    · exact .inl rfl
    · obtain ⟨j, hj⟩ : ∃ j, Bxs.at r j = some p := by
        exact Bxs.mem_at hp
      exact .inr ⟨j + 1, by omega, hj⟩
  | q :: r, k + 1, cs, B, c, T, h, p, hp => by
    simp [Bxs.at] at h
    simp [Bxs.put] at hp
    rcases hp with rfl | hp
    · exact .inr ⟨0, by omega, rfl⟩
    · rcases Bxs.put_mem h hp with h1 | ⟨j, h1, h2⟩
      · exact .inl h1
      · exact .inr ⟨j + 1, by omega, h2⟩
theorem Bxs.at_inj : ∀ {l : Bxs} (hn : (l.map (·.1)).Nodup) {i j : Nat} {p q}, l.at i = some p → l.at j = some q → p.1 = q.1 → i = j
  | [], _, _, _, _, _, h, _, _ => by simp [Bxs.at] at h
  | _ :: _, _, 0, 0, _, _, _, _, _ => rfl
  | a :: r, hn, 0, j + 1, p, q, h, h', e => by
    simp [Bxs.at] at h h'
    subst h
    simp only [List.map_cons, List.nodup_cons] at hn
    exact absurd (List.mem_map.2 ⟨q, Bxs.at_mem h', e.symm⟩) hn.1
  | a :: r, hn, i + 1, 0, p, q, h, h', e => by
    simp [Bxs.at] at h h'
    subst h'
    simp only [List.map_cons, List.nodup_cons] at hn
    exact absurd (List.mem_map.2 ⟨p, Bxs.at_mem h, e⟩) hn.1
  | a :: r, hn, i + 1, j + 1, p, q, h, h', e => by
    simp [Bxs.at] at h h'
    simp only [List.map_cons, List.nodup_cons] at hn
    have := Bxs.at_inj hn.2 h h' e
    omega
section
variable {base : Nat} {w0 w w' : World} {bl : Bxs}
theorem Bx.start (w : World) {base : Nat} (h : base ≤ w.heap.size) : Bx base w w [] := ⟨Below.refl _ _, h, fun _ h => (List.not_mem_nil h).elim, List.nodup_nil⟩
theorem Bx.get (hb : Bx base w0 w bl) {i B : Nat} {cs : List Value} {T : TypeId} (hi : bl.at i = some (B, cs, T)) : base ≤ B ∧ w.heap[B]? = some (.cells cs.toArray T (0, 0)) := hb.cell _ (Bxs.at_mem hi)
theorem Bx.lt (hb : Bx base w0 w bl) {p} (hp : p ∈ bl) : p.1 < w.heap.size := (Array.getElem?_eq_some_iff.1 (hb.cell p hp).2).1
theorem Bx.ext (hb : Bx base w0 w bl) (h : Ext w w') : Bx base w0 w' bl :=
  ⟨hb.below.trans (h.mono hb.le), Nat.le_trans hb.le h.size, fun p hp => ⟨(hb.cell p hp).1, (h.block _ (hb.lt hp)).trans (hb.cell p hp).2⟩, hb.nodup⟩
theorem Bx.drew (hb : Bx base w0 w bl) : Bx base w0 w.drew bl := hb.ext (Ext.drew w)
theorem Bx.alloc (hb : Bx base w0 w bl) (cs : List Value) (T : TypeId) : Bx base w0 (w.alloc (.cells cs.toArray T)) ((w.heap.size, cs, T) :: bl) := by
  have h1 := hb.ext (Ext.alloc w (.cells cs.toArray T))
  refine ⟨h1.below, h1.le, fun p hp => ?_, ?_⟩
  · rcases List.mem_cons.1 hp with rfl | hp
    · exact ⟨hb.le, heap_alloc_new w _⟩
    · exact h1.cell p hp
  · simp only [List.map_cons, List.nodup_cons]
    refine ⟨fun hm => ?_, hb.nodup⟩
    obtain ⟨p, hp, e⟩ := List.mem_map.1 hm
    have := hb.lt hp
    omega
theorem Bx.drop (hb : Bx base w0 w bl) {bl' : Bxs} (h : List.Sublist bl' bl) : Bx base w0 w bl' :=
  ⟨hb.below, hb.le, fun p hp => hb.cell p (h.subset hp), (h.map _).nodup hb.nodup⟩
theorem Bx.setRow (hb : Bx base w0 w bl) {i B : Nat} {cs cs' : List Value} {T : TypeId} (hi : bl.at i = some (B, cs, T)) : Bx base w0 (w.setRow B cs'.toArray) (bl.put i cs') := by
  obtain ⟨hB, hc⟩ := hb.get hi
  have hs : (w.setRow B cs'.toArray).heap.size = w.heap.size := by simp [World.setRow]
  have ho : ∀ k, k ≠ B → (w.setRow B cs'.toArray).heap[k]? = w.heap[k]? := fun k hk => by
    simp only [World.setRow, Array.getElem?_modify, if_neg (Ne.symm hk)]
  refine ⟨hb.below.trans ⟨rfl, rfl, rfl, by rw [hs]; exact Nat.le_refl _, fun k hk => ho k (by omega)⟩, by rw [hs]; exact hb.le, fun p hp => ?_, by rw [Bxs.put_ids]; exact hb.nodup⟩
  rcases Bxs.put_mem hi hp with rfl | ⟨j, hj, hp'⟩
  · exact ⟨hB, setRow_heap w B _ _ T _ hc⟩
  · have hne : p.1 ≠ B := fun e => hj (Bxs.at_inj hb.nodup hp' hi e)
    rw [ho _ hne]
    exact hb.cell p (Bxs.at_mem hp')
/-- Nothing but block B has turned. -/
structure Only (B : Nat) (w w' : World) : Prop where
  size : w'.heap.size = w.heap.size
  block : ∀ k, k ≠ B → w'.heap[k]? = w.heap[k]?
theorem Only.setRow (w : World) (B : Nat) (cs : Array Value) : Only B w (w.setRow B cs) :=
  ⟨by simp [World.setRow], fun k hk => by simp only [World.setRow, Array.getElem?_modify, if_neg (Ne.symm hk)]⟩
end

/-! ### Reading -/
def LoadsV (P : Program) (w : World) (t : TypeId) (p : Addr) (v : Value) : Prop := (loadVar t p).run P w = .ok v w
/-- These cells lie from p on. -/
def At (w : World) (p : Addr) (cs : List Value) : Prop := ∀ j v, cs[j]? = some v → w.cell? (p.add j) = some v
theorem At.ext {w w' : World} {p : Addr} {cs : List Value} (h : At w p cs) (he : Ext w w') : At w' p cs := fun j v hv => by
  have h1 := h j v hv
  rw [he.cell (World.block_lt_of_cell? w _ h1)]; exact h1
theorem At.below {base : Nat} {w w' : World} {p : Addr} {cs : List Value} (h : At w p cs) (he : Below base w w') (hp : p.block < base) : At w' p cs := fun j v hv => by
  have h1 := h j v hv
  rw [he.cell (p := p.add j) (by unfold Addr.add; split <;> exact hp)]; exact h1
variable {P : Program} {n : Nat} {l : Fr} {w w' w0 : World} {Q : Exit → Act → World → Prop}
theorem At.ld1 {t : TypeId} {p : Addr} {cs : List Value} (hA : ∀ w, (isAgg t).run P w = .ok false w) (h : At w p cs) (o : Nat) {v : Value} (hv : cs[o]? = some v) : LoadsV P w t (p.add o) v := by
  have := h o v hv
  simp [LoadsV, loadVar, hA, run_load, this]
theorem At.ld0 {t : TypeId} {p : Addr} {cs : List Value} (hA : ∀ w, (isAgg t).run P w = .ok false w) (h : At w p cs) {v : Value} (hv : cs[0]? = some v) : LoadsV P w t p v := by
  have := h 0 v hv
  rw [show p.add 0 = p from by simp [Addr.add]] at this
  simp [LoadsV, loadVar, hA, run_load, this]
theorem At.ldk {t : TypeId} {p : Addr} {cs : List Value} {k : Nat} (hA : ∀ w, (isAgg t).run P w = .ok true w) (hz : ∀ w, (sizeOf t).run P w = .ok k w) (h : At w p cs) (hk : cs.length = k) : LoadsV P w t p (.agg cs.toArray) := by
  have := run_loadCells_list (P := P) (w := w) p cs h
  subst hk
  simp [LoadsV, loadVar, hA, hz, this]
theorem At.sub {p : Addr} {cs : List Value} (h : At w p cs) (hs : p.spot = none) (o k : Nat) : At w (p.add o) ((cs.drop o).take k) := fun j v hv => by
  rw [List.getElem?_take] at hv
  split at hv
  · rw [List.getElem?_drop] at hv
    have := h (o + j) v hv
    have e : (p.add o).add j = p.add (o + j) := by
      unfold Addr.add
      by_cases h0 : o = 0
      · subst h0; simp
      · by_cases h1 : j = 0
        · subst h1; simp [h0]
        · simp [h0, h1, Nat.add_assoc]
    rw [e]; exact this
  · cases hv
theorem Bx.at0 {base : Nat} {bl : Bxs} (hb : Bx base w0 w bl) (i : Nat) {B : Nat} {cs : List Value} {T : TypeId} (hi : bl.at i = some (B, cs, T)) : At w ⟨B, 0, none⟩ cs := fun j v hv => by
  obtain ⟨_, hc⟩ := hb.get hi
  rw [show (⟨B, 0, none⟩ : Addr).add j = ⟨B, j, none⟩ from by unfold Addr.add; split <;> simp_all]
  simp [World.cell?, hc, hv]
variable {ops rest : List Oper} {dst : Option Tmp} {ty : TypeId} {pos : String} {aft : Array Edge} {gd : Option (Nat × Bool)} {v : Value}
variable {x y z : Operand} {t T : TypeId} {base : Nat} {bl : Bxs} {d : Nat}
theorem y_load {p : Addr} (h : l.ev x = some (.pointer (some p))) (hl : LoadsV P w t p v) : RunV P n l ⟨dst, .load t x, ty, pos, aft, gd⟩ w v w := fun a ha => by
  unfold LoadsV at hl
  simp [execOp, ha.ev h, Instr.loadAt, Instr.sureAddr, hl]

/-! ### Making and writing -/
theorem WL.box (hb : Bx base w0 w bl) {cs : List Value} (h : l.ev x = some v) (hc : v.cells = cs.toArray) (hg : want ops l gd = some true) (hn : Nat.blt d n = true)
    (k : ∀ B w', Bx base w0 w' ((B, cs, T) :: bl) → Ext w w' → B = w.heap.size → WL P n ops Q rest ((d, .pointer (some ⟨B, 0, none⟩)) :: l) w') : WL P n ops Q (⟨some d, .box T x, ty, pos, aft, gd⟩ :: rest) l w :=
  WL.val (v := .pointer (some ⟨w.heap.size, 0, none⟩)) (w' := w.alloc (.cells cs.toArray T)) (fun a ha => by simp [execOp, ha.ev h, Instr.box, newVar, newRow, hc]) hg rfl hn
    (k _ _ (hb.alloc cs T) (Ext.alloc w _) rfl)
theorem WL.alloc (hb : Bx base w0 w bl) {cs : List Value} (hz : ∀ w, (zeroValue T).run P w = .ok v w) (hc : v.cells = cs.toArray) (hg : want ops l gd = some true) (hn : Nat.blt d n = true)
    (k : ∀ B w', Bx base w0 w' ((B, cs, T) :: bl) → Ext w w' → B = w.heap.size → WL P n ops Q rest ((d, .pointer (some ⟨B, 0, none⟩)) :: l) w') : WL P n ops Q (⟨some d, .alloc T, ty, pos, aft, gd⟩ :: rest) l w :=
  WL.val (v := .pointer (some ⟨w.heap.size, 0, none⟩)) (w' := w.alloc (.cells cs.toArray T)) (fun a ha => by simp [execOp, Instr.alloc, hz, newVar, newRow, hc]) hg rfl hn
    (k _ _ (hb.alloc cs T) (Ext.alloc w _) rfl)
theorem WL.mkslice (hb : Bx base w0 w bl) {len : Nat} {ps : List (Nat × Operand)} {us : List (Nat × Value)} {cs : List Value} (h : l.evp ps = some us)
    (hr : ∀ w, (Instr.buildSlice t len us.toArray).run P w = .ok (.slice (some ⟨w.heap.size, 0, none⟩) len len) (w.alloc (.cells cs.toArray T))) (hg : want ops l gd = some true) (hn : Nat.blt d n = true)
    (k : ∀ B w', Bx base w0 w' ((B, cs, T) :: bl) → Ext w w' → B = w.heap.size → WL P n ops Q rest ((d, .slice (some ⟨B, 0, none⟩) len len) :: l) w') : WL P n ops Q (⟨some d, .buildSlice t len ps.toArray, ty, pos, aft, gd⟩ :: rest) l w :=
  WL.val (v := .slice (some ⟨w.heap.size, 0, none⟩) len len) (w' := w.alloc (.cells cs.toArray T)) (fun a ha => by have := ha.evp h; simp [execOp, this, hr]) hg rfl hn
    (k _ _ (hb.alloc cs T) (Ext.alloc w _) rfl)
def ovw (cs : List Value) (o : Nat) (vs : List Value) : List Value := cs.take o ++ vs ++ cs.drop (o + vs.length)
theorem WL.skip {o : Oper} (hr : ∀ a, Has n l a → (execOp a.eval ⟨none, o.op, o.type, o.pos, o.after, o.guard⟩).run P w = .ok .skip w') (hg : want ops l o.guard = some true) (hd : o.dst = none) (k : WL P n ops Q rest l w') : WL P n ops Q (o :: rest) l w := by
  intro a ha
  unfold wpList
  rw [if_pos (want_spec ha hg)]
  refine .inl ?_
  unfold Oper.wp
  obtain ⟨dst, op, ty, pos, aft, gd⟩ := o
  subst hd
  rw [hr a ha]
  exact k _ ha
theorem run_storeAt {B off : Nat} {cs vs : List Value} {T : TypeId} {k : Nat} (hc : w.heap[B]? = some (.cells cs.toArray T (0, 0))) (hz : ∀ w, (sizeOf t).run P w = .ok k w) (hv : v.cells = vs.toArray) (hk : vs.length = k) (hf : off + vs.length ≤ cs.length)
    (h1 : ∀ u ∈ vs, u.oneCell' = true) : (Instr.storeAt t (.pointer (some ((⟨B, 0, none⟩ : Addr).add off))) v).run P w = .ok () (w.setRow B (ovw cs off vs).toArray) := by
  have e : (⟨B, 0, none⟩ : Addr).add off = ⟨B, off, none⟩ := by unfold Addr.add; split <;> simp_all
  have := run_storeCells_at P B off T vs 0 cs.toArray w hc (by simpa using hf) h1
  simp only [Nat.add_zero] at this
  subst hk
  simp [Instr.storeAt, Instr.sureAddr, e, storeVar, hz, hv, this, ovw]
/-- A store into block number i of the list. -/
theorem WL.store (hb : Bx base w0 w bl) (i off : Nat) {B : Nat} {cs vs : List Value} {k : Nat} (hx : l.ev x = some (.pointer (some ((⟨B, 0, none⟩ : Addr).add off)))) (hy : l.ev y = some v) (hi : bl.at i = some (B, cs, T)) (hz : ∀ w, (sizeOf t).run P w = .ok k w)
    (hv : v.cells = vs.toArray) (hk : vs.length = k) (hf : Nat.ble (off + vs.length) cs.length = true) (h1 : ∀ u ∈ vs, u.oneCell' = true) (hg : want ops l gd = some true)
    (kk : ∀ w', Bx base w0 w' (bl.put i (ovw cs off vs)) → Only B w w' → WL P n ops Q rest l w') : WL P n ops Q (⟨none, .store t x y, ty, pos, aft, gd⟩ :: rest) l w :=
  WL.skip (w' := w.setRow B (ovw cs off vs).toArray) (fun a ha => by
    have := run_storeAt (P := P) (w := w) (t := t) (v := v) (off := off) (hb.get hi).2 hz hv hk (by simpa using hf) h1
    simp [execOp, ha.ev hx, ha.ev hy, this]) hg rfl (kk _ (hb.setRow hi) (Only.setRow _ _ _))
/-- A store of a whole block. -/
theorem WL.storeW (hb : Bx base w0 w bl) (i : Nat) {B : Nat} {cs vs : List Value} {k : Nat} (hx : l.ev x = some (.pointer (some ⟨B, 0, none⟩))) (hy : l.ev y = some v) (hi : bl.at i = some (B, cs, T)) (hz : ∀ w, (sizeOf t).run P w = .ok k w)
    (hv : v.cells = vs.toArray) (hk : vs.length = k) (hf : cs.length = vs.length) (h1 : ∀ u ∈ vs, u.oneCell' = true) (hg : want ops l gd = some true)
    (kk : ∀ w', Bx base w0 w' (bl.put i vs) → Only B w w' → WL P n ops Q rest l w') : WL P n ops Q (⟨none, .store t x y, ty, pos, aft, gd⟩ :: rest) l w :=
  WL.skip (w' := w.setRow B vs.toArray) (fun a ha => by
    have e0 : (⟨B, 0, none⟩ : Addr).add 0 = ⟨B, 0, none⟩ := by simp [Addr.add]
    have := run_storeAt (P := P) (w := w) (t := t) (v := v) (off := 0) (hb.get hi).2 hz hv hk (by omega) h1
    rw [e0] at this
    have eo : ovw cs 0 vs = vs := by simp [ovw, hf]
    rw [eo] at this
    simp [execOp, ha.ev hx, ha.ev hy, this]) hg rfl (kk _ (hb.setRow hi) (Only.setRow _ _ _))
/-- A part. -/
theorem part1 {e : TypeId} {cs : List Value} {o : Nat} (hA : ∀ w, (isAgg e).run P w = .ok false w) (hv : cs[o]? = some v) : (part e cs.toArray o).run P w = .ok v w := by
  simp [part, hA, hv]

/-! ### Calls -/
theorem WL.call {f : FuncId} {os : List Operand} {ts : Array TypeId} {vs : List Value} {Φ : Value → World → Prop} (hc : Calls P f vs.toArray w (Ret Φ)) (he : ∀ (args : Array Value) (w : World), (callFunc f args).run P w = .ok (.enter f args) w) (ha : l.evs os = some vs)
    (hg : want ops l gd = some true) (hn : Nat.blt d n = true) (k : ∀ v w', Φ v w' → WL P n ops Q rest ((d, v) :: l) w') : WL P n ops Q (⟨some d, .call ⟨.value (.func f), os.toArray, ts⟩, ty, pos, aft, gd⟩ :: rest) l w := by
  intro a hh
  unfold wpList
  rw [if_pos (want_spec hh hg)]
  refine .inl ?_
  have h1 := hh.evs ha
  have h2 : a.eval (.func f) = .func (.func f) #[] #[] := rfl
  unfold Oper.wp
  simp only [execOp, resolve, h2, Deferred.ofValue, invoke, Sem.run_bind, Sem.run_pure, Result.andThen_ok, List.map_toArray, h1, he, Array.empty_append, Array.append_empty]
  show Calls P f vs.toArray w _
  refine hc.mono fun e w' ⟨v, hv, hΦ⟩ => ?_
  subst hv
  exact k v w' hΦ _ (hh.put hn v)
/-- A call by a function value. -/
theorem WL.callv {f : FuncId} {o : Operand} {os : List Operand} {ts : Array TypeId} {vs cs us : List Value} {Φ : Value → World → Prop} (hc : Calls P f us.toArray w (Ret Φ)) (ho : l.ev o = some (.func (.func f) #[] cs.toArray)) (he : ∀ (args : Array Value) (w : World), (callFunc f args).run P w = .ok (.enter f args) w) (ha : l.evs os = some vs) (has : vs ++ cs = us)
    (hg : want ops l gd = some true) (hn : Nat.blt d n = true) (k : ∀ v w', Φ v w' → WL P n ops Q rest ((d, v) :: l) w') : WL P n ops Q (⟨some d, .call ⟨.value o, os.toArray, ts⟩, ty, pos, aft, gd⟩ :: rest) l w := by
  subst has
  intro a hh
  unfold wpList
  rw [if_pos (want_spec hh hg)]
  refine .inl ?_
  have h1 := hh.evs ha
  unfold Oper.wp
  simp only [execOp, resolve, hh.ev ho, Deferred.ofValue, invoke, Sem.run_bind, Sem.run_pure, Result.andThen_ok, List.map_toArray, h1, he, Array.empty_append, List.append_toArray]
  show Calls P f (vs ++ cs).toArray w _
  refine hc.mono fun e w' ⟨v, hv, hΦ⟩ => ?_
  subst hv
  exact k v w' hΦ _ (hh.put hn v)
/-- A result that lies in a block. -/
theorem KQ.retc {fn : Func} {R : Ending → World → Prop} {s : Nat} {p : Addr} (hr : fn.results = #[.cell s t]) (hs : l.get s = some (.pointer (some p))) (hl : LoadsV P w t p v) (h : R (.returned v) w) : KQ n (bodyPost P fn R) .ret l w := by
  intro a ha
  refine ⟨ha.defers, v, ?_, h⟩
  unfold LoadsV at hl
  simp [results, hr, Array.getD_eq_getD_getElem?, ha.get _ _ hs, hl, asAddr]
theorem KQ.retct {fn : Func} {R : Ending → World → Prop} {s u : Nat} {p : Addr} {x : Value} (hr : fn.results = #[.cell s t, .tmp u]) (hs : l.get s = some (.pointer (some p))) (hl : LoadsV P w t p v) (hx : l.get u = some x) (h : R (.returned (.tuple #[v, x])) w) : KQ n (bodyPost P fn R) .ret l w := by
  intro a ha
  refine ⟨ha.defers, _, ?_, h⟩
  unfold LoadsV at hl
  simp [results, hr, Array.getD_eq_getD_getElem?, ha.get _ _ hs, ha.get _ _ hx, hl, asAddr]
theorem KQ.retcc {fn : Func} {R : Ending → World → Prop} {s s' : Nat} {p p' : Addr} {t' : TypeId} {x : Value} (hr : fn.results = #[.cell s t, .cell s' t']) (hs : l.get s = some (.pointer (some p))) (hl : LoadsV P w t p v) (hs' : l.get s' = some (.pointer (some p'))) (hl' : LoadsV P w t' p' x) (h : R (.returned (.tuple #[v, x])) w) : KQ n (bodyPost P fn R) .ret l w := by
  intro a ha
  refine ⟨ha.defers, _, ?_, h⟩
  unfold LoadsV at hl hl'
  simp [results, hr, Array.getD_eq_getD_getElem?, ha.get _ _ hs, ha.get _ _ hs', hl, hl', asAddr]
end Go.Proofs.YtmnnbnajnfdncaaDoor.E
