/- The engine, fourth part: regions that draw their order. -/
import Derived.Test.YtmnnbnajnfdncaaDoorE3
set_option linter.unusedVariables false
set_option linter.unusedSimpArgs false
namespace Go.Proofs.YtmnnbnajnfdncaaDoor.E
open Go.RowKit
variable {P : Program} {n : Nat} {l : Fr} {w w' w0 : World} {Q : Exit → Act → World → Prop} {C : World → Prop} {K : Act → Prop}
variable {ops rest : List Oper} {dst : Option Tmp} {ty : TypeId} {pos : String} {aft : Array Edge} {gd : Option (Nat × Bool)} {v : Value} {o : Oper} {d : Nat}
/-- The walk of a region whose operations turn nothing that was there: in the text's order, over a class of worlds. -/
def QL (P : Program) (n : Nat) (ops : List Oper) (C : World → Prop) (K : Act → Prop) (rest : List Oper) (l : Fr) : Prop := ∀ a, Has n l a → wpQuiet P ops.toArray C K rest a
theorem QL.val (hr : ∀ w, C w → RunV P n l o w v w) (hg : want ops l o.guard = some true) (hd : o.dst = some d) (hn : Nat.blt d n = true) (k : QL P n ops C K rest ((d, v) :: l)) : QL P n ops C K (o :: rest) l := by
  intro a ha
  unfold wpQuiet
  rw [if_pos (want_spec ha hg)]
  refine ⟨v, fun w hw => ?_, ?_⟩
  · unfold Oper.quietAt
    rw [hr w hw a ha]
    exact ⟨rfl, rfl⟩
  · rw [hd]
    exact k _ (ha.put hn v)
theorem QL.off (hg : want ops l o.guard = some false) (hd : o.dst = some d) (hn : Nat.blt d n = true) (k : QL P n ops C K rest ((d, undef) :: l)) : QL P n ops C K (o :: rest) l := by
  intro a ha
  unfold wpQuiet
  rw [if_neg (by rw [want_spec ha hg]; decide), hd]
  exact k _ (ha.put hn undef)
theorem QL.call {f : FuncId} {os : List Operand} {ts : Array TypeId} {vs : List Value} (he : ∀ (args : Array Value) (w : World), (callFunc f args).run P w = .ok (.enter f args) w) (ha : l.evs os = some vs)
    (hc : ∀ w, C w → Calls P f vs.toArray w (Ret fun u w' => u = v ∧ C w')) (hg : want ops l gd = some true) (hn : Nat.blt d n = true) (k : QL P n ops C K rest ((d, v) :: l)) : QL P n ops C K (⟨some d, .call ⟨.value (.func f), os.toArray, ts⟩, ty, pos, aft, gd⟩ :: rest) l := by
  intro a hh
  unfold wpQuiet
  rw [if_pos (want_spec hh hg)]
  refine ⟨v, fun w hw => ?_, k _ (hh.put hn v)⟩
  have h1 := hh.evs ha
  have h2 : a.eval (.func f) = .func (.func f) #[] #[] := rfl
  unfold Oper.quietAt
  simp only [execOp, resolve, h2, Deferred.ofValue, invoke, Sem.run_bind, Sem.run_pure, Result.andThen_ok, List.map_toArray, h1, he, Array.empty_append, Array.append_empty]
  refine ⟨rfl, (hc w hw).mono fun e w' ⟨u, hu, e1, hC⟩ => ?_⟩
  subst e1
  exact ⟨hu, hC⟩
theorem QL.callv {f : FuncId} {o : Operand} {os : List Operand} {ts : Array TypeId} {vs cs us : List Value} (ho : l.ev o = some (.func (.func f) #[] cs.toArray)) (he : ∀ (args : Array Value) (w : World), (callFunc f args).run P w = .ok (.enter f args) w) (ha : l.evs os = some vs)
    (hc : ∀ w, C w → Calls P f us.toArray w (Ret fun u w' => u = v ∧ C w')) (has : vs ++ cs = us) (hg : want ops l gd = some true) (hn : Nat.blt d n = true) (k : QL P n ops C K rest ((d, v) :: l)) : QL P n ops C K (⟨some d, .call ⟨.value o, os.toArray, ts⟩, ty, pos, aft, gd⟩ :: rest) l := by
  subst has
  intro a hh
  unfold wpQuiet
  rw [if_pos (want_spec hh hg)]
  refine ⟨v, fun w hw => ?_, k _ (hh.put hn v)⟩
  have h1 := hh.evs ha
  unfold Oper.quietAt
  simp only [execOp, resolve, hh.ev ho, Deferred.ofValue, invoke, Sem.run_bind, Sem.run_pure, Result.andThen_ok, List.map_toArray, h1, he, Array.empty_append, List.append_toArray]
  refine ⟨rfl, (hc w hw).mono fun e w' ⟨u, hu, e1, hC⟩ => ?_⟩
  subst e1
  exact ⟨hu, hC⟩
theorem QL.split (t : Nat) {b : Bool} (h : l.get t = some (.bool b)) (ht : b = true → QL P n ops C K rest ((t, .bool true) :: l)) (hf : b = false → QL P n ops C K rest ((t, .bool false) :: l)) : QL P n ops C K rest l := by
  intro a ha
  have hs : ∀ c : Bool, b = c → Has n ((t, .bool c) :: l) a := fun c hc => ⟨ha.size, ha.defers, fun u x hu => by
    rw [Fr.get_cons] at hu
    by_cases e : t = u
    · subst e; simp at hu; subst hu; subst hc; exact ha.get _ _ h
    · rw [if_neg e] at hu; exact ha.get _ _ hu⟩
  cases hb : b with
  | true => exact ht hb a (hs true hb)
  | false => exact hf hb a (hs false hb)
theorem QL.as (t : Nat) {u v : Value} (h : l.get t = some u) (e : u = v) (k : QL P n ops C K rest ((t, v) :: l)) : QL P n ops C K rest l := by
  intro a ha
  refine k a ⟨ha.size, ha.defers, fun x y hx => ?_⟩
  rw [Fr.get_cons] at hx
  by_cases e' : t = x
  · subst e'; simp at hx; subst hx; subst e; exact ha.get _ _ h
  · rw [if_neg e'] at hx; exact ha.get _ _ hx
theorem QL.done (h : ∀ a, Has n l a → K a) : QL P n ops C K [] l := fun a ha => wpQuiet_nil (h a ha)
theorem W.regionQ {id : Nat} (hm : P.follows .mixedOrders = true) (hB : Region.lexB .any ops.toArray = true)
    (h : QL P n ops (Ext w) (fun a => ∀ w', Ext w w' → Q .normal a w') ops l) : W P n (.region id ops.toArray true) Q l w := fun a ha =>
  wp_region_quiet (C := Ext w) hm hB (Ext.drew w) (by simpa using h a ha)
theorem QL.end_ (h : ∀ w', Ext w w' → KQ n Q .normal l w') : QL P n ops C (fun a => ∀ w', Ext w w' → Q .normal a w') [] l := QL.done fun a ha w' hw => h w' hw a ha
theorem quiet {f : FuncId} {vs : Array Value} (hw : Ext w w') (h : Calls P f vs w' (Ret fun u w'' => u = v ∧ Ext w' w'')) : Calls P f vs w' (Ret fun u w'' => u = v ∧ Ext w w'') :=
  h.mono fun e w'' ⟨u, h1, h2, h3⟩ => ⟨u, h1, h2, hw.trans h3⟩
theorem allOne {vs : List Value} (h : vs.all (·.oneCell') = true) : ∀ u ∈ vs, u.oneCell' = true := by
  simpa using h
end Go.Proofs.YtmnnbnajnfdncaaDoor.E
