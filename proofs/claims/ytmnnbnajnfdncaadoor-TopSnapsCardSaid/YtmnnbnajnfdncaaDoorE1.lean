/- The engine, first part: a walk's frame as a short list of live slots; the control forms; the operations that leave memory alone. -/
import Derived.WalkKit
import Derived.WalkLawsBesides
import Derived.WalkSpells
import Derived.Below
import Derived.KernelRfl
import Derived.Deep.Quiet
import Derived.Scope
import Derived.Shelf.Abstract
set_option linter.unusedVariables false
set_option linter.unusedSimpArgs false
namespace Go.Proofs.YtmnnbnajnfdncaaDoor.E
open Go.RowKit

/-! ### Frames -/
abbrev Fr := List (Nat × Value)
def Fr.get : Fr → Nat → Option Value
  | [], _ => none
  | p :: l, t => bif Nat.beq p.1 t then some p.2 else Fr.get l t
def Fr.ev (l : Fr) : Operand → Option Value
  | .tmp t => l.get t
  | .const v => some v
  | .global g => some (.pointer (some ⟨g, 0, none⟩))
  | .func f => some (.func (.func f) #[] #[])
def Fr.evs (l : Fr) : List Operand → Option (List Value)
  | [] => some []
  | x :: r => match l.ev x, Fr.evs l r with
    | some v, some vs => some (v :: vs)
    | _, _ => none
def Fr.evp (l : Fr) : List (Nat × Operand) → Option (List (Nat × Value))
  | [] => some []
  | (i, x) :: r => match l.ev x, Fr.evp l r with
    | some v, some vs => some ((i, v) :: vs)
    | _, _ => none
structure Has (n : Nat) (l : Fr) (a : Act) : Prop where
  size : a.tmps.size = n
  defers : a.defers = []
  get : ∀ t v, l.get t = some v → a.tmps[t]? = some v

theorem beq_false {a b : Nat} (h : ¬ a = b) : Nat.beq a b = false := by
  cases hb : Nat.beq a b with
  | false => rfl
  | true => exact absurd (Nat.eq_of_beq_eq_true hb) h
theorem ne_of_beq {a b : Nat} (h : Nat.beq a b = false) : ¬ a = b := fun e => by subst e; simp at h
theorem Fr.get_cons (k : Nat) (v : Value) (l : Fr) (t : Nat) : Fr.get ((k, v) :: l) t = if k = t then some v else l.get t := by
  show (bif Nat.beq k t then some v else Fr.get l t) = _
  by_cases h : k = t
  · subst h; simp
  · have : Nat.beq k t = false := beq_false h
    rw [this, if_neg h]; rfl
variable {P : Program} {n : Nat} {l : Fr} {w w' : World} {Q : Exit → Act → World → Prop}
theorem Has.ev {a : Act} (h : Has n l a) {x : Operand} {v : Value} (hx : l.ev x = some v) : a.eval x = v := by
  cases x with
  | tmp t =>
    have := h.get t v hx
    simp [Act.eval, Array.getD_eq_getD_getElem?, this]
  | const c => simpa [Fr.ev, Act.eval] using hx
  | global g => simpa [Fr.ev, Act.eval] using hx
  | func f => simpa [Fr.ev, Act.eval] using hx
theorem Has.evs {a : Act} (h : Has n l a) : ∀ {xs : List Operand} {vs : List Value}, l.evs xs = some vs → xs.map a.eval = vs
  | [], vs, hx => by simp [Fr.evs] at hx; simp [← hx]
  | x :: r, vs, hx => by
    unfold Fr.evs at hx
    cases h1 : l.ev x with
    | none => simp [h1] at hx
    | some v =>
      cases h2 : Fr.evs l r with
      | none => simp [h1, h2] at hx
      | some us =>
        simp [h1, h2] at hx
        subst hx
        simp [h.ev h1, Has.evs h h2]
theorem Has.evp {a : Act} (h : Has n l a) : ∀ {xs : List (Nat × Operand)} {vs : List (Nat × Value)}, l.evp xs = some vs → xs.map (fun p => (p.1, a.eval p.2)) = vs
  | [], vs, hx => by simp [Fr.evp] at hx; simp [← hx]
  | (i, x) :: r, vs, hx => by
    unfold Fr.evp at hx
    cases h1 : l.ev x with
    | none => simp [h1] at hx
    | some v =>
      cases h2 : Fr.evp l r with
      | none => simp [h1, h2] at hx
      | some us =>
        simp [h1, h2] at hx
        subst hx
        simp [h.ev h1, Has.evp h h2]
theorem Has.put {a : Act} (h : Has n l a) {d : Nat} (hd : Nat.blt d n = true) (v : Value) : Has n ((d, v) :: l) (a.put (some d) v) := by
  have hd' : d < n := by simpa using hd
  refine ⟨by simp [Act.put, h.size], h.defers, fun t u ht => ?_⟩
  rw [Fr.get_cons] at ht
  simp only [Act.put]
  by_cases e : d = t
  · subst e
    simp at ht
    subst ht
    simp [Array.getElem?_setIfInBounds, h.size, hd']
  · rw [if_neg e] at ht
    rw [Array.getElem?_setIfInBounds, if_neg e]
    exact h.get t u ht
theorem Has.put_none {a : Act} (h : Has n l a) (v : Value) : Has n l (a.put none v) := h
inductive Fr.Le : Fr → Fr → Prop
  | nil {l : Fr} : Fr.Le [] l
  | cons {t : Nat} {v : Value} {m l : Fr} : l.get t = some v → Fr.Le m l → Fr.Le ((t, v) :: m) l
theorem Fr.Le.get {m l : Fr} (h : Fr.Le m l) : ∀ t v, m.get t = some v → l.get t = some v := by
  induction h with
  | nil => intro t v h; simp [Fr.get] at h
  | @cons k u _ _ h1 _ ih =>
    intro t v h
    rw [Fr.get_cons] at h
    by_cases e : k = t
    · rw [if_pos e] at h; injection h with h; subst h; subst e; exact h1
    · rw [if_neg e] at h; exact ih t v h
theorem Has.le {a : Act} {m : Fr} (h : Has n l a) (hm : Fr.Le m l) : Has n m a := ⟨h.size, h.defers, fun t v ht => h.get t v (hm.get t v ht)⟩
def Fr.ofArgs : List Value → Nat → Fr
  | [], _ => []
  | v :: r, i => (i, v) :: Fr.ofArgs r (i + 1)
theorem Fr.ofArgs_get : ∀ (vs : List Value) (i t : Nat) (v : Value), (Fr.ofArgs vs i).get t = some v → i ≤ t ∧ vs[t - i]? = some v
  | [], i, t, v, h => by simp [Fr.ofArgs, Fr.get] at h
  | u :: r, i, t, v, h => by
    unfold Fr.ofArgs at h
    rw [Fr.get_cons] at h
    by_cases e : i = t
    · subst e; simp at h; subst h; simp
    · rw [if_neg e] at h
      obtain ⟨h1, h2⟩ := Fr.ofArgs_get r (i + 1) t v h
      refine ⟨by omega, ?_⟩
      have : t - i = (t - (i + 1)) + 1 := by omega
      rw [this]
      simpa using h2

/-! ### Control -/
def W (P : Program) (n : Nat) (c : Code) (Q : Exit → Act → World → Prop) (l : Fr) (w : World) : Prop := ∀ a, Has n l a → c.wp P Q a w
def KQ (n : Nat) (Q : Exit → Act → World → Prop) (e : Exit) (l : Fr) (w : World) : Prop := ∀ a, Has n l a → Q e a w
def WL (P : Program) (n : Nat) (ops : List Oper) (Q : Exit → Act → World → Prop) (rest : List Oper) (l : Fr) (w : World) : Prop := ∀ a, Has n l a → wpList P ops.toArray Q rest a w
/-- What a call hands back. -/
def Ret (Φ : Value → World → Prop) : Ending → World → Prop := fun e w => ∃ v, e = .returned v ∧ Φ v w
theorem enter {f : FuncId} {fn : Func} {c : Code} {R : Ending → World → Prop} (hf : P.funcs[f]? = some fn) (hb : fn.body = some c) (hn : fn.ntmps = n) (args : List Value) (hl : Nat.ble args.length n = true)
    (h : W P n c (bodyPost P fn R) (Fr.ofArgs args 0) w) : Calls P f args.toArray w R := by
  have hl' : args.length ≤ n := by simpa using hl
  refine calls_of_wp hf hb (h _ ⟨by simp [hn]; omega, rfl, fun t v ht => ?_⟩)
  obtain ⟨_, h2⟩ := Fr.ofArgs_get _ _ _ _ ht
  have h3 : args[t]? = some v := by simpa using h2
  have hlt := (List.getElem?_eq_some_iff.1 h3).1
  rw [Array.getElem?_append, if_pos (by simpa using hlt)]
  simpa using h3
theorem W.seq {x y : Code} (h : W P n x (Exit.then (y.wp P Q) Q) l w) : W P n (.seq x y) Q l w := fun a ha => wp_seq (h a ha)
theorem W.skip (h : KQ n Q .normal l w) : W P n .skip Q l w := fun a ha => wp_skip (h a ha)
theorem W.label {k : Nat} (h : KQ n Q .normal l w) : W P n (.label k) Q l w := fun a ha => wp_label (h a ha)
theorem W.exit {id : Nat} (h : KQ n Q (.exit id) l w) : W P n (.exit id) Q l w := fun a ha => wp_exit (h a ha)
theorem W.ret (h : KQ n Q .ret l w) : W P n .ret Q l w := fun a ha => wp_ret (h a ha)
theorem W.block {id : Nat} {c : Code} (h : W P n c (Exit.inBlock id Q) l w) : W P n (.block id c) Q l w := fun a ha => wp_block (h a ha)
theorem W.scope {c : Code} (h : W P n c (Exit.noGoto Q) l w) : W P n (.scope c) Q l w := fun a ha => wp_scope_straight (h a ha)
theorem W.cond {c : Operand} {x y : Code} {b : Bool} (hc : l.ev c = some (.bool b)) (ht : b = true → W P n x Q l w) (hf : b = false → W P n y Q l w) : W P n (.cond c x y) Q l w :=
  fun a ha => wp_cond_split (ha.ev hc) (fun h => ht h a ha) (fun h => hf h a ha)
theorem W.condT {x y : Code} {b : Bool} (t : Nat) (hc : l.get t = some (.bool b)) (ht : b = true → W P n x Q ((t, .bool true) :: l) w) (hf : b = false → W P n y Q ((t, .bool false) :: l) w) : W P n (.cond (.tmp t) x y) Q l w := by
  intro a ha
  have hs : ∀ c : Bool, b = c → Has n ((t, .bool c) :: l) a := fun c hc' => ⟨ha.size, ha.defers, fun u x hu => by
    rw [Fr.get_cons] at hu
    by_cases e : t = u
    · subst e; simp at hu; subst hu; subst hc'; exact ha.get _ _ hc
    · rw [if_neg e] at hu; exact ha.get _ _ hu⟩
  exact wp_cond_split (ha.ev (x := .tmp t) hc) (fun h => ht h a (hs true h)) (fun h => hf h a (hs false h))
theorem W.cond_t {c : Operand} {x y : Code} (hc : l.ev c = some (.bool true)) (ht : W P n x Q l w) : W P n (.cond c x y) Q l w := fun a ha => wp_cond_true (ha.ev hc) (ht a ha)
theorem W.cond_f {c : Operand} {x y : Code} (hc : l.ev c = some (.bool false)) (ht : W P n y Q l w) : W P n (.cond c x y) Q l w := fun a ha => wp_cond_false (ha.ev hc) (ht a ha)
theorem W.region {id : Nat} {ops : List Oper} (h : WL P n ops Q ops l w) : W P n (.region id ops.toArray false) Q l w := fun a ha => wp_region_lit (h a ha)
theorem W.le {c : Code} {m : Fr} (hm : Fr.Le m l) (h : W P n c Q m w) : W P n c Q l w := fun a ha => h a (ha.le hm)
theorem WL.le {ops rest : List Oper} {m : Fr} (hm : Fr.Le m l) (h : WL P n ops Q rest m w) : WL P n ops Q rest l w := fun a ha => h a (ha.le hm)
theorem WL.done {ops : List Oper} (h : KQ n Q .normal l w) : WL P n ops Q [] l w := fun a ha => wpList_nil (h a ha)
theorem KQ.then_n {y : Code} (h : W P n y Q l w) : KQ n (Exit.then (y.wp P Q) Q) .normal l w := h
theorem KQ.then_e {k : Act → World → Prop} {id : Nat} (h : KQ n Q (.exit id) l w) : KQ n (Exit.then k Q) (.exit id) l w := h
theorem KQ.then_r {k : Act → World → Prop} (h : KQ n Q .ret l w) : KQ n (Exit.then k Q) .ret l w := h
theorem KQ.block_n {id : Nat} (h : KQ n Q .normal l w) : KQ n (Exit.inBlock id Q) .normal l w := h
theorem KQ.block_r {id : Nat} (h : KQ n Q .ret l w) : KQ n (Exit.inBlock id Q) .ret l w := h
theorem KQ.block_e {id : Nat} (h : KQ n Q .normal l w) : KQ n (Exit.inBlock id Q) (.exit id) l w := fun a ha => by
  show (if id = id then _ else _); rw [if_pos rfl]; exact h a ha
theorem KQ.block_o {id id' : Nat} (hne : Nat.beq id' id = false) (h : KQ n Q (.exit id') l w) : KQ n (Exit.inBlock id Q) (.exit id') l w := fun a ha => by
  show (if id' = id then _ else _); rw [if_neg (ne_of_beq hne)]; exact h a ha
theorem KQ.goto_n (h : KQ n Q .normal l w) : KQ n (Exit.noGoto Q) .normal l w := h
theorem KQ.goto_r (h : KQ n Q .ret l w) : KQ n (Exit.noGoto Q) .ret l w := h
theorem KQ.goto_e {id : Nat} (h : KQ n Q (.exit id) l w) : KQ n (Exit.noGoto Q) (.exit id) l w := h

/-- A loop: the frame at its head, and what is known there, by a ghost; a measure on the ghost. -/
structure Nx {ι : Type} (n : Nat) (L : ι → Fr) (J : ι → World → Prop) (μ : ι → Nat) (i : ι) (a : Act) (w : World) : Prop where
  out : ∃ j, Has n (L j) a ∧ J j w ∧ μ j < μ i
theorem W.loop {ι : Type} {c : Code} (L : ι → Fr) (J : ι → World → Prop) (μ : ι → Nat) (i0 : ι) (hl : Fr.Le (L i0) l) (hJ : J i0 w)
    (round : ∀ i w, J i w → W P n c (Exit.then (Nx n L J μ i) Q) (L i) w) : W P n (.loop c) Q l w := by
  intro a ha b k cs
  have key : ∀ m i a w, μ i = m → J i w → Has n (L i) a →
      ∃ e a' w', Q e a' w' ∧ Arrives P (lone (b.at a (.code c :: .inLoop c :: k)) cs w) b k cs e a' w' := by
    intro m
    induction m using Nat.strongRecOn with
    | _ m ih =>
      intro i a w hm hJ ha
      obtain ⟨e, a₁, w₁, hq, harr⟩ := round i w hJ a ha b (.inLoop c :: k) cs
      cases e with
      | normal =>
        obtain ⟨j, h1, h2, h3⟩ := hq.out
        obtain ⟨e₂, a₂, w₂, hq₂, harr₂⟩ := ih (μ j) (hm ▸ h3) j a₁ w₁ rfl h2 h1
        exact ⟨e₂, a₂, w₂, hq₂, .of_steps (Steps.trans harr (.one step_inLoop)) harr₂⟩
      | exit id => exact ⟨_, a₁, w₁, hq, .pass (x := .inLoop c) rfl (fun _ _ => .inl (by simp)) harr⟩
      | goto l => exact ⟨_, a₁, w₁, hq, .pass (x := .inLoop c) rfl (fun _ _ => .inl (by simp)) harr⟩
      | ret => exact ⟨_, a₁, w₁, hq, .pass (x := .inLoop c) rfl (fun _ _ => .inl (by simp)) harr⟩
      | panic ch => exact ⟨_, a₁, w₁, hq, .pass (x := .inLoop c) rfl (fun _ _ => .inl (by simp)) harr⟩
      | outgrown => exact ⟨_, a₁, w₁, hq, .pass (x := .inLoop c) rfl (fun _ _ => .inl (by simp)) harr⟩
  obtain ⟨e, a', w', hq, harr⟩ := key _ i0 a w rfl hJ (ha.le hl)
  exact ⟨e, a', w', hq, .of_steps (.one step_loop) harr⟩
theorem KQ.next {ι : Type} {L : ι → Fr} {J : ι → World → Prop} {μ : ι → Nat} {i : ι} (j : ι) (hl : Fr.Le (L j) l) (hJ : J j w) (hμ : μ j < μ i) : KQ n (Exit.then (Nx n L J μ i) Q) .normal l w :=
  fun a ha => ⟨j, ha.le hl, hJ, hμ⟩
theorem KQ.loop_e {ι : Type} {L : ι → Fr} {J : ι → World → Prop} {μ : ι → Nat} {i : ι} {id : Nat} (h : KQ n Q (.exit id) l w) : KQ n (Exit.then (Nx n L J μ i) Q) (.exit id) l w := h
theorem KQ.loop_r {ι : Type} {L : ι → Fr} {J : ι → World → Prop} {μ : ι → Nat} {i : ι} (h : KQ n Q .ret l w) : KQ n (Exit.then (Nx n L J μ i) Q) .ret l w := h

/-! ### The function's end -/
theorem KQ.ret1 {fn : Func} {R : Ending → World → Prop} {t : Nat} {v : Value} (hr : fn.results = #[.tmp t]) (hv : l.get t = some v) (h : R (.returned v) w) : KQ n (bodyPost P fn R) .ret l w := by
  intro a ha
  refine ⟨ha.defers, v, ?_, h⟩
  rw [results_tmp hr]
  simp [Array.getD_eq_getD_getElem?, ha.get t v hv]
theorem KQ.ret2 {fn : Func} {R : Ending → World → Prop} {t u : Nat} {v x : Value} (hr : fn.results = #[.tmp t, .tmp u]) (hv : l.get t = some v) (hx : l.get u = some x) (h : R (.returned (.tuple #[v, x])) w) : KQ n (bodyPost P fn R) .ret l w := by
  intro a ha
  refine ⟨ha.defers, _, ?_, h⟩
  rw [results_tmp2 hr]
  simp [Array.getD_eq_getD_getElem?, ha.get t v hv, ha.get u x hx]
theorem KQ.ret0 {fn : Func} {R : Ending → World → Prop} (hr : fn.results = #[]) (h : R (.returned (.tuple #[])) w) : KQ n (bodyPost P fn R) .ret l w := by
  intro a ha
  exact ⟨ha.defers, _, by rw [results_none hr], h⟩
theorem KQ.end0 {fn : Func} {R : Ending → World → Prop} (hr : fn.results = #[]) (h : R (.returned (.tuple #[])) w) : KQ n (bodyPost P fn R) .normal l w := by
  intro a ha
  exact ⟨ha.defers, _, by rw [results_none hr], h⟩

/-! ### One operation -/
def nth : List Oper → Nat → Option Oper
  | [], _ => none
  | o :: _, 0 => some o
  | _ :: r, k + 1 => nth r k
theorem nth_eq : ∀ (ops : List Oper) (k : Nat), nth ops k = ops.toArray[k]?
  | [], k => by simp [nth]
  | o :: r, 0 => by simp [nth]
  | o :: r, k + 1 => by simp only [nth, nth_eq r k]; simp
/-- Is it carried out? By its guard. -/
def want (ops : List Oper) (l : Fr) : Option (Nat × Bool) → Option Bool
  | none => some true
  | some (j, b) => match nth ops j with
    | none => none
    | some o => match o.dst with
      | none => none
      | some t => match l.get t with
        | some (.bool x) => some (bif x then b else !b)
        | some (.tuple _) => some false
        | _ => none
theorem want_spec {ops : List Oper} {a : Act} (ha : Has n l a) {o : Oper} {r : Bool} (h : want ops l o.guard = some r) : Region.wanted o (yielded ops.toArray a.tmps) = r := by
  unfold Region.wanted
  cases hg : o.guard with
  | none => rw [hg] at h; simpa [want] using h
  | some p =>
    obtain ⟨j, b⟩ := p
    rw [hg] at h
    unfold want at h
    simp only at h ⊢
    cases h1 : nth ops j with
    | none => simp [h1] at h
    | some o' =>
      simp only [h1] at h
      cases h2 : o'.dst with
      | none => simp [h2] at h
      | some t =>
        simp only [h2] at h
        cases h3 : l.get t with
        | none => simp [h3] at h
        | some v =>
          have h4 := ha.get t v h3
          rw [nth_eq] at h1
          cases v <;> simp [h3] at h
          · rename_i x
            simp only [yielded, h1, Option.bind_some, h2, h4]
            subst h
            cases x <;> cases b <;> rfl
          · simp only [yielded, h1, Option.bind_some, h2, h4]
            subst h
            cases b <;> rfl
/-- In memory w the operation yields v, and leaves w'. -/
def RunV (P : Program) (n : Nat) (l : Fr) (o : Oper) (w : World) (v : Value) (w' : World) : Prop := ∀ a, Has n l a → (execOp a.eval o).run P w = .ok (.value v) w'
variable {ops rest : List Oper} {o : Oper} {d : Nat} {v : Value}
theorem WL.val (hr : RunV P n l o w v w') (hg : want ops l o.guard = some true) (hd : o.dst = some d) (hn : Nat.blt d n = true)
    (k : WL P n ops Q rest ((d, v) :: l) w') : WL P n ops Q (o :: rest) l w := by
  intro a ha
  unfold wpList
  rw [if_pos (want_spec ha hg)]
  refine .inl ?_
  unfold Oper.wp
  rw [hr a ha]
  show wpList P ops.toArray Q rest (a.put o.dst v) w'
  rw [hd]
  exact k _ (ha.put hn v)
theorem WL.off (hg : want ops l o.guard = some false) (hd : o.dst = some d) (hn : Nat.blt d n = true) (k : WL P n ops Q rest ((d, undef) :: l) w) : WL P n ops Q (o :: rest) l w := by
  intro a ha
  unfold wpList
  rw [if_neg (by rw [want_spec ha hg]; decide), hd]
  exact k _ (ha.put hn undef)
theorem WL.off0 (hg : want ops l o.guard = some false) (hd : o.dst = none) (k : WL P n ops Q rest l w) : WL P n ops Q (o :: rest) l w := by
  intro a ha
  unfold wpList
  rw [if_neg (by rw [want_spec ha hg]; decide), hd]
  exact k _ ha
/-- A Bool in a slot: both ways. -/
theorem WL.split (t : Nat) {b : Bool} (h : l.get t = some (.bool b)) (ht : b = true → WL P n ops Q rest ((t, .bool true) :: l) w) (hf : b = false → WL P n ops Q rest ((t, .bool false) :: l) w) : WL P n ops Q rest l w := by
  intro a ha
  have hs : ∀ c : Bool, b = c → Has n ((t, .bool c) :: l) a := fun c hc => ⟨ha.size, ha.defers, fun u x hu => by
    rw [Fr.get_cons] at hu
    by_cases e : t = u
    · subst e; simp at hu; subst hu; subst hc; exact ha.get _ _ h
    · rw [if_neg e] at hu; exact ha.get _ _ hu⟩
  cases hb : b with
  | true => exact ht hb a (hs true hb)
  | false => exact hf hb a (hs false hb)
/-- A slot's value by another name. -/
theorem WL.as (t : Nat) {u v : Value} (h : l.get t = some u) (e : u = v) (k : WL P n ops Q rest ((t, v) :: l) w) : WL P n ops Q rest l w := by
  intro a ha
  refine k a ⟨ha.size, ha.defers, fun x y hx => ?_⟩
  rw [Fr.get_cons] at hx
  by_cases e' : t = x
  · subst e'; simp at hx; subst hx; subst e; exact ha.get _ _ h
  · rw [if_neg e'] at hx; exact ha.get _ _ hx
end Go.Proofs.YtmnnbnajnfdncaaDoor.E
