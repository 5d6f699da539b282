/- The engine once more, telling of the draws, too (printed from texts E1 to E5). -/
import Derived.WalkKit
import Derived.WalkLawsBesides
import Derived.WalkSpells
import Derived.Below
import Derived.KernelRfl
import Derived.Deep.Quiet
import Derived.Scope
import Derived.Shelf.Abstract
import Derived.OrdersHeld
import Derived.Sort.Grow
import Derived.Deep.Draws
set_option linter.unusedVariables false
set_option linter.unusedSimpArgs false
namespace Go.Proofs.YtmnnbnajnfdncaaGreatDoor.X
open Go.RowKit
/-- Below a block number nothing has turned, and the draws have not gone back. -/
structure Bel (B : Nat) (w w' : World) : Prop extends Below B w w' where
  drawn : w.drawn ≤ w'.drawn
theorem Bel.refl (B : Nat) (w : World) : Bel B w w := ⟨Below.refl _ _, Nat.le_refl _⟩
theorem Bel.trans {B : Nat} {a b c : World} (h : Bel B a b) (k : Bel B b c) : Bel B a c := ⟨h.toBelow.trans k.toBelow, Nat.le_trans h.drawn k.drawn⟩
theorem Bel.mono {B B' : Nat} {w w' : World} (h : Bel B w w') (hB : B' ≤ B) : Bel B' w w' := ⟨h.toBelow.mono hB, h.drawn⟩
theorem Bel.drew {B : Nat} {a w : World} (h : Bel B a w) : Bel B a w.drew := ⟨h.toBelow.drew, Nat.le_succ_of_le h.drawn⟩
theorem Bel.alloc {B : Nat} {a w : World} (h : Bel B a w) (hB : B ≤ w.heap.size) (o : Obj) : Bel B a (w.alloc o) := ⟨h.toBelow.alloc hB o, h.drawn⟩
section

/-! ### Frames -/
abbrev Fr := List (Nat × Value)
def Fr.get : Fr → Nat → Option Value
  | [], _ => none
  | p :: l, t => bif Nat.beq p.1 t then some p.2 else Fr.get l t
def Fr.ev (l : Fr) : Operand → Option Value
  | .tmp t => l.get t
  | .const v => some v
  | .global g => some (.pointer (some ⟨g, 0, none⟩))
  | .func f => some (.func (.func f) #[] #[])
def Fr.evs (l : Fr) : List Operand → Option (List Value)
  | [] => some []
  | x :: r => match l.ev x, Fr.evs l r with
    | some v, some vs => some (v :: vs)
    | _, _ => none
def Fr.evp (l : Fr) : List (Nat × Operand) → Option (List (Nat × Value))
  | [] => some []
  | (i, x) :: r => match l.ev x, Fr.evp l r with
    | some v, some vs => some ((i, v) :: vs)
    | _, _ => none
structure Has (n : Nat) (l : Fr) (a : Act) : Prop where
  size : a.tmps.size = n
  defers : a.defers = []
  get : ∀ t v, l.get t = some v → a.tmps[t]? = some v

theorem beq_false {a b : Nat} (h : ¬ a = b) : Nat.beq a b = false := by
  cases hb : Nat.beq a b with
  | false => rfl
  | true => exact absurd (Nat.eq_of_beq_eq_true hb) h
theorem ne_of_beq {a b : Nat} (h : Nat.beq a b = false) : ¬ a = b := fun e => by subst e; simp at h
theorem Fr.get_cons (k : Nat) (v : Value) (l : Fr) (t : Nat) : Fr.get ((k, v) :: l) t = if k = t then some v else l.get t := by
  show (bif Nat.beq k t then some v else Fr.get l t) = _
  by_cases h : k = t
  · subst h; simp
  · have : Nat.beq k t = false := beq_false h
    rw [this, if_neg h]; rfl
variable {P : Program} {n : Nat} {l : Fr} {w w' : World} {Q : Exit → Act → World → Prop}
theorem Has.ev {a : Act} (h : Has n l a) {x : Operand} {v : Value} (hx : l.ev x = some v) : a.eval x = v := by
  cases x with
  | tmp t =>
    have := h.get t v hx
    simp [Act.eval, Array.getD_eq_getD_getElem?, this]
  | const c => simpa [Fr.ev, Act.eval] using hx
  | global g => simpa [Fr.ev, Act.eval] using hx
  | func f => simpa [Fr.ev, Act.eval] using hx
theorem Has.evs {a : Act} (h : Has n l a) : ∀ {xs : List Operand} {vs : List Value}, l.evs xs = some vs → xs.map a.eval = vs
  | [], vs, hx => by simp [Fr.evs] at hx; simp [← hx]
  | x :: r, vs, hx => by
    unfold Fr.evs at hx
    cases h1 : l.ev x with
    | none => simp [h1] at hx
    | some v =>
      cases h2 : Fr.evs l r with
      | none => simp [h1, h2] at hx
      | some us =>
        simp [h1, h2] at hx
        subst hx
        simp [h.ev h1, Has.evs h h2]
theorem Has.evp {a : Act} (h : Has n l a) : ∀ {xs : List (Nat × Operand)} {vs : List (Nat × Value)}, l.evp xs = some vs → xs.map (fun p => (p.1, a.eval p.2)) = vs
  | [], vs, hx => by simp [Fr.evp] at hx; simp [← hx]
  | (i, x) :: r, vs, hx => by
    unfold Fr.evp at hx
    cases h1 : l.ev x with
    | none => simp [h1] at hx
    | some v =>
      cases h2 : Fr.evp l r with
      | none => simp [h1, h2] at hx
      | some us =>
        simp [h1, h2] at hx
        subst hx
        simp [h.ev h1, Has.evp h h2]
theorem Has.put {a : Act} (h : Has n l a) {d : Nat} (hd : Nat.blt d n = true) (v : Value) : Has n ((d, v) :: l) (a.put (some d) v) := by
  have hd' : d < n := by simpa using hd
  refine ⟨by simp [Act.put, h.size], h.defers, fun t u ht => ?_⟩
  rw [Fr.get_cons] at ht
  simp only [Act.put]
  by_cases e : d = t
  · subst e
    simp at ht
    subst ht
    simp [Array.getElem?_setIfInBounds, h.size, hd']
  · rw [if_neg e] at ht
    rw [Array.getElem?_setIfInBounds, if_neg e]
    exact h.get t u ht
theorem Has.put_none {a : Act} (h : Has n l a) (v : Value) : Has n l (a.put none v) := h
inductive Fr.Le : Fr → Fr → Prop
  | nil {l : Fr} : Fr.Le [] l
  | cons {t : Nat} {v : Value} {m l : Fr} : l.get t = some v → Fr.Le m l → Fr.Le ((t, v) :: m) l
theorem Fr.Le.get {m l : Fr} (h : Fr.Le m l) : ∀ t v, m.get t = some v → l.get t = some v := by
  induction h with
  | nil => intro t v h; simp [Fr.get] at h
  | @cons k u _ _ h1 _ ih =>
    intro t v h
    rw [Fr.get_cons] at h
    by_cases e : k = t
    · rw [if_pos e] at h; injection h with h; subst h; subst e; exact h1
    · rw [if_neg e] at h; exact ih t v h
theorem Has.le {a : Act} {m : Fr} (h : Has n l a) (hm : Fr.Le m l) : Has n m a := ⟨h.size, h.defers, fun t v ht => h.get t v (hm.get t v ht)⟩
def Fr.ofArgs : List Value → Nat → Fr
  | [], _ => []
  | v :: r, i => (i, v) :: Fr.ofArgs r (i + 1)
theorem Fr.ofArgs_get : ∀ (vs : List Value) (i t : Nat) (v : Value), (Fr.ofArgs vs i).get t = some v → i ≤ t ∧ vs[t - i]? = some v
  | [], i, t, v, h => by simp [Fr.ofArgs, Fr.get] at h
  | u :: r, i, t, v, h => by
    unfold Fr.ofArgs at h
    rw [Fr.get_cons] at h
    by_cases e : i = t
    · subst e; simp at h; subst h; simp
    · rw [if_neg e] at h
      obtain ⟨h1, h2⟩ := Fr.ofArgs_get r (i + 1) t v h
      refine ⟨by omega, ?_⟩
      have : t - i = (t - (i + 1)) + 1 := by omega
      rw [this]
      simpa using h2

/-! ### Control -/
def W (P : Program) (n : Nat) (c : Code) (Q : Exit → Act → World → Prop) (l : Fr) (w : World) : Prop := ∀ a, Has n l a → c.wp P Q a w
def KQ (n : Nat) (Q : Exit → Act → World → Prop) (e : Exit) (l : Fr) (w : World) : Prop := ∀ a, Has n l a → Q e a w
def WL (P : Program) (n : Nat) (ops : List Oper) (Q : Exit → Act → World → Prop) (rest : List Oper) (l : Fr) (w : World) : Prop := ∀ a, Has n l a → wpList P ops.toArray Q rest a w
/-- What a call hands back. -/
def Ret (Φ : Value → World → Prop) : Ending → World → Prop := fun e w => ∃ v, e = .returned v ∧ Φ v w
theorem enter {f : FuncId} {fn : Func} {c : Code} {R : Ending → World → Prop} (hf : P.funcs[f]? = some fn) (hb : fn.body = some c) (hn : fn.ntmps = n) (args : List Value) (hl : Nat.ble args.length n = true)
    (h : W P n c (bodyPost P fn R) (Fr.ofArgs args 0) w) : Calls P f args.toArray w R := by
  have hl' : args.length ≤ n := by simpa using hl
  refine calls_of_wp hf hb (h _ ⟨by simp [hn]; omega, rfl, fun t v ht => ?_⟩)
  obtain ⟨_, h2⟩ := Fr.ofArgs_get _ _ _ _ ht
  have h3 : args[t]? = some v := by simpa using h2
  have hlt := (List.getElem?_eq_some_iff.1 h3).1
  rw [Array.getElem?_append, if_pos (by simpa using hlt)]
  simpa using h3
theorem W.seq {x y : Code} (h : W P n x (Exit.then (y.wp P Q) Q) l w) : W P n (.seq x y) Q l w := fun a ha => wp_seq (h a ha)
theorem W.skip (h : KQ n Q .normal l w) : W P n .skip Q l w := fun a ha => wp_skip (h a ha)
theorem W.label {k : Nat} (h : KQ n Q .normal l w) : W P n (.label k) Q l w := fun a ha => wp_label (h a ha)
theorem W.exit {id : Nat} (h : KQ n Q (.exit id) l w) : W P n (.exit id) Q l w := fun a ha => wp_exit (h a ha)
theorem W.ret (h : KQ n Q .ret l w) : W P n .ret Q l w := fun a ha => wp_ret (h a ha)
theorem W.block {id : Nat} {c : Code} (h : W P n c (Exit.inBlock id Q) l w) : W P n (.block id c) Q l w := fun a ha => wp_block (h a ha)
theorem W.scope {c : Code} (h : W P n c (Exit.noGoto Q) l w) : W P n (.scope c) Q l w := fun a ha => wp_scope_straight (h a ha)
theorem W.cond {c : Operand} {x y : Code} {b : Bool} (hc : l.ev c = some (.bool b)) (ht : b = true → W P n x Q l w) (hf : b = false → W P n y Q l w) : W P n (.cond c x y) Q l w :=
  fun a ha => wp_cond_split (ha.ev hc) (fun h => ht h a ha) (fun h => hf h a ha)
theorem W.condT {x y : Code} {b : Bool} (t : Nat) (hc : l.get t = some (.bool b)) (ht : b = true → W P n x Q ((t, .bool true) :: l) w) (hf : b = false → W P n y Q ((t, .bool false) :: l) w) : W P n (.cond (.tmp t) x y) Q l w := by
  intro a ha
  have hs : ∀ c : Bool, b = c → Has n ((t, .bool c) :: l) a := fun c hc' => ⟨ha.size, ha.defers, fun u x hu => by
    rw [Fr.get_cons] at hu
    by_cases e : t = u
    · subst e; simp at hu; subst hu; subst hc'; exact ha.get _ _ hc
    · rw [if_neg e] at hu; exact ha.get _ _ hu⟩
  exact wp_cond_split (ha.ev (x := .tmp t) hc) (fun h => ht h a (hs true h)) (fun h => hf h a (hs false h))
theorem W.cond_t {c : Operand} {x y : Code} (hc : l.ev c = some (.bool true)) (ht : W P n x Q l w) : W P n (.cond c x y) Q l w := fun a ha => wp_cond_true (ha.ev hc) (ht a ha)
theorem W.cond_f {c : Operand} {x y : Code} (hc : l.ev c = some (.bool false)) (ht : W P n y Q l w) : W P n (.cond c x y) Q l w := fun a ha => wp_cond_false (ha.ev hc) (ht a ha)
theorem W.region {id : Nat} {ops : List Oper} (h : WL P n ops Q ops l w) : W P n (.region id ops.toArray false) Q l w := fun a ha => wp_region_lit (h a ha)
theorem W.le {c : Code} {m : Fr} (hm : Fr.Le m l) (h : W P n c Q m w) : W P n c Q l w := fun a ha => h a (ha.le hm)
theorem WL.le {ops rest : List Oper} {m : Fr} (hm : Fr.Le m l) (h : WL P n ops Q rest m w) : WL P n ops Q rest l w := fun a ha => h a (ha.le hm)
theorem WL.done {ops : List Oper} (h : KQ n Q .normal l w) : WL P n ops Q [] l w := fun a ha => wpList_nil (h a ha)
theorem KQ.then_n {y : Code} (h : W P n y Q l w) : KQ n (Exit.then (y.wp P Q) Q) .normal l w := h
theorem KQ.then_e {k : Act → World → Prop} {id : Nat} (h : KQ n Q (.exit id) l w) : KQ n (Exit.then k Q) (.exit id) l w := h
theorem KQ.then_r {k : Act → World → Prop} (h : KQ n Q .ret l w) : KQ n (Exit.then k Q) .ret l w := h
theorem KQ.block_n {id : Nat} (h : KQ n Q .normal l w) : KQ n (Exit.inBlock id Q) .normal l w := h
theorem KQ.block_r {id : Nat} (h : KQ n Q .ret l w) : KQ n (Exit.inBlock id Q) .ret l w := h
theorem KQ.block_e {id : Nat} (h : KQ n Q .normal l w) : KQ n (Exit.inBlock id Q) (.exit id) l w := fun a ha => by
  show (if id = id then _ else _); rw [if_pos rfl]; exact h a ha
theorem KQ.block_o {id id' : Nat} (hne : Nat.beq id' id = false) (h : KQ n Q (.exit id') l w) : KQ n (Exit.inBlock id Q) (.exit id') l w := fun a ha => by
  show (if id' = id then _ else _); rw [if_neg (ne_of_beq hne)]; exact h a ha
theorem KQ.goto_n (h : KQ n Q .normal l w) : KQ n (Exit.noGoto Q) .normal l w := h
theorem KQ.goto_r (h : KQ n Q .ret l w) : KQ n (Exit.noGoto Q) .ret l w := h
theorem KQ.goto_e {id : Nat} (h : KQ n Q (.exit id) l w) : KQ n (Exit.noGoto Q) (.exit id) l w := h

/-- A loop: the frame at its head, and what is known there, by a ghost; a measure on the ghost. -/
structure Nx {ι : Type} (n : Nat) (L : ι → Fr) (J : ι → World → Prop) (μ : ι → Nat) (i : ι) (a : Act) (w : World) : Prop where
  out : ∃ j, Has n (L j) a ∧ J j w ∧ μ j < μ i
theorem W.loop {ι : Type} {c : Code} (L : ι → Fr) (J : ι → World → Prop) (μ : ι → Nat) (i0 : ι) (hl : Fr.Le (L i0) l) (hJ : J i0 w)
    (round : ∀ i w, J i w → W P n c (Exit.then (Nx n L J μ i) Q) (L i) w) : W P n (.loop c) Q l w := by
  intro a ha b k cs
  have key : ∀ m i a w, μ i = m → J i w → Has n (L i) a →
      ∃ e a' w', Q e a' w' ∧ Arrives P (lone (b.at a (.code c :: .inLoop c :: k)) cs w) b k cs e a' w' := by
    intro m
    induction m using Nat.strongRecOn with
    | _ m ih =>
      intro i a w hm hJ ha
      obtain ⟨e, a₁, w₁, hq, harr⟩ := round i w hJ a ha b (.inLoop c :: k) cs
      cases e with
      | normal =>
        obtain ⟨j, h1, h2, h3⟩ := hq.out
        obtain ⟨e₂, a₂, w₂, hq₂, harr₂⟩ := ih (μ j) (hm ▸ h3) j a₁ w₁ rfl h2 h1
        exact ⟨e₂, a₂, w₂, hq₂, .of_steps (Steps.trans harr (.one step_inLoop)) harr₂⟩
      | exit id => exact ⟨_, a₁, w₁, hq, .pass (x := .inLoop c) rfl (fun _ _ => .inl (by simp)) harr⟩
      | goto l => exact ⟨_, a₁, w₁, hq, .pass (x := .inLoop c) rfl (fun _ _ => .inl (by simp)) harr⟩
      | ret => exact ⟨_, a₁, w₁, hq, .pass (x := .inLoop c) rfl (fun _ _ => .inl (by simp)) harr⟩
      | panic ch => exact ⟨_, a₁, w₁, hq, .pass (x := .inLoop c) rfl (fun _ _ => .inl (by simp)) harr⟩
      | outgrown => exact ⟨_, a₁, w₁, hq, .pass (x := .inLoop c) rfl (fun _ _ => .inl (by simp)) harr⟩
  obtain ⟨e, a', w', hq, harr⟩ := key _ i0 a w rfl hJ (ha.le hl)
  exact ⟨e, a', w', hq, .of_steps (.one step_loop) harr⟩
theorem KQ.next {ι : Type} {L : ι → Fr} {J : ι → World → Prop} {μ : ι → Nat} {i : ι} (j : ι) (hl : Fr.Le (L j) l) (hJ : J j w) (hμ : μ j < μ i) : KQ n (Exit.then (Nx n L J μ i) Q) .normal l w :=
  fun a ha => ⟨j, ha.le hl, hJ, hμ⟩
theorem KQ.loop_e {ι : Type} {L : ι → Fr} {J : ι → World → Prop} {μ : ι → Nat} {i : ι} {id : Nat} (h : KQ n Q (.exit id) l w) : KQ n (Exit.then (Nx n L J μ i) Q) (.exit id) l w := h
theorem KQ.loop_r {ι : Type} {L : ι → Fr} {J : ι → World → Prop} {μ : ι → Nat} {i : ι} (h : KQ n Q .ret l w) : KQ n (Exit.then (Nx n L J μ i) Q) .ret l w := h

/-! ### The function's end -/
theorem KQ.ret1 {fn : Func} {R : Ending → World → Prop} {t : Nat} {v : Value} (hr : fn.results = #[.tmp t]) (hv : l.get t = some v) (h : R (.returned v) w) : KQ n (bodyPost P fn R) .ret l w := by
  intro a ha
  refine ⟨ha.defers, v, ?_, h⟩
  rw [results_tmp hr]
  simp [Array.getD_eq_getD_getElem?, ha.get t v hv]
theorem KQ.ret2 {fn : Func} {R : Ending → World → Prop} {t u : Nat} {v x : Value} (hr : fn.results = #[.tmp t, .tmp u]) (hv : l.get t = some v) (hx : l.get u = some x) (h : R (.returned (.tuple #[v, x])) w) : KQ n (bodyPost P fn R) .ret l w := by
  intro a ha
  refine ⟨ha.defers, _, ?_, h⟩
  rw [results_tmp2 hr]
  simp [Array.getD_eq_getD_getElem?, ha.get t v hv, ha.get u x hx]
theorem KQ.ret0 {fn : Func} {R : Ending → World → Prop} (hr : fn.results = #[]) (h : R (.returned (.tuple #[])) w) : KQ n (bodyPost P fn R) .ret l w := by
  intro a ha
  exact ⟨ha.defers, _, by rw [results_none hr], h⟩
theorem KQ.end0 {fn : Func} {R : Ending → World → Prop} (hr : fn.results = #[]) (h : R (.returned (.tuple #[])) w) : KQ n (bodyPost P fn R) .normal l w := by
  intro a ha
  exact ⟨ha.defers, _, by rw [results_none hr], h⟩

/-! ### One operation -/
def nth : List Oper → Nat → Option Oper
  | [], _ => none
  | o :: _, 0 => some o
  | _ :: r, k + 1 => nth r k
theorem nth_eq : ∀ (ops : List Oper) (k : Nat), nth ops k = ops.toArray[k]?
  | [], k => by simp [nth]
  | o :: r, 0 => by simp [nth]
  | o :: r, k + 1 => by simp only [nth, nth_eq r k]; simp
/-- Is it carried out? By its guard. -/
def want (ops : List Oper) (l : Fr) : Option (Nat × Bool) → Option Bool
  | none => some true
  | some (j, b) => match nth ops j with
    | none => none
    | some o => match o.dst with
      | none => none
      | some t => match l.get t with
        | some (.bool x) => some (bif x then b else !b)
        | some (.tuple _) => some false
        | _ => none
theorem want_spec {ops : List Oper} {a : Act} (ha : Has n l a) {o : Oper} {r : Bool} (h : want ops l o.guard = some r) : Region.wanted o (yielded ops.toArray a.tmps) = r := by
  unfold Region.wanted
  cases hg : o.guard with
  | none => rw [hg] at h; simpa [want] using h
  | some p =>
    obtain ⟨j, b⟩ := p
    rw [hg] at h
    unfold want at h
    simp only at h ⊢
    cases h1 : nth ops j with
    | none => simp [h1] at h
    | some o' =>
      simp only [h1] at h
      cases h2 : o'.dst with
      | none => simp [h2] at h
      | some t =>
        simp only [h2] at h
        cases h3 : l.get t with
        | none => simp [h3] at h
        | some v =>
          have h4 := ha.get t v h3
          rw [nth_eq] at h1
          cases v <;> simp [h3] at h
          · rename_i x
            simp only [yielded, h1, Option.bind_some, h2, h4]
            subst h
            cases x <;> cases b <;> rfl
          · simp only [yielded, h1, Option.bind_some, h2, h4]
            subst h
            cases b <;> rfl
/-- In memory w the operation yields v, and leaves w'. -/
def RunV (P : Program) (n : Nat) (l : Fr) (o : Oper) (w : World) (v : Value) (w' : World) : Prop := ∀ a, Has n l a → (execOp a.eval o).run P w = .ok (.value v) w'
variable {ops rest : List Oper} {o : Oper} {d : Nat} {v : Value}
theorem WL.val (hr : RunV P n l o w v w') (hg : want ops l o.guard = some true) (hd : o.dst = some d) (hn : Nat.blt d n = true)
    (k : WL P n ops Q rest ((d, v) :: l) w') : WL P n ops Q (o :: rest) l w := by
  intro a ha
  unfold wpList
  rw [if_pos (want_spec ha hg)]
  refine .inl ?_
  unfold Oper.wp
  rw [hr a ha]
  show wpList P ops.toArray Q rest (a.put o.dst v) w'
  rw [hd]
  exact k _ (ha.put hn v)
theorem WL.off (hg : want ops l o.guard = some false) (hd : o.dst = some d) (hn : Nat.blt d n = true) (k : WL P n ops Q rest ((d, undef) :: l) w) : WL P n ops Q (o :: rest) l w := by
  intro a ha
  unfold wpList
  rw [if_neg (by rw [want_spec ha hg]; decide), hd]
  exact k _ (ha.put hn undef)
theorem WL.off0 (hg : want ops l o.guard = some false) (hd : o.dst = none) (k : WL P n ops Q rest l w) : WL P n ops Q (o :: rest) l w := by
  intro a ha
  unfold wpList
  rw [if_neg (by rw [want_spec ha hg]; decide), hd]
  exact k _ ha
/-- A Bool in a slot: both ways. -/
theorem WL.split (t : Nat) {b : Bool} (h : l.get t = some (.bool b)) (ht : b = true → WL P n ops Q rest ((t, .bool true) :: l) w) (hf : b = false → WL P n ops Q rest ((t, .bool false) :: l) w) : WL P n ops Q rest l w := by
  intro a ha
  have hs : ∀ c : Bool, b = c → Has n ((t, .bool c) :: l) a := fun c hc => ⟨ha.size, ha.defers, fun u x hu => by
    rw [Fr.get_cons] at hu
    by_cases e : t = u
    · subst e; simp at hu; subst hu; subst hc; exact ha.get _ _ h
    · rw [if_neg e] at hu; exact ha.get _ _ hu⟩
  cases hb : b with
  | true => exact ht hb a (hs true hb)
  | false => exact hf hb a (hs false hb)
/-- A slot's value by another name. -/
theorem WL.as (t : Nat) {u v : Value} (h : l.get t = some u) (e : u = v) (k : WL P n ops Q rest ((t, v) :: l) w) : WL P n ops Q rest l w := by
  intro a ha
  refine k a ⟨ha.size, ha.defers, fun x y hx => ?_⟩
  rw [Fr.get_cons] at hx
  by_cases e' : t = x
  · subst e'; simp at hx; subst hx; subst e; exact ha.get _ _ h
  · rw [if_neg e'] at hx; exact ha.get _ _ hx

end
section
variable {P : Program} {n : Nat} {l : Fr} {w w' : World} {Q : Exit → Act → World → Prop}
variable {ops rest : List Oper} {dst : Option Tmp} {ty : TypeId} {pos : String} {aft : Array Edge} {gd : Option (Nat × Bool)} {v : Value}
variable {x y z : Operand}

theorem y_move (h : l.ev x = some v) : RunV P n l ⟨dst, .move x, ty, pos, aft, gd⟩ w v w := fun a ha => by
  simp [execOp, ha.ev h]
theorem y_assign (h : l.ev x = some v) : RunV P n l ⟨dst, .assign x, ty, pos, aft, gd⟩ w v w := fun a ha => by
  simp [execOp, ha.ev h]
theorem y_pick_t (h : l.ev x = some (.bool true)) (h1 : l.ev y = some v) : RunV P n l ⟨dst, .pick x y z, ty, pos, aft, gd⟩ w v w := fun a ha => by
  simp [execOp, ha.ev h, ha.ev h1, asBool]
theorem y_pick_f (h : l.ev x = some (.bool false)) (h1 : l.ev z = some v) : RunV P n l ⟨dst, .pick x y z, ty, pos, aft, gd⟩ w v w := fun a ha => by
  simp [execOp, ha.ev h, ha.ev h1, asBool]
theorem y_not {b : Bool} {t : TypeId} (h : l.ev x = some (.bool b)) : RunV P n l ⟨dst, .unOp .not t x, ty, pos, aft, gd⟩ w (.bool !b) w := fun a ha => by
  simp [execOp, ha.ev h, Op.unary]
theorem y_extract {vs : Array Value} {i : Nat} (h : l.ev x = some (.tuple vs)) (hi : vs[i]? = some v) : RunV P n l ⟨dst, .extract x i, ty, pos, aft, gd⟩ w v w := fun a ha => by
  simp [execOp, ha.ev h, Instr.extract, hi]
theorem y_nilCheck {p : Addr} (h : l.ev x = some (.pointer (some p))) : RunV P n l ⟨dst, .nilCheck x, ty, pos, aft, gd⟩ w (.pointer (some p)) w := fun a ha => by
  simp [execOp, ha.ev h]
theorem y_nilCheckF {f : FuncId} {c d : Array Value} (h : l.ev x = some (.func (.func f) c d)) : RunV P n l ⟨dst, .nilCheck x, ty, pos, aft, gd⟩ w (.func (.func f) c d) w := fun a ha => by
  simp [execOp, ha.ev h]
section
variable {t t' : TypeId} {k : IntKind} {p q : Int}
theorem y_arith {op : BinOp} {r : Int} (ho : (binOp op t (.int k p) (.int k q)).run P w = .ok (.int k r) w) (hg : ∀ u u', eqGuard op t x y u u' = pure ()) (h : l.ev x = some (.int k p)) (h' : l.ev y = some (.int k q)) :
    RunV P n l ⟨dst, .binOp op t x y t', ty, pos, aft, gd⟩ w (.int k r) w := fun a ha => by
  simp [execOp, ha.ev h, ha.ev h', hg, ho]
theorem y_add (h : l.ev x = some (.int k p)) (h' : l.ev y = some (.int k q)) (hr : k.wrap (p + q) = p + q) : RunV P n l ⟨dst, .binOp .add t x y t', ty, pos, aft, gd⟩ w (.int k (p + q)) w :=
  y_arith (by simp [binOp, Op.intArith, hr]) (fun _ _ => rfl) h h'
theorem y_sub (h : l.ev x = some (.int k p)) (h' : l.ev y = some (.int k q)) (hr : k.wrap (p - q) = p - q) : RunV P n l ⟨dst, .binOp .sub t x y t', ty, pos, aft, gd⟩ w (.int k (p - q)) w :=
  y_arith (by simp [binOp, Op.intArith, hr]) (fun _ _ => rfl) h h'
theorem y_mul (h : l.ev x = some (.int k p)) (h' : l.ev y = some (.int k q)) (hr : k.wrap (p * q) = p * q) : RunV P n l ⟨dst, .binOp .mul t x y t', ty, pos, aft, gd⟩ w (.int k (p * q)) w :=
  y_arith (by simp [binOp, Op.intArith, hr]) (fun _ _ => rfl) h h'
theorem y_addw (h : l.ev x = some (.int k p)) (h' : l.ev y = some (.int k q)) : RunV P n l ⟨dst, .binOp .add t x y t', ty, pos, aft, gd⟩ w (.int k (k.wrap (p + q))) w :=
  y_arith (by simp [binOp, Op.intArith]) (fun _ _ => rfl) h h'
theorem y_subw (h : l.ev x = some (.int k p)) (h' : l.ev y = some (.int k q)) : RunV P n l ⟨dst, .binOp .sub t x y t', ty, pos, aft, gd⟩ w (.int k (k.wrap (p - q))) w :=
  y_arith (by simp [binOp, Op.intArith]) (fun _ _ => rfl) h h'
theorem y_quo (h : l.ev x = some (.int k p)) (h' : l.ev y = some (.int k q)) (h0 : 0 ≤ p) (h1 : 0 < q) (hr : k.wrap (p / q) = p / q) : RunV P n l ⟨dst, .binOp .quo t x y t', ty, pos, aft, gd⟩ w (.int k (p / q)) w :=
  y_arith (by simp [binOp, Op.intDiv, show ¬ q = 0 by omega, Int.tdiv_eq_ediv_of_nonneg h0, hr]) (fun _ _ => rfl) h h'
theorem y_rem (h : l.ev x = some (.int k p)) (h' : l.ev y = some (.int k q)) (h0 : 0 ≤ p) (h1 : 0 < q) : RunV P n l ⟨dst, .binOp .rem t x y t', ty, pos, aft, gd⟩ w (.int k (p % q)) w :=
  y_arith (by simp [binOp, Op.intDiv, show ¬ q = 0 by omega, Int.tmod_eq_emod_of_nonneg h0]) (fun _ _ => rfl) h h'
theorem y_shr {k' : IntKind} {m : Nat} (h : l.ev x = some (.int k p)) (h' : l.ev y = some (.int k' (m : Int))) (hm : m ≤ k.bits) : RunV P n l ⟨dst, .binOp .shr t x y t', ty, pos, aft, gd⟩ w (.int k (p / (2 : Int) ^ m)) w := fun a ha => by
  have e : p.fdiv (2 ^ m) = p / (2 : Int) ^ m := Int.fdiv_eq_ediv_of_nonneg _ (by exact Int.le_of_lt (Int.pow_pos (by decide)))
  have hg : ∀ u u', eqGuard .shr t x y u u' = pure () := fun _ _ => rfl
  simp [execOp, ha.ev h, ha.ev h', hg, binOp, Op.shift, Nat.min_eq_left hm, e, show ¬ (m : Int) < 0 by omega]
theorem y_shl {k' : IntKind} {m : Nat} (h : l.ev x = some (.int k p)) (h' : l.ev y = some (.int k' (m : Int))) (hm : m ≤ k.bits) : RunV P n l ⟨dst, .binOp .shl t x y t', ty, pos, aft, gd⟩ w (.int k (k.wrap (p * (2 : Int) ^ m))) w := fun a ha => by
  have hg : ∀ u u', eqGuard .shl t x y u u' = pure () := fun _ _ => rfl
  simp [execOp, ha.ev h, ha.ev h', hg, binOp, Op.shift, Nat.min_eq_left hm, show ¬ (m : Int) < 0 by omega]
theorem y_cmp {op : BinOp} {b : Bool} (ho : (binOp op t (.int k p) (.int k q)).run P w = .ok (.bool b) w) (hg : ∀ a : Act, Has n l a → (eqGuard op t x y (.int k p) (.int k q)).run P w = .ok () w) (h : l.ev x = some (.int k p)) (h' : l.ev y = some (.int k q)) :
    RunV P n l ⟨dst, .binOp op t x y t', ty, pos, aft, gd⟩ w (.bool b) w := fun a ha => by
  simp [execOp, ha.ev h, ha.ev h', hg a ha, ho]
theorem y_lss (h : l.ev x = some (.int k p)) (h' : l.ev y = some (.int k q)) : RunV P n l ⟨dst, .binOp .lss t x y t', ty, pos, aft, gd⟩ w (.bool (decide (p < q))) w :=
  y_cmp (by simp [binOp, Op.intCmp]) (fun _ _ => rfl) h h'
theorem y_leq (h : l.ev x = some (.int k p)) (h' : l.ev y = some (.int k q)) : RunV P n l ⟨dst, .binOp .leq t x y t', ty, pos, aft, gd⟩ w (.bool (decide (p ≤ q))) w :=
  y_cmp (by simp [binOp, Op.intCmp]) (fun _ _ => rfl) h h'
theorem y_gtr (h : l.ev x = some (.int k p)) (h' : l.ev y = some (.int k q)) : RunV P n l ⟨dst, .binOp .gtr t x y t', ty, pos, aft, gd⟩ w (.bool (decide (q < p))) w :=
  y_cmp (by simp [binOp, Op.intCmp]) (fun _ _ => rfl) h h'
theorem y_geq (h : l.ev x = some (.int k p)) (h' : l.ev y = some (.int k q)) : RunV P n l ⟨dst, .binOp .geq t x y t', ty, pos, aft, gd⟩ w (.bool (decide (q ≤ p))) w :=
  y_cmp (by simp [binOp, Op.intCmp]) (fun _ _ => rfl) h h'
end
section
variable {t t' : TypeId} {k k' : IntKind} {p q : Int}
theorem beq_dec (p q : Int) : (p == q) = decide (p = q) := by
  by_cases h : p = q <;> simp [h]
theorem y_eql (h : l.ev x = some (.int k p)) (h' : l.ev y = some (.int k q)) : RunV P n l ⟨dst, .binOp .eql t x y t', ty, pos, aft, gd⟩ w (.bool (decide (p = q))) w :=
  y_cmp (by simp [binOp, Op.intCmp, beq_dec]) (fun _ _ => by rw [eqGuard_at_int]; rfl) h h'
theorem y_neq (h : l.ev x = some (.int k p)) (h' : l.ev y = some (.int k q)) : RunV P n l ⟨dst, .binOp .neq t x y t', ty, pos, aft, gd⟩ w (.bool (!decide (p = q))) w :=
  y_cmp (by simp [binOp, Op.intCmp, bne, beq_dec]) (fun _ _ => by rw [eqGuard_at_int]; rfl) h h'
theorem y_op2 {op : BinOp} {u u' r : Value} (ho : (binOp op t u u').run P w = .ok r w) (hg : (eqGuard op t x y u u').run P w = .ok () w) (h : l.ev x = some u) (h' : l.ev y = some u') :
    RunV P n l ⟨dst, .binOp op t x y t', ty, pos, aft, gd⟩ w r w := fun a ha => by
  simp [execOp, ha.ev h, ha.ev h', hg, ho]
theorem beq_bytes (a b : ByteArray) : (a.toList == b.toList) = decide (a = b) := by
  by_cases h : a = b
  · subst h; simp
  · rw [decide_eq_false h, beq_eq_false_iff_ne]
    intro e
    apply h
    rw [ByteArray.toList_eq, ByteArray.toList_eq] at e
    obtain ⟨⟨x⟩⟩ := a
    obtain ⟨⟨y⟩⟩ := b
    simp at e
    rw [e]
variable {a b : ByteArray}
theorem y_seql (h : l.ev x = some (.string a)) (h' : l.ev y = some (.string b)) : RunV P n l ⟨dst, .binOp .eql t x y t', ty, pos, aft, gd⟩ w (.bool (decide (a = b))) w :=
  y_op2 (by simp [binOp, Op.stringOp, beq_bytes]) (by rw [eqGuard_at_string]; rfl) h h'
theorem y_sneq (h : l.ev x = some (.string a)) (h' : l.ev y = some (.string b)) : RunV P n l ⟨dst, .binOp .neq t x y t', ty, pos, aft, gd⟩ w (.bool (!decide (a = b))) w :=
  y_op2 (by simp [binOp, Op.stringOp, beq_bytes]) (by rw [eqGuard_at_string]; rfl) h h'
theorem y_slss (h : l.ev x = some (.string a)) (h' : l.ev y = some (.string b)) : RunV P n l ⟨dst, .binOp .lss t x y t', ty, pos, aft, gd⟩ w (.bool (Op.bytesLess a.toList b.toList)) w :=
  y_op2 (by simp [binOp, Op.stringOp]) (by rw [eqGuard_at_string]; rfl) h h'
theorem y_sgtr (h : l.ev x = some (.string a)) (h' : l.ev y = some (.string b)) : RunV P n l ⟨dst, .binOp .gtr t x y t', ty, pos, aft, gd⟩ w (.bool (!(Op.bytesLess a.toList b.toList || decide (a = b)))) w :=
  y_op2 (by simp [binOp, Op.stringOp, beq_bytes]) (by rw [eqGuard_at_string]; rfl) h h'
theorem y_sgeq (h : l.ev x = some (.string a)) (h' : l.ev y = some (.string b)) : RunV P n l ⟨dst, .binOp .geq t x y t', ty, pos, aft, gd⟩ w (.bool (!Op.bytesLess a.toList b.toList)) w :=
  y_op2 (by simp [binOp, Op.stringOp]) (by rw [eqGuard_at_string]; rfl) h h'
theorem y_sadd (h : l.ev x = some (.string a)) (h' : l.ev y = some (.string b)) (hs : a.size + b.size ≤ 9223372036854775807) : RunV P n l ⟨dst, .binOp .add t x y t', ty, pos, aft, gd⟩ w (.string (a ++ b)) w :=
  y_op2 (by simp only [binOp]; exact run_string_add_sum w a b hs) (by rw [eqGuard_at_string]; rfl) h h'
end
section
variable {t e : TypeId} {A : Option Addr} {m c : Nat} {s : ByteArray} {k k' : IntKind} {i j : Int} {ad : Addr}
theorem y_lenS (ht : P.underlying t = some (.slice e)) (h : l.ev x = some (.slice A m c)) : RunV P n l ⟨dst, .call ⟨.builtin .len, #[x], #[t]⟩, ty, pos, aft, gd⟩ w (.int .i64 m) w := fun a ha => by
  simp [execOp, resolve, invoke, builtin, Builtin.len_, ha.ev h, run_underlying ht, goInt]
theorem y_capS (ht : P.underlying t = some (.slice e)) (h : l.ev x = some (.slice A m c)) : RunV P n l ⟨dst, .call ⟨.builtin .cap, #[x], #[t]⟩, ty, pos, aft, gd⟩ w (.int .i64 c) w := fun a ha => by
  simp [execOp, resolve, invoke, builtin, Builtin.cap_, ha.ev h, run_underlying ht, goInt]
theorem y_lens (ht : P.underlying t = some .string) (h : l.ev x = some (.string s)) : RunV P n l ⟨dst, .call ⟨.builtin .len, #[x], #[t]⟩, ty, pos, aft, gd⟩ w (.int .i64 s.size) w := fun a ha => by
  simp [execOp, resolve, invoke, builtin, Builtin.len_, ha.ev h, run_underlying ht, goInt]
theorem y_min {t2 : Array TypeId} (h : l.ev x = some (.int k i)) (h' : l.ev y = some (.int k' j)) : RunV P n l ⟨dst, .call ⟨.builtin .min, #[x, y], t2⟩, ty, pos, aft, gd⟩ w (.int k (if j < i then j else i)) w := fun a ha => by
  simp [execOp, resolve, invoke, builtin, ha.ev h, ha.ev h', run_min_int2]
theorem y_max {t2 : Array TypeId} (h : l.ev x = some (.int k i)) (h' : l.ev y = some (.int k' j)) : RunV P n l ⟨dst, .call ⟨.builtin .max, #[x, y], t2⟩, ty, pos, aft, gd⟩ w (.int k (if j > i then j else i)) w := fun a ha => by
  simp [execOp, resolve, invoke, builtin, ha.ev h, ha.ev h', run_max_int2]
theorem y_conv {t2 : TypeId} (hs : (P.underlying t).isSome = true) (hd : P.underlying t2 = some (.int k')) (h : l.ev x = some (.int k i)) (hr : k'.wrap i = j) : RunV P n l ⟨dst, .convert t t2 x, ty, pos, aft, gd⟩ w (.int k' j) w := fun a ha => by
  obtain ⟨d, hd'⟩ := Option.isSome_iff_exists.1 hs
  simp [execOp, ha.ev h, convert, run_underlying hd', run_underlying hd, Conv.intToInt, hr]
/-- The address of an element. -/
theorem y_idxS {sz : Nat} (ht : P.underlying t = some (.slice e)) (hz : ∀ w, (sizeOf e).run P w = .ok sz w) (h : l.ev x = some (.slice (some ad) m c)) (h' : l.ev y = some (.int k i)) (h0 : 0 ≤ i) (h1 : i < (m : Int)) :
    RunV P n l ⟨dst, .indexAddr t x y, ty, pos, aft, gd⟩ w (.pointer (some (ad.add (i.toNat * sz)))) w := fun a ha => by
  simp [execOp, ha.ev h, ha.ev h', Instr.indexAt, asIntOf, run_underlying ht, hz, h0, h1]
theorem y_idxA {sz len : Nat} (ht : P.underlying t = some (.array len e)) (hz : ∀ w, (sizeOf e).run P w = .ok sz w) (h : l.ev x = some (.pointer (some ad))) (h' : l.ev y = some (.int k i)) (h0 : 0 ≤ i) (h1 : i < (len : Int)) :
    RunV P n l ⟨dst, .indexAddr t x y, ty, pos, aft, gd⟩ w (.pointer (some (ad.add (i.toNat * sz)))) w := fun a ha => by
  simp [execOp, ha.ev h, ha.ev h', Instr.indexAt, Instr.sureAddr, asIntOf, run_underlying ht, hz, h0, h1]
theorem y_idxs {q : Int} (ht : P.underlying t = some .string) (h : l.ev x = some (.string s)) (h' : l.ev y = some (.int k i)) (h0 : 0 ≤ i) (h1 : i.toNat < s.size) (hq : ((s[i.toNat]'h1).toNat : Int) = q) :
    RunV P n l ⟨dst, .index t x y, ty, pos, aft, gd⟩ w (.int .u8 q) w := fun a ha => by
  simp [execOp, ha.ev h, ha.ev h', Instr.index, asIntOf, run_underlying ht, h0, getElem?_pos s i.toNat h1, hq]
/-- The address of a field. -/
theorem y_fld {fs : Array Field} {f : Field} {j sz : Nat} (ht : P.underlying t = some (.struct fs)) (hf : fs[j]? = some f) (hz : ∀ w, (sizeOf f.type).run P w = .ok (sz + 1) w) (h : l.ev x = some (.pointer (some ad))) :
    RunV P n l ⟨dst, .fieldAddr t x j, ty, pos, aft, gd⟩ w (.pointer (some (ad.add f.offset))) w := fun a ha => by
  simp [execOp, ha.ev h, Instr.fieldAt, Instr.sureAddr, fieldPlace, run_underlying ht, hf, hz]
theorem y_mkfn {fn : Fn} {fs cs : List Operand} {us vs : List Value} (h : l.evs fs = some us) (h' : l.evs cs = some vs) : RunV P n l ⟨dst, .makeFunc fn fs.toArray cs.toArray, ty, pos, aft, gd⟩ w (.func fn us.toArray vs.toArray) w := fun a ha => by
  simp [execOp, Instr.makeFunc, ha.evs h, ha.evs h']
theorem y_build {ps : List (Nat × Operand)} {us : List (Nat × Value)} (h : l.evp ps = some us) (hb : (Instr.build t us.toArray).run P w = .ok v w) : RunV P n l ⟨dst, .build t ps.toArray, ty, pos, aft, gd⟩ w v w := fun a ha => by
  have := ha.evp h
  simp [execOp, this, hb]
/-- A part of a slice; lo, hi as numbers. -/
theorem y_sl_lh {sz lo hi : Nat} (ht : P.underlying t = some (.slice e)) (hz : ∀ w, (sizeOf e).run P w = .ok sz w) (h : l.ev x = some (.slice A m c)) (h1 : l.ev y = some (.int k (lo : Int))) (h2 : l.ev z = some (.int k' (hi : Int))) (h3 : lo ≤ hi) (h4 : hi ≤ c) :
    RunV P n l ⟨dst, .slice t x (some y) (some z) none, ty, pos, aft, gd⟩ w (.slice (if c = lo then A else A.map (·.add (lo * sz))) (hi - lo) (c - lo)) w := fun a ha => by
  simp [execOp, ha.ev h, ha.ev h1, ha.ev h2, Instr.sliceAt, Instr.slice, run_underlying ht, hz, Instr.sliceBounds, Instr.sliceBound, asIntOf, h3, h4]
theorem y_sl_h {sz hi : Nat} (ht : P.underlying t = some (.slice e)) (hz : ∀ w, (sizeOf e).run P w = .ok sz w) (h : l.ev x = some (.slice A m c)) (h2 : l.ev z = some (.int k' (hi : Int))) (h4 : hi ≤ c) :
    RunV P n l ⟨dst, .slice t x none (some z) none, ty, pos, aft, gd⟩ w (.slice A hi c) w := fun a ha => by
  simp [execOp, ha.ev h, ha.ev h2, Instr.sliceAt, Instr.slice, run_underlying ht, hz, Instr.sliceBounds, Instr.sliceBound, asIntOf, h4]
  intro _; cases A <;> simp [Addr.add]
theorem y_sl_l {sz lo : Nat} (ht : P.underlying t = some (.slice e)) (hz : ∀ w, (sizeOf e).run P w = .ok sz w) (h : l.ev x = some (.slice A m c)) (h2 : l.ev y = some (.int k' (lo : Int))) (h4 : lo ≤ m) :
    RunV P n l ⟨dst, .slice t x (some y) none none, ty, pos, aft, gd⟩ w (.slice (if c = lo then A else A.map (·.add (lo * sz))) (m - lo) (c - lo)) w := fun a ha => by
  simp [execOp, ha.ev h, ha.ev h2, Instr.sliceAt, Instr.slice, run_underlying ht, hz, Instr.sliceBounds, Instr.sliceBound, asIntOf, h4]
/-- A whole array as a slice. -/
theorem y_sl_arr {sz len : Nat} (ht : P.underlying t = some (.array len e)) (hz : ∀ w, (sizeOf e).run P w = .ok sz w) (h : l.ev x = some (.pointer (some ad))) :
    RunV P n l ⟨dst, .slice t x none none none, ty, pos, aft, gd⟩ w (.slice (some ad) len len) w := fun a ha => by
  simp [execOp, ha.ev h, Instr.sliceAt, Instr.sureAddr, run_underlying ht, hz, Instr.sliceBounds, Instr.sliceBound]
  intro _; simp [Addr.add]
/-- A part of a string. -/
theorem y_str_lh {lo hi : Nat} (ht : P.underlying t = some .string) (h : l.ev x = some (.string s)) (h1 : l.ev y = some (.int k (lo : Int))) (h2 : l.ev z = some (.int k' (hi : Int))) (h3 : lo ≤ hi) (h4 : hi ≤ s.size) :
    RunV P n l ⟨dst, .slice t x (some y) (some z) none, ty, pos, aft, gd⟩ w (.string (s.extract lo hi)) w := fun a ha => by
  simp [execOp, ha.ev h, ha.ev h1, ha.ev h2, Instr.sliceAt, Instr.slice, run_underlying ht, Instr.sliceBounds, Instr.sliceBound, asIntOf, h3, h4]
theorem y_str_h {hi : Nat} (ht : P.underlying t = some .string) (h : l.ev x = some (.string s)) (h2 : l.ev z = some (.int k' (hi : Int))) (h4 : hi ≤ s.size) :
    RunV P n l ⟨dst, .slice t x none (some z) none, ty, pos, aft, gd⟩ w (.string (s.extract 0 hi)) w := fun a ha => by
  simp [execOp, ha.ev h, ha.ev h2, Instr.sliceAt, Instr.slice, run_underlying ht, Instr.sliceBounds, Instr.sliceBound, asIntOf, h4]
theorem y_str_l {lo : Nat} (ht : P.underlying t = some .string) (h : l.ev x = some (.string s)) (h2 : l.ev y = some (.int k' (lo : Int))) (h4 : lo ≤ s.size) :
    RunV P n l ⟨dst, .slice t x (some y) none none, ty, pos, aft, gd⟩ w (.string (s.extract lo s.size)) w := fun a ha => by
  simp [execOp, ha.ev h, ha.ev h2, Instr.sliceAt, Instr.slice, run_underlying ht, Instr.sliceBounds, Instr.sliceBound, asIntOf, h4]
end

end
section

/-- Blocks of the call's own: number, cells, element type. -/
abbrev Bxs := List (Nat × List Value × TypeId)
def Bxs.at : Bxs → Nat → Option (Nat × List Value × TypeId)
  | [], _ => none
  | p :: _, 0 => some p
  | _ :: r, k + 1 => Bxs.at r k
def Bxs.put : Bxs → Nat → List Value → Bxs
  | [], _, _ => []
  | (B, _, T) :: r, 0, cs => (B, cs, T) :: r
  | p :: r, k + 1, cs => p :: Bxs.put r k cs
structure Bx (base : Nat) (w0 w : World) (l : Bxs) : Prop where
  below : Bel base w0 w
  le : base ≤ w.heap.size
  cell : ∀ p ∈ l, base ≤ p.1 ∧ w.heap[p.1]? = some (.cells p.2.1.toArray p.2.2 (0, 0))
  nodup : (l.map (·.1)).Nodup
/-- Nothing that was there has turned. -/
abbrev Ext (w w' : World) : Prop := Bel w.heap.size w w'
theorem Ext.refl (w : World) : Ext w w := Bel.refl _ _
theorem Ext.trans {a b c : World} (h : Ext a b) (k : Ext b c) : Ext a c := Bel.trans h (Bel.mono k h.size)
theorem Ext.drew (w : World) : Ext w w.drew := (Bel.refl _ _).drew
theorem Ext.alloc (w : World) (o : Obj) : Ext w (w.alloc o) := (Bel.refl _ _).alloc (Nat.le_refl _) o
theorem Bxs.at_mem : ∀ {l : Bxs} {i : Nat} {p}, l.at i = some p → p ∈ l
  | [], _, _, h => by simp [Bxs.at] at h
  | _ :: _, 0, _, h => by simp [Bxs.at] at h; subst h; simp
  | _ :: r, k + 1, _, h => by simp [Bxs.at] at h; exact List.mem_cons_of_mem _ (Bxs.at_mem h)
theorem Bxs.mem_at : ∀ {l : Bxs} {p}, p ∈ l → ∃ i, l.at i = some p
  | [], _, h => by cases h
  | q :: r, p, h => by
    rcases List.mem_cons.1 h with rfl | h
    · exact ⟨0, rfl⟩
    · obtain ⟨j, hj⟩ := Bxs.mem_at h; exact ⟨j + 1, hj⟩
theorem Bxs.put_ids : ∀ (l : Bxs) (i : Nat) (cs : List Value), (l.put i cs).map (·.1) = l.map (·.1)
  | [], _, _ => rfl
  | (B, c, T) :: r, 0, cs => rfl
  | p :: r, k + 1, cs => by simp [Bxs.put, Bxs.put_ids r k cs]
theorem Bxs.put_mem : ∀ {l : Bxs} {i : Nat} {cs : List Value} {B : Nat} {c : List Value} {T : TypeId}, l.at i = some (B, c, T) → ∀ {p}, p ∈ l.put i cs → p = (B, cs, T) ∨ ∃ j, j ≠ i ∧ l.at j = some p
  | [], _, _, _, _, _, h, _, _ => by simp [Bxs.at] at h
  | (B', c', T') :: r, 0, cs, B, c, T, h, p, hp => by
    simp [Bxs.at] at h
    obtain ⟨rfl, rfl, rfl⟩ := h
    simp [Bxs.put] at hp
    rcases hp with rfl | hp
    · exact .inl rfl
    · obtain ⟨j, hj⟩ : ∃ j, Bxs.at r j = some p := by
        exact Bxs.mem_at hp
      exact .inr ⟨j + 1, by omega, hj⟩
  | q :: r, k + 1, cs, B, c, T, h, p, hp => by
    simp [Bxs.at] at h
    simp [Bxs.put] at hp
    rcases hp with rfl | hp
    · exact .inr ⟨0, by omega, rfl⟩
    · rcases Bxs.put_mem h hp with h1 | ⟨j, h1, h2⟩
      · exact .inl h1
      · exact .inr ⟨j + 1, by omega, h2⟩
theorem Bxs.at_inj : ∀ {l : Bxs} (hn : (l.map (·.1)).Nodup) {i j : Nat} {p q}, l.at i = some p → l.at j = some q → p.1 = q.1 → i = j
  | [], _, _, _, _, _, h, _, _ => by simp [Bxs.at] at h
  | _ :: _, _, 0, 0, _, _, _, _, _ => rfl
  | a :: r, hn, 0, j + 1, p, q, h, h', e => by
    simp [Bxs.at] at h h'
    subst h
    simp only [List.map_cons, List.nodup_cons] at hn
    exact absurd (List.mem_map.2 ⟨q, Bxs.at_mem h', e.symm⟩) hn.1
  | a :: r, hn, i + 1, 0, p, q, h, h', e => by
    simp [Bxs.at] at h h'
    subst h'
    simp only [List.map_cons, List.nodup_cons] at hn
    exact absurd (List.mem_map.2 ⟨p, Bxs.at_mem h, e⟩) hn.1
  | a :: r, hn, i + 1, j + 1, p, q, h, h', e => by
    simp [Bxs.at] at h h'
    simp only [List.map_cons, List.nodup_cons] at hn
    have := Bxs.at_inj hn.2 h h' e
    omega
section
variable {base : Nat} {w0 w w' : World} {bl : Bxs}
theorem Bx.start (w : World) {base : Nat} (h : base ≤ w.heap.size) : Bx base w w [] := ⟨Bel.refl _ _, h, fun _ h => (List.not_mem_nil h).elim, List.nodup_nil⟩
theorem Bx.get (hb : Bx base w0 w bl) {i B : Nat} {cs : List Value} {T : TypeId} (hi : bl.at i = some (B, cs, T)) : base ≤ B ∧ w.heap[B]? = some (.cells cs.toArray T (0, 0)) := hb.cell _ (Bxs.at_mem hi)
theorem Bx.lt (hb : Bx base w0 w bl) {p} (hp : p ∈ bl) : p.1 < w.heap.size := (Array.getElem?_eq_some_iff.1 (hb.cell p hp).2).1
theorem Bx.ext (hb : Bx base w0 w bl) (h : Ext w w') : Bx base w0 w' bl :=
  ⟨hb.below.trans (h.mono hb.le), Nat.le_trans hb.le h.size, fun p hp => ⟨(hb.cell p hp).1, (h.block _ (hb.lt hp)).trans (hb.cell p hp).2⟩, hb.nodup⟩
theorem Bx.drew (hb : Bx base w0 w bl) : Bx base w0 w.drew bl := hb.ext (Ext.drew w)
theorem Bx.alloc (hb : Bx base w0 w bl) (cs : List Value) (T : TypeId) : Bx base w0 (w.alloc (.cells cs.toArray T)) ((w.heap.size, cs, T) :: bl) := by
  have h1 := hb.ext (Ext.alloc w (.cells cs.toArray T))
  refine ⟨h1.below, h1.le, fun p hp => ?_, ?_⟩
  · rcases List.mem_cons.1 hp with rfl | hp
    · exact ⟨hb.le, heap_alloc_new w _⟩
    · exact h1.cell p hp
  · simp only [List.map_cons, List.nodup_cons]
    refine ⟨fun hm => ?_, hb.nodup⟩
    obtain ⟨p, hp, e⟩ := List.mem_map.1 hm
    have := hb.lt hp
    omega
theorem Bx.drop (hb : Bx base w0 w bl) {bl' : Bxs} (h : List.Sublist bl' bl) : Bx base w0 w bl' :=
  ⟨hb.below, hb.le, fun p hp => hb.cell p (h.subset hp), (h.map _).nodup hb.nodup⟩
theorem Bx.setRow (hb : Bx base w0 w bl) {i B : Nat} {cs cs' : List Value} {T : TypeId} (hi : bl.at i = some (B, cs, T)) : Bx base w0 (w.setRow B cs'.toArray) (bl.put i cs') := by
  obtain ⟨hB, hc⟩ := hb.get hi
  have hs : (w.setRow B cs'.toArray).heap.size = w.heap.size := by simp [World.setRow]
  have ho : ∀ k, k ≠ B → (w.setRow B cs'.toArray).heap[k]? = w.heap[k]? := fun k hk => by
    simp only [World.setRow, Array.getElem?_modify, if_neg (Ne.symm hk)]
  refine ⟨hb.below.trans ⟨⟨rfl, rfl, rfl, by rw [hs]; exact Nat.le_refl _, fun k hk => ho k (by omega)⟩, Nat.le_refl _⟩, by rw [hs]; exact hb.le, fun p hp => ?_, by rw [Bxs.put_ids]; exact hb.nodup⟩
  rcases Bxs.put_mem hi hp with rfl | ⟨j, hj, hp'⟩
  · exact ⟨hB, setRow_heap w B _ _ T _ hc⟩
  · have hne : p.1 ≠ B := fun e => hj (Bxs.at_inj hb.nodup hp' hi e)
    rw [ho _ hne]
    exact hb.cell p (Bxs.at_mem hp')
/-- Nothing but block B has turned. -/
structure Only (B : Nat) (w w' : World) : Prop where
  size : w'.heap.size = w.heap.size
  block : ∀ k, k ≠ B → w'.heap[k]? = w.heap[k]?
theorem Only.setRow (w : World) (B : Nat) (cs : Array Value) : Only B w (w.setRow B cs) :=
  ⟨by simp [World.setRow], fun k hk => by simp only [World.setRow, Array.getElem?_modify, if_neg (Ne.symm hk)]⟩
end

/-! ### Reading -/
def LoadsV (P : Program) (w : World) (t : TypeId) (p : Addr) (v : Value) : Prop := (loadVar t p).run P w = .ok v w
/-- These cells lie from p on. -/
def At (w : World) (p : Addr) (cs : List Value) : Prop := ∀ j v, cs[j]? = some v → w.cell? (p.add j) = some v
theorem At.ext {w w' : World} {p : Addr} {cs : List Value} (h : At w p cs) (he : Ext w w') : At w' p cs := fun j v hv => by
  have h1 := h j v hv
  rw [he.cell (World.block_lt_of_cell? w _ h1)]; exact h1
theorem At.below {base : Nat} {w w' : World} {p : Addr} {cs : List Value} (h : At w p cs) (he : Bel base w w') (hp : p.block < base) : At w' p cs := fun j v hv => by
  have h1 := h j v hv
  rw [he.cell (p := p.add j) (by unfold Addr.add; split <;> exact hp)]; exact h1
variable {P : Program} {n : Nat} {l : Fr} {w w' w0 : World} {Q : Exit → Act → World → Prop}
theorem At.ld1 {t : TypeId} {p : Addr} {cs : List Value} (hA : ∀ w, (isAgg t).run P w = .ok false w) (h : At w p cs) (o : Nat) {v : Value} (hv : cs[o]? = some v) : LoadsV P w t (p.add o) v := by
  have := h o v hv
  simp [LoadsV, loadVar, hA, run_load, this]
theorem At.ld0 {t : TypeId} {p : Addr} {cs : List Value} (hA : ∀ w, (isAgg t).run P w = .ok false w) (h : At w p cs) {v : Value} (hv : cs[0]? = some v) : LoadsV P w t p v := by
  have := h 0 v hv
  rw [show p.add 0 = p from by simp [Addr.add]] at this
  simp [LoadsV, loadVar, hA, run_load, this]
theorem At.ldk {t : TypeId} {p : Addr} {cs : List Value} {k : Nat} (hA : ∀ w, (isAgg t).run P w = .ok true w) (hz : ∀ w, (sizeOf t).run P w = .ok k w) (h : At w p cs) (hk : cs.length = k) : LoadsV P w t p (.agg cs.toArray) := by
  have := run_loadCells_list (P := P) (w := w) p cs h
  subst hk
  simp [LoadsV, loadVar, hA, hz, this]
theorem At.sub {p : Addr} {cs : List Value} (h : At w p cs) (hs : p.spot = none) (o k : Nat) : At w (p.add o) ((cs.drop o).take k) := fun j v hv => by
  rw [List.getElem?_take] at hv
  split at hv
  · rw [List.getElem?_drop] at hv
    have := h (o + j) v hv
    have e : (p.add o).add j = p.add (o + j) := by
      unfold Addr.add
      by_cases h0 : o = 0
      · subst h0; simp
      · by_cases h1 : j = 0
        · subst h1; simp [h0]
        · simp [h0, h1, Nat.add_assoc]
    rw [e]; exact this
  · cases hv
theorem Bx.at0 {base : Nat} {bl : Bxs} (hb : Bx base w0 w bl) (i : Nat) {B : Nat} {cs : List Value} {T : TypeId} (hi : bl.at i = some (B, cs, T)) : At w ⟨B, 0, none⟩ cs := fun j v hv => by
  obtain ⟨_, hc⟩ := hb.get hi
  rw [show (⟨B, 0, none⟩ : Addr).add j = ⟨B, j, none⟩ from by unfold Addr.add; split <;> simp_all]
  simp [World.cell?, hc, hv]
variable {ops rest : List Oper} {dst : Option Tmp} {ty : TypeId} {pos : String} {aft : Array Edge} {gd : Option (Nat × Bool)} {v : Value}
variable {x y z : Operand} {t T : TypeId} {base : Nat} {bl : Bxs} {d : Nat}
theorem y_load {p : Addr} (h : l.ev x = some (.pointer (some p))) (hl : LoadsV P w t p v) : RunV P n l ⟨dst, .load t x, ty, pos, aft, gd⟩ w v w := fun a ha => by
  unfold LoadsV at hl
  simp [execOp, ha.ev h, Instr.loadAt, Instr.sureAddr, hl]

/-! ### Making and writing -/
theorem WL.box (hb : Bx base w0 w bl) {cs : List Value} (h : l.ev x = some v) (hc : v.cells = cs.toArray) (hg : want ops l gd = some true) (hn : Nat.blt d n = true)
    (k : ∀ B w', Bx base w0 w' ((B, cs, T) :: bl) → Ext w w' → B = w.heap.size → WL P n ops Q rest ((d, .pointer (some ⟨B, 0, none⟩)) :: l) w') : WL P n ops Q (⟨some d, .box T x, ty, pos, aft, gd⟩ :: rest) l w :=
  WL.val (v := .pointer (some ⟨w.heap.size, 0, none⟩)) (w' := w.alloc (.cells cs.toArray T)) (fun a ha => by simp [execOp, ha.ev h, Instr.box, newVar, newRow, hc]) hg rfl hn
    (k _ _ (hb.alloc cs T) (Ext.alloc w _) rfl)
theorem WL.alloc (hb : Bx base w0 w bl) {cs : List Value} (hz : ∀ w, (zeroValue T).run P w = .ok v w) (hc : v.cells = cs.toArray) (hg : want ops l gd = some true) (hn : Nat.blt d n = true)
    (k : ∀ B w', Bx base w0 w' ((B, cs, T) :: bl) → Ext w w' → B = w.heap.size → WL P n ops Q rest ((d, .pointer (some ⟨B, 0, none⟩)) :: l) w') : WL P n ops Q (⟨some d, .alloc T, ty, pos, aft, gd⟩ :: rest) l w :=
  WL.val (v := .pointer (some ⟨w.heap.size, 0, none⟩)) (w' := w.alloc (.cells cs.toArray T)) (fun a ha => by simp [execOp, Instr.alloc, hz, newVar, newRow, hc]) hg rfl hn
    (k _ _ (hb.alloc cs T) (Ext.alloc w _) rfl)
theorem WL.mkslice (hb : Bx base w0 w bl) {len : Nat} {ps : List (Nat × Operand)} {us : List (Nat × Value)} {cs : List Value} (h : l.evp ps = some us)
    (hr : ∀ w, (Instr.buildSlice t len us.toArray).run P w = .ok (.slice (some ⟨w.heap.size, 0, none⟩) len len) (w.alloc (.cells cs.toArray T))) (hg : want ops l gd = some true) (hn : Nat.blt d n = true)
    (k : ∀ B w', Bx base w0 w' ((B, cs, T) :: bl) → Ext w w' → B = w.heap.size → WL P n ops Q rest ((d, .slice (some ⟨B, 0, none⟩) len len) :: l) w') : WL P n ops Q (⟨some d, .buildSlice t len ps.toArray, ty, pos, aft, gd⟩ :: rest) l w :=
  WL.val (v := .slice (some ⟨w.heap.size, 0, none⟩) len len) (w' := w.alloc (.cells cs.toArray T)) (fun a ha => by have := ha.evp h; simp [execOp, this, hr]) hg rfl hn
    (k _ _ (hb.alloc cs T) (Ext.alloc w _) rfl)
def ovw (cs : List Value) (o : Nat) (vs : List Value) : List Value := cs.take o ++ vs ++ cs.drop (o + vs.length)
theorem WL.skip {o : Oper} (hr : ∀ a, Has n l a → (execOp a.eval ⟨none, o.op, o.type, o.pos, o.after, o.guard⟩).run P w = .ok .skip w') (hg : want ops l o.guard = some true) (hd : o.dst = none) (k : WL P n ops Q rest l w') : WL P n ops Q (o :: rest) l w := by
  intro a ha
  unfold wpList
  rw [if_pos (want_spec ha hg)]
  refine .inl ?_
  unfold Oper.wp
  obtain ⟨dst, op, ty, pos, aft, gd⟩ := o
  subst hd
  rw [hr a ha]
  exact k _ ha
theorem run_storeAt {B off : Nat} {cs vs : List Value} {T : TypeId} {k : Nat} (hc : w.heap[B]? = some (.cells cs.toArray T (0, 0))) (hz : ∀ w, (sizeOf t).run P w = .ok k w) (hv : v.cells = vs.toArray) (hk : vs.length = k) (hf : off + vs.length ≤ cs.length)
    (h1 : ∀ u ∈ vs, u.oneCell' = true) : (Instr.storeAt t (.pointer (some ((⟨B, 0, none⟩ : Addr).add off))) v).run P w = .ok () (w.setRow B (ovw cs off vs).toArray) := by
  have e : (⟨B, 0, none⟩ : Addr).add off = ⟨B, off, none⟩ := by unfold Addr.add; split <;> simp_all
  have := run_storeCells_at P B off T vs 0 cs.toArray w hc (by simpa using hf) h1
  simp only [Nat.add_zero] at this
  subst hk
  simp [Instr.storeAt, Instr.sureAddr, e, storeVar, hz, hv, this, ovw]
/-- A store into block number i of the list. -/
theorem WL.store (hb : Bx base w0 w bl) (i off : Nat) {B : Nat} {cs vs : List Value} {k : Nat} (hx : l.ev x = some (.pointer (some ((⟨B, 0, none⟩ : Addr).add off)))) (hy : l.ev y = some v) (hi : bl.at i = some (B, cs, T)) (hz : ∀ w, (sizeOf t).run P w = .ok k w)
    (hv : v.cells = vs.toArray) (hk : vs.length = k) (hf : Nat.ble (off + vs.length) cs.length = true) (h1 : ∀ u ∈ vs, u.oneCell' = true) (hg : want ops l gd = some true)
    (kk : ∀ w', Bx base w0 w' (bl.put i (ovw cs off vs)) → Only B w w' → WL P n ops Q rest l w') : WL P n ops Q (⟨none, .store t x y, ty, pos, aft, gd⟩ :: rest) l w :=
  WL.skip (w' := w.setRow B (ovw cs off vs).toArray) (fun a ha => by
    have := run_storeAt (P := P) (w := w) (t := t) (v := v) (off := off) (hb.get hi).2 hz hv hk (by simpa using hf) h1
    simp [execOp, ha.ev hx, ha.ev hy, this]) hg rfl (kk _ (hb.setRow hi) (Only.setRow _ _ _))
/-- A store of a whole block. -/
theorem WL.storeW (hb : Bx base w0 w bl) (i : Nat) {B : Nat} {cs vs : List Value} {k : Nat} (hx : l.ev x = some (.pointer (some ⟨B, 0, none⟩))) (hy : l.ev y = some v) (hi : bl.at i = some (B, cs, T)) (hz : ∀ w, (sizeOf t).run P w = .ok k w)
    (hv : v.cells = vs.toArray) (hk : vs.length = k) (hf : cs.length = vs.length) (h1 : ∀ u ∈ vs, u.oneCell' = true) (hg : want ops l gd = some true)
    (kk : ∀ w', Bx base w0 w' (bl.put i vs) → Only B w w' → WL P n ops Q rest l w') : WL P n ops Q (⟨none, .store t x y, ty, pos, aft, gd⟩ :: rest) l w :=
  WL.skip (w' := w.setRow B vs.toArray) (fun a ha => by
    have e0 : (⟨B, 0, none⟩ : Addr).add 0 = ⟨B, 0, none⟩ := by simp [Addr.add]
    have := run_storeAt (P := P) (w := w) (t := t) (v := v) (off := 0) (hb.get hi).2 hz hv hk (by omega) h1
    rw [e0] at this
    have eo : ovw cs 0 vs = vs := by simp [ovw, hf]
    rw [eo] at this
    simp [execOp, ha.ev hx, ha.ev hy, this]) hg rfl (kk _ (hb.setRow hi) (Only.setRow _ _ _))
/-- A part. -/
theorem part1 {e : TypeId} {cs : List Value} {o : Nat} (hA : ∀ w, (isAgg e).run P w = .ok false w) (hv : cs[o]? = some v) : (part e cs.toArray o).run P w = .ok v w := by
  simp [part, hA, hv]

/-! ### Calls -/
theorem WL.call {f : FuncId} {os : List Operand} {ts : Array TypeId} {vs : List Value} {Φ : Value → World → Prop} (hc : Calls P f vs.toArray w (Ret Φ)) (he : ∀ (args : Array Value) (w : World), (callFunc f args).run P w = .ok (.enter f args) w) (ha : l.evs os = some vs)
    (hg : want ops l gd = some true) (hn : Nat.blt d n = true) (k : ∀ v w', Φ v w' → WL P n ops Q rest ((d, v) :: l) w') : WL P n ops Q (⟨some d, .call ⟨.value (.func f), os.toArray, ts⟩, ty, pos, aft, gd⟩ :: rest) l w := by
  intro a hh
  unfold wpList
  rw [if_pos (want_spec hh hg)]
  refine .inl ?_
  have h1 := hh.evs ha
  have h2 : a.eval (.func f) = .func (.func f) #[] #[] := rfl
  unfold Oper.wp
  simp only [execOp, resolve, h2, Deferred.ofValue, invoke, Sem.run_bind, Sem.run_pure, Result.andThen_ok, List.map_toArray, h1, he, Array.empty_append, Array.append_empty]
  show Calls P f vs.toArray w _
  refine hc.mono fun e w' ⟨v, hv, hΦ⟩ => ?_
  subst hv
  exact k v w' hΦ _ (hh.put hn v)
/-- A call by a function value. -/
theorem WL.callv {f : FuncId} {o : Operand} {os : List Operand} {ts : Array TypeId} {vs cs us : List Value} {Φ : Value → World → Prop} (hc : Calls P f us.toArray w (Ret Φ)) (ho : l.ev o = some (.func (.func f) #[] cs.toArray)) (he : ∀ (args : Array Value) (w : World), (callFunc f args).run P w = .ok (.enter f args) w) (ha : l.evs os = some vs) (has : vs ++ cs = us)
    (hg : want ops l gd = some true) (hn : Nat.blt d n = true) (k : ∀ v w', Φ v w' → WL P n ops Q rest ((d, v) :: l) w') : WL P n ops Q (⟨some d, .call ⟨.value o, os.toArray, ts⟩, ty, pos, aft, gd⟩ :: rest) l w := by
  subst has
  intro a hh
  unfold wpList
  rw [if_pos (want_spec hh hg)]
  refine .inl ?_
  have h1 := hh.evs ha
  unfold Oper.wp
  simp only [execOp, resolve, hh.ev ho, Deferred.ofValue, invoke, Sem.run_bind, Sem.run_pure, Result.andThen_ok, List.map_toArray, h1, he, Array.empty_append, List.append_toArray]
  show Calls P f (vs ++ cs).toArray w _
  refine hc.mono fun e w' ⟨v, hv, hΦ⟩ => ?_
  subst hv
  exact k v w' hΦ _ (hh.put hn v)
/-- A result that lies in a block. -/
theorem KQ.retc {fn : Func} {R : Ending → World → Prop} {s : Nat} {p : Addr} (hr : fn.results = #[.cell s t]) (hs : l.get s = some (.pointer (some p))) (hl : LoadsV P w t p v) (h : R (.returned v) w) : KQ n (bodyPost P fn R) .ret l w := by
  intro a ha
  refine ⟨ha.defers, v, ?_, h⟩
  unfold LoadsV at hl
  simp [results, hr, Array.getD_eq_getD_getElem?, ha.get _ _ hs, hl, asAddr]
theorem KQ.retct {fn : Func} {R : Ending → World → Prop} {s u : Nat} {p : Addr} {x : Value} (hr : fn.results = #[.cell s t, .tmp u]) (hs : l.get s = some (.pointer (some p))) (hl : LoadsV P w t p v) (hx : l.get u = some x) (h : R (.returned (.tuple #[v, x])) w) : KQ n (bodyPost P fn R) .ret l w := by
  intro a ha
  refine ⟨ha.defers, _, ?_, h⟩
  unfold LoadsV at hl
  simp [results, hr, Array.getD_eq_getD_getElem?, ha.get _ _ hs, ha.get _ _ hx, hl, asAddr]
theorem KQ.retcc {fn : Func} {R : Ending → World → Prop} {s s' : Nat} {p p' : Addr} {t' : TypeId} {x : Value} (hr : fn.results = #[.cell s t, .cell s' t']) (hs : l.get s = some (.pointer (some p))) (hl : LoadsV P w t p v) (hs' : l.get s' = some (.pointer (some p'))) (hl' : LoadsV P w t' p' x) (h : R (.returned (.tuple #[v, x])) w) : KQ n (bodyPost P fn R) .ret l w := by
  intro a ha
  refine ⟨ha.defers, _, ?_, h⟩
  unfold LoadsV at hl hl'
  simp [results, hr, Array.getD_eq_getD_getElem?, ha.get _ _ hs, ha.get _ _ hs', hl, hl', asAddr]

end
section
variable {P : Program} {n : Nat} {l : Fr} {w w' w0 : World} {Q : Exit → Act → World → Prop} {C : World → Prop} {K : Act → Prop}
variable {ops rest : List Oper} {dst : Option Tmp} {ty : TypeId} {pos : String} {aft : Array Edge} {gd : Option (Nat × Bool)} {v : Value} {o : Oper} {d : Nat}
/-- The walk of a region whose operations turn nothing that was there: in the text's order, over a class of worlds. -/
def QL (P : Program) (n : Nat) (ops : List Oper) (C : World → Prop) (K : Act → Prop) (rest : List Oper) (l : Fr) : Prop := ∀ a, Has n l a → wpQuiet P ops.toArray C K rest a
theorem QL.val (hr : ∀ w, C w → RunV P n l o w v w) (hg : want ops l o.guard = some true) (hd : o.dst = some d) (hn : Nat.blt d n = true) (k : QL P n ops C K rest ((d, v) :: l)) : QL P n ops C K (o :: rest) l := by
  intro a ha
  unfold wpQuiet
  rw [if_pos (want_spec ha hg)]
  refine ⟨v, fun w hw => ?_, ?_⟩
  · unfold Oper.quietAt
    rw [hr w hw a ha]
    exact ⟨rfl, rfl⟩
  · rw [hd]
    exact k _ (ha.put hn v)
theorem QL.off (hg : want ops l o.guard = some false) (hd : o.dst = some d) (hn : Nat.blt d n = true) (k : QL P n ops C K rest ((d, undef) :: l)) : QL P n ops C K (o :: rest) l := by
  intro a ha
  unfold wpQuiet
  rw [if_neg (by rw [want_spec ha hg]; decide), hd]
  exact k _ (ha.put hn undef)
theorem QL.call {f : FuncId} {os : List Operand} {ts : Array TypeId} {vs : List Value} (he : ∀ (args : Array Value) (w : World), (callFunc f args).run P w = .ok (.enter f args) w) (ha : l.evs os = some vs)
    (hc : ∀ w, C w → Calls P f vs.toArray w (Ret fun u w' => u = v ∧ C w')) (hg : want ops l gd = some true) (hn : Nat.blt d n = true) (k : QL P n ops C K rest ((d, v) :: l)) : QL P n ops C K (⟨some d, .call ⟨.value (.func f), os.toArray, ts⟩, ty, pos, aft, gd⟩ :: rest) l := by
  intro a hh
  unfold wpQuiet
  rw [if_pos (want_spec hh hg)]
  refine ⟨v, fun w hw => ?_, k _ (hh.put hn v)⟩
  have h1 := hh.evs ha
  have h2 : a.eval (.func f) = .func (.func f) #[] #[] := rfl
  unfold Oper.quietAt
  simp only [execOp, resolve, h2, Deferred.ofValue, invoke, Sem.run_bind, Sem.run_pure, Result.andThen_ok, List.map_toArray, h1, he, Array.empty_append, Array.append_empty]
  refine ⟨rfl, (hc w hw).mono fun e w' ⟨u, hu, e1, hC⟩ => ?_⟩
  subst e1
  exact ⟨hu, hC⟩
theorem QL.callv {f : FuncId} {o : Operand} {os : List Operand} {ts : Array TypeId} {vs cs us : List Value} (ho : l.ev o = some (.func (.func f) #[] cs.toArray)) (he : ∀ (args : Array Value) (w : World), (callFunc f args).run P w = .ok (.enter f args) w) (ha : l.evs os = some vs)
    (hc : ∀ w, C w → Calls P f us.toArray w (Ret fun u w' => u = v ∧ C w')) (has : vs ++ cs = us) (hg : want ops l gd = some true) (hn : Nat.blt d n = true) (k : QL P n ops C K rest ((d, v) :: l)) : QL P n ops C K (⟨some d, .call ⟨.value o, os.toArray, ts⟩, ty, pos, aft, gd⟩ :: rest) l := by
  subst has
  intro a hh
  unfold wpQuiet
  rw [if_pos (want_spec hh hg)]
  refine ⟨v, fun w hw => ?_, k _ (hh.put hn v)⟩
  have h1 := hh.evs ha
  unfold Oper.quietAt
  simp only [execOp, resolve, hh.ev ho, Deferred.ofValue, invoke, Sem.run_bind, Sem.run_pure, Result.andThen_ok, List.map_toArray, h1, he, Array.empty_append, List.append_toArray]
  refine ⟨rfl, (hc w hw).mono fun e w' ⟨u, hu, e1, hC⟩ => ?_⟩
  subst e1
  exact ⟨hu, hC⟩
theorem QL.split (t : Nat) {b : Bool} (h : l.get t = some (.bool b)) (ht : b = true → QL P n ops C K rest ((t, .bool true) :: l)) (hf : b = false → QL P n ops C K rest ((t, .bool false) :: l)) : QL P n ops C K rest l := by
  intro a ha
  have hs : ∀ c : Bool, b = c → Has n ((t, .bool c) :: l) a := fun c hc => ⟨ha.size, ha.defers, fun u x hu => by
    rw [Fr.get_cons] at hu
    by_cases e : t = u
    · subst e; simp at hu; subst hu; subst hc; exact ha.get _ _ h
    · rw [if_neg e] at hu; exact ha.get _ _ hu⟩
  cases hb : b with
  | true => exact ht hb a (hs true hb)
  | false => exact hf hb a (hs false hb)
theorem QL.as (t : Nat) {u v : Value} (h : l.get t = some u) (e : u = v) (k : QL P n ops C K rest ((t, v) :: l)) : QL P n ops C K rest l := by
  intro a ha
  refine k a ⟨ha.size, ha.defers, fun x y hx => ?_⟩
  rw [Fr.get_cons] at hx
  by_cases e' : t = x
  · subst e'; simp at hx; subst hx; subst e; exact ha.get _ _ h
  · rw [if_neg e'] at hx; exact ha.get _ _ hx
theorem QL.done (h : ∀ a, Has n l a → K a) : QL P n ops C K [] l := fun a ha => wpQuiet_nil (h a ha)
theorem W.regionQ {id : Nat} (hm : P.follows .mixedOrders = true) (hB : Region.lexB .any ops.toArray = true)
    (h : QL P n ops (Ext w) (fun a => ∀ w', Ext w w' → Q .normal a w') ops l) : W P n (.region id ops.toArray true) Q l w := fun a ha =>
  wp_region_quiet (C := Ext w) hm hB (Ext.drew w) (by simpa using h a ha)
theorem QL.end_ (h : ∀ w', Ext w w' → KQ n Q .normal l w') : QL P n ops C (fun a => ∀ w', Ext w w' → Q .normal a w') [] l := QL.done fun a ha w' hw => h w' hw a ha
theorem quiet {f : FuncId} {vs : Array Value} (hw : Ext w w') (h : Calls P f vs w' (Ret fun u w'' => u = v ∧ Ext w' w'')) : Calls P f vs w' (Ret fun u w'' => u = v ∧ Ext w w'') :=
  h.mono fun e w'' ⟨u, h1, h2, h3⟩ => ⟨u, h1, h2, hw.trans h3⟩
theorem allOne {vs : List Value} (h : vs.all (·.oneCell') = true) : ∀ u ∈ vs, u.oneCell' = true := by
  simpa using h

end
section
/-- Does j wait for i, by way of others? -/
def anc (ops : Array Oper) : Nat → Nat → Nat → Bool
  | 0, _, _ => false
  | f + 1, j, i => match ops[j]? with
    | none => false
    | some o => o.after.any (fun e => Region.binds .any e && e.on == i) || o.after.any fun e => Region.binds .any e && anc ops f e.on i
/-- What has come up had all come up that it waits for. -/
def Shut (ops : Array Oper) (listed : Array Bool) : Prop := ∀ j o, ops[j]? = some o → listed.getD j false = true → ∀ e ∈ o.after, Region.binds .any e = true → listed.getD e.on false = true
theorem Shut.anc {ops : Array Oper} {listed : Array Bool} (hs : Shut ops listed) {i : Nat} : ∀ (f j : Nat) (o : Oper), ops[j]? = some o → (∀ e ∈ o.after, Region.binds .any e = true → listed.getD e.on false = true) → anc ops f j i = true → listed.getD i false = true
  | 0, _, _, _, _, h => by simp [X.anc] at h
  | f + 1, j, o, ho, hall, h => by
    simp only [X.anc, ho, Bool.or_eq_true] at h
    rcases h with h | h
    · obtain ⟨e, he, hb⟩ := Array.any_eq_true'.1 h
      simp only [Bool.and_eq_true, beq_iff_eq] at hb
      rw [← hb.2]
      exact hall e he hb.1
    · obtain ⟨e, he, hb⟩ := Array.any_eq_true'.1 h
      simp only [Bool.and_eq_true] at hb
      have hl := hall e he hb.1
      cases ho' : ops[e.on]? with
      | none =>
        have hb2 := hb.2
        cases f with
        | zero => simp [X.anc] at hb2
        | succ f => simp [X.anc, ho'] at hb2
      | some o' => exact Shut.anc hs f e.on o' ho' (hs e.on o' ho' hl) hb.2
theorem Shut.set {ops : Array Oper} {listed : Array Bool} (hs : Shut ops listed) {i : Nat} (hi : i ∈ Region.ready .any ops listed) : Shut ops (listed.setIfInBounds i true) := by
  obtain ⟨_, oi, hoi, hall⟩ := mem_ready.1 hi
  intro j oj hj hl e he hb
  rcases Nat.decEq i j with hij | hij
  · rw [getD_set_ne false hij] at hl
    exact getD_set_true (hs j oj hj hl e he hb)
  · subst hij
    have : oj = oi := Option.some.inj (hj.symm.trans hoi)
    subst this
    exact getD_set_true (hall e he hb)
/-- Whatever order is picked from here on; behind each of the first N operations the memory is of the class C. -/
def wpD (P : Program) (ops : Array Oper) (Q : Exit → Act → World → Prop) (C : World → Prop) (N : Nat → Bool) : Nat → Array Bool → Act → World → Prop
  | 0, listed, a, w => Region.ready .any ops listed = [] ∧ Q .normal a w
  | fuel + 1, listed, a, w => (Region.ready .any ops listed = [] → Q .normal a w) ∧
    ∀ i ∈ Region.ready .any ops listed, wpOp P ops Q i (fun a' w' => (N i = true → C w') ∧ wpD P ops Q C N fuel (listed.setIfInBounds i true) a' w') a w
section
variable {P : Program} {ops : Array Oper} {Q : Exit → Act → World → Prop} {C S : World → Prop} {N : Nat → Bool}
theorem wpAny_of_D : ∀ (fuel : Nat) (listed : Array Bool) (a : Act) (w : World), wpD P ops Q C N fuel listed a w → wpAny P .any ops Q fuel listed a w
  | 0, _, _, _, h => h
  | fuel + 1, _, _, _, h => ⟨h.1, fun i hi => wpOp_mono (fun a' w' h' => wpAny_of_D fuel _ a' w' h'.2) (h.2 i hi)⟩
theorem wpD_first {i : Nat} {oi : Oper} {v : Value} (hi : ops[i]? = some oi) (hSC : ∀ w, N i = true → C w → S w) (hS : N i = true ∨ ∀ w, S w)
    (hsel : ∀ (j : Nat) (o : Oper) cs b, ops[j]? = some o → o.op ≠ .select cs b) (hQ : ∀ c a w, Q (.panic c) (a.put oi.dst v) w → Q (.panic c) a w) :
    ∀ (fuel : Nat) (listed : Array Bool) (a : Act) (w : World), (∀ t o, N t = false → listed.getD t true = false → ops[t]? = some o → N i = true → anc ops 6 t i = true) → Shut ops listed →
      (∀ j oj, ops[j]? = some oj → j ≠ i → listed.getD j true = false → (∀ e ∈ oj.after, Region.binds .any e = true → e.on ≠ i) → oi.apart ops oj = true) →
      i ∈ Region.ready .any ops listed → YieldsIf P ops S oi v a → (N i = true → C w) →
      wpD P ops Q C N fuel (listed.setIfInBounds i true) (a.put oi.dst v) w → wpD P ops Q C N (fuel + 1) listed a w := by
  have hSw : ∀ w, (N i = true → C w) → S w := fun w h => hS.elim (fun hi => hSC w hi (h hi)) (fun h => h w)
  intro fuel
  induction fuel with
  | zero =>
    intro listed a w _ _ _ hr hy hC H
    refine ⟨fun h => (by rw [h] at hr; cases hr), fun j hj => ?_⟩
    rcases Nat.decEq j i with hji | hji
    · have := ready_mono hj hji
      rw [H.1] at this
      cases this
    · subst hji
      exact hy.wpOp hi (hSw w hC) ⟨hC, H⟩
  | succ fuel ih =>
    intro listed a w hN hsh hfree hr hy hC H
    refine ⟨fun h => (by rw [h] at hr; cases hr), fun j hj => ?_⟩
    rcases Nat.decEq j i with hji | hji
    · have hnext := H.2 j (ready_mono hj hji)
      obtain ⟨hjun, oj, hoj, hall⟩ := mem_ready.1 hj
      have hiun := (mem_ready.1 hr).1
      have hilt : i < listed.size := by
        rcases Nat.lt_or_ge i listed.size with h' | h'
        · exact h'
        · simp [Array.getElem?_eq_none h'] at hiun
      have hifalse : listed.getD i false = false := by simp [hilt] at hiun ⊢; exact hiun
      have hnot : ∀ e ∈ oj.after, Region.binds .any e = true → e.on ≠ i := fun e he hb heq => by
        have h1 := hall e he hb
        rw [heq, hifalse] at h1
        cases h1
      have hjN : N i = true → N j = true := fun hiN => by
        cases h' : N j with
        | true => rfl
        | false =>
          have := hsh.anc 6 j oj hoj hall (hN j oj h' hjun hoj hiN)
          rw [hifalse] at this
          cases this
      have hN' : ∀ t o, N t = false → (listed.setIfInBounds j true).getD t true = false → ops[t]? = some o → N i = true → anc ops 6 t i = true := fun t o h1 h2 h3 h4 => by
        refine hN t o h1 ?_ h3 h4
        rcases Nat.decEq j t with hjt | hjt
        · rw [getD_set_ne true hjt] at h2; exact h2
        · subst hjt; exact hjun
      have hswap := wpOp_putIf hoj (hfree j oj hoj hji hjun hnot) (fun cs b => hsel i oi cs b hi) (fun cs b => hsel j oj cs b hoj) hQ hy hnext
      have hun' : (listed.setIfInBounds j true).getD i true = false := by rw [getD_set_ne true hji]; exact hiun
      have hfree' : ∀ k ok, ops[k]? = some ok → k ≠ i → (listed.setIfInBounds j true).getD k true = false → (∀ e ∈ ok.after, Region.binds .any e = true → e.on ≠ i) → oi.apart ops ok = true := fun k ok hk hki hun hno => by
        refine hfree k ok hk hki ?_ hno
        rcases Nat.decEq j k with hjk | hjk
        · rw [getD_set_ne true hjk] at hun; exact hun
        · subst hjk; exact hjun
      have hcomm : (listed.setIfInBounds i true).setIfInBounds j true = (listed.setIfInBounds j true).setIfInBounds i true := Array.setIfInBounds_comm _ _ (Ne.symm hji)
      refine wpOp_mono (fun a' w' h3 => ?_) hswap
      refine ⟨fun hj' => h3.2.1 hj', ih (listed.setIfInBounds j true) a' w' hN' (hsh.set hj) hfree' (ready_mono hr (Ne.symm hji)) h3.1 (fun hiN => h3.2.1 (hjN hiN)) ?_⟩
      rw [← hcomm]; exact h3.2.2
    · subst hji
      exact hy.wpOp hi (hSw w hC) ⟨hC, H⟩
end
variable {P : Program} {n : Nat} {l : Fr} {w w' w0 : World} {Q : Exit → Act → World → Prop} {C : World → Prop} {N : Nat → Bool} {ops : List Oper} {o : Oper} {d : Nat} {v : Value}
/-- The same, from a frame. -/
def DL (P : Program) (n : Nat) (ops : List Oper) (Q : Exit → Act → World → Prop) (C : World → Prop) (N : Nat → Bool) (fuel : Nat) (listed : Array Bool) (l : Fr) (w : World) : Prop :=
  Shut ops.toArray listed → ∀ a, Has n l a → wpD P ops.toArray Q C N fuel listed a w
/-- What is asked for number i to be taken first. -/
def mayB (ops : List Oper) (listed : Array Bool) (i : Nat) : Bool :=
  Region.noSelect ops.toArray && Region.free .any ops.toArray listed i && (Region.ready .any ops.toArray listed).contains i
def deepB (ops : List Oper) (listed : Array Bool) (N : Nat → Bool) (i : Nat) : Bool := N i && (List.range ops.length).all fun t => N t || listed.getD t true || anc ops.toArray 6 t i
/-- The first m, but for some. -/
def heads (m : Nat) (X : List Nat) (i : Nat) : Bool := Nat.blt i m && !X.contains i
theorem DL.take {fuel : Nat} {listed : Array Bool} (i : Nat) (hi : nth ops i = some o) (hm : mayB ops listed i = true) (hd' : deepB ops listed N i = true) (hr : ∀ w, C w → RunV P n l o w v w) (hg : want ops l o.guard = some true) (hd : o.dst = some d) (hn : Nat.blt d n = true)
    (hQ : ∀ c a a' w, Q (.panic c) a w → Q (.panic c) a' w) (hC : C w) (k : DL P n ops Q C N fuel (listed.setIfInBounds i true) ((d, v) :: l) w) : DL P n ops Q C N (fuel + 1) listed l w := by
  intro hsh a ha
  simp only [mayB, Bool.and_eq_true] at hm
  simp only [deepB, Bool.and_eq_true] at hd'
  have hi' : ops.toArray[i]? = some o := by rw [← nth_eq]; exact hi
  have hrd : i ∈ Region.ready .any ops.toArray listed := by simpa using hm.2
  refine wpD_first (S := C) hi' (fun _ _ h => h) (.inl hd'.1) (Region.noSelect_spec hm.1.1) (fun c a w h => hQ c _ _ w h) fuel listed a w (fun t ot ht htl hot _ => ?_) hsh (Region.free_spec hi' hm.1.2) hrd (.inl ⟨want_spec ha hg, fun w hw => hr w hw a ha⟩) (fun _ => hC) ?_
  · have hlt := (Array.getElem?_eq_some_iff.1 hot).1
    have := List.all_eq_true.1 hd'.2 t (List.mem_range.2 (by simpa using hlt))
    simp only [Bool.or_eq_true] at this
    rcases this with (h | h) | h
    · rw [ht] at h; cases h
    · rw [htl] at h; cases h
    · exact h
  · rw [hd]
    exact k (hsh.set hrd) _ (ha.put hn v)
/-- A value that hangs on no memory. -/
theorem DL.takeU {fuel : Nat} {listed : Array Bool} (i : Nat) (hi : nth ops i = some o) (hm : mayB ops listed i = true) (hNi : N i = false) (hr : ∀ w, RunV P n l o w v w) (hg : want ops l o.guard = some true) (hd : o.dst = some d) (hn : Nat.blt d n = true)
    (hQ : ∀ c a a' w, Q (.panic c) a w → Q (.panic c) a' w) (k : DL P n ops Q C N fuel (listed.setIfInBounds i true) ((d, v) :: l) w) : DL P n ops Q C N (fuel + 1) listed l w := by
  intro hsh a ha
  simp only [mayB, Bool.and_eq_true] at hm
  have hi' : ops.toArray[i]? = some o := by rw [← nth_eq]; exact hi
  have hrd : i ∈ Region.ready .any ops.toArray listed := by simpa using hm.2
  refine wpD_first (S := fun _ => True) hi' (fun _ _ _ => trivial) (.inr fun _ => trivial) (Region.noSelect_spec hm.1.1) (fun c a w h => hQ c _ _ w h) fuel listed a w (fun t ot _ _ _ h => by rw [hNi] at h; cases h) hsh (Region.free_spec hi' hm.1.2) hrd (.inl ⟨want_spec ha hg, fun w _ => hr w a ha⟩) (fun h => by rw [hNi] at h; cases h) ?_
  rw [hd]
  exact k (hsh.set hrd) _ (ha.put hn v)
theorem DL.off {fuel : Nat} {listed : Array Bool} (i : Nat) (hi : nth ops i = some o) (hm : mayB ops listed i = true) (hd' : deepB ops listed N i = true) (hg : want ops l o.guard = some false) (hd : o.dst = some d) (hn : Nat.blt d n = true)
    (hQ : ∀ c a a' w, Q (.panic c) a w → Q (.panic c) a' w) (hC : C w) (k : DL P n ops Q C N fuel (listed.setIfInBounds i true) ((d, undef) :: l) w) : DL P n ops Q C N (fuel + 1) listed l w := by
  intro hsh a ha
  simp only [mayB, Bool.and_eq_true] at hm
  simp only [deepB, Bool.and_eq_true] at hd'
  have hi' : ops.toArray[i]? = some o := by rw [← nth_eq]; exact hi
  have hrd : i ∈ Region.ready .any ops.toArray listed := by simpa using hm.2
  refine wpD_first (S := C) (v := undef) hi' (fun _ _ h => h) (.inl hd'.1) (Region.noSelect_spec hm.1.1) (fun c a w h => hQ c _ _ w h) fuel listed a w (fun t ot ht htl hot _ => ?_) hsh (Region.free_spec hi' hm.1.2) hrd (.inr ⟨want_spec ha hg, rfl⟩) (fun _ => hC) ?_
  · have hlt := (Array.getElem?_eq_some_iff.1 hot).1
    have := List.all_eq_true.1 hd'.2 t (List.mem_range.2 (by simpa using hlt))
    simp only [Bool.or_eq_true] at this
    rcases this with (h | h) | h
    · rw [ht] at h; cases h
    · rw [htl] at h; cases h
    · exact h
  · rw [hd]
    exact k (hsh.set hrd) _ (ha.put hn undef)
/-- The one that may come up now, whatever it does. -/
def DK (P : Program) (n : Nat) (ops : List Oper) (Q : Exit → Act → World → Prop) (C : World → Prop) (N : Nat → Bool) (fuel : Nat) (listed : Array Bool) (i : Nat) : Act → World → Prop :=
  fun a' w' => (N i = true → C w') ∧ wpD P ops.toArray Q C N fuel (listed.setIfInBounds i true) a' w'
theorem wpOp_of_list {ops : Array Oper} {i : Nat} {K : Act → World → Prop} {a : Act} (hi : ops[i]? = some o) (h : wpList P ops (Exit.then K Q) [o] a w) : wpOp P ops Q i K a w := by
  unfold wpOp
  simp only [hi]
  unfold wpList at h
  split
  · rename_i hw
    rw [if_pos hw] at h
    rcases h with h | ⟨h1, h2⟩
    · refine .inl ?_
      unfold Oper.wp at h ⊢
      generalize (execOp a.eval o).run P w = r at *
      cases r with
      | ok x w' =>
        cases x <;> exact h
      | halt x w' => cases x <;> exact h
    · exact .inr ⟨h1, h2⟩
  · rename_i hw
    rw [if_neg hw] at h
    exact h
theorem DL.only {fuel : Nat} {listed : Array Bool} (i : Nat) (hi : nth ops i = some o) (hr : Region.ready .any ops.toArray listed = [i])
    (h : Shut ops.toArray (listed.setIfInBounds i true) → WL P n ops (Exit.then (DK P n ops Q C N fuel listed i) Q) [o] l w) : DL P n ops Q C N (fuel + 1) listed l w := by
  intro hsh a ha
  have hi' : ops.toArray[i]? = some o := by rw [← nth_eq]; exact hi
  have hrd : i ∈ Region.ready .any ops.toArray listed := by rw [hr]; simp
  refine ⟨fun h0 => (by rw [hr] at h0; cases h0), fun j hj => ?_⟩
  rw [hr] at hj
  have hj' : j = i := by simpa using hj
  subst hj'
  exact wpOp_of_list hi' (h (hsh.set hrd) a ha)
theorem DL.next {fuel : Nat} {listed : Array Bool} {i : Nat} (hsh : Shut ops.toArray (listed.setIfInBounds i true)) (hC : C w ∨ N i = false) (k : DL P n ops Q C N fuel (listed.setIfInBounds i true) l w) :
    KQ n (Exit.then (DK P n ops Q C N fuel listed i) Q) .normal l w := fun a ha =>
  ⟨fun hi => hC.elim id (fun h => by rw [h] at hi; cases hi), k hsh a ha⟩
theorem DL.done {fuel : Nat} {listed : Array Bool} (hr : Region.ready .any ops.toArray listed = []) (h : KQ n Q .normal l w) : DL P n ops Q C N fuel listed l w := by
  intro _ a ha
  cases fuel with
  | zero => exact ⟨hr, h a ha⟩
  | succ fuel => exact ⟨fun _ => h a ha, by rw [hr]; intro i hi; cases hi⟩
theorem W.regionD {id : Nat} (N : Nat → Bool) (hm : P.follows .mixedOrders = true) (h : DL P n ops Q (Ext w) N ops.length (Array.replicate ops.length false) l w.drew) : W P n (.region id ops.toArray true) Q l w := fun a ha => by
  refine wp_region_any hm (wpAny_of_D (C := Ext w) (N := N) _ _ _ _ ?_)
  have hsh : Shut ops.toArray (Array.replicate ops.length false) := fun j o _ hl => by
    exfalso
    have : (Array.replicate ops.length false).getD j false = false := by
      rcases Nat.lt_or_ge j ops.length with h | h <;> simp [h]
    rw [this] at hl
    cases hl
  have := h hsh a ha
  simpa using this
/-- The same, over a class of one's own. -/
theorem W.regionC {id : Nat} (N : Nat → Bool) (hm : P.follows .mixedOrders = true) (h : DL P n ops Q C N ops.length (Array.replicate ops.length false) l w.drew) : W P n (.region id ops.toArray true) Q l w := fun a ha => by
  refine wp_region_any hm (wpAny_of_D (C := C) (N := N) _ _ _ _ ?_)
  have hsh : Shut ops.toArray (Array.replicate ops.length false) := fun j o _ hl => by
    exfalso
    have : (Array.replicate ops.length false).getD j false = false := by
      rcases Nat.lt_or_ge j ops.length with h | h <;> simp [h]
    rw [this] at hl
    cases hl
  have := h hsh a ha
  simpa using this

end
/-- Such a world is the old one, some draws on, some blocks behind. -/
theorem Ext.form {w w' : World} (h : Ext w w') : ∃ q os', w' = Go.Sort.grow (w.drewN q) os' := by
  refine ⟨w'.drawn - w.drawn, w'.heap.extract w.heap.size w'.heap.size, ?_⟩
  have hd := h.drawn
  have e1 : w.drawn + (w'.drawn - w.drawn) = w'.drawn := by omega
  have e2 : w.heap ++ w'.heap.extract w.heap.size w'.heap.size = w'.heap := by
    refine Array.ext_getElem? fun i => ?_
    have hsz := h.size
    rw [Array.getElem?_append]
    by_cases hi : i < w.heap.size
    · rw [if_pos hi, h.block i hi]
    · rw [if_neg hi, Array.getElem?_extract]
      by_cases h2 : i < w'.heap.size
      · rw [if_pos (by omega)]; congr 1; omega
      · rw [if_neg (by omega), Array.getElem?_eq_none (by omega)]
  obtain ⟨hp, tp, dr, os, op⟩ := w'
  obtain ⟨hp0, tp0, dr0, os0, op0⟩ := w
  have h1 := h.os; have h2 := h.tape; have h3 := h.output
  simp only at e1 e2 h1 h2 h3
  subst h1; subst h2; subst h3
  simp only [Go.Sort.grow, World.drewN, e1, e2]
end Go.Proofs.YtmnnbnajnfdncaaGreatDoor.X
