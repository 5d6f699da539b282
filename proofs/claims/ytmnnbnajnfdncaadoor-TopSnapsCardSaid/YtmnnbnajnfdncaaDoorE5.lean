/- The engine, fifth part: regions that draw their order and make or write memory: what only reads is taken first. -/
import Derived.Test.YtmnnbnajnfdncaaDoorE4
import Derived.OrdersHeld
set_option linter.unusedVariables false
set_option linter.unusedSimpArgs false
namespace Go.Proofs.YtmnnbnajnfdncaaDoor.E
open Go.RowKit
/-- Does j wait for i, by way of others? -/
def anc (ops : Array Oper) : Nat → Nat → Nat → Bool
  | 0, _, _ => false
  | f + 1, j, i => match ops[j]? with
    | none => false
    | some o => o.after.any (fun e => Region.binds .any e && e.on == i) || o.after.any fun e => Region.binds .any e && anc ops f e.on i
/-- What has come up had all come up that it waits for. -/
def Shut (ops : Array Oper) (listed : Array Bool) : Prop := ∀ j o, ops[j]? = some o → listed.getD j false = true → ∀ e ∈ o.after, Region.binds .any e = true → listed.getD e.on false = true
theorem Shut.anc {ops : Array Oper} {listed : Array Bool} (hs : Shut ops listed) {i : Nat} : ∀ (f j : Nat) (o : Oper), ops[j]? = some o → (∀ e ∈ o.after, Region.binds .any e = true → listed.getD e.on false = true) → anc ops f j i = true → listed.getD i false = true
  | 0, _, _, _, _, h => by simp [E.anc] at h
  | f + 1, j, o, ho, hall, h => by
    simp only [E.anc, ho, Bool.or_eq_true] at h
    rcases h with h | h
    · obtain ⟨e, he, hb⟩ := Array.any_eq_true'.1 h
      simp only [Bool.and_eq_true, beq_iff_eq] at hb
      rw [← hb.2]
      exact hall e he hb.1
    · obtain ⟨e, he, hb⟩ := Array.any_eq_true'.1 h
      simp only [Bool.and_eq_true] at hb
      have hl := hall e he hb.1
      cases ho' : ops[e.on]? with
      | none =>
        have hb2 := hb.2
        cases f with
        | zero => simp [E.anc] at hb2
        | succ f => simp [E.anc, ho'] at hb2
      | some o' => exact Shut.anc hs f e.on o' ho' (hs e.on o' ho' hl) hb.2
theorem Shut.set {ops : Array Oper} {listed : Array Bool} (hs : Shut ops listed) {i : Nat} (hi : i ∈ Region.ready .any ops listed) : Shut ops (listed.setIfInBounds i true) := by
  obtain ⟨_, oi, hoi, hall⟩ := mem_ready.1 hi
  intro j oj hj hl e he hb
  rcases Nat.decEq i j with hij | hij
  · rw [getD_set_ne false hij] at hl
    exact getD_set_true (hs j oj hj hl e he hb)
  · subst hij
    have : oj = oi := Option.some.inj (hj.symm.trans hoi)
    subst this
    exact getD_set_true (hall e he hb)
/-- Whatever order is picked from here on; behind each of the first N operations the memory is of the class C. -/
def wpD (P : Program) (ops : Array Oper) (Q : Exit → Act → World → Prop) (C : World → Prop) (N : Nat → Bool) : Nat → Array Bool → Act → World → Prop
  | 0, listed, a, w => Region.ready .any ops listed = [] ∧ Q .normal a w
  | fuel + 1, listed, a, w => (Region.ready .any ops listed = [] → Q .normal a w) ∧
    ∀ i ∈ Region.ready .any ops listed, wpOp P ops Q i (fun a' w' => (N i = true → C w') ∧ wpD P ops Q C N fuel (listed.setIfInBounds i true) a' w') a w
section
variable {P : Program} {ops : Array Oper} {Q : Exit → Act → World → Prop} {C S : World → Prop} {N : Nat → Bool}
theorem wpAny_of_D : ∀ (fuel : Nat) (listed : Array Bool) (a : Act) (w : World), wpD P ops Q C N fuel listed a w → wpAny P .any ops Q fuel listed a w
  | 0, _, _, _, h => h
  | fuel + 1, _, _, _, h => ⟨h.1, fun i hi => wpOp_mono (fun a' w' h' => wpAny_of_D fuel _ a' w' h'.2) (h.2 i hi)⟩
theorem wpD_first {i : Nat} {oi : Oper} {v : Value} (hi : ops[i]? = some oi) (hSC : ∀ w, N i = true → C w → S w) (hS : N i = true ∨ ∀ w, S w)
    (hsel : ∀ (j : Nat) (o : Oper) cs b, ops[j]? = some o → o.op ≠ .select cs b) (hQ : ∀ c a w, Q (.panic c) (a.put oi.dst v) w → Q (.panic c) a w) :
    ∀ (fuel : Nat) (listed : Array Bool) (a : Act) (w : World), (∀ t o, N t = false → listed.getD t true = false → ops[t]? = some o → N i = true → anc ops 6 t i = true) → Shut ops listed →
      (∀ j oj, ops[j]? = some oj → j ≠ i → listed.getD j true = false → (∀ e ∈ oj.after, Region.binds .any e = true → e.on ≠ i) → oi.apart ops oj = true) →
      i ∈ Region.ready .any ops listed → YieldsIf P ops S oi v a → (N i = true → C w) →
      wpD P ops Q C N fuel (listed.setIfInBounds i true) (a.put oi.dst v) w → wpD P ops Q C N (fuel + 1) listed a w := by
  have hSw : ∀ w, (N i = true → C w) → S w := fun w h => hS.elim (fun hi => hSC w hi (h hi)) (fun h => h w)
  intro fuel
  induction fuel with
  | zero =>
    intro listed a w _ _ _ hr hy hC H
    refine ⟨fun h => (by rw [h] at hr; cases hr), fun j hj => ?_⟩
    rcases Nat.decEq j i with hji | hji
    · have := ready_mono hj hji
      rw [H.1] at this
      cases this
    · subst hji
      exact hy.wpOp hi (hSw w hC) ⟨hC, H⟩
  | succ fuel ih =>
    intro listed a w hN hsh hfree hr hy hC H
    refine ⟨fun h => (by rw [h] at hr; cases hr), fun j hj => ?_⟩
    rcases Nat.decEq j i with hji | hji
    · have hnext := H.2 j (ready_mono hj hji)
      obtain ⟨hjun, oj, hoj, hall⟩ := mem_ready.1 hj
      have hiun := (mem_ready.1 hr).1
      have hilt : i < listed.size := by
        rcases Nat.lt_or_ge i listed.size with h' | h'
        · exact h'
        · simp [Array.getElem?_eq_none h'] at hiun
      have hifalse : listed.getD i false = false := by simp [hilt] at hiun ⊢; exact hiun
      have hnot : ∀ e ∈ oj.after, Region.binds .any e = true → e.on ≠ i := fun e he hb heq => by
        have h1 := hall e he hb
        rw [heq, hifalse] at h1
        cases h1
      have hjN : N i = true → N j = true := fun hiN => by
        cases h' : N j with
        | true => rfl
        | false =>
          have := hsh.anc 6 j oj hoj hall (hN j oj h' hjun hoj hiN)
          rw [hifalse] at this
          cases this
      have hN' : ∀ t o, N t = false → (listed.setIfInBounds j true).getD t true = false → ops[t]? = some o → N i = true → anc ops 6 t i = true := fun t o h1 h2 h3 h4 => by
        refine hN t o h1 ?_ h3 h4
        rcases Nat.decEq j t with hjt | hjt
        · rw [getD_set_ne true hjt] at h2; exact h2
        · subst hjt; exact hjun
      have hswap := wpOp_putIf hoj (hfree j oj hoj hji hjun hnot) (fun cs b => hsel i oi cs b hi) (fun cs b => hsel j oj cs b hoj) hQ hy hnext
      have hun' : (listed.setIfInBounds j true).getD i true = false := by rw [getD_set_ne true hji]; exact hiun
      have hfree' : ∀ k ok, ops[k]? = some ok → k ≠ i → (listed.setIfInBounds j true).getD k true = false → (∀ e ∈ ok.after, Region.binds .any e = true → e.on ≠ i) → oi.apart ops ok = true := fun k ok hk hki hun hno => by
        refine hfree k ok hk hki ?_ hno
        rcases Nat.decEq j k with hjk | hjk
        · rw [getD_set_ne true hjk] at hun; exact hun
        · subst hjk; exact hjun
      have hcomm : (listed.setIfInBounds i true).setIfInBounds j true = (listed.setIfInBounds j true).setIfInBounds i true := Array.setIfInBounds_comm _ _ (Ne.symm hji)
      refine wpOp_mono (fun a' w' h3 => ?_) hswap
      refine ⟨fun hj' => h3.2.1 hj', ih (listed.setIfInBounds j true) a' w' hN' (hsh.set hj) hfree' (ready_mono hr (Ne.symm hji)) h3.1 (fun hiN => h3.2.1 (hjN hiN)) ?_⟩
      rw [← hcomm]; exact h3.2.2
    · subst hji
      exact hy.wpOp hi (hSw w hC) ⟨hC, H⟩
end
variable {P : Program} {n : Nat} {l : Fr} {w w' w0 : World} {Q : Exit → Act → World → Prop} {C : World → Prop} {N : Nat → Bool} {ops : List Oper} {o : Oper} {d : Nat} {v : Value}
/-- The same, from a frame. -/
def DL (P : Program) (n : Nat) (ops : List Oper) (Q : Exit → Act → World → Prop) (C : World → Prop) (N : Nat → Bool) (fuel : Nat) (listed : Array Bool) (l : Fr) (w : World) : Prop :=
  Shut ops.toArray listed → ∀ a, Has n l a → wpD P ops.toArray Q C N fuel listed a w
/-- What is asked for number i to be taken first. -/
def mayB (ops : List Oper) (listed : Array Bool) (i : Nat) : Bool :=
  Region.noSelect ops.toArray && Region.free .any ops.toArray listed i && (Region.ready .any ops.toArray listed).contains i
def deepB (ops : List Oper) (listed : Array Bool) (N : Nat → Bool) (i : Nat) : Bool := N i && (List.range ops.length).all fun t => N t || listed.getD t true || anc ops.toArray 6 t i
/-- The first m, but for some. -/
def heads (m : Nat) (X : List Nat) (i : Nat) : Bool := Nat.blt i m && !X.contains i
theorem DL.take {fuel : Nat} {listed : Array Bool} (i : Nat) (hi : nth ops i = some o) (hm : mayB ops listed i = true) (hd' : deepB ops listed N i = true) (hr : ∀ w, C w → RunV P n l o w v w) (hg : want ops l o.guard = some true) (hd : o.dst = some d) (hn : Nat.blt d n = true)
    (hQ : ∀ c a a' w, Q (.panic c) a w → Q (.panic c) a' w) (hC : C w) (k : DL P n ops Q C N fuel (listed.setIfInBounds i true) ((d, v) :: l) w) : DL P n ops Q C N (fuel + 1) listed l w := by
  intro hsh a ha
  simp only [mayB, Bool.and_eq_true] at hm
  simp only [deepB, Bool.and_eq_true] at hd'
  have hi' : ops.toArray[i]? = some o := by rw [← nth_eq]; exact hi
  have hrd : i ∈ Region.ready .any ops.toArray listed := by simpa using hm.2
  refine wpD_first (S := C) hi' (fun _ _ h => h) (.inl hd'.1) (Region.noSelect_spec hm.1.1) (fun c a w h => hQ c _ _ w h) fuel listed a w (fun t ot ht htl hot _ => ?_) hsh (Region.free_spec hi' hm.1.2) hrd (.inl ⟨want_spec ha hg, fun w hw => hr w hw a ha⟩) (fun _ => hC) ?_
  · have hlt := (Array.getElem?_eq_some_iff.1 hot).1
    have := List.all_eq_true.1 hd'.2 t (List.mem_range.2 (by simpa using hlt))
    simp only [Bool.or_eq_true] at this
    rcases this with (h | h) | h
    · rw [ht] at h; cases h
    · rw [htl] at h; cases h
    · exact h
  · rw [hd]
    exact k (hsh.set hrd) _ (ha.put hn v)
/-- A value that hangs on no memory. -/
theorem DL.takeU {fuel : Nat} {listed : Array Bool} (i : Nat) (hi : nth ops i = some o) (hm : mayB ops listed i = true) (hNi : N i = false) (hr : ∀ w, RunV P n l o w v w) (hg : want ops l o.guard = some true) (hd : o.dst = some d) (hn : Nat.blt d n = true)
    (hQ : ∀ c a a' w, Q (.panic c) a w → Q (.panic c) a' w) (k : DL P n ops Q C N fuel (listed.setIfInBounds i true) ((d, v) :: l) w) : DL P n ops Q C N (fuel + 1) listed l w := by
  intro hsh a ha
  simp only [mayB, Bool.and_eq_true] at hm
  have hi' : ops.toArray[i]? = some o := by rw [← nth_eq]; exact hi
  have hrd : i ∈ Region.ready .any ops.toArray listed := by simpa using hm.2
  refine wpD_first (S := fun _ => True) hi' (fun _ _ _ => trivial) (.inr fun _ => trivial) (Region.noSelect_spec hm.1.1) (fun c a w h => hQ c _ _ w h) fuel listed a w (fun t ot _ _ _ h => by rw [hNi] at h; cases h) hsh (Region.free_spec hi' hm.1.2) hrd (.inl ⟨want_spec ha hg, fun w _ => hr w a ha⟩) (fun h => by rw [hNi] at h; cases h) ?_
  rw [hd]
  exact k (hsh.set hrd) _ (ha.put hn v)
theorem DL.off {fuel : Nat} {listed : Array Bool} (i : Nat) (hi : nth ops i = some o) (hm : mayB ops listed i = true) (hd' : deepB ops listed N i = true) (hg : want ops l o.guard = some false) (hd : o.dst = some d) (hn : Nat.blt d n = true)
    (hQ : ∀ c a a' w, Q (.panic c) a w → Q (.panic c) a' w) (hC : C w) (k : DL P n ops Q C N fuel (listed.setIfInBounds i true) ((d, undef) :: l) w) : DL P n ops Q C N (fuel + 1) listed l w := by
  intro hsh a ha
  simp only [mayB, Bool.and_eq_true] at hm
  simp only [deepB, Bool.and_eq_true] at hd'
  have hi' : ops.toArray[i]? = some o := by rw [← nth_eq]; exact hi
  have hrd : i ∈ Region.ready .any ops.toArray listed := by simpa using hm.2
  refine wpD_first (S := C) (v := undef) hi' (fun _ _ h => h) (.inl hd'.1) (Region.noSelect_spec hm.1.1) (fun c a w h => hQ c _ _ w h) fuel listed a w (fun t ot ht htl hot _ => ?_) hsh (Region.free_spec hi' hm.1.2) hrd (.inr ⟨want_spec ha hg, rfl⟩) (fun _ => hC) ?_
  · have hlt := (Array.getElem?_eq_some_iff.1 hot).1
    have := List.all_eq_true.1 hd'.2 t (List.mem_range.2 (by simpa using hlt))
    simp only [Bool.or_eq_true] at this
    rcases this with (h | h) | h
    · rw [ht] at h; cases h
    · rw [htl] at h; cases h
    · exact h
  · rw [hd]
    exact k (hsh.set hrd) _ (ha.put hn undef)
/-- The one that may come up now, whatever it does. -/
def DK (P : Program) (n : Nat) (ops : List Oper) (Q : Exit → Act → World → Prop) (C : World → Prop) (N : Nat → Bool) (fuel : Nat) (listed : Array Bool) (i : Nat) : Act → World → Prop :=
  fun a' w' => (N i = true → C w') ∧ wpD P ops.toArray Q C N fuel (listed.setIfInBounds i true) a' w'
theorem wpOp_of_list {ops : Array Oper} {i : Nat} {K : Act → World → Prop} {a : Act} (hi : ops[i]? = some o) (h : wpList P ops (Exit.then K Q) [o] a w) : wpOp P ops Q i K a w := by
  unfold wpOp
  simp only [hi]
  unfold wpList at h
  split
  · rename_i hw
    rw [if_pos hw] at h
    rcases h with h | ⟨h1, h2⟩
    · refine .inl ?_
      unfold Oper.wp at h ⊢
      generalize (execOp a.eval o).run P w = r at *
      cases r with
      | ok x w' =>
        cases x <;> exact h
      | halt x w' => cases x <;> exact h
    · exact .inr ⟨h1, h2⟩
  · rename_i hw
    rw [if_neg hw] at h
    exact h
theorem DL.only {fuel : Nat} {listed : Array Bool} (i : Nat) (hi : nth ops i = some o) (hr : Region.ready .any ops.toArray listed = [i])
    (h : Shut ops.toArray (listed.setIfInBounds i true) → WL P n ops (Exit.then (DK P n ops Q C N fuel listed i) Q) [o] l w) : DL P n ops Q C N (fuel + 1) listed l w := by
  intro hsh a ha
  have hi' : ops.toArray[i]? = some o := by rw [← nth_eq]; exact hi
  have hrd : i ∈ Region.ready .any ops.toArray listed := by rw [hr]; simp
  refine ⟨fun h0 => (by rw [hr] at h0; cases h0), fun j hj => ?_⟩
  rw [hr] at hj
  have hj' : j = i := by simpa using hj
  subst hj'
  exact wpOp_of_list hi' (h (hsh.set hrd) a ha)
theorem DL.next {fuel : Nat} {listed : Array Bool} {i : Nat} (hsh : Shut ops.toArray (listed.setIfInBounds i true)) (hC : C w ∨ N i = false) (k : DL P n ops Q C N fuel (listed.setIfInBounds i true) l w) :
    KQ n (Exit.then (DK P n ops Q C N fuel listed i) Q) .normal l w := fun a ha =>
  ⟨fun hi => hC.elim id (fun h => by rw [h] at hi; cases hi), k hsh a ha⟩
theorem DL.done {fuel : Nat} {listed : Array Bool} (hr : Region.ready .any ops.toArray listed = []) (h : KQ n Q .normal l w) : DL P n ops Q C N fuel listed l w := by
  intro _ a ha
  cases fuel with
  | zero => exact ⟨hr, h a ha⟩
  | succ fuel => exact ⟨fun _ => h a ha, by rw [hr]; intro i hi; cases hi⟩
theorem W.regionD {id : Nat} (N : Nat → Bool) (hm : P.follows .mixedOrders = true) (h : DL P n ops Q (Ext w) N ops.length (Array.replicate ops.length false) l w.drew) : W P n (.region id ops.toArray true) Q l w := fun a ha => by
  refine wp_region_any hm (wpAny_of_D (C := Ext w) (N := N) _ _ _ _ ?_)
  have hsh : Shut ops.toArray (Array.replicate ops.length false) := fun j o _ hl => by
    exfalso
    have : (Array.replicate ops.length false).getD j false = false := by
      rcases Nat.lt_or_ge j ops.length with h | h <;> simp [h]
    rw [this] at hl
    cases hl
  have := h hsh a ha
  simpa using this
/-- The same, over a class of one's own. -/
theorem W.regionC {id : Nat} (N : Nat → Bool) (hm : P.follows .mixedOrders = true) (h : DL P n ops Q C N ops.length (Array.replicate ops.length false) l w.drew) : W P n (.region id ops.toArray true) Q l w := fun a ha => by
  refine wp_region_any hm (wpAny_of_D (C := C) (N := N) _ _ _ _ ?_)
  have hsh : Shut ops.toArray (Array.replicate ops.length false) := fun j o _ hl => by
    exfalso
    have : (Array.replicate ops.length false).getD j false = false := by
      rcases Nat.lt_or_ge j ops.length with h | h <;> simp [h]
    rw [this] at hl
    cases hl
  have := h hsh a ha
  simpa using this
end Go.Proofs.YtmnnbnajnfdncaaDoor.E
