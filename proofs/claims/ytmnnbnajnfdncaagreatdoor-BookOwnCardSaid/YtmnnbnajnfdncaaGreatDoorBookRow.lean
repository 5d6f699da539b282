/- The row of BookOwn, and its tied card. -/
import Derived.Test.YtmnnbnajnfdncaaGreatDoorRows
import Derived.Test.YtmnnbnajnfdncaaGreatDoorCards
import Derived.Test.YtmnnbnajnfdncaaGreatDoorTie
import Derived.Test.YtmnnbnajnfdncaaGreatDoorO2
import Derived.Test.YtmnnbnajnfdncaaGreatDoorLaw2
import Derived.ChangeSame
import Derived.ChangeVars
import Derived.JoinedOf
import Derived.LaidHandle
import Derived.Lib.LaidIn
import Derived.Lib.LaidU8
import Derived.SevenTiedAt
set_option linter.unusedVariables false
namespace Go.Proofs.YtmnnbnajnfdncaaGreatDoor
open Go.ChangeShapes Go.WideShapes Go.ChangeAt Go.RowKit
theorem Tryz.own : ownKnob Tryz.prog.godebug = none := by kernel_rfl
theorem Tryz.laidOut : laidOutB Tryz.prog = true := by kernel_rfl
/-- The witness: the settled world, the two tables laid. -/
noncomputable def laidWorld (os : Os) : World :=
  let w0 := World.holding Tryz.prog os ⟨#[], #[], []⟩
  let put (h : Array Obj) (g : Nat) (cs : Array Value) : Array Obj := h.modify g fun
    | .cells _ t frozen => .cells cs t frozen
    | o => o
  let h1 := put w0.heap 0 (Lib.firstTab.map fun z => Value.int .u8 z).toArray
  let h2 := put h1 1 ((List.range 16).flatMap fun i => [Value.int .u8 (Lib.accLo i), Value.int .u8 (Lib.accHi i)]).toArray
  { w0 with heap := h2 }
theorem laid_met (os : Os) (args : Array Value) : laidMet Tryz.prog Rows.bookOwnRow.laid ((laidWorld os).forCall (fun _ _ => 0) ⟨#[], args, []⟩).memory :=
  (LaidIn.of_run (l := Rows.bookOwnRow.laid) [0, 1] 8 (by kernel_rfl) (by kernel_rfl) (by kernel_rfl) (by kernel_rfl)).met
def zBook : Value := .agg #[.slice none 0 0, .slice none 0 0, .slice none 0 0, .int .u64 0]
def zOrder : Value := .agg (ordCells ⟨0, noNodeD, noTaskD, noText, noText, 0⟩).toArray
theorem readable27 : Tryz.prog.readableRec 27 = true := by kernel_rfl
theorem readable36 : Tryz.prog.readableRec 36 = true := by kernel_rfl
theorem size27 : 27 < Tryz.prog.types.size := of_decide_eq_true (by kernel_rfl)
theorem size36 : 36 < Tryz.prog.types.size := of_decide_eq_true (by kernel_rfl)
set_option maxRecDepth 100000 in
theorem bookOwn_lifted (os : Os) (started : os.Started) (H : Type) (enc : TypeId × Value → H) :
    ReturnsInHanded {} Tryz.checked os 3 .any (fun w args => (Rows.bookOwnSpec.pre enc Tryz.prog Tryz.f3 [] false w args ∧ laidMetH Tryz.prog Rows.bookOwnRow.laid w) ∧ sizedMet enc Tryz.prog Tryz.f3 (OpenSpec.ofChange Rows.bookOwnSpec) false w args)
      (Rows.bookOwnSpec.post enc Tryz.prog Tryz.f3 false true false false) := by
  refine returnsInHanded_of_change_and (C := Tryz.checked) (X := fun w _ => laidMetH Tryz.prog Rows.bookOwnRow.laid w) (fun _ _ _ hh h => h.of_heap hh) Tryz.own started (by kernel_rfl) Tryz.func3
    (ChangeSpec.witness_at (enc := enc) (C := Tryz.checked) (os := os) (X := fun w _ => laidMetH Tryz.prog Rows.bookOwnRow.laid w) false (laidWorld os) #[zBook, zOrder] 8 rfl (by kernel_rfl) (by kernel_rfl) (by kernel_rfl) (by kernel_rfl) (by kernel_rfl) (laid_met os _)) ?_
  intro W base args ds gs before hval0 hW _ hsz _ _
  have hval : ∀ (j : Nat) t v, Tryz.f3.params[j]? = some t → args[j]? = some v → Value.okWide Tryz.prog W .any base t v := hval0
  have hW' := hW
  have hlt := hW.lt
  obtain ⟨p, q, hA0, hV0, rfl, hfz, hnd⟩ := hW
  have hA : DataW.TrodAll enc Tryz.prog W 0 (fun _ => true) true Tryz.f3.params.toList args.toList ds p := hA0
  rw [Tryz.params3] at hA hval
  obtain ⟨v0, v1, d0, d1, p0, p1, rfl, rfl, rfl, h0, h1⟩ := trodAll_two hA
  obtain ⟨rfl, rfl⟩ := trodVars_none hV0
  have hs0 : ∀ n ∈ d0.weights Tryz.prog 27, n ≤ reachBytes := fun n hn => by
    have := List.all_eq_true.1 hsz n (DataW.weights_mem_each (j := 0) (t := 27) (d := d0) rfl rfl n hn)
    simpa using this
  have hs1 : ∀ n ∈ d1.weights Tryz.prog 36, n ≤ reachBytes := fun n hn => by
    have := List.all_eq_true.1 hsz n (DataW.weights_mem_each (j := 1) (t := 36) (d := d1) rfl rfl n hn)
    simpa using this
  have ok0 := hval 0 27 v0 rfl rfl
  have ok1 := hval 1 36 v1 rfl rfl
  unfold Value.okWide at ok0 ok1
  rw [Tryz.underlying27] at ok0
  rw [Tryz.underlying36] at ok1
  obtain ⟨c0, rfl, _, _⟩ := ok0
  obtain ⟨c1, rfl, _, _⟩ := ok1
  have t0 : Tr enc W 27 c0.toList := by obtain ⟨f, hf⟩ := h0; exact ⟨f, _, _, _, hf, hs0⟩
  have t1 : Tr enc W 36 c1.toList := by obtain ⟨f, hf⟩ := h1; exact ⟨f, _, _, _, hf, hs1⟩
  obtain ⟨b, hb⟩ := t0.book
  obtain ⟨o, ho, hof⟩ := t1.order
  have e1 : Rows.bookOwnSpec.fn H ([d0, d1] ++ []) = { results := [.lit (.bool true)], args := [d0, d1] } := rfl
  refine (bookOwn_calls hb ho hof).mono fun e W' ⟨v, he, hv, hX⟩ => ?_
  subst he; subst hv
  refine ⟨_, rfl, _, _, _, [], p0 ++ p1, [], hW', ?_, ?_, ?_, hX.frame _, fun h => by cases h⟩
  · rw [e1]; exact trodAll_mk1 (shut_bool Tryz.underlying4 true)
  · rw [e1]
    exact trodAll_mk2 (Below.trod Tryz.laidOut readable27 size27 h0 hX (fun x hx => hlt x (by simp [hx]))) (Below.trod Tryz.laidOut readable36 size36 h1 hX (fun x hx => hlt x (by simp [hx])))
  · rw [e1]; rfl
theorem bookOwn_holds : Rows.BookOwnSaid :=
  OpenClaim.holds_of_wide 3 Tryz.f3 rfl rfl rfl rfl rfl rfl rfl ⟨rfl, rfl, rfl, rfl, rfl⟩ rfl rfl rfl rfl rfl (by kernel_rfl) Tryz.func3 (by kernel_rfl)
    (of_decide_eq_true (by kernel_rfl)) (by unfold Func.isWrapper; rw [if_neg (of_decide_eq_false (by kernel_rfl))]; exact ⟨rfl, rfl⟩)
    (fun os started H enc _ => bookOwn_lifted os started H enc)
end Go.Proofs.YtmnnbnajnfdncaaGreatDoor
