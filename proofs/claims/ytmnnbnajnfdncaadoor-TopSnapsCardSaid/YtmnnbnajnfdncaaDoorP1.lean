/- Plain functions: what the program computes (names, pairs, nodes, tasks). -/
import Derived.Test.YtmnnbnajnfdncaaDoorD1
import Derived.Test.YtmnnbnajnfdncaaDoorProg
set_option linter.unusedVariables false
namespace Go.Proofs.YtmnnbnajnfdncaaDoor
open Go.RowKit E
def shuns (a b : TaskD) : Bool := !decide (a.apart = ByteArray.mk #[]) && decide (a.apart = b.group)
def bear (a b : TaskD) : Bool := !shuns a b && !shuns b a
def within (xs ys : List PairD) : Bool := xs.all fun p => ys.any fun q => decide (p = q)
def suits (t : TaskD) (n : NodeD) : Bool := within t.wants n.labels && within n.taints t.bears
def ltB (a b : ByteArray) : Bool := Op.bytesLess a.toList b.toList
def cmpB (a b : ByteArray) : Int := if ltB a b then -1 else if a = b then 0 else 1
def orI : List Int → Int
  | [] => 0
  | x :: r => if x = 0 then orI r else x
def orderP (a b : PairD) : Int := orI [cmpB a.key b.key, cmpB a.val b.val]
def RInt (k : IntKind) (_F : FP) (_w : World) (cs : List Value) (x : Int) : Prop := cs = [.int k x]
theorem RInt.goes (k : IntKind) : Goes (RInt k) := ⟨fun h _ => h, fun h _ => h⟩
/-- A row of whole numbers that was just made. -/
theorem RdS.ints {w : World} {B : Nat} {xs : List Int} {k : IntKind} (h : At w ⟨B, 0, none⟩ (xs.map (Value.int k))) (hl : xs.length * 8 ≤ 140737488351232) :
    RdS Any w 2 1 8 (RInt k) (.slice (some ⟨B, 0, none⟩) xs.length xs.length) xs := by
  refine ⟨_, _, rfl, Nat.le_refl _, hl, fun i x hx => ⟨_, [.int k x], rfl, trivial, rfl, fun j v hv => ?_, rfl⟩⟩
  match j, hv with
  | 0, hv =>
    simp at hv
    subst hv
    have := h i (.int k x) (by simp [hx])
    simpa [Addr.add] using this
  | j + 1, hv => simp at hv
theorem orI_drop {xs : List Int} {k : Nat} (hk : k < xs.length) : orI (xs.drop k) = if xs[k] = 0 then orI (xs.drop (k + 1)) else xs[k] := by
  rw [List.drop_eq_getElem_cons hk]
  rfl
theorem within_get {xs ys : List PairD} {k : Nat} (hk : k < xs.length) : within (xs.drop k) ys = ((ys.any fun q => decide (xs[k] = q)) && within (xs.drop (k + 1)) ys) := by
  rw [List.drop_eq_getElem_cons hk]
  rfl
theorem any_get {x : PairD} {ys : List PairD} {k : Nat} (hk : k < ys.length) : ((ys.drop k).any fun q => decide (x = q)) = (decide (x = ys[k]) || (ys.drop (k + 1)).any fun q => decide (x = q)) := by
  rw [List.drop_eq_getElem_cons hk]
  rfl
end Go.Proofs.YtmnnbnajnfdncaaDoor
