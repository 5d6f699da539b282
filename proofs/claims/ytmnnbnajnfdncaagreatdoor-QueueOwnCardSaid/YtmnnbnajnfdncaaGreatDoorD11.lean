/- A channel of tasks beside memory of one's own; who waits. -/
import Derived.Test.YtmnnbnajnfdncaaGreatDoorS1
import Derived.Test.YtmnnbnajnfdncaaGreatDoorE8
set_option linter.unusedVariables false
set_option linter.unusedSimpArgs false
namespace Go.Proofs.YtmnnbnajnfdncaaGreatDoor
open Go.RowKit E
section
variable {w w' w0 : World} {base c cap s r T B : Nat} {buf : List Value} {S : Nat → Prop} {bl : Bxs}
theorem ChanAt.lt (h : ChanAt w c cap buf s r) : c < w.heap.size := (Array.getElem?_eq_some_iff.1 h).1
theorem ChanAt.ext (h : ChanAt w c cap buf s r) (hX : Ext w w') : ChanAt w' c cap buf s r := (hX.block c (ChanAt.lt h)).trans h
theorem ChanAt.not (h : ChanAt w c cap buf s r) (hT : HasT w T B) : c ≠ B := fun e => by
  subst e
  obtain ⟨cs, hc⟩ := hT
  have h' : w.heap[c]? = some (.chan cap buf.toArray false s r false) := h
  rw [hc] at h'
  injection h' with h'
  cases h'
theorem ChanAt.only (h : ChanAt w c cap buf s r) (hO : Only B w w') (hT : HasT w T B) : ChanAt w' c cap buf s r := (hO.block c (ChanAt.not h hT)).trans h
theorem ChanAt.grown {row : Option Nat} (h : ChanAt w c cap buf s r) (hg : w.grownBy w' row) (hr : ∀ k, row = some k → HasT w T k) : ChanAt w' c cap buf s r := (hg.block c (ChanAt.lt h) (fun e => ChanAt.not h (hr c e.symm) rfl)).trans h
/-- What a turn of the channel leaves. -/
structure Turned (c : Nat) (w w' : World) : Prop where
  keeps : ∀ S, Keeps S w w'
  below : ∀ base, base ≤ c → Below base w w'
theorem turned (h : ChanAt w c cap buf s r) (cap' s' r' : Nat) (buf' : List Value) : Turned c w (w.setChan c cap' buf'.toArray false s' r' false) ∧ ChanAt (w.setChan c cap' buf'.toArray false s' r' false) c cap' buf' s' r' :=
  ⟨⟨fun S => ⟨by rw [Conc.size_setChan]; exact Nat.le_refl _, fun U B _ hB => by
      have hne := ChanAt.not h hB
      simp only [World.setChan]; rw [Array.getElem?_setIfInBounds_ne hne]⟩, fun base hb => Conc.below_setChan (Below.refl _ _) hb _ _ _ _ _ _⟩, Conc.heap_setChan _ _ _ _ _ _ _ _ (ChanAt.lt h)⟩
theorem Bx.turned (hb : Bx base w0 w bl) (h : Turned c w w') (hc : base ≤ c) : Bx base w0 w' bl := hb.keeps (S := fun _ => True) (h.keeps _) (h.below _ hc) (fun _ _ => trivial)
end
section
variable {P : Program} {n : Nat} {l : Fr} {w w' w0 : World} {Q : Exit → Act → World → Prop} {ops orest : List Oper} {rest : List Nat} {o : Oper} {i d base : Nat} {v : Value} {bl : Bxs} {x y : Operand} {ty t e : TypeId} {pos : String} {aft : Array Edge} {gd : Option (Nat × Bool)} {c cap s r : Nat} {buf : List Value}
theorem ML.sendK (ho : nth ops i = some ⟨none, .send x y, ty, pos, aft, gd⟩) (hx : l.ev x = some (.chan (some c))) (hy : l.ev y = some v) (hc : ChanAt w c cap buf s r) (hroom : buf.length < cap) (hg : want ops l gd = some true)
    (k : ∀ w', ChanAt w' c cap (buf ++ [v]) (s + 1) r → Turned c w w' → ML P n ops Q rest l w') : ML P n ops Q (i :: rest) l w :=
  have h := turned hc cap (s + 1) r (buf ++ [v])
  E.ML.send ho hx hy hc hroom hg (k _ h.2 h.1)
theorem ML.recvK {ss : Array SelectCase} {z u : Value} (ho : nth ops i = some ⟨some d, .select ss false, ty, pos, aft, gd⟩) (hss : ss = #[⟨x, none, e⟩]) (hz : ∀ w, (zeroValue e).run P w = .ok z w) (hx : l.ev x = some (.chan (some c))) (hc : ChanAt w c cap (u :: buf) s r) (hg : want ops l gd = some true) (hn : Nat.blt d n = true)
    (k : ∀ w', ChanAt w' c cap buf s (r + 1) → Turned c w w' → ML P n ops Q rest ((d, .tuple #[.int .i64 0, .bool true, u]) :: l) w') : ML P n ops Q (i :: rest) l w :=
  have h := turned hc cap s (r + 1) buf
  E.ML.selRecv ho hss hz hx hc hg hn (k _ h.2 h.1)
theorem WL.mkchan {dir : ChanDir} {inf : TypeInfo} {k : IntKind} {m bytes : Nat} (hb : Bx base w0 w bl) (ht : P.underlying t = some (.chan dir e)) (hi : P.info? e = some inf) (hby : inf.bytes = bytes) (hx : l.ev x = some (.int k (m : Int))) (hm : m ≤ 1024) (hbs : bytes ≤ 1024) (hg : want ops l gd = some true) (hn : Nat.blt d n = true)
    (kk : ∀ C w', Bx base w0 w' bl → Ext w w' → ChanAt w' C m [] 0 0 → base ≤ C → E.WL P n ops Q orest ((d, .chan (some C)) :: l) w') : E.WL P n ops Q (⟨some d, .makeChan t x, ty, pos, aft, gd⟩ :: orest) l w := by
  subst hby
  have h2 : inf.bytes * m ≤ 1024 * 1024 := Nat.mul_le_mul hbs hm
  have h3 : (inf.bytes : Int) * (m : Int) ≤ 281474976710544 := by
    have h4 : ((inf.bytes * m : Nat) : Int) = (inf.bytes : Int) * (m : Int) := by simp
    rw [← h4]; omega
  have hr := Conc.run_makeChan (P := P) (w := w) ht hi k m (by omega) h3
  exact E.WL.val (v := .chan (some w.heap.size)) (w' := w.alloc (.chan m #[] false 0 0 false)) (fun a ha => by simp [execOp, ha.ev hx, hr]) hg rfl hn (kk _ _ (hb.ext (Ext.alloc w _)) (Ext.alloc w _) (heap_alloc_new w _) hb.le)
end
/-- What a channel's buffer holds: tasks, their slices of one's own. -/
inductive QBuf (base : Nat) (w : World) : List Value → List TaskD → Prop
  | nil : QBuf base w [] []
  | cons {cs : List Value} {x : TaskD} {buf : List Value} {xs : List TaskD} : RTask (Own base w) w cs x → QBuf base w buf xs → QBuf base w (.agg cs.toArray :: buf) (x :: xs)
theorem QBuf.keeps {base : Nat} {w w' : World} {S : Nat → Prop} {buf : List Value} {xs : List TaskD} (h : QBuf base w buf xs) (hk : Keeps S w w') (hS : S 45) : QBuf base w' buf xs := by
  induction h with
  | nil => exact .nil
  | cons h1 _ ih => exact .cons (RTask.keeps h1 hk hS) ih
theorem QBuf.snoc {base : Nat} {w : World} {buf : List Value} {xs : List TaskD} {cs : List Value} {x : TaskD} (h : QBuf base w buf xs) (hx : RTask (Own base w) w cs x) : QBuf base w (buf ++ [.agg cs.toArray]) (xs ++ [x]) := by
  induction h with
  | nil => exact .cons hx .nil
  | cons h1 _ ih => exact .cons h1 ih
theorem QBuf.len {base : Nat} {w : World} {buf : List Value} {xs : List TaskD} (h : QBuf base w buf xs) : buf.length = xs.length := by
  induction h with
  | nil => rfl
  | cons _ _ ih => simp [ih]
def waitB (b : BookD) (t : TaskD) : Bool := !(b.binds.any fun x => decide (x.task = t.name))
/-- Those that wait, as they stand. -/
def waitsP (b : BookD) : List TaskD := b.tasks.filter (waitB b)
theorem filter_take {α : Type} {p : α → Bool} {l : List α} {k : Nat} (hk : k < l.length) : (l.take (k + 1)).filter p = (l.take k).filter p ++ if p l[k] = true then [l[k]] else [] := by
  rw [List.take_add_one, List.getElem?_eq_getElem hk, List.filter_append]
  congr 1
  by_cases h : p l[k] = true
  · simp [h]
  · simp [h]
theorem filter_take_le {α : Type} {p : α → Bool} {l : List α} {k : Nat} : ((l.take k).filter p).length ≤ k := Nat.le_trans (List.length_filter_le _ _) (by rw [List.length_take]; exact Nat.min_le_left _ _)
theorem waits_le (b : BookD) : (waitsP b).length ≤ b.tasks.length := List.length_filter_le _ _
end Go.Proofs.YtmnnbnajnfdncaaGreatDoor
