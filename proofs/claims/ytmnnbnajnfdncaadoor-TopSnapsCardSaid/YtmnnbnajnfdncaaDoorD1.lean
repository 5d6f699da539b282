/- Plain data, and what it is that a value in memory reads as it. -/
import Derived.Test.YtmnnbnajnfdncaaDoorE4
set_option linter.unusedVariables false
set_option linter.unusedSimpArgs false
namespace Go.Proofs.YtmnnbnajnfdncaaDoor
open Go.RowKit E

structure PairD where
  key : ByteArray
  val : ByteArray
  deriving DecidableEq
structure NodeD where
  name : ByteArray
  h0 : Int
  h1 : Int
  h2 : Int
  labels : List PairD
  taints : List PairD
  deriving DecidableEq
structure TaskD where
  name : ByteArray
  n0 : Int
  n1 : Int
  n2 : Int
  wants : List PairD
  bears : List PairD
  group : ByteArray
  apart : ByteArray
  rank : Int
  deriving DecidableEq
structure BindD where
  task : ByteArray
  node : ByteArray
  deriving DecidableEq
structure BookD where
  nodes : List NodeD
  tasks : List TaskD
  binds : List BindD
  fence : Int
  deriving DecidableEq
structure OrderD where
  kind : Int
  node : NodeD
  task : TaskD
  name : ByteArray
  on : ByteArray
  fence : Int
  deriving DecidableEq

/-- What may lie where: by the kind of its block's elements. -/
abbrev FP := Nat → Nat → Prop
/-- A slice whose elements (of k cells, of 'bytes' bytes) read as xs; F: where they lie. -/
def RdS {α : Type} (F : FP) (w : World) (T k bytes : Nat) (R : (FP) → World → List Value → α → Prop) (v : Value) (xs : List α) : Prop :=
  ∃ A c, v = .slice A xs.length c ∧ xs.length ≤ c ∧ xs.length * bytes ≤ 140737488351232 ∧
    ∀ i x, xs[i]? = some x → ∃ p cs, A = some p ∧ F T p.block ∧ cs.length = k ∧ At w (p.add (i * k)) cs ∧ R F w cs x
def RPair (_F : FP) (_w : World) (cs : List Value) (x : PairD) : Prop := cs = [.string x.key, .string x.val]
abbrev RPairs (F : FP) (w : World) (v : Value) (xs : List PairD) : Prop := RdS F w 45 2 32 RPair v xs
def RNode (F : FP) (w : World) (cs : List Value) (x : NodeD) : Prop :=
  ∃ vl vt, cs = [.string x.name, .int .i64 x.h0, .int .i64 x.h1, .int .i64 x.h2, vl, vt] ∧ RPairs F w vl x.labels ∧ RPairs F w vt x.taints
def RTask (F : FP) (w : World) (cs : List Value) (x : TaskD) : Prop :=
  ∃ vw vb, cs = [.string x.name, .int .i64 x.n0, .int .i64 x.n1, .int .i64 x.n2, vw, vb, .string x.group, .string x.apart, .int .i64 x.rank] ∧ RPairs F w vw x.wants ∧ RPairs F w vb x.bears
def RBind (_F : FP) (_w : World) (cs : List Value) (x : BindD) : Prop := cs = [.string x.task, .string x.node]
abbrev RNodes (F : FP) (w : World) (v : Value) (xs : List NodeD) : Prop := RdS F w 32 6 88 RNode v xs
abbrev RTasks (F : FP) (w : World) (v : Value) (xs : List TaskD) : Prop := RdS F w 34 9 128 RTask v xs
abbrev RBinds (F : FP) (w : World) (v : Value) (xs : List BindD) : Prop := RdS F w 47 2 32 RBind v xs
def RBook (F : FP) (w : World) (cs : List Value) (x : BookD) : Prop :=
  ∃ vn vt vb, cs = [vn, vt, vb, .int .u64 x.fence] ∧ RNodes F w vn x.nodes ∧ RTasks F w vt x.tasks ∧ RBinds F w vb x.binds
def ROrder (F : FP) (w : World) (cs : List Value) (x : OrderD) : Prop :=
  ∃ cn ct, cs = .int .u8 x.kind :: cn ++ ct ++ [.string x.name, .string x.on, .int .u64 x.fence] ∧ RNode F w cn x.node ∧ RTask F w ct x.task
/-- Anywhere. -/
def Any : FP := fun _ _ => True

/-- What is preserved where nothing of F has turned. -/
def Stays (F : FP) (w w' : World) : Prop := ∀ t b, F t b → b < w.heap.size → w'.heap[b]? = w.heap[b]?
theorem Stays.ext {F : FP} {w w' : World} (h : Ext w w') : Stays F w w' := fun _ b _ hb => h.block b hb
theorem Stays.below {F : FP} {base : Nat} {w w' : World} (h : Below base w w') (hF : ∀ t b, F t b → b < base) : Stays F w w' := fun t b hb _ => h.block b (hF t b hb)
theorem Stays.only {F : FP} {B : Nat} {w w' : World} (h : Only B w w') (hF : ∀ t, ¬ F t B) : Stays F w w' := fun t b hb _ => h.block b (fun e => hF t (e ▸ hb))
theorem Stays.mono {F G : FP} {w w' : World} (h : Stays F w w') (hG : ∀ t b, G t b → F t b) : Stays G w w' := fun t b hb => h t b (hG t b hb)
theorem add_block (p : Addr) (k : Nat) : (p.add k).block = p.block := by unfold Addr.add; split <;> rfl
theorem At.stays {F : FP} {T : Nat} {w w' : World} {p : Addr} {cs : List Value} (h : At w p cs) (hs : Stays F w w') (hp : F T p.block) : At w' p cs := fun j v hv => by
  have h1 := h j v hv
  have hlt := World.block_lt_of_cell? w _ h1
  rw [World.cell?_of_block (w := w) (hs T _ (by rw [add_block]; exact hp) hlt)]
  exact h1
/-- A kind of reading that goes along. -/
structure Goes {α : Type} (R : (FP) → World → List Value → α → Prop) : Prop where
  stays : ∀ {F w w' cs x}, R F w cs x → Stays F w w' → R F w' cs x
  mono : ∀ {F G : FP} {w cs x}, R F w cs x → (∀ t b, F t b → G t b) → R G w cs x
theorem RdS.stays {α : Type} {R : (FP) → World → List Value → α → Prop} (hR : Goes R) {F : FP} {w w' : World} {T k bytes : Nat} {v : Value} {xs : List α} (h : RdS F w T k bytes R v xs) (hs : Stays F w w') : RdS F w' T k bytes R v xs := by
  obtain ⟨A, c, h1, h2, h3, h4⟩ := h
  refine ⟨A, c, h1, h2, h3, fun i x hx => ?_⟩
  obtain ⟨p, cs, a1, a2, a3, a4, a5⟩ := h4 i x hx
  exact ⟨p, cs, a1, a2, a3, At.stays a4 hs (by rw [add_block]; exact a2), hR.stays a5 hs⟩
theorem RdS.mono {α : Type} {R : (FP) → World → List Value → α → Prop} (hR : Goes R) {F G : FP} {w : World} {T k bytes : Nat} {v : Value} {xs : List α} (h : RdS F w T k bytes R v xs) (hG : ∀ t b, F t b → G t b) : RdS G w T k bytes R v xs := by
  obtain ⟨A, c, h1, h2, h3, h4⟩ := h
  refine ⟨A, c, h1, h2, h3, fun i x hx => ?_⟩
  obtain ⟨p, cs, a1, a2, a3, a4, a5⟩ := h4 i x hx
  exact ⟨p, cs, a1, hG _ _ a2, a3, a4, hR.mono a5 hG⟩
theorem RdS.to {α : Type} {R R' : (FP) → World → List Value → α → Prop} {F G : FP} {w w' : World} {T k bytes : Nat} {v : Value} {xs : List α} (h : RdS F w T k bytes R v xs) (hG : ∀ b, F T b → G T b) (hs : ∀ b, F T b → b < w.heap.size → w'.heap[b]? = w.heap[b]?)
    (hR : ∀ cs x, R F w cs x → R' G w' cs x) : RdS G w' T k bytes R' v xs := by
  obtain ⟨A, c, h1, h2, h3, h4⟩ := h
  refine ⟨A, c, h1, h2, h3, fun i x hx => ?_⟩
  obtain ⟨p, cs, a1, a2, a3, a4, a5⟩ := h4 i x hx
  exact ⟨p, cs, a1, hG _ a2, a3, At.stays (F := fun t b => t = T ∧ F T b) (T := T) a4 (fun t b hb => hs b hb.2) (by rw [add_block]; exact ⟨rfl, a2⟩), hR _ _ a5⟩
theorem RPair.goes : Goes RPair := ⟨fun h _ => h, fun h _ => h⟩
theorem RBind.goes : Goes RBind := ⟨fun h _ => h, fun h _ => h⟩
theorem RNode.goes : Goes RNode :=
  ⟨fun ⟨vl, vt, h1, h2, h3⟩ hs => ⟨vl, vt, h1, h2.stays RPair.goes hs, h3.stays RPair.goes hs⟩, fun ⟨vl, vt, h1, h2, h3⟩ hs => ⟨vl, vt, h1, h2.mono RPair.goes hs, h3.mono RPair.goes hs⟩⟩
theorem RTask.goes : Goes RTask :=
  ⟨fun ⟨vl, vt, h1, h2, h3⟩ hs => ⟨vl, vt, h1, h2.stays RPair.goes hs, h3.stays RPair.goes hs⟩, fun ⟨vl, vt, h1, h2, h3⟩ hs => ⟨vl, vt, h1, h2.mono RPair.goes hs, h3.mono RPair.goes hs⟩⟩
theorem RBook.goes : Goes RBook :=
  ⟨fun ⟨a, b, c, h1, h2, h3, h4⟩ hs => ⟨a, b, c, h1, h2.stays RNode.goes hs, h3.stays RTask.goes hs, h4.stays RBind.goes hs⟩,
   fun ⟨a, b, c, h1, h2, h3, h4⟩ hs => ⟨a, b, c, h1, h2.mono RNode.goes hs, h3.mono RTask.goes hs, h4.mono RBind.goes hs⟩⟩
theorem ROrder.goes : Goes ROrder :=
  ⟨fun ⟨a, b, h1, h2, h3⟩ hs => ⟨a, b, h1, RNode.goes.stays h2 hs, RTask.goes.stays h3 hs⟩,
   fun ⟨a, b, h1, h2, h3⟩ hs => ⟨a, b, h1, RNode.goes.mono h2 hs, RTask.goes.mono h3 hs⟩⟩
theorem RdS.ext {α : Type} {R : (FP) → World → List Value → α → Prop} (hR : Goes R) {F : FP} {w w' : World} {T k bytes : Nat} {v : Value} {xs : List α} (h : RdS F w T k bytes R v xs) (hs : Ext w w') : RdS F w' T k bytes R v xs := h.stays hR (Stays.ext hs)
/-- Opened: the value's shape, and each element. -/
theorem RdS.open_ {α : Type} {R : (FP) → World → List Value → α → Prop} {F : FP} {w : World} {T k bytes : Nat} {v : Value} {xs : List α} (h : RdS F w T k bytes R v xs) :
    ∃ A c, v = .slice A xs.length c ∧ xs.length ≤ c ∧ xs.length * bytes ≤ 140737488351232 ∧ ∀ i (hi : i < xs.length), ∃ p cs, A = some p ∧ F T p.block ∧ cs.length = k ∧ At w (p.add (i * k)) cs ∧ R F w cs xs[i] := by
  obtain ⟨A, c, h1, h2, h3, h4⟩ := h
  exact ⟨A, c, h1, h2, h3, fun i hi => h4 i xs[i] (List.getElem?_eq_getElem hi)⟩
theorem RdS.nil_ {α : Type} {R : (FP) → World → List Value → α → Prop} {F : FP} {w : World} {T k bytes : Nat} : RdS F w T k bytes R (.slice none 0 0) [] := ⟨none, 0, rfl, Nat.le_refl _, by simp, fun i x h => by simp at h⟩
theorem RdS.empty_ {α : Type} {R : (FP) → World → List Value → α → Prop} {F : FP} {w : World} {T k bytes : Nat} (A : Option Addr) (c : Nat) : RdS F w T k bytes R (.slice A 0 c) [] := ⟨A, c, rfl, Nat.zero_le _, by simp, fun i x h => by simp at h⟩
theorem RdS.one {α : Type} {R : (FP) → World → List Value → α → Prop} {F : FP} {w : World} {T k bytes : Nat} {v : Value} {xs : List α} (h : RdS F w T k bytes R v xs) : v.oneCell' = true := by
  obtain ⟨A, c, rfl, _⟩ := h; rfl
theorem RdS.len_le {α : Type} {R : (FP) → World → List Value → α → Prop} {F : FP} {w : World} {T k bytes : Nat} {v : Value} {xs : List α} (h : RdS F w T k bytes R v xs) : xs.length * bytes ≤ 140737488351232 := by
  obtain ⟨A, c, _, _, h, _⟩ := h; exact h
theorem RPair.one {F : FP} {w : World} {cs : List Value} {x : PairD} (h : RPair F w cs x) : ∀ u ∈ cs, u.oneCell' = true := by
  unfold RPair at h; subst h; exact allOne rfl
theorem RBind.one {F : FP} {w : World} {cs : List Value} {x : BindD} (h : RBind F w cs x) : ∀ u ∈ cs, u.oneCell' = true := by
  unfold RBind at h; subst h; exact allOne rfl
theorem RNode.one {F : FP} {w : World} {cs : List Value} {x : NodeD} (h : RNode F w cs x) : ∀ u ∈ cs, u.oneCell' = true := by
  obtain ⟨vl, vt, rfl, ⟨_, _, rfl, _⟩, ⟨_, _, rfl, _⟩⟩ := h; exact allOne rfl
theorem RTask.one {F : FP} {w : World} {cs : List Value} {x : TaskD} (h : RTask F w cs x) : ∀ u ∈ cs, u.oneCell' = true := by
  obtain ⟨vl, vt, rfl, ⟨_, _, rfl, _⟩, ⟨_, _, rfl, _⟩⟩ := h; exact allOne rfl
theorem RBook.one {F : FP} {w : World} {cs : List Value} {x : BookD} (h : RBook F w cs x) : ∀ u ∈ cs, u.oneCell' = true := by
  obtain ⟨vl, vt, vb, rfl, ⟨_, _, rfl, _⟩, ⟨_, _, rfl, _⟩, ⟨_, _, rfl, _⟩⟩ := h; exact allOne rfl
theorem ROrder.one {F : FP} {w : World} {cs : List Value} {x : OrderD} (h : ROrder F w cs x) : ∀ u ∈ cs, u.oneCell' = true := by
  obtain ⟨cn, ct, rfl, hn, ht⟩ := h
  intro u hu
  simp only [List.mem_cons, List.mem_append, List.cons_append, List.append_assoc] at hu
  rcases hu with rfl | hu | hu | rfl | rfl | rfl | hu
  · rfl
  · exact hn.one u hu
  · exact ht.one u hu
  · rfl
  · rfl
  · rfl
  · exact (List.not_mem_nil hu).elim
end Go.Proofs.YtmnnbnajnfdncaaDoor
