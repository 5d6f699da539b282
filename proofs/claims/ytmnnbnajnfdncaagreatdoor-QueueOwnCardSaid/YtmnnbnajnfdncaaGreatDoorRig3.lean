/- Walks: lists by a predicate; pairs, nodes, tasks; sums. -/
import Derived.Test.YtmnnbnajnfdncaaGreatDoorP3
import Derived.Test.YtmnnbnajnfdncaaGreatDoorD2
import Derived.Test.YtmnnbnajnfdncaaGreatDoorRig1
import Derived.Test.YtmnnbnajnfdncaaGreatDoorRig2
set_option linter.unusedVariables false
set_option linter.unusedSimpArgs false
namespace Go.Proofs.YtmnnbnajnfdncaaGreatDoor
open Go.RowKit E
set_option maxHeartbeats 400000 in
theorem indexFuncTask_calls {F : FP} {w : World} {v : Value} {xs : List TaskD} (h : RdS F w 34 9 128 RTask v xs) (p : TaskD → Bool) (g : FuncId) (cap : List Value) (he : ∀ (args : Array Value) (w : World), (callFunc g args).run Tryz.prog w = .ok (.enter g args) w) (hp : ∀ w', Ext w w' → ∀ i (hi : i < xs.length) cs, RTask F w' cs xs[i] → Calls Tryz.prog g ((.agg cs.toArray) :: cap).toArray w' (Ret fun u w'' => u = .bool (p xs[i]) ∧ Ext w' w'')) :
    Calls Tryz.prog 65 #[v, (.func (.func g) #[] cap.toArray)] w (Ret fun u w' => u = .int .i64 (idxBy p xs) ∧ Ext w w') := by
  obtain ⟨A, c, rfl, hc, hby, hg⟩ := h.open_
  have hb := E.Bx.start w (base := w.heap.size) (Nat.le_refl _)
  refine E.enter Tryz.func65 rfl Tryz.ntmps65 [(.slice A xs.length c), (.func (.func g) #[] cap.toArray)] rfl ?_
  refine E.W.seq ?_
  refine E.W.region ?_
  refine E.WL.val (E.y_assign rfl) rfl rfl rfl ?_
  refine E.WL.done ?_
  refine E.KQ.then_n ?_
  refine E.W.seq ?_
  refine E.W.seq ?_
  refine E.W.region ?_
  refine E.WL.val (E.y_move rfl) rfl rfl rfl ?_
  refine E.WL.val (E.y_lenS Tryz.underlying23 rfl) rfl rfl rfl ?_
  refine E.WL.val (E.y_move rfl) rfl rfl rfl ?_
  refine E.WL.done ?_
  refine E.KQ.then_n ?_
  refine E.W.block ?_
  refine E.W.loop (ι := Nat) (fun k => [(0, .slice A xs.length c), (1, .func (.func g) #[] cap.toArray), (7, .int .i64 xs.length), (8, .int .i64 (k : Nat))]) (fun k w' => Bx w.heap.size w w' [] ∧ k ≤ xs.length ∧ ∀ i (hi : i < xs.length), i < k → p xs[i] = false) (fun k => xs.length - k) (0) (by exact (.cons rfl (.cons rfl (.cons rfl (.cons rfl .nil))))) ⟨hb, Nat.zero_le _, fun i hi h' => by omega⟩ (fun k w1 hJ => ?_)
  clear hb
  obtain ⟨hb, hk, hall⟩ := hJ
  refine E.W.seq ?_
  refine E.W.region ?_
  refine E.WL.val (E.y_lss rfl rfl) rfl rfl rfl ?_
  refine E.WL.done ?_
  refine E.KQ.then_n ?_
  refine E.W.seq ?_
  refine E.W.condT 9 rfl (fun hc9 => ?_) (fun hc9 => ?_)
  · replace hc9 := of_decide_eq_true hc9
    refine E.W.skip ?_
    refine E.KQ.then_n ?_
    refine E.W.seq ?_
    refine E.W.block ?_
    refine E.W.seq ?_
    refine E.W.region ?_
    have hkl : k < xs.length := by omega
    obtain ⟨q, cs, hA, _, hl, hat, hr⟩ := hg k hkl
    subst hA
    replace hat := hat.ext hb.below
    replace hr := RTask.goes.stays hr (Stays.ext hb.below)
    refine E.WL.val (E.y_move rfl) rfl rfl rfl ?_
    refine E.WL.val (E.y_assign rfl) rfl rfl rfl ?_
    refine E.WL.done ?_
    refine E.KQ.then_n ?_
    refine E.W.seq ?_
    refine E.W.region ?_
    refine E.WL.val (E.y_move rfl) rfl rfl rfl ?_
    refine E.WL.val (E.y_move rfl) rfl rfl rfl ?_
    refine E.WL.val (E.y_move rfl) rfl rfl rfl ?_
    refine E.WL.val (E.y_idxS Tryz.underlying23 Tryz.sizeOf34 rfl rfl (by omega) (by omega)) rfl rfl rfl ?_
    refine E.WL.val (E.y_load rfl (E.At.ldk Tryz.isAgg34 Tryz.sizeOf34 hat hl)) rfl rfl rfl ?_
    refine E.WL.callv (hp w1 hb.below k hkl cs hr) rfl he rfl rfl rfl rfl ?_
    rintro _ w2 ⟨rfl, hX⟩
    replace hb := hb.ext hX
    clear hX
    refine E.WL.done ?_
    refine E.KQ.then_n ?_
    refine E.W.condT 16 rfl (fun hc16 => ?_) (fun hc16 => ?_)
    · skip
      refine E.W.seq ?_
      refine E.W.region ?_
      refine E.WL.val (E.y_move rfl) rfl rfl rfl ?_
      refine E.WL.val (E.y_assign rfl) rfl rfl rfl ?_
      refine E.WL.done ?_
      refine E.KQ.then_n ?_
      refine E.W.ret ?_
      refine E.KQ.block_r ?_
      refine E.KQ.then_r ?_
      refine E.KQ.loop_r ?_
      refine E.KQ.block_r ?_
      refine E.KQ.then_r ?_
      refine E.KQ.ret1 Tryz.results65 rfl ?_
      exact ⟨_, rfl, by rw [idxBy_hit hkl hc16 hall], hb.below⟩
    · skip
      refine E.W.skip ?_
      refine E.KQ.block_n ?_
      refine E.KQ.then_n ?_
      refine E.W.region ?_
      refine E.WL.val (E.y_add rfl rfl (Go.IntWalk.i64_in _ (by omega))) rfl rfl rfl ?_
      refine E.WL.val (E.y_move rfl) rfl rfl rfl ?_
      refine E.WL.done ?_
      refine E.KQ.next (k + 1) (by exact .cons rfl (.cons rfl (.cons rfl (.cons rfl .nil)))) ⟨hb, by omega, fun i hi h' => ?_⟩ (by show xs.length - (k + 1) < xs.length - k; omega)
      rcases Nat.eq_or_lt_of_le (Nat.le_of_lt_succ h') with e | e
      · subst e; exact hc16
      · exact hall i hi (by omega)
  · replace hc9 := of_decide_eq_false hc9
    refine E.W.exit ?_
    refine E.KQ.then_e ?_
    refine E.KQ.loop_e ?_
    refine E.KQ.block_e ?_
    refine E.KQ.then_n ?_
    refine E.W.seq ?_
    refine E.W.region ?_
    refine E.WL.val (E.y_assign rfl) rfl rfl rfl ?_
    refine E.WL.done ?_
    refine E.KQ.then_n ?_
    refine E.W.ret ?_
    refine E.KQ.ret1 Tryz.results65 rfl ?_
    exact ⟨_, rfl, by rw [idxBy_miss (fun i hi => hall i hi (by omega))], hb.below⟩

set_option maxHeartbeats 400000 in
theorem containsFuncTask_calls {F : FP} {w : World} {v : Value} {xs : List TaskD} (h : RdS F w 34 9 128 RTask v xs) (p : TaskD → Bool) (g : FuncId) (cap : List Value) (he : ∀ (args : Array Value) (w : World), (callFunc g args).run Tryz.prog w = .ok (.enter g args) w) (hp : ∀ w', Ext w w' → ∀ i (hi : i < xs.length) cs, RTask F w' cs xs[i] → Calls Tryz.prog g ((.agg cs.toArray) :: cap).toArray w' (Ret fun u w'' => u = .bool (p xs[i]) ∧ Ext w' w'')) :
    Calls Tryz.prog 40 #[v, (.func (.func g) #[] cap.toArray)] w (Ret fun u w' => u = .bool (xs.any p) ∧ Ext w w') := by
  have hb := E.Bx.start w (base := w.heap.size) (Nat.le_refl _)
  refine E.enter Tryz.func40 rfl Tryz.ntmps40 [v, (.func (.func g) #[] cap.toArray)] rfl ?_
  refine E.W.seq ?_
  refine E.W.region ?_
  refine E.WL.val (E.y_assign rfl) rfl rfl rfl ?_
  refine E.WL.done ?_
  refine E.KQ.then_n ?_
  refine E.W.seq ?_
  refine E.W.region ?_
  refine E.WL.val (E.y_move rfl) rfl rfl rfl ?_
  refine E.WL.val (E.y_move rfl) rfl rfl rfl ?_
  refine E.WL.call (indexFuncTask_calls (h.ext RTask.goes hb.below) p g cap he (fun w' hw i hi cs hr => hp w' (hb.below.trans hw) i hi cs hr)) Tryz.call65 rfl rfl rfl ?_
  rintro _ w1 ⟨rfl, hX⟩
  replace hb := hb.ext hX
  clear hX
  refine E.WL.val (E.y_geq rfl rfl) rfl rfl rfl ?_
  refine E.WL.val (E.y_assign rfl) rfl rfl rfl ?_
  refine E.WL.done ?_
  refine E.KQ.then_n ?_
  refine E.W.ret ?_
  refine E.KQ.ret1 Tryz.results40 rfl ?_
  exact ⟨_, rfl, by rw [idxBy_any], hb.below⟩

set_option maxHeartbeats 400000 in
theorem indexFuncNode_calls {F : FP} {w : World} {v : Value} {xs : List NodeD} (h : RdS F w 32 6 88 RNode v xs) (p : NodeD → Bool) (g : FuncId) (cap : List Value) (he : ∀ (args : Array Value) (w : World), (callFunc g args).run Tryz.prog w = .ok (.enter g args) w) (hp : ∀ w', Ext w w' → ∀ i (hi : i < xs.length) cs, RNode F w' cs xs[i] → Calls Tryz.prog g ((.agg cs.toArray) :: cap).toArray w' (Ret fun u w'' => u = .bool (p xs[i]) ∧ Ext w' w'')) :
    Calls Tryz.prog 76 #[v, (.func (.func g) #[] cap.toArray)] w (Ret fun u w' => u = .int .i64 (idxBy p xs) ∧ Ext w w') := by
  obtain ⟨A, c, rfl, hc, hby, hg⟩ := h.open_
  have hb := E.Bx.start w (base := w.heap.size) (Nat.le_refl _)
  refine E.enter Tryz.func76 rfl Tryz.ntmps76 [(.slice A xs.length c), (.func (.func g) #[] cap.toArray)] rfl ?_
  refine E.W.seq ?_
  refine E.W.region ?_
  refine E.WL.val (E.y_assign rfl) rfl rfl rfl ?_
  refine E.WL.done ?_
  refine E.KQ.then_n ?_
  refine E.W.seq ?_
  refine E.W.seq ?_
  refine E.W.region ?_
  refine E.WL.val (E.y_move rfl) rfl rfl rfl ?_
  refine E.WL.val (E.y_lenS Tryz.underlying22 rfl) rfl rfl rfl ?_
  refine E.WL.val (E.y_move rfl) rfl rfl rfl ?_
  refine E.WL.done ?_
  refine E.KQ.then_n ?_
  refine E.W.block ?_
  refine E.W.loop (ι := Nat) (fun k => [(0, .slice A xs.length c), (1, .func (.func g) #[] cap.toArray), (7, .int .i64 xs.length), (8, .int .i64 (k : Nat))]) (fun k w' => Bx w.heap.size w w' [] ∧ k ≤ xs.length ∧ ∀ i (hi : i < xs.length), i < k → p xs[i] = false) (fun k => xs.length - k) (0) (by exact (.cons rfl (.cons rfl (.cons rfl (.cons rfl .nil))))) ⟨hb, Nat.zero_le _, fun i hi h' => by omega⟩ (fun k w1 hJ => ?_)
  clear hb
  obtain ⟨hb, hk, hall⟩ := hJ
  refine E.W.seq ?_
  refine E.W.region ?_
  refine E.WL.val (E.y_lss rfl rfl) rfl rfl rfl ?_
  refine E.WL.done ?_
  refine E.KQ.then_n ?_
  refine E.W.seq ?_
  refine E.W.condT 9 rfl (fun hc9 => ?_) (fun hc9 => ?_)
  · replace hc9 := of_decide_eq_true hc9
    refine E.W.skip ?_
    refine E.KQ.then_n ?_
    refine E.W.seq ?_
    refine E.W.block ?_
    refine E.W.seq ?_
    refine E.W.region ?_
    have hkl : k < xs.length := by omega
    obtain ⟨q, cs, hA, _, hl, hat, hr⟩ := hg k hkl
    subst hA
    replace hat := hat.ext hb.below
    replace hr := RNode.goes.stays hr (Stays.ext hb.below)
    refine E.WL.val (E.y_move rfl) rfl rfl rfl ?_
    refine E.WL.val (E.y_assign rfl) rfl rfl rfl ?_
    refine E.WL.done ?_
    refine E.KQ.then_n ?_
    refine E.W.seq ?_
    refine E.W.region ?_
    refine E.WL.val (E.y_move rfl) rfl rfl rfl ?_
    refine E.WL.val (E.y_move rfl) rfl rfl rfl ?_
    refine E.WL.val (E.y_move rfl) rfl rfl rfl ?_
    refine E.WL.val (E.y_idxS Tryz.underlying22 Tryz.sizeOf32 rfl rfl (by omega) (by omega)) rfl rfl rfl ?_
    refine E.WL.val (E.y_load rfl (E.At.ldk Tryz.isAgg32 Tryz.sizeOf32 hat hl)) rfl rfl rfl ?_
    refine E.WL.callv (hp w1 hb.below k hkl cs hr) rfl he rfl rfl rfl rfl ?_
    rintro _ w2 ⟨rfl, hX⟩
    replace hb := hb.ext hX
    clear hX
    refine E.WL.done ?_
    refine E.KQ.then_n ?_
    refine E.W.condT 16 rfl (fun hc16 => ?_) (fun hc16 => ?_)
    · skip
      refine E.W.seq ?_
      refine E.W.region ?_
      refine E.WL.val (E.y_move rfl) rfl rfl rfl ?_
      refine E.WL.val (E.y_assign rfl) rfl rfl rfl ?_
      refine E.WL.done ?_
      refine E.KQ.then_n ?_
      refine E.W.ret ?_
      refine E.KQ.block_r ?_
      refine E.KQ.then_r ?_
      refine E.KQ.loop_r ?_
      refine E.KQ.block_r ?_
      refine E.KQ.then_r ?_
      refine E.KQ.ret1 Tryz.results76 rfl ?_
      exact ⟨_, rfl, by rw [idxBy_hit hkl hc16 hall], hb.below⟩
    · skip
      refine E.W.skip ?_
      refine E.KQ.block_n ?_
      refine E.KQ.then_n ?_
      refine E.W.region ?_
      refine E.WL.val (E.y_add rfl rfl (Go.IntWalk.i64_in _ (by omega))) rfl rfl rfl ?_
      refine E.WL.val (E.y_move rfl) rfl rfl rfl ?_
      refine E.WL.done ?_
      refine E.KQ.next (k + 1) (by exact .cons rfl (.cons rfl (.cons rfl (.cons rfl .nil)))) ⟨hb, by omega, fun i hi h' => ?_⟩ (by show xs.length - (k + 1) < xs.length - k; omega)
      rcases Nat.eq_or_lt_of_le (Nat.le_of_lt_succ h') with e | e
      · subst e; exact hc16
      · exact hall i hi (by omega)
  · replace hc9 := of_decide_eq_false hc9
    refine E.W.exit ?_
    refine E.KQ.then_e ?_
    refine E.KQ.loop_e ?_
    refine E.KQ.block_e ?_
    refine E.KQ.then_n ?_
    refine E.W.seq ?_
    refine E.W.region ?_
    refine E.WL.val (E.y_assign rfl) rfl rfl rfl ?_
    refine E.WL.done ?_
    refine E.KQ.then_n ?_
    refine E.W.ret ?_
    refine E.KQ.ret1 Tryz.results76 rfl ?_
    exact ⟨_, rfl, by rw [idxBy_miss (fun i hi => hall i hi (by omega))], hb.below⟩

set_option maxHeartbeats 400000 in
theorem containsFuncNode_calls {F : FP} {w : World} {v : Value} {xs : List NodeD} (h : RdS F w 32 6 88 RNode v xs) (p : NodeD → Bool) (g : FuncId) (cap : List Value) (he : ∀ (args : Array Value) (w : World), (callFunc g args).run Tryz.prog w = .ok (.enter g args) w) (hp : ∀ w', Ext w w' → ∀ i (hi : i < xs.length) cs, RNode F w' cs xs[i] → Calls Tryz.prog g ((.agg cs.toArray) :: cap).toArray w' (Ret fun u w'' => u = .bool (p xs[i]) ∧ Ext w' w'')) :
    Calls Tryz.prog 37 #[v, (.func (.func g) #[] cap.toArray)] w (Ret fun u w' => u = .bool (xs.any p) ∧ Ext w w') := by
  have hb := E.Bx.start w (base := w.heap.size) (Nat.le_refl _)
  refine E.enter Tryz.func37 rfl Tryz.ntmps37 [v, (.func (.func g) #[] cap.toArray)] rfl ?_
  refine E.W.seq ?_
  refine E.W.region ?_
  refine E.WL.val (E.y_assign rfl) rfl rfl rfl ?_
  refine E.WL.done ?_
  refine E.KQ.then_n ?_
  refine E.W.seq ?_
  refine E.W.region ?_
  refine E.WL.val (E.y_move rfl) rfl rfl rfl ?_
  refine E.WL.val (E.y_move rfl) rfl rfl rfl ?_
  refine E.WL.call (indexFuncNode_calls (h.ext RNode.goes hb.below) p g cap he (fun w' hw i hi cs hr => hp w' (hb.below.trans hw) i hi cs hr)) Tryz.call76 rfl rfl rfl ?_
  rintro _ w1 ⟨rfl, hX⟩
  replace hb := hb.ext hX
  clear hX
  refine E.WL.val (E.y_geq rfl rfl) rfl rfl rfl ?_
  refine E.WL.val (E.y_assign rfl) rfl rfl rfl ?_
  refine E.WL.done ?_
  refine E.KQ.then_n ?_
  refine E.W.ret ?_
  refine E.KQ.ret1 Tryz.results37 rfl ?_
  exact ⟨_, rfl, by rw [idxBy_any], hb.below⟩

set_option maxHeartbeats 400000 in
theorem indexFuncBind_calls {F : FP} {w : World} {v : Value} {xs : List BindD} (h : RdS F w 47 2 32 RBind v xs) (p : BindD → Bool) (g : FuncId) (cap : List Value) (he : ∀ (args : Array Value) (w : World), (callFunc g args).run Tryz.prog w = .ok (.enter g args) w) (hp : ∀ w', Ext w w' → ∀ i (hi : i < xs.length) cs, RBind F w' cs xs[i] → Calls Tryz.prog g ((.agg cs.toArray) :: cap).toArray w' (Ret fun u w'' => u = .bool (p xs[i]) ∧ Ext w' w'')) :
    Calls Tryz.prog 69 #[v, (.func (.func g) #[] cap.toArray)] w (Ret fun u w' => u = .int .i64 (idxBy p xs) ∧ Ext w w') := by
  obtain ⟨A, c, rfl, hc, hby, hg⟩ := h.open_
  have hb := E.Bx.start w (base := w.heap.size) (Nat.le_refl _)
  refine E.enter Tryz.func69 rfl Tryz.ntmps69 [(.slice A xs.length c), (.func (.func g) #[] cap.toArray)] rfl ?_
  refine E.W.seq ?_
  refine E.W.region ?_
  refine E.WL.val (E.y_assign rfl) rfl rfl rfl ?_
  refine E.WL.done ?_
  refine E.KQ.then_n ?_
  refine E.W.seq ?_
  refine E.W.seq ?_
  refine E.W.region ?_
  refine E.WL.val (E.y_move rfl) rfl rfl rfl ?_
  refine E.WL.val (E.y_lenS Tryz.underlying24 rfl) rfl rfl rfl ?_
  refine E.WL.val (E.y_move rfl) rfl rfl rfl ?_
  refine E.WL.done ?_
  refine E.KQ.then_n ?_
  refine E.W.block ?_
  refine E.W.loop (ι := Nat) (fun k => [(0, .slice A xs.length c), (1, .func (.func g) #[] cap.toArray), (7, .int .i64 xs.length), (8, .int .i64 (k : Nat))]) (fun k w' => Bx w.heap.size w w' [] ∧ k ≤ xs.length ∧ ∀ i (hi : i < xs.length), i < k → p xs[i] = false) (fun k => xs.length - k) (0) (by exact (.cons rfl (.cons rfl (.cons rfl (.cons rfl .nil))))) ⟨hb, Nat.zero_le _, fun i hi h' => by omega⟩ (fun k w1 hJ => ?_)
  clear hb
  obtain ⟨hb, hk, hall⟩ := hJ
  refine E.W.seq ?_
  refine E.W.region ?_
  refine E.WL.val (E.y_lss rfl rfl) rfl rfl rfl ?_
  refine E.WL.done ?_
  refine E.KQ.then_n ?_
  refine E.W.seq ?_
  refine E.W.condT 9 rfl (fun hc9 => ?_) (fun hc9 => ?_)
  · replace hc9 := of_decide_eq_true hc9
    refine E.W.skip ?_
    refine E.KQ.then_n ?_
    refine E.W.seq ?_
    refine E.W.block ?_
    refine E.W.seq ?_
    refine E.W.region ?_
    have hkl : k < xs.length := by omega
    obtain ⟨q, cs, hA, _, hl, hat, hr⟩ := hg k hkl
    subst hA
    replace hat := hat.ext hb.below
    replace hr := RBind.goes.stays hr (Stays.ext hb.below)
    refine E.WL.val (E.y_move rfl) rfl rfl rfl ?_
    refine E.WL.val (E.y_assign rfl) rfl rfl rfl ?_
    refine E.WL.done ?_
    refine E.KQ.then_n ?_
    refine E.W.seq ?_
    refine E.W.region ?_
    refine E.WL.val (E.y_move rfl) rfl rfl rfl ?_
    refine E.WL.val (E.y_move rfl) rfl rfl rfl ?_
    refine E.WL.val (E.y_move rfl) rfl rfl rfl ?_
    refine E.WL.val (E.y_idxS Tryz.underlying24 Tryz.sizeOf47 rfl rfl (by omega) (by omega)) rfl rfl rfl ?_
    refine E.WL.val (E.y_load rfl (E.At.ldk Tryz.isAgg47 Tryz.sizeOf47 hat hl)) rfl rfl rfl ?_
    refine E.WL.callv (hp w1 hb.below k hkl cs hr) rfl he rfl rfl rfl rfl ?_
    rintro _ w2 ⟨rfl, hX⟩
    replace hb := hb.ext hX
    clear hX
    refine E.WL.done ?_
    refine E.KQ.then_n ?_
    refine E.W.condT 16 rfl (fun hc16 => ?_) (fun hc16 => ?_)
    · skip
      refine E.W.seq ?_
      refine E.W.region ?_
      refine E.WL.val (E.y_move rfl) rfl rfl rfl ?_
      refine E.WL.val (E.y_assign rfl) rfl rfl rfl ?_
      refine E.WL.done ?_
      refine E.KQ.then_n ?_
      refine E.W.ret ?_
      refine E.KQ.block_r ?_
      refine E.KQ.then_r ?_
      refine E.KQ.loop_r ?_
      refine E.KQ.block_r ?_
      refine E.KQ.then_r ?_
      refine E.KQ.ret1 Tryz.results69 rfl ?_
      exact ⟨_, rfl, by rw [idxBy_hit hkl hc16 hall], hb.below⟩
    · skip
      refine E.W.skip ?_
      refine E.KQ.block_n ?_
      refine E.KQ.then_n ?_
      refine E.W.region ?_
      refine E.WL.val (E.y_add rfl rfl (Go.IntWalk.i64_in _ (by omega))) rfl rfl rfl ?_
      refine E.WL.val (E.y_move rfl) rfl rfl rfl ?_
      refine E.WL.done ?_
      refine E.KQ.next (k + 1) (by exact .cons rfl (.cons rfl (.cons rfl (.cons rfl .nil)))) ⟨hb, by omega, fun i hi h' => ?_⟩ (by show xs.length - (k + 1) < xs.length - k; omega)
      rcases Nat.eq_or_lt_of_le (Nat.le_of_lt_succ h') with e | e
      · subst e; exact hc16
      · exact hall i hi (by omega)
  · replace hc9 := of_decide_eq_false hc9
    refine E.W.exit ?_
    refine E.KQ.then_e ?_
    refine E.KQ.loop_e ?_
    refine E.KQ.block_e ?_
    refine E.KQ.then_n ?_
    refine E.W.seq ?_
    refine E.W.region ?_
    refine E.WL.val (E.y_assign rfl) rfl rfl rfl ?_
    refine E.WL.done ?_
    refine E.KQ.then_n ?_
    refine E.W.ret ?_
    refine E.KQ.ret1 Tryz.results69 rfl ?_
    exact ⟨_, rfl, by rw [idxBy_miss (fun i hi => hall i hi (by omega))], hb.below⟩

set_option maxHeartbeats 400000 in
theorem containsFuncBind_calls {F : FP} {w : World} {v : Value} {xs : List BindD} (h : RdS F w 47 2 32 RBind v xs) (p : BindD → Bool) (g : FuncId) (cap : List Value) (he : ∀ (args : Array Value) (w : World), (callFunc g args).run Tryz.prog w = .ok (.enter g args) w) (hp : ∀ w', Ext w w' → ∀ i (hi : i < xs.length) cs, RBind F w' cs xs[i] → Calls Tryz.prog g ((.agg cs.toArray) :: cap).toArray w' (Ret fun u w'' => u = .bool (p xs[i]) ∧ Ext w' w'')) :
    Calls Tryz.prog 26 #[v, (.func (.func g) #[] cap.toArray)] w (Ret fun u w' => u = .bool (xs.any p) ∧ Ext w w') := by
  have hb := E.Bx.start w (base := w.heap.size) (Nat.le_refl _)
  refine E.enter Tryz.func26 rfl Tryz.ntmps26 [v, (.func (.func g) #[] cap.toArray)] rfl ?_
  refine E.W.seq ?_
  refine E.W.region ?_
  refine E.WL.val (E.y_assign rfl) rfl rfl rfl ?_
  refine E.WL.done ?_
  refine E.KQ.then_n ?_
  refine E.W.seq ?_
  refine E.W.region ?_
  refine E.WL.val (E.y_move rfl) rfl rfl rfl ?_
  refine E.WL.val (E.y_move rfl) rfl rfl rfl ?_
  refine E.WL.call (indexFuncBind_calls (h.ext RBind.goes hb.below) p g cap he (fun w' hw i hi cs hr => hp w' (hb.below.trans hw) i hi cs hr)) Tryz.call69 rfl rfl rfl ?_
  rintro _ w1 ⟨rfl, hX⟩
  replace hb := hb.ext hX
  clear hX
  refine E.WL.val (E.y_geq rfl rfl) rfl rfl rfl ?_
  refine E.WL.val (E.y_assign rfl) rfl rfl rfl ?_
  refine E.WL.done ?_
  refine E.KQ.then_n ?_
  refine E.W.ret ?_
  refine E.KQ.ret1 Tryz.results26 rfl ?_
  exact ⟨_, rfl, by rw [idxBy_any], hb.below⟩

set_option maxHeartbeats 400000 in
theorem within_calls {F G : FP} {w : World} {v1 v2 : Value} {xs ys : List PairD} (h1 : RPairs F w v1 xs) (h2 : RPairs G w v2 ys) :
    Calls Tryz.prog 116 #[v1, v2] w (Ret fun u w' => u = .bool (within xs ys) ∧ Ext w w') := by
  obtain ⟨A, c, rfl, hc, hby, hg⟩ := h1.open_
  obtain ⟨A', c', rfl, hc', hby', hg'⟩ := h2.open_
  have hb := E.Bx.start w (base := w.heap.size) (Nat.le_refl _)
  refine E.enter Tryz.func116 rfl Tryz.ntmps116 [(.slice A xs.length c), (.slice A' ys.length c')] rfl ?_
  refine E.W.seq ?_
  refine E.W.region ?_
  refine E.WL.val (E.y_assign rfl) rfl rfl rfl ?_
  refine E.WL.done ?_
  refine E.KQ.then_n ?_
  refine E.W.scope ?_
  refine E.W.seq ?_
  refine E.W.label ?_
  refine E.KQ.then_n ?_
  refine E.W.seq ?_
  refine E.W.seq ?_
  refine E.W.region ?_
  refine E.WL.val (E.y_move rfl) rfl rfl rfl ?_
  refine E.WL.val (E.y_lenS Tryz.underlying30 rfl) rfl rfl rfl ?_
  refine E.WL.val (E.y_move rfl) rfl rfl rfl ?_
  refine E.WL.done ?_
  refine E.KQ.then_n ?_
  refine E.W.block ?_
  refine E.W.loop (ι := Nat) (fun k => [(0, .slice A xs.length c), (1, .slice A' ys.length c'), (9, .slice A xs.length c), (10, .int .i64 xs.length), (11, .int .i64 (k : Nat))]) (fun k w' => Bx w.heap.size w w' [] ∧ k ≤ xs.length ∧ within xs ys = within (xs.drop k) ys) (fun k => xs.length - k) (0) (by exact (.cons rfl (.cons rfl (.cons rfl (.cons rfl (.cons rfl .nil)))))) ⟨hb, Nat.zero_le _, by simp⟩ (fun k w1 hJ => ?_)
  clear hb
  obtain ⟨hb, hk, ho⟩ := hJ
  refine E.W.seq ?_
  refine E.W.region ?_
  refine E.WL.val (E.y_lss rfl rfl) rfl rfl rfl ?_
  refine E.WL.done ?_
  refine E.KQ.then_n ?_
  refine E.W.seq ?_
  refine E.W.condT 12 rfl (fun hc12 => ?_) (fun hc12 => ?_)
  · replace hc12 := of_decide_eq_true hc12
    refine E.W.skip ?_
    refine E.KQ.then_n ?_
    refine E.W.seq ?_
    refine E.W.block ?_
    refine E.W.seq ?_
    refine E.W.region ?_
    have hkl : k < xs.length := by omega
    obtain ⟨q, cs, hA, _, hl, hat, hr⟩ := hg k hkl
    subst hA
    unfold RPair at hr
    subst hr
    replace hat := hat.ext hb.below
    refine E.WL.val (E.y_idxS Tryz.underlying30 Tryz.sizeOf45 rfl rfl (by omega) (by omega)) rfl rfl rfl ?_
    refine E.WL.val (E.y_load rfl (E.At.ldk Tryz.isAgg45 Tryz.sizeOf45 hat rfl)) rfl rfl rfl ?_
    refine E.WL.alloc hb Tryz.zeroValue45 rfl rfl rfl ?_
    clear hb; intro B6 w3 hb _ _
    refine E.WL.storeW hb 0 rfl rfl rfl Tryz.sizeOf45 rfl rfl rfl (E.allOne rfl) rfl ?_
    clear hb; intro w4 hb _
    refine E.WL.done ?_
    refine E.KQ.then_n ?_
    refine E.W.seq ?_
    refine E.W.seq ?_
    refine E.W.region ?_
    refine E.WL.val (E.y_move rfl) rfl rfl rfl ?_
    refine E.WL.val (E.y_lenS Tryz.underlying30 rfl) rfl rfl rfl ?_
    refine E.WL.val (E.y_move rfl) rfl rfl rfl ?_
    refine E.WL.done ?_
    refine E.KQ.then_n ?_
    refine E.W.block ?_
    refine E.W.loop (ι := Nat) (fun j => [(0, .slice (some q) xs.length c), (1, .slice A' ys.length c'), (9, .slice (some q) xs.length c), (10, .int .i64 xs.length), (11, .int .i64 (k : Nat)), (6, .pointer (some ⟨B6, 0, none⟩)), (15, .slice A' ys.length c'), (16, .int .i64 ys.length), (17, .int .i64 (j : Nat))]) (fun j w' => Bx w.heap.size w w' [(B6, [.string xs[k].key, .string xs[k].val], 45)] ∧ j ≤ ys.length ∧ (ys.any fun q => decide (xs[k] = q)) = ((ys.drop j).any fun q => decide (xs[k] = q))) (fun j => ys.length - j) (0) (by exact (.cons rfl (.cons rfl (.cons rfl (.cons rfl (.cons rfl (.cons rfl (.cons rfl (.cons rfl (.cons rfl .nil)))))))))) ⟨hb, Nat.zero_le _, by simp⟩ (fun j w5 hJ => ?_)
    clear hb
    obtain ⟨hb, hj, hin2⟩ := hJ
    refine E.W.seq ?_
    refine E.W.region ?_
    refine E.WL.val (E.y_lss rfl rfl) rfl rfl rfl ?_
    refine E.WL.done ?_
    refine E.KQ.then_n ?_
    refine E.W.seq ?_
    refine E.W.condT 18 rfl (fun hc18 => ?_) (fun hc18 => ?_)
    · replace hc18 := of_decide_eq_true hc18
      refine E.W.skip ?_
      refine E.KQ.then_n ?_
      refine E.W.seq ?_
      refine E.W.block ?_
      refine E.W.seq ?_
      refine E.W.region ?_
      have hjl : j < ys.length := by omega
      obtain ⟨q', cs', hA', _, hl', hat', hr'⟩ := hg' j hjl
      subst hA'
      unfold RPair at hr'
      subst hr'
      replace hat' := hat'.ext hb.below
      refine E.WL.val (E.y_idxS Tryz.underlying30 Tryz.sizeOf45 rfl rfl (by omega) (by omega)) rfl rfl rfl ?_
      refine E.WL.val (E.y_load rfl (E.At.ldk Tryz.isAgg45 Tryz.sizeOf45 hat' rfl)) rfl rfl rfl ?_
      refine E.WL.alloc hb Tryz.zeroValue45 rfl rfl rfl ?_
      clear hb; intro B6 w7 hb _ _
      refine E.WL.storeW hb 0 rfl rfl rfl Tryz.sizeOf45 rfl rfl rfl (E.allOne rfl) rfl ?_
      clear hb; intro w8 hb _
      refine E.WL.done ?_
      refine E.KQ.then_n ?_
      refine E.W.seq ?_
      refine E.W.region ?_
      refine E.WL.val (E.y_load rfl (E.At.ldk Tryz.isAgg45 Tryz.sizeOf45 (hb.at0 1 rfl) rfl)) rfl rfl rfl ?_
      refine E.WL.val (E.y_load rfl (E.At.ldk Tryz.isAgg45 Tryz.sizeOf45 (hb.at0 0 rfl) rfl)) rfl rfl rfl ?_
      refine E.WL.val (E.y_op2 (run_eq_pair _ _ _) (run_eqGuard_agg _ _ _ _ _ _ _ Tryz.eqGuardType45) rfl rfl) rfl rfl rfl ?_
      refine E.WL.done ?_
      refine E.KQ.then_n ?_
      refine E.W.condT 23 rfl (fun hc23 => ?_) (fun hc23 => ?_)
      · skip
        have hin : xs[k] = ys[j] := of_decide_eq_true hc23
        refine E.W.exit ?_
        refine E.KQ.block_o rfl ?_
        refine E.KQ.then_e ?_
        refine E.KQ.loop_e ?_
        refine E.KQ.block_o rfl ?_
        refine E.KQ.then_e ?_
        refine E.KQ.block_e ?_
        refine E.KQ.then_n ?_
        refine E.W.region ?_
        refine E.WL.val (E.y_add rfl rfl (Go.IntWalk.i64_in _ (by omega))) rfl rfl rfl ?_
        refine E.WL.val (E.y_move rfl) rfl rfl rfl ?_
        refine E.WL.done ?_
        replace hb := hb.drop (List.Sublist.cons _ (List.Sublist.cons _ (List.Sublist.refl _)))
        refine E.KQ.next (k + 1) (by exact .cons rfl (.cons rfl (.cons rfl (.cons rfl (.cons rfl .nil))))) ⟨hb, by omega, ?_⟩ (by show xs.length - (k + 1) < xs.length - k; omega)
        rw [ho, within_get hkl, hin2, any_get hjl, show decide (xs[k] = ys[j]) = true from by simp [hin]]
        simp
      · skip
        have hin : ¬ xs[k] = ys[j] := of_decide_eq_false hc23
        refine E.W.skip ?_
        refine E.KQ.block_n ?_
        refine E.KQ.then_n ?_
        refine E.W.region ?_
        refine E.WL.val (E.y_add rfl rfl (Go.IntWalk.i64_in _ (by omega))) rfl rfl rfl ?_
        refine E.WL.val (E.y_move rfl) rfl rfl rfl ?_
        refine E.WL.done ?_
        replace hb := hb.drop (List.Sublist.cons _ (List.Sublist.refl _))
        refine E.KQ.next (j + 1) (by exact .cons rfl (.cons rfl (.cons rfl (.cons rfl (.cons rfl (.cons rfl (.cons rfl (.cons rfl (.cons rfl .nil))))))))) ⟨hb, by omega, ?_⟩ (by show ys.length - (j + 1) < ys.length - j; omega)
        rw [hin2, any_get hjl, show decide (xs[k] = ys[j]) = false from by simp [hin]]
        simp
    · replace hc18 := of_decide_eq_false hc18
      refine E.W.exit ?_
      refine E.KQ.then_e ?_
      refine E.KQ.loop_e ?_
      refine E.KQ.block_e ?_
      refine E.KQ.then_n ?_
      refine E.W.seq ?_
      refine E.W.region ?_
      refine E.WL.val (E.y_assign rfl) rfl rfl rfl ?_
      refine E.WL.done ?_
      refine E.KQ.then_n ?_
      refine E.W.ret ?_
      refine E.KQ.block_r ?_
      refine E.KQ.then_r ?_
      refine E.KQ.loop_r ?_
      refine E.KQ.block_r ?_
      refine E.KQ.then_r ?_
      refine E.KQ.goto_r ?_
      refine E.KQ.ret1 Tryz.results116 rfl ?_
      exact ⟨_, rfl, by rw [ho, within_get hkl, hin2, List.drop_eq_nil_of_le (by omega)]; rfl, hb.below⟩
  · replace hc12 := of_decide_eq_false hc12
    refine E.W.exit ?_
    refine E.KQ.then_e ?_
    refine E.KQ.loop_e ?_
    refine E.KQ.block_e ?_
    refine E.KQ.then_n ?_
    refine E.W.seq ?_
    refine E.W.region ?_
    refine E.WL.val (E.y_assign rfl) rfl rfl rfl ?_
    refine E.WL.done ?_
    refine E.KQ.then_n ?_
    refine E.W.ret ?_
    refine E.KQ.goto_r ?_
    refine E.KQ.ret1 Tryz.results116 rfl ?_
    exact ⟨_, rfl, by rw [ho, List.drop_eq_nil_of_le (by omega)]; rfl, hb.below⟩

set_option maxHeartbeats 400000 in
theorem suits_calls {F G : FP} {w : World} {ct cn : List Value} {t : TaskD} {n : NodeD} (h1 : RTask F w ct t) (h2 : RNode G w cn n) :
    Calls Tryz.prog 86 #[(.agg ct.toArray), (.agg cn.toArray)] w (Ret fun u w' => u = .bool (suits t n) ∧ Ext w w') := by
  obtain ⟨vw, vb, rfl, hw, hbr⟩ := h1
  obtain ⟨vl, vt, rfl, hl, ht⟩ := h2
  have hb := E.Bx.start w (base := w.heap.size) (Nat.le_refl _)
  refine E.enter Tryz.func86 rfl Tryz.ntmps86 [(.agg #[.string t.name, .int .i64 t.n0, .int .i64 t.n1, .int .i64 t.n2, vw, vb, .string t.group, .string t.apart, .int .i64 t.rank]), (.agg #[.string n.name, .int .i64 n.h0, .int .i64 n.h1, .int .i64 n.h2, vl, vt])] rfl ?_
  refine E.W.seq ?_
  refine E.W.region ?_
  obtain ⟨_, _, rfl, _⟩ := id hw
  obtain ⟨_, _, rfl, _⟩ := id hbr
  obtain ⟨_, _, rfl, _⟩ := id hl
  obtain ⟨_, _, rfl, _⟩ := id ht
  refine E.WL.box hb rfl rfl rfl rfl ?_
  clear hb; intro B1 w2 hb _ _
  refine E.WL.box hb rfl rfl rfl rfl ?_
  clear hb; intro B3 w4 hb _ _
  refine E.WL.val (E.y_assign rfl) rfl rfl rfl ?_
  refine E.WL.done ?_
  refine E.KQ.then_n ?_
  refine E.W.seq ?_
  refine E.W.region ?_
  refine E.WL.val (E.y_fld Tryz.underlying34 rfl Tryz.sizeOf30 rfl) rfl rfl rfl ?_
  refine E.WL.val (E.y_load rfl (E.At.ld1 Tryz.isAgg30 (hb.at0 1 rfl) 4 rfl)) rfl rfl rfl ?_
  refine E.WL.val (E.y_fld Tryz.underlying32 rfl Tryz.sizeOf30 rfl) rfl rfl rfl ?_
  refine E.WL.val (E.y_load rfl (E.At.ld1 Tryz.isAgg30 (hb.at0 0 rfl) 4 rfl)) rfl rfl rfl ?_
  refine E.WL.call (within_calls (hw.ext RPair.goes hb.below) (hl.ext RPair.goes hb.below)) Tryz.call116 rfl rfl rfl ?_
  rintro _ w5 ⟨rfl, hX⟩
  replace hb := hb.ext hX
  clear hX
  refine E.WL.val (E.y_move rfl) rfl rfl rfl ?_
  refine E.WL.split 10 rfl (fun hg10 => ?_) (fun hg10 => ?_)
  · skip
    refine E.WL.val (E.y_fld Tryz.underlying32 rfl Tryz.sizeOf30 rfl) rfl rfl rfl ?_
    refine E.WL.val (E.y_load rfl (E.At.ld1 Tryz.isAgg30 (hb.at0 0 rfl) 5 rfl)) rfl rfl rfl ?_
    refine E.WL.val (E.y_fld Tryz.underlying34 rfl Tryz.sizeOf30 rfl) rfl rfl rfl ?_
    refine E.WL.val (E.y_load rfl (E.At.ld1 Tryz.isAgg30 (hb.at0 1 rfl) 5 rfl)) rfl rfl rfl ?_
    refine E.WL.call (within_calls (ht.ext RPair.goes hb.below) (hbr.ext RPair.goes hb.below)) Tryz.call116 rfl rfl rfl ?_
    rintro _ w6 ⟨rfl, hX⟩
    replace hb := hb.ext hX
    clear hX
    refine E.WL.val (E.y_pick_t rfl rfl) rfl rfl rfl ?_
    refine E.WL.val (E.y_assign rfl) rfl rfl rfl ?_
    refine E.WL.done ?_
    refine E.KQ.then_n ?_
    refine E.W.ret ?_
    refine E.KQ.ret1 Tryz.results86 rfl ?_
    exact ⟨_, rfl, by simp [suits, hg10], hb.below⟩
  · skip
    refine E.WL.off rfl rfl rfl ?_
    refine E.WL.off rfl rfl rfl ?_
    refine E.WL.off rfl rfl rfl ?_
    refine E.WL.off rfl rfl rfl ?_
    refine E.WL.off rfl rfl rfl ?_
    refine E.WL.val (E.y_pick_f rfl rfl) rfl rfl rfl ?_
    refine E.WL.val (E.y_assign rfl) rfl rfl rfl ?_
    refine E.WL.done ?_
    refine E.KQ.then_n ?_
    refine E.W.ret ?_
    refine E.KQ.ret1 Tryz.results86 rfl ?_
    exact ⟨_, rfl, by simp [suits, hg10], hb.below⟩

set_option maxHeartbeats 400000 in
theorem pairs_calls {F : FP} {w : World} {v : Value} {xs : List PairD} (h : RPairs F w v xs) :
    Calls Tryz.prog 79 #[v] w (Ret fun u w' => u = .bool (pairB xs) ∧ Ext w w') := by
  obtain ⟨A, c, rfl, hc, hby, hg⟩ := h.open_
  have hb := E.Bx.start w (base := w.heap.size) (Nat.le_refl _)
  refine E.enter Tryz.func79 rfl Tryz.ntmps79 [(.slice A xs.length c)] rfl ?_
  refine E.W.seq ?_
  refine E.W.region ?_
  refine E.WL.val (E.y_assign rfl) rfl rfl rfl ?_
  refine E.WL.done ?_
  refine E.KQ.then_n ?_
  refine E.W.seq ?_
  refine E.W.seq ?_
  refine E.W.region ?_
  refine E.WL.val (E.y_move rfl) rfl rfl rfl ?_
  refine E.WL.val (E.y_lenS Tryz.underlying30 rfl) rfl rfl rfl ?_
  refine E.WL.val (E.y_move rfl) rfl rfl rfl ?_
  refine E.WL.done ?_
  refine E.KQ.then_n ?_
  refine E.W.block ?_
  refine E.W.loop (ι := Nat) (fun k => [(0, .slice A xs.length c), (5, .slice A xs.length c), (6, .int .i64 xs.length), (7, .int .i64 (k : Nat))]) (fun k w' => Bx w.heap.size w w' [] ∧ k ≤ xs.length ∧ ∀ i, i < k → okAt xs i = true) (fun k => xs.length - k) (0) (by exact (.cons rfl (.cons rfl (.cons rfl (.cons rfl .nil))))) ⟨hb, Nat.zero_le _, fun i h' => by omega⟩ (fun k w1 hJ => ?_)
  clear hb
  obtain ⟨hb, hk, hall⟩ := hJ
  refine E.W.seq ?_
  refine E.W.region ?_
  refine E.WL.val (E.y_lss rfl rfl) rfl rfl rfl ?_
  refine E.WL.done ?_
  refine E.KQ.then_n ?_
  refine E.W.seq ?_
  refine E.W.condT 8 rfl (fun hc8 => ?_) (fun hc8 => ?_)
  · replace hc8 := of_decide_eq_true hc8
    refine E.W.skip ?_
    refine E.KQ.then_n ?_
    refine E.W.seq ?_
    refine E.W.block ?_
    refine E.W.seq ?_
    refine E.W.region ?_
    have hkl : k < xs.length := by omega
    obtain ⟨q, cs, hA, _, hl, hat, hr⟩ := hg k hkl
    subst hA
    unfold RPair at hr
    subst hr
    replace hat := hat.ext hb.below
    refine E.WL.val (E.y_move rfl) rfl rfl rfl ?_
    refine E.WL.val (E.y_idxS Tryz.underlying30 Tryz.sizeOf45 rfl rfl (by omega) (by omega)) rfl rfl rfl ?_
    refine E.WL.val (E.y_load rfl (E.At.ldk Tryz.isAgg45 Tryz.sizeOf45 hat rfl)) rfl rfl rfl ?_
    refine E.WL.alloc hb Tryz.zeroValue45 rfl rfl rfl ?_
    clear hb; intro B2 w3 hb _ _
    refine E.WL.val (E.y_assign rfl) rfl rfl rfl ?_
    refine E.WL.storeW hb 0 rfl rfl rfl Tryz.sizeOf45 rfl rfl rfl (E.allOne rfl) rfl ?_
    clear hb; intro w4 hb _
    refine E.WL.done ?_
    refine E.KQ.then_n ?_
    refine E.W.seq ?_
    refine E.W.regionQ rfl (by kernel_rfl) ?_
    refine E.QL.val (fun w' hw => E.y_fld Tryz.underlying45 rfl Tryz.sizeOf9 rfl) rfl rfl rfl ?_
    refine E.QL.val (fun w' hw => E.y_load rfl (E.At.ld1 Tryz.isAgg9 ((hb.ext hw).at0 0 rfl) 0 rfl)) rfl rfl rfl ?_
    refine E.QL.call Tryz.call77 rfl (fun w' hw => E.quiet hw (name_calls w' xs[k].key)) rfl rfl ?_
    refine E.QL.val (fun w' hw => E.y_not rfl) rfl rfl rfl ?_
    refine E.QL.val (fun w' hw => E.y_move rfl) rfl rfl rfl ?_
    refine E.QL.split 16 rfl (fun h16 => ?_) (fun h16 => ?_)
    · replace h16 : nameB xs[k].key = false := by simpa using h16
      have hbad : pairB xs = false := pairB_bad hkl (okAt_name hkl h16)
      refine E.QL.off rfl rfl rfl ?_
      refine E.QL.off rfl rfl rfl ?_
      refine E.QL.off rfl rfl rfl ?_
      refine E.QL.off rfl rfl rfl ?_
      refine E.QL.val (fun w' hw => E.y_pick_t rfl rfl) rfl rfl rfl ?_
      refine E.QL.val (fun w' hw => E.y_move rfl) rfl rfl rfl ?_
      refine E.QL.off rfl rfl rfl ?_
      refine E.QL.off rfl rfl rfl ?_
      refine E.QL.off rfl rfl rfl ?_
      refine E.QL.off rfl rfl rfl ?_
      refine E.QL.off rfl rfl rfl ?_
      have hk1 : k - 1 < xs.length := by omega
      obtain ⟨q', cs', hA', _, hl', hat', hr'⟩ := hg (k - 1) hk1
      injection hA' with hA'
      subst hA'
      unfold RPair at hr'
      subst hr'
      replace hat' := hat'.ext hb.below
      refine E.QL.off rfl rfl rfl ?_
      refine E.QL.off rfl rfl rfl ?_
      refine E.QL.off rfl rfl rfl ?_
      refine E.QL.off rfl rfl rfl ?_
      refine E.QL.off rfl rfl rfl ?_
      refine E.QL.off rfl rfl rfl ?_
      refine E.QL.off rfl rfl rfl ?_
      refine E.QL.val (fun w' hw => E.y_pick_t rfl rfl) rfl rfl rfl ?_
      refine E.QL.end_ fun w5 hx => ?_
      replace hb := hb.ext hx
      clear hx
      refine E.KQ.then_n ?_
      refine E.W.cond_t rfl ?_
      refine E.W.seq ?_
      refine E.W.region ?_
      refine E.WL.val (E.y_assign rfl) rfl rfl rfl ?_
      refine E.WL.done ?_
      refine E.KQ.then_n ?_
      refine E.W.ret ?_
      refine E.KQ.block_r ?_
      refine E.KQ.then_r ?_
      refine E.KQ.loop_r ?_
      refine E.KQ.block_r ?_
      refine E.KQ.then_r ?_
      refine E.KQ.ret1 Tryz.results79 rfl ?_
      exact ⟨_, rfl, by rw [hbad], hb.below⟩
    · replace h16 : nameB xs[k].key = true := by simpa using h16
      refine E.QL.val (fun w' hw => E.y_fld Tryz.underlying45 rfl Tryz.sizeOf9 rfl) rfl rfl rfl ?_
      refine E.QL.val (fun w' hw => E.y_load rfl (E.At.ld1 Tryz.isAgg9 ((hb.ext hw).at0 0 rfl) 1 rfl)) rfl rfl rfl ?_
      refine E.QL.call Tryz.call80 rfl (fun w' hw => E.quiet hw (named_calls w' xs[k].val)) rfl rfl ?_
      refine E.QL.val (fun w' hw => E.y_not rfl) rfl rfl rfl ?_
      refine E.QL.val (fun w' hw => E.y_pick_f rfl rfl) rfl rfl rfl ?_
      refine E.QL.val (fun w' hw => E.y_move rfl) rfl rfl rfl ?_
      refine E.QL.split 22 rfl (fun h22 => ?_) (fun h22 => ?_)
      · replace h22 : namedB xs[k].val = false := by simpa using h22
        have hbad : pairB xs = false := pairB_bad hkl (okAt_val hkl h22)
        refine E.QL.off rfl rfl rfl ?_
        refine E.QL.off rfl rfl rfl ?_
        refine E.QL.off rfl rfl rfl ?_
        refine E.QL.off rfl rfl rfl ?_
        refine E.QL.off rfl rfl rfl ?_
        have hk1 : k - 1 < xs.length := by omega
        obtain ⟨q', cs', hA', _, hl', hat', hr'⟩ := hg (k - 1) hk1
        injection hA' with hA'
        subst hA'
        unfold RPair at hr'
        subst hr'
        replace hat' := hat'.ext hb.below
        refine E.QL.off rfl rfl rfl ?_
        refine E.QL.off rfl rfl rfl ?_
        refine E.QL.off rfl rfl rfl ?_
        refine E.QL.off rfl rfl rfl ?_
        refine E.QL.off rfl rfl rfl ?_
        refine E.QL.off rfl rfl rfl ?_
        refine E.QL.off rfl rfl rfl ?_
        refine E.QL.val (fun w' hw => E.y_pick_t rfl rfl) rfl rfl rfl ?_
        refine E.QL.end_ fun w6 hx => ?_
        replace hb := hb.ext hx
        clear hx
        refine E.KQ.then_n ?_
        refine E.W.cond_t rfl ?_
        refine E.W.seq ?_
        refine E.W.region ?_
        refine E.WL.val (E.y_assign rfl) rfl rfl rfl ?_
        refine E.WL.done ?_
        refine E.KQ.then_n ?_
        refine E.W.ret ?_
        refine E.KQ.block_r ?_
        refine E.KQ.then_r ?_
        refine E.KQ.loop_r ?_
        refine E.KQ.block_r ?_
        refine E.KQ.then_r ?_
        refine E.KQ.ret1 Tryz.results79 rfl ?_
        exact ⟨_, rfl, by rw [hbad], hb.below⟩
      · replace h22 : namedB xs[k].val = true := by simpa using h22
        refine E.QL.val (fun w' hw => E.y_move rfl) rfl rfl rfl ?_
        refine E.QL.val (fun w' hw => E.y_gtr rfl rfl) rfl rfl rfl ?_
        refine E.QL.val (fun w' hw => E.y_move rfl) rfl rfl rfl ?_
        refine E.QL.split 25 rfl (fun h25 => ?_) (fun h25 => ?_)
        · replace h25 : 0 < k := by simpa using h25
          refine E.QL.val (fun w' hw => E.y_move rfl) rfl rfl rfl ?_
          refine E.QL.val (fun w' hw => E.y_move rfl) rfl rfl rfl ?_
          have hk1 : k - 1 < xs.length := by omega
          obtain ⟨q', cs', hA', _, hl', hat', hr'⟩ := hg (k - 1) hk1
          injection hA' with hA'
          subst hA'
          unfold RPair at hr'
          subst hr'
          replace hat' := hat'.ext hb.below
          refine E.QL.val (fun w' hw => E.y_sub rfl rfl (Go.IntWalk.i64_in _ (by omega))) rfl rfl rfl ?_
          refine E.QL.as 28 rfl (show _ = Value.int .i64 ((k - 1 : Nat) : Int) from by rw [show ((k : Nat) : Int) - 1 = ((k - 1 : Nat) : Int) by omega]) ?_
          refine E.QL.val (fun w' hw => E.y_idxS Tryz.underlying30 Tryz.sizeOf45 rfl rfl (by omega) (by omega)) rfl rfl rfl ?_
          refine E.QL.val (fun w' hw => E.y_load rfl (E.At.ldk Tryz.isAgg45 Tryz.sizeOf45 (hat'.ext hw) rfl)) rfl rfl rfl ?_
          refine E.QL.val (fun w' hw => E.y_load rfl (E.At.ldk Tryz.isAgg45 Tryz.sizeOf45 ((hb.ext hw).at0 0 rfl) rfl)) rfl rfl rfl ?_
          refine E.QL.call Tryz.call115 rfl (fun w' hw => E.quiet hw (orderP_calls w' xs[k - 1] xs[k])) rfl rfl ?_
          refine E.QL.val (fun w' hw => E.y_geq rfl rfl) rfl rfl rfl ?_
          refine E.QL.val (fun w' hw => E.y_pick_t rfl rfl) rfl rfl rfl ?_
          refine E.QL.val (fun w' hw => E.y_pick_f rfl rfl) rfl rfl rfl ?_
          refine E.QL.end_ fun w7 hx => ?_
          replace hb := hb.ext hx
          clear hx
          refine E.KQ.then_n ?_
          refine E.W.condT 35 rfl (fun h35 => ?_) (fun h35 => ?_)
          · skip
            have hbad : pairB xs = false := pairB_bad hkl (okAt_ord hkl h25 (of_decide_eq_true h35))
            refine E.W.seq ?_
            refine E.W.region ?_
            refine E.WL.val (E.y_assign rfl) rfl rfl rfl ?_
            refine E.WL.done ?_
            refine E.KQ.then_n ?_
            refine E.W.ret ?_
            refine E.KQ.block_r ?_
            refine E.KQ.then_r ?_
            refine E.KQ.loop_r ?_
            refine E.KQ.block_r ?_
            refine E.KQ.then_r ?_
            refine E.KQ.ret1 Tryz.results79 rfl ?_
            exact ⟨_, rfl, by rw [hbad], hb.below⟩
          · skip
            have hok : okAt xs k = true := okAt_ok hkl h25 h16 h22 (of_decide_eq_false h35)
            refine E.W.skip ?_
            refine E.KQ.block_n ?_
            refine E.KQ.then_n ?_
            refine E.W.region ?_
            refine E.WL.val (E.y_add rfl rfl (Go.IntWalk.i64_in _ (by omega))) rfl rfl rfl ?_
            refine E.WL.val (E.y_move rfl) rfl rfl rfl ?_
            refine E.WL.done ?_
            replace hb := hb.drop (List.Sublist.cons _ (List.Sublist.refl _))
            refine E.KQ.next (k + 1) (by exact .cons rfl (.cons rfl (.cons rfl (.cons rfl .nil)))) ⟨hb, by omega, fun i h' => ?_⟩ (by show xs.length - (k + 1) < xs.length - k; omega)
            rcases Nat.eq_or_lt_of_le (Nat.le_of_lt_succ h') with e | e
            · subst e; exact hok
            · exact hall i e
        · replace h25 : k = 0 := by simpa using h25
          have hok : okAt xs k = true := okAt_zero hkl h25 h16 h22
          refine E.QL.off rfl rfl rfl ?_
          refine E.QL.off rfl rfl rfl ?_
          have hk1 : k - 1 < xs.length := by omega
          obtain ⟨q', cs', hA', _, hl', hat', hr'⟩ := hg (k - 1) hk1
          injection hA' with hA'
          subst hA'
          unfold RPair at hr'
          subst hr'
          replace hat' := hat'.ext hb.below
          refine E.QL.off rfl rfl rfl ?_
          refine E.QL.off rfl rfl rfl ?_
          refine E.QL.off rfl rfl rfl ?_
          refine E.QL.off rfl rfl rfl ?_
          refine E.QL.off rfl rfl rfl ?_
          refine E.QL.off rfl rfl rfl ?_
          refine E.QL.val (fun w' hw => E.y_pick_f rfl rfl) rfl rfl rfl ?_
          refine E.QL.val (fun w' hw => E.y_pick_f rfl rfl) rfl rfl rfl ?_
          refine E.QL.end_ fun w8 hx => ?_
          replace hb := hb.ext hx
          clear hx
          refine E.KQ.then_n ?_
          refine E.W.cond_f rfl ?_
          refine E.W.skip ?_
          refine E.KQ.block_n ?_
          refine E.KQ.then_n ?_
          refine E.W.region ?_
          refine E.WL.val (E.y_add rfl rfl (Go.IntWalk.i64_in _ (by omega))) rfl rfl rfl ?_
          refine E.WL.val (E.y_move rfl) rfl rfl rfl ?_
          refine E.WL.done ?_
          replace hb := hb.drop (List.Sublist.cons _ (List.Sublist.refl _))
          refine E.KQ.next (k + 1) (by exact .cons rfl (.cons rfl (.cons rfl (.cons rfl .nil)))) ⟨hb, by omega, fun i h' => ?_⟩ (by show xs.length - (k + 1) < xs.length - k; omega)
          rcases Nat.eq_or_lt_of_le (Nat.le_of_lt_succ h') with e | e
          · subst e; exact hok
          · exact hall i e
  · replace hc8 := of_decide_eq_false hc8
    refine E.W.exit ?_
    refine E.KQ.then_e ?_
    refine E.KQ.loop_e ?_
    refine E.KQ.block_e ?_
    refine E.KQ.then_n ?_
    refine E.W.seq ?_
    refine E.W.region ?_
    refine E.WL.val (E.y_move rfl) rfl rfl rfl ?_
    refine E.WL.val (E.y_lenS Tryz.underlying30 rfl) rfl rfl rfl ?_
    refine E.WL.val (E.y_leq rfl rfl) rfl rfl rfl ?_
    refine E.WL.val (E.y_assign rfl) rfl rfl rfl ?_
    refine E.WL.done ?_
    refine E.KQ.then_n ?_
    refine E.W.ret ?_
    refine E.KQ.ret1 Tryz.results79 rfl ?_
    exact ⟨_, rfl, by rw [pairB_all (fun i hi => hall i (by omega))]; exact congrArg Value.bool (decide_eq_decide.2 (by omega)), hb.below⟩

set_option maxHeartbeats 400000 in
theorem min_calls {w : World} {p : Addr} {a b c : Int} (hat : At w p [.int .i64 a, .int .i64 b, .int .i64 c]) :
    Calls Tryz.prog 113 #[(.slice (some p) 3 3)] w (Ret fun u w' => u = .int .i64 (minI (minI a b) c) ∧ Ext w w') := by
  have hb := E.Bx.start w (base := w.heap.size) (Nat.le_refl _)
  refine E.enter Tryz.func113 rfl Tryz.ntmps113 [(.slice (some p) 3 3)] rfl ?_
  refine E.W.seq ?_
  refine E.W.region ?_
  refine E.WL.val (E.y_assign rfl) rfl rfl rfl ?_
  refine E.WL.done ?_
  refine E.KQ.then_n ?_
  refine E.W.seq ?_
  refine E.W.seq ?_
  refine E.W.region ?_
  refine E.WL.val (E.y_move rfl) rfl rfl rfl ?_
  refine E.WL.val (E.y_lenS Tryz.underlying151 rfl) rfl rfl rfl ?_
  refine E.WL.val (E.y_lss rfl rfl) rfl rfl rfl ?_
  refine E.WL.done ?_
  refine E.KQ.then_n ?_
  refine E.W.condT 7 rfl (fun h7 => ?_) (fun h7 => ?_)
  · replace h7 := of_decide_eq_true h7
    replace h7 := h7
    omega
  · replace h7 := of_decide_eq_false h7
    refine E.W.skip ?_
    refine E.KQ.then_n ?_
    refine E.W.seq ?_
    refine E.W.region ?_
    refine E.WL.val (E.y_move rfl) rfl rfl rfl ?_
    refine E.WL.val (E.y_idxS Tryz.underlying151 Tryz.sizeOf2 rfl rfl (by omega) (by omega)) rfl rfl rfl ?_
    refine E.WL.val (E.y_load rfl (E.At.ld0 Tryz.isAgg2 (hat.ext hb.below) rfl)) rfl rfl rfl ?_
    refine E.WL.val (E.y_assign rfl) rfl rfl rfl ?_
    refine E.WL.done ?_
    refine E.KQ.then_n ?_
    refine E.W.seq ?_
    refine E.W.seq ?_
    refine E.W.region ?_
    refine E.WL.val (E.y_assign rfl) rfl rfl rfl ?_
    refine E.WL.done ?_
    refine E.KQ.then_n ?_
    refine E.W.block ?_
    refine E.W.loop (ι := Nat) (fun k => [(0, .slice (some p) 3 3), (3, .int .i64 (min3 a b c k)), (4, .int .i64 (k : Nat))]) (fun k w' => Bx w.heap.size w w' [] ∧ (k = 1 ∨ k = 2 ∨ k = 3)) (fun k => 3 - k) (1) (by exact (.cons rfl (.cons rfl (.cons rfl .nil)))) ⟨hb, .inl rfl⟩ (fun k w1 hJ => ?_)
    clear hb
    obtain ⟨hb, rfl | rfl | rfl⟩ := hJ
    · have hat1 := hat
      refine E.W.seq ?_
      refine E.W.seq ?_
      refine E.W.region ?_
      refine E.WL.val (E.y_move rfl) rfl rfl rfl ?_
      refine E.WL.val (E.y_move rfl) rfl rfl rfl ?_
      refine E.WL.val (E.y_lenS Tryz.underlying151 rfl) rfl rfl rfl ?_
      refine E.WL.val (E.y_lss rfl rfl) rfl rfl rfl ?_
      refine E.WL.done ?_
      refine E.KQ.then_n ?_
      refine E.W.condT 15 rfl (fun hc15 => ?_) (fun hc15 => ?_)
      · replace hc15 := of_decide_eq_true hc15
        refine E.W.skip ?_
        refine E.KQ.then_n ?_
        refine E.W.seq ?_
        refine E.W.block ?_
        refine E.W.region ?_
        refine E.WL.val (E.y_move rfl) rfl rfl rfl ?_
        refine E.WL.val (E.y_move rfl) rfl rfl rfl ?_
        refine E.WL.val (E.y_move rfl) rfl rfl rfl ?_
        refine E.WL.val (E.y_idxS Tryz.underlying151 Tryz.sizeOf2 rfl rfl (by decide) (by decide)) rfl rfl rfl ?_
        refine E.WL.val (E.y_load rfl (E.At.ld1 Tryz.isAgg2 (hat.ext hb.below) _ rfl)) rfl rfl rfl ?_
        refine E.WL.val (E.y_min rfl rfl) rfl rfl rfl ?_
        refine E.WL.val (E.y_assign rfl) rfl rfl rfl ?_
        refine E.WL.done ?_
        refine E.KQ.block_n ?_
        refine E.KQ.then_n ?_
        refine E.W.region ?_
        refine E.WL.val (E.y_move rfl) rfl rfl rfl ?_
        refine E.WL.val (E.y_add rfl rfl (Go.IntWalk.i64_in _ (by omega))) rfl rfl rfl ?_
        refine E.WL.val (E.y_assign rfl) rfl rfl rfl ?_
        refine E.WL.done ?_
        exact E.KQ.next 2 (by exact .cons rfl (.cons rfl (.cons rfl .nil))) ⟨hb, .inr (.inl rfl)⟩ (by decide)
      · replace hc15 := of_decide_eq_false hc15
        exact absurd (by decide) hc15
    · have hat2 := hat
      refine E.W.seq ?_
      refine E.W.seq ?_
      refine E.W.region ?_
      refine E.WL.val (E.y_move rfl) rfl rfl rfl ?_
      refine E.WL.val (E.y_move rfl) rfl rfl rfl ?_
      refine E.WL.val (E.y_lenS Tryz.underlying151 rfl) rfl rfl rfl ?_
      refine E.WL.val (E.y_lss rfl rfl) rfl rfl rfl ?_
      refine E.WL.done ?_
      refine E.KQ.then_n ?_
      refine E.W.condT 15 rfl (fun hc15 => ?_) (fun hc15 => ?_)
      · replace hc15 := of_decide_eq_true hc15
        refine E.W.skip ?_
        refine E.KQ.then_n ?_
        refine E.W.seq ?_
        refine E.W.block ?_
        refine E.W.region ?_
        refine E.WL.val (E.y_move rfl) rfl rfl rfl ?_
        refine E.WL.val (E.y_move rfl) rfl rfl rfl ?_
        refine E.WL.val (E.y_move rfl) rfl rfl rfl ?_
        refine E.WL.val (E.y_idxS Tryz.underlying151 Tryz.sizeOf2 rfl rfl (by decide) (by decide)) rfl rfl rfl ?_
        refine E.WL.val (E.y_load rfl (E.At.ld1 Tryz.isAgg2 (hat.ext hb.below) _ rfl)) rfl rfl rfl ?_
        refine E.WL.val (E.y_min rfl rfl) rfl rfl rfl ?_
        refine E.WL.val (E.y_assign rfl) rfl rfl rfl ?_
        refine E.WL.done ?_
        refine E.KQ.block_n ?_
        refine E.KQ.then_n ?_
        refine E.W.region ?_
        refine E.WL.val (E.y_move rfl) rfl rfl rfl ?_
        refine E.WL.val (E.y_add rfl rfl (Go.IntWalk.i64_in _ (by omega))) rfl rfl rfl ?_
        refine E.WL.val (E.y_assign rfl) rfl rfl rfl ?_
        refine E.WL.done ?_
        exact E.KQ.next 3 (by exact .cons rfl (.cons rfl (.cons rfl .nil))) ⟨hb, .inr (.inr rfl)⟩ (by decide)
      · replace hc15 := of_decide_eq_false hc15
        exact absurd (by decide) hc15
    · have hat3 := hat
      refine E.W.seq ?_
      refine E.W.seq ?_
      refine E.W.region ?_
      refine E.WL.val (E.y_move rfl) rfl rfl rfl ?_
      refine E.WL.val (E.y_move rfl) rfl rfl rfl ?_
      refine E.WL.val (E.y_lenS Tryz.underlying151 rfl) rfl rfl rfl ?_
      refine E.WL.val (E.y_lss rfl rfl) rfl rfl rfl ?_
      refine E.WL.done ?_
      refine E.KQ.then_n ?_
      refine E.W.condT 15 rfl (fun hc15 => ?_) (fun hc15 => ?_)
      · replace hc15 := of_decide_eq_true hc15
        exact absurd hc15 (by decide)
      · replace hc15 := of_decide_eq_false hc15
        refine E.W.exit ?_
        refine E.KQ.then_e ?_
        refine E.KQ.loop_e ?_
        refine E.KQ.block_e ?_
        refine E.KQ.then_n ?_
        refine E.W.seq ?_
        refine E.W.region ?_
        refine E.WL.val (E.y_move rfl) rfl rfl rfl ?_
        refine E.WL.val (E.y_assign rfl) rfl rfl rfl ?_
        refine E.WL.done ?_
        refine E.KQ.then_n ?_
        refine E.W.ret ?_
        refine E.KQ.ret1 Tryz.results113 rfl ?_
        exact ⟨_, rfl, rfl, hb.below⟩

set_option maxHeartbeats 400000 in
theorem max_calls {w : World} {p : Addr} {a b c : Int} (hat : At w p [.int .i64 a, .int .i64 b, .int .i64 c]) :
    Calls Tryz.prog 114 #[(.slice (some p) 3 3)] w (Ret fun u w' => u = .int .i64 (maxI (maxI a b) c) ∧ Ext w w') := by
  have hb := E.Bx.start w (base := w.heap.size) (Nat.le_refl _)
  refine E.enter Tryz.func114 rfl Tryz.ntmps114 [(.slice (some p) 3 3)] rfl ?_
  refine E.W.seq ?_
  refine E.W.region ?_
  refine E.WL.val (E.y_assign rfl) rfl rfl rfl ?_
  refine E.WL.done ?_
  refine E.KQ.then_n ?_
  refine E.W.seq ?_
  refine E.W.seq ?_
  refine E.W.region ?_
  refine E.WL.val (E.y_move rfl) rfl rfl rfl ?_
  refine E.WL.val (E.y_lenS Tryz.underlying151 rfl) rfl rfl rfl ?_
  refine E.WL.val (E.y_lss rfl rfl) rfl rfl rfl ?_
  refine E.WL.done ?_
  refine E.KQ.then_n ?_
  refine E.W.condT 7 rfl (fun h7 => ?_) (fun h7 => ?_)
  · replace h7 := of_decide_eq_true h7
    replace h7 := h7
    omega
  · replace h7 := of_decide_eq_false h7
    refine E.W.skip ?_
    refine E.KQ.then_n ?_
    refine E.W.seq ?_
    refine E.W.region ?_
    refine E.WL.val (E.y_move rfl) rfl rfl rfl ?_
    refine E.WL.val (E.y_idxS Tryz.underlying151 Tryz.sizeOf2 rfl rfl (by omega) (by omega)) rfl rfl rfl ?_
    refine E.WL.val (E.y_load rfl (E.At.ld0 Tryz.isAgg2 (hat.ext hb.below) rfl)) rfl rfl rfl ?_
    refine E.WL.val (E.y_assign rfl) rfl rfl rfl ?_
    refine E.WL.done ?_
    refine E.KQ.then_n ?_
    refine E.W.seq ?_
    refine E.W.seq ?_
    refine E.W.region ?_
    refine E.WL.val (E.y_assign rfl) rfl rfl rfl ?_
    refine E.WL.done ?_
    refine E.KQ.then_n ?_
    refine E.W.block ?_
    refine E.W.loop (ι := Nat) (fun k => [(0, .slice (some p) 3 3), (3, .int .i64 (max3 a b c k)), (4, .int .i64 (k : Nat))]) (fun k w' => Bx w.heap.size w w' [] ∧ (k = 1 ∨ k = 2 ∨ k = 3)) (fun k => 3 - k) (1) (by exact (.cons rfl (.cons rfl (.cons rfl .nil)))) ⟨hb, .inl rfl⟩ (fun k w1 hJ => ?_)
    clear hb
    obtain ⟨hb, rfl | rfl | rfl⟩ := hJ
    · have hat1 := hat
      refine E.W.seq ?_
      refine E.W.seq ?_
      refine E.W.region ?_
      refine E.WL.val (E.y_move rfl) rfl rfl rfl ?_
      refine E.WL.val (E.y_move rfl) rfl rfl rfl ?_
      refine E.WL.val (E.y_lenS Tryz.underlying151 rfl) rfl rfl rfl ?_
      refine E.WL.val (E.y_lss rfl rfl) rfl rfl rfl ?_
      refine E.WL.done ?_
      refine E.KQ.then_n ?_
      refine E.W.condT 15 rfl (fun hc15 => ?_) (fun hc15 => ?_)
      · replace hc15 := of_decide_eq_true hc15
        refine E.W.skip ?_
        refine E.KQ.then_n ?_
        refine E.W.seq ?_
        refine E.W.block ?_
        refine E.W.region ?_
        refine E.WL.val (E.y_move rfl) rfl rfl rfl ?_
        refine E.WL.val (E.y_move rfl) rfl rfl rfl ?_
        refine E.WL.val (E.y_move rfl) rfl rfl rfl ?_
        refine E.WL.val (E.y_idxS Tryz.underlying151 Tryz.sizeOf2 rfl rfl (by decide) (by decide)) rfl rfl rfl ?_
        refine E.WL.val (E.y_load rfl (E.At.ld1 Tryz.isAgg2 (hat.ext hb.below) _ rfl)) rfl rfl rfl ?_
        refine E.WL.val (E.y_max rfl rfl) rfl rfl rfl ?_
        refine E.WL.val (E.y_assign rfl) rfl rfl rfl ?_
        refine E.WL.done ?_
        refine E.KQ.block_n ?_
        refine E.KQ.then_n ?_
        refine E.W.region ?_
        refine E.WL.val (E.y_move rfl) rfl rfl rfl ?_
        refine E.WL.val (E.y_add rfl rfl (Go.IntWalk.i64_in _ (by omega))) rfl rfl rfl ?_
        refine E.WL.val (E.y_assign rfl) rfl rfl rfl ?_
        refine E.WL.done ?_
        exact E.KQ.next 2 (by exact .cons rfl (.cons rfl (.cons rfl .nil))) ⟨hb, .inr (.inl rfl)⟩ (by decide)
      · replace hc15 := of_decide_eq_false hc15
        exact absurd (by decide) hc15
    · have hat2 := hat
      refine E.W.seq ?_
      refine E.W.seq ?_
      refine E.W.region ?_
      refine E.WL.val (E.y_move rfl) rfl rfl rfl ?_
      refine E.WL.val (E.y_move rfl) rfl rfl rfl ?_
      refine E.WL.val (E.y_lenS Tryz.underlying151 rfl) rfl rfl rfl ?_
      refine E.WL.val (E.y_lss rfl rfl) rfl rfl rfl ?_
      refine E.WL.done ?_
      refine E.KQ.then_n ?_
      refine E.W.condT 15 rfl (fun hc15 => ?_) (fun hc15 => ?_)
      · replace hc15 := of_decide_eq_true hc15
        refine E.W.skip ?_
        refine E.KQ.then_n ?_
        refine E.W.seq ?_
        refine E.W.block ?_
        refine E.W.region ?_
        refine E.WL.val (E.y_move rfl) rfl rfl rfl ?_
        refine E.WL.val (E.y_move rfl) rfl rfl rfl ?_
        refine E.WL.val (E.y_move rfl) rfl rfl rfl ?_
        refine E.WL.val (E.y_idxS Tryz.underlying151 Tryz.sizeOf2 rfl rfl (by decide) (by decide)) rfl rfl rfl ?_
        refine E.WL.val (E.y_load rfl (E.At.ld1 Tryz.isAgg2 (hat.ext hb.below) _ rfl)) rfl rfl rfl ?_
        refine E.WL.val (E.y_max rfl rfl) rfl rfl rfl ?_
        refine E.WL.val (E.y_assign rfl) rfl rfl rfl ?_
        refine E.WL.done ?_
        refine E.KQ.block_n ?_
        refine E.KQ.then_n ?_
        refine E.W.region ?_
        refine E.WL.val (E.y_move rfl) rfl rfl rfl ?_
        refine E.WL.val (E.y_add rfl rfl (Go.IntWalk.i64_in _ (by omega))) rfl rfl rfl ?_
        refine E.WL.val (E.y_assign rfl) rfl rfl rfl ?_
        refine E.WL.done ?_
        exact E.KQ.next 3 (by exact .cons rfl (.cons rfl (.cons rfl .nil))) ⟨hb, .inr (.inr rfl)⟩ (by decide)
      · replace hc15 := of_decide_eq_false hc15
        exact absurd (by decide) hc15
    · have hat3 := hat
      refine E.W.seq ?_
      refine E.W.seq ?_
      refine E.W.region ?_
      refine E.WL.val (E.y_move rfl) rfl rfl rfl ?_
      refine E.WL.val (E.y_move rfl) rfl rfl rfl ?_
      refine E.WL.val (E.y_lenS Tryz.underlying151 rfl) rfl rfl rfl ?_
      refine E.WL.val (E.y_lss rfl rfl) rfl rfl rfl ?_
      refine E.WL.done ?_
      refine E.KQ.then_n ?_
      refine E.W.condT 15 rfl (fun hc15 => ?_) (fun hc15 => ?_)
      · replace hc15 := of_decide_eq_true hc15
        exact absurd hc15 (by decide)
      · replace hc15 := of_decide_eq_false hc15
        refine E.W.exit ?_
        refine E.KQ.then_e ?_
        refine E.KQ.loop_e ?_
        refine E.KQ.block_e ?_
        refine E.KQ.then_n ?_
        refine E.W.seq ?_
        refine E.W.region ?_
        refine E.WL.val (E.y_move rfl) rfl rfl rfl ?_
        refine E.WL.val (E.y_assign rfl) rfl rfl rfl ?_
        refine E.WL.done ?_
        refine E.KQ.then_n ?_
        refine E.W.ret ?_
        refine E.KQ.ret1 Tryz.results114 rfl ?_
        exact ⟨_, rfl, rfl, hb.below⟩

set_option maxHeartbeats 400000 in
theorem amounts_calls (w : World) (a b c m : Int) (hm : 0 ≤ m ∧ m ≤ 64) :
    Calls Tryz.prog 78 #[(.agg #[.int .i64 a, .int .i64 b, .int .i64 c]), (.int .i64 m)] w (Ret fun u w' => u = .bool (amtB a b c m) ∧ Ext w w') := by
  have hb := E.Bx.start w (base := w.heap.size) (Nat.le_refl _)
  refine E.enter Tryz.func78 rfl Tryz.ntmps78 [(.agg #[.int .i64 a, .int .i64 b, .int .i64 c]), (.int .i64 m)] rfl ?_
  refine E.W.seq ?_
  refine E.W.region ?_
  refine E.WL.box hb rfl rfl rfl rfl ?_
  clear hb; intro B1 w2 hb _ _
  refine E.WL.val (E.y_assign rfl) rfl rfl rfl ?_
  refine E.WL.done ?_
  refine E.KQ.then_n ?_
  refine E.W.seq ?_
  refine E.W.region ?_
  refine E.WL.val (E.y_sl_arr Tryz.underlying29 Tryz.sizeOf2 rfl) rfl rfl rfl ?_
  refine E.WL.call (min_calls (hb.at0 0 rfl)) Tryz.call113 rfl rfl rfl ?_
  rintro _ w3 ⟨rfl, hX⟩
  replace hb := hb.ext hX
  clear hX
  refine E.WL.val (E.y_geq rfl rfl) rfl rfl rfl ?_
  refine E.WL.val (E.y_move rfl) rfl rfl rfl ?_
  refine E.WL.split 8 rfl (fun h8 => ?_) (fun h8 => ?_)
  · skip
    refine E.WL.val (E.y_sl_arr Tryz.underlying29 Tryz.sizeOf2 rfl) rfl rfl rfl ?_
    refine E.WL.call (max_calls (hb.at0 0 rfl)) Tryz.call114 rfl rfl rfl ?_
    rintro _ w4 ⟨rfl, hX⟩
    replace hb := hb.ext hX
    clear hX
    refine E.WL.val (E.y_move rfl) rfl rfl rfl ?_
    refine E.WL.val (E.y_mul rfl rfl (Go.IntWalk.i64_in _ (by omega))) rfl rfl rfl ?_
    refine E.WL.val (E.y_leq rfl rfl) rfl rfl rfl ?_
    refine E.WL.val (E.y_pick_t rfl rfl) rfl rfl rfl ?_
    refine E.WL.val (E.y_assign rfl) rfl rfl rfl ?_
    refine E.WL.done ?_
    refine E.KQ.then_n ?_
    refine E.W.ret ?_
    refine E.KQ.ret1 Tryz.results78 rfl ?_
    exact ⟨_, rfl, by unfold amtB; rw [h8]; rfl, hb.below⟩
  · skip
    refine E.WL.off rfl rfl rfl ?_
    refine E.WL.off rfl rfl rfl ?_
    refine E.WL.off rfl rfl rfl ?_
    refine E.WL.off rfl rfl rfl ?_
    refine E.WL.off rfl rfl rfl ?_
    refine E.WL.val (E.y_pick_f rfl rfl) rfl rfl rfl ?_
    refine E.WL.val (E.y_assign rfl) rfl rfl rfl ?_
    refine E.WL.done ?_
    refine E.KQ.then_n ?_
    refine E.W.ret ?_
    refine E.KQ.ret1 Tryz.results78 rfl ?_
    exact ⟨_, rfl, by unfold amtB; rw [h8]; rfl, hb.below⟩
end Go.Proofs.YtmnnbnajnfdncaaGreatDoor
