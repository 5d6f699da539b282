/- Walks: book, first part: names, rising, halving. -/
import Derived.Test.YtmnnbnajnfdncaaGreatDoorP4
import Derived.Test.YtmnnbnajnfdncaaGreatDoorRig4
set_option linter.unusedVariables false
set_option linter.unusedSimpArgs false
namespace Go.Proofs.YtmnnbnajnfdncaaGreatDoor
open Go.RowKit E
set_option maxHeartbeats 400000 in
theorem nameNode_calls {F : FP} {w : World} {cn : List Value} {n : NodeD} (h : RNode F w cn n) :
    Calls Tryz.prog 32 #[(.agg cn.toArray)] w (Ret fun u w' => u = .string n.name ∧ Ext w w') := by
  obtain ⟨vl, vt, rfl, hl, ht⟩ := h
  have hb := E.Bx.start w (base := w.heap.size) (Nat.le_refl _)
  refine E.enter Tryz.func32 rfl Tryz.ntmps32 [(.agg #[.string n.name, .int .i64 n.h0, .int .i64 n.h1, .int .i64 n.h2, vl, vt])] rfl ?_
  refine E.W.seq ?_
  refine E.W.region ?_
  refine E.WL.box hb rfl rfl rfl rfl ?_
  clear hb; intro B1 w2 hb _ _
  refine E.WL.val (E.y_assign rfl) rfl rfl rfl ?_
  refine E.WL.done ?_
  refine E.KQ.then_n ?_
  refine E.W.seq ?_
  refine E.W.region ?_
  refine E.WL.val (E.y_fld Tryz.underlying32 rfl Tryz.sizeOf9 rfl) rfl rfl rfl ?_
  refine E.WL.val (E.y_load rfl (E.At.ld1 Tryz.isAgg9 (hb.at0 0 rfl) 0 rfl)) rfl rfl rfl ?_
  refine E.WL.val (E.y_assign rfl) rfl rfl rfl ?_
  refine E.WL.done ?_
  refine E.KQ.then_n ?_
  refine E.W.ret ?_
  refine E.KQ.ret1 Tryz.results32 rfl ?_
  exact ⟨_, rfl, rfl, hb.below⟩

set_option maxHeartbeats 400000 in
theorem cmpNode_calls {F : FP} {w : World} {cn : List Value} {n : NodeD} (h : RNode F w cn n) (s : ByteArray) :
    Calls Tryz.prog 82 #[(.agg cn.toArray), (.string s)] w (Ret fun u w' => u = .int .i64 (cmpB n.name s) ∧ Ext w w') := by
  obtain ⟨vl, vt, rfl, hl, ht⟩ := h
  have hb := E.Bx.start w (base := w.heap.size) (Nat.le_refl _)
  refine E.enter Tryz.func82 rfl Tryz.ntmps82 [(.agg #[.string n.name, .int .i64 n.h0, .int .i64 n.h1, .int .i64 n.h2, vl, vt]), (.string s)] rfl ?_
  refine E.W.seq ?_
  refine E.W.region ?_
  refine E.WL.box hb rfl rfl rfl rfl ?_
  clear hb; intro B1 w2 hb _ _
  refine E.WL.val (E.y_assign rfl) rfl rfl rfl ?_
  refine E.WL.done ?_
  refine E.KQ.then_n ?_
  refine E.W.seq ?_
  refine E.W.region ?_
  refine E.WL.val (E.y_fld Tryz.underlying32 rfl Tryz.sizeOf9 rfl) rfl rfl rfl ?_
  refine E.WL.val (E.y_load rfl (E.At.ld1 Tryz.isAgg9 (hb.at0 0 rfl) 0 rfl)) rfl rfl rfl ?_
  refine E.WL.val (E.y_move rfl) rfl rfl rfl ?_
  refine E.WL.call (cmpB_calls w2 n.name s) Tryz.call74 rfl rfl rfl ?_
  rintro _ w3 ⟨rfl, hX⟩
  replace hb := hb.ext hX
  clear hX
  refine E.WL.val (E.y_assign rfl) rfl rfl rfl ?_
  refine E.WL.done ?_
  refine E.KQ.then_n ?_
  refine E.W.ret ?_
  refine E.KQ.ret1 Tryz.results82 rfl ?_
  exact ⟨_, rfl, rfl, hb.below⟩

set_option maxHeartbeats 400000 in
theorem risingNode_calls {F : FP} {w : World} {v : Value} {xs : List NodeD} (h : RdS F w 32 6 88 RNode v xs) (key : NodeD → ByteArray) (g : FuncId) (he : ∀ (args : Array Value) (w : World), (callFunc g args).run Tryz.prog w = .ok (.enter g args) w) (hp : ∀ w', Ext w w' → ∀ i (hi : i < xs.length) cs, RNode F w' cs xs[i] → Calls Tryz.prog g #[.agg cs.toArray] w' (Ret fun u w'' => u = .string (key xs[i]) ∧ Ext w' w'')) :
    Calls Tryz.prog 31 #[v, (.func (.func g) #[] #[])] w (Ret fun u w' => u = .bool (risingB (xs.map key)) ∧ Ext w w') := by
  obtain ⟨A, c, rfl, hc, hby, hg⟩ := h.open_
  have hb := E.Bx.start w (base := w.heap.size) (Nat.le_refl _)
  refine E.enter Tryz.func31 rfl Tryz.ntmps31 [(.slice A xs.length c), (.func (.func g) #[] #[])] rfl ?_
  refine E.W.seq ?_
  refine E.W.region ?_
  refine E.WL.val (E.y_assign rfl) rfl rfl rfl ?_
  refine E.WL.done ?_
  refine E.KQ.then_n ?_
  refine E.W.seq ?_
  refine E.W.seq ?_
  refine E.W.region ?_
  refine E.WL.val (E.y_assign rfl) rfl rfl rfl ?_
  refine E.WL.done ?_
  refine E.KQ.then_n ?_
  refine E.W.block ?_
  refine E.W.loop (ι := Nat) (fun k => [(0, .slice A xs.length c), (1, .func (.func g) #[] #[]), (5, .int .i64 (k : Nat))]) (fun k w' => Bx w.heap.size w w' [] ∧ 1 ≤ k ∧ (k ≤ xs.length ∨ k = 1) ∧ ∀ i, i < k → riseAt (xs.map key) i = true) (fun k => xs.length + 1 - k) (1) (by exact (.cons rfl (.cons rfl (.cons rfl .nil)))) ⟨hb, Nat.le_refl _, .inr rfl, fun i h' => by rw [show i = 0 by omega]; rfl⟩ (fun k w1 hJ => ?_)
  clear hb
  obtain ⟨hb, hk1, hk2, hall⟩ := hJ
  refine E.W.seq ?_
  refine E.W.seq ?_
  refine E.W.region ?_
  refine E.WL.val (E.y_move rfl) rfl rfl rfl ?_
  refine E.WL.val (E.y_move rfl) rfl rfl rfl ?_
  refine E.WL.val (E.y_lenS Tryz.underlying22 rfl) rfl rfl rfl ?_
  refine E.WL.val (E.y_lss rfl rfl) rfl rfl rfl ?_
  refine E.WL.done ?_
  refine E.KQ.then_n ?_
  refine E.W.condT 9 rfl (fun hc9 => ?_) (fun hc9 => ?_)
  · replace hc9 := of_decide_eq_true hc9
    refine E.W.skip ?_
    refine E.KQ.then_n ?_
    refine E.W.seq ?_
    refine E.W.block ?_
    refine E.W.seq ?_
    refine E.W.regionQ rfl (by kernel_rfl) ?_
    refine E.QL.val (fun w' hw => E.y_move rfl) rfl rfl rfl ?_
    refine E.QL.val (fun w' hw => E.y_move rfl) rfl rfl rfl ?_
    refine E.QL.val (fun w' hw => E.y_move rfl) rfl rfl rfl ?_
    have hkl : k < xs.length := by omega
    have hk1l : k - 1 < xs.length := by omega
    obtain ⟨q, cs, hA, _, hl, hat, hr⟩ := hg k hkl
    obtain ⟨q', cs', hA', _, hl', hat', hr'⟩ := hg (k - 1) hk1l
    subst hA
    injection hA' with hA'
    subst hA'
    replace hat := hat.ext hb.below
    replace hat' := hat'.ext hb.below
    replace hr := RNode.goes.stays hr (Stays.ext hb.below)
    replace hr' := RNode.goes.stays hr' (Stays.ext hb.below)
    refine E.QL.val (fun w' hw => E.y_sub rfl rfl (Go.IntWalk.i64_in _ (by omega))) rfl rfl rfl ?_
    refine E.QL.as 15 rfl (show _ = Value.int .i64 ((k - 1 : Nat) : Int) from by rw [show ((k : Nat) : Int) - 1 = ((k - 1 : Nat) : Int) by omega]) ?_
    refine E.QL.val (fun w' hw => E.y_idxS Tryz.underlying22 Tryz.sizeOf32 rfl rfl (by omega) (by omega)) rfl rfl rfl ?_
    refine E.QL.val (fun w' hw => E.y_load rfl (E.At.ldk Tryz.isAgg32 Tryz.sizeOf32 (hat'.ext hw) hl')) rfl rfl rfl ?_
    refine E.QL.callv rfl he rfl (fun w' hw => E.quiet hw (hp w' (E.Ext.trans hb.below hw) (k - 1) hk1l cs' (RNode.goes.stays hr' (Stays.ext hw)))) rfl rfl rfl ?_
    refine E.QL.val (fun w' hw => E.y_move rfl) rfl rfl rfl ?_
    refine E.QL.val (fun w' hw => E.y_move rfl) rfl rfl rfl ?_
    refine E.QL.val (fun w' hw => E.y_move rfl) rfl rfl rfl ?_
    refine E.QL.val (fun w' hw => E.y_idxS Tryz.underlying22 Tryz.sizeOf32 rfl rfl (by omega) (by omega)) rfl rfl rfl ?_
    refine E.QL.val (fun w' hw => E.y_load rfl (E.At.ldk Tryz.isAgg32 Tryz.sizeOf32 (hat.ext hw) hl)) rfl rfl rfl ?_
    refine E.QL.callv rfl he rfl (fun w' hw => E.quiet hw (hp w' (E.Ext.trans hb.below hw) k hkl cs (RNode.goes.stays hr (Stays.ext hw)))) rfl rfl rfl ?_
    refine E.QL.val (fun w' hw => E.y_sgeq rfl rfl) rfl rfl rfl ?_
    refine E.QL.end_ fun w2 hx => ?_
    replace hb := hb.ext hx
    clear hx
    refine E.KQ.then_n ?_
    refine E.W.condT 25 rfl (fun h25 => ?_) (fun h25 => ?_)
    · skip
      refine E.W.seq ?_
      refine E.W.region ?_
      refine E.WL.val (E.y_assign rfl) rfl rfl rfl ?_
      refine E.WL.done ?_
      refine E.KQ.then_n ?_
      refine E.W.ret ?_
      refine E.KQ.block_r ?_
      refine E.KQ.then_r ?_
      refine E.KQ.loop_r ?_
      refine E.KQ.block_r ?_
      refine E.KQ.then_r ?_
      refine E.KQ.ret1 Tryz.results31 rfl ?_
      exact ⟨_, rfl, by rw [risingB_not (i := k) (by simp; exact hkl) (by rw [riseAt_get (by simp; exact hkl) (by omega)]; simp only [List.getElem_map]; simpa [ltB] using h25)], hb.below⟩
    · skip
      refine E.W.skip ?_
      refine E.KQ.block_n ?_
      refine E.KQ.then_n ?_
      refine E.W.region ?_
      refine E.WL.val (E.y_move rfl) rfl rfl rfl ?_
      refine E.WL.val (E.y_add rfl rfl (Go.IntWalk.i64_in _ (by omega))) rfl rfl rfl ?_
      refine E.WL.val (E.y_assign rfl) rfl rfl rfl ?_
      refine E.WL.done ?_
      refine E.KQ.next (k + 1) (by exact .cons rfl (.cons rfl (.cons rfl .nil))) ⟨hb, by omega, by omega, fun i h' => ?_⟩ (by show xs.length + 1 - (k + 1) < xs.length + 1 - k; omega)
      rcases Nat.eq_or_lt_of_le (Nat.le_of_lt_succ h') with e | e
      · subst e; rw [riseAt_get (by simp; exact hkl) (by omega)]; simp only [List.getElem_map]; simpa [ltB] using h25
      · exact hall i e
  · replace hc9 := of_decide_eq_false hc9
    refine E.W.exit ?_
    refine E.KQ.then_e ?_
    refine E.KQ.loop_e ?_
    refine E.KQ.block_e ?_
    refine E.KQ.then_n ?_
    refine E.W.seq ?_
    refine E.W.region ?_
    refine E.WL.val (E.y_assign rfl) rfl rfl rfl ?_
    refine E.WL.done ?_
    refine E.KQ.then_n ?_
    refine E.W.ret ?_
    refine E.KQ.ret1 Tryz.results31 rfl ?_
    exact ⟨_, rfl, by rw [risingB_of (fun i hi => hall i (by rw [List.length_map] at hi; omega))], hb.below⟩

set_option maxHeartbeats 400000 in
theorem searchNode_calls {F : FP} {w : World} {v : Value} {xs : List NodeD} (h : RdS F w 32 6 88 RNode v xs) (s : ByteArray) :
    Calls Tryz.prog 81 #[v, (.string s), (.func (.func 82) #[] #[])] w (Ret fun u w' => u = .tuple #[.int .i64 (posB (xs.map NodeD.name) s : Nat), .bool (hasB (xs.map NodeD.name) s)] ∧ Ext w w') := by
  obtain ⟨A, c, rfl, hc, hby, hg⟩ := h.open_
  have hml : (xs.map NodeD.name).length = xs.length := List.length_map _
  have hb := E.Bx.start w (base := w.heap.size) (Nat.le_refl _)
  refine E.enter Tryz.func81 rfl Tryz.ntmps81 [(.slice A xs.length c), (.string s), (.func (.func 82) #[] #[])] rfl ?_
  refine E.W.seq ?_
  refine E.W.region ?_
  refine E.WL.val (E.y_assign rfl) rfl rfl rfl ?_
  refine E.WL.val (E.y_assign rfl) rfl rfl rfl ?_
  refine E.WL.done ?_
  refine E.KQ.then_n ?_
  refine E.W.seq ?_
  refine E.W.region ?_
  refine E.WL.val (E.y_move rfl) rfl rfl rfl ?_
  refine E.WL.val (E.y_lenS Tryz.underlying22 rfl) rfl rfl rfl ?_
  refine E.WL.val (E.y_assign rfl) rfl rfl rfl ?_
  refine E.WL.done ?_
  refine E.KQ.then_n ?_
  refine E.W.seq ?_
  refine E.W.region ?_
  refine E.WL.val (E.y_move rfl) rfl rfl rfl ?_
  refine E.WL.val (E.y_assign rfl) rfl rfl rfl ?_
  refine E.WL.val (E.y_assign rfl) rfl rfl rfl ?_
  refine E.WL.done ?_
  refine E.KQ.then_n ?_
  refine E.W.seq ?_
  refine E.W.block ?_
  refine E.W.loop (ι := Nat × Nat) (fun k => [(0, .slice A xs.length c), (1, .string s), (2, .func (.func 82) #[] #[]), (8, .int .i64 xs.length), (9, .int .i64 (k.1 : Nat)), (10, .int .i64 (k.2 : Nat))]) (fun k w' => Bx w.heap.size w w' [] ∧ k.1 ≤ k.2 ∧ k.2 ≤ xs.length ∧ posB (xs.map NodeD.name) s = bsI (lessAt (xs.map NodeD.name) s) k.1 k.2) (fun k => k.2 - k.1) ((0, xs.length)) (by exact (.cons rfl (.cons rfl (.cons rfl (.cons rfl (.cons rfl (.cons rfl .nil))))))) ⟨hb, Nat.zero_le _, Nat.le_refl _, by unfold posB; rw [hml]⟩ (fun k w1 hJ => ?_)
  clear hb
  obtain ⟨i, j⟩ := k
  obtain ⟨hb, hij, hjn, hpos⟩ := hJ
  simp only at hij hjn hpos
  refine E.W.seq ?_
  refine E.W.seq ?_
  refine E.W.region ?_
  refine E.WL.val (E.y_move rfl) rfl rfl rfl ?_
  refine E.WL.val (E.y_move rfl) rfl rfl rfl ?_
  refine E.WL.val (E.y_lss rfl rfl) rfl rfl rfl ?_
  refine E.WL.done ?_
  refine E.KQ.then_n ?_
  refine E.W.condT 17 rfl (fun hc17 => ?_) (fun hc17 => ?_)
  · replace hc17 := of_decide_eq_true hc17
    have hij' : i < j := by have := hc17; simp only at this; omega
    refine E.W.skip ?_
    refine E.KQ.then_n ?_
    refine E.W.block ?_
    refine E.W.seq ?_
    refine E.W.region ?_
    refine E.WL.val (E.y_move rfl) rfl rfl rfl ?_
    refine E.WL.val (E.y_move rfl) rfl rfl rfl ?_
    refine E.WL.val (E.y_add rfl rfl (Go.IntWalk.i64_in _ (by omega))) rfl rfl rfl ?_
    refine E.WL.val (E.y_conv (by rw [Tryz.underlying3]; rfl) Tryz.underlying113 rfl (Go.IntWalk.u64_in _ (by omega))) rfl rfl rfl ?_
    refine E.WL.val (E.y_shr (m := 1) rfl rfl (by decide)) rfl rfl rfl ?_
    refine E.WL.as 22 rfl (show _ = Value.int .u64 (((i + j) / 2 : Nat) : Int) from by congr 1) ?_
    refine E.WL.val (E.y_conv (by rw [Tryz.underlying113]; rfl) Tryz.underlying3 rfl (Go.IntWalk.i64_in _ (by omega))) rfl rfl rfl ?_
    refine E.WL.val (E.y_assign rfl) rfl rfl rfl ?_
    refine E.WL.done ?_
    refine E.KQ.then_n ?_
    refine E.W.seq ?_
    refine E.W.region ?_
    refine E.WL.val (E.y_move rfl) rfl rfl rfl ?_
    refine E.WL.val (E.y_move rfl) rfl rfl rfl ?_
    have hhl : (i + j) / 2 < xs.length := by omega
    obtain ⟨q, cs, hA, _, hl, hat, hr⟩ := hg ((i + j) / 2) hhl
    subst hA
    replace hat := hat.ext hb.below
    replace hr := RNode.goes.stays hr (Stays.ext hb.below)
    refine E.WL.val (E.y_move rfl) rfl rfl rfl ?_
    refine E.WL.val (E.y_idxS Tryz.underlying22 Tryz.sizeOf32 rfl rfl (by omega) (by omega)) rfl rfl rfl ?_
    refine E.WL.val (E.y_load rfl (E.At.ldk Tryz.isAgg32 Tryz.sizeOf32 hat hl)) rfl rfl rfl ?_
    refine E.WL.val (E.y_move rfl) rfl rfl rfl ?_
    refine E.WL.callv (cmpNode_calls hr s) rfl Tryz.call82 rfl rfl rfl rfl ?_
    rintro _ w2 ⟨rfl, hX⟩
    replace hb := hb.ext hX
    clear hX
    refine E.WL.val (E.y_lss rfl rfl) rfl rfl rfl ?_
    refine E.WL.done ?_
    refine E.KQ.then_n ?_
    refine E.W.condT 31 rfl (fun hc31 => ?_) (fun hc31 => ?_)
    · skip
      have hl31 : lessAt (xs.map NodeD.name) s ((i + j) / 2) = true := by rw [lessAt_get (by rw [hml]; exact hhl)]; simpa using hc31
      have hn1 : (i + j) / 2 + 1 ≤ j := by omega
      have hn2 : j ≤ xs.length := hjn
      have hn3 := hpos.trans (bsI_up hij' hl31)
      have hn4 : j - ((i + j) / 2 + 1) < j - i := by omega
      let nxt : Nat × Nat := ((i + j) / 2 + 1, j)
      refine E.W.region ?_
      refine E.WL.val (E.y_move rfl) rfl rfl rfl ?_
      refine E.WL.val (E.y_add rfl rfl (Go.IntWalk.i64_in _ (by omega))) rfl rfl rfl ?_
      refine E.WL.val (E.y_assign rfl) rfl rfl rfl ?_
      refine E.WL.done ?_
      refine E.KQ.block_n ?_
      refine E.KQ.next (ι := Nat × Nat) nxt (by exact .cons rfl (.cons rfl (.cons rfl (.cons rfl (.cons rfl (.cons rfl .nil)))))) ⟨hb, hn1, hn2, hn3⟩ hn4
    · skip
      have hl31 : lessAt (xs.map NodeD.name) s ((i + j) / 2) = false := by rw [lessAt_get (by rw [hml]; exact hhl)]; simpa using hc31
      have hn1 : i ≤ (i + j) / 2 := by omega
      have hn2 : (i + j) / 2 ≤ xs.length := by omega
      have hn3 := hpos.trans (bsI_down hij' hl31)
      have hn4 : (i + j) / 2 - i < j - i := by omega
      let nxt : Nat × Nat := (i, (i + j) / 2)
      refine E.W.region ?_
      refine E.WL.val (E.y_move rfl) rfl rfl rfl ?_
      refine E.WL.val (E.y_assign rfl) rfl rfl rfl ?_
      refine E.WL.done ?_
      refine E.KQ.block_n ?_
      refine E.KQ.next (ι := Nat × Nat) nxt (by exact .cons rfl (.cons rfl (.cons rfl (.cons rfl (.cons rfl (.cons rfl .nil)))))) ⟨hb, hn1, hn2, hn3⟩ hn4
  · replace hc17 := of_decide_eq_false hc17
    have hij' : ¬ i < j := by have := hc17; simp only at this; omega
    rw [bsI_end hij'] at hpos
    refine E.W.exit ?_
    refine E.KQ.then_e ?_
    refine E.KQ.loop_e ?_
    refine E.KQ.block_e ?_
    refine E.KQ.then_n ?_
    refine E.W.seq ?_
    refine E.W.region ?_
    refine E.WL.val (E.y_move rfl) rfl rfl rfl ?_
    refine E.WL.val (E.y_move rfl) rfl rfl rfl ?_
    refine E.WL.val (E.y_move rfl) rfl rfl rfl ?_
    refine E.WL.val (E.y_lss rfl rfl) rfl rfl rfl ?_
    refine E.WL.val (E.y_move rfl) rfl rfl rfl ?_
    refine E.WL.split 39 rfl (fun h39 => ?_) (fun h39 => ?_)
    · replace h39 : i < xs.length := by have := of_decide_eq_true h39; simp only at this; omega
      obtain ⟨q, cs, hA, _, hl, hat, hr⟩ := hg i h39
      subst hA
      replace hat := hat.ext hb.below
      replace hr := RNode.goes.stays hr (Stays.ext hb.below)
      have hfin : hasB (xs.map NodeD.name) s = decide (cmpB xs[i].name s = 0) := by unfold hasB; rw [hpos, hitAt_get (by rw [hml]; exact h39)]; simp only [List.getElem_map]
      refine E.WL.val (E.y_move rfl) rfl rfl rfl ?_
      refine E.WL.val (E.y_move rfl) rfl rfl rfl ?_
      refine E.WL.val (E.y_move rfl) rfl rfl rfl ?_
      refine E.WL.val (E.y_idxS Tryz.underlying22 Tryz.sizeOf32 rfl rfl (by omega) (by omega)) rfl rfl rfl ?_
      refine E.WL.val (E.y_load rfl (E.At.ldk Tryz.isAgg32 Tryz.sizeOf32 hat hl)) rfl rfl rfl ?_
      refine E.WL.val (E.y_move rfl) rfl rfl rfl ?_
      refine E.WL.callv (cmpNode_calls hr s) rfl Tryz.call82 rfl rfl rfl rfl ?_
      rintro _ w3 ⟨rfl, hX⟩
      replace hb := hb.ext hX
      clear hX
      refine E.WL.val (E.y_eql rfl rfl) rfl rfl rfl ?_
      refine E.WL.val (E.y_pick_t rfl rfl) rfl rfl rfl ?_
      refine E.WL.val (E.y_assign rfl) rfl rfl rfl ?_
      refine E.WL.val (E.y_assign rfl) rfl rfl rfl ?_
      refine E.WL.done ?_
      refine E.KQ.then_n ?_
      refine E.W.ret ?_
      refine E.KQ.ret2 Tryz.results81 rfl rfl ?_
      exact ⟨_, rfl, by rw [hfin, hpos], hb.below⟩
    · replace h39 : ¬ i < xs.length := by have := of_decide_eq_false h39; simp only at this; omega
      have hfin : hasB (xs.map NodeD.name) s = false := by unfold hasB; rw [hpos]; exact hitAt_none (by rw [hml]; exact h39)
      refine E.WL.off rfl rfl rfl ?_
      refine E.WL.off rfl rfl rfl ?_
      refine E.WL.off rfl rfl rfl ?_
      refine E.WL.off rfl rfl rfl ?_
      refine E.WL.off rfl rfl rfl ?_
      refine E.WL.off rfl rfl rfl ?_
      refine E.WL.off rfl rfl rfl ?_
      refine E.WL.off rfl rfl rfl ?_
      refine E.WL.val (E.y_pick_f rfl rfl) rfl rfl rfl ?_
      refine E.WL.val (E.y_assign rfl) rfl rfl rfl ?_
      refine E.WL.val (E.y_assign rfl) rfl rfl rfl ?_
      refine E.WL.done ?_
      refine E.KQ.then_n ?_
      refine E.W.ret ?_
      refine E.KQ.ret2 Tryz.results81 rfl rfl ?_
      exact ⟨_, rfl, by rw [hfin, hpos], hb.below⟩

set_option maxHeartbeats 400000 in
theorem nameTask_calls {F : FP} {w : World} {cn : List Value} {n : TaskD} (h : RTask F w cn n) :
    Calls Tryz.prog 34 #[(.agg cn.toArray)] w (Ret fun u w' => u = .string n.name ∧ Ext w w') := by
  obtain ⟨vl, vt, rfl, hl, ht⟩ := h
  have hb := E.Bx.start w (base := w.heap.size) (Nat.le_refl _)
  refine E.enter Tryz.func34 rfl Tryz.ntmps34 [(.agg #[.string n.name, .int .i64 n.n0, .int .i64 n.n1, .int .i64 n.n2, vl, vt, .string n.group, .string n.apart, .int .i64 n.rank])] rfl ?_
  refine E.W.seq ?_
  refine E.W.region ?_
  refine E.WL.box hb rfl rfl rfl rfl ?_
  clear hb; intro B1 w2 hb _ _
  refine E.WL.val (E.y_assign rfl) rfl rfl rfl ?_
  refine E.WL.done ?_
  refine E.KQ.then_n ?_
  refine E.W.seq ?_
  refine E.W.region ?_
  refine E.WL.val (E.y_fld Tryz.underlying34 rfl Tryz.sizeOf9 rfl) rfl rfl rfl ?_
  refine E.WL.val (E.y_load rfl (E.At.ld1 Tryz.isAgg9 (hb.at0 0 rfl) 0 rfl)) rfl rfl rfl ?_
  refine E.WL.val (E.y_assign rfl) rfl rfl rfl ?_
  refine E.WL.done ?_
  refine E.KQ.then_n ?_
  refine E.W.ret ?_
  refine E.KQ.ret1 Tryz.results34 rfl ?_
  exact ⟨_, rfl, rfl, hb.below⟩

set_option maxHeartbeats 400000 in
theorem cmpTask_calls {F : FP} {w : World} {cn : List Value} {n : TaskD} (h : RTask F w cn n) (s : ByteArray) :
    Calls Tryz.prog 84 #[(.agg cn.toArray), (.string s)] w (Ret fun u w' => u = .int .i64 (cmpB n.name s) ∧ Ext w w') := by
  obtain ⟨vl, vt, rfl, hl, ht⟩ := h
  have hb := E.Bx.start w (base := w.heap.size) (Nat.le_refl _)
  refine E.enter Tryz.func84 rfl Tryz.ntmps84 [(.agg #[.string n.name, .int .i64 n.n0, .int .i64 n.n1, .int .i64 n.n2, vl, vt, .string n.group, .string n.apart, .int .i64 n.rank]), (.string s)] rfl ?_
  refine E.W.seq ?_
  refine E.W.region ?_
  refine E.WL.box hb rfl rfl rfl rfl ?_
  clear hb; intro B1 w2 hb _ _
  refine E.WL.val (E.y_assign rfl) rfl rfl rfl ?_
  refine E.WL.done ?_
  refine E.KQ.then_n ?_
  refine E.W.seq ?_
  refine E.W.region ?_
  refine E.WL.val (E.y_fld Tryz.underlying34 rfl Tryz.sizeOf9 rfl) rfl rfl rfl ?_
  refine E.WL.val (E.y_load rfl (E.At.ld1 Tryz.isAgg9 (hb.at0 0 rfl) 0 rfl)) rfl rfl rfl ?_
  refine E.WL.val (E.y_move rfl) rfl rfl rfl ?_
  refine E.WL.call (cmpB_calls w2 n.name s) Tryz.call74 rfl rfl rfl ?_
  rintro _ w3 ⟨rfl, hX⟩
  replace hb := hb.ext hX
  clear hX
  refine E.WL.val (E.y_assign rfl) rfl rfl rfl ?_
  refine E.WL.done ?_
  refine E.KQ.then_n ?_
  refine E.W.ret ?_
  refine E.KQ.ret1 Tryz.results84 rfl ?_
  exact ⟨_, rfl, rfl, hb.below⟩

set_option maxHeartbeats 400000 in
theorem risingTask_calls {F : FP} {w : World} {v : Value} {xs : List TaskD} (h : RdS F w 34 9 128 RTask v xs) (key : TaskD → ByteArray) (g : FuncId) (he : ∀ (args : Array Value) (w : World), (callFunc g args).run Tryz.prog w = .ok (.enter g args) w) (hp : ∀ w', Ext w w' → ∀ i (hi : i < xs.length) cs, RTask F w' cs xs[i] → Calls Tryz.prog g #[.agg cs.toArray] w' (Ret fun u w'' => u = .string (key xs[i]) ∧ Ext w' w'')) :
    Calls Tryz.prog 33 #[v, (.func (.func g) #[] #[])] w (Ret fun u w' => u = .bool (risingB (xs.map key)) ∧ Ext w w') := by
  obtain ⟨A, c, rfl, hc, hby, hg⟩ := h.open_
  have hb := E.Bx.start w (base := w.heap.size) (Nat.le_refl _)
  refine E.enter Tryz.func33 rfl Tryz.ntmps33 [(.slice A xs.length c), (.func (.func g) #[] #[])] rfl ?_
  refine E.W.seq ?_
  refine E.W.region ?_
  refine E.WL.val (E.y_assign rfl) rfl rfl rfl ?_
  refine E.WL.done ?_
  refine E.KQ.then_n ?_
  refine E.W.seq ?_
  refine E.W.seq ?_
  refine E.W.region ?_
  refine E.WL.val (E.y_assign rfl) rfl rfl rfl ?_
  refine E.WL.done ?_
  refine E.KQ.then_n ?_
  refine E.W.block ?_
  refine E.W.loop (ι := Nat) (fun k => [(0, .slice A xs.length c), (1, .func (.func g) #[] #[]), (5, .int .i64 (k : Nat))]) (fun k w' => Bx w.heap.size w w' [] ∧ 1 ≤ k ∧ (k ≤ xs.length ∨ k = 1) ∧ ∀ i, i < k → riseAt (xs.map key) i = true) (fun k => xs.length + 1 - k) (1) (by exact (.cons rfl (.cons rfl (.cons rfl .nil)))) ⟨hb, Nat.le_refl _, .inr rfl, fun i h' => by rw [show i = 0 by omega]; rfl⟩ (fun k w1 hJ => ?_)
  clear hb
  obtain ⟨hb, hk1, hk2, hall⟩ := hJ
  refine E.W.seq ?_
  refine E.W.seq ?_
  refine E.W.region ?_
  refine E.WL.val (E.y_move rfl) rfl rfl rfl ?_
  refine E.WL.val (E.y_move rfl) rfl rfl rfl ?_
  refine E.WL.val (E.y_lenS Tryz.underlying23 rfl) rfl rfl rfl ?_
  refine E.WL.val (E.y_lss rfl rfl) rfl rfl rfl ?_
  refine E.WL.done ?_
  refine E.KQ.then_n ?_
  refine E.W.condT 9 rfl (fun hc9 => ?_) (fun hc9 => ?_)
  · replace hc9 := of_decide_eq_true hc9
    refine E.W.skip ?_
    refine E.KQ.then_n ?_
    refine E.W.seq ?_
    refine E.W.block ?_
    refine E.W.seq ?_
    refine E.W.regionQ rfl (by kernel_rfl) ?_
    refine E.QL.val (fun w' hw => E.y_move rfl) rfl rfl rfl ?_
    refine E.QL.val (fun w' hw => E.y_move rfl) rfl rfl rfl ?_
    refine E.QL.val (fun w' hw => E.y_move rfl) rfl rfl rfl ?_
    have hkl : k < xs.length := by omega
    have hk1l : k - 1 < xs.length := by omega
    obtain ⟨q, cs, hA, _, hl, hat, hr⟩ := hg k hkl
    obtain ⟨q', cs', hA', _, hl', hat', hr'⟩ := hg (k - 1) hk1l
    subst hA
    injection hA' with hA'
    subst hA'
    replace hat := hat.ext hb.below
    replace hat' := hat'.ext hb.below
    replace hr := RTask.goes.stays hr (Stays.ext hb.below)
    replace hr' := RTask.goes.stays hr' (Stays.ext hb.below)
    refine E.QL.val (fun w' hw => E.y_sub rfl rfl (Go.IntWalk.i64_in _ (by omega))) rfl rfl rfl ?_
    refine E.QL.as 15 rfl (show _ = Value.int .i64 ((k - 1 : Nat) : Int) from by rw [show ((k : Nat) : Int) - 1 = ((k - 1 : Nat) : Int) by omega]) ?_
    refine E.QL.val (fun w' hw => E.y_idxS Tryz.underlying23 Tryz.sizeOf34 rfl rfl (by omega) (by omega)) rfl rfl rfl ?_
    refine E.QL.val (fun w' hw => E.y_load rfl (E.At.ldk Tryz.isAgg34 Tryz.sizeOf34 (hat'.ext hw) hl')) rfl rfl rfl ?_
    refine E.QL.callv rfl he rfl (fun w' hw => E.quiet hw (hp w' (E.Ext.trans hb.below hw) (k - 1) hk1l cs' (RTask.goes.stays hr' (Stays.ext hw)))) rfl rfl rfl ?_
    refine E.QL.val (fun w' hw => E.y_move rfl) rfl rfl rfl ?_
    refine E.QL.val (fun w' hw => E.y_move rfl) rfl rfl rfl ?_
    refine E.QL.val (fun w' hw => E.y_move rfl) rfl rfl rfl ?_
    refine E.QL.val (fun w' hw => E.y_idxS Tryz.underlying23 Tryz.sizeOf34 rfl rfl (by omega) (by omega)) rfl rfl rfl ?_
    refine E.QL.val (fun w' hw => E.y_load rfl (E.At.ldk Tryz.isAgg34 Tryz.sizeOf34 (hat.ext hw) hl)) rfl rfl rfl ?_
    refine E.QL.callv rfl he rfl (fun w' hw => E.quiet hw (hp w' (E.Ext.trans hb.below hw) k hkl cs (RTask.goes.stays hr (Stays.ext hw)))) rfl rfl rfl ?_
    refine E.QL.val (fun w' hw => E.y_sgeq rfl rfl) rfl rfl rfl ?_
    refine E.QL.end_ fun w2 hx => ?_
    replace hb := hb.ext hx
    clear hx
    refine E.KQ.then_n ?_
    refine E.W.condT 25 rfl (fun h25 => ?_) (fun h25 => ?_)
    · skip
      refine E.W.seq ?_
      refine E.W.region ?_
      refine E.WL.val (E.y_assign rfl) rfl rfl rfl ?_
      refine E.WL.done ?_
      refine E.KQ.then_n ?_
      refine E.W.ret ?_
      refine E.KQ.block_r ?_
      refine E.KQ.then_r ?_
      refine E.KQ.loop_r ?_
      refine E.KQ.block_r ?_
      refine E.KQ.then_r ?_
      refine E.KQ.ret1 Tryz.results33 rfl ?_
      exact ⟨_, rfl, by rw [risingB_not (i := k) (by simp; exact hkl) (by rw [riseAt_get (by simp; exact hkl) (by omega)]; simp only [List.getElem_map]; simpa [ltB] using h25)], hb.below⟩
    · skip
      refine E.W.skip ?_
      refine E.KQ.block_n ?_
      refine E.KQ.then_n ?_
      refine E.W.region ?_
      refine E.WL.val (E.y_move rfl) rfl rfl rfl ?_
      refine E.WL.val (E.y_add rfl rfl (Go.IntWalk.i64_in _ (by omega))) rfl rfl rfl ?_
      refine E.WL.val (E.y_assign rfl) rfl rfl rfl ?_
      refine E.WL.done ?_
      refine E.KQ.next (k + 1) (by exact .cons rfl (.cons rfl (.cons rfl .nil))) ⟨hb, by omega, by omega, fun i h' => ?_⟩ (by show xs.length + 1 - (k + 1) < xs.length + 1 - k; omega)
      rcases Nat.eq_or_lt_of_le (Nat.le_of_lt_succ h') with e | e
      · subst e; rw [riseAt_get (by simp; exact hkl) (by omega)]; simp only [List.getElem_map]; simpa [ltB] using h25
      · exact hall i e
  · replace hc9 := of_decide_eq_false hc9
    refine E.W.exit ?_
    refine E.KQ.then_e ?_
    refine E.KQ.loop_e ?_
    refine E.KQ.block_e ?_
    refine E.KQ.then_n ?_
    refine E.W.seq ?_
    refine E.W.region ?_
    refine E.WL.val (E.y_assign rfl) rfl rfl rfl ?_
    refine E.WL.done ?_
    refine E.KQ.then_n ?_
    refine E.W.ret ?_
    refine E.KQ.ret1 Tryz.results33 rfl ?_
    exact ⟨_, rfl, by rw [risingB_of (fun i hi => hall i (by rw [List.length_map] at hi; omega))], hb.below⟩

set_option maxHeartbeats 400000 in
theorem searchTask_calls {F : FP} {w : World} {v : Value} {xs : List TaskD} (h : RdS F w 34 9 128 RTask v xs) (s : ByteArray) :
    Calls Tryz.prog 83 #[v, (.string s), (.func (.func 84) #[] #[])] w (Ret fun u w' => u = .tuple #[.int .i64 (posB (xs.map TaskD.name) s : Nat), .bool (hasB (xs.map TaskD.name) s)] ∧ Ext w w') := by
  obtain ⟨A, c, rfl, hc, hby, hg⟩ := h.open_
  have hml : (xs.map TaskD.name).length = xs.length := List.length_map _
  have hb := E.Bx.start w (base := w.heap.size) (Nat.le_refl _)
  refine E.enter Tryz.func83 rfl Tryz.ntmps83 [(.slice A xs.length c), (.string s), (.func (.func 84) #[] #[])] rfl ?_
  refine E.W.seq ?_
  refine E.W.region ?_
  refine E.WL.val (E.y_assign rfl) rfl rfl rfl ?_
  refine E.WL.val (E.y_assign rfl) rfl rfl rfl ?_
  refine E.WL.done ?_
  refine E.KQ.then_n ?_
  refine E.W.seq ?_
  refine E.W.region ?_
  refine E.WL.val (E.y_move rfl) rfl rfl rfl ?_
  refine E.WL.val (E.y_lenS Tryz.underlying23 rfl) rfl rfl rfl ?_
  refine E.WL.val (E.y_assign rfl) rfl rfl rfl ?_
  refine E.WL.done ?_
  refine E.KQ.then_n ?_
  refine E.W.seq ?_
  refine E.W.region ?_
  refine E.WL.val (E.y_move rfl) rfl rfl rfl ?_
  refine E.WL.val (E.y_assign rfl) rfl rfl rfl ?_
  refine E.WL.val (E.y_assign rfl) rfl rfl rfl ?_
  refine E.WL.done ?_
  refine E.KQ.then_n ?_
  refine E.W.seq ?_
  refine E.W.block ?_
  refine E.W.loop (ι := Nat × Nat) (fun k => [(0, .slice A xs.length c), (1, .string s), (2, .func (.func 84) #[] #[]), (8, .int .i64 xs.length), (9, .int .i64 (k.1 : Nat)), (10, .int .i64 (k.2 : Nat))]) (fun k w' => Bx w.heap.size w w' [] ∧ k.1 ≤ k.2 ∧ k.2 ≤ xs.length ∧ posB (xs.map TaskD.name) s = bsI (lessAt (xs.map TaskD.name) s) k.1 k.2) (fun k => k.2 - k.1) ((0, xs.length)) (by exact (.cons rfl (.cons rfl (.cons rfl (.cons rfl (.cons rfl (.cons rfl .nil))))))) ⟨hb, Nat.zero_le _, Nat.le_refl _, by unfold posB; rw [hml]⟩ (fun k w1 hJ => ?_)
  clear hb
  obtain ⟨i, j⟩ := k
  obtain ⟨hb, hij, hjn, hpos⟩ := hJ
  simp only at hij hjn hpos
  refine E.W.seq ?_
  refine E.W.seq ?_
  refine E.W.region ?_
  refine E.WL.val (E.y_move rfl) rfl rfl rfl ?_
  refine E.WL.val (E.y_move rfl) rfl rfl rfl ?_
  refine E.WL.val (E.y_lss rfl rfl) rfl rfl rfl ?_
  refine E.WL.done ?_
  refine E.KQ.then_n ?_
  refine E.W.condT 17 rfl (fun hc17 => ?_) (fun hc17 => ?_)
  · replace hc17 := of_decide_eq_true hc17
    have hij' : i < j := by have := hc17; simp only at this; omega
    refine E.W.skip ?_
    refine E.KQ.then_n ?_
    refine E.W.block ?_
    refine E.W.seq ?_
    refine E.W.region ?_
    refine E.WL.val (E.y_move rfl) rfl rfl rfl ?_
    refine E.WL.val (E.y_move rfl) rfl rfl rfl ?_
    refine E.WL.val (E.y_add rfl rfl (Go.IntWalk.i64_in _ (by omega))) rfl rfl rfl ?_
    refine E.WL.val (E.y_conv (by rw [Tryz.underlying3]; rfl) Tryz.underlying113 rfl (Go.IntWalk.u64_in _ (by omega))) rfl rfl rfl ?_
    refine E.WL.val (E.y_shr (m := 1) rfl rfl (by decide)) rfl rfl rfl ?_
    refine E.WL.as 22 rfl (show _ = Value.int .u64 (((i + j) / 2 : Nat) : Int) from by congr 1) ?_
    refine E.WL.val (E.y_conv (by rw [Tryz.underlying113]; rfl) Tryz.underlying3 rfl (Go.IntWalk.i64_in _ (by omega))) rfl rfl rfl ?_
    refine E.WL.val (E.y_assign rfl) rfl rfl rfl ?_
    refine E.WL.done ?_
    refine E.KQ.then_n ?_
    refine E.W.seq ?_
    refine E.W.region ?_
    refine E.WL.val (E.y_move rfl) rfl rfl rfl ?_
    refine E.WL.val (E.y_move rfl) rfl rfl rfl ?_
    have hhl : (i + j) / 2 < xs.length := by omega
    obtain ⟨q, cs, hA, _, hl, hat, hr⟩ := hg ((i + j) / 2) hhl
    subst hA
    replace hat := hat.ext hb.below
    replace hr := RTask.goes.stays hr (Stays.ext hb.below)
    refine E.WL.val (E.y_move rfl) rfl rfl rfl ?_
    refine E.WL.val (E.y_idxS Tryz.underlying23 Tryz.sizeOf34 rfl rfl (by omega) (by omega)) rfl rfl rfl ?_
    refine E.WL.val (E.y_load rfl (E.At.ldk Tryz.isAgg34 Tryz.sizeOf34 hat hl)) rfl rfl rfl ?_
    refine E.WL.val (E.y_move rfl) rfl rfl rfl ?_
    refine E.WL.callv (cmpTask_calls hr s) rfl Tryz.call84 rfl rfl rfl rfl ?_
    rintro _ w2 ⟨rfl, hX⟩
    replace hb := hb.ext hX
    clear hX
    refine E.WL.val (E.y_lss rfl rfl) rfl rfl rfl ?_
    refine E.WL.done ?_
    refine E.KQ.then_n ?_
    refine E.W.condT 31 rfl (fun hc31 => ?_) (fun hc31 => ?_)
    · skip
      have hl31 : lessAt (xs.map TaskD.name) s ((i + j) / 2) = true := by rw [lessAt_get (by rw [hml]; exact hhl)]; simpa using hc31
      have hn1 : (i + j) / 2 + 1 ≤ j := by omega
      have hn2 : j ≤ xs.length := hjn
      have hn3 := hpos.trans (bsI_up hij' hl31)
      have hn4 : j - ((i + j) / 2 + 1) < j - i := by omega
      let nxt : Nat × Nat := ((i + j) / 2 + 1, j)
      refine E.W.region ?_
      refine E.WL.val (E.y_move rfl) rfl rfl rfl ?_
      refine E.WL.val (E.y_add rfl rfl (Go.IntWalk.i64_in _ (by omega))) rfl rfl rfl ?_
      refine E.WL.val (E.y_assign rfl) rfl rfl rfl ?_
      refine E.WL.done ?_
      refine E.KQ.block_n ?_
      refine E.KQ.next (ι := Nat × Nat) nxt (by exact .cons rfl (.cons rfl (.cons rfl (.cons rfl (.cons rfl (.cons rfl .nil)))))) ⟨hb, hn1, hn2, hn3⟩ hn4
    · skip
      have hl31 : lessAt (xs.map TaskD.name) s ((i + j) / 2) = false := by rw [lessAt_get (by rw [hml]; exact hhl)]; simpa using hc31
      have hn1 : i ≤ (i + j) / 2 := by omega
      have hn2 : (i + j) / 2 ≤ xs.length := by omega
      have hn3 := hpos.trans (bsI_down hij' hl31)
      have hn4 : (i + j) / 2 - i < j - i := by omega
      let nxt : Nat × Nat := (i, (i + j) / 2)
      refine E.W.region ?_
      refine E.WL.val (E.y_move rfl) rfl rfl rfl ?_
      refine E.WL.val (E.y_assign rfl) rfl rfl rfl ?_
      refine E.WL.done ?_
      refine E.KQ.block_n ?_
      refine E.KQ.next (ι := Nat × Nat) nxt (by exact .cons rfl (.cons rfl (.cons rfl (.cons rfl (.cons rfl (.cons rfl .nil)))))) ⟨hb, hn1, hn2, hn3⟩ hn4
  · replace hc17 := of_decide_eq_false hc17
    have hij' : ¬ i < j := by have := hc17; simp only at this; omega
    rw [bsI_end hij'] at hpos
    refine E.W.exit ?_
    refine E.KQ.then_e ?_
    refine E.KQ.loop_e ?_
    refine E.KQ.block_e ?_
    refine E.KQ.then_n ?_
    refine E.W.seq ?_
    refine E.W.region ?_
    refine E.WL.val (E.y_move rfl) rfl rfl rfl ?_
    refine E.WL.val (E.y_move rfl) rfl rfl rfl ?_
    refine E.WL.val (E.y_move rfl) rfl rfl rfl ?_
    refine E.WL.val (E.y_lss rfl rfl) rfl rfl rfl ?_
    refine E.WL.val (E.y_move rfl) rfl rfl rfl ?_
    refine E.WL.split 39 rfl (fun h39 => ?_) (fun h39 => ?_)
    · replace h39 : i < xs.length := by have := of_decide_eq_true h39; simp only at this; omega
      obtain ⟨q, cs, hA, _, hl, hat, hr⟩ := hg i h39
      subst hA
      replace hat := hat.ext hb.below
      replace hr := RTask.goes.stays hr (Stays.ext hb.below)
      have hfin : hasB (xs.map TaskD.name) s = decide (cmpB xs[i].name s = 0) := by unfold hasB; rw [hpos, hitAt_get (by rw [hml]; exact h39)]; simp only [List.getElem_map]
      refine E.WL.val (E.y_move rfl) rfl rfl rfl ?_
      refine E.WL.val (E.y_move rfl) rfl rfl rfl ?_
      refine E.WL.val (E.y_move rfl) rfl rfl rfl ?_
      refine E.WL.val (E.y_idxS Tryz.underlying23 Tryz.sizeOf34 rfl rfl (by omega) (by omega)) rfl rfl rfl ?_
      refine E.WL.val (E.y_load rfl (E.At.ldk Tryz.isAgg34 Tryz.sizeOf34 hat hl)) rfl rfl rfl ?_
      refine E.WL.val (E.y_move rfl) rfl rfl rfl ?_
      refine E.WL.callv (cmpTask_calls hr s) rfl Tryz.call84 rfl rfl rfl rfl ?_
      rintro _ w3 ⟨rfl, hX⟩
      replace hb := hb.ext hX
      clear hX
      refine E.WL.val (E.y_eql rfl rfl) rfl rfl rfl ?_
      refine E.WL.val (E.y_pick_t rfl rfl) rfl rfl rfl ?_
      refine E.WL.val (E.y_assign rfl) rfl rfl rfl ?_
      refine E.WL.val (E.y_assign rfl) rfl rfl rfl ?_
      refine E.WL.done ?_
      refine E.KQ.then_n ?_
      refine E.W.ret ?_
      refine E.KQ.ret2 Tryz.results83 rfl rfl ?_
      exact ⟨_, rfl, by rw [hfin, hpos], hb.below⟩
    · replace h39 : ¬ i < xs.length := by have := of_decide_eq_false h39; simp only at this; omega
      have hfin : hasB (xs.map TaskD.name) s = false := by unfold hasB; rw [hpos]; exact hitAt_none (by rw [hml]; exact h39)
      refine E.WL.off rfl rfl rfl ?_
      refine E.WL.off rfl rfl rfl ?_
      refine E.WL.off rfl rfl rfl ?_
      refine E.WL.off rfl rfl rfl ?_
      refine E.WL.off rfl rfl rfl ?_
      refine E.WL.off rfl rfl rfl ?_
      refine E.WL.off rfl rfl rfl ?_
      refine E.WL.off rfl rfl rfl ?_
      refine E.WL.val (E.y_pick_f rfl rfl) rfl rfl rfl ?_
      refine E.WL.val (E.y_assign rfl) rfl rfl rfl ?_
      refine E.WL.val (E.y_assign rfl) rfl rfl rfl ?_
      refine E.WL.done ?_
      refine E.KQ.then_n ?_
      refine E.W.ret ?_
      refine E.KQ.ret2 Tryz.results83 rfl rfl ?_
      exact ⟨_, rfl, by rw [hfin, hpos], hb.below⟩

set_option maxHeartbeats 400000 in
theorem nameBind_calls {F : FP} {w : World} {cn : List Value} {n : BindD} (h : RBind F w cn n) :
    Calls Tryz.prog 36 #[(.agg cn.toArray)] w (Ret fun u w' => u = .string n.task ∧ Ext w w') := by
  unfold RBind at h; subst h
  have hb := E.Bx.start w (base := w.heap.size) (Nat.le_refl _)
  refine E.enter Tryz.func36 rfl Tryz.ntmps36 [(.agg #[.string n.task, .string n.node])] rfl ?_
  refine E.W.seq ?_
  refine E.W.region ?_
  refine E.WL.box hb rfl rfl rfl rfl ?_
  clear hb; intro B1 w2 hb _ _
  refine E.WL.val (E.y_assign rfl) rfl rfl rfl ?_
  refine E.WL.done ?_
  refine E.KQ.then_n ?_
  refine E.W.seq ?_
  refine E.W.region ?_
  refine E.WL.val (E.y_fld Tryz.underlying47 rfl Tryz.sizeOf9 rfl) rfl rfl rfl ?_
  refine E.WL.val (E.y_load rfl (E.At.ld1 Tryz.isAgg9 (hb.at0 0 rfl) 0 rfl)) rfl rfl rfl ?_
  refine E.WL.val (E.y_assign rfl) rfl rfl rfl ?_
  refine E.WL.done ?_
  refine E.KQ.then_n ?_
  refine E.W.ret ?_
  refine E.KQ.ret1 Tryz.results36 rfl ?_
  exact ⟨_, rfl, rfl, hb.below⟩

set_option maxHeartbeats 400000 in
theorem cmpBind_calls {F : FP} {w : World} {cn : List Value} {n : BindD} (h : RBind F w cn n) (s : ByteArray) :
    Calls Tryz.prog 95 #[(.agg cn.toArray), (.string s)] w (Ret fun u w' => u = .int .i64 (cmpB n.task s) ∧ Ext w w') := by
  unfold RBind at h; subst h
  have hb := E.Bx.start w (base := w.heap.size) (Nat.le_refl _)
  refine E.enter Tryz.func95 rfl Tryz.ntmps95 [(.agg #[.string n.task, .string n.node]), (.string s)] rfl ?_
  refine E.W.seq ?_
  refine E.W.region ?_
  refine E.WL.box hb rfl rfl rfl rfl ?_
  clear hb; intro B1 w2 hb _ _
  refine E.WL.val (E.y_assign rfl) rfl rfl rfl ?_
  refine E.WL.done ?_
  refine E.KQ.then_n ?_
  refine E.W.seq ?_
  refine E.W.region ?_
  refine E.WL.val (E.y_fld Tryz.underlying47 rfl Tryz.sizeOf9 rfl) rfl rfl rfl ?_
  refine E.WL.val (E.y_load rfl (E.At.ld1 Tryz.isAgg9 (hb.at0 0 rfl) 0 rfl)) rfl rfl rfl ?_
  refine E.WL.val (E.y_move rfl) rfl rfl rfl ?_
  refine E.WL.call (cmpB_calls w2 n.task s) Tryz.call74 rfl rfl rfl ?_
  rintro _ w3 ⟨rfl, hX⟩
  replace hb := hb.ext hX
  clear hX
  refine E.WL.val (E.y_assign rfl) rfl rfl rfl ?_
  refine E.WL.done ?_
  refine E.KQ.then_n ?_
  refine E.W.ret ?_
  refine E.KQ.ret1 Tryz.results95 rfl ?_
  exact ⟨_, rfl, rfl, hb.below⟩

set_option maxHeartbeats 400000 in
theorem risingBind_calls {F : FP} {w : World} {v : Value} {xs : List BindD} (h : RdS F w 47 2 32 RBind v xs) (key : BindD → ByteArray) (g : FuncId) (he : ∀ (args : Array Value) (w : World), (callFunc g args).run Tryz.prog w = .ok (.enter g args) w) (hp : ∀ w', Ext w w' → ∀ i (hi : i < xs.length) cs, RBind F w' cs xs[i] → Calls Tryz.prog g #[.agg cs.toArray] w' (Ret fun u w'' => u = .string (key xs[i]) ∧ Ext w' w'')) :
    Calls Tryz.prog 35 #[v, (.func (.func g) #[] #[])] w (Ret fun u w' => u = .bool (risingB (xs.map key)) ∧ Ext w w') := by
  obtain ⟨A, c, rfl, hc, hby, hg⟩ := h.open_
  have hb := E.Bx.start w (base := w.heap.size) (Nat.le_refl _)
  refine E.enter Tryz.func35 rfl Tryz.ntmps35 [(.slice A xs.length c), (.func (.func g) #[] #[])] rfl ?_
  refine E.W.seq ?_
  refine E.W.region ?_
  refine E.WL.val (E.y_assign rfl) rfl rfl rfl ?_
  refine E.WL.done ?_
  refine E.KQ.then_n ?_
  refine E.W.seq ?_
  refine E.W.seq ?_
  refine E.W.region ?_
  refine E.WL.val (E.y_assign rfl) rfl rfl rfl ?_
  refine E.WL.done ?_
  refine E.KQ.then_n ?_
  refine E.W.block ?_
  refine E.W.loop (ι := Nat) (fun k => [(0, .slice A xs.length c), (1, .func (.func g) #[] #[]), (5, .int .i64 (k : Nat))]) (fun k w' => Bx w.heap.size w w' [] ∧ 1 ≤ k ∧ (k ≤ xs.length ∨ k = 1) ∧ ∀ i, i < k → riseAt (xs.map key) i = true) (fun k => xs.length + 1 - k) (1) (by exact (.cons rfl (.cons rfl (.cons rfl .nil)))) ⟨hb, Nat.le_refl _, .inr rfl, fun i h' => by rw [show i = 0 by omega]; rfl⟩ (fun k w1 hJ => ?_)
  clear hb
  obtain ⟨hb, hk1, hk2, hall⟩ := hJ
  refine E.W.seq ?_
  refine E.W.seq ?_
  refine E.W.region ?_
  refine E.WL.val (E.y_move rfl) rfl rfl rfl ?_
  refine E.WL.val (E.y_move rfl) rfl rfl rfl ?_
  refine E.WL.val (E.y_lenS Tryz.underlying24 rfl) rfl rfl rfl ?_
  refine E.WL.val (E.y_lss rfl rfl) rfl rfl rfl ?_
  refine E.WL.done ?_
  refine E.KQ.then_n ?_
  refine E.W.condT 9 rfl (fun hc9 => ?_) (fun hc9 => ?_)
  · replace hc9 := of_decide_eq_true hc9
    refine E.W.skip ?_
    refine E.KQ.then_n ?_
    refine E.W.seq ?_
    refine E.W.block ?_
    refine E.W.seq ?_
    refine E.W.regionQ rfl (by kernel_rfl) ?_
    refine E.QL.val (fun w' hw => E.y_move rfl) rfl rfl rfl ?_
    refine E.QL.val (fun w' hw => E.y_move rfl) rfl rfl rfl ?_
    refine E.QL.val (fun w' hw => E.y_move rfl) rfl rfl rfl ?_
    have hkl : k < xs.length := by omega
    have hk1l : k - 1 < xs.length := by omega
    obtain ⟨q, cs, hA, _, hl, hat, hr⟩ := hg k hkl
    obtain ⟨q', cs', hA', _, hl', hat', hr'⟩ := hg (k - 1) hk1l
    subst hA
    injection hA' with hA'
    subst hA'
    replace hat := hat.ext hb.below
    replace hat' := hat'.ext hb.below
    replace hr := RBind.goes.stays hr (Stays.ext hb.below)
    replace hr' := RBind.goes.stays hr' (Stays.ext hb.below)
    refine E.QL.val (fun w' hw => E.y_sub rfl rfl (Go.IntWalk.i64_in _ (by omega))) rfl rfl rfl ?_
    refine E.QL.as 15 rfl (show _ = Value.int .i64 ((k - 1 : Nat) : Int) from by rw [show ((k : Nat) : Int) - 1 = ((k - 1 : Nat) : Int) by omega]) ?_
    refine E.QL.val (fun w' hw => E.y_idxS Tryz.underlying24 Tryz.sizeOf47 rfl rfl (by omega) (by omega)) rfl rfl rfl ?_
    refine E.QL.val (fun w' hw => E.y_load rfl (E.At.ldk Tryz.isAgg47 Tryz.sizeOf47 (hat'.ext hw) hl')) rfl rfl rfl ?_
    refine E.QL.callv rfl he rfl (fun w' hw => E.quiet hw (hp w' (E.Ext.trans hb.below hw) (k - 1) hk1l cs' (RBind.goes.stays hr' (Stays.ext hw)))) rfl rfl rfl ?_
    refine E.QL.val (fun w' hw => E.y_move rfl) rfl rfl rfl ?_
    refine E.QL.val (fun w' hw => E.y_move rfl) rfl rfl rfl ?_
    refine E.QL.val (fun w' hw => E.y_move rfl) rfl rfl rfl ?_
    refine E.QL.val (fun w' hw => E.y_idxS Tryz.underlying24 Tryz.sizeOf47 rfl rfl (by omega) (by omega)) rfl rfl rfl ?_
    refine E.QL.val (fun w' hw => E.y_load rfl (E.At.ldk Tryz.isAgg47 Tryz.sizeOf47 (hat.ext hw) hl)) rfl rfl rfl ?_
    refine E.QL.callv rfl he rfl (fun w' hw => E.quiet hw (hp w' (E.Ext.trans hb.below hw) k hkl cs (RBind.goes.stays hr (Stays.ext hw)))) rfl rfl rfl ?_
    refine E.QL.val (fun w' hw => E.y_sgeq rfl rfl) rfl rfl rfl ?_
    refine E.QL.end_ fun w2 hx => ?_
    replace hb := hb.ext hx
    clear hx
    refine E.KQ.then_n ?_
    refine E.W.condT 25 rfl (fun h25 => ?_) (fun h25 => ?_)
    · skip
      refine E.W.seq ?_
      refine E.W.region ?_
      refine E.WL.val (E.y_assign rfl) rfl rfl rfl ?_
      refine E.WL.done ?_
      refine E.KQ.then_n ?_
      refine E.W.ret ?_
      refine E.KQ.block_r ?_
      refine E.KQ.then_r ?_
      refine E.KQ.loop_r ?_
      refine E.KQ.block_r ?_
      refine E.KQ.then_r ?_
      refine E.KQ.ret1 Tryz.results35 rfl ?_
      exact ⟨_, rfl, by rw [risingB_not (i := k) (by simp; exact hkl) (by rw [riseAt_get (by simp; exact hkl) (by omega)]; simp only [List.getElem_map]; simpa [ltB] using h25)], hb.below⟩
    · skip
      refine E.W.skip ?_
      refine E.KQ.block_n ?_
      refine E.KQ.then_n ?_
      refine E.W.region ?_
      refine E.WL.val (E.y_move rfl) rfl rfl rfl ?_
      refine E.WL.val (E.y_add rfl rfl (Go.IntWalk.i64_in _ (by omega))) rfl rfl rfl ?_
      refine E.WL.val (E.y_assign rfl) rfl rfl rfl ?_
      refine E.WL.done ?_
      refine E.KQ.next (k + 1) (by exact .cons rfl (.cons rfl (.cons rfl .nil))) ⟨hb, by omega, by omega, fun i h' => ?_⟩ (by show xs.length + 1 - (k + 1) < xs.length + 1 - k; omega)
      rcases Nat.eq_or_lt_of_le (Nat.le_of_lt_succ h') with e | e
      · subst e; rw [riseAt_get (by simp; exact hkl) (by omega)]; simp only [List.getElem_map]; simpa [ltB] using h25
      · exact hall i e
  · replace hc9 := of_decide_eq_false hc9
    refine E.W.exit ?_
    refine E.KQ.then_e ?_
    refine E.KQ.loop_e ?_
    refine E.KQ.block_e ?_
    refine E.KQ.then_n ?_
    refine E.W.seq ?_
    refine E.W.region ?_
    refine E.WL.val (E.y_assign rfl) rfl rfl rfl ?_
    refine E.WL.done ?_
    refine E.KQ.then_n ?_
    refine E.W.ret ?_
    refine E.KQ.ret1 Tryz.results35 rfl ?_
    exact ⟨_, rfl, by rw [risingB_of (fun i hi => hall i (by rw [List.length_map] at hi; omega))], hb.below⟩

set_option maxHeartbeats 400000 in
theorem searchBind_calls {F : FP} {w : World} {v : Value} {xs : List BindD} (h : RdS F w 47 2 32 RBind v xs) (s : ByteArray) :
    Calls Tryz.prog 94 #[v, (.string s), (.func (.func 95) #[] #[])] w (Ret fun u w' => u = .tuple #[.int .i64 (posB (xs.map BindD.task) s : Nat), .bool (hasB (xs.map BindD.task) s)] ∧ Ext w w') := by
  obtain ⟨A, c, rfl, hc, hby, hg⟩ := h.open_
  have hml : (xs.map BindD.task).length = xs.length := List.length_map _
  have hb := E.Bx.start w (base := w.heap.size) (Nat.le_refl _)
  refine E.enter Tryz.func94 rfl Tryz.ntmps94 [(.slice A xs.length c), (.string s), (.func (.func 95) #[] #[])] rfl ?_
  refine E.W.seq ?_
  refine E.W.region ?_
  refine E.WL.val (E.y_assign rfl) rfl rfl rfl ?_
  refine E.WL.val (E.y_assign rfl) rfl rfl rfl ?_
  refine E.WL.done ?_
  refine E.KQ.then_n ?_
  refine E.W.seq ?_
  refine E.W.region ?_
  refine E.WL.val (E.y_move rfl) rfl rfl rfl ?_
  refine E.WL.val (E.y_lenS Tryz.underlying24 rfl) rfl rfl rfl ?_
  refine E.WL.val (E.y_assign rfl) rfl rfl rfl ?_
  refine E.WL.done ?_
  refine E.KQ.then_n ?_
  refine E.W.seq ?_
  refine E.W.region ?_
  refine E.WL.val (E.y_move rfl) rfl rfl rfl ?_
  refine E.WL.val (E.y_assign rfl) rfl rfl rfl ?_
  refine E.WL.val (E.y_assign rfl) rfl rfl rfl ?_
  refine E.WL.done ?_
  refine E.KQ.then_n ?_
  refine E.W.seq ?_
  refine E.W.block ?_
  refine E.W.loop (ι := Nat × Nat) (fun k => [(0, .slice A xs.length c), (1, .string s), (2, .func (.func 95) #[] #[]), (8, .int .i64 xs.length), (9, .int .i64 (k.1 : Nat)), (10, .int .i64 (k.2 : Nat))]) (fun k w' => Bx w.heap.size w w' [] ∧ k.1 ≤ k.2 ∧ k.2 ≤ xs.length ∧ posB (xs.map BindD.task) s = bsI (lessAt (xs.map BindD.task) s) k.1 k.2) (fun k => k.2 - k.1) ((0, xs.length)) (by exact (.cons rfl (.cons rfl (.cons rfl (.cons rfl (.cons rfl (.cons rfl .nil))))))) ⟨hb, Nat.zero_le _, Nat.le_refl _, by unfold posB; rw [hml]⟩ (fun k w1 hJ => ?_)
  clear hb
  obtain ⟨i, j⟩ := k
  obtain ⟨hb, hij, hjn, hpos⟩ := hJ
  simp only at hij hjn hpos
  refine E.W.seq ?_
  refine E.W.seq ?_
  refine E.W.region ?_
  refine E.WL.val (E.y_move rfl) rfl rfl rfl ?_
  refine E.WL.val (E.y_move rfl) rfl rfl rfl ?_
  refine E.WL.val (E.y_lss rfl rfl) rfl rfl rfl ?_
  refine E.WL.done ?_
  refine E.KQ.then_n ?_
  refine E.W.condT 17 rfl (fun hc17 => ?_) (fun hc17 => ?_)
  · replace hc17 := of_decide_eq_true hc17
    have hij' : i < j := by have := hc17; simp only at this; omega
    refine E.W.skip ?_
    refine E.KQ.then_n ?_
    refine E.W.block ?_
    refine E.W.seq ?_
    refine E.W.region ?_
    refine E.WL.val (E.y_move rfl) rfl rfl rfl ?_
    refine E.WL.val (E.y_move rfl) rfl rfl rfl ?_
    refine E.WL.val (E.y_add rfl rfl (Go.IntWalk.i64_in _ (by omega))) rfl rfl rfl ?_
    refine E.WL.val (E.y_conv (by rw [Tryz.underlying3]; rfl) Tryz.underlying113 rfl (Go.IntWalk.u64_in _ (by omega))) rfl rfl rfl ?_
    refine E.WL.val (E.y_shr (m := 1) rfl rfl (by decide)) rfl rfl rfl ?_
    refine E.WL.as 22 rfl (show _ = Value.int .u64 (((i + j) / 2 : Nat) : Int) from by congr 1) ?_
    refine E.WL.val (E.y_conv (by rw [Tryz.underlying113]; rfl) Tryz.underlying3 rfl (Go.IntWalk.i64_in _ (by omega))) rfl rfl rfl ?_
    refine E.WL.val (E.y_assign rfl) rfl rfl rfl ?_
    refine E.WL.done ?_
    refine E.KQ.then_n ?_
    refine E.W.seq ?_
    refine E.W.region ?_
    refine E.WL.val (E.y_move rfl) rfl rfl rfl ?_
    refine E.WL.val (E.y_move rfl) rfl rfl rfl ?_
    have hhl : (i + j) / 2 < xs.length := by omega
    obtain ⟨q, cs, hA, _, hl, hat, hr⟩ := hg ((i + j) / 2) hhl
    subst hA
    replace hat := hat.ext hb.below
    replace hr := RBind.goes.stays hr (Stays.ext hb.below)
    refine E.WL.val (E.y_move rfl) rfl rfl rfl ?_
    refine E.WL.val (E.y_idxS Tryz.underlying24 Tryz.sizeOf47 rfl rfl (by omega) (by omega)) rfl rfl rfl ?_
    refine E.WL.val (E.y_load rfl (E.At.ldk Tryz.isAgg47 Tryz.sizeOf47 hat hl)) rfl rfl rfl ?_
    refine E.WL.val (E.y_move rfl) rfl rfl rfl ?_
    refine E.WL.callv (cmpBind_calls hr s) rfl Tryz.call95 rfl rfl rfl rfl ?_
    rintro _ w2 ⟨rfl, hX⟩
    replace hb := hb.ext hX
    clear hX
    refine E.WL.val (E.y_lss rfl rfl) rfl rfl rfl ?_
    refine E.WL.done ?_
    refine E.KQ.then_n ?_
    refine E.W.condT 31 rfl (fun hc31 => ?_) (fun hc31 => ?_)
    · skip
      have hl31 : lessAt (xs.map BindD.task) s ((i + j) / 2) = true := by rw [lessAt_get (by rw [hml]; exact hhl)]; simpa using hc31
      have hn1 : (i + j) / 2 + 1 ≤ j := by omega
      have hn2 : j ≤ xs.length := hjn
      have hn3 := hpos.trans (bsI_up hij' hl31)
      have hn4 : j - ((i + j) / 2 + 1) < j - i := by omega
      let nxt : Nat × Nat := ((i + j) / 2 + 1, j)
      refine E.W.region ?_
      refine E.WL.val (E.y_move rfl) rfl rfl rfl ?_
      refine E.WL.val (E.y_add rfl rfl (Go.IntWalk.i64_in _ (by omega))) rfl rfl rfl ?_
      refine E.WL.val (E.y_assign rfl) rfl rfl rfl ?_
      refine E.WL.done ?_
      refine E.KQ.block_n ?_
      refine E.KQ.next (ι := Nat × Nat) nxt (by exact .cons rfl (.cons rfl (.cons rfl (.cons rfl (.cons rfl (.cons rfl .nil)))))) ⟨hb, hn1, hn2, hn3⟩ hn4
    · skip
      have hl31 : lessAt (xs.map BindD.task) s ((i + j) / 2) = false := by rw [lessAt_get (by rw [hml]; exact hhl)]; simpa using hc31
      have hn1 : i ≤ (i + j) / 2 := by omega
      have hn2 : (i + j) / 2 ≤ xs.length := by omega
      have hn3 := hpos.trans (bsI_down hij' hl31)
      have hn4 : (i + j) / 2 - i < j - i := by omega
      let nxt : Nat × Nat := (i, (i + j) / 2)
      refine E.W.region ?_
      refine E.WL.val (E.y_move rfl) rfl rfl rfl ?_
      refine E.WL.val (E.y_assign rfl) rfl rfl rfl ?_
      refine E.WL.done ?_
      refine E.KQ.block_n ?_
      refine E.KQ.next (ι := Nat × Nat) nxt (by exact .cons rfl (.cons rfl (.cons rfl (.cons rfl (.cons rfl (.cons rfl .nil)))))) ⟨hb, hn1, hn2, hn3⟩ hn4
  · replace hc17 := of_decide_eq_false hc17
    have hij' : ¬ i < j := by have := hc17; simp only at this; omega
    rw [bsI_end hij'] at hpos
    refine E.W.exit ?_
    refine E.KQ.then_e ?_
    refine E.KQ.loop_e ?_
    refine E.KQ.block_e ?_
    refine E.KQ.then_n ?_
    refine E.W.seq ?_
    refine E.W.region ?_
    refine E.WL.val (E.y_move rfl) rfl rfl rfl ?_
    refine E.WL.val (E.y_move rfl) rfl rfl rfl ?_
    refine E.WL.val (E.y_move rfl) rfl rfl rfl ?_
    refine E.WL.val (E.y_lss rfl rfl) rfl rfl rfl ?_
    refine E.WL.val (E.y_move rfl) rfl rfl rfl ?_
    refine E.WL.split 39 rfl (fun h39 => ?_) (fun h39 => ?_)
    · replace h39 : i < xs.length := by have := of_decide_eq_true h39; simp only at this; omega
      obtain ⟨q, cs, hA, _, hl, hat, hr⟩ := hg i h39
      subst hA
      replace hat := hat.ext hb.below
      replace hr := RBind.goes.stays hr (Stays.ext hb.below)
      have hfin : hasB (xs.map BindD.task) s = decide (cmpB xs[i].task s = 0) := by unfold hasB; rw [hpos, hitAt_get (by rw [hml]; exact h39)]; simp only [List.getElem_map]
      refine E.WL.val (E.y_move rfl) rfl rfl rfl ?_
      refine E.WL.val (E.y_move rfl) rfl rfl rfl ?_
      refine E.WL.val (E.y_move rfl) rfl rfl rfl ?_
      refine E.WL.val (E.y_idxS Tryz.underlying24 Tryz.sizeOf47 rfl rfl (by omega) (by omega)) rfl rfl rfl ?_
      refine E.WL.val (E.y_load rfl (E.At.ldk Tryz.isAgg47 Tryz.sizeOf47 hat hl)) rfl rfl rfl ?_
      refine E.WL.val (E.y_move rfl) rfl rfl rfl ?_
      refine E.WL.callv (cmpBind_calls hr s) rfl Tryz.call95 rfl rfl rfl rfl ?_
      rintro _ w3 ⟨rfl, hX⟩
      replace hb := hb.ext hX
      clear hX
      refine E.WL.val (E.y_eql rfl rfl) rfl rfl rfl ?_
      refine E.WL.val (E.y_pick_t rfl rfl) rfl rfl rfl ?_
      refine E.WL.val (E.y_assign rfl) rfl rfl rfl ?_
      refine E.WL.val (E.y_assign rfl) rfl rfl rfl ?_
      refine E.WL.done ?_
      refine E.KQ.then_n ?_
      refine E.W.ret ?_
      refine E.KQ.ret2 Tryz.results94 rfl rfl ?_
      exact ⟨_, rfl, by rw [hfin, hpos], hb.below⟩
    · replace h39 : ¬ i < xs.length := by have := of_decide_eq_false h39; simp only at this; omega
      have hfin : hasB (xs.map BindD.task) s = false := by unfold hasB; rw [hpos]; exact hitAt_none (by rw [hml]; exact h39)
      refine E.WL.off rfl rfl rfl ?_
      refine E.WL.off rfl rfl rfl ?_
      refine E.WL.off rfl rfl rfl ?_
      refine E.WL.off rfl rfl rfl ?_
      refine E.WL.off rfl rfl rfl ?_
      refine E.WL.off rfl rfl rfl ?_
      refine E.WL.off rfl rfl rfl ?_
      refine E.WL.off rfl rfl rfl ?_
      refine E.WL.val (E.y_pick_f rfl rfl) rfl rfl rfl ?_
      refine E.WL.val (E.y_assign rfl) rfl rfl rfl ?_
      refine E.WL.val (E.y_assign rfl) rfl rfl rfl ?_
      refine E.WL.done ?_
      refine E.KQ.then_n ?_
      refine E.W.ret ?_
      refine E.KQ.ret2 Tryz.results94 rfl rfl ?_
      exact ⟨_, rfl, by rw [hfin, hpos], hb.below⟩
end Go.Proofs.YtmnnbnajnfdncaaGreatDoor
