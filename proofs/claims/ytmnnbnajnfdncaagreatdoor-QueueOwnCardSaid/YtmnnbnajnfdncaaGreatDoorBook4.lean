/- Walks: book, fourth part: what an order is. -/
import Derived.Test.YtmnnbnajnfdncaaGreatDoorBook3
set_option linter.unusedVariables false
set_option linter.unusedSimpArgs false
namespace Go.Proofs.YtmnnbnajnfdncaaGreatDoor
open Go.RowKit E
def taskFits (t : TaskD) : Prop := t.name.size + t.group.size + t.apart.size ≤ 4611686018427387904
def orderFits (o : OrderD) : Prop := taskFits o.task ∧ o.name.size + o.on.size ≤ 4611686018427387904
set_option maxHeartbeats 400000 in
theorem noNode_calls {F : FP} {w : World} {cn : List Value} {n : NodeD} (h : RNode F w cn n) :
    Calls Tryz.prog 53 #[(.agg cn.toArray)] w (Ret fun u w' => u = .bool (noNode n) ∧ Ext w w') := by
  obtain ⟨vl, vt, rfl, hnl, hnt⟩ := id h
  obtain ⟨A1, c1, rfl, _, hy1, _⟩ := hnl.open_
  obtain ⟨A2, c2, rfl, _, hy2, _⟩ := hnt.open_
  have hb := E.Bx.start w (base := w.heap.size) (Nat.le_refl _)
  refine E.enter Tryz.func53 rfl Tryz.ntmps53 [(.agg #[.string n.name, .int .i64 n.h0, .int .i64 n.h1, .int .i64 n.h2, (.slice A1 n.labels.length c1), (.slice A2 n.taints.length c2)])] rfl ?_
  refine E.W.seq ?_
  refine E.W.region ?_
  refine E.WL.box hb rfl rfl rfl rfl ?_
  clear hb; intro B1 w2 hb _ _
  refine E.WL.val (E.y_assign rfl) rfl rfl rfl ?_
  refine E.WL.done ?_
  refine E.KQ.then_n ?_
  refine E.W.seq ?_
  refine E.W.region ?_
  refine E.WL.val (E.y_fld Tryz.underlying32 rfl Tryz.sizeOf9 rfl) rfl rfl rfl ?_
  refine E.WL.val (E.y_load rfl (E.At.ld1 Tryz.isAgg9 (hb.at0 0 rfl) 0 rfl)) rfl rfl rfl ?_
  refine E.WL.val (E.y_seql rfl rfl) rfl rfl rfl ?_
  refine E.WL.val (E.y_move rfl) rfl rfl rfl ?_
  refine E.WL.split 6 rfl (fun h6 => ?_) (fun h6 => ?_)
  · skip
    refine E.WL.val (E.y_fld Tryz.underlying32 rfl Tryz.sizeOf29 rfl) rfl rfl rfl ?_
    refine E.WL.val (E.y_load rfl (E.At.ldk Tryz.isAgg29 Tryz.sizeOf29 ((hb.at0 0 rfl).sub rfl 1 3) rfl)) rfl rfl rfl ?_
    refine E.WL.val (E.y_build (v := .agg #[.int .i64 0, .int .i64 0, .int .i64 0]) rfl (by kernel_rfl)) rfl rfl rfl ?_
    refine E.WL.val (E.y_op2 (run_eq_three n.h0 n.h1 n.h2 0 0 0 _) (run_eqGuard_agg _ _ _ _ _ _ _ Tryz.eqGuardType29) rfl rfl) rfl rfl rfl ?_
    refine E.WL.val (E.y_pick_t rfl rfl) rfl rfl rfl ?_
    refine E.WL.val (E.y_move rfl) rfl rfl rfl ?_
    refine E.WL.split 12 rfl (fun h12 => ?_) (fun h12 => ?_)
    · replace h12 : noThree n.h0 n.h1 n.h2 = true := h12
      refine E.WL.val (E.y_fld Tryz.underlying32 rfl Tryz.sizeOf30 rfl) rfl rfl rfl ?_
      refine E.WL.val (E.y_load rfl (E.At.ld1 Tryz.isAgg30 (hb.at0 0 rfl) 4 rfl)) rfl rfl rfl ?_
      refine E.WL.val (E.y_lenS Tryz.underlying30 rfl) rfl rfl rfl ?_
      refine E.WL.val (E.y_fld Tryz.underlying32 rfl Tryz.sizeOf30 rfl) rfl rfl rfl ?_
      refine E.WL.val (E.y_load rfl (E.At.ld1 Tryz.isAgg30 (hb.at0 0 rfl) 5 rfl)) rfl rfl rfl ?_
      refine E.WL.val (E.y_lenS Tryz.underlying30 rfl) rfl rfl rfl ?_
      refine E.WL.val (E.y_add rfl rfl (Go.IntWalk.i64_in _ (by omega))) rfl rfl rfl ?_
      refine E.WL.val (E.y_eql rfl rfl) rfl rfl rfl ?_
      refine E.WL.val (E.y_pick_t rfl rfl) rfl rfl rfl ?_
      refine E.WL.val (E.y_assign rfl) rfl rfl rfl ?_
      refine E.WL.done ?_
      refine E.KQ.then_n ?_
      refine E.W.ret ?_
      refine E.KQ.ret1 Tryz.results53 rfl ?_
      exact ⟨_, rfl, by unfold noNode; rw [h6, h12]; rfl, hb.below⟩
    · replace h12 : noThree n.h0 n.h1 n.h2 = false := h12
      refine E.WL.off rfl rfl rfl ?_
      refine E.WL.off rfl rfl rfl ?_
      refine E.WL.off rfl rfl rfl ?_
      refine E.WL.off rfl rfl rfl ?_
      refine E.WL.off rfl rfl rfl ?_
      refine E.WL.off rfl rfl rfl ?_
      refine E.WL.off rfl rfl rfl ?_
      refine E.WL.off rfl rfl rfl ?_
      refine E.WL.val (E.y_pick_f rfl rfl) rfl rfl rfl ?_
      refine E.WL.val (E.y_assign rfl) rfl rfl rfl ?_
      refine E.WL.done ?_
      refine E.KQ.then_n ?_
      refine E.W.ret ?_
      refine E.KQ.ret1 Tryz.results53 rfl ?_
      exact ⟨_, rfl, by unfold noNode; rw [h6, h12]; rfl, hb.below⟩
  · skip
    refine E.WL.off rfl rfl rfl ?_
    refine E.WL.off rfl rfl rfl ?_
    refine E.WL.off rfl rfl rfl ?_
    refine E.WL.off rfl rfl rfl ?_
    refine E.WL.val (E.y_pick_f rfl rfl) rfl rfl rfl ?_
    refine E.WL.val (E.y_move rfl) rfl rfl rfl ?_
    refine E.WL.off rfl rfl rfl ?_
    refine E.WL.off rfl rfl rfl ?_
    refine E.WL.off rfl rfl rfl ?_
    refine E.WL.off rfl rfl rfl ?_
    refine E.WL.off rfl rfl rfl ?_
    refine E.WL.off rfl rfl rfl ?_
    refine E.WL.off rfl rfl rfl ?_
    refine E.WL.off rfl rfl rfl ?_
    refine E.WL.val (E.y_pick_f rfl rfl) rfl rfl rfl ?_
    refine E.WL.val (E.y_assign rfl) rfl rfl rfl ?_
    refine E.WL.done ?_
    refine E.KQ.then_n ?_
    refine E.W.ret ?_
    refine E.KQ.ret1 Tryz.results53 rfl ?_
    exact ⟨_, rfl, by unfold noNode; rw [h6]; rfl, hb.below⟩

set_option maxHeartbeats 400000 in
theorem noTask_calls {F : FP} {w : World} {cn : List Value} {n : TaskD} (h : RTask F w cn n) (hs : taskFits n) :
    Calls Tryz.prog 54 #[(.agg cn.toArray)] w (Ret fun u w' => u = .bool (noTask n) ∧ Ext w w') := by
  unfold taskFits at hs
  obtain ⟨vl, vt, rfl, hnl, hnt⟩ := id h
  obtain ⟨A1, c1, rfl, _, hy1, _⟩ := hnl.open_
  obtain ⟨A2, c2, rfl, _, hy2, _⟩ := hnt.open_
  have hb := E.Bx.start w (base := w.heap.size) (Nat.le_refl _)
  refine E.enter Tryz.func54 rfl Tryz.ntmps54 [(.agg #[.string n.name, .int .i64 n.n0, .int .i64 n.n1, .int .i64 n.n2, (.slice A1 n.wants.length c1), (.slice A2 n.bears.length c2), .string n.group, .string n.apart, .int .i64 n.rank])] rfl ?_
  refine E.W.seq ?_
  refine E.W.region ?_
  refine E.WL.box hb rfl rfl rfl rfl ?_
  clear hb; intro B1 w2 hb _ _
  refine E.WL.val (E.y_assign rfl) rfl rfl rfl ?_
  refine E.WL.done ?_
  refine E.KQ.then_n ?_
  refine E.W.seq ?_
  refine E.W.region ?_
  refine E.WL.val (E.y_fld Tryz.underlying34 rfl Tryz.sizeOf9 rfl) rfl rfl rfl ?_
  refine E.WL.val (E.y_load rfl (E.At.ld1 Tryz.isAgg9 (hb.at0 0 rfl) 0 rfl)) rfl rfl rfl ?_
  refine E.WL.val (E.y_fld Tryz.underlying34 rfl Tryz.sizeOf9 rfl) rfl rfl rfl ?_
  refine E.WL.val (E.y_load rfl (E.At.ld1 Tryz.isAgg9 (hb.at0 0 rfl) 6 rfl)) rfl rfl rfl ?_
  refine E.WL.val (E.y_sadd rfl rfl (by omega)) rfl rfl rfl ?_
  refine E.WL.val (E.y_fld Tryz.underlying34 rfl Tryz.sizeOf9 rfl) rfl rfl rfl ?_
  refine E.WL.val (E.y_load rfl (E.At.ld1 Tryz.isAgg9 (hb.at0 0 rfl) 7 rfl)) rfl rfl rfl ?_
  refine E.WL.val (E.y_sadd rfl rfl (by rw [ByteArray.size_append]; omega)) rfl rfl rfl ?_
  refine E.WL.val (E.y_seql rfl rfl) rfl rfl rfl ?_
  refine E.WL.val (E.y_move rfl) rfl rfl rfl ?_
  refine E.WL.split 12 rfl (fun h6 => ?_) (fun h6 => ?_)
  · skip
    refine E.WL.val (E.y_fld Tryz.underlying34 rfl Tryz.sizeOf29 rfl) rfl rfl rfl ?_
    refine E.WL.val (E.y_load rfl (E.At.ldk Tryz.isAgg29 Tryz.sizeOf29 ((hb.at0 0 rfl).sub rfl 1 3) rfl)) rfl rfl rfl ?_
    refine E.WL.val (E.y_build (v := .agg #[.int .i64 0, .int .i64 0, .int .i64 0]) rfl (by kernel_rfl)) rfl rfl rfl ?_
    refine E.WL.val (E.y_op2 (run_eq_three n.n0 n.n1 n.n2 0 0 0 _) (run_eqGuard_agg _ _ _ _ _ _ _ Tryz.eqGuardType29) rfl rfl) rfl rfl rfl ?_
    refine E.WL.val (E.y_pick_t rfl rfl) rfl rfl rfl ?_
    refine E.WL.val (E.y_move rfl) rfl rfl rfl ?_
    refine E.WL.split 18 rfl (fun h12 => ?_) (fun h12 => ?_)
    · replace h12 : noThree n.n0 n.n1 n.n2 = true := h12
      refine E.WL.val (E.y_fld Tryz.underlying34 rfl Tryz.sizeOf30 rfl) rfl rfl rfl ?_
      refine E.WL.val (E.y_load rfl (E.At.ld1 Tryz.isAgg30 (hb.at0 0 rfl) 4 rfl)) rfl rfl rfl ?_
      refine E.WL.val (E.y_lenS Tryz.underlying30 rfl) rfl rfl rfl ?_
      refine E.WL.val (E.y_fld Tryz.underlying34 rfl Tryz.sizeOf30 rfl) rfl rfl rfl ?_
      refine E.WL.val (E.y_load rfl (E.At.ld1 Tryz.isAgg30 (hb.at0 0 rfl) 5 rfl)) rfl rfl rfl ?_
      refine E.WL.val (E.y_lenS Tryz.underlying30 rfl) rfl rfl rfl ?_
      refine E.WL.val (E.y_add rfl rfl (Go.IntWalk.i64_in _ (by omega))) rfl rfl rfl ?_
      refine E.WL.val (E.y_eql rfl rfl) rfl rfl rfl ?_
      refine E.WL.val (E.y_pick_t rfl rfl) rfl rfl rfl ?_
      refine E.WL.val (E.y_move rfl) rfl rfl rfl ?_
      refine E.WL.split 28 rfl (fun h28 => ?_) (fun h28 => ?_)
      · skip
        refine E.WL.val (E.y_fld Tryz.underlying34 rfl Tryz.sizeOf3 rfl) rfl rfl rfl ?_
        refine E.WL.val (E.y_load rfl (E.At.ld1 Tryz.isAgg3 (hb.at0 0 rfl) 8 rfl)) rfl rfl rfl ?_
        refine E.WL.val (E.y_eql rfl rfl) rfl rfl rfl ?_
        refine E.WL.val (E.y_pick_t rfl rfl) rfl rfl rfl ?_
        refine E.WL.val (E.y_assign rfl) rfl rfl rfl ?_
        refine E.WL.done ?_
        refine E.KQ.then_n ?_
        refine E.W.ret ?_
        refine E.KQ.ret1 Tryz.results54 rfl ?_
        exact ⟨_, rfl, by unfold noTask; rw [h6, h12, h28]; rfl, hb.below⟩
      · skip
        refine E.WL.off rfl rfl rfl ?_
        refine E.WL.off rfl rfl rfl ?_
        refine E.WL.off rfl rfl rfl ?_
        refine E.WL.val (E.y_pick_f rfl rfl) rfl rfl rfl ?_
        refine E.WL.val (E.y_assign rfl) rfl rfl rfl ?_
        refine E.WL.done ?_
        refine E.KQ.then_n ?_
        refine E.W.ret ?_
        refine E.KQ.ret1 Tryz.results54 rfl ?_
        exact ⟨_, rfl, by unfold noTask; rw [h6, h12, h28]; rfl, hb.below⟩
    · replace h12 : noThree n.n0 n.n1 n.n2 = false := h12
      refine E.WL.off rfl rfl rfl ?_
      refine E.WL.off rfl rfl rfl ?_
      refine E.WL.off rfl rfl rfl ?_
      refine E.WL.off rfl rfl rfl ?_
      refine E.WL.off rfl rfl rfl ?_
      refine E.WL.off rfl rfl rfl ?_
      refine E.WL.off rfl rfl rfl ?_
      refine E.WL.off rfl rfl rfl ?_
      refine E.WL.val (E.y_pick_f rfl rfl) rfl rfl rfl ?_
      refine E.WL.val (E.y_move rfl) rfl rfl rfl ?_
      refine E.WL.off rfl rfl rfl ?_
      refine E.WL.off rfl rfl rfl ?_
      refine E.WL.off rfl rfl rfl ?_
      refine E.WL.val (E.y_pick_f rfl rfl) rfl rfl rfl ?_
      refine E.WL.val (E.y_assign rfl) rfl rfl rfl ?_
      refine E.WL.done ?_
      refine E.KQ.then_n ?_
      refine E.W.ret ?_
      refine E.KQ.ret1 Tryz.results54 rfl ?_
      exact ⟨_, rfl, by unfold noTask; rw [h6, h12]; rfl, hb.below⟩
  · skip
    refine E.WL.off rfl rfl rfl ?_
    refine E.WL.off rfl rfl rfl ?_
    refine E.WL.off rfl rfl rfl ?_
    refine E.WL.off rfl rfl rfl ?_
    refine E.WL.val (E.y_pick_f rfl rfl) rfl rfl rfl ?_
    refine E.WL.val (E.y_move rfl) rfl rfl rfl ?_
    refine E.WL.off rfl rfl rfl ?_
    refine E.WL.off rfl rfl rfl ?_
    refine E.WL.off rfl rfl rfl ?_
    refine E.WL.off rfl rfl rfl ?_
    refine E.WL.off rfl rfl rfl ?_
    refine E.WL.off rfl rfl rfl ?_
    refine E.WL.off rfl rfl rfl ?_
    refine E.WL.off rfl rfl rfl ?_
    refine E.WL.val (E.y_pick_f rfl rfl) rfl rfl rfl ?_
    refine E.WL.val (E.y_move rfl) rfl rfl rfl ?_
    refine E.WL.off rfl rfl rfl ?_
    refine E.WL.off rfl rfl rfl ?_
    refine E.WL.off rfl rfl rfl ?_
    refine E.WL.val (E.y_pick_f rfl rfl) rfl rfl rfl ?_
    refine E.WL.val (E.y_assign rfl) rfl rfl rfl ?_
    refine E.WL.done ?_
    refine E.KQ.then_n ?_
    refine E.W.ret ?_
    refine E.KQ.ret1 Tryz.results54 rfl ?_
    exact ⟨_, rfl, by unfold noTask; rw [h6]; rfl, hb.below⟩

set_option maxHeartbeats 4000000 in
theorem checkOrder_calls {F : FP} {w : World} {co : List Value} {o : OrderD} (h : ROrder F w co o) (hs : orderFits o) :
    Calls Tryz.prog 17 #[(.agg co.toArray)] w (Ret fun u w' => u = .int .i64 (if orderB o = true then 0 else 4) ∧ Ext w w') := by
  obtain ⟨cn, ct, rfl, hn, ht⟩ := h
  obtain ⟨vl, vt, rfl, _, _⟩ := id hn
  obtain ⟨vw, vb, rfl, _, _⟩ := id ht
  have hs2 := hs.2
  have hb := E.Bx.start w (base := w.heap.size) (Nat.le_refl _)
  refine E.enter Tryz.func17 rfl Tryz.ntmps17 [(.agg #[.int .u8 o.kind, .string o.node.name, .int .i64 o.node.h0, .int .i64 o.node.h1, .int .i64 o.node.h2, vl, vt, .string o.task.name, .int .i64 o.task.n0, .int .i64 o.task.n1, .int .i64 o.task.n2, vw, vb, .string o.task.group, .string o.task.apart, .int .i64 o.task.rank, .string o.name, .string o.on, .int .u64 o.fence])] rfl ?_
  refine E.W.seq ?_
  refine E.W.region ?_
  refine E.WL.box hb rfl rfl rfl rfl ?_
  clear hb; intro B1 w2 hb _ _
  refine E.WL.val (E.y_assign rfl) rfl rfl rfl ?_
  refine E.WL.done ?_
  refine E.KQ.then_n ?_
  refine E.W.seq ?_
  refine E.W.region ?_
  refine E.WL.val (E.y_assign rfl) rfl rfl rfl ?_
  refine E.WL.done ?_
  refine E.KQ.then_n ?_
  refine E.W.seq ?_
  refine E.W.region ?_
  refine E.WL.val (E.y_fld Tryz.underlying36 rfl Tryz.sizeOf32 rfl) rfl rfl rfl ?_
  refine E.WL.val (E.y_load rfl (E.At.ldk Tryz.isAgg32 Tryz.sizeOf32 ((hb.at0 0 rfl).sub rfl 1 6) rfl)) rfl rfl rfl ?_
  refine E.WL.call (noNode_calls (RNode.goes.stays hn (Stays.ext hb.below))) Tryz.call53 rfl rfl rfl ?_
  rintro _ w3 ⟨rfl, hX⟩
  replace hb := hb.ext hX
  clear hX
  refine E.WL.val (E.y_move rfl) rfl rfl rfl ?_
  refine E.WL.split 8 rfl (fun h8 => ?_) (fun h8 => ?_)
  · skip
    refine E.WL.val (E.y_fld Tryz.underlying36 rfl Tryz.sizeOf34 rfl) rfl rfl rfl ?_
    refine E.WL.val (E.y_load rfl (E.At.ldk Tryz.isAgg34 Tryz.sizeOf34 ((hb.at0 0 rfl).sub rfl 7 9) rfl)) rfl rfl rfl ?_
    refine E.WL.call (noTask_calls (RTask.goes.stays ht (Stays.ext hb.below)) hs.1) Tryz.call54 rfl rfl rfl ?_
    rintro _ w4 ⟨rfl, hX⟩
    replace hb := hb.ext hX
    clear hX
    refine E.WL.val (E.y_pick_t rfl rfl) rfl rfl rfl ?_
    refine E.WL.val (E.y_assign rfl) rfl rfl rfl ?_
    refine E.WL.done ?_
    refine E.KQ.then_n ?_
    refine E.W.seq ?_
    refine E.W.seq ?_
    refine E.W.region ?_
    refine E.WL.val (E.y_fld Tryz.underlying36 rfl Tryz.sizeOf28 rfl) rfl rfl rfl ?_
    refine E.WL.val (E.y_load rfl (E.At.ld1 Tryz.isAgg28 (hb.at0 0 rfl) 0 rfl)) rfl rfl rfl ?_
    refine E.WL.done ?_
    refine E.KQ.then_n ?_
    refine E.W.block ?_
    refine E.W.seq ?_
    refine E.W.region ?_
    refine E.WL.val (E.y_eql rfl rfl) rfl rfl rfl ?_
    refine E.WL.val (E.y_assign rfl) rfl rfl rfl ?_
    refine E.WL.done ?_
    refine E.KQ.then_n ?_
    refine E.W.condT 15 rfl (fun k1 => ?_) (fun k1 => ?_)
    · replace k1 := of_decide_eq_true k1
      refine E.W.region ?_
      refine E.WL.val (E.y_fld Tryz.underlying36 rfl Tryz.sizeOf34 rfl) rfl rfl rfl ?_
      refine E.WL.val (E.y_load rfl (E.At.ldk Tryz.isAgg34 Tryz.sizeOf34 ((hb.at0 0 rfl).sub rfl 7 9) rfl)) rfl rfl rfl ?_
      refine E.WL.call (noTask_calls (RTask.goes.stays ht (Stays.ext hb.below)) hs.1) Tryz.call54 rfl rfl rfl ?_
      rintro _ w5 ⟨rfl, hX⟩
      replace hb := hb.ext hX
      clear hX
      refine E.WL.val (E.y_move rfl) rfl rfl rfl ?_
      refine E.WL.split 20 rfl (fun h20 => ?_) (fun h20 => ?_)
      · skip
        refine E.WL.val (E.y_fld Tryz.underlying36 rfl Tryz.sizeOf9 rfl) rfl rfl rfl ?_
        refine E.WL.val (E.y_load rfl (E.At.ld1 Tryz.isAgg9 (hb.at0 0 rfl) 16 rfl)) rfl rfl rfl ?_
        refine E.WL.val (E.y_fld Tryz.underlying36 rfl Tryz.sizeOf9 rfl) rfl rfl rfl ?_
        refine E.WL.val (E.y_load rfl (E.At.ld1 Tryz.isAgg9 (hb.at0 0 rfl) 17 rfl)) rfl rfl rfl ?_
        refine E.WL.val (E.y_sadd rfl rfl (by omega)) rfl rfl rfl ?_
        refine E.WL.val (E.y_seql rfl rfl) rfl rfl rfl ?_
        refine E.WL.val (E.y_pick_t rfl rfl) rfl rfl rfl ?_
        refine E.WL.val (E.y_move rfl) rfl rfl rfl ?_
        refine E.WL.split 28 rfl (fun h28 => ?_) (fun h28 => ?_)
        · skip
          refine E.WL.val (E.y_fld Tryz.underlying36 rfl Tryz.sizeOf25 rfl) rfl rfl rfl ?_
          refine E.WL.val (E.y_load rfl (E.At.ld1 Tryz.isAgg25 (hb.at0 0 rfl) 18 rfl)) rfl rfl rfl ?_
          refine E.WL.val (E.y_eql rfl rfl) rfl rfl rfl ?_
          refine E.WL.val (E.y_pick_t rfl rfl) rfl rfl rfl ?_
          refine E.WL.val (E.y_assign rfl) rfl rfl rfl ?_
          refine E.WL.done ?_
          refine E.KQ.block_n ?_
          refine E.KQ.then_n ?_
          refine E.W.seq ?_
          refine E.W.seq ?_
          refine E.W.region ?_
          refine E.WL.val (E.y_move rfl) rfl rfl rfl ?_
          refine E.WL.val (E.y_not rfl) rfl rfl rfl ?_
          refine E.WL.done ?_
          refine E.KQ.then_n ?_
          refine E.W.condT 71 rfl (fun h71 => ?_) (fun h71 => ?_)
          · skip
            refine E.W.seq ?_
            refine E.W.region ?_
            refine E.WL.val (E.y_assign rfl) rfl rfl rfl ?_
            refine E.WL.done ?_
            refine E.KQ.then_n ?_
            refine E.W.ret ?_
            refine E.KQ.then_r ?_
            refine E.KQ.ret1 Tryz.results17 rfl ?_
            have e : orderB o = false := by clear hb; simp_all [orderB, noRest]
            exact ⟨_, rfl, by rw [e]; rfl, hb.below⟩
          · skip
            refine E.W.skip ?_
            refine E.KQ.then_n ?_
            refine E.W.seq ?_
            refine E.W.region ?_
            refine E.WL.val (E.y_assign rfl) rfl rfl rfl ?_
            refine E.WL.done ?_
            refine E.KQ.then_n ?_
            refine E.W.ret ?_
            refine E.KQ.ret1 Tryz.results17 rfl ?_
            have e : orderB o = true := by clear hb; simp_all [orderB, noRest]
            exact ⟨_, rfl, by rw [e]; rfl, hb.below⟩
        · skip
          refine E.WL.off rfl rfl rfl ?_
          refine E.WL.off rfl rfl rfl ?_
          refine E.WL.off rfl rfl rfl ?_
          refine E.WL.val (E.y_pick_f rfl rfl) rfl rfl rfl ?_
          refine E.WL.val (E.y_assign rfl) rfl rfl rfl ?_
          refine E.WL.done ?_
          refine E.KQ.block_n ?_
          refine E.KQ.then_n ?_
          refine E.W.seq ?_
          refine E.W.seq ?_
          refine E.W.region ?_
          refine E.WL.val (E.y_move rfl) rfl rfl rfl ?_
          refine E.WL.val (E.y_not rfl) rfl rfl rfl ?_
          refine E.WL.done ?_
          refine E.KQ.then_n ?_
          refine E.W.cond_t rfl ?_
          refine E.W.seq ?_
          refine E.W.region ?_
          refine E.WL.val (E.y_assign rfl) rfl rfl rfl ?_
          refine E.WL.done ?_
          refine E.KQ.then_n ?_
          refine E.W.ret ?_
          refine E.KQ.then_r ?_
          refine E.KQ.ret1 Tryz.results17 rfl ?_
          have e : orderB o = false := by clear hb; simp_all [orderB, noRest]
          exact ⟨_, rfl, by rw [e]; rfl, hb.below⟩
      · skip
        refine E.WL.off rfl rfl rfl ?_
        refine E.WL.off rfl rfl rfl ?_
        refine E.WL.off rfl rfl rfl ?_
        refine E.WL.off rfl rfl rfl ?_
        refine E.WL.off rfl rfl rfl ?_
        refine E.WL.off rfl rfl rfl ?_
        refine E.WL.val (E.y_pick_f rfl rfl) rfl rfl rfl ?_
        refine E.WL.val (E.y_move rfl) rfl rfl rfl ?_
        refine E.WL.off rfl rfl rfl ?_
        refine E.WL.off rfl rfl rfl ?_
        refine E.WL.off rfl rfl rfl ?_
        refine E.WL.val (E.y_pick_f rfl rfl) rfl rfl rfl ?_
        refine E.WL.val (E.y_assign rfl) rfl rfl rfl ?_
        refine E.WL.done ?_
        refine E.KQ.block_n ?_
        refine E.KQ.then_n ?_
        refine E.W.seq ?_
        refine E.W.seq ?_
        refine E.W.region ?_
        refine E.WL.val (E.y_move rfl) rfl rfl rfl ?_
        refine E.WL.val (E.y_not rfl) rfl rfl rfl ?_
        refine E.WL.done ?_
        refine E.KQ.then_n ?_
        refine E.W.cond_t rfl ?_
        refine E.W.seq ?_
        refine E.W.region ?_
        refine E.WL.val (E.y_assign rfl) rfl rfl rfl ?_
        refine E.WL.done ?_
        refine E.KQ.then_n ?_
        refine E.W.ret ?_
        refine E.KQ.then_r ?_
        refine E.KQ.ret1 Tryz.results17 rfl ?_
        have e : orderB o = false := by clear hb; simp_all [orderB, noRest]
        exact ⟨_, rfl, by rw [e]; rfl, hb.below⟩
    · replace k1 := of_decide_eq_false k1
      refine E.W.seq ?_
      refine E.W.region ?_
      refine E.WL.val (E.y_eql rfl rfl) rfl rfl rfl ?_
      refine E.WL.val (E.y_assign rfl) rfl rfl rfl ?_
      refine E.WL.done ?_
      refine E.KQ.then_n ?_
      refine E.W.condT 33 rfl (fun k3 => ?_) (fun k3 => ?_)
      · replace k3 := of_decide_eq_true k3
        refine E.W.region ?_
        refine E.WL.val (E.y_fld Tryz.underlying36 rfl Tryz.sizeOf32 rfl) rfl rfl rfl ?_
        refine E.WL.val (E.y_load rfl (E.At.ldk Tryz.isAgg32 Tryz.sizeOf32 ((hb.at0 0 rfl).sub rfl 1 6) rfl)) rfl rfl rfl ?_
        refine E.WL.call (noNode_calls (RNode.goes.stays hn (Stays.ext hb.below))) Tryz.call53 rfl rfl rfl ?_
        rintro _ w6 ⟨rfl, hX⟩
        replace hb := hb.ext hX
        clear hX
        refine E.WL.val (E.y_move rfl) rfl rfl rfl ?_
        refine E.WL.split 38 rfl (fun h38 => ?_) (fun h38 => ?_)
        · skip
          refine E.WL.val (E.y_fld Tryz.underlying36 rfl Tryz.sizeOf9 rfl) rfl rfl rfl ?_
          refine E.WL.val (E.y_load rfl (E.At.ld1 Tryz.isAgg9 (hb.at0 0 rfl) 16 rfl)) rfl rfl rfl ?_
          refine E.WL.val (E.y_fld Tryz.underlying36 rfl Tryz.sizeOf9 rfl) rfl rfl rfl ?_
          refine E.WL.val (E.y_load rfl (E.At.ld1 Tryz.isAgg9 (hb.at0 0 rfl) 17 rfl)) rfl rfl rfl ?_
          refine E.WL.val (E.y_sadd rfl rfl (by omega)) rfl rfl rfl ?_
          refine E.WL.val (E.y_seql rfl rfl) rfl rfl rfl ?_
          refine E.WL.val (E.y_pick_t rfl rfl) rfl rfl rfl ?_
          refine E.WL.val (E.y_move rfl) rfl rfl rfl ?_
          refine E.WL.split 46 rfl (fun h46 => ?_) (fun h46 => ?_)
          · skip
            refine E.WL.val (E.y_fld Tryz.underlying36 rfl Tryz.sizeOf25 rfl) rfl rfl rfl ?_
            refine E.WL.val (E.y_load rfl (E.At.ld1 Tryz.isAgg25 (hb.at0 0 rfl) 18 rfl)) rfl rfl rfl ?_
            refine E.WL.val (E.y_eql rfl rfl) rfl rfl rfl ?_
            refine E.WL.val (E.y_pick_t rfl rfl) rfl rfl rfl ?_
            refine E.WL.val (E.y_assign rfl) rfl rfl rfl ?_
            refine E.WL.done ?_
            refine E.KQ.block_n ?_
            refine E.KQ.then_n ?_
            refine E.W.seq ?_
            refine E.W.seq ?_
            refine E.W.region ?_
            refine E.WL.val (E.y_move rfl) rfl rfl rfl ?_
            refine E.WL.val (E.y_not rfl) rfl rfl rfl ?_
            refine E.WL.done ?_
            refine E.KQ.then_n ?_
            refine E.W.condT 71 rfl (fun h71 => ?_) (fun h71 => ?_)
            · skip
              refine E.W.seq ?_
              refine E.W.region ?_
              refine E.WL.val (E.y_assign rfl) rfl rfl rfl ?_
              refine E.WL.done ?_
              refine E.KQ.then_n ?_
              refine E.W.ret ?_
              refine E.KQ.then_r ?_
              refine E.KQ.ret1 Tryz.results17 rfl ?_
              have e : orderB o = false := by clear hb; simp_all [orderB, noRest]
              exact ⟨_, rfl, by rw [e]; rfl, hb.below⟩
            · skip
              refine E.W.skip ?_
              refine E.KQ.then_n ?_
              refine E.W.seq ?_
              refine E.W.region ?_
              refine E.WL.val (E.y_assign rfl) rfl rfl rfl ?_
              refine E.WL.done ?_
              refine E.KQ.then_n ?_
              refine E.W.ret ?_
              refine E.KQ.ret1 Tryz.results17 rfl ?_
              have e : orderB o = true := by clear hb; simp_all [orderB, noRest]
              exact ⟨_, rfl, by rw [e]; rfl, hb.below⟩
          · skip
            refine E.WL.off rfl rfl rfl ?_
            refine E.WL.off rfl rfl rfl ?_
            refine E.WL.off rfl rfl rfl ?_
            refine E.WL.val (E.y_pick_f rfl rfl) rfl rfl rfl ?_
            refine E.WL.val (E.y_assign rfl) rfl rfl rfl ?_
            refine E.WL.done ?_
            refine E.KQ.block_n ?_
            refine E.KQ.then_n ?_
            refine E.W.seq ?_
            refine E.W.seq ?_
            refine E.W.region ?_
            refine E.WL.val (E.y_move rfl) rfl rfl rfl ?_
            refine E.WL.val (E.y_not rfl) rfl rfl rfl ?_
            refine E.WL.done ?_
            refine E.KQ.then_n ?_
            refine E.W.cond_t rfl ?_
            refine E.W.seq ?_
            refine E.W.region ?_
            refine E.WL.val (E.y_assign rfl) rfl rfl rfl ?_
            refine E.WL.done ?_
            refine E.KQ.then_n ?_
            refine E.W.ret ?_
            refine E.KQ.then_r ?_
            refine E.KQ.ret1 Tryz.results17 rfl ?_
            have e : orderB o = false := by clear hb; simp_all [orderB, noRest]
            exact ⟨_, rfl, by rw [e]; rfl, hb.below⟩
        · skip
          refine E.WL.off rfl rfl rfl ?_
          refine E.WL.off rfl rfl rfl ?_
          refine E.WL.off rfl rfl rfl ?_
          refine E.WL.off rfl rfl rfl ?_
          refine E.WL.off rfl rfl rfl ?_
          refine E.WL.off rfl rfl rfl ?_
          refine E.WL.val (E.y_pick_f rfl rfl) rfl rfl rfl ?_
          refine E.WL.val (E.y_move rfl) rfl rfl rfl ?_
          refine E.WL.off rfl rfl rfl ?_
          refine E.WL.off rfl rfl rfl ?_
          refine E.WL.off rfl rfl rfl ?_
          refine E.WL.val (E.y_pick_f rfl rfl) rfl rfl rfl ?_
          refine E.WL.val (E.y_assign rfl) rfl rfl rfl ?_
          refine E.WL.done ?_
          refine E.KQ.block_n ?_
          refine E.KQ.then_n ?_
          refine E.W.seq ?_
          refine E.W.seq ?_
          refine E.W.region ?_
          refine E.WL.val (E.y_move rfl) rfl rfl rfl ?_
          refine E.WL.val (E.y_not rfl) rfl rfl rfl ?_
          refine E.WL.done ?_
          refine E.KQ.then_n ?_
          refine E.W.cond_t rfl ?_
          refine E.W.seq ?_
          refine E.W.region ?_
          refine E.WL.val (E.y_assign rfl) rfl rfl rfl ?_
          refine E.WL.done ?_
          refine E.KQ.then_n ?_
          refine E.W.ret ?_
          refine E.KQ.then_r ?_
          refine E.KQ.ret1 Tryz.results17 rfl ?_
          have e : orderB o = false := by clear hb; simp_all [orderB, noRest]
          exact ⟨_, rfl, by rw [e]; rfl, hb.below⟩
      · replace k3 := of_decide_eq_false k3
        refine E.W.seq ?_
        refine E.W.region ?_
        refine E.WL.val (E.y_eql rfl rfl) rfl rfl rfl ?_
        refine E.WL.val (E.y_assign rfl) rfl rfl rfl ?_
        refine E.WL.done ?_
        refine E.KQ.then_n ?_
        refine E.W.condT 51 rfl (fun k5 => ?_) (fun k5 => ?_)
        · replace k5 := of_decide_eq_true k5
          refine E.W.region ?_
          refine E.WL.val (E.y_move rfl) rfl rfl rfl ?_
          refine E.WL.val (E.y_assign rfl) rfl rfl rfl ?_
          refine E.WL.done ?_
          refine E.KQ.block_n ?_
          refine E.KQ.then_n ?_
          refine E.W.seq ?_
          refine E.W.seq ?_
          refine E.W.region ?_
          refine E.WL.val (E.y_move rfl) rfl rfl rfl ?_
          refine E.WL.val (E.y_not rfl) rfl rfl rfl ?_
          refine E.WL.done ?_
          refine E.KQ.then_n ?_
          refine E.W.condT 71 rfl (fun h71 => ?_) (fun h71 => ?_)
          · skip
            refine E.W.seq ?_
            refine E.W.region ?_
            refine E.WL.val (E.y_assign rfl) rfl rfl rfl ?_
            refine E.WL.done ?_
            refine E.KQ.then_n ?_
            refine E.W.ret ?_
            refine E.KQ.then_r ?_
            refine E.KQ.ret1 Tryz.results17 rfl ?_
            have e : orderB o = false := by clear hb; simp_all [orderB, noRest]
            exact ⟨_, rfl, by rw [e]; rfl, hb.below⟩
          · skip
            refine E.W.skip ?_
            refine E.KQ.then_n ?_
            refine E.W.seq ?_
            refine E.W.region ?_
            refine E.WL.val (E.y_assign rfl) rfl rfl rfl ?_
            refine E.WL.done ?_
            refine E.KQ.then_n ?_
            refine E.W.ret ?_
            refine E.KQ.ret1 Tryz.results17 rfl ?_
            have e : orderB o = true := by clear hb; simp_all [orderB, noRest]
            exact ⟨_, rfl, by rw [e]; rfl, hb.below⟩
        · replace k5 := of_decide_eq_false k5
          refine E.W.seq ?_
          refine E.W.seq ?_
          refine E.W.region ?_
          refine E.WL.val (E.y_eql rfl rfl) rfl rfl rfl ?_
          refine E.WL.val (E.y_assign rfl) rfl rfl rfl ?_
          refine E.WL.done ?_
          refine E.KQ.then_n ?_
          refine E.W.condT 54 rfl (fun k4 => ?_) (fun k4 => ?_)
          · replace k4 := of_decide_eq_true k4
            refine E.W.skip ?_
            refine E.KQ.then_n ?_
            refine E.W.cond_t rfl ?_
            refine E.W.region ?_
            refine E.WL.val (E.y_move rfl) rfl rfl rfl ?_
            refine E.WL.val (E.y_move rfl) rfl rfl rfl ?_
            refine E.WL.split 60 rfl (fun h60 => ?_) (fun h60 => ?_)
            · skip
              refine E.WL.val (E.y_fld Tryz.underlying36 rfl Tryz.sizeOf9 rfl) rfl rfl rfl ?_
              refine E.WL.val (E.y_load rfl (E.At.ld1 Tryz.isAgg9 (hb.at0 0 rfl) 17 rfl)) rfl rfl rfl ?_
              refine E.WL.val (E.y_seql rfl rfl) rfl rfl rfl ?_
              refine E.WL.val (E.y_pick_t rfl rfl) rfl rfl rfl ?_
              refine E.WL.val (E.y_move rfl) rfl rfl rfl ?_
              refine E.WL.split 65 rfl (fun h65 => ?_) (fun h65 => ?_)
              · skip
                refine E.WL.val (E.y_fld Tryz.underlying36 rfl Tryz.sizeOf25 rfl) rfl rfl rfl ?_
                refine E.WL.val (E.y_load rfl (E.At.ld1 Tryz.isAgg25 (hb.at0 0 rfl) 18 rfl)) rfl rfl rfl ?_
                refine E.WL.val (E.y_eql rfl rfl) rfl rfl rfl ?_
                refine E.WL.val (E.y_pick_t rfl rfl) rfl rfl rfl ?_
                refine E.WL.val (E.y_assign rfl) rfl rfl rfl ?_
                refine E.WL.done ?_
                refine E.KQ.block_n ?_
                refine E.KQ.then_n ?_
                refine E.W.seq ?_
                refine E.W.seq ?_
                refine E.W.region ?_
                refine E.WL.val (E.y_move rfl) rfl rfl rfl ?_
                refine E.WL.val (E.y_not rfl) rfl rfl rfl ?_
                refine E.WL.done ?_
                refine E.KQ.then_n ?_
                refine E.W.condT 71 rfl (fun h71 => ?_) (fun h71 => ?_)
                · skip
                  refine E.W.seq ?_
                  refine E.W.region ?_
                  refine E.WL.val (E.y_assign rfl) rfl rfl rfl ?_
                  refine E.WL.done ?_
                  refine E.KQ.then_n ?_
                  refine E.W.ret ?_
                  refine E.KQ.then_r ?_
                  refine E.KQ.ret1 Tryz.results17 rfl ?_
                  have e : orderB o = false := by clear hb; simp_all [orderB, noRest]
                  exact ⟨_, rfl, by rw [e]; rfl, hb.below⟩
                · skip
                  refine E.W.skip ?_
                  refine E.KQ.then_n ?_
                  refine E.W.seq ?_
                  refine E.W.region ?_
                  refine E.WL.val (E.y_assign rfl) rfl rfl rfl ?_
                  refine E.WL.done ?_
                  refine E.KQ.then_n ?_
                  refine E.W.ret ?_
                  refine E.KQ.ret1 Tryz.results17 rfl ?_
                  have e : orderB o = true := by clear hb; simp_all [orderB, noRest]
                  exact ⟨_, rfl, by rw [e]; rfl, hb.below⟩
              · skip
                refine E.WL.off rfl rfl rfl ?_
                refine E.WL.off rfl rfl rfl ?_
                refine E.WL.off rfl rfl rfl ?_
                refine E.WL.val (E.y_pick_f rfl rfl) rfl rfl rfl ?_
                refine E.WL.val (E.y_assign rfl) rfl rfl rfl ?_
                refine E.WL.done ?_
                refine E.KQ.block_n ?_
                refine E.KQ.then_n ?_
                refine E.W.seq ?_
                refine E.W.seq ?_
                refine E.W.region ?_
                refine E.WL.val (E.y_move rfl) rfl rfl rfl ?_
                refine E.WL.val (E.y_not rfl) rfl rfl rfl ?_
                refine E.WL.done ?_
                refine E.KQ.then_n ?_
                refine E.W.cond_t rfl ?_
                refine E.W.seq ?_
                refine E.W.region ?_
                refine E.WL.val (E.y_assign rfl) rfl rfl rfl ?_
                refine E.WL.done ?_
                refine E.KQ.then_n ?_
                refine E.W.ret ?_
                refine E.KQ.then_r ?_
                refine E.KQ.ret1 Tryz.results17 rfl ?_
                have e : orderB o = false := by clear hb; simp_all [orderB, noRest]
                exact ⟨_, rfl, by rw [e]; rfl, hb.below⟩
            · skip
              refine E.WL.off rfl rfl rfl ?_
              refine E.WL.off rfl rfl rfl ?_
              refine E.WL.off rfl rfl rfl ?_
              refine E.WL.val (E.y_pick_f rfl rfl) rfl rfl rfl ?_
              refine E.WL.val (E.y_move rfl) rfl rfl rfl ?_
              refine E.WL.off rfl rfl rfl ?_
              refine E.WL.off rfl rfl rfl ?_
              refine E.WL.off rfl rfl rfl ?_
              refine E.WL.val (E.y_pick_f rfl rfl) rfl rfl rfl ?_
              refine E.WL.val (E.y_assign rfl) rfl rfl rfl ?_
              refine E.WL.done ?_
              refine E.KQ.block_n ?_
              refine E.KQ.then_n ?_
              refine E.W.seq ?_
              refine E.W.seq ?_
              refine E.W.region ?_
              refine E.WL.val (E.y_move rfl) rfl rfl rfl ?_
              refine E.WL.val (E.y_not rfl) rfl rfl rfl ?_
              refine E.WL.done ?_
              refine E.KQ.then_n ?_
              refine E.W.cond_t rfl ?_
              refine E.W.seq ?_
              refine E.W.region ?_
              refine E.WL.val (E.y_assign rfl) rfl rfl rfl ?_
              refine E.WL.done ?_
              refine E.KQ.then_n ?_
              refine E.W.ret ?_
              refine E.KQ.then_r ?_
              refine E.KQ.ret1 Tryz.results17 rfl ?_
              have e : orderB o = false := by clear hb; simp_all [orderB, noRest]
              exact ⟨_, rfl, by rw [e]; rfl, hb.below⟩
          · replace k4 := of_decide_eq_false k4
            refine E.W.seq ?_
            refine E.W.region ?_
            refine E.WL.val (E.y_eql rfl rfl) rfl rfl rfl ?_
            refine E.WL.val (E.y_assign rfl) rfl rfl rfl ?_
            refine E.WL.done ?_
            refine E.KQ.then_n ?_
            refine E.W.condT 54 rfl (fun k4 => ?_) (fun k4 => ?_)
            · replace k4 := of_decide_eq_true k4
              refine E.W.skip ?_
              refine E.KQ.then_n ?_
              refine E.W.cond_t rfl ?_
              refine E.W.region ?_
              refine E.WL.val (E.y_move rfl) rfl rfl rfl ?_
              refine E.WL.val (E.y_move rfl) rfl rfl rfl ?_
              refine E.WL.split 60 rfl (fun h60 => ?_) (fun h60 => ?_)
              · skip
                refine E.WL.val (E.y_fld Tryz.underlying36 rfl Tryz.sizeOf9 rfl) rfl rfl rfl ?_
                refine E.WL.val (E.y_load rfl (E.At.ld1 Tryz.isAgg9 (hb.at0 0 rfl) 17 rfl)) rfl rfl rfl ?_
                refine E.WL.val (E.y_seql rfl rfl) rfl rfl rfl ?_
                refine E.WL.val (E.y_pick_t rfl rfl) rfl rfl rfl ?_
                refine E.WL.val (E.y_move rfl) rfl rfl rfl ?_
                refine E.WL.split 65 rfl (fun h65 => ?_) (fun h65 => ?_)
                · skip
                  refine E.WL.val (E.y_fld Tryz.underlying36 rfl Tryz.sizeOf25 rfl) rfl rfl rfl ?_
                  refine E.WL.val (E.y_load rfl (E.At.ld1 Tryz.isAgg25 (hb.at0 0 rfl) 18 rfl)) rfl rfl rfl ?_
                  refine E.WL.val (E.y_eql rfl rfl) rfl rfl rfl ?_
                  refine E.WL.val (E.y_pick_t rfl rfl) rfl rfl rfl ?_
                  refine E.WL.val (E.y_assign rfl) rfl rfl rfl ?_
                  refine E.WL.done ?_
                  refine E.KQ.block_n ?_
                  refine E.KQ.then_n ?_
                  refine E.W.seq ?_
                  refine E.W.seq ?_
                  refine E.W.region ?_
                  refine E.WL.val (E.y_move rfl) rfl rfl rfl ?_
                  refine E.WL.val (E.y_not rfl) rfl rfl rfl ?_
                  refine E.WL.done ?_
                  refine E.KQ.then_n ?_
                  refine E.W.condT 71 rfl (fun h71 => ?_) (fun h71 => ?_)
                  · skip
                    refine E.W.seq ?_
                    refine E.W.region ?_
                    refine E.WL.val (E.y_assign rfl) rfl rfl rfl ?_
                    refine E.WL.done ?_
                    refine E.KQ.then_n ?_
                    refine E.W.ret ?_
                    refine E.KQ.then_r ?_
                    refine E.KQ.ret1 Tryz.results17 rfl ?_
                    have e : orderB o = false := by clear hb; simp_all [orderB, noRest]
                    exact ⟨_, rfl, by rw [e]; rfl, hb.below⟩
                  · skip
                    refine E.W.skip ?_
                    refine E.KQ.then_n ?_
                    refine E.W.seq ?_
                    refine E.W.region ?_
                    refine E.WL.val (E.y_assign rfl) rfl rfl rfl ?_
                    refine E.WL.done ?_
                    refine E.KQ.then_n ?_
                    refine E.W.ret ?_
                    refine E.KQ.ret1 Tryz.results17 rfl ?_
                    have e : orderB o = true := by clear hb; simp_all [orderB, noRest]
                    exact ⟨_, rfl, by rw [e]; rfl, hb.below⟩
                · skip
                  refine E.WL.off rfl rfl rfl ?_
                  refine E.WL.off rfl rfl rfl ?_
                  refine E.WL.off rfl rfl rfl ?_
                  refine E.WL.val (E.y_pick_f rfl rfl) rfl rfl rfl ?_
                  refine E.WL.val (E.y_assign rfl) rfl rfl rfl ?_
                  refine E.WL.done ?_
                  refine E.KQ.block_n ?_
                  refine E.KQ.then_n ?_
                  refine E.W.seq ?_
                  refine E.W.seq ?_
                  refine E.W.region ?_
                  refine E.WL.val (E.y_move rfl) rfl rfl rfl ?_
                  refine E.WL.val (E.y_not rfl) rfl rfl rfl ?_
                  refine E.WL.done ?_
                  refine E.KQ.then_n ?_
                  refine E.W.cond_t rfl ?_
                  refine E.W.seq ?_
                  refine E.W.region ?_
                  refine E.WL.val (E.y_assign rfl) rfl rfl rfl ?_
                  refine E.WL.done ?_
                  refine E.KQ.then_n ?_
                  refine E.W.ret ?_
                  refine E.KQ.then_r ?_
                  refine E.KQ.ret1 Tryz.results17 rfl ?_
                  have e : orderB o = false := by clear hb; simp_all [orderB, noRest]
                  exact ⟨_, rfl, by rw [e]; rfl, hb.below⟩
              · skip
                refine E.WL.off rfl rfl rfl ?_
                refine E.WL.off rfl rfl rfl ?_
                refine E.WL.off rfl rfl rfl ?_
                refine E.WL.val (E.y_pick_f rfl rfl) rfl rfl rfl ?_
                refine E.WL.val (E.y_move rfl) rfl rfl rfl ?_
                refine E.WL.off rfl rfl rfl ?_
                refine E.WL.off rfl rfl rfl ?_
                refine E.WL.off rfl rfl rfl ?_
                refine E.WL.val (E.y_pick_f rfl rfl) rfl rfl rfl ?_
                refine E.WL.val (E.y_assign rfl) rfl rfl rfl ?_
                refine E.WL.done ?_
                refine E.KQ.block_n ?_
                refine E.KQ.then_n ?_
                refine E.W.seq ?_
                refine E.W.seq ?_
                refine E.W.region ?_
                refine E.WL.val (E.y_move rfl) rfl rfl rfl ?_
                refine E.WL.val (E.y_not rfl) rfl rfl rfl ?_
                refine E.WL.done ?_
                refine E.KQ.then_n ?_
                refine E.W.cond_t rfl ?_
                refine E.W.seq ?_
                refine E.W.region ?_
                refine E.WL.val (E.y_assign rfl) rfl rfl rfl ?_
                refine E.WL.done ?_
                refine E.KQ.then_n ?_
                refine E.W.ret ?_
                refine E.KQ.then_r ?_
                refine E.KQ.ret1 Tryz.results17 rfl ?_
                have e : orderB o = false := by clear hb; simp_all [orderB, noRest]
                exact ⟨_, rfl, by rw [e]; rfl, hb.below⟩
            · replace k4 := of_decide_eq_false k4
              refine E.W.seq ?_
              refine E.W.region ?_
              refine E.WL.val (E.y_eql rfl rfl) rfl rfl rfl ?_
              refine E.WL.val (E.y_assign rfl) rfl rfl rfl ?_
              refine E.WL.done ?_
              refine E.KQ.then_n ?_
              refine E.W.condT 54 rfl (fun k4 => ?_) (fun k4 => ?_)
              · replace k4 := of_decide_eq_true k4
                refine E.W.skip ?_
                refine E.KQ.then_n ?_
                refine E.W.cond_t rfl ?_
                refine E.W.region ?_
                refine E.WL.val (E.y_move rfl) rfl rfl rfl ?_
                refine E.WL.val (E.y_move rfl) rfl rfl rfl ?_
                refine E.WL.split 60 rfl (fun h60 => ?_) (fun h60 => ?_)
                · skip
                  refine E.WL.val (E.y_fld Tryz.underlying36 rfl Tryz.sizeOf9 rfl) rfl rfl rfl ?_
                  refine E.WL.val (E.y_load rfl (E.At.ld1 Tryz.isAgg9 (hb.at0 0 rfl) 17 rfl)) rfl rfl rfl ?_
                  refine E.WL.val (E.y_seql rfl rfl) rfl rfl rfl ?_
                  refine E.WL.val (E.y_pick_t rfl rfl) rfl rfl rfl ?_
                  refine E.WL.val (E.y_move rfl) rfl rfl rfl ?_
                  refine E.WL.split 65 rfl (fun h65 => ?_) (fun h65 => ?_)
                  · skip
                    refine E.WL.val (E.y_fld Tryz.underlying36 rfl Tryz.sizeOf25 rfl) rfl rfl rfl ?_
                    refine E.WL.val (E.y_load rfl (E.At.ld1 Tryz.isAgg25 (hb.at0 0 rfl) 18 rfl)) rfl rfl rfl ?_
                    refine E.WL.val (E.y_eql rfl rfl) rfl rfl rfl ?_
                    refine E.WL.val (E.y_pick_t rfl rfl) rfl rfl rfl ?_
                    refine E.WL.val (E.y_assign rfl) rfl rfl rfl ?_
                    refine E.WL.done ?_
                    refine E.KQ.block_n ?_
                    refine E.KQ.then_n ?_
                    refine E.W.seq ?_
                    refine E.W.seq ?_
                    refine E.W.region ?_
                    refine E.WL.val (E.y_move rfl) rfl rfl rfl ?_
                    refine E.WL.val (E.y_not rfl) rfl rfl rfl ?_
                    refine E.WL.done ?_
                    refine E.KQ.then_n ?_
                    refine E.W.condT 71 rfl (fun h71 => ?_) (fun h71 => ?_)
                    · skip
                      refine E.W.seq ?_
                      refine E.W.region ?_
                      refine E.WL.val (E.y_assign rfl) rfl rfl rfl ?_
                      refine E.WL.done ?_
                      refine E.KQ.then_n ?_
                      refine E.W.ret ?_
                      refine E.KQ.then_r ?_
                      refine E.KQ.ret1 Tryz.results17 rfl ?_
                      have e : orderB o = false := by clear hb; simp_all [orderB, noRest]
                      exact ⟨_, rfl, by rw [e]; rfl, hb.below⟩
                    · skip
                      refine E.W.skip ?_
                      refine E.KQ.then_n ?_
                      refine E.W.seq ?_
                      refine E.W.region ?_
                      refine E.WL.val (E.y_assign rfl) rfl rfl rfl ?_
                      refine E.WL.done ?_
                      refine E.KQ.then_n ?_
                      refine E.W.ret ?_
                      refine E.KQ.ret1 Tryz.results17 rfl ?_
                      have e : orderB o = true := by clear hb; simp_all [orderB, noRest]
                      exact ⟨_, rfl, by rw [e]; rfl, hb.below⟩
                  · skip
                    refine E.WL.off rfl rfl rfl ?_
                    refine E.WL.off rfl rfl rfl ?_
                    refine E.WL.off rfl rfl rfl ?_
                    refine E.WL.val (E.y_pick_f rfl rfl) rfl rfl rfl ?_
                    refine E.WL.val (E.y_assign rfl) rfl rfl rfl ?_
                    refine E.WL.done ?_
                    refine E.KQ.block_n ?_
                    refine E.KQ.then_n ?_
                    refine E.W.seq ?_
                    refine E.W.seq ?_
                    refine E.W.region ?_
                    refine E.WL.val (E.y_move rfl) rfl rfl rfl ?_
                    refine E.WL.val (E.y_not rfl) rfl rfl rfl ?_
                    refine E.WL.done ?_
                    refine E.KQ.then_n ?_
                    refine E.W.cond_t rfl ?_
                    refine E.W.seq ?_
                    refine E.W.region ?_
                    refine E.WL.val (E.y_assign rfl) rfl rfl rfl ?_
                    refine E.WL.done ?_
                    refine E.KQ.then_n ?_
                    refine E.W.ret ?_
                    refine E.KQ.then_r ?_
                    refine E.KQ.ret1 Tryz.results17 rfl ?_
                    have e : orderB o = false := by clear hb; simp_all [orderB, noRest]
                    exact ⟨_, rfl, by rw [e]; rfl, hb.below⟩
                · skip
                  refine E.WL.off rfl rfl rfl ?_
                  refine E.WL.off rfl rfl rfl ?_
                  refine E.WL.off rfl rfl rfl ?_
                  refine E.WL.val (E.y_pick_f rfl rfl) rfl rfl rfl ?_
                  refine E.WL.val (E.y_move rfl) rfl rfl rfl ?_
                  refine E.WL.off rfl rfl rfl ?_
                  refine E.WL.off rfl rfl rfl ?_
                  refine E.WL.off rfl rfl rfl ?_
                  refine E.WL.val (E.y_pick_f rfl rfl) rfl rfl rfl ?_
                  refine E.WL.val (E.y_assign rfl) rfl rfl rfl ?_
                  refine E.WL.done ?_
                  refine E.KQ.block_n ?_
                  refine E.KQ.then_n ?_
                  refine E.W.seq ?_
                  refine E.W.seq ?_
                  refine E.W.region ?_
                  refine E.WL.val (E.y_move rfl) rfl rfl rfl ?_
                  refine E.WL.val (E.y_not rfl) rfl rfl rfl ?_
                  refine E.WL.done ?_
                  refine E.KQ.then_n ?_
                  refine E.W.cond_t rfl ?_
                  refine E.W.seq ?_
                  refine E.W.region ?_
                  refine E.WL.val (E.y_assign rfl) rfl rfl rfl ?_
                  refine E.WL.done ?_
                  refine E.KQ.then_n ?_
                  refine E.W.ret ?_
                  refine E.KQ.then_r ?_
                  refine E.KQ.ret1 Tryz.results17 rfl ?_
                  have e : orderB o = false := by clear hb; simp_all [orderB, noRest]
                  exact ⟨_, rfl, by rw [e]; rfl, hb.below⟩
              · replace k4 := of_decide_eq_false k4
                refine E.W.region ?_
                refine E.WL.val (E.y_eql rfl rfl) rfl rfl rfl ?_
                refine E.WL.val (E.y_assign rfl) rfl rfl rfl ?_
                refine E.WL.done ?_
                refine E.KQ.then_n ?_
                refine E.W.condT 54 rfl (fun k4 => ?_) (fun k4 => ?_)
                · replace k4 := of_decide_eq_true k4
                  refine E.W.region ?_
                  refine E.WL.val (E.y_move rfl) rfl rfl rfl ?_
                  refine E.WL.val (E.y_move rfl) rfl rfl rfl ?_
                  refine E.WL.split 60 rfl (fun h60 => ?_) (fun h60 => ?_)
                  · skip
                    refine E.WL.val (E.y_fld Tryz.underlying36 rfl Tryz.sizeOf9 rfl) rfl rfl rfl ?_
                    refine E.WL.val (E.y_load rfl (E.At.ld1 Tryz.isAgg9 (hb.at0 0 rfl) 17 rfl)) rfl rfl rfl ?_
                    refine E.WL.val (E.y_seql rfl rfl) rfl rfl rfl ?_
                    refine E.WL.val (E.y_pick_t rfl rfl) rfl rfl rfl ?_
                    refine E.WL.val (E.y_move rfl) rfl rfl rfl ?_
                    refine E.WL.split 65 rfl (fun h65 => ?_) (fun h65 => ?_)
                    · skip
                      refine E.WL.val (E.y_fld Tryz.underlying36 rfl Tryz.sizeOf25 rfl) rfl rfl rfl ?_
                      refine E.WL.val (E.y_load rfl (E.At.ld1 Tryz.isAgg25 (hb.at0 0 rfl) 18 rfl)) rfl rfl rfl ?_
                      refine E.WL.val (E.y_eql rfl rfl) rfl rfl rfl ?_
                      refine E.WL.val (E.y_pick_t rfl rfl) rfl rfl rfl ?_
                      refine E.WL.val (E.y_assign rfl) rfl rfl rfl ?_
                      refine E.WL.done ?_
                      refine E.KQ.block_n ?_
                      refine E.KQ.then_n ?_
                      refine E.W.seq ?_
                      refine E.W.seq ?_
                      refine E.W.region ?_
                      refine E.WL.val (E.y_move rfl) rfl rfl rfl ?_
                      refine E.WL.val (E.y_not rfl) rfl rfl rfl ?_
                      refine E.WL.done ?_
                      refine E.KQ.then_n ?_
                      refine E.W.condT 71 rfl (fun h71 => ?_) (fun h71 => ?_)
                      · skip
                        refine E.W.seq ?_
                        refine E.W.region ?_
                        refine E.WL.val (E.y_assign rfl) rfl rfl rfl ?_
                        refine E.WL.done ?_
                        refine E.KQ.then_n ?_
                        refine E.W.ret ?_
                        refine E.KQ.then_r ?_
                        refine E.KQ.ret1 Tryz.results17 rfl ?_
                        have e : orderB o = false := by clear hb; simp_all [orderB, noRest]
                        exact ⟨_, rfl, by rw [e]; rfl, hb.below⟩
                      · skip
                        refine E.W.skip ?_
                        refine E.KQ.then_n ?_
                        refine E.W.seq ?_
                        refine E.W.region ?_
                        refine E.WL.val (E.y_assign rfl) rfl rfl rfl ?_
                        refine E.WL.done ?_
                        refine E.KQ.then_n ?_
                        refine E.W.ret ?_
                        refine E.KQ.ret1 Tryz.results17 rfl ?_
                        have e : orderB o = true := by clear hb; simp_all [orderB, noRest]
                        exact ⟨_, rfl, by rw [e]; rfl, hb.below⟩
                    · skip
                      refine E.WL.off rfl rfl rfl ?_
                      refine E.WL.off rfl rfl rfl ?_
                      refine E.WL.off rfl rfl rfl ?_
                      refine E.WL.val (E.y_pick_f rfl rfl) rfl rfl rfl ?_
                      refine E.WL.val (E.y_assign rfl) rfl rfl rfl ?_
                      refine E.WL.done ?_
                      refine E.KQ.block_n ?_
                      refine E.KQ.then_n ?_
                      refine E.W.seq ?_
                      refine E.W.seq ?_
                      refine E.W.region ?_
                      refine E.WL.val (E.y_move rfl) rfl rfl rfl ?_
                      refine E.WL.val (E.y_not rfl) rfl rfl rfl ?_
                      refine E.WL.done ?_
                      refine E.KQ.then_n ?_
                      refine E.W.cond_t rfl ?_
                      refine E.W.seq ?_
                      refine E.W.region ?_
                      refine E.WL.val (E.y_assign rfl) rfl rfl rfl ?_
                      refine E.WL.done ?_
                      refine E.KQ.then_n ?_
                      refine E.W.ret ?_
                      refine E.KQ.then_r ?_
                      refine E.KQ.ret1 Tryz.results17 rfl ?_
                      have e : orderB o = false := by clear hb; simp_all [orderB, noRest]
                      exact ⟨_, rfl, by rw [e]; rfl, hb.below⟩
                  · skip
                    refine E.WL.off rfl rfl rfl ?_
                    refine E.WL.off rfl rfl rfl ?_
                    refine E.WL.off rfl rfl rfl ?_
                    refine E.WL.val (E.y_pick_f rfl rfl) rfl rfl rfl ?_
                    refine E.WL.val (E.y_move rfl) rfl rfl rfl ?_
                    refine E.WL.off rfl rfl rfl ?_
                    refine E.WL.off rfl rfl rfl ?_
                    refine E.WL.off rfl rfl rfl ?_
                    refine E.WL.val (E.y_pick_f rfl rfl) rfl rfl rfl ?_
                    refine E.WL.val (E.y_assign rfl) rfl rfl rfl ?_
                    refine E.WL.done ?_
                    refine E.KQ.block_n ?_
                    refine E.KQ.then_n ?_
                    refine E.W.seq ?_
                    refine E.W.seq ?_
                    refine E.W.region ?_
                    refine E.WL.val (E.y_move rfl) rfl rfl rfl ?_
                    refine E.WL.val (E.y_not rfl) rfl rfl rfl ?_
                    refine E.WL.done ?_
                    refine E.KQ.then_n ?_
                    refine E.W.cond_t rfl ?_
                    refine E.W.seq ?_
                    refine E.W.region ?_
                    refine E.WL.val (E.y_assign rfl) rfl rfl rfl ?_
                    refine E.WL.done ?_
                    refine E.KQ.then_n ?_
                    refine E.W.ret ?_
                    refine E.KQ.then_r ?_
                    refine E.KQ.ret1 Tryz.results17 rfl ?_
                    have e : orderB o = false := by clear hb; simp_all [orderB, noRest]
                    exact ⟨_, rfl, by rw [e]; rfl, hb.below⟩
                · replace k4 := of_decide_eq_false k4
                  refine E.W.skip ?_
                  refine E.KQ.block_n ?_
                  refine E.KQ.then_n ?_
                  refine E.W.seq ?_
                  refine E.W.seq ?_
                  refine E.W.region ?_
                  refine E.WL.val (E.y_move rfl) rfl rfl rfl ?_
                  refine E.WL.val (E.y_not rfl) rfl rfl rfl ?_
                  refine E.WL.done ?_
                  refine E.KQ.then_n ?_
                  refine E.W.cond_t rfl ?_
                  refine E.W.seq ?_
                  refine E.W.region ?_
                  refine E.WL.val (E.y_assign rfl) rfl rfl rfl ?_
                  refine E.WL.done ?_
                  refine E.KQ.then_n ?_
                  refine E.W.ret ?_
                  refine E.KQ.then_r ?_
                  refine E.KQ.ret1 Tryz.results17 rfl ?_
                  have e : orderB o = false := by clear hb; simp_all [orderB, noRest]
                  exact ⟨_, rfl, by rw [e]; rfl, hb.below⟩
  · skip
    refine E.WL.off rfl rfl rfl ?_
    refine E.WL.off rfl rfl rfl ?_
    refine E.WL.off rfl rfl rfl ?_
    refine E.WL.val (E.y_pick_f rfl rfl) rfl rfl rfl ?_
    refine E.WL.val (E.y_assign rfl) rfl rfl rfl ?_
    refine E.WL.done ?_
    refine E.KQ.then_n ?_
    refine E.W.seq ?_
    refine E.W.seq ?_
    refine E.W.region ?_
    refine E.WL.val (E.y_fld Tryz.underlying36 rfl Tryz.sizeOf28 rfl) rfl rfl rfl ?_
    refine E.WL.val (E.y_load rfl (E.At.ld1 Tryz.isAgg28 (hb.at0 0 rfl) 0 rfl)) rfl rfl rfl ?_
    refine E.WL.done ?_
    refine E.KQ.then_n ?_
    refine E.W.block ?_
    refine E.W.seq ?_
    refine E.W.region ?_
    refine E.WL.val (E.y_eql rfl rfl) rfl rfl rfl ?_
    refine E.WL.val (E.y_assign rfl) rfl rfl rfl ?_
    refine E.WL.done ?_
    refine E.KQ.then_n ?_
    refine E.W.condT 15 rfl (fun k1 => ?_) (fun k1 => ?_)
    · replace k1 := of_decide_eq_true k1
      refine E.W.region ?_
      refine E.WL.val (E.y_fld Tryz.underlying36 rfl Tryz.sizeOf34 rfl) rfl rfl rfl ?_
      refine E.WL.val (E.y_load rfl (E.At.ldk Tryz.isAgg34 Tryz.sizeOf34 ((hb.at0 0 rfl).sub rfl 7 9) rfl)) rfl rfl rfl ?_
      refine E.WL.call (noTask_calls (RTask.goes.stays ht (Stays.ext hb.below)) hs.1) Tryz.call54 rfl rfl rfl ?_
      rintro _ w7 ⟨rfl, hX⟩
      replace hb := hb.ext hX
      clear hX
      refine E.WL.val (E.y_move rfl) rfl rfl rfl ?_
      refine E.WL.split 20 rfl (fun h20 => ?_) (fun h20 => ?_)
      · skip
        refine E.WL.val (E.y_fld Tryz.underlying36 rfl Tryz.sizeOf9 rfl) rfl rfl rfl ?_
        refine E.WL.val (E.y_load rfl (E.At.ld1 Tryz.isAgg9 (hb.at0 0 rfl) 16 rfl)) rfl rfl rfl ?_
        refine E.WL.val (E.y_fld Tryz.underlying36 rfl Tryz.sizeOf9 rfl) rfl rfl rfl ?_
        refine E.WL.val (E.y_load rfl (E.At.ld1 Tryz.isAgg9 (hb.at0 0 rfl) 17 rfl)) rfl rfl rfl ?_
        refine E.WL.val (E.y_sadd rfl rfl (by omega)) rfl rfl rfl ?_
        refine E.WL.val (E.y_seql rfl rfl) rfl rfl rfl ?_
        refine E.WL.val (E.y_pick_t rfl rfl) rfl rfl rfl ?_
        refine E.WL.val (E.y_move rfl) rfl rfl rfl ?_
        refine E.WL.split 28 rfl (fun h28 => ?_) (fun h28 => ?_)
        · skip
          refine E.WL.val (E.y_fld Tryz.underlying36 rfl Tryz.sizeOf25 rfl) rfl rfl rfl ?_
          refine E.WL.val (E.y_load rfl (E.At.ld1 Tryz.isAgg25 (hb.at0 0 rfl) 18 rfl)) rfl rfl rfl ?_
          refine E.WL.val (E.y_eql rfl rfl) rfl rfl rfl ?_
          refine E.WL.val (E.y_pick_t rfl rfl) rfl rfl rfl ?_
          refine E.WL.val (E.y_assign rfl) rfl rfl rfl ?_
          refine E.WL.done ?_
          refine E.KQ.block_n ?_
          refine E.KQ.then_n ?_
          refine E.W.seq ?_
          refine E.W.seq ?_
          refine E.W.region ?_
          refine E.WL.val (E.y_move rfl) rfl rfl rfl ?_
          refine E.WL.val (E.y_not rfl) rfl rfl rfl ?_
          refine E.WL.done ?_
          refine E.KQ.then_n ?_
          refine E.W.condT 71 rfl (fun h71 => ?_) (fun h71 => ?_)
          · skip
            refine E.W.seq ?_
            refine E.W.region ?_
            refine E.WL.val (E.y_assign rfl) rfl rfl rfl ?_
            refine E.WL.done ?_
            refine E.KQ.then_n ?_
            refine E.W.ret ?_
            refine E.KQ.then_r ?_
            refine E.KQ.ret1 Tryz.results17 rfl ?_
            have e : orderB o = false := by clear hb; simp_all [orderB, noRest]
            exact ⟨_, rfl, by rw [e]; rfl, hb.below⟩
          · skip
            refine E.W.skip ?_
            refine E.KQ.then_n ?_
            refine E.W.seq ?_
            refine E.W.region ?_
            refine E.WL.val (E.y_assign rfl) rfl rfl rfl ?_
            refine E.WL.done ?_
            refine E.KQ.then_n ?_
            refine E.W.ret ?_
            refine E.KQ.ret1 Tryz.results17 rfl ?_
            have e : orderB o = true := by clear hb; simp_all [orderB, noRest]
            exact ⟨_, rfl, by rw [e]; rfl, hb.below⟩
        · skip
          refine E.WL.off rfl rfl rfl ?_
          refine E.WL.off rfl rfl rfl ?_
          refine E.WL.off rfl rfl rfl ?_
          refine E.WL.val (E.y_pick_f rfl rfl) rfl rfl rfl ?_
          refine E.WL.val (E.y_assign rfl) rfl rfl rfl ?_
          refine E.WL.done ?_
          refine E.KQ.block_n ?_
          refine E.KQ.then_n ?_
          refine E.W.seq ?_
          refine E.W.seq ?_
          refine E.W.region ?_
          refine E.WL.val (E.y_move rfl) rfl rfl rfl ?_
          refine E.WL.val (E.y_not rfl) rfl rfl rfl ?_
          refine E.WL.done ?_
          refine E.KQ.then_n ?_
          refine E.W.cond_t rfl ?_
          refine E.W.seq ?_
          refine E.W.region ?_
          refine E.WL.val (E.y_assign rfl) rfl rfl rfl ?_
          refine E.WL.done ?_
          refine E.KQ.then_n ?_
          refine E.W.ret ?_
          refine E.KQ.then_r ?_
          refine E.KQ.ret1 Tryz.results17 rfl ?_
          have e : orderB o = false := by clear hb; simp_all [orderB, noRest]
          exact ⟨_, rfl, by rw [e]; rfl, hb.below⟩
      · skip
        refine E.WL.off rfl rfl rfl ?_
        refine E.WL.off rfl rfl rfl ?_
        refine E.WL.off rfl rfl rfl ?_
        refine E.WL.off rfl rfl rfl ?_
        refine E.WL.off rfl rfl rfl ?_
        refine E.WL.off rfl rfl rfl ?_
        refine E.WL.val (E.y_pick_f rfl rfl) rfl rfl rfl ?_
        refine E.WL.val (E.y_move rfl) rfl rfl rfl ?_
        refine E.WL.off rfl rfl rfl ?_
        refine E.WL.off rfl rfl rfl ?_
        refine E.WL.off rfl rfl rfl ?_
        refine E.WL.val (E.y_pick_f rfl rfl) rfl rfl rfl ?_
        refine E.WL.val (E.y_assign rfl) rfl rfl rfl ?_
        refine E.WL.done ?_
        refine E.KQ.block_n ?_
        refine E.KQ.then_n ?_
        refine E.W.seq ?_
        refine E.W.seq ?_
        refine E.W.region ?_
        refine E.WL.val (E.y_move rfl) rfl rfl rfl ?_
        refine E.WL.val (E.y_not rfl) rfl rfl rfl ?_
        refine E.WL.done ?_
        refine E.KQ.then_n ?_
        refine E.W.cond_t rfl ?_
        refine E.W.seq ?_
        refine E.W.region ?_
        refine E.WL.val (E.y_assign rfl) rfl rfl rfl ?_
        refine E.WL.done ?_
        refine E.KQ.then_n ?_
        refine E.W.ret ?_
        refine E.KQ.then_r ?_
        refine E.KQ.ret1 Tryz.results17 rfl ?_
        have e : orderB o = false := by clear hb; simp_all [orderB, noRest]
        exact ⟨_, rfl, by rw [e]; rfl, hb.below⟩
    · replace k1 := of_decide_eq_false k1
      refine E.W.seq ?_
      refine E.W.region ?_
      refine E.WL.val (E.y_eql rfl rfl) rfl rfl rfl ?_
      refine E.WL.val (E.y_assign rfl) rfl rfl rfl ?_
      refine E.WL.done ?_
      refine E.KQ.then_n ?_
      refine E.W.condT 33 rfl (fun k3 => ?_) (fun k3 => ?_)
      · replace k3 := of_decide_eq_true k3
        refine E.W.region ?_
        refine E.WL.val (E.y_fld Tryz.underlying36 rfl Tryz.sizeOf32 rfl) rfl rfl rfl ?_
        refine E.WL.val (E.y_load rfl (E.At.ldk Tryz.isAgg32 Tryz.sizeOf32 ((hb.at0 0 rfl).sub rfl 1 6) rfl)) rfl rfl rfl ?_
        refine E.WL.call (noNode_calls (RNode.goes.stays hn (Stays.ext hb.below))) Tryz.call53 rfl rfl rfl ?_
        rintro _ w8 ⟨rfl, hX⟩
        replace hb := hb.ext hX
        clear hX
        refine E.WL.val (E.y_move rfl) rfl rfl rfl ?_
        refine E.WL.split 38 rfl (fun h38 => ?_) (fun h38 => ?_)
        · skip
          refine E.WL.val (E.y_fld Tryz.underlying36 rfl Tryz.sizeOf9 rfl) rfl rfl rfl ?_
          refine E.WL.val (E.y_load rfl (E.At.ld1 Tryz.isAgg9 (hb.at0 0 rfl) 16 rfl)) rfl rfl rfl ?_
          refine E.WL.val (E.y_fld Tryz.underlying36 rfl Tryz.sizeOf9 rfl) rfl rfl rfl ?_
          refine E.WL.val (E.y_load rfl (E.At.ld1 Tryz.isAgg9 (hb.at0 0 rfl) 17 rfl)) rfl rfl rfl ?_
          refine E.WL.val (E.y_sadd rfl rfl (by omega)) rfl rfl rfl ?_
          refine E.WL.val (E.y_seql rfl rfl) rfl rfl rfl ?_
          refine E.WL.val (E.y_pick_t rfl rfl) rfl rfl rfl ?_
          refine E.WL.val (E.y_move rfl) rfl rfl rfl ?_
          refine E.WL.split 46 rfl (fun h46 => ?_) (fun h46 => ?_)
          · skip
            refine E.WL.val (E.y_fld Tryz.underlying36 rfl Tryz.sizeOf25 rfl) rfl rfl rfl ?_
            refine E.WL.val (E.y_load rfl (E.At.ld1 Tryz.isAgg25 (hb.at0 0 rfl) 18 rfl)) rfl rfl rfl ?_
            refine E.WL.val (E.y_eql rfl rfl) rfl rfl rfl ?_
            refine E.WL.val (E.y_pick_t rfl rfl) rfl rfl rfl ?_
            refine E.WL.val (E.y_assign rfl) rfl rfl rfl ?_
            refine E.WL.done ?_
            refine E.KQ.block_n ?_
            refine E.KQ.then_n ?_
            refine E.W.seq ?_
            refine E.W.seq ?_
            refine E.W.region ?_
            refine E.WL.val (E.y_move rfl) rfl rfl rfl ?_
            refine E.WL.val (E.y_not rfl) rfl rfl rfl ?_
            refine E.WL.done ?_
            refine E.KQ.then_n ?_
            refine E.W.condT 71 rfl (fun h71 => ?_) (fun h71 => ?_)
            · skip
              refine E.W.seq ?_
              refine E.W.region ?_
              refine E.WL.val (E.y_assign rfl) rfl rfl rfl ?_
              refine E.WL.done ?_
              refine E.KQ.then_n ?_
              refine E.W.ret ?_
              refine E.KQ.then_r ?_
              refine E.KQ.ret1 Tryz.results17 rfl ?_
              have e : orderB o = false := by clear hb; simp_all [orderB, noRest]
              exact ⟨_, rfl, by rw [e]; rfl, hb.below⟩
            · skip
              refine E.W.skip ?_
              refine E.KQ.then_n ?_
              refine E.W.seq ?_
              refine E.W.region ?_
              refine E.WL.val (E.y_assign rfl) rfl rfl rfl ?_
              refine E.WL.done ?_
              refine E.KQ.then_n ?_
              refine E.W.ret ?_
              refine E.KQ.ret1 Tryz.results17 rfl ?_
              have e : orderB o = true := by clear hb; simp_all [orderB, noRest]
              exact ⟨_, rfl, by rw [e]; rfl, hb.below⟩
          · skip
            refine E.WL.off rfl rfl rfl ?_
            refine E.WL.off rfl rfl rfl ?_
            refine E.WL.off rfl rfl rfl ?_
            refine E.WL.val (E.y_pick_f rfl rfl) rfl rfl rfl ?_
            refine E.WL.val (E.y_assign rfl) rfl rfl rfl ?_
            refine E.WL.done ?_
            refine E.KQ.block_n ?_
            refine E.KQ.then_n ?_
            refine E.W.seq ?_
            refine E.W.seq ?_
            refine E.W.region ?_
            refine E.WL.val (E.y_move rfl) rfl rfl rfl ?_
            refine E.WL.val (E.y_not rfl) rfl rfl rfl ?_
            refine E.WL.done ?_
            refine E.KQ.then_n ?_
            refine E.W.cond_t rfl ?_
            refine E.W.seq ?_
            refine E.W.region ?_
            refine E.WL.val (E.y_assign rfl) rfl rfl rfl ?_
            refine E.WL.done ?_
            refine E.KQ.then_n ?_
            refine E.W.ret ?_
            refine E.KQ.then_r ?_
            refine E.KQ.ret1 Tryz.results17 rfl ?_
            have e : orderB o = false := by clear hb; simp_all [orderB, noRest]
            exact ⟨_, rfl, by rw [e]; rfl, hb.below⟩
        · skip
          refine E.WL.off rfl rfl rfl ?_
          refine E.WL.off rfl rfl rfl ?_
          refine E.WL.off rfl rfl rfl ?_
          refine E.WL.off rfl rfl rfl ?_
          refine E.WL.off rfl rfl rfl ?_
          refine E.WL.off rfl rfl rfl ?_
          refine E.WL.val (E.y_pick_f rfl rfl) rfl rfl rfl ?_
          refine E.WL.val (E.y_move rfl) rfl rfl rfl ?_
          refine E.WL.off rfl rfl rfl ?_
          refine E.WL.off rfl rfl rfl ?_
          refine E.WL.off rfl rfl rfl ?_
          refine E.WL.val (E.y_pick_f rfl rfl) rfl rfl rfl ?_
          refine E.WL.val (E.y_assign rfl) rfl rfl rfl ?_
          refine E.WL.done ?_
          refine E.KQ.block_n ?_
          refine E.KQ.then_n ?_
          refine E.W.seq ?_
          refine E.W.seq ?_
          refine E.W.region ?_
          refine E.WL.val (E.y_move rfl) rfl rfl rfl ?_
          refine E.WL.val (E.y_not rfl) rfl rfl rfl ?_
          refine E.WL.done ?_
          refine E.KQ.then_n ?_
          refine E.W.cond_t rfl ?_
          refine E.W.seq ?_
          refine E.W.region ?_
          refine E.WL.val (E.y_assign rfl) rfl rfl rfl ?_
          refine E.WL.done ?_
          refine E.KQ.then_n ?_
          refine E.W.ret ?_
          refine E.KQ.then_r ?_
          refine E.KQ.ret1 Tryz.results17 rfl ?_
          have e : orderB o = false := by clear hb; simp_all [orderB, noRest]
          exact ⟨_, rfl, by rw [e]; rfl, hb.below⟩
      · replace k3 := of_decide_eq_false k3
        refine E.W.seq ?_
        refine E.W.region ?_
        refine E.WL.val (E.y_eql rfl rfl) rfl rfl rfl ?_
        refine E.WL.val (E.y_assign rfl) rfl rfl rfl ?_
        refine E.WL.done ?_
        refine E.KQ.then_n ?_
        refine E.W.condT 51 rfl (fun k5 => ?_) (fun k5 => ?_)
        · replace k5 := of_decide_eq_true k5
          refine E.W.region ?_
          refine E.WL.val (E.y_move rfl) rfl rfl rfl ?_
          refine E.WL.val (E.y_assign rfl) rfl rfl rfl ?_
          refine E.WL.done ?_
          refine E.KQ.block_n ?_
          refine E.KQ.then_n ?_
          refine E.W.seq ?_
          refine E.W.seq ?_
          refine E.W.region ?_
          refine E.WL.val (E.y_move rfl) rfl rfl rfl ?_
          refine E.WL.val (E.y_not rfl) rfl rfl rfl ?_
          refine E.WL.done ?_
          refine E.KQ.then_n ?_
          refine E.W.cond_t rfl ?_
          refine E.W.seq ?_
          refine E.W.region ?_
          refine E.WL.val (E.y_assign rfl) rfl rfl rfl ?_
          refine E.WL.done ?_
          refine E.KQ.then_n ?_
          refine E.W.ret ?_
          refine E.KQ.then_r ?_
          refine E.KQ.ret1 Tryz.results17 rfl ?_
          have e : orderB o = false := by clear hb; simp_all [orderB, noRest]
          exact ⟨_, rfl, by rw [e]; rfl, hb.below⟩
        · replace k5 := of_decide_eq_false k5
          refine E.W.seq ?_
          refine E.W.seq ?_
          refine E.W.region ?_
          refine E.WL.val (E.y_eql rfl rfl) rfl rfl rfl ?_
          refine E.WL.val (E.y_assign rfl) rfl rfl rfl ?_
          refine E.WL.done ?_
          refine E.KQ.then_n ?_
          refine E.W.condT 54 rfl (fun k4 => ?_) (fun k4 => ?_)
          · replace k4 := of_decide_eq_true k4
            refine E.W.skip ?_
            refine E.KQ.then_n ?_
            refine E.W.cond_t rfl ?_
            refine E.W.region ?_
            refine E.WL.val (E.y_move rfl) rfl rfl rfl ?_
            refine E.WL.val (E.y_move rfl) rfl rfl rfl ?_
            refine E.WL.off rfl rfl rfl ?_
            refine E.WL.off rfl rfl rfl ?_
            refine E.WL.off rfl rfl rfl ?_
            refine E.WL.val (E.y_pick_f rfl rfl) rfl rfl rfl ?_
            refine E.WL.val (E.y_move rfl) rfl rfl rfl ?_
            refine E.WL.off rfl rfl rfl ?_
            refine E.WL.off rfl rfl rfl ?_
            refine E.WL.off rfl rfl rfl ?_
            refine E.WL.val (E.y_pick_f rfl rfl) rfl rfl rfl ?_
            refine E.WL.val (E.y_assign rfl) rfl rfl rfl ?_
            refine E.WL.done ?_
            refine E.KQ.block_n ?_
            refine E.KQ.then_n ?_
            refine E.W.seq ?_
            refine E.W.seq ?_
            refine E.W.region ?_
            refine E.WL.val (E.y_move rfl) rfl rfl rfl ?_
            refine E.WL.val (E.y_not rfl) rfl rfl rfl ?_
            refine E.WL.done ?_
            refine E.KQ.then_n ?_
            refine E.W.cond_t rfl ?_
            refine E.W.seq ?_
            refine E.W.region ?_
            refine E.WL.val (E.y_assign rfl) rfl rfl rfl ?_
            refine E.WL.done ?_
            refine E.KQ.then_n ?_
            refine E.W.ret ?_
            refine E.KQ.then_r ?_
            refine E.KQ.ret1 Tryz.results17 rfl ?_
            have e : orderB o = false := by clear hb; simp_all [orderB, noRest]
            exact ⟨_, rfl, by rw [e]; rfl, hb.below⟩
          · replace k4 := of_decide_eq_false k4
            refine E.W.seq ?_
            refine E.W.region ?_
            refine E.WL.val (E.y_eql rfl rfl) rfl rfl rfl ?_
            refine E.WL.val (E.y_assign rfl) rfl rfl rfl ?_
            refine E.WL.done ?_
            refine E.KQ.then_n ?_
            refine E.W.condT 54 rfl (fun k4 => ?_) (fun k4 => ?_)
            · replace k4 := of_decide_eq_true k4
              refine E.W.skip ?_
              refine E.KQ.then_n ?_
              refine E.W.cond_t rfl ?_
              refine E.W.region ?_
              refine E.WL.val (E.y_move rfl) rfl rfl rfl ?_
              refine E.WL.val (E.y_move rfl) rfl rfl rfl ?_
              refine E.WL.off rfl rfl rfl ?_
              refine E.WL.off rfl rfl rfl ?_
              refine E.WL.off rfl rfl rfl ?_
              refine E.WL.val (E.y_pick_f rfl rfl) rfl rfl rfl ?_
              refine E.WL.val (E.y_move rfl) rfl rfl rfl ?_
              refine E.WL.off rfl rfl rfl ?_
              refine E.WL.off rfl rfl rfl ?_
              refine E.WL.off rfl rfl rfl ?_
              refine E.WL.val (E.y_pick_f rfl rfl) rfl rfl rfl ?_
              refine E.WL.val (E.y_assign rfl) rfl rfl rfl ?_
              refine E.WL.done ?_
              refine E.KQ.block_n ?_
              refine E.KQ.then_n ?_
              refine E.W.seq ?_
              refine E.W.seq ?_
              refine E.W.region ?_
              refine E.WL.val (E.y_move rfl) rfl rfl rfl ?_
              refine E.WL.val (E.y_not rfl) rfl rfl rfl ?_
              refine E.WL.done ?_
              refine E.KQ.then_n ?_
              refine E.W.cond_t rfl ?_
              refine E.W.seq ?_
              refine E.W.region ?_
              refine E.WL.val (E.y_assign rfl) rfl rfl rfl ?_
              refine E.WL.done ?_
              refine E.KQ.then_n ?_
              refine E.W.ret ?_
              refine E.KQ.then_r ?_
              refine E.KQ.ret1 Tryz.results17 rfl ?_
              have e : orderB o = false := by clear hb; simp_all [orderB, noRest]
              exact ⟨_, rfl, by rw [e]; rfl, hb.below⟩
            · replace k4 := of_decide_eq_false k4
              refine E.W.seq ?_
              refine E.W.region ?_
              refine E.WL.val (E.y_eql rfl rfl) rfl rfl rfl ?_
              refine E.WL.val (E.y_assign rfl) rfl rfl rfl ?_
              refine E.WL.done ?_
              refine E.KQ.then_n ?_
              refine E.W.condT 54 rfl (fun k4 => ?_) (fun k4 => ?_)
              · replace k4 := of_decide_eq_true k4
                refine E.W.skip ?_
                refine E.KQ.then_n ?_
                refine E.W.cond_t rfl ?_
                refine E.W.region ?_
                refine E.WL.val (E.y_move rfl) rfl rfl rfl ?_
                refine E.WL.val (E.y_move rfl) rfl rfl rfl ?_
                refine E.WL.off rfl rfl rfl ?_
                refine E.WL.off rfl rfl rfl ?_
                refine E.WL.off rfl rfl rfl ?_
                refine E.WL.val (E.y_pick_f rfl rfl) rfl rfl rfl ?_
                refine E.WL.val (E.y_move rfl) rfl rfl rfl ?_
                refine E.WL.off rfl rfl rfl ?_
                refine E.WL.off rfl rfl rfl ?_
                refine E.WL.off rfl rfl rfl ?_
                refine E.WL.val (E.y_pick_f rfl rfl) rfl rfl rfl ?_
                refine E.WL.val (E.y_assign rfl) rfl rfl rfl ?_
                refine E.WL.done ?_
                refine E.KQ.block_n ?_
                refine E.KQ.then_n ?_
                refine E.W.seq ?_
                refine E.W.seq ?_
                refine E.W.region ?_
                refine E.WL.val (E.y_move rfl) rfl rfl rfl ?_
                refine E.WL.val (E.y_not rfl) rfl rfl rfl ?_
                refine E.WL.done ?_
                refine E.KQ.then_n ?_
                refine E.W.cond_t rfl ?_
                refine E.W.seq ?_
                refine E.W.region ?_
                refine E.WL.val (E.y_assign rfl) rfl rfl rfl ?_
                refine E.WL.done ?_
                refine E.KQ.then_n ?_
                refine E.W.ret ?_
                refine E.KQ.then_r ?_
                refine E.KQ.ret1 Tryz.results17 rfl ?_
                have e : orderB o = false := by clear hb; simp_all [orderB, noRest]
                exact ⟨_, rfl, by rw [e]; rfl, hb.below⟩
              · replace k4 := of_decide_eq_false k4
                refine E.W.region ?_
                refine E.WL.val (E.y_eql rfl rfl) rfl rfl rfl ?_
                refine E.WL.val (E.y_assign rfl) rfl rfl rfl ?_
                refine E.WL.done ?_
                refine E.KQ.then_n ?_
                refine E.W.condT 54 rfl (fun k4 => ?_) (fun k4 => ?_)
                · replace k4 := of_decide_eq_true k4
                  refine E.W.region ?_
                  refine E.WL.val (E.y_move rfl) rfl rfl rfl ?_
                  refine E.WL.val (E.y_move rfl) rfl rfl rfl ?_
                  refine E.WL.off rfl rfl rfl ?_
                  refine E.WL.off rfl rfl rfl ?_
                  refine E.WL.off rfl rfl rfl ?_
                  refine E.WL.val (E.y_pick_f rfl rfl) rfl rfl rfl ?_
                  refine E.WL.val (E.y_move rfl) rfl rfl rfl ?_
                  refine E.WL.off rfl rfl rfl ?_
                  refine E.WL.off rfl rfl rfl ?_
                  refine E.WL.off rfl rfl rfl ?_
                  refine E.WL.val (E.y_pick_f rfl rfl) rfl rfl rfl ?_
                  refine E.WL.val (E.y_assign rfl) rfl rfl rfl ?_
                  refine E.WL.done ?_
                  refine E.KQ.block_n ?_
                  refine E.KQ.then_n ?_
                  refine E.W.seq ?_
                  refine E.W.seq ?_
                  refine E.W.region ?_
                  refine E.WL.val (E.y_move rfl) rfl rfl rfl ?_
                  refine E.WL.val (E.y_not rfl) rfl rfl rfl ?_
                  refine E.WL.done ?_
                  refine E.KQ.then_n ?_
                  refine E.W.cond_t rfl ?_
                  refine E.W.seq ?_
                  refine E.W.region ?_
                  refine E.WL.val (E.y_assign rfl) rfl rfl rfl ?_
                  refine E.WL.done ?_
                  refine E.KQ.then_n ?_
                  refine E.W.ret ?_
                  refine E.KQ.then_r ?_
                  refine E.KQ.ret1 Tryz.results17 rfl ?_
                  have e : orderB o = false := by clear hb; simp_all [orderB, noRest]
                  exact ⟨_, rfl, by rw [e]; rfl, hb.below⟩
                · replace k4 := of_decide_eq_false k4
                  refine E.W.skip ?_
                  refine E.KQ.block_n ?_
                  refine E.KQ.then_n ?_
                  refine E.W.seq ?_
                  refine E.W.seq ?_
                  refine E.W.region ?_
                  refine E.WL.val (E.y_move rfl) rfl rfl rfl ?_
                  refine E.WL.val (E.y_not rfl) rfl rfl rfl ?_
                  refine E.WL.done ?_
                  refine E.KQ.then_n ?_
                  refine E.W.cond_t rfl ?_
                  refine E.W.seq ?_
                  refine E.W.region ?_
                  refine E.WL.val (E.y_assign rfl) rfl rfl rfl ?_
                  refine E.WL.done ?_
                  refine E.KQ.then_n ?_
                  refine E.W.ret ?_
                  refine E.KQ.then_r ?_
                  refine E.KQ.ret1 Tryz.results17 rfl ?_
                  have e : orderB o = false := by clear hb; simp_all [orderB, noRest]
                  exact ⟨_, rfl, by rw [e]; rfl, hb.below⟩
end Go.Proofs.YtmnnbnajnfdncaaGreatDoor
