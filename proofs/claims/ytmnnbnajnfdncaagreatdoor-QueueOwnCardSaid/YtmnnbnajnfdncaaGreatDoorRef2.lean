/- Walks: the document's Same, of what reads alike. -/
import Derived.Test.YtmnnbnajnfdncaaGreatDoorD8
import Derived.Test.YtmnnbnajnfdncaaGreatDoorD2
import Derived.Test.YtmnnbnajnfdncaaGreatDoorBook1
set_option linter.unusedVariables false
set_option linter.unusedSimpArgs false
namespace Go.Proofs.YtmnnbnajnfdncaaGreatDoor
open Go.RowKit E
set_option maxHeartbeats 400000 in
theorem samePairs_calls {F G : FP} {w : World} {v1 v2 : Value} {xs : List PairD} (h1 : RPairs F w v1 xs) (h2 : RPairs G w v2 xs) :
    Calls Tryz.prog 64 #[v1, v2] w (Ret fun u w' => u = .bool true ∧ Ext w w') := by
  obtain ⟨A, c, rfl, hc, hby, hg⟩ := h1.open_
  obtain ⟨A', c', rfl, hc', hby', hg'⟩ := h2.open_
  have hb := E.Bx.start w (base := w.heap.size) (Nat.le_refl _)
  refine E.enter Tryz.func64 rfl Tryz.ntmps64 [(.slice A xs.length c), (.slice A' xs.length c')] rfl ?_
  refine E.W.seq ?_
  refine E.W.region ?_
  refine E.WL.val (E.y_assign rfl) rfl rfl rfl ?_
  refine E.WL.done ?_
  refine E.KQ.then_n ?_
  refine E.W.seq ?_
  refine E.W.seq ?_
  refine E.W.region ?_
  refine E.WL.val (E.y_move rfl) rfl rfl rfl ?_
  refine E.WL.val (E.y_lenS Tryz.underlying30 rfl) rfl rfl rfl ?_
  refine E.WL.val (E.y_move rfl) rfl rfl rfl ?_
  refine E.WL.val (E.y_lenS Tryz.underlying30 rfl) rfl rfl rfl ?_
  refine E.WL.val (E.y_neq rfl rfl) rfl rfl rfl ?_
  refine E.WL.as 10 rfl (show _ = Value.bool false from by simp) ?_
  refine E.WL.done ?_
  refine E.KQ.then_n ?_
  refine E.W.cond_f rfl ?_
  refine E.W.skip ?_
  refine E.KQ.then_n ?_
  refine E.W.seq ?_
  refine E.W.seq ?_
  refine E.W.region ?_
  refine E.WL.val (E.y_move rfl) rfl rfl rfl ?_
  refine E.WL.val (E.y_lenS Tryz.underlying30 rfl) rfl rfl rfl ?_
  refine E.WL.val (E.y_move rfl) rfl rfl rfl ?_
  refine E.WL.done ?_
  refine E.KQ.then_n ?_
  refine E.W.block ?_
  refine E.W.loop (ι := Nat) (fun k => [(0, .slice A xs.length c), (1, .slice A' xs.length c'), (12, .int .i64 xs.length), (13, .int .i64 (k : Nat))]) (fun k w' => Bx w.heap.size w w' [] ∧ k ≤ xs.length) (fun k => xs.length - k) (0) (by exact (.cons rfl (.cons rfl (.cons rfl (.cons rfl .nil))))) ⟨hb, Nat.zero_le _⟩ (fun k w1 hJ => ?_)
  clear hb
  obtain ⟨hb, hk⟩ := hJ
  refine E.W.seq ?_
  refine E.W.region ?_
  refine E.WL.val (E.y_lss rfl rfl) rfl rfl rfl ?_
  refine E.WL.done ?_
  refine E.KQ.then_n ?_
  refine E.W.seq ?_
  refine E.W.condT 14 rfl (fun hc14 => ?_) (fun hc14 => ?_)
  · replace hc14 := of_decide_eq_true hc14
    refine E.W.skip ?_
    refine E.KQ.then_n ?_
    refine E.W.seq ?_
    refine E.W.block ?_
    refine E.W.seq ?_
    refine E.W.region ?_
    refine E.WL.val (E.y_move rfl) rfl rfl rfl ?_
    refine E.WL.val (E.y_assign rfl) rfl rfl rfl ?_
    refine E.WL.done ?_
    refine E.KQ.then_n ?_
    refine E.W.seq ?_
    refine E.W.regionQ rfl (by kernel_rfl) ?_
    refine E.QL.val (fun w' hw => E.y_move rfl) rfl rfl rfl ?_
    refine E.QL.val (fun w' hw => E.y_move rfl) rfl rfl rfl ?_
    have hkl : k < xs.length := by omega
    obtain ⟨q, cs, hA, _, hl, hat, hr⟩ := hg k hkl
    obtain ⟨q', cs', hA', _, hl', hat', hr'⟩ := hg' k hkl
    subst hA
    subst hA'
    unfold RPair at hr hr'
    subst hr
    subst hr'
    replace hat := hat.ext hb.below
    replace hat' := hat'.ext hb.below
    refine E.QL.val (fun w' hw => E.y_idxS Tryz.underlying30 Tryz.sizeOf45 rfl rfl (by omega) (by omega)) rfl rfl rfl ?_
    refine E.QL.val (fun w' hw => E.y_load rfl (E.At.ldk Tryz.isAgg45 Tryz.sizeOf45 (hat.ext hw) rfl)) rfl rfl rfl ?_
    refine E.QL.val (fun w' hw => E.y_move rfl) rfl rfl rfl ?_
    refine E.QL.val (fun w' hw => E.y_move rfl) rfl rfl rfl ?_
    refine E.QL.val (fun w' hw => E.y_idxS Tryz.underlying30 Tryz.sizeOf45 rfl rfl (by omega) (by omega)) rfl rfl rfl ?_
    refine E.QL.val (fun w' hw => E.y_load rfl (E.At.ldk Tryz.isAgg45 Tryz.sizeOf45 (hat'.ext hw) rfl)) rfl rfl rfl ?_
    refine E.QL.val (fun w' hw => E.y_op2 (run_neq_pair _ _ _) (run_eqGuard_agg _ _ _ _ _ _ _ Tryz.eqGuardType45) rfl rfl) rfl rfl rfl ?_
    refine E.QL.as 24 rfl (show _ = Value.bool false from by simp) ?_
    refine E.QL.end_ fun w2 hx => ?_
    replace hb := hb.ext hx
    clear hx
    refine E.KQ.then_n ?_
    refine E.W.cond_f rfl ?_
    refine E.W.skip ?_
    refine E.KQ.block_n ?_
    refine E.KQ.then_n ?_
    refine E.W.region ?_
    refine E.WL.val (E.y_add rfl rfl (Go.IntWalk.i64_in _ (by omega))) rfl rfl rfl ?_
    refine E.WL.val (E.y_move rfl) rfl rfl rfl ?_
    refine E.WL.done ?_
    exact E.KQ.next (k + 1) (by exact .cons rfl (.cons rfl (.cons rfl (.cons rfl .nil)))) ⟨hb, by omega⟩ (by show xs.length - (k + 1) < xs.length - k; omega)
  · replace hc14 := of_decide_eq_false hc14
    refine E.W.exit ?_
    refine E.KQ.then_e ?_
    refine E.KQ.loop_e ?_
    refine E.KQ.block_e ?_
    refine E.KQ.then_n ?_
    refine E.W.seq ?_
    refine E.W.region ?_
    refine E.WL.val (E.y_assign rfl) rfl rfl rfl ?_
    refine E.WL.done ?_
    refine E.KQ.then_n ?_
    refine E.W.ret ?_
    refine E.KQ.ret1 Tryz.results64 rfl ?_
    exact ⟨_, rfl, rfl, hb.below⟩

set_option maxHeartbeats 400000 in
theorem sameNode_calls {F G : FP} {w : World} {c1 c2 : List Value} {n : NodeD} (h1 : RNode F w c1 n) (h2 : RNode G w c2 n) :
    Calls Tryz.prog 23 #[(.agg c1.toArray), (.agg c2.toArray)] w (Ret fun u w' => u = .bool true ∧ Ext w w') := by
  obtain ⟨vl, vt, rfl, hl, ht⟩ := h1
  obtain ⟨vl', vt', rfl, hl', ht'⟩ := h2
  have hb := E.Bx.start w (base := w.heap.size) (Nat.le_refl _)
  refine E.enter Tryz.func23 rfl Tryz.ntmps23 [(.agg #[.string n.name, .int .i64 n.h0, .int .i64 n.h1, .int .i64 n.h2, vl, vt]), (.agg #[.string n.name, .int .i64 n.h0, .int .i64 n.h1, .int .i64 n.h2, vl', vt'])] rfl ?_
  refine E.W.seq ?_
  refine E.W.region ?_
  refine E.WL.box hb rfl rfl rfl rfl ?_
  clear hb; intro B1 w2 hb _ _
  refine E.WL.box hb rfl rfl rfl rfl ?_
  clear hb; intro B3 w4 hb _ _
  refine E.WL.val (E.y_assign rfl) rfl rfl rfl ?_
  refine E.WL.done ?_
  refine E.KQ.then_n ?_
  refine E.W.seq ?_
  refine E.W.region ?_
  refine E.WL.val (E.y_fld Tryz.underlying32 rfl Tryz.sizeOf9 rfl) rfl rfl rfl ?_
  refine E.WL.val (E.y_load rfl (E.At.ld1 Tryz.isAgg9 (hb.at0 1 rfl) 0 rfl)) rfl rfl rfl ?_
  refine E.WL.val (E.y_fld Tryz.underlying32 rfl Tryz.sizeOf9 rfl) rfl rfl rfl ?_
  refine E.WL.val (E.y_load rfl (E.At.ld1 Tryz.isAgg9 (hb.at0 0 rfl) 0 rfl)) rfl rfl rfl ?_
  refine E.WL.val (E.y_seql rfl rfl) rfl rfl rfl ?_
  refine E.WL.as 9 rfl (show _ = Value.bool true from by simp) ?_
  refine E.WL.val (E.y_move rfl) rfl rfl rfl ?_
  refine E.WL.val (E.y_fld Tryz.underlying32 rfl Tryz.sizeOf29 rfl) rfl rfl rfl ?_
  refine E.WL.val (E.y_load rfl (E.At.ldk Tryz.isAgg29 Tryz.sizeOf29 ((hb.at0 1 rfl).sub rfl 1 3) rfl)) rfl rfl rfl ?_
  refine E.WL.val (E.y_fld Tryz.underlying32 rfl Tryz.sizeOf29 rfl) rfl rfl rfl ?_
  refine E.WL.val (E.y_load rfl (E.At.ldk Tryz.isAgg29 Tryz.sizeOf29 ((hb.at0 0 rfl).sub rfl 1 3) rfl)) rfl rfl rfl ?_
  refine E.WL.val (E.y_op2 (run_eq_three n.h0 n.h1 n.h2 n.h0 n.h1 n.h2 _) (run_eqGuard_agg _ _ _ _ _ _ _ Tryz.eqGuardType29) rfl rfl) rfl rfl rfl ?_
  refine E.WL.as 15 rfl (show _ = Value.bool true from by simp) ?_
  refine E.WL.val (E.y_pick_t rfl rfl) rfl rfl rfl ?_
  refine E.WL.val (E.y_move rfl) rfl rfl rfl ?_
  refine E.WL.val (E.y_fld Tryz.underlying32 rfl Tryz.sizeOf30 rfl) rfl rfl rfl ?_
  refine E.WL.val (E.y_load rfl (E.At.ld1 Tryz.isAgg30 (hb.at0 1 rfl) 4 rfl)) rfl rfl rfl ?_
  refine E.WL.val (E.y_fld Tryz.underlying32 rfl Tryz.sizeOf30 rfl) rfl rfl rfl ?_
  refine E.WL.val (E.y_load rfl (E.At.ld1 Tryz.isAgg30 (hb.at0 0 rfl) 4 rfl)) rfl rfl rfl ?_
  refine E.WL.call (samePairs_calls (hl.ext RPair.goes hb.below) (hl'.ext RPair.goes hb.below)) Tryz.call64 rfl rfl rfl ?_
  rintro _ w5 ⟨rfl, hX⟩
  replace hb := hb.ext hX
  clear hX
  refine E.WL.val (E.y_pick_t rfl rfl) rfl rfl rfl ?_
  refine E.WL.val (E.y_move rfl) rfl rfl rfl ?_
  refine E.WL.val (E.y_fld Tryz.underlying32 rfl Tryz.sizeOf30 rfl) rfl rfl rfl ?_
  refine E.WL.val (E.y_load rfl (E.At.ld1 Tryz.isAgg30 (hb.at0 1 rfl) 5 rfl)) rfl rfl rfl ?_
  refine E.WL.val (E.y_fld Tryz.underlying32 rfl Tryz.sizeOf30 rfl) rfl rfl rfl ?_
  refine E.WL.val (E.y_load rfl (E.At.ld1 Tryz.isAgg30 (hb.at0 0 rfl) 5 rfl)) rfl rfl rfl ?_
  refine E.WL.call (samePairs_calls (ht.ext RPair.goes hb.below) (ht'.ext RPair.goes hb.below)) Tryz.call64 rfl rfl rfl ?_
  rintro _ w6 ⟨rfl, hX⟩
  replace hb := hb.ext hX
  clear hX
  refine E.WL.val (E.y_pick_t rfl rfl) rfl rfl rfl ?_
  refine E.WL.val (E.y_assign rfl) rfl rfl rfl ?_
  refine E.WL.done ?_
  refine E.KQ.then_n ?_
  refine E.W.ret ?_
  refine E.KQ.ret1 Tryz.results23 rfl ?_
  exact ⟨_, rfl, rfl, hb.below⟩

set_option maxHeartbeats 400000 in
theorem sameTask_calls {F G : FP} {w : World} {c1 c2 : List Value} {n : TaskD} (h1 : RTask F w c1 n) (h2 : RTask G w c2 n) :
    Calls Tryz.prog 24 #[(.agg c1.toArray), (.agg c2.toArray)] w (Ret fun u w' => u = .bool true ∧ Ext w w') := by
  obtain ⟨vl, vt, rfl, hl, ht⟩ := h1
  obtain ⟨vl', vt', rfl, hl', ht'⟩ := h2
  have hb := E.Bx.start w (base := w.heap.size) (Nat.le_refl _)
  refine E.enter Tryz.func24 rfl Tryz.ntmps24 [(.agg #[.string n.name, .int .i64 n.n0, .int .i64 n.n1, .int .i64 n.n2, vl, vt, .string n.group, .string n.apart, .int .i64 n.rank]), (.agg #[.string n.name, .int .i64 n.n0, .int .i64 n.n1, .int .i64 n.n2, vl', vt', .string n.group, .string n.apart, .int .i64 n.rank])] rfl ?_
  refine E.W.seq ?_
  refine E.W.region ?_
  refine E.WL.box hb rfl rfl rfl rfl ?_
  clear hb; intro B1 w2 hb _ _
  refine E.WL.box hb rfl rfl rfl rfl ?_
  clear hb; intro B3 w4 hb _ _
  refine E.WL.val (E.y_assign rfl) rfl rfl rfl ?_
  refine E.WL.done ?_
  refine E.KQ.then_n ?_
  refine E.W.seq ?_
  refine E.W.region ?_
  refine E.WL.val (E.y_fld Tryz.underlying34 rfl Tryz.sizeOf9 rfl) rfl rfl rfl ?_
  refine E.WL.val (E.y_load rfl (E.At.ld1 Tryz.isAgg9 (hb.at0 1 rfl) 0 rfl)) rfl rfl rfl ?_
  refine E.WL.val (E.y_fld Tryz.underlying34 rfl Tryz.sizeOf9 rfl) rfl rfl rfl ?_
  refine E.WL.val (E.y_load rfl (E.At.ld1 Tryz.isAgg9 (hb.at0 0 rfl) 0 rfl)) rfl rfl rfl ?_
  refine E.WL.val (E.y_seql rfl rfl) rfl rfl rfl ?_
  refine E.WL.as 9 rfl (show _ = Value.bool true from by simp) ?_
  refine E.WL.val (E.y_move rfl) rfl rfl rfl ?_
  refine E.WL.val (E.y_fld Tryz.underlying34 rfl Tryz.sizeOf29 rfl) rfl rfl rfl ?_
  refine E.WL.val (E.y_load rfl (E.At.ldk Tryz.isAgg29 Tryz.sizeOf29 ((hb.at0 1 rfl).sub rfl 1 3) rfl)) rfl rfl rfl ?_
  refine E.WL.val (E.y_fld Tryz.underlying34 rfl Tryz.sizeOf29 rfl) rfl rfl rfl ?_
  refine E.WL.val (E.y_load rfl (E.At.ldk Tryz.isAgg29 Tryz.sizeOf29 ((hb.at0 0 rfl).sub rfl 1 3) rfl)) rfl rfl rfl ?_
  refine E.WL.val (E.y_op2 (run_eq_three n.n0 n.n1 n.n2 n.n0 n.n1 n.n2 _) (run_eqGuard_agg _ _ _ _ _ _ _ Tryz.eqGuardType29) rfl rfl) rfl rfl rfl ?_
  refine E.WL.as 15 rfl (show _ = Value.bool true from by simp) ?_
  refine E.WL.val (E.y_pick_t rfl rfl) rfl rfl rfl ?_
  refine E.WL.val (E.y_move rfl) rfl rfl rfl ?_
  refine E.WL.val (E.y_fld Tryz.underlying34 rfl Tryz.sizeOf30 rfl) rfl rfl rfl ?_
  refine E.WL.val (E.y_load rfl (E.At.ld1 Tryz.isAgg30 (hb.at0 1 rfl) 4 rfl)) rfl rfl rfl ?_
  refine E.WL.val (E.y_fld Tryz.underlying34 rfl Tryz.sizeOf30 rfl) rfl rfl rfl ?_
  refine E.WL.val (E.y_load rfl (E.At.ld1 Tryz.isAgg30 (hb.at0 0 rfl) 4 rfl)) rfl rfl rfl ?_
  refine E.WL.call (samePairs_calls (hl.ext RPair.goes hb.below) (hl'.ext RPair.goes hb.below)) Tryz.call64 rfl rfl rfl ?_
  rintro _ w5 ⟨rfl, hX⟩
  replace hb := hb.ext hX
  clear hX
  refine E.WL.val (E.y_pick_t rfl rfl) rfl rfl rfl ?_
  refine E.WL.val (E.y_move rfl) rfl rfl rfl ?_
  refine E.WL.val (E.y_fld Tryz.underlying34 rfl Tryz.sizeOf30 rfl) rfl rfl rfl ?_
  refine E.WL.val (E.y_load rfl (E.At.ld1 Tryz.isAgg30 (hb.at0 1 rfl) 5 rfl)) rfl rfl rfl ?_
  refine E.WL.val (E.y_fld Tryz.underlying34 rfl Tryz.sizeOf30 rfl) rfl rfl rfl ?_
  refine E.WL.val (E.y_load rfl (E.At.ld1 Tryz.isAgg30 (hb.at0 0 rfl) 5 rfl)) rfl rfl rfl ?_
  refine E.WL.call (samePairs_calls (ht.ext RPair.goes hb.below) (ht'.ext RPair.goes hb.below)) Tryz.call64 rfl rfl rfl ?_
  rintro _ w6 ⟨rfl, hX⟩
  replace hb := hb.ext hX
  clear hX
  refine E.WL.val (E.y_pick_t rfl rfl) rfl rfl rfl ?_
  refine E.WL.val (E.y_move rfl) rfl rfl rfl ?_
  refine E.WL.val (E.y_fld Tryz.underlying34 rfl Tryz.sizeOf9 rfl) rfl rfl rfl ?_
  refine E.WL.val (E.y_load rfl (E.At.ld1 Tryz.isAgg9 (hb.at0 1 rfl) 6 rfl)) rfl rfl rfl ?_
  refine E.WL.val (E.y_fld Tryz.underlying34 rfl Tryz.sizeOf9 rfl) rfl rfl rfl ?_
  refine E.WL.val (E.y_load rfl (E.At.ld1 Tryz.isAgg9 (hb.at0 0 rfl) 6 rfl)) rfl rfl rfl ?_
  refine E.WL.val (E.y_seql rfl rfl) rfl rfl rfl ?_
  refine E.WL.as 36 rfl (show _ = Value.bool true from by simp) ?_
  refine E.WL.val (E.y_pick_t rfl rfl) rfl rfl rfl ?_
  refine E.WL.val (E.y_move rfl) rfl rfl rfl ?_
  refine E.WL.val (E.y_fld Tryz.underlying34 rfl Tryz.sizeOf9 rfl) rfl rfl rfl ?_
  refine E.WL.val (E.y_load rfl (E.At.ld1 Tryz.isAgg9 (hb.at0 1 rfl) 7 rfl)) rfl rfl rfl ?_
  refine E.WL.val (E.y_fld Tryz.underlying34 rfl Tryz.sizeOf9 rfl) rfl rfl rfl ?_
  refine E.WL.val (E.y_load rfl (E.At.ld1 Tryz.isAgg9 (hb.at0 0 rfl) 7 rfl)) rfl rfl rfl ?_
  refine E.WL.val (E.y_seql rfl rfl) rfl rfl rfl ?_
  refine E.WL.as 43 rfl (show _ = Value.bool true from by simp) ?_
  refine E.WL.val (E.y_pick_t rfl rfl) rfl rfl rfl ?_
  refine E.WL.val (E.y_move rfl) rfl rfl rfl ?_
  refine E.WL.val (E.y_fld Tryz.underlying34 rfl Tryz.sizeOf3 rfl) rfl rfl rfl ?_
  refine E.WL.val (E.y_load rfl (E.At.ld1 Tryz.isAgg3 (hb.at0 1 rfl) 8 rfl)) rfl rfl rfl ?_
  refine E.WL.val (E.y_fld Tryz.underlying34 rfl Tryz.sizeOf3 rfl) rfl rfl rfl ?_
  refine E.WL.val (E.y_load rfl (E.At.ld1 Tryz.isAgg3 (hb.at0 0 rfl) 8 rfl)) rfl rfl rfl ?_
  refine E.WL.val (E.y_eql rfl rfl) rfl rfl rfl ?_
  refine E.WL.as 50 rfl (show _ = Value.bool true from by simp) ?_
  refine E.WL.val (E.y_pick_t rfl rfl) rfl rfl rfl ?_
  refine E.WL.val (E.y_assign rfl) rfl rfl rfl ?_
  refine E.WL.done ?_
  refine E.KQ.then_n ?_
  refine E.W.ret ?_
  refine E.KQ.ret1 Tryz.results24 rfl ?_
  exact ⟨_, rfl, rfl, hb.below⟩

set_option maxHeartbeats 2000000 in
theorem same_calls {F G : FP} {w : World} {c1 c2 : List Value} {b : BookD} (h1 : RBook F w c1 b) (h2 : RBook G w c2 b) :
    Calls Tryz.prog 8 #[(.agg c1.toArray), (.agg c2.toArray)] w (Ret fun u w' => u = .bool true ∧ Ext w w') := by
  obtain ⟨vn, vt, vb, rfl, hn1, ht1, hbi1⟩ := h1
  obtain ⟨Ab1, cb1, rfl, _, _, hgb1⟩ := hbi1.open_
  obtain ⟨At1, ct1, rfl, _, hbt1, hgt1⟩ := ht1.open_
  obtain ⟨An1, cn1, rfl, _, hbn1, hgn1⟩ := hn1.open_
  obtain ⟨vn, vt, vb, rfl, hn2, ht2, hbi2⟩ := h2
  obtain ⟨Ab2, cb2, rfl, _, _, hgb2⟩ := hbi2.open_
  obtain ⟨At2, ct2, rfl, _, hbt2, hgt2⟩ := ht2.open_
  obtain ⟨An2, cn2, rfl, _, hbn2, hgn2⟩ := hn2.open_
  have hb := E.Bx.start w (base := w.heap.size) (Nat.le_refl _)
  refine E.enter Tryz.func8 rfl Tryz.ntmps8 [(.agg #[.slice An1 b.nodes.length cn1, .slice At1 b.tasks.length ct1, .slice Ab1 b.binds.length cb1, .int .u64 b.fence]), (.agg #[.slice An2 b.nodes.length cn2, .slice At2 b.tasks.length ct2, .slice Ab2 b.binds.length cb2, .int .u64 b.fence])] rfl ?_
  refine E.W.seq ?_
  refine E.W.region ?_
  refine E.WL.box hb rfl rfl rfl rfl ?_
  clear hb; intro B2 w2 hb _ _
  refine E.WL.box hb rfl rfl rfl rfl ?_
  clear hb; intro B3 w4 hb _ _
  refine E.WL.val (E.y_assign rfl) rfl rfl rfl ?_
  refine E.WL.done ?_
  refine E.KQ.then_n ?_
  refine E.W.seq ?_
  refine E.W.seq ?_
  refine E.W.region ?_
  refine E.WL.val (E.y_fld Tryz.underlying27 rfl Tryz.sizeOf22 rfl) rfl rfl rfl ?_
  refine E.WL.val (E.y_load rfl (E.At.ld1 Tryz.isAgg22 (hb.at0 1 rfl) 0 rfl)) rfl rfl rfl ?_
  refine E.WL.val (E.y_lenS Tryz.underlying22 rfl) rfl rfl rfl ?_
  refine E.WL.val (E.y_fld Tryz.underlying27 rfl Tryz.sizeOf22 rfl) rfl rfl rfl ?_
  refine E.WL.val (E.y_load rfl (E.At.ld1 Tryz.isAgg22 (hb.at0 0 rfl) 0 rfl)) rfl rfl rfl ?_
  refine E.WL.val (E.y_lenS Tryz.underlying22 rfl) rfl rfl rfl ?_
  refine E.WL.val (E.y_neq rfl rfl) rfl rfl rfl ?_
  refine E.WL.as 14 rfl (show _ = Value.bool false from by simp) ?_
  refine E.WL.val (E.y_move rfl) rfl rfl rfl ?_
  refine E.WL.val (E.y_fld Tryz.underlying27 rfl Tryz.sizeOf23 rfl) rfl rfl rfl ?_
  refine E.WL.val (E.y_load rfl (E.At.ld1 Tryz.isAgg23 (hb.at0 1 rfl) 1 rfl)) rfl rfl rfl ?_
  refine E.WL.val (E.y_lenS Tryz.underlying23 rfl) rfl rfl rfl ?_
  refine E.WL.val (E.y_fld Tryz.underlying27 rfl Tryz.sizeOf23 rfl) rfl rfl rfl ?_
  refine E.WL.val (E.y_load rfl (E.At.ld1 Tryz.isAgg23 (hb.at0 0 rfl) 1 rfl)) rfl rfl rfl ?_
  refine E.WL.val (E.y_lenS Tryz.underlying23 rfl) rfl rfl rfl ?_
  refine E.WL.val (E.y_neq rfl rfl) rfl rfl rfl ?_
  refine E.WL.as 22 rfl (show _ = Value.bool false from by simp) ?_
  refine E.WL.val (E.y_pick_f rfl rfl) rfl rfl rfl ?_
  refine E.WL.val (E.y_move rfl) rfl rfl rfl ?_
  refine E.WL.val (E.y_fld Tryz.underlying27 rfl Tryz.sizeOf24 rfl) rfl rfl rfl ?_
  refine E.WL.val (E.y_load rfl (E.At.ld1 Tryz.isAgg24 (hb.at0 1 rfl) 2 rfl)) rfl rfl rfl ?_
  refine E.WL.val (E.y_lenS Tryz.underlying24 rfl) rfl rfl rfl ?_
  refine E.WL.val (E.y_fld Tryz.underlying27 rfl Tryz.sizeOf24 rfl) rfl rfl rfl ?_
  refine E.WL.val (E.y_load rfl (E.At.ld1 Tryz.isAgg24 (hb.at0 0 rfl) 2 rfl)) rfl rfl rfl ?_
  refine E.WL.val (E.y_lenS Tryz.underlying24 rfl) rfl rfl rfl ?_
  refine E.WL.val (E.y_neq rfl rfl) rfl rfl rfl ?_
  refine E.WL.as 31 rfl (show _ = Value.bool false from by simp) ?_
  refine E.WL.val (E.y_pick_f rfl rfl) rfl rfl rfl ?_
  refine E.WL.val (E.y_move rfl) rfl rfl rfl ?_
  refine E.WL.val (E.y_fld Tryz.underlying27 rfl Tryz.sizeOf25 rfl) rfl rfl rfl ?_
  refine E.WL.val (E.y_load rfl (E.At.ld1 Tryz.isAgg25 (hb.at0 1 rfl) 3 rfl)) rfl rfl rfl ?_
  refine E.WL.val (E.y_fld Tryz.underlying27 rfl Tryz.sizeOf25 rfl) rfl rfl rfl ?_
  refine E.WL.val (E.y_load rfl (E.At.ld1 Tryz.isAgg25 (hb.at0 0 rfl) 3 rfl)) rfl rfl rfl ?_
  refine E.WL.val (E.y_neq rfl rfl) rfl rfl rfl ?_
  refine E.WL.as 38 rfl (show _ = Value.bool false from by simp) ?_
  refine E.WL.val (E.y_pick_f rfl rfl) rfl rfl rfl ?_
  refine E.WL.done ?_
  refine E.KQ.then_n ?_
  refine E.W.cond_f rfl ?_
  refine E.W.skip ?_
  refine E.KQ.then_n ?_
  refine E.W.seq ?_
  refine E.W.seq ?_
  refine E.W.region ?_
  refine E.WL.val (E.y_fld Tryz.underlying27 rfl Tryz.sizeOf22 rfl) rfl rfl rfl ?_
  refine E.WL.val (E.y_load rfl (E.At.ld1 Tryz.isAgg22 (hb.at0 1 rfl) 0 rfl)) rfl rfl rfl ?_
  refine E.WL.val (E.y_lenS Tryz.underlying22 rfl) rfl rfl rfl ?_
  refine E.WL.val (E.y_move rfl) rfl rfl rfl ?_
  refine E.WL.done ?_
  refine E.KQ.then_n ?_
  refine E.W.block ?_
  refine E.W.loop (ι := Nat) (fun k => [(2, .pointer (some ⟨B2, 0, none⟩)), (3, .pointer (some ⟨B3, 0, none⟩)), (42, .int .i64 b.nodes.length), (43, .int .i64 (k : Nat))]) (fun k w' => Bx w.heap.size w w' [(B3, [.slice An2 b.nodes.length cn2, .slice At2 b.tasks.length ct2, .slice Ab2 b.binds.length cb2, .int .u64 b.fence], 27), (B2, [.slice An1 b.nodes.length cn1, .slice At1 b.tasks.length ct1, .slice Ab1 b.binds.length cb1, .int .u64 b.fence], 27)] ∧ k ≤ b.nodes.length) (fun k => b.nodes.length - k) (0) (by exact (.cons rfl (.cons rfl (.cons rfl (.cons rfl .nil))))) ⟨hb, Nat.zero_le _⟩ (fun k w5 hJ => ?_)
  clear hb
  obtain ⟨hb, hk⟩ := hJ
  refine E.W.seq ?_
  refine E.W.region ?_
  refine E.WL.val (E.y_lss rfl rfl) rfl rfl rfl ?_
  refine E.WL.done ?_
  refine E.KQ.then_n ?_
  refine E.W.seq ?_
  refine E.W.condT 44 rfl (fun hc44 => ?_) (fun hc44 => ?_)
  · replace hc44 := of_decide_eq_true hc44
    refine E.W.skip ?_
    refine E.KQ.then_n ?_
    refine E.W.seq ?_
    refine E.W.block ?_
    refine E.W.seq ?_
    refine E.W.region ?_
    refine E.WL.val (E.y_move rfl) rfl rfl rfl ?_
    refine E.WL.val (E.y_assign rfl) rfl rfl rfl ?_
    refine E.WL.done ?_
    refine E.KQ.then_n ?_
    refine E.W.seq ?_
    refine E.W.regionQ rfl (by kernel_rfl) ?_
    have hkl : k < b.nodes.length := by omega
    obtain ⟨q, cs, hA, _, hl, hat, hr⟩ := hgn1 k hkl
    obtain ⟨q', cs', hA', _, hl', hat', hr'⟩ := hgn2 k hkl
    subst hA
    subst hA'
    replace hr := RNode.goes.stays hr (Stays.ext hb.below)
    replace hr' := RNode.goes.stays hr' (Stays.ext hb.below)
    replace hat := hat.ext hb.below
    replace hat' := hat'.ext hb.below
    refine E.QL.val (fun w' hw => E.y_fld Tryz.underlying27 rfl Tryz.sizeOf22 rfl) rfl rfl rfl ?_
    refine E.QL.val (fun w' hw => E.y_load rfl (E.At.ld1 Tryz.isAgg22 ((hb.ext hw).at0 1 rfl) 0 rfl)) rfl rfl rfl ?_
    refine E.QL.val (fun w' hw => E.y_move rfl) rfl rfl rfl ?_
    refine E.QL.val (fun w' hw => E.y_idxS Tryz.underlying22 Tryz.sizeOf32 rfl rfl (by omega) (by omega)) rfl rfl rfl ?_
    refine E.QL.val (fun w' hw => E.y_load rfl (E.At.ldk Tryz.isAgg32 Tryz.sizeOf32 (hat.ext hw) hl)) rfl rfl rfl ?_
    refine E.QL.val (fun w' hw => E.y_fld Tryz.underlying27 rfl Tryz.sizeOf22 rfl) rfl rfl rfl ?_
    refine E.QL.val (fun w' hw => E.y_load rfl (E.At.ld1 Tryz.isAgg22 ((hb.ext hw).at0 0 rfl) 0 rfl)) rfl rfl rfl ?_
    refine E.QL.val (fun w' hw => E.y_move rfl) rfl rfl rfl ?_
    refine E.QL.val (fun w' hw => E.y_idxS Tryz.underlying22 Tryz.sizeOf32 rfl rfl (by omega) (by omega)) rfl rfl rfl ?_
    refine E.QL.val (fun w' hw => E.y_load rfl (E.At.ldk Tryz.isAgg32 Tryz.sizeOf32 (hat'.ext hw) hl')) rfl rfl rfl ?_
    refine E.QL.call Tryz.call23 rfl (fun w' hw => E.quiet hw (sameNode_calls (RNode.goes.stays hr (Stays.ext hw)) (RNode.goes.stays hr' (Stays.ext hw)))) rfl rfl ?_
    refine E.QL.val (fun w' hw => E.y_not rfl) rfl rfl rfl ?_
    refine E.QL.end_ fun w6 hx => ?_
    replace hb := hb.ext hx
    clear hx
    refine E.KQ.then_n ?_
    refine E.W.cond_f rfl ?_
    refine E.W.skip ?_
    refine E.KQ.block_n ?_
    refine E.KQ.then_n ?_
    refine E.W.region ?_
    refine E.WL.val (E.y_add rfl rfl (Go.IntWalk.i64_in _ (by omega))) rfl rfl rfl ?_
    refine E.WL.val (E.y_move rfl) rfl rfl rfl ?_
    refine E.WL.done ?_
    exact E.KQ.next (k + 1) (by exact .cons rfl (.cons rfl (.cons rfl (.cons rfl .nil)))) ⟨hb, by omega⟩ (by show b.nodes.length - (k + 1) < b.nodes.length - k; omega)
  · replace hc44 := of_decide_eq_false hc44
    refine E.W.exit ?_
    refine E.KQ.then_e ?_
    refine E.KQ.loop_e ?_
    refine E.KQ.block_e ?_
    refine E.KQ.then_n ?_
    refine E.W.seq ?_
    refine E.W.seq ?_
    refine E.W.region ?_
    refine E.WL.val (E.y_fld Tryz.underlying27 rfl Tryz.sizeOf23 rfl) rfl rfl rfl ?_
    refine E.WL.val (E.y_load rfl (E.At.ld1 Tryz.isAgg23 (hb.at0 1 rfl) 1 rfl)) rfl rfl rfl ?_
    refine E.WL.val (E.y_lenS Tryz.underlying23 rfl) rfl rfl rfl ?_
    refine E.WL.val (E.y_move rfl) rfl rfl rfl ?_
    refine E.WL.done ?_
    refine E.KQ.then_n ?_
    refine E.W.block ?_
    refine E.W.loop (ι := Nat) (fun k => [(2, .pointer (some ⟨B2, 0, none⟩)), (3, .pointer (some ⟨B3, 0, none⟩)), (61, .int .i64 b.tasks.length), (62, .int .i64 (k : Nat))]) (fun k w' => Bx w.heap.size w w' [(B3, [.slice An2 b.nodes.length cn2, .slice At2 b.tasks.length ct2, .slice Ab2 b.binds.length cb2, .int .u64 b.fence], 27), (B2, [.slice An1 b.nodes.length cn1, .slice At1 b.tasks.length ct1, .slice Ab1 b.binds.length cb1, .int .u64 b.fence], 27)] ∧ k ≤ b.tasks.length) (fun k => b.tasks.length - k) (0) (by exact (.cons rfl (.cons rfl (.cons rfl (.cons rfl .nil))))) ⟨hb, Nat.zero_le _⟩ (fun k w7 hJ => ?_)
    clear hb
    obtain ⟨hb, hk⟩ := hJ
    refine E.W.seq ?_
    refine E.W.region ?_
    refine E.WL.val (E.y_lss rfl rfl) rfl rfl rfl ?_
    refine E.WL.done ?_
    refine E.KQ.then_n ?_
    refine E.W.seq ?_
    refine E.W.condT 63 rfl (fun hc63 => ?_) (fun hc63 => ?_)
    · replace hc63 := of_decide_eq_true hc63
      refine E.W.skip ?_
      refine E.KQ.then_n ?_
      refine E.W.seq ?_
      refine E.W.block ?_
      refine E.W.seq ?_
      refine E.W.region ?_
      refine E.WL.val (E.y_move rfl) rfl rfl rfl ?_
      refine E.WL.val (E.y_assign rfl) rfl rfl rfl ?_
      refine E.WL.done ?_
      refine E.KQ.then_n ?_
      refine E.W.seq ?_
      refine E.W.regionQ rfl (by kernel_rfl) ?_
      have hkl : k < b.tasks.length := by omega
      obtain ⟨q, cs, hA, _, hl, hat, hr⟩ := hgt1 k hkl
      obtain ⟨q', cs', hA', _, hl', hat', hr'⟩ := hgt2 k hkl
      subst hA
      subst hA'
      replace hr := RTask.goes.stays hr (Stays.ext hb.below)
      replace hr' := RTask.goes.stays hr' (Stays.ext hb.below)
      replace hat := hat.ext hb.below
      replace hat' := hat'.ext hb.below
      refine E.QL.val (fun w' hw => E.y_fld Tryz.underlying27 rfl Tryz.sizeOf23 rfl) rfl rfl rfl ?_
      refine E.QL.val (fun w' hw => E.y_load rfl (E.At.ld1 Tryz.isAgg23 ((hb.ext hw).at0 1 rfl) 1 rfl)) rfl rfl rfl ?_
      refine E.QL.val (fun w' hw => E.y_move rfl) rfl rfl rfl ?_
      refine E.QL.val (fun w' hw => E.y_idxS Tryz.underlying23 Tryz.sizeOf34 rfl rfl (by omega) (by omega)) rfl rfl rfl ?_
      refine E.QL.val (fun w' hw => E.y_load rfl (E.At.ldk Tryz.isAgg34 Tryz.sizeOf34 (hat.ext hw) hl)) rfl rfl rfl ?_
      refine E.QL.val (fun w' hw => E.y_fld Tryz.underlying27 rfl Tryz.sizeOf23 rfl) rfl rfl rfl ?_
      refine E.QL.val (fun w' hw => E.y_load rfl (E.At.ld1 Tryz.isAgg23 ((hb.ext hw).at0 0 rfl) 1 rfl)) rfl rfl rfl ?_
      refine E.QL.val (fun w' hw => E.y_move rfl) rfl rfl rfl ?_
      refine E.QL.val (fun w' hw => E.y_idxS Tryz.underlying23 Tryz.sizeOf34 rfl rfl (by omega) (by omega)) rfl rfl rfl ?_
      refine E.QL.val (fun w' hw => E.y_load rfl (E.At.ldk Tryz.isAgg34 Tryz.sizeOf34 (hat'.ext hw) hl')) rfl rfl rfl ?_
      refine E.QL.call Tryz.call24 rfl (fun w' hw => E.quiet hw (sameTask_calls (RTask.goes.stays hr (Stays.ext hw)) (RTask.goes.stays hr' (Stays.ext hw)))) rfl rfl ?_
      refine E.QL.val (fun w' hw => E.y_not rfl) rfl rfl rfl ?_
      refine E.QL.end_ fun w8 hx => ?_
      replace hb := hb.ext hx
      clear hx
      refine E.KQ.then_n ?_
      refine E.W.cond_f rfl ?_
      refine E.W.skip ?_
      refine E.KQ.block_n ?_
      refine E.KQ.then_n ?_
      refine E.W.region ?_
      refine E.WL.val (E.y_add rfl rfl (Go.IntWalk.i64_in _ (by omega))) rfl rfl rfl ?_
      refine E.WL.val (E.y_move rfl) rfl rfl rfl ?_
      refine E.WL.done ?_
      exact E.KQ.next (k + 1) (by exact .cons rfl (.cons rfl (.cons rfl (.cons rfl .nil)))) ⟨hb, by omega⟩ (by show b.tasks.length - (k + 1) < b.tasks.length - k; omega)
    · replace hc63 := of_decide_eq_false hc63
      refine E.W.exit ?_
      refine E.KQ.then_e ?_
      refine E.KQ.loop_e ?_
      refine E.KQ.block_e ?_
      refine E.KQ.then_n ?_
      refine E.W.seq ?_
      refine E.W.seq ?_
      refine E.W.region ?_
      refine E.WL.val (E.y_fld Tryz.underlying27 rfl Tryz.sizeOf24 rfl) rfl rfl rfl ?_
      refine E.WL.val (E.y_load rfl (E.At.ld1 Tryz.isAgg24 (hb.at0 1 rfl) 2 rfl)) rfl rfl rfl ?_
      refine E.WL.val (E.y_lenS Tryz.underlying24 rfl) rfl rfl rfl ?_
      refine E.WL.val (E.y_move rfl) rfl rfl rfl ?_
      refine E.WL.done ?_
      refine E.KQ.then_n ?_
      refine E.W.block ?_
      refine E.W.loop (ι := Nat) (fun k => [(2, .pointer (some ⟨B2, 0, none⟩)), (3, .pointer (some ⟨B3, 0, none⟩)), (80, .int .i64 b.binds.length), (81, .int .i64 (k : Nat))]) (fun k w' => Bx w.heap.size w w' [(B3, [.slice An2 b.nodes.length cn2, .slice At2 b.tasks.length ct2, .slice Ab2 b.binds.length cb2, .int .u64 b.fence], 27), (B2, [.slice An1 b.nodes.length cn1, .slice At1 b.tasks.length ct1, .slice Ab1 b.binds.length cb1, .int .u64 b.fence], 27)] ∧ k ≤ b.binds.length) (fun k => b.binds.length - k) (0) (by exact (.cons rfl (.cons rfl (.cons rfl (.cons rfl .nil))))) ⟨hb, Nat.zero_le _⟩ (fun k w9 hJ => ?_)
      clear hb
      obtain ⟨hb, hk⟩ := hJ
      refine E.W.seq ?_
      refine E.W.region ?_
      refine E.WL.val (E.y_lss rfl rfl) rfl rfl rfl ?_
      refine E.WL.done ?_
      refine E.KQ.then_n ?_
      refine E.W.seq ?_
      refine E.W.condT 82 rfl (fun hc82 => ?_) (fun hc82 => ?_)
      · replace hc82 := of_decide_eq_true hc82
        refine E.W.skip ?_
        refine E.KQ.then_n ?_
        refine E.W.seq ?_
        refine E.W.block ?_
        refine E.W.seq ?_
        refine E.W.region ?_
        refine E.WL.val (E.y_move rfl) rfl rfl rfl ?_
        refine E.WL.val (E.y_assign rfl) rfl rfl rfl ?_
        refine E.WL.done ?_
        refine E.KQ.then_n ?_
        refine E.W.seq ?_
        refine E.W.regionQ rfl (by kernel_rfl) ?_
        have hkl : k < b.binds.length := by omega
        obtain ⟨q, cs, hA, _, hl, hat, hr⟩ := hgb1 k hkl
        obtain ⟨q', cs', hA', _, hl', hat', hr'⟩ := hgb2 k hkl
        subst hA
        subst hA'
        unfold RBind at hr hr'
        subst hr
        subst hr'
        replace hat := hat.ext hb.below
        replace hat' := hat'.ext hb.below
        refine E.QL.val (fun w' hw => E.y_fld Tryz.underlying27 rfl Tryz.sizeOf24 rfl) rfl rfl rfl ?_
        refine E.QL.val (fun w' hw => E.y_load rfl (E.At.ld1 Tryz.isAgg24 ((hb.ext hw).at0 1 rfl) 2 rfl)) rfl rfl rfl ?_
        refine E.QL.val (fun w' hw => E.y_move rfl) rfl rfl rfl ?_
        refine E.QL.val (fun w' hw => E.y_idxS Tryz.underlying24 Tryz.sizeOf47 rfl rfl (by omega) (by omega)) rfl rfl rfl ?_
        refine E.QL.val (fun w' hw => E.y_load rfl (E.At.ldk Tryz.isAgg47 Tryz.sizeOf47 (hat.ext hw) hl)) rfl rfl rfl ?_
        refine E.QL.val (fun w' hw => E.y_fld Tryz.underlying27 rfl Tryz.sizeOf24 rfl) rfl rfl rfl ?_
        refine E.QL.val (fun w' hw => E.y_load rfl (E.At.ld1 Tryz.isAgg24 ((hb.ext hw).at0 0 rfl) 2 rfl)) rfl rfl rfl ?_
        refine E.QL.val (fun w' hw => E.y_move rfl) rfl rfl rfl ?_
        refine E.QL.val (fun w' hw => E.y_idxS Tryz.underlying24 Tryz.sizeOf47 rfl rfl (by omega) (by omega)) rfl rfl rfl ?_
        refine E.QL.val (fun w' hw => E.y_load rfl (E.At.ldk Tryz.isAgg47 Tryz.sizeOf47 (hat'.ext hw) hl')) rfl rfl rfl ?_
        refine E.QL.val (fun w' hw => E.y_op2 (run_neq_bind _ _ _) (run_eqGuard_agg _ _ _ _ _ _ _ Tryz.eqGuardType47) rfl rfl) rfl rfl rfl ?_
        refine E.QL.as 94 rfl (show _ = Value.bool false from by simp) ?_
        refine E.QL.end_ fun w10 hx => ?_
        replace hb := hb.ext hx
        clear hx
        refine E.KQ.then_n ?_
        refine E.W.cond_f rfl ?_
        refine E.W.skip ?_
        refine E.KQ.block_n ?_
        refine E.KQ.then_n ?_
        refine E.W.region ?_
        refine E.WL.val (E.y_add rfl rfl (Go.IntWalk.i64_in _ (by omega))) rfl rfl rfl ?_
        refine E.WL.val (E.y_move rfl) rfl rfl rfl ?_
        refine E.WL.done ?_
        exact E.KQ.next (k + 1) (by exact .cons rfl (.cons rfl (.cons rfl (.cons rfl .nil)))) ⟨hb, by omega⟩ (by show b.binds.length - (k + 1) < b.binds.length - k; omega)
      · replace hc82 := of_decide_eq_false hc82
        refine E.W.exit ?_
        refine E.KQ.then_e ?_
        refine E.KQ.loop_e ?_
        refine E.KQ.block_e ?_
        refine E.KQ.then_n ?_
        refine E.W.seq ?_
        refine E.W.region ?_
        refine E.WL.val (E.y_assign rfl) rfl rfl rfl ?_
        refine E.WL.done ?_
        refine E.KQ.then_n ?_
        refine E.W.ret ?_
        refine E.KQ.ret1 Tryz.results8 rfl ?_
        exact ⟨_, rfl, rfl, hb.below⟩
end Go.Proofs.YtmnnbnajnfdncaaGreatDoor
