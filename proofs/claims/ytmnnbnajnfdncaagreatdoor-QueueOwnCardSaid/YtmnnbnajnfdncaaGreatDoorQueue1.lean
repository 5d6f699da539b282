/- Walks: queue, first part: closures, what is used of a node, whether a task can be. -/
import Derived.Test.YtmnnbnajnfdncaaGreatDoorBook3
import Derived.Test.YtmnnbnajnfdncaaGreatDoorP6
set_option linter.unusedVariables false
set_option linter.unusedSimpArgs false
namespace Go.Proofs.YtmnnbnajnfdncaaGreatDoor
open Go.RowKit E
def usedP (b : BookD) (node : ByteArray) : Sum3 × Int := if checkB b = false then (Sum3.zero, 10) else if hasB (nodeNames b) node = false then (Sum3.zero, 6) else sumP (thereB b node)
def canFull (b : BookD) (task node : ByteArray) : Int := if checkB b = false then 10 else canP b task node
set_option maxHeartbeats 400000 in
theorem waits_calls {w : World} {C : Nat} {a : TaskD} {va vb : Value} (hC : At w ⟨C, 0, none⟩ [.string a.name, .int .i64 a.n0, .int .i64 a.n1, .int .i64 a.n2, va, vb, .string a.group, .string a.apart, .int .i64 a.rank]) {G : FP} {cx : List Value} {x : BindD} (hx : RBind G w cx x) :
    Calls Tryz.prog 27 #[(.agg cx.toArray), (.pointer (some ⟨C, 0, none⟩))] w (Ret fun r w' => r = .bool (decide (x.task = a.name)) ∧ Ext w w') := by
  unfold RBind at hx
  subst hx
  have hb := E.Bx.start w (base := w.heap.size) (Nat.le_refl _)
  refine E.enter Tryz.func27 rfl Tryz.ntmps27 [(.agg #[.string x.task, .string x.node]), (.pointer (some ⟨C, 0, none⟩))] rfl ?_
  refine E.W.seq ?_
  refine E.W.region ?_
  refine E.WL.box hb rfl rfl rfl rfl ?_
  clear hb; intro B1 w2 hb _ _
  refine E.WL.val (E.y_assign rfl) rfl rfl rfl ?_
  refine E.WL.done ?_
  refine E.KQ.then_n ?_
  refine E.W.seq ?_
  refine E.W.region ?_
  refine E.WL.val (E.y_fld Tryz.underlying47 rfl Tryz.sizeOf9 rfl) rfl rfl rfl ?_
  refine E.WL.val (E.y_load rfl (E.At.ld1 Tryz.isAgg9 (hb.at0 0 rfl) 0 rfl)) rfl rfl rfl ?_
  refine E.WL.val (E.y_fld Tryz.underlying34 rfl Tryz.sizeOf9 rfl) rfl rfl rfl ?_
  refine E.WL.val (E.y_load rfl (E.At.ld1 Tryz.isAgg9 (hC.ext hb.below) 0 rfl)) rfl rfl rfl ?_
  refine E.WL.val (E.y_seql rfl rfl) rfl rfl rfl ?_
  refine E.WL.val (E.y_assign rfl) rfl rfl rfl ?_
  refine E.WL.done ?_
  refine E.KQ.then_n ?_
  refine E.W.ret ?_
  refine E.KQ.ret1 Tryz.results27 rfl ?_
  exact ⟨_, rfl, rfl, hb.below⟩

set_option maxHeartbeats 400000 in
theorem freeTask_calls {w : World} {C : Nat} {s : ByteArray} (hC : At w ⟨C, 0, none⟩ [.string s]) {G : FP} {cx : List Value} {x : TaskD} (hx : RTask G w cx x) :
    Calls Tryz.prog 66 #[(.agg cx.toArray), (.pointer (some ⟨C, 0, none⟩))] w (Ret fun r w' => r = .bool (decide (x.name = s)) ∧ Ext w w') := by
  obtain ⟨vl, vt, rfl, _, _⟩ := hx
  have hb := E.Bx.start w (base := w.heap.size) (Nat.le_refl _)
  refine E.enter Tryz.func66 rfl Tryz.ntmps66 [(.agg #[.string x.name, .int .i64 x.n0, .int .i64 x.n1, .int .i64 x.n2, vl, vt, .string x.group, .string x.apart, .int .i64 x.rank]), (.pointer (some ⟨C, 0, none⟩))] rfl ?_
  refine E.W.seq ?_
  refine E.W.region ?_
  refine E.WL.box hb rfl rfl rfl rfl ?_
  clear hb; intro B1 w2 hb _ _
  refine E.WL.val (E.y_assign rfl) rfl rfl rfl ?_
  refine E.WL.done ?_
  refine E.KQ.then_n ?_
  refine E.W.seq ?_
  refine E.W.region ?_
  refine E.WL.val (E.y_fld Tryz.underlying34 rfl Tryz.sizeOf9 rfl) rfl rfl rfl ?_
  refine E.WL.val (E.y_load rfl (E.At.ld1 Tryz.isAgg9 (hb.at0 0 rfl) 0 rfl)) rfl rfl rfl ?_
  refine E.WL.val (E.y_load rfl (E.At.ld0 Tryz.isAgg9 (hC.ext hb.below) rfl)) rfl rfl rfl ?_
  refine E.WL.val (E.y_seql rfl rfl) rfl rfl rfl ?_
  refine E.WL.val (E.y_assign rfl) rfl rfl rfl ?_
  refine E.WL.done ?_
  refine E.KQ.then_n ?_
  refine E.W.ret ?_
  refine E.KQ.ret1 Tryz.results66 rfl ?_
  exact ⟨_, rfl, rfl, hb.below⟩

set_option maxHeartbeats 400000 in
theorem freeBind_calls {w : World} {C : Nat} {s : ByteArray} (hC : At w ⟨C, 0, none⟩ [.string s]) {G : FP} {cx : List Value} {x : BindD} (hx : RBind G w cx x) :
    Calls Tryz.prog 67 #[(.agg cx.toArray), (.pointer (some ⟨C, 0, none⟩))] w (Ret fun r w' => r = .bool (decide (x.task = s)) ∧ Ext w w') := by
  unfold RBind at hx
  subst hx
  have hb := E.Bx.start w (base := w.heap.size) (Nat.le_refl _)
  refine E.enter Tryz.func67 rfl Tryz.ntmps67 [(.agg #[.string x.task, .string x.node]), (.pointer (some ⟨C, 0, none⟩))] rfl ?_
  refine E.W.seq ?_
  refine E.W.region ?_
  refine E.WL.box hb rfl rfl rfl rfl ?_
  clear hb; intro B1 w2 hb _ _
  refine E.WL.val (E.y_assign rfl) rfl rfl rfl ?_
  refine E.WL.done ?_
  refine E.KQ.then_n ?_
  refine E.W.seq ?_
  refine E.W.region ?_
  refine E.WL.val (E.y_fld Tryz.underlying47 rfl Tryz.sizeOf9 rfl) rfl rfl rfl ?_
  refine E.WL.val (E.y_load rfl (E.At.ld1 Tryz.isAgg9 (hb.at0 0 rfl) 0 rfl)) rfl rfl rfl ?_
  refine E.WL.val (E.y_load rfl (E.At.ld0 Tryz.isAgg9 (hC.ext hb.below) rfl)) rfl rfl rfl ?_
  refine E.WL.val (E.y_seql rfl rfl) rfl rfl rfl ?_
  refine E.WL.val (E.y_assign rfl) rfl rfl rfl ?_
  refine E.WL.done ?_
  refine E.KQ.then_n ?_
  refine E.W.ret ?_
  refine E.KQ.ret1 Tryz.results67 rfl ?_
  exact ⟨_, rfl, rfl, hb.below⟩

set_option maxHeartbeats 400000 in
theorem canFull_calls {F : FP} {w : World} {cs : List Value} {b : BookD} (h : RBook F w cs b) (task node : ByteArray) :
    Calls Tryz.prog 68 #[(.agg cs.toArray), (.string task), (.string node)] w (Ret fun u w' => u = .int .i64 (canFull b task node) ∧ Ext w w') := by
  obtain ⟨vn, vt, vb, rfl, hn, ht, hbi⟩ := id h
  obtain ⟨Ab, cb, rfl, hcb, hbyb, hgb⟩ := hbi.open_
  obtain ⟨At', ct, rfl, hct, hbyt, hgt⟩ := ht.open_
  obtain ⟨An, cn, rfl, hcn, hbyn, hgn⟩ := hn.open_
  have hb := E.Bx.start w (base := w.heap.size) (Nat.le_refl _)
  refine E.enter Tryz.func68 rfl Tryz.ntmps68 [(.agg #[.slice An b.nodes.length cn, .slice At' b.tasks.length ct, .slice Ab b.binds.length cb, .int .u64 b.fence]), (.string task), (.string node)] rfl ?_
  refine E.W.seq ?_
  refine E.W.region ?_
  refine E.WL.box hb rfl rfl rfl rfl ?_
  clear hb; intro B1 w2 hb _ _
  refine E.WL.val (E.y_assign rfl) rfl rfl rfl ?_
  refine E.WL.done ?_
  refine E.KQ.then_n ?_
  refine E.W.seq ?_
  refine E.W.seq ?_
  refine E.W.region ?_
  refine E.WL.val (E.y_load rfl (E.At.ldk Tryz.isAgg27 Tryz.sizeOf27 (hb.at0 0 rfl) rfl)) rfl rfl rfl ?_
  refine E.WL.call (check_calls (RBook.goes.stays h (Stays.ext hb.below))) Tryz.call15 rfl rfl rfl ?_
  rintro _ w3 ⟨rfl, hX⟩
  replace hb := hb.ext hX
  clear hX
  refine E.WL.val (E.y_assign rfl) rfl rfl rfl ?_
  refine E.WL.done ?_
  refine E.KQ.then_n ?_
  refine E.W.seq ?_
  refine E.W.region ?_
  refine E.WL.val (E.y_move rfl) rfl rfl rfl ?_
  refine E.WL.val (E.y_neq rfl rfl) rfl rfl rfl ?_
  refine E.WL.done ?_
  refine E.KQ.then_n ?_
  refine E.W.condT 11 rfl (fun h1 => ?_) (fun h1 => ?_)
  · replace h1 : checkB b = false := by cases hc : checkB b with | true => rw [hc] at h1; simp at h1 | false => rfl
    refine E.W.seq ?_
    refine E.W.region ?_
    refine E.WL.val (E.y_move rfl) rfl rfl rfl ?_
    refine E.WL.val (E.y_assign rfl) rfl rfl rfl ?_
    refine E.WL.done ?_
    refine E.KQ.then_n ?_
    refine E.W.ret ?_
    refine E.KQ.then_r ?_
    refine E.KQ.ret1 Tryz.results68 rfl ?_
    exact ⟨_, rfl, by unfold canFull; rw [if_pos h1, h1]; rfl, hb.below⟩
  · replace h1 : checkB b = true := by cases hc : checkB b with | true => rfl | false => rw [hc] at h1; simp at h1
    have hbl := (check_le h1).2.2
    refine E.W.skip ?_
    refine E.KQ.then_n ?_
    refine E.W.seq ?_
    refine E.W.region ?_
    refine E.WL.val (E.y_load rfl (E.At.ldk Tryz.isAgg27 Tryz.sizeOf27 (hb.at0 0 rfl) rfl)) rfl rfl rfl ?_
    refine E.WL.val (E.y_build (v := .agg #[.slice An b.nodes.length cn, .slice At' b.tasks.length ct, .slice Ab b.binds.length cb, .int .u64 b.fence]) rfl (by kernel_rfl)) rfl rfl rfl ?_
    refine E.WL.box hb rfl rfl rfl rfl ?_
    clear hb; intro B4 w5 hb _ _
    refine E.WL.val (E.y_move rfl) rfl rfl rfl ?_
    refine E.WL.val (E.y_move rfl) rfl rfl rfl ?_
    refine E.WL.call (can_calls (hb.at0 0 rfl) (RBook.goes.stays h (Stays.ext hb.below)) hbl task node) Tryz.call59 rfl rfl rfl ?_
    rintro _ w6 ⟨rfl, hX⟩
    replace hb := hb.ext hX
    clear hX
    refine E.WL.val (E.y_assign rfl) rfl rfl rfl ?_
    refine E.WL.done ?_
    refine E.KQ.then_n ?_
    refine E.W.ret ?_
    refine E.KQ.ret1 Tryz.results68 rfl ?_
    exact ⟨_, rfl, by unfold canFull; rw [if_neg (by rw [h1]; decide)], hb.below⟩

set_option maxHeartbeats 400000 in
theorem used_calls {F : FP} {w : World} {cs : List Value} {b : BookD} (h : RBook F w cs b) (node : ByteArray) :
    Calls Tryz.prog 30 #[(.agg cs.toArray), (.string node)] w (Ret fun u w' => u = .tuple #[.agg (three (usedP b node).1).toArray, .int .i64 (usedP b node).2] ∧ Ext w w') := by
  obtain ⟨vn, vt, vb, rfl, hn, ht, hbi⟩ := id h
  obtain ⟨Ab, cb, rfl, hcb, hbyb, hgb⟩ := hbi.open_
  obtain ⟨At', ct, rfl, hct, hbyt, hgt⟩ := ht.open_
  obtain ⟨An, cn, rfl, hcn, hbyn, hgn⟩ := hn.open_
  have hb := E.Bx.start w (base := w.heap.size) (Nat.le_refl _)
  refine E.enter Tryz.func30 rfl Tryz.ntmps30 [(.agg #[.slice An b.nodes.length cn, .slice At' b.tasks.length ct, .slice Ab b.binds.length cb, .int .u64 b.fence]), (.string node)] rfl ?_
  refine E.W.seq ?_
  refine E.W.region ?_
  refine E.WL.box hb rfl rfl rfl rfl ?_
  clear hb; intro B1 w2 hb _ _
  refine E.WL.alloc (cs := three Sum3.zero) hb Tryz.zeroValue29 rfl rfl rfl ?_
  clear hb; intro B3 w4 hb _ _
  refine E.WL.val (E.y_assign rfl) rfl rfl rfl ?_
  refine E.WL.done ?_
  refine E.KQ.then_n ?_
  refine E.W.seq ?_
  refine E.W.seq ?_
  refine E.W.region ?_
  refine E.WL.val (E.y_load rfl (E.At.ldk Tryz.isAgg27 Tryz.sizeOf27 (hb.at0 1 rfl) rfl)) rfl rfl rfl ?_
  refine E.WL.call (check_calls (RBook.goes.stays h (Stays.ext hb.below))) Tryz.call15 rfl rfl rfl ?_
  rintro _ w5 ⟨rfl, hX⟩
  replace hb := hb.ext hX
  clear hX
  refine E.WL.val (E.y_assign rfl) rfl rfl rfl ?_
  refine E.WL.done ?_
  refine E.KQ.then_n ?_
  refine E.W.seq ?_
  refine E.W.region ?_
  refine E.WL.val (E.y_move rfl) rfl rfl rfl ?_
  refine E.WL.val (E.y_neq rfl rfl) rfl rfl rfl ?_
  refine E.WL.done ?_
  refine E.KQ.then_n ?_
  refine E.W.condT 13 rfl (fun h1 => ?_) (fun h1 => ?_)
  · replace h1 : checkB b = false := by cases hc : checkB b with | true => rw [hc] at h1; simp at h1 | false => rfl
    have hp : usedP b node = (Sum3.zero, 10) := by unfold usedP; rw [if_pos h1]
    refine E.W.seq ?_
    refine E.W.region ?_
    refine E.WL.val (E.y_build (v := .agg (three Sum3.zero).toArray) rfl (by kernel_rfl)) rfl rfl rfl ?_
    refine E.WL.val (E.y_move rfl) rfl rfl rfl ?_
    refine E.WL.storeW hb 0 rfl rfl rfl Tryz.sizeOf29 rfl rfl rfl (E.allOne rfl) rfl ?_
    clear hb; intro w6 hb _
    refine E.WL.val (E.y_assign rfl) rfl rfl rfl ?_
    refine E.WL.done ?_
    refine E.KQ.then_n ?_
    refine E.W.ret ?_
    refine E.KQ.then_r ?_
    refine E.KQ.retct Tryz.results30 rfl (E.At.ldk Tryz.isAgg29 Tryz.sizeOf29 (hb.at0 0 rfl) rfl) rfl ?_
    exact ⟨_, rfl, by rw [hp, h1]; rfl, hb.below⟩
  · replace h1 : checkB b = true := by cases hc : checkB b with | true => rfl | false => rw [hc] at h1; simp at h1
    have hbl := (check_le h1).2.2
    refine E.W.skip ?_
    refine E.KQ.then_n ?_
    refine E.W.seq ?_
    refine E.W.region ?_
    refine E.WL.val (E.y_load rfl (E.At.ldk Tryz.isAgg27 Tryz.sizeOf27 (hb.at0 1 rfl) rfl)) rfl rfl rfl ?_
    refine E.WL.val (E.y_build (v := .agg #[.slice An b.nodes.length cn, .slice At' b.tasks.length ct, .slice Ab b.binds.length cb, .int .u64 b.fence]) rfl (by kernel_rfl)) rfl rfl rfl ?_
    refine E.WL.box hb rfl rfl rfl rfl ?_
    clear hb; intro B7 w8 hb _ _
    refine E.WL.val (E.y_assign rfl) rfl rfl rfl ?_
    refine E.WL.done ?_
    refine E.KQ.then_n ?_
    refine E.W.seq ?_
    refine E.W.seq ?_
    refine E.W.region ?_
    refine E.WL.val (E.y_move rfl) rfl rfl rfl ?_
    refine E.WL.val (E.y_move rfl) rfl rfl rfl ?_
    refine E.WL.call (node_calls (hb.at0 0 rfl) (RBook.goes.stays h (Stays.ext hb.below)) node) Tryz.call44 rfl rfl rfl ?_
    rintro _ w9 ⟨rfl, hX⟩
    replace hb := hb.ext hX
    clear hX
    refine E.WL.val (E.y_move rfl) rfl rfl rfl ?_
    refine E.WL.val (E.y_extract rfl rfl) rfl rfl rfl ?_
    refine E.WL.val (E.y_extract rfl rfl) rfl rfl rfl ?_
    refine E.WL.val (E.y_assign rfl) rfl rfl rfl ?_
    refine E.WL.val (E.y_assign rfl) rfl rfl rfl ?_
    refine E.WL.done ?_
    refine E.KQ.then_n ?_
    refine E.W.seq ?_
    refine E.W.region ?_
    refine E.WL.val (E.y_move rfl) rfl rfl rfl ?_
    refine E.WL.val (E.y_not rfl) rfl rfl rfl ?_
    refine E.WL.done ?_
    refine E.KQ.then_n ?_
    refine E.W.condT 26 rfl (fun h2 => ?_) (fun h2 => ?_)
    · replace h2 : hasB (nodeNames b) node = false := by simpa using h2
      have hp : usedP b node = (Sum3.zero, 6) := by unfold usedP; rw [if_neg (by rw [h1]; decide), if_pos h2]
      refine E.W.seq ?_
      refine E.W.region ?_
      refine E.WL.val (E.y_build (v := .agg (three Sum3.zero).toArray) rfl (by kernel_rfl)) rfl rfl rfl ?_
      refine E.WL.storeW hb 1 rfl rfl rfl Tryz.sizeOf29 rfl rfl rfl (E.allOne rfl) rfl ?_
      clear hb; intro w10 hb _
      refine E.WL.val (E.y_assign rfl) rfl rfl rfl ?_
      refine E.WL.done ?_
      refine E.KQ.then_n ?_
      refine E.W.ret ?_
      refine E.KQ.then_r ?_
      refine E.KQ.retct Tryz.results30 rfl (E.At.ldk Tryz.isAgg29 Tryz.sizeOf29 (hb.at0 1 rfl) rfl) rfl ?_
      exact ⟨_, rfl, by rw [hp], hb.below⟩
    · replace h2 : hasB (nodeNames b) node = true := by simpa using h2
      refine E.W.skip ?_
      refine E.KQ.then_n ?_
      refine E.W.seq ?_
      refine E.W.region ?_
      refine E.WL.val (E.y_move rfl) rfl rfl rfl ?_
      refine E.WL.val (E.y_move rfl) rfl rfl rfl ?_
      refine E.WL.call (there_calls (hb.at0 0 rfl) (RBook.goes.stays h (Stays.ext hb.below)) hbl node) Tryz.call57 rfl rfl rfl ?_
      rintro _ w11 ⟨⟨v, rfl, hl⟩, hX⟩
      replace hb := hb.ext hX
      clear hX
      refine E.WL.call (sum_calls hl) Tryz.call75 rfl rfl rfl ?_
      rintro _ w12 ⟨rfl, hX⟩
      replace hb := hb.ext hX
      clear hX
      refine E.WL.val (E.y_extract rfl rfl) rfl rfl rfl ?_
      refine E.WL.val (E.y_extract rfl rfl) rfl rfl rfl ?_
      refine E.WL.storeW hb 1 rfl rfl rfl Tryz.sizeOf29 rfl rfl rfl (E.allOne rfl) rfl ?_
      clear hb; intro w13 hb _
      refine E.WL.val (E.y_assign rfl) rfl rfl rfl ?_
      refine E.WL.done ?_
      refine E.KQ.then_n ?_
      refine E.W.ret ?_
      refine E.KQ.retct Tryz.results30 rfl (E.At.ldk Tryz.isAgg29 Tryz.sizeOf29 (hb.at0 1 rfl) rfl) rfl ?_
      exact ⟨_, rfl, by unfold usedP; rw [if_neg (by rw [h1]; decide), if_neg (by rw [h2]; decide)]; rfl, hb.below⟩
end Go.Proofs.YtmnnbnajnfdncaaGreatDoor
