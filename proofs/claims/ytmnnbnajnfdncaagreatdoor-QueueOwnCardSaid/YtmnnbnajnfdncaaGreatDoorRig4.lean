/- Walks: what is right of a node and of a task; sums; room. -/
import Derived.Test.YtmnnbnajnfdncaaGreatDoorRig3
set_option linter.unusedVariables false
set_option linter.unusedSimpArgs false
namespace Go.Proofs.YtmnnbnajnfdncaaGreatDoor
open Go.RowKit E
def three (s : Sum3) : List Value := [.int .i64 s.a, .int .i64 s.b, .int .i64 s.c]
def part3 (s : Sum3) (t : TaskD) : Nat → List Value
  | 0 => [.int .i64 s.a, .int .i64 s.b, .int .i64 s.c]
  | 1 => [.int .i64 (s.a + t.n0), .int .i64 s.b, .int .i64 s.c]
  | 2 => [.int .i64 (s.a + t.n0), .int .i64 (s.b + t.n1), .int .i64 s.c]
  | _ => [.int .i64 (s.a + t.n0), .int .i64 (s.b + t.n1), .int .i64 (s.c + t.n2)]
def roomUp (A l0 l1 l2 : Bool) : Nat → Bool
  | 0 => A
  | 1 => A && l0
  | 2 => A && l0 && l1
  | _ => A && l0 && l1 && l2
theorem roomUp_all {A l0 l1 l2 : Bool} {j : Nat} (h : roomUp A l0 l1 l2 j = true) : A = true := by
  unfold roomUp at h
  split at h <;> simp_all
set_option maxHeartbeats 400000 in
theorem checkNode_calls {F : FP} {w : World} {cn : List Value} {n : NodeD} (h : RNode F w cn n) :
    Calls Tryz.prog 39 #[(.agg cn.toArray)] w (Ret fun u w' => u = .int .i64 (checkNode n) ∧ Ext w w') := by
  obtain ⟨vl, vt, rfl, hl, ht⟩ := h
  have hb := E.Bx.start w (base := w.heap.size) (Nat.le_refl _)
  refine E.enter Tryz.func39 rfl Tryz.ntmps39 [(.agg #[.string n.name, .int .i64 n.h0, .int .i64 n.h1, .int .i64 n.h2, vl, vt])] rfl ?_
  refine E.W.seq ?_
  refine E.W.region ?_
  refine E.WL.box hb rfl rfl rfl rfl ?_
  clear hb; intro B1 w2 hb _ _
  refine E.WL.val (E.y_assign rfl) rfl rfl rfl ?_
  refine E.WL.done ?_
  refine E.KQ.then_n ?_
  refine E.W.seq ?_
  refine E.W.block ?_
  refine E.W.seq ?_
  refine E.W.region ?_
  refine E.WL.val (E.y_fld Tryz.underlying32 rfl Tryz.sizeOf9 rfl) rfl rfl rfl ?_
  refine E.WL.val (E.y_load rfl (E.At.ld1 Tryz.isAgg9 (hb.at0 0 rfl) 0 rfl)) rfl rfl rfl ?_
  refine E.WL.call (name_calls w2 n.name) Tryz.call77 rfl rfl rfl ?_
  rintro _ w3 ⟨rfl, hX⟩
  replace hb := hb.ext hX
  clear hX
  refine E.WL.val (E.y_not rfl) rfl rfl rfl ?_
  refine E.WL.val (E.y_assign rfl) rfl rfl rfl ?_
  refine E.WL.done ?_
  refine E.KQ.then_n ?_
  refine E.W.condT 3 rfl (fun e1 => ?_) (fun e1 => ?_)
  · skip
    replace e1 : nameB n.name = false := by simpa using e1
    refine E.W.seq ?_
    refine E.W.region ?_
    refine E.WL.val (E.y_assign rfl) rfl rfl rfl ?_
    refine E.WL.done ?_
    refine E.KQ.then_n ?_
    refine E.W.ret ?_
    refine E.KQ.block_r ?_
    refine E.KQ.then_r ?_
    refine E.KQ.ret1 Tryz.results39 rfl ?_
    exact ⟨_, rfl, by simp_all [checkNode, checkTask] <;> (repeat' split) <;> omega, hb.below⟩
  · skip
    replace e1 : nameB n.name = true := by simpa using e1
    refine E.W.seq ?_
    refine E.W.region ?_
    refine E.WL.val (E.y_fld Tryz.underlying32 rfl Tryz.sizeOf29 rfl) rfl rfl rfl ?_
    refine E.WL.val (E.y_load rfl (E.At.ldk Tryz.isAgg29 Tryz.sizeOf29 ((hb.at0 0 rfl).sub rfl 1 3) rfl)) rfl rfl rfl ?_
    refine E.WL.call (amounts_calls w3 n.h0 n.h1 n.h2 1 (by decide)) Tryz.call78 rfl rfl rfl ?_
    rintro _ w4 ⟨rfl, hX⟩
    replace hb := hb.ext hX
    clear hX
    refine E.WL.val (E.y_not rfl) rfl rfl rfl ?_
    refine E.WL.val (E.y_assign rfl) rfl rfl rfl ?_
    refine E.WL.done ?_
    refine E.KQ.then_n ?_
    refine E.W.condT 8 rfl (fun e2 => ?_) (fun e2 => ?_)
    · skip
      replace e2 : amtB n.h0 n.h1 n.h2 1 = false := by simpa using e2
      refine E.W.seq ?_
      refine E.W.region ?_
      refine E.WL.val (E.y_assign rfl) rfl rfl rfl ?_
      refine E.WL.done ?_
      refine E.KQ.then_n ?_
      refine E.W.ret ?_
      refine E.KQ.block_r ?_
      refine E.KQ.then_r ?_
      refine E.KQ.ret1 Tryz.results39 rfl ?_
      exact ⟨_, rfl, by simp_all [checkNode, checkTask] <;> (repeat' split) <;> omega, hb.below⟩
    · skip
      replace e2 : amtB n.h0 n.h1 n.h2 1 = true := by simpa using e2
      refine E.W.seq ?_
      refine E.W.seq ?_
      refine E.W.region ?_
      refine E.WL.val (E.y_fld Tryz.underlying32 rfl Tryz.sizeOf30 rfl) rfl rfl rfl ?_
      refine E.WL.val (E.y_load rfl (E.At.ld1 Tryz.isAgg30 (hb.at0 0 rfl) 4 rfl)) rfl rfl rfl ?_
      refine E.WL.call (pairs_calls (hl.ext RPair.goes hb.below)) Tryz.call79 rfl rfl rfl ?_
      rintro _ w5 ⟨rfl, hX⟩
      replace hb := hb.ext hX
      clear hX
      refine E.WL.val (E.y_not rfl) rfl rfl rfl ?_
      refine E.WL.val (E.y_assign rfl) rfl rfl rfl ?_
      refine E.WL.done ?_
      refine E.KQ.then_n ?_
      refine E.W.condT 13 rfl (fun hc13 => ?_) (fun hc13 => ?_)
      · skip
        refine E.W.skip ?_
        refine E.KQ.then_n ?_
        refine E.W.cond_t rfl ?_
        refine E.W.seq ?_
        refine E.W.region ?_
        refine E.WL.val (E.y_assign rfl) rfl rfl rfl ?_
        refine E.WL.done ?_
        refine E.KQ.then_n ?_
        refine E.W.ret ?_
        refine E.KQ.block_r ?_
        refine E.KQ.then_r ?_
        refine E.KQ.ret1 Tryz.results39 rfl ?_
        exact ⟨_, rfl, by simp_all [checkNode, checkTask] <;> (repeat' split) <;> omega, hb.below⟩
      · skip
        refine E.W.region ?_
        refine E.WL.val (E.y_fld Tryz.underlying32 rfl Tryz.sizeOf30 rfl) rfl rfl rfl ?_
        refine E.WL.val (E.y_load rfl (E.At.ld1 Tryz.isAgg30 (hb.at0 0 rfl) 5 rfl)) rfl rfl rfl ?_
        refine E.WL.call (pairs_calls (ht.ext RPair.goes hb.below)) Tryz.call79 rfl rfl rfl ?_
        rintro _ w6 ⟨rfl, hX⟩
        replace hb := hb.ext hX
        clear hX
        refine E.WL.val (E.y_not rfl) rfl rfl rfl ?_
        refine E.WL.val (E.y_assign rfl) rfl rfl rfl ?_
        refine E.WL.done ?_
        refine E.KQ.then_n ?_
        refine E.W.condT 13 rfl (fun hc13 => ?_) (fun hc13 => ?_)
        · skip
          refine E.W.seq ?_
          refine E.W.region ?_
          refine E.WL.val (E.y_assign rfl) rfl rfl rfl ?_
          refine E.WL.done ?_
          refine E.KQ.then_n ?_
          refine E.W.ret ?_
          refine E.KQ.block_r ?_
          refine E.KQ.then_r ?_
          refine E.KQ.ret1 Tryz.results39 rfl ?_
          exact ⟨_, rfl, by simp_all [checkNode, checkTask] <;> (repeat' split) <;> omega, hb.below⟩
        · skip
          refine E.W.skip ?_
          refine E.KQ.block_n ?_
          refine E.KQ.then_n ?_
          refine E.W.seq ?_
          refine E.W.region ?_
          refine E.WL.val (E.y_assign rfl) rfl rfl rfl ?_
          refine E.WL.done ?_
          refine E.KQ.then_n ?_
          refine E.W.ret ?_
          refine E.KQ.ret1 Tryz.results39 rfl ?_
          exact ⟨_, rfl, by simp_all [checkNode, checkTask] <;> (repeat' split) <;> omega, hb.below⟩

set_option maxHeartbeats 400000 in
theorem checkTask_calls {F : FP} {w : World} {cn : List Value} {n : TaskD} (h : RTask F w cn n) :
    Calls Tryz.prog 42 #[(.agg cn.toArray)] w (Ret fun u w' => u = .int .i64 (checkTask n) ∧ Ext w w') := by
  obtain ⟨vl, vt, rfl, hl, ht⟩ := h
  have hb := E.Bx.start w (base := w.heap.size) (Nat.le_refl _)
  refine E.enter Tryz.func42 rfl Tryz.ntmps42 [(.agg #[.string n.name, .int .i64 n.n0, .int .i64 n.n1, .int .i64 n.n2, vl, vt, .string n.group, .string n.apart, .int .i64 n.rank])] rfl ?_
  refine E.W.seq ?_
  refine E.W.region ?_
  refine E.WL.box hb rfl rfl rfl rfl ?_
  clear hb; intro B1 w2 hb _ _
  refine E.WL.val (E.y_assign rfl) rfl rfl rfl ?_
  refine E.WL.done ?_
  refine E.KQ.then_n ?_
  refine E.W.seq ?_
  refine E.W.block ?_
  refine E.W.seq ?_
  refine E.W.region ?_
  refine E.WL.val (E.y_fld Tryz.underlying34 rfl Tryz.sizeOf9 rfl) rfl rfl rfl ?_
  refine E.WL.val (E.y_load rfl (E.At.ld1 Tryz.isAgg9 (hb.at0 0 rfl) 0 rfl)) rfl rfl rfl ?_
  refine E.WL.call (name_calls w2 n.name) Tryz.call77 rfl rfl rfl ?_
  rintro _ w3 ⟨rfl, hX⟩
  replace hb := hb.ext hX
  clear hX
  refine E.WL.val (E.y_not rfl) rfl rfl rfl ?_
  refine E.WL.val (E.y_assign rfl) rfl rfl rfl ?_
  refine E.WL.done ?_
  refine E.KQ.then_n ?_
  refine E.W.condT 3 rfl (fun e1 => ?_) (fun e1 => ?_)
  · skip
    replace e1 : nameB n.name = false := by simpa using e1
    refine E.W.seq ?_
    refine E.W.region ?_
    refine E.WL.val (E.y_assign rfl) rfl rfl rfl ?_
    refine E.WL.done ?_
    refine E.KQ.then_n ?_
    refine E.W.ret ?_
    refine E.KQ.block_r ?_
    refine E.KQ.then_r ?_
    refine E.KQ.ret1 Tryz.results42 rfl ?_
    exact ⟨_, rfl, by simp_all [checkNode, checkTask] <;> (repeat' split) <;> omega, hb.below⟩
  · skip
    replace e1 : nameB n.name = true := by simpa using e1
    refine E.W.seq ?_
    refine E.W.seq ?_
    refine E.W.region ?_
    refine E.WL.val (E.y_fld Tryz.underlying34 rfl Tryz.sizeOf29 rfl) rfl rfl rfl ?_
    refine E.WL.val (E.y_load rfl (E.At.ldk Tryz.isAgg29 Tryz.sizeOf29 ((hb.at0 0 rfl).sub rfl 1 3) rfl)) rfl rfl rfl ?_
    refine E.WL.call (amounts_calls w3 n.n0 n.n1 n.n2 1 (by decide)) Tryz.call78 rfl rfl rfl ?_
    rintro _ w4 ⟨rfl, hX⟩
    replace hb := hb.ext hX
    clear hX
    refine E.WL.val (E.y_not rfl) rfl rfl rfl ?_
    refine E.WL.val (E.y_assign rfl) rfl rfl rfl ?_
    refine E.WL.done ?_
    refine E.KQ.then_n ?_
    refine E.W.condT 8 rfl (fun hc8 => ?_) (fun hc8 => ?_)
    · skip
      refine E.W.skip ?_
      refine E.KQ.then_n ?_
      refine E.W.cond_t rfl ?_
      refine E.W.seq ?_
      refine E.W.region ?_
      refine E.WL.val (E.y_assign rfl) rfl rfl rfl ?_
      refine E.WL.done ?_
      refine E.KQ.then_n ?_
      refine E.W.ret ?_
      refine E.KQ.block_r ?_
      refine E.KQ.then_r ?_
      refine E.KQ.ret1 Tryz.results42 rfl ?_
      exact ⟨_, rfl, by simp_all [checkNode, checkTask] <;> (repeat' split) <;> omega, hb.below⟩
    · skip
      refine E.W.seq ?_
      refine E.W.region ?_
      refine E.WL.val (E.y_fld Tryz.underlying34 rfl Tryz.sizeOf3 rfl) rfl rfl rfl ?_
      refine E.WL.val (E.y_load rfl (E.At.ld1 Tryz.isAgg3 (hb.at0 0 rfl) 8 rfl)) rfl rfl rfl ?_
      refine E.WL.val (E.y_lss rfl rfl) rfl rfl rfl ?_
      refine E.WL.val (E.y_assign rfl) rfl rfl rfl ?_
      refine E.WL.done ?_
      refine E.KQ.then_n ?_
      refine E.W.condT 8 rfl (fun hc8 => ?_) (fun hc8 => ?_)
      · skip
        refine E.W.skip ?_
        refine E.KQ.then_n ?_
        refine E.W.cond_t rfl ?_
        refine E.W.seq ?_
        refine E.W.region ?_
        refine E.WL.val (E.y_assign rfl) rfl rfl rfl ?_
        refine E.WL.done ?_
        refine E.KQ.then_n ?_
        refine E.W.ret ?_
        refine E.KQ.block_r ?_
        refine E.KQ.then_r ?_
        refine E.KQ.ret1 Tryz.results42 rfl ?_
        exact ⟨_, rfl, by simp_all [checkNode, checkTask] <;> (repeat' split) <;> omega, hb.below⟩
      · skip
        refine E.W.region ?_
        refine E.WL.val (E.y_fld Tryz.underlying34 rfl Tryz.sizeOf3 rfl) rfl rfl rfl ?_
        refine E.WL.val (E.y_load rfl (E.At.ld1 Tryz.isAgg3 (hb.at0 0 rfl) 8 rfl)) rfl rfl rfl ?_
        refine E.WL.val (E.y_gtr rfl rfl) rfl rfl rfl ?_
        refine E.WL.val (E.y_assign rfl) rfl rfl rfl ?_
        refine E.WL.done ?_
        refine E.KQ.then_n ?_
        refine E.W.condT 8 rfl (fun hc8 => ?_) (fun hc8 => ?_)
        · skip
          refine E.W.seq ?_
          refine E.W.region ?_
          refine E.WL.val (E.y_assign rfl) rfl rfl rfl ?_
          refine E.WL.done ?_
          refine E.KQ.then_n ?_
          refine E.W.ret ?_
          refine E.KQ.block_r ?_
          refine E.KQ.then_r ?_
          refine E.KQ.ret1 Tryz.results42 rfl ?_
          exact ⟨_, rfl, by simp_all [checkNode, checkTask] <;> (repeat' split) <;> omega, hb.below⟩
        · skip
          refine E.W.seq ?_
          refine E.W.seq ?_
          refine E.W.region ?_
          refine E.WL.val (E.y_fld Tryz.underlying34 rfl Tryz.sizeOf30 rfl) rfl rfl rfl ?_
          refine E.WL.val (E.y_load rfl (E.At.ld1 Tryz.isAgg30 (hb.at0 0 rfl) 4 rfl)) rfl rfl rfl ?_
          refine E.WL.call (pairs_calls (hl.ext RPair.goes hb.below)) Tryz.call79 rfl rfl rfl ?_
          rintro _ w5 ⟨rfl, hX⟩
          replace hb := hb.ext hX
          clear hX
          refine E.WL.val (E.y_not rfl) rfl rfl rfl ?_
          refine E.WL.val (E.y_assign rfl) rfl rfl rfl ?_
          refine E.WL.done ?_
          refine E.KQ.then_n ?_
          refine E.W.condT 19 rfl (fun hc19 => ?_) (fun hc19 => ?_)
          · skip
            refine E.W.skip ?_
            refine E.KQ.then_n ?_
            refine E.W.cond_t rfl ?_
            refine E.W.seq ?_
            refine E.W.region ?_
            refine E.WL.val (E.y_assign rfl) rfl rfl rfl ?_
            refine E.WL.done ?_
            refine E.KQ.then_n ?_
            refine E.W.ret ?_
            refine E.KQ.block_r ?_
            refine E.KQ.then_r ?_
            refine E.KQ.ret1 Tryz.results42 rfl ?_
            exact ⟨_, rfl, by simp_all [checkNode, checkTask] <;> (repeat' split) <;> omega, hb.below⟩
          · skip
            refine E.W.seq ?_
            refine E.W.region ?_
            refine E.WL.val (E.y_fld Tryz.underlying34 rfl Tryz.sizeOf30 rfl) rfl rfl rfl ?_
            refine E.WL.val (E.y_load rfl (E.At.ld1 Tryz.isAgg30 (hb.at0 0 rfl) 5 rfl)) rfl rfl rfl ?_
            refine E.WL.call (pairs_calls (ht.ext RPair.goes hb.below)) Tryz.call79 rfl rfl rfl ?_
            rintro _ w6 ⟨rfl, hX⟩
            replace hb := hb.ext hX
            clear hX
            refine E.WL.val (E.y_not rfl) rfl rfl rfl ?_
            refine E.WL.val (E.y_assign rfl) rfl rfl rfl ?_
            refine E.WL.done ?_
            refine E.KQ.then_n ?_
            refine E.W.condT 19 rfl (fun hc19 => ?_) (fun hc19 => ?_)
            · skip
              refine E.W.skip ?_
              refine E.KQ.then_n ?_
              refine E.W.cond_t rfl ?_
              refine E.W.seq ?_
              refine E.W.region ?_
              refine E.WL.val (E.y_assign rfl) rfl rfl rfl ?_
              refine E.WL.done ?_
              refine E.KQ.then_n ?_
              refine E.W.ret ?_
              refine E.KQ.block_r ?_
              refine E.KQ.then_r ?_
              refine E.KQ.ret1 Tryz.results42 rfl ?_
              exact ⟨_, rfl, by simp_all [checkNode, checkTask] <;> (repeat' split) <;> omega, hb.below⟩
            · skip
              refine E.W.seq ?_
              refine E.W.region ?_
              refine E.WL.val (E.y_fld Tryz.underlying34 rfl Tryz.sizeOf9 rfl) rfl rfl rfl ?_
              refine E.WL.val (E.y_load rfl (E.At.ld1 Tryz.isAgg9 (hb.at0 0 rfl) 6 rfl)) rfl rfl rfl ?_
              refine E.WL.call (named_calls w6 n.group) Tryz.call80 rfl rfl rfl ?_
              rintro _ w7 ⟨rfl, hX⟩
              replace hb := hb.ext hX
              clear hX
              refine E.WL.val (E.y_not rfl) rfl rfl rfl ?_
              refine E.WL.val (E.y_assign rfl) rfl rfl rfl ?_
              refine E.WL.done ?_
              refine E.KQ.then_n ?_
              refine E.W.condT 19 rfl (fun hc19 => ?_) (fun hc19 => ?_)
              · skip
                refine E.W.skip ?_
                refine E.KQ.then_n ?_
                refine E.W.cond_t rfl ?_
                refine E.W.seq ?_
                refine E.W.region ?_
                refine E.WL.val (E.y_assign rfl) rfl rfl rfl ?_
                refine E.WL.done ?_
                refine E.KQ.then_n ?_
                refine E.W.ret ?_
                refine E.KQ.block_r ?_
                refine E.KQ.then_r ?_
                refine E.KQ.ret1 Tryz.results42 rfl ?_
                exact ⟨_, rfl, by simp_all [checkNode, checkTask] <;> (repeat' split) <;> omega, hb.below⟩
              · skip
                refine E.W.region ?_
                refine E.WL.val (E.y_fld Tryz.underlying34 rfl Tryz.sizeOf9 rfl) rfl rfl rfl ?_
                refine E.WL.val (E.y_load rfl (E.At.ld1 Tryz.isAgg9 (hb.at0 0 rfl) 7 rfl)) rfl rfl rfl ?_
                refine E.WL.call (named_calls w7 n.apart) Tryz.call80 rfl rfl rfl ?_
                rintro _ w8 ⟨rfl, hX⟩
                replace hb := hb.ext hX
                clear hX
                refine E.WL.val (E.y_not rfl) rfl rfl rfl ?_
                refine E.WL.val (E.y_assign rfl) rfl rfl rfl ?_
                refine E.WL.done ?_
                refine E.KQ.then_n ?_
                refine E.W.condT 19 rfl (fun hc19 => ?_) (fun hc19 => ?_)
                · skip
                  refine E.W.seq ?_
                  refine E.W.region ?_
                  refine E.WL.val (E.y_assign rfl) rfl rfl rfl ?_
                  refine E.WL.done ?_
                  refine E.KQ.then_n ?_
                  refine E.W.ret ?_
                  refine E.KQ.block_r ?_
                  refine E.KQ.then_r ?_
                  refine E.KQ.ret1 Tryz.results42 rfl ?_
                  exact ⟨_, rfl, by simp_all [checkNode, checkTask] <;> (repeat' split) <;> omega, hb.below⟩
                · skip
                  refine E.W.skip ?_
                  refine E.KQ.block_n ?_
                  refine E.KQ.then_n ?_
                  refine E.W.seq ?_
                  refine E.W.region ?_
                  refine E.WL.val (E.y_assign rfl) rfl rfl rfl ?_
                  refine E.WL.done ?_
                  refine E.KQ.then_n ?_
                  refine E.W.ret ?_
                  refine E.KQ.ret1 Tryz.results42 rfl ?_
                  exact ⟨_, rfl, by simp_all [checkNode, checkTask] <;> (repeat' split) <;> omega, hb.below⟩

set_option maxHeartbeats 400000 in
theorem sumOne_calls {F : FP} {w : World} {cn : List Value} {n : TaskD} (h : RTask F w cn n) :
    Calls Tryz.prog 111 #[(.agg cn.toArray)] w (Ret fun u w' => u = .bool (!amtsOk n) ∧ Ext w w') := by
  obtain ⟨vl, vt, rfl, hl, ht⟩ := h
  have hb := E.Bx.start w (base := w.heap.size) (Nat.le_refl _)
  refine E.enter Tryz.func111 rfl Tryz.ntmps111 [(.agg #[.string n.name, .int .i64 n.n0, .int .i64 n.n1, .int .i64 n.n2, vl, vt, .string n.group, .string n.apart, .int .i64 n.rank])] rfl ?_
  refine E.W.seq ?_
  refine E.W.region ?_
  refine E.WL.box hb rfl rfl rfl rfl ?_
  clear hb; intro B1 w2 hb _ _
  refine E.WL.val (E.y_assign rfl) rfl rfl rfl ?_
  refine E.WL.done ?_
  refine E.KQ.then_n ?_
  refine E.W.seq ?_
  refine E.W.region ?_
  refine E.WL.val (E.y_fld Tryz.underlying34 rfl Tryz.sizeOf29 rfl) rfl rfl rfl ?_
  refine E.WL.val (E.y_load rfl (E.At.ldk Tryz.isAgg29 Tryz.sizeOf29 ((hb.at0 0 rfl).sub rfl 1 3) rfl)) rfl rfl rfl ?_
  refine E.WL.call (amounts_calls w2 n.n0 n.n1 n.n2 1 (by decide)) Tryz.call78 rfl rfl rfl ?_
  rintro _ w3 ⟨rfl, hX⟩
  replace hb := hb.ext hX
  clear hX
  refine E.WL.val (E.y_not rfl) rfl rfl rfl ?_
  refine E.WL.val (E.y_assign rfl) rfl rfl rfl ?_
  refine E.WL.done ?_
  refine E.KQ.then_n ?_
  refine E.W.ret ?_
  refine E.KQ.ret1 Tryz.results111 rfl ?_
  exact ⟨_, rfl, rfl, hb.below⟩

set_option maxHeartbeats 1000000 in
theorem sum_calls {F : FP} {w : World} {v : Value} {xs : List TaskD} (h : RTasks F w v xs) :
    Calls Tryz.prog 75 #[v] w (Ret fun u w' => u = .tuple #[.agg (three (sumP xs).1).toArray, .int .i64 (sumP xs).2] ∧ Ext w w') := by
  obtain ⟨A, c, hv, hc, hby, hg⟩ := id h.open_
  subst hv
  have hb := E.Bx.start w (base := w.heap.size) (Nat.le_refl _)
  refine E.enter Tryz.func75 rfl Tryz.ntmps75 [(.slice A xs.length c)] rfl ?_
  refine E.W.seq ?_
  refine E.W.region ?_
  refine E.WL.alloc (cs := three Sum3.zero) hb Tryz.zeroValue29 rfl rfl rfl ?_
  clear hb; intro B2 w2 hb _ _
  refine E.WL.val (E.y_assign rfl) rfl rfl rfl ?_
  refine E.WL.done ?_
  refine E.KQ.then_n ?_
  refine E.W.seq ?_
  refine E.W.region ?_
  refine E.WL.alloc (cs := three Sum3.zero) hb Tryz.zeroValue29 rfl rfl rfl ?_
  clear hb; intro B4 w4 hb _ _
  refine E.WL.done ?_
  refine E.KQ.then_n ?_
  refine E.W.seq ?_
  refine E.W.seq ?_
  refine E.W.region ?_
  refine E.WL.val (E.y_move rfl) rfl rfl rfl ?_
  refine E.WL.val (E.y_lenS Tryz.underlying23 rfl) rfl rfl rfl ?_
  refine E.WL.val (E.y_gtr rfl rfl) rfl rfl rfl ?_
  refine E.WL.val (E.y_move rfl) rfl rfl rfl ?_
  refine E.WL.split 11 rfl (fun h11 => ?_) (fun h11 => ?_)
  · replace h11 : 32 < xs.length := by have := of_decide_eq_true h11; omega
    have hs : sumP xs = (Sum3.zero, 1) := by unfold sumP; rw [if_pos h11]
    refine E.WL.off rfl rfl rfl ?_
    refine E.WL.off rfl rfl rfl ?_
    refine E.WL.val (E.y_pick_t rfl rfl) rfl rfl rfl ?_
    refine E.WL.done ?_
    refine E.KQ.then_n ?_
    refine E.W.cond_t rfl ?_
    refine E.W.seq ?_
    refine E.W.region ?_
    refine E.WL.val (E.y_load rfl (E.At.ldk Tryz.isAgg29 Tryz.sizeOf29 (hb.at0 0 rfl) rfl)) rfl rfl rfl ?_
    refine E.WL.storeW hb 1 rfl rfl rfl Tryz.sizeOf29 rfl rfl rfl (E.allOne rfl) rfl ?_
    clear hb; intro w5 hb _
    refine E.WL.val (E.y_assign rfl) rfl rfl rfl ?_
    refine E.WL.done ?_
    refine E.KQ.then_n ?_
    refine E.W.ret ?_
    refine E.KQ.then_r ?_
    refine E.KQ.retct Tryz.results75 rfl (E.At.ldk Tryz.isAgg29 Tryz.sizeOf29 (hb.at0 1 rfl) rfl) rfl ?_
    exact ⟨_, rfl, by rw [hs], hb.below⟩
  · replace h11 : ¬ 32 < xs.length := by have := of_decide_eq_false h11; omega
    refine E.WL.val (E.y_move rfl) rfl rfl rfl ?_
    refine E.WL.call (containsFuncTask_calls (h.ext RTask.goes hb.below) (fun t => !amtsOk t) 111 [] Tryz.call111 (fun w' hw i hi cs hr => sumOne_calls hr)) Tryz.call40 rfl rfl rfl ?_
    rintro _ w6 ⟨rfl, hX⟩
    replace hb := hb.ext hX
    clear hX
    refine E.WL.val (E.y_pick_f rfl rfl) rfl rfl rfl ?_
    refine E.WL.done ?_
    refine E.KQ.then_n ?_
    refine E.W.condT 14 rfl (fun hc14 => ?_) (fun hc14 => ?_)
    · skip
      have hs : sumP xs = (Sum3.zero, 1) := by unfold sumP; rw [if_neg h11, if_pos hc14]
      refine E.W.seq ?_
      refine E.W.region ?_
      refine E.WL.val (E.y_load rfl (E.At.ldk Tryz.isAgg29 Tryz.sizeOf29 (hb.at0 0 rfl) rfl)) rfl rfl rfl ?_
      refine E.WL.storeW hb 1 rfl rfl rfl Tryz.sizeOf29 rfl rfl rfl (E.allOne rfl) rfl ?_
      clear hb; intro w7 hb _
      refine E.WL.val (E.y_assign rfl) rfl rfl rfl ?_
      refine E.WL.done ?_
      refine E.KQ.then_n ?_
      refine E.W.ret ?_
      refine E.KQ.then_r ?_
      refine E.KQ.retct Tryz.results75 rfl (E.At.ldk Tryz.isAgg29 Tryz.sizeOf29 (hb.at0 1 rfl) rfl) rfl ?_
      exact ⟨_, rfl, by rw [hs], hb.below⟩
    · skip
      have hs : sumP xs = (sumOf xs, 0) := by unfold sumP; rw [if_neg h11, if_neg (by rw [hc14]; decide)]
      have hok : ∀ t ∈ xs, amtsOk t = true := fun t ht => by have := List.any_eq_false.1 hc14 t ht; simpa using this
      refine E.W.skip ?_
      refine E.KQ.then_n ?_
      refine E.W.seq ?_
      refine E.W.seq ?_
      refine E.W.region ?_
      refine E.WL.val (E.y_move rfl) rfl rfl rfl ?_
      refine E.WL.val (E.y_lenS Tryz.underlying23 rfl) rfl rfl rfl ?_
      refine E.WL.val (E.y_move rfl) rfl rfl rfl ?_
      refine E.WL.done ?_
      refine E.KQ.then_n ?_
      refine E.W.block ?_
      refine E.W.loop (ι := Nat) (fun k => [(0, .slice A xs.length c), (2, .pointer (some ⟨B2, 0, none⟩)), (4, .pointer (some ⟨B4, 0, none⟩)), (16, .slice A xs.length c), (17, .int .i64 xs.length), (18, .int .i64 (k : Nat))]) (fun k w' => Bx w.heap.size w w' [(B4, three (sumOf (xs.take k)), 29), (B2, three Sum3.zero, 29)] ∧ k ≤ xs.length) (fun k => xs.length - k) (0) (by exact (.cons rfl (.cons rfl (.cons rfl (.cons rfl (.cons rfl (.cons rfl .nil))))))) ⟨hb, Nat.zero_le _⟩ (fun k w8 hJ => ?_)
      clear hb
      obtain ⟨hb, hk⟩ := hJ
      refine E.W.seq ?_
      refine E.W.region ?_
      refine E.WL.val (E.y_lss rfl rfl) rfl rfl rfl ?_
      refine E.WL.done ?_
      refine E.KQ.then_n ?_
      refine E.W.seq ?_
      refine E.W.condT 19 rfl (fun hc19 => ?_) (fun hc19 => ?_)
      · replace hc19 := of_decide_eq_true hc19
        refine E.W.skip ?_
        refine E.KQ.then_n ?_
        refine E.W.seq ?_
        refine E.W.block ?_
        refine E.W.seq ?_
        refine E.W.region ?_
        have hkl : k < xs.length := by omega
        obtain ⟨q, cs, hA, _, hl, hat, hr⟩ := hg k hkl
        have hone := hr.one
        obtain ⟨vl, vt, rfl, _, _⟩ := hr
        subst hA
        replace hat := hat.ext hb.below
        refine E.WL.val (E.y_idxS Tryz.underlying23 Tryz.sizeOf34 rfl rfl (by omega) (by omega)) rfl rfl rfl ?_
        refine E.WL.val (E.y_load rfl (E.At.ldk Tryz.isAgg34 Tryz.sizeOf34 hat rfl)) rfl rfl rfl ?_
        refine E.WL.alloc hb Tryz.zeroValue34 rfl rfl rfl ?_
        clear hb; intro B6 w10 hb _ _
        refine E.WL.storeW hb 0 rfl rfl rfl Tryz.sizeOf34 rfl rfl rfl (hone) rfl ?_
        clear hb; intro w11 hb _
        refine E.WL.done ?_
        refine E.KQ.then_n ?_
        refine E.W.seq ?_
        refine E.W.region ?_
        refine E.WL.val (E.y_move rfl) rfl rfl rfl ?_
        refine E.WL.done ?_
        refine E.KQ.then_n ?_
        refine E.W.block ?_
        have hsb := sumOf_bound (l := xs.take k) (fun t ht => hok t (List.mem_of_mem_take ht))
        have hlen : (xs.take k).length = k := by simp; omega
        rw [hlen] at hsb
        have hta := amtB_iff.1 (hok xs[k] (List.getElem_mem _))
        refine E.W.loop (ι := Nat) (fun j => [(0, .slice (some q) xs.length c), (2, .pointer (some ⟨B2, 0, none⟩)), (4, .pointer (some ⟨B4, 0, none⟩)), (16, .slice (some q) xs.length c), (17, .int .i64 xs.length), (18, .int .i64 (k : Nat)), (6, .pointer (some ⟨B6, 0, none⟩)), (22, .int .i64 (j : Nat))]) (fun j w' => Bx w.heap.size w w' [(B6, [.string xs[k].name, .int .i64 xs[k].n0, .int .i64 xs[k].n1, .int .i64 xs[k].n2, vl, vt, .string xs[k].group, .string xs[k].apart, .int .i64 xs[k].rank], 34), (B4, part3 (sumOf (xs.take k)) xs[k] j, 29), (B2, three Sum3.zero, 29)] ∧ (j = 0 ∨ j = 1 ∨ j = 2 ∨ j = 3)) (fun j => 3 - j) (0) (by exact (.cons rfl (.cons rfl (.cons rfl (.cons rfl (.cons rfl (.cons rfl (.cons rfl (.cons rfl .nil))))))))) ⟨hb, .inl rfl⟩ (fun j w12 hJ => ?_)
        clear hb
        obtain ⟨hb, hj⟩ := hJ
        obtain rfl | rfl | rfl | rfl := id hj
        · have way0 := hj
          refine E.W.seq ?_
          refine E.W.region ?_
          refine E.WL.val (E.y_lss rfl rfl) rfl rfl rfl ?_
          refine E.WL.done ?_
          refine E.KQ.then_n ?_
          refine E.W.seq ?_
          refine E.W.condT 23 rfl (fun hc23 => ?_) (fun hc23 => ?_)
          · replace hc23 := of_decide_eq_true hc23
            refine E.W.skip ?_
            refine E.KQ.then_n ?_
            refine E.W.seq ?_
            refine E.W.block ?_
            refine E.W.seq ?_
            refine E.W.region ?_
            refine E.WL.val (E.y_move rfl) rfl rfl rfl ?_
            refine E.WL.val (E.y_assign rfl) rfl rfl rfl ?_
            refine E.WL.done ?_
            refine E.KQ.then_n ?_
            have hb0 := hb
            refine E.W.regionD (E.heads 9 []) rfl ?_
            replace hb := hb.drew
            have hE := E.Ext.drew w12
            refine E.DL.take 0 rfl (by kernel_rfl) (by kernel_rfl) (fun w' hw => E.y_move rfl) rfl rfl rfl (fun _ _ _ _ h => by obtain ⟨_, _, h, _⟩ := h; cases h) hE ?_
            refine E.DL.take 1 rfl (by kernel_rfl) (by kernel_rfl) (fun w' hw => E.y_idxA Tryz.underlying29 Tryz.sizeOf2 rfl rfl (by decide) (by decide)) rfl rfl rfl (fun _ _ _ _ h => by obtain ⟨_, _, h, _⟩ := h; cases h) hE ?_
            refine E.DL.take 2 rfl (by kernel_rfl) (by kernel_rfl) (fun w' hw => E.y_load rfl (E.At.ld1 Tryz.isAgg2 ((hb0.ext hw).at0 1 rfl) 0 rfl)) rfl rfl rfl (fun _ _ _ _ h => by obtain ⟨_, _, h, _⟩ := h; cases h) hE ?_
            refine E.DL.take 3 rfl (by kernel_rfl) (by kernel_rfl) (fun w' hw => E.y_move rfl) rfl rfl rfl (fun _ _ _ _ h => by obtain ⟨_, _, h, _⟩ := h; cases h) hE ?_
            refine E.DL.take 4 rfl (by kernel_rfl) (by kernel_rfl) (fun w' hw => E.y_fld Tryz.underlying34 rfl Tryz.sizeOf29 rfl) rfl rfl rfl (fun _ _ _ _ h => by obtain ⟨_, _, h, _⟩ := h; cases h) hE ?_
            refine E.DL.take 5 rfl (by kernel_rfl) (by kernel_rfl) (fun w' hw => E.y_idxA Tryz.underlying29 Tryz.sizeOf2 rfl rfl (by decide) (by decide)) rfl rfl rfl (fun _ _ _ _ h => by obtain ⟨_, _, h, _⟩ := h; cases h) hE ?_
            refine E.DL.take 6 rfl (by kernel_rfl) (by kernel_rfl) (fun w' hw => E.y_load rfl (E.At.ld1 Tryz.isAgg2 ((hb0.ext hw).at0 0 rfl) 1 rfl)) rfl rfl rfl (fun _ _ _ _ h => by obtain ⟨_, _, h, _⟩ := h; cases h) hE ?_
            refine E.DL.take 7 rfl (by kernel_rfl) (by kernel_rfl) (fun w' hw => E.y_add rfl rfl (Go.IntWalk.i64_in _ (by omega))) rfl rfl rfl (fun _ _ _ _ h => by obtain ⟨_, _, h, _⟩ := h; cases h) hE ?_
            refine E.DL.take 8 rfl (by kernel_rfl) (by kernel_rfl) (fun w' hw => E.y_idxA Tryz.underlying29 Tryz.sizeOf2 rfl rfl (by decide) (by decide)) rfl rfl rfl (fun _ _ _ _ h => by obtain ⟨_, _, h, _⟩ := h; cases h) hE ?_
            refine E.DL.only 9 rfl (by kernel_rfl) (fun hsh => ?_)
            refine E.WL.store hb 1 0 rfl rfl rfl Tryz.sizeOf2 rfl rfl rfl (E.allOne rfl) rfl ?_
            clear hb; intro w13 hb _
            refine E.WL.done ?_
            refine E.DL.next hsh (.inr rfl) ?_
            clear hsh
            refine E.DL.done (by kernel_rfl) ?_
            clear hE hb0
            refine E.KQ.block_n ?_
            refine E.KQ.then_n ?_
            refine E.W.region ?_
            refine E.WL.val (E.y_add rfl rfl (Go.IntWalk.i64_in _ (by omega))) rfl rfl rfl ?_
            refine E.WL.val (E.y_move rfl) rfl rfl rfl ?_
            refine E.WL.done ?_
            exact E.KQ.next 1 (by exact .cons rfl (.cons rfl (.cons rfl (.cons rfl (.cons rfl (.cons rfl (.cons rfl (.cons rfl .nil)))))))) ⟨hb, .inr (.inl rfl)⟩ (by decide)
          · replace hc23 := of_decide_eq_false hc23
            exact absurd (by decide) hc23
        · have way1 := hj
          refine E.W.seq ?_
          refine E.W.region ?_
          refine E.WL.val (E.y_lss rfl rfl) rfl rfl rfl ?_
          refine E.WL.done ?_
          refine E.KQ.then_n ?_
          refine E.W.seq ?_
          refine E.W.condT 23 rfl (fun hc23 => ?_) (fun hc23 => ?_)
          · replace hc23 := of_decide_eq_true hc23
            refine E.W.skip ?_
            refine E.KQ.then_n ?_
            refine E.W.seq ?_
            refine E.W.block ?_
            refine E.W.seq ?_
            refine E.W.region ?_
            refine E.WL.val (E.y_move rfl) rfl rfl rfl ?_
            refine E.WL.val (E.y_assign rfl) rfl rfl rfl ?_
            refine E.WL.done ?_
            refine E.KQ.then_n ?_
            have hb0 := hb
            refine E.W.regionD (E.heads 9 []) rfl ?_
            replace hb := hb.drew
            have hE := E.Ext.drew w12
            refine E.DL.take 0 rfl (by kernel_rfl) (by kernel_rfl) (fun w' hw => E.y_move rfl) rfl rfl rfl (fun _ _ _ _ h => by obtain ⟨_, _, h, _⟩ := h; cases h) hE ?_
            refine E.DL.take 1 rfl (by kernel_rfl) (by kernel_rfl) (fun w' hw => E.y_idxA Tryz.underlying29 Tryz.sizeOf2 rfl rfl (by decide) (by decide)) rfl rfl rfl (fun _ _ _ _ h => by obtain ⟨_, _, h, _⟩ := h; cases h) hE ?_
            refine E.DL.take 2 rfl (by kernel_rfl) (by kernel_rfl) (fun w' hw => E.y_load rfl (E.At.ld1 Tryz.isAgg2 ((hb0.ext hw).at0 1 rfl) 1 rfl)) rfl rfl rfl (fun _ _ _ _ h => by obtain ⟨_, _, h, _⟩ := h; cases h) hE ?_
            refine E.DL.take 3 rfl (by kernel_rfl) (by kernel_rfl) (fun w' hw => E.y_move rfl) rfl rfl rfl (fun _ _ _ _ h => by obtain ⟨_, _, h, _⟩ := h; cases h) hE ?_
            refine E.DL.take 4 rfl (by kernel_rfl) (by kernel_rfl) (fun w' hw => E.y_fld Tryz.underlying34 rfl Tryz.sizeOf29 rfl) rfl rfl rfl (fun _ _ _ _ h => by obtain ⟨_, _, h, _⟩ := h; cases h) hE ?_
            refine E.DL.take 5 rfl (by kernel_rfl) (by kernel_rfl) (fun w' hw => E.y_idxA Tryz.underlying29 Tryz.sizeOf2 rfl rfl (by decide) (by decide)) rfl rfl rfl (fun _ _ _ _ h => by obtain ⟨_, _, h, _⟩ := h; cases h) hE ?_
            refine E.DL.take 6 rfl (by kernel_rfl) (by kernel_rfl) (fun w' hw => E.y_load rfl (E.At.ld1 Tryz.isAgg2 ((hb0.ext hw).at0 0 rfl) 2 rfl)) rfl rfl rfl (fun _ _ _ _ h => by obtain ⟨_, _, h, _⟩ := h; cases h) hE ?_
            refine E.DL.take 7 rfl (by kernel_rfl) (by kernel_rfl) (fun w' hw => E.y_add rfl rfl (Go.IntWalk.i64_in _ (by omega))) rfl rfl rfl (fun _ _ _ _ h => by obtain ⟨_, _, h, _⟩ := h; cases h) hE ?_
            refine E.DL.take 8 rfl (by kernel_rfl) (by kernel_rfl) (fun w' hw => E.y_idxA Tryz.underlying29 Tryz.sizeOf2 rfl rfl (by decide) (by decide)) rfl rfl rfl (fun _ _ _ _ h => by obtain ⟨_, _, h, _⟩ := h; cases h) hE ?_
            refine E.DL.only 9 rfl (by kernel_rfl) (fun hsh => ?_)
            refine E.WL.store hb 1 1 rfl rfl rfl Tryz.sizeOf2 rfl rfl rfl (E.allOne rfl) rfl ?_
            clear hb; intro w14 hb _
            refine E.WL.done ?_
            refine E.DL.next hsh (.inr rfl) ?_
            clear hsh
            refine E.DL.done (by kernel_rfl) ?_
            clear hE hb0
            refine E.KQ.block_n ?_
            refine E.KQ.then_n ?_
            refine E.W.region ?_
            refine E.WL.val (E.y_add rfl rfl (Go.IntWalk.i64_in _ (by omega))) rfl rfl rfl ?_
            refine E.WL.val (E.y_move rfl) rfl rfl rfl ?_
            refine E.WL.done ?_
            exact E.KQ.next 2 (by exact .cons rfl (.cons rfl (.cons rfl (.cons rfl (.cons rfl (.cons rfl (.cons rfl (.cons rfl .nil)))))))) ⟨hb, .inr (.inr (.inl rfl))⟩ (by decide)
          · replace hc23 := of_decide_eq_false hc23
            exact absurd (by decide) hc23
        · have way2 := hj
          refine E.W.seq ?_
          refine E.W.region ?_
          refine E.WL.val (E.y_lss rfl rfl) rfl rfl rfl ?_
          refine E.WL.done ?_
          refine E.KQ.then_n ?_
          refine E.W.seq ?_
          refine E.W.condT 23 rfl (fun hc23 => ?_) (fun hc23 => ?_)
          · replace hc23 := of_decide_eq_true hc23
            refine E.W.skip ?_
            refine E.KQ.then_n ?_
            refine E.W.seq ?_
            refine E.W.block ?_
            refine E.W.seq ?_
            refine E.W.region ?_
            refine E.WL.val (E.y_move rfl) rfl rfl rfl ?_
            refine E.WL.val (E.y_assign rfl) rfl rfl rfl ?_
            refine E.WL.done ?_
            refine E.KQ.then_n ?_
            have hb0 := hb
            refine E.W.regionD (E.heads 9 []) rfl ?_
            replace hb := hb.drew
            have hE := E.Ext.drew w12
            refine E.DL.take 0 rfl (by kernel_rfl) (by kernel_rfl) (fun w' hw => E.y_move rfl) rfl rfl rfl (fun _ _ _ _ h => by obtain ⟨_, _, h, _⟩ := h; cases h) hE ?_
            refine E.DL.take 1 rfl (by kernel_rfl) (by kernel_rfl) (fun w' hw => E.y_idxA Tryz.underlying29 Tryz.sizeOf2 rfl rfl (by decide) (by decide)) rfl rfl rfl (fun _ _ _ _ h => by obtain ⟨_, _, h, _⟩ := h; cases h) hE ?_
            refine E.DL.take 2 rfl (by kernel_rfl) (by kernel_rfl) (fun w' hw => E.y_load rfl (E.At.ld1 Tryz.isAgg2 ((hb0.ext hw).at0 1 rfl) 2 rfl)) rfl rfl rfl (fun _ _ _ _ h => by obtain ⟨_, _, h, _⟩ := h; cases h) hE ?_
            refine E.DL.take 3 rfl (by kernel_rfl) (by kernel_rfl) (fun w' hw => E.y_move rfl) rfl rfl rfl (fun _ _ _ _ h => by obtain ⟨_, _, h, _⟩ := h; cases h) hE ?_
            refine E.DL.take 4 rfl (by kernel_rfl) (by kernel_rfl) (fun w' hw => E.y_fld Tryz.underlying34 rfl Tryz.sizeOf29 rfl) rfl rfl rfl (fun _ _ _ _ h => by obtain ⟨_, _, h, _⟩ := h; cases h) hE ?_
            refine E.DL.take 5 rfl (by kernel_rfl) (by kernel_rfl) (fun w' hw => E.y_idxA Tryz.underlying29 Tryz.sizeOf2 rfl rfl (by decide) (by decide)) rfl rfl rfl (fun _ _ _ _ h => by obtain ⟨_, _, h, _⟩ := h; cases h) hE ?_
            refine E.DL.take 6 rfl (by kernel_rfl) (by kernel_rfl) (fun w' hw => E.y_load rfl (E.At.ld1 Tryz.isAgg2 ((hb0.ext hw).at0 0 rfl) 3 rfl)) rfl rfl rfl (fun _ _ _ _ h => by obtain ⟨_, _, h, _⟩ := h; cases h) hE ?_
            refine E.DL.take 7 rfl (by kernel_rfl) (by kernel_rfl) (fun w' hw => E.y_add rfl rfl (Go.IntWalk.i64_in _ (by omega))) rfl rfl rfl (fun _ _ _ _ h => by obtain ⟨_, _, h, _⟩ := h; cases h) hE ?_
            refine E.DL.take 8 rfl (by kernel_rfl) (by kernel_rfl) (fun w' hw => E.y_idxA Tryz.underlying29 Tryz.sizeOf2 rfl rfl (by decide) (by decide)) rfl rfl rfl (fun _ _ _ _ h => by obtain ⟨_, _, h, _⟩ := h; cases h) hE ?_
            refine E.DL.only 9 rfl (by kernel_rfl) (fun hsh => ?_)
            refine E.WL.store hb 1 2 rfl rfl rfl Tryz.sizeOf2 rfl rfl rfl (E.allOne rfl) rfl ?_
            clear hb; intro w15 hb _
            refine E.WL.done ?_
            refine E.DL.next hsh (.inr rfl) ?_
            clear hsh
            refine E.DL.done (by kernel_rfl) ?_
            clear hE hb0
            refine E.KQ.block_n ?_
            refine E.KQ.then_n ?_
            refine E.W.region ?_
            refine E.WL.val (E.y_add rfl rfl (Go.IntWalk.i64_in _ (by omega))) rfl rfl rfl ?_
            refine E.WL.val (E.y_move rfl) rfl rfl rfl ?_
            refine E.WL.done ?_
            exact E.KQ.next 3 (by exact .cons rfl (.cons rfl (.cons rfl (.cons rfl (.cons rfl (.cons rfl (.cons rfl (.cons rfl .nil)))))))) ⟨hb, .inr (.inr (.inr rfl))⟩ (by decide)
          · replace hc23 := of_decide_eq_false hc23
            exact absurd (by decide) hc23
        · have way3 := hj
          refine E.W.seq ?_
          refine E.W.region ?_
          refine E.WL.val (E.y_lss rfl rfl) rfl rfl rfl ?_
          refine E.WL.done ?_
          refine E.KQ.then_n ?_
          refine E.W.seq ?_
          refine E.W.condT 23 rfl (fun hc23 => ?_) (fun hc23 => ?_)
          · replace hc23 := of_decide_eq_true hc23
            exact absurd hc23 (by decide)
          · replace hc23 := of_decide_eq_false hc23
            refine E.W.exit ?_
            refine E.KQ.then_e ?_
            refine E.KQ.loop_e ?_
            refine E.KQ.block_e ?_
            refine E.KQ.block_n ?_
            refine E.KQ.then_n ?_
            refine E.W.region ?_
            refine E.WL.val (E.y_add rfl rfl (Go.IntWalk.i64_in _ (by omega))) rfl rfl rfl ?_
            refine E.WL.val (E.y_move rfl) rfl rfl rfl ?_
            refine E.WL.done ?_
            replace hb := hb.drop (List.Sublist.cons _ (List.Sublist.refl _))
            refine E.KQ.next (k + 1) (by exact .cons rfl (.cons rfl (.cons rfl (.cons rfl (.cons rfl (.cons rfl .nil)))))) ⟨?_, by omega⟩ (by show xs.length - (k + 1) < xs.length - k; omega)
            rw [sumOf_take hkl]
            exact hb
      · replace hc19 := of_decide_eq_false hc19
        have hke : xs.take k = xs := List.take_of_length_le (by omega)
        rw [hke] at hb
        refine E.W.exit ?_
        refine E.KQ.then_e ?_
        refine E.KQ.loop_e ?_
        refine E.KQ.block_e ?_
        refine E.KQ.then_n ?_
        refine E.W.seq ?_
        refine E.W.region ?_
        refine E.WL.val (E.y_load rfl (E.At.ldk Tryz.isAgg29 Tryz.sizeOf29 (hb.at0 0 rfl) rfl)) rfl rfl rfl ?_
        refine E.WL.storeW hb 1 rfl rfl rfl Tryz.sizeOf29 rfl rfl rfl (E.allOne rfl) rfl ?_
        clear hb; intro w16 hb _
        refine E.WL.val (E.y_assign rfl) rfl rfl rfl ?_
        refine E.WL.done ?_
        refine E.KQ.then_n ?_
        refine E.W.ret ?_
        refine E.KQ.retct Tryz.results75 rfl (E.At.ldk Tryz.isAgg29 Tryz.sizeOf29 (hb.at0 1 rfl) rfl) rfl ?_
        exact ⟨_, rfl, by rw [hs], hb.below⟩

set_option maxHeartbeats 400000 in
theorem room_calls {F : FP} {w : World} {cn : List Value} {n : NodeD} (h : RNode F w cn n) (u v : Sum3) :
    Calls Tryz.prog 85 #[(.agg cn.toArray), (.agg (three u).toArray), (.agg (three v).toArray)] w (Ret fun r w' => r = .bool (roomB n u v) ∧ Ext w w') := by
  obtain ⟨vl, vt, rfl, hl, ht⟩ := h
  have hb := E.Bx.start w (base := w.heap.size) (Nat.le_refl _)
  refine E.enter Tryz.func85 rfl Tryz.ntmps85 [(.agg #[.string n.name, .int .i64 n.h0, .int .i64 n.h1, .int .i64 n.h2, vl, vt]), (.agg #[.int .i64 u.a, .int .i64 u.b, .int .i64 u.c]), (.agg #[.int .i64 v.a, .int .i64 v.b, .int .i64 v.c])] rfl ?_
  refine E.W.seq ?_
  refine E.W.region ?_
  refine E.WL.box hb rfl rfl rfl rfl ?_
  clear hb; intro B3 w2 hb _ _
  refine E.WL.box hb rfl rfl rfl rfl ?_
  clear hb; intro B4 w4 hb _ _
  refine E.WL.box hb rfl rfl rfl rfl ?_
  clear hb; intro B5 w6 hb _ _
  refine E.WL.val (E.y_assign rfl) rfl rfl rfl ?_
  refine E.WL.done ?_
  refine E.KQ.then_n ?_
  refine E.W.seq ?_
  refine E.W.region ?_
  refine E.WL.val (E.y_fld Tryz.underlying32 rfl Tryz.sizeOf29 rfl) rfl rfl rfl ?_
  refine E.WL.val (E.y_load rfl (E.At.ldk Tryz.isAgg29 Tryz.sizeOf29 ((hb.at0 2 rfl).sub rfl 1 3) rfl)) rfl rfl rfl ?_
  refine E.WL.call (amounts_calls w6 n.h0 n.h1 n.h2 1 (by decide)) Tryz.call78 rfl rfl rfl ?_
  rintro _ w7 ⟨rfl, hX⟩
  replace hb := hb.ext hX
  clear hX
  refine E.WL.val (E.y_move rfl) rfl rfl rfl ?_
  refine E.WL.split 12 rfl (fun h12 => ?_) (fun h12 => ?_)
  · skip
    refine E.WL.val (E.y_load rfl (E.At.ldk Tryz.isAgg29 Tryz.sizeOf29 (hb.at0 1 rfl) rfl)) rfl rfl rfl ?_
    refine E.WL.call (amounts_calls w7 u.a u.b u.c 32 (by decide)) Tryz.call78 rfl rfl rfl ?_
    rintro _ w8 ⟨rfl, hX⟩
    replace hb := hb.ext hX
    clear hX
    refine E.WL.val (E.y_pick_t rfl rfl) rfl rfl rfl ?_
    refine E.WL.val (E.y_move rfl) rfl rfl rfl ?_
    refine E.WL.split 16 rfl (fun h16 => ?_) (fun h16 => ?_)
    · skip
      refine E.WL.val (E.y_load rfl (E.At.ldk Tryz.isAgg29 Tryz.sizeOf29 (hb.at0 0 rfl) rfl)) rfl rfl rfl ?_
      refine E.WL.call (amounts_calls w8 v.a v.b v.c 1 (by decide)) Tryz.call78 rfl rfl rfl ?_
      rintro _ w9 ⟨rfl, hX⟩
      replace hb := hb.ext hX
      clear hX
      refine E.WL.val (E.y_pick_t rfl rfl) rfl rfl rfl ?_
      refine E.WL.val (E.y_assign rfl) rfl rfl rfl ?_
      refine E.WL.as 7 rfl (show _ = Value.bool (roomUp (amtB n.h0 n.h1 n.h2 1 && (amtB u.a u.b u.c 32 && amtB v.a v.b v.c 1)) (decide (u.a ≤ n.h0 - v.a)) (decide (u.b ≤ n.h1 - v.b)) (decide (u.c ≤ n.h2 - v.c)) 0) from by simp [roomUp, *]) ?_
      refine E.WL.done ?_
      refine E.KQ.then_n ?_
      refine E.W.seq ?_
      refine E.W.seq ?_
      refine E.W.region ?_
      refine E.WL.val (E.y_move rfl) rfl rfl rfl ?_
      refine E.WL.done ?_
      refine E.KQ.then_n ?_
      refine E.W.block ?_
      refine E.W.loop (ι := Nat) (fun j => [(3, .pointer (some ⟨B3, 0, none⟩)), (4, .pointer (some ⟨B4, 0, none⟩)), (5, .pointer (some ⟨B5, 0, none⟩)), (7, .bool (roomUp (amtB n.h0 n.h1 n.h2 1 && (amtB u.a u.b u.c 32 && amtB v.a v.b v.c 1)) (decide (u.a ≤ n.h0 - v.a)) (decide (u.b ≤ n.h1 - v.b)) (decide (u.c ≤ n.h2 - v.c)) j)), (20, .int .i64 (j : Nat))]) (fun j w' => Bx w.heap.size w w' [(B5, [.int .i64 v.a, .int .i64 v.b, .int .i64 v.c], 29), (B4, [.int .i64 u.a, .int .i64 u.b, .int .i64 u.c], 29), (B3, [.string n.name, .int .i64 n.h0, .int .i64 n.h1, .int .i64 n.h2, vl, vt], 32)] ∧ (j = 0 ∨ j = 1 ∨ j = 2 ∨ j = 3)) (fun j => 3 - j) (0) (by exact (.cons rfl (.cons rfl (.cons rfl (.cons rfl (.cons rfl .nil)))))) ⟨hb, .inl rfl⟩ (fun j w10 hJ => ?_)
      clear hb
      obtain ⟨hb, hj⟩ := hJ
      obtain rfl | rfl | rfl | rfl := id hj
      · have way0 := hj
        refine E.W.seq ?_
        refine E.W.region ?_
        refine E.WL.val (E.y_lss rfl rfl) rfl rfl rfl ?_
        refine E.WL.done ?_
        refine E.KQ.then_n ?_
        refine E.W.seq ?_
        refine E.W.condT 21 rfl (fun hc21 => ?_) (fun hc21 => ?_)
        · replace hc21 := of_decide_eq_true hc21
          refine E.W.skip ?_
          refine E.KQ.then_n ?_
          refine E.W.seq ?_
          refine E.W.block ?_
          refine E.W.seq ?_
          refine E.W.region ?_
          refine E.WL.val (E.y_move rfl) rfl rfl rfl ?_
          refine E.WL.val (E.y_assign rfl) rfl rfl rfl ?_
          refine E.WL.done ?_
          refine E.KQ.then_n ?_
          refine E.W.regionQ rfl (by kernel_rfl) ?_
          refine E.QL.val (fun w' hw => E.y_move rfl) rfl rfl rfl ?_
          refine E.QL.val (fun w' hw => E.y_move rfl) rfl rfl rfl ?_
          refine E.QL.split 24 rfl (fun h24 => ?_) (fun h24 => ?_)
          · skip
            have hA : (amtB n.h0 n.h1 n.h2 1 && (amtB u.a u.b u.c 32 && amtB v.a v.b v.c 1)) = true := roomUp_all h24
            simp only [Bool.and_eq_true] at hA
            have q1 := amtB_iff.1 hA.1
            have q2 := amtB_iff.1 hA.2.1
            have q3 := amtB_iff.1 hA.2.2
            refine E.QL.val (fun w' hw => E.y_move rfl) rfl rfl rfl ?_
            refine E.QL.val (fun w' hw => E.y_idxA Tryz.underlying29 Tryz.sizeOf2 rfl rfl (by decide) (by decide)) rfl rfl rfl ?_
            refine E.QL.val (fun w' hw => E.y_load rfl (E.At.ld1 Tryz.isAgg2 ((hb.ext hw).at0 1 rfl) 0 rfl)) rfl rfl rfl ?_
            refine E.QL.val (fun w' hw => E.y_move rfl) rfl rfl rfl ?_
            refine E.QL.val (fun w' hw => E.y_fld Tryz.underlying32 rfl Tryz.sizeOf29 rfl) rfl rfl rfl ?_
            refine E.QL.val (fun w' hw => E.y_idxA Tryz.underlying29 Tryz.sizeOf2 rfl rfl (by decide) (by decide)) rfl rfl rfl ?_
            refine E.QL.val (fun w' hw => E.y_load rfl (E.At.ld1 Tryz.isAgg2 ((hb.ext hw).at0 2 rfl) 1 rfl)) rfl rfl rfl ?_
            refine E.QL.val (fun w' hw => E.y_move rfl) rfl rfl rfl ?_
            refine E.QL.val (fun w' hw => E.y_idxA Tryz.underlying29 Tryz.sizeOf2 rfl rfl (by decide) (by decide)) rfl rfl rfl ?_
            refine E.QL.val (fun w' hw => E.y_load rfl (E.At.ld1 Tryz.isAgg2 ((hb.ext hw).at0 0 rfl) 0 rfl)) rfl rfl rfl ?_
            refine E.QL.val (fun w' hw => E.y_sub rfl rfl (Go.IntWalk.i64_in _ (by omega))) rfl rfl rfl ?_
            refine E.QL.val (fun w' hw => E.y_leq rfl rfl) rfl rfl rfl ?_
            refine E.QL.val (fun w' hw => E.y_pick_t rfl rfl) rfl rfl rfl ?_
            refine E.QL.val (fun w' hw => E.y_assign rfl) rfl rfl rfl ?_
            refine E.QL.end_ fun w11 hx => ?_
            replace hb := hb.ext hx
            clear hx
            refine E.KQ.block_n ?_
            refine E.KQ.then_n ?_
            refine E.W.region ?_
            refine E.WL.val (E.y_add rfl rfl (Go.IntWalk.i64_in _ (by omega))) rfl rfl rfl ?_
            refine E.WL.val (E.y_move rfl) rfl rfl rfl ?_
            refine E.WL.done ?_
            refine E.KQ.next 1 (by exact .cons rfl (.cons rfl (.cons rfl (.cons (Eq.trans rfl (congrArg (fun b => some (Value.bool (b && decide (u.a ≤ n.h0 - v.a)))) h24.symm)) (.cons rfl .nil))))) ⟨hb, .inr (.inl rfl)⟩ (by decide)
          · skip
            refine E.QL.off rfl rfl rfl ?_
            refine E.QL.off rfl rfl rfl ?_
            refine E.QL.off rfl rfl rfl ?_
            refine E.QL.off rfl rfl rfl ?_
            refine E.QL.off rfl rfl rfl ?_
            refine E.QL.off rfl rfl rfl ?_
            refine E.QL.off rfl rfl rfl ?_
            refine E.QL.off rfl rfl rfl ?_
            refine E.QL.off rfl rfl rfl ?_
            refine E.QL.off rfl rfl rfl ?_
            refine E.QL.off rfl rfl rfl ?_
            refine E.QL.off rfl rfl rfl ?_
            refine E.QL.val (fun w' hw => E.y_pick_f rfl rfl) rfl rfl rfl ?_
            refine E.QL.val (fun w' hw => E.y_assign rfl) rfl rfl rfl ?_
            refine E.QL.end_ fun w12 hx => ?_
            replace hb := hb.ext hx
            clear hx
            refine E.KQ.block_n ?_
            refine E.KQ.then_n ?_
            refine E.W.region ?_
            refine E.WL.val (E.y_add rfl rfl (Go.IntWalk.i64_in _ (by omega))) rfl rfl rfl ?_
            refine E.WL.val (E.y_move rfl) rfl rfl rfl ?_
            refine E.WL.done ?_
            refine E.KQ.next 1 (by exact .cons rfl (.cons rfl (.cons rfl (.cons (Eq.trans rfl (congrArg (fun b => some (Value.bool (b && decide (u.a ≤ n.h0 - v.a)))) h24.symm)) (.cons rfl .nil))))) ⟨hb, .inr (.inl rfl)⟩ (by decide)
        · replace hc21 := of_decide_eq_false hc21
          exact absurd (by decide) hc21
      · have way1 := hj
        refine E.W.seq ?_
        refine E.W.region ?_
        refine E.WL.val (E.y_lss rfl rfl) rfl rfl rfl ?_
        refine E.WL.done ?_
        refine E.KQ.then_n ?_
        refine E.W.seq ?_
        refine E.W.condT 21 rfl (fun hc21 => ?_) (fun hc21 => ?_)
        · replace hc21 := of_decide_eq_true hc21
          refine E.W.skip ?_
          refine E.KQ.then_n ?_
          refine E.W.seq ?_
          refine E.W.block ?_
          refine E.W.seq ?_
          refine E.W.region ?_
          refine E.WL.val (E.y_move rfl) rfl rfl rfl ?_
          refine E.WL.val (E.y_assign rfl) rfl rfl rfl ?_
          refine E.WL.done ?_
          refine E.KQ.then_n ?_
          refine E.W.regionQ rfl (by kernel_rfl) ?_
          refine E.QL.val (fun w' hw => E.y_move rfl) rfl rfl rfl ?_
          refine E.QL.val (fun w' hw => E.y_move rfl) rfl rfl rfl ?_
          refine E.QL.split 24 rfl (fun h24 => ?_) (fun h24 => ?_)
          · skip
            have hA : (amtB n.h0 n.h1 n.h2 1 && (amtB u.a u.b u.c 32 && amtB v.a v.b v.c 1)) = true := roomUp_all h24
            simp only [Bool.and_eq_true] at hA
            have q1 := amtB_iff.1 hA.1
            have q2 := amtB_iff.1 hA.2.1
            have q3 := amtB_iff.1 hA.2.2
            refine E.QL.val (fun w' hw => E.y_move rfl) rfl rfl rfl ?_
            refine E.QL.val (fun w' hw => E.y_idxA Tryz.underlying29 Tryz.sizeOf2 rfl rfl (by decide) (by decide)) rfl rfl rfl ?_
            refine E.QL.val (fun w' hw => E.y_load rfl (E.At.ld1 Tryz.isAgg2 ((hb.ext hw).at0 1 rfl) 1 rfl)) rfl rfl rfl ?_
            refine E.QL.val (fun w' hw => E.y_move rfl) rfl rfl rfl ?_
            refine E.QL.val (fun w' hw => E.y_fld Tryz.underlying32 rfl Tryz.sizeOf29 rfl) rfl rfl rfl ?_
            refine E.QL.val (fun w' hw => E.y_idxA Tryz.underlying29 Tryz.sizeOf2 rfl rfl (by decide) (by decide)) rfl rfl rfl ?_
            refine E.QL.val (fun w' hw => E.y_load rfl (E.At.ld1 Tryz.isAgg2 ((hb.ext hw).at0 2 rfl) 2 rfl)) rfl rfl rfl ?_
            refine E.QL.val (fun w' hw => E.y_move rfl) rfl rfl rfl ?_
            refine E.QL.val (fun w' hw => E.y_idxA Tryz.underlying29 Tryz.sizeOf2 rfl rfl (by decide) (by decide)) rfl rfl rfl ?_
            refine E.QL.val (fun w' hw => E.y_load rfl (E.At.ld1 Tryz.isAgg2 ((hb.ext hw).at0 0 rfl) 1 rfl)) rfl rfl rfl ?_
            refine E.QL.val (fun w' hw => E.y_sub rfl rfl (Go.IntWalk.i64_in _ (by omega))) rfl rfl rfl ?_
            refine E.QL.val (fun w' hw => E.y_leq rfl rfl) rfl rfl rfl ?_
            refine E.QL.val (fun w' hw => E.y_pick_t rfl rfl) rfl rfl rfl ?_
            refine E.QL.val (fun w' hw => E.y_assign rfl) rfl rfl rfl ?_
            refine E.QL.end_ fun w13 hx => ?_
            replace hb := hb.ext hx
            clear hx
            refine E.KQ.block_n ?_
            refine E.KQ.then_n ?_
            refine E.W.region ?_
            refine E.WL.val (E.y_add rfl rfl (Go.IntWalk.i64_in _ (by omega))) rfl rfl rfl ?_
            refine E.WL.val (E.y_move rfl) rfl rfl rfl ?_
            refine E.WL.done ?_
            refine E.KQ.next 2 (by exact .cons rfl (.cons rfl (.cons rfl (.cons (Eq.trans rfl (congrArg (fun b => some (Value.bool (b && decide (u.b ≤ n.h1 - v.b)))) h24.symm)) (.cons rfl .nil))))) ⟨hb, .inr (.inr (.inl rfl))⟩ (by decide)
          · skip
            refine E.QL.off rfl rfl rfl ?_
            refine E.QL.off rfl rfl rfl ?_
            refine E.QL.off rfl rfl rfl ?_
            refine E.QL.off rfl rfl rfl ?_
            refine E.QL.off rfl rfl rfl ?_
            refine E.QL.off rfl rfl rfl ?_
            refine E.QL.off rfl rfl rfl ?_
            refine E.QL.off rfl rfl rfl ?_
            refine E.QL.off rfl rfl rfl ?_
            refine E.QL.off rfl rfl rfl ?_
            refine E.QL.off rfl rfl rfl ?_
            refine E.QL.off rfl rfl rfl ?_
            refine E.QL.val (fun w' hw => E.y_pick_f rfl rfl) rfl rfl rfl ?_
            refine E.QL.val (fun w' hw => E.y_assign rfl) rfl rfl rfl ?_
            refine E.QL.end_ fun w14 hx => ?_
            replace hb := hb.ext hx
            clear hx
            refine E.KQ.block_n ?_
            refine E.KQ.then_n ?_
            refine E.W.region ?_
            refine E.WL.val (E.y_add rfl rfl (Go.IntWalk.i64_in _ (by omega))) rfl rfl rfl ?_
            refine E.WL.val (E.y_move rfl) rfl rfl rfl ?_
            refine E.WL.done ?_
            refine E.KQ.next 2 (by exact .cons rfl (.cons rfl (.cons rfl (.cons (Eq.trans rfl (congrArg (fun b => some (Value.bool (b && decide (u.b ≤ n.h1 - v.b)))) h24.symm)) (.cons rfl .nil))))) ⟨hb, .inr (.inr (.inl rfl))⟩ (by decide)
        · replace hc21 := of_decide_eq_false hc21
          exact absurd (by decide) hc21
      · have way2 := hj
        refine E.W.seq ?_
        refine E.W.region ?_
        refine E.WL.val (E.y_lss rfl rfl) rfl rfl rfl ?_
        refine E.WL.done ?_
        refine E.KQ.then_n ?_
        refine E.W.seq ?_
        refine E.W.condT 21 rfl (fun hc21 => ?_) (fun hc21 => ?_)
        · replace hc21 := of_decide_eq_true hc21
          refine E.W.skip ?_
          refine E.KQ.then_n ?_
          refine E.W.seq ?_
          refine E.W.block ?_
          refine E.W.seq ?_
          refine E.W.region ?_
          refine E.WL.val (E.y_move rfl) rfl rfl rfl ?_
          refine E.WL.val (E.y_assign rfl) rfl rfl rfl ?_
          refine E.WL.done ?_
          refine E.KQ.then_n ?_
          refine E.W.regionQ rfl (by kernel_rfl) ?_
          refine E.QL.val (fun w' hw => E.y_move rfl) rfl rfl rfl ?_
          refine E.QL.val (fun w' hw => E.y_move rfl) rfl rfl rfl ?_
          refine E.QL.split 24 rfl (fun h24 => ?_) (fun h24 => ?_)
          · skip
            have hA : (amtB n.h0 n.h1 n.h2 1 && (amtB u.a u.b u.c 32 && amtB v.a v.b v.c 1)) = true := roomUp_all h24
            simp only [Bool.and_eq_true] at hA
            have q1 := amtB_iff.1 hA.1
            have q2 := amtB_iff.1 hA.2.1
            have q3 := amtB_iff.1 hA.2.2
            refine E.QL.val (fun w' hw => E.y_move rfl) rfl rfl rfl ?_
            refine E.QL.val (fun w' hw => E.y_idxA Tryz.underlying29 Tryz.sizeOf2 rfl rfl (by decide) (by decide)) rfl rfl rfl ?_
            refine E.QL.val (fun w' hw => E.y_load rfl (E.At.ld1 Tryz.isAgg2 ((hb.ext hw).at0 1 rfl) 2 rfl)) rfl rfl rfl ?_
            refine E.QL.val (fun w' hw => E.y_move rfl) rfl rfl rfl ?_
            refine E.QL.val (fun w' hw => E.y_fld Tryz.underlying32 rfl Tryz.sizeOf29 rfl) rfl rfl rfl ?_
            refine E.QL.val (fun w' hw => E.y_idxA Tryz.underlying29 Tryz.sizeOf2 rfl rfl (by decide) (by decide)) rfl rfl rfl ?_
            refine E.QL.val (fun w' hw => E.y_load rfl (E.At.ld1 Tryz.isAgg2 ((hb.ext hw).at0 2 rfl) 3 rfl)) rfl rfl rfl ?_
            refine E.QL.val (fun w' hw => E.y_move rfl) rfl rfl rfl ?_
            refine E.QL.val (fun w' hw => E.y_idxA Tryz.underlying29 Tryz.sizeOf2 rfl rfl (by decide) (by decide)) rfl rfl rfl ?_
            refine E.QL.val (fun w' hw => E.y_load rfl (E.At.ld1 Tryz.isAgg2 ((hb.ext hw).at0 0 rfl) 2 rfl)) rfl rfl rfl ?_
            refine E.QL.val (fun w' hw => E.y_sub rfl rfl (Go.IntWalk.i64_in _ (by omega))) rfl rfl rfl ?_
            refine E.QL.val (fun w' hw => E.y_leq rfl rfl) rfl rfl rfl ?_
            refine E.QL.val (fun w' hw => E.y_pick_t rfl rfl) rfl rfl rfl ?_
            refine E.QL.val (fun w' hw => E.y_assign rfl) rfl rfl rfl ?_
            refine E.QL.end_ fun w15 hx => ?_
            replace hb := hb.ext hx
            clear hx
            refine E.KQ.block_n ?_
            refine E.KQ.then_n ?_
            refine E.W.region ?_
            refine E.WL.val (E.y_add rfl rfl (Go.IntWalk.i64_in _ (by omega))) rfl rfl rfl ?_
            refine E.WL.val (E.y_move rfl) rfl rfl rfl ?_
            refine E.WL.done ?_
            refine E.KQ.next 3 (by exact .cons rfl (.cons rfl (.cons rfl (.cons (Eq.trans rfl (congrArg (fun b => some (Value.bool (b && decide (u.c ≤ n.h2 - v.c)))) h24.symm)) (.cons rfl .nil))))) ⟨hb, .inr (.inr (.inr rfl))⟩ (by decide)
          · skip
            refine E.QL.off rfl rfl rfl ?_
            refine E.QL.off rfl rfl rfl ?_
            refine E.QL.off rfl rfl rfl ?_
            refine E.QL.off rfl rfl rfl ?_
            refine E.QL.off rfl rfl rfl ?_
            refine E.QL.off rfl rfl rfl ?_
            refine E.QL.off rfl rfl rfl ?_
            refine E.QL.off rfl rfl rfl ?_
            refine E.QL.off rfl rfl rfl ?_
            refine E.QL.off rfl rfl rfl ?_
            refine E.QL.off rfl rfl rfl ?_
            refine E.QL.off rfl rfl rfl ?_
            refine E.QL.val (fun w' hw => E.y_pick_f rfl rfl) rfl rfl rfl ?_
            refine E.QL.val (fun w' hw => E.y_assign rfl) rfl rfl rfl ?_
            refine E.QL.end_ fun w16 hx => ?_
            replace hb := hb.ext hx
            clear hx
            refine E.KQ.block_n ?_
            refine E.KQ.then_n ?_
            refine E.W.region ?_
            refine E.WL.val (E.y_add rfl rfl (Go.IntWalk.i64_in _ (by omega))) rfl rfl rfl ?_
            refine E.WL.val (E.y_move rfl) rfl rfl rfl ?_
            refine E.WL.done ?_
            refine E.KQ.next 3 (by exact .cons rfl (.cons rfl (.cons rfl (.cons (Eq.trans rfl (congrArg (fun b => some (Value.bool (b && decide (u.c ≤ n.h2 - v.c)))) h24.symm)) (.cons rfl .nil))))) ⟨hb, .inr (.inr (.inr rfl))⟩ (by decide)
        · replace hc21 := of_decide_eq_false hc21
          exact absurd (by decide) hc21
      · have way3 := hj
        refine E.W.seq ?_
        refine E.W.region ?_
        refine E.WL.val (E.y_lss rfl rfl) rfl rfl rfl ?_
        refine E.WL.done ?_
        refine E.KQ.then_n ?_
        refine E.W.seq ?_
        refine E.W.condT 21 rfl (fun hc21 => ?_) (fun hc21 => ?_)
        · replace hc21 := of_decide_eq_true hc21
          exact absurd hc21 (by decide)
        · replace hc21 := of_decide_eq_false hc21
          refine E.W.exit ?_
          refine E.KQ.then_e ?_
          refine E.KQ.loop_e ?_
          refine E.KQ.block_e ?_
          refine E.KQ.then_n ?_
          refine E.W.seq ?_
          refine E.W.region ?_
          refine E.WL.val (E.y_move rfl) rfl rfl rfl ?_
          refine E.WL.val (E.y_assign rfl) rfl rfl rfl ?_
          refine E.WL.done ?_
          refine E.KQ.then_n ?_
          refine E.W.ret ?_
          refine E.KQ.ret1 Tryz.results85 rfl ?_
          exact ⟨_, rfl, by unfold roomB roomUp; simp only [Bool.and_assoc], hb.below⟩
    · skip
      refine E.WL.off rfl rfl rfl ?_
      refine E.WL.off rfl rfl rfl ?_
      refine E.WL.val (E.y_pick_f rfl rfl) rfl rfl rfl ?_
      refine E.WL.val (E.y_assign rfl) rfl rfl rfl ?_
      refine E.WL.as 7 rfl (show _ = Value.bool (roomUp (amtB n.h0 n.h1 n.h2 1 && (amtB u.a u.b u.c 32 && amtB v.a v.b v.c 1)) (decide (u.a ≤ n.h0 - v.a)) (decide (u.b ≤ n.h1 - v.b)) (decide (u.c ≤ n.h2 - v.c)) 0) from by simp [roomUp, *]) ?_
      refine E.WL.done ?_
      refine E.KQ.then_n ?_
      refine E.W.seq ?_
      refine E.W.seq ?_
      refine E.W.region ?_
      refine E.WL.val (E.y_move rfl) rfl rfl rfl ?_
      refine E.WL.done ?_
      refine E.KQ.then_n ?_
      refine E.W.block ?_
      refine E.W.loop (ι := Nat) (fun j => [(3, .pointer (some ⟨B3, 0, none⟩)), (4, .pointer (some ⟨B4, 0, none⟩)), (5, .pointer (some ⟨B5, 0, none⟩)), (7, .bool (roomUp (amtB n.h0 n.h1 n.h2 1 && (amtB u.a u.b u.c 32 && amtB v.a v.b v.c 1)) (decide (u.a ≤ n.h0 - v.a)) (decide (u.b ≤ n.h1 - v.b)) (decide (u.c ≤ n.h2 - v.c)) j)), (20, .int .i64 (j : Nat))]) (fun j w' => Bx w.heap.size w w' [(B5, [.int .i64 v.a, .int .i64 v.b, .int .i64 v.c], 29), (B4, [.int .i64 u.a, .int .i64 u.b, .int .i64 u.c], 29), (B3, [.string n.name, .int .i64 n.h0, .int .i64 n.h1, .int .i64 n.h2, vl, vt], 32)] ∧ (j = 0 ∨ j = 1 ∨ j = 2 ∨ j = 3)) (fun j => 3 - j) (0) (by exact (.cons rfl (.cons rfl (.cons rfl (.cons rfl (.cons rfl .nil)))))) ⟨hb, .inl rfl⟩ (fun j w17 hJ => ?_)
      clear hb
      obtain ⟨hb, hj⟩ := hJ
      obtain rfl | rfl | rfl | rfl := id hj
      · have way0 := hj
        refine E.W.seq ?_
        refine E.W.region ?_
        refine E.WL.val (E.y_lss rfl rfl) rfl rfl rfl ?_
        refine E.WL.done ?_
        refine E.KQ.then_n ?_
        refine E.W.seq ?_
        refine E.W.condT 21 rfl (fun hc21 => ?_) (fun hc21 => ?_)
        · replace hc21 := of_decide_eq_true hc21
          refine E.W.skip ?_
          refine E.KQ.then_n ?_
          refine E.W.seq ?_
          refine E.W.block ?_
          refine E.W.seq ?_
          refine E.W.region ?_
          refine E.WL.val (E.y_move rfl) rfl rfl rfl ?_
          refine E.WL.val (E.y_assign rfl) rfl rfl rfl ?_
          refine E.WL.done ?_
          refine E.KQ.then_n ?_
          refine E.W.regionQ rfl (by kernel_rfl) ?_
          refine E.QL.val (fun w' hw => E.y_move rfl) rfl rfl rfl ?_
          refine E.QL.val (fun w' hw => E.y_move rfl) rfl rfl rfl ?_
          refine E.QL.split 24 rfl (fun h24 => ?_) (fun h24 => ?_)
          · skip
            have hA : (amtB n.h0 n.h1 n.h2 1 && (amtB u.a u.b u.c 32 && amtB v.a v.b v.c 1)) = true := roomUp_all h24
            simp only [Bool.and_eq_true] at hA
            have q1 := amtB_iff.1 hA.1
            have q2 := amtB_iff.1 hA.2.1
            have q3 := amtB_iff.1 hA.2.2
            refine E.QL.val (fun w' hw => E.y_move rfl) rfl rfl rfl ?_
            refine E.QL.val (fun w' hw => E.y_idxA Tryz.underlying29 Tryz.sizeOf2 rfl rfl (by decide) (by decide)) rfl rfl rfl ?_
            refine E.QL.val (fun w' hw => E.y_load rfl (E.At.ld1 Tryz.isAgg2 ((hb.ext hw).at0 1 rfl) 0 rfl)) rfl rfl rfl ?_
            refine E.QL.val (fun w' hw => E.y_move rfl) rfl rfl rfl ?_
            refine E.QL.val (fun w' hw => E.y_fld Tryz.underlying32 rfl Tryz.sizeOf29 rfl) rfl rfl rfl ?_
            refine E.QL.val (fun w' hw => E.y_idxA Tryz.underlying29 Tryz.sizeOf2 rfl rfl (by decide) (by decide)) rfl rfl rfl ?_
            refine E.QL.val (fun w' hw => E.y_load rfl (E.At.ld1 Tryz.isAgg2 ((hb.ext hw).at0 2 rfl) 1 rfl)) rfl rfl rfl ?_
            refine E.QL.val (fun w' hw => E.y_move rfl) rfl rfl rfl ?_
            refine E.QL.val (fun w' hw => E.y_idxA Tryz.underlying29 Tryz.sizeOf2 rfl rfl (by decide) (by decide)) rfl rfl rfl ?_
            refine E.QL.val (fun w' hw => E.y_load rfl (E.At.ld1 Tryz.isAgg2 ((hb.ext hw).at0 0 rfl) 0 rfl)) rfl rfl rfl ?_
            refine E.QL.val (fun w' hw => E.y_sub rfl rfl (Go.IntWalk.i64_in _ (by omega))) rfl rfl rfl ?_
            refine E.QL.val (fun w' hw => E.y_leq rfl rfl) rfl rfl rfl ?_
            refine E.QL.val (fun w' hw => E.y_pick_t rfl rfl) rfl rfl rfl ?_
            refine E.QL.val (fun w' hw => E.y_assign rfl) rfl rfl rfl ?_
            refine E.QL.end_ fun w18 hx => ?_
            replace hb := hb.ext hx
            clear hx
            refine E.KQ.block_n ?_
            refine E.KQ.then_n ?_
            refine E.W.region ?_
            refine E.WL.val (E.y_add rfl rfl (Go.IntWalk.i64_in _ (by omega))) rfl rfl rfl ?_
            refine E.WL.val (E.y_move rfl) rfl rfl rfl ?_
            refine E.WL.done ?_
            refine E.KQ.next 1 (by exact .cons rfl (.cons rfl (.cons rfl (.cons (Eq.trans rfl (congrArg (fun b => some (Value.bool (b && decide (u.a ≤ n.h0 - v.a)))) h24.symm)) (.cons rfl .nil))))) ⟨hb, .inr (.inl rfl)⟩ (by decide)
          · skip
            refine E.QL.off rfl rfl rfl ?_
            refine E.QL.off rfl rfl rfl ?_
            refine E.QL.off rfl rfl rfl ?_
            refine E.QL.off rfl rfl rfl ?_
            refine E.QL.off rfl rfl rfl ?_
            refine E.QL.off rfl rfl rfl ?_
            refine E.QL.off rfl rfl rfl ?_
            refine E.QL.off rfl rfl rfl ?_
            refine E.QL.off rfl rfl rfl ?_
            refine E.QL.off rfl rfl rfl ?_
            refine E.QL.off rfl rfl rfl ?_
            refine E.QL.off rfl rfl rfl ?_
            refine E.QL.val (fun w' hw => E.y_pick_f rfl rfl) rfl rfl rfl ?_
            refine E.QL.val (fun w' hw => E.y_assign rfl) rfl rfl rfl ?_
            refine E.QL.end_ fun w19 hx => ?_
            replace hb := hb.ext hx
            clear hx
            refine E.KQ.block_n ?_
            refine E.KQ.then_n ?_
            refine E.W.region ?_
            refine E.WL.val (E.y_add rfl rfl (Go.IntWalk.i64_in _ (by omega))) rfl rfl rfl ?_
            refine E.WL.val (E.y_move rfl) rfl rfl rfl ?_
            refine E.WL.done ?_
            refine E.KQ.next 1 (by exact .cons rfl (.cons rfl (.cons rfl (.cons (Eq.trans rfl (congrArg (fun b => some (Value.bool (b && decide (u.a ≤ n.h0 - v.a)))) h24.symm)) (.cons rfl .nil))))) ⟨hb, .inr (.inl rfl)⟩ (by decide)
        · replace hc21 := of_decide_eq_false hc21
          exact absurd (by decide) hc21
      · have way1 := hj
        refine E.W.seq ?_
        refine E.W.region ?_
        refine E.WL.val (E.y_lss rfl rfl) rfl rfl rfl ?_
        refine E.WL.done ?_
        refine E.KQ.then_n ?_
        refine E.W.seq ?_
        refine E.W.condT 21 rfl (fun hc21 => ?_) (fun hc21 => ?_)
        · replace hc21 := of_decide_eq_true hc21
          refine E.W.skip ?_
          refine E.KQ.then_n ?_
          refine E.W.seq ?_
          refine E.W.block ?_
          refine E.W.seq ?_
          refine E.W.region ?_
          refine E.WL.val (E.y_move rfl) rfl rfl rfl ?_
          refine E.WL.val (E.y_assign rfl) rfl rfl rfl ?_
          refine E.WL.done ?_
          refine E.KQ.then_n ?_
          refine E.W.regionQ rfl (by kernel_rfl) ?_
          refine E.QL.val (fun w' hw => E.y_move rfl) rfl rfl rfl ?_
          refine E.QL.val (fun w' hw => E.y_move rfl) rfl rfl rfl ?_
          refine E.QL.split 24 rfl (fun h24 => ?_) (fun h24 => ?_)
          · skip
            have hA : (amtB n.h0 n.h1 n.h2 1 && (amtB u.a u.b u.c 32 && amtB v.a v.b v.c 1)) = true := roomUp_all h24
            simp only [Bool.and_eq_true] at hA
            have q1 := amtB_iff.1 hA.1
            have q2 := amtB_iff.1 hA.2.1
            have q3 := amtB_iff.1 hA.2.2
            refine E.QL.val (fun w' hw => E.y_move rfl) rfl rfl rfl ?_
            refine E.QL.val (fun w' hw => E.y_idxA Tryz.underlying29 Tryz.sizeOf2 rfl rfl (by decide) (by decide)) rfl rfl rfl ?_
            refine E.QL.val (fun w' hw => E.y_load rfl (E.At.ld1 Tryz.isAgg2 ((hb.ext hw).at0 1 rfl) 1 rfl)) rfl rfl rfl ?_
            refine E.QL.val (fun w' hw => E.y_move rfl) rfl rfl rfl ?_
            refine E.QL.val (fun w' hw => E.y_fld Tryz.underlying32 rfl Tryz.sizeOf29 rfl) rfl rfl rfl ?_
            refine E.QL.val (fun w' hw => E.y_idxA Tryz.underlying29 Tryz.sizeOf2 rfl rfl (by decide) (by decide)) rfl rfl rfl ?_
            refine E.QL.val (fun w' hw => E.y_load rfl (E.At.ld1 Tryz.isAgg2 ((hb.ext hw).at0 2 rfl) 2 rfl)) rfl rfl rfl ?_
            refine E.QL.val (fun w' hw => E.y_move rfl) rfl rfl rfl ?_
            refine E.QL.val (fun w' hw => E.y_idxA Tryz.underlying29 Tryz.sizeOf2 rfl rfl (by decide) (by decide)) rfl rfl rfl ?_
            refine E.QL.val (fun w' hw => E.y_load rfl (E.At.ld1 Tryz.isAgg2 ((hb.ext hw).at0 0 rfl) 1 rfl)) rfl rfl rfl ?_
            refine E.QL.val (fun w' hw => E.y_sub rfl rfl (Go.IntWalk.i64_in _ (by omega))) rfl rfl rfl ?_
            refine E.QL.val (fun w' hw => E.y_leq rfl rfl) rfl rfl rfl ?_
            refine E.QL.val (fun w' hw => E.y_pick_t rfl rfl) rfl rfl rfl ?_
            refine E.QL.val (fun w' hw => E.y_assign rfl) rfl rfl rfl ?_
            refine E.QL.end_ fun w20 hx => ?_
            replace hb := hb.ext hx
            clear hx
            refine E.KQ.block_n ?_
            refine E.KQ.then_n ?_
            refine E.W.region ?_
            refine E.WL.val (E.y_add rfl rfl (Go.IntWalk.i64_in _ (by omega))) rfl rfl rfl ?_
            refine E.WL.val (E.y_move rfl) rfl rfl rfl ?_
            refine E.WL.done ?_
            refine E.KQ.next 2 (by exact .cons rfl (.cons rfl (.cons rfl (.cons (Eq.trans rfl (congrArg (fun b => some (Value.bool (b && decide (u.b ≤ n.h1 - v.b)))) h24.symm)) (.cons rfl .nil))))) ⟨hb, .inr (.inr (.inl rfl))⟩ (by decide)
          · skip
            refine E.QL.off rfl rfl rfl ?_
            refine E.QL.off rfl rfl rfl ?_
            refine E.QL.off rfl rfl rfl ?_
            refine E.QL.off rfl rfl rfl ?_
            refine E.QL.off rfl rfl rfl ?_
            refine E.QL.off rfl rfl rfl ?_
            refine E.QL.off rfl rfl rfl ?_
            refine E.QL.off rfl rfl rfl ?_
            refine E.QL.off rfl rfl rfl ?_
            refine E.QL.off rfl rfl rfl ?_
            refine E.QL.off rfl rfl rfl ?_
            refine E.QL.off rfl rfl rfl ?_
            refine E.QL.val (fun w' hw => E.y_pick_f rfl rfl) rfl rfl rfl ?_
            refine E.QL.val (fun w' hw => E.y_assign rfl) rfl rfl rfl ?_
            refine E.QL.end_ fun w21 hx => ?_
            replace hb := hb.ext hx
            clear hx
            refine E.KQ.block_n ?_
            refine E.KQ.then_n ?_
            refine E.W.region ?_
            refine E.WL.val (E.y_add rfl rfl (Go.IntWalk.i64_in _ (by omega))) rfl rfl rfl ?_
            refine E.WL.val (E.y_move rfl) rfl rfl rfl ?_
            refine E.WL.done ?_
            refine E.KQ.next 2 (by exact .cons rfl (.cons rfl (.cons rfl (.cons (Eq.trans rfl (congrArg (fun b => some (Value.bool (b && decide (u.b ≤ n.h1 - v.b)))) h24.symm)) (.cons rfl .nil))))) ⟨hb, .inr (.inr (.inl rfl))⟩ (by decide)
        · replace hc21 := of_decide_eq_false hc21
          exact absurd (by decide) hc21
      · have way2 := hj
        refine E.W.seq ?_
        refine E.W.region ?_
        refine E.WL.val (E.y_lss rfl rfl) rfl rfl rfl ?_
        refine E.WL.done ?_
        refine E.KQ.then_n ?_
        refine E.W.seq ?_
        refine E.W.condT 21 rfl (fun hc21 => ?_) (fun hc21 => ?_)
        · replace hc21 := of_decide_eq_true hc21
          refine E.W.skip ?_
          refine E.KQ.then_n ?_
          refine E.W.seq ?_
          refine E.W.block ?_
          refine E.W.seq ?_
          refine E.W.region ?_
          refine E.WL.val (E.y_move rfl) rfl rfl rfl ?_
          refine E.WL.val (E.y_assign rfl) rfl rfl rfl ?_
          refine E.WL.done ?_
          refine E.KQ.then_n ?_
          refine E.W.regionQ rfl (by kernel_rfl) ?_
          refine E.QL.val (fun w' hw => E.y_move rfl) rfl rfl rfl ?_
          refine E.QL.val (fun w' hw => E.y_move rfl) rfl rfl rfl ?_
          refine E.QL.split 24 rfl (fun h24 => ?_) (fun h24 => ?_)
          · skip
            have hA : (amtB n.h0 n.h1 n.h2 1 && (amtB u.a u.b u.c 32 && amtB v.a v.b v.c 1)) = true := roomUp_all h24
            simp only [Bool.and_eq_true] at hA
            have q1 := amtB_iff.1 hA.1
            have q2 := amtB_iff.1 hA.2.1
            have q3 := amtB_iff.1 hA.2.2
            refine E.QL.val (fun w' hw => E.y_move rfl) rfl rfl rfl ?_
            refine E.QL.val (fun w' hw => E.y_idxA Tryz.underlying29 Tryz.sizeOf2 rfl rfl (by decide) (by decide)) rfl rfl rfl ?_
            refine E.QL.val (fun w' hw => E.y_load rfl (E.At.ld1 Tryz.isAgg2 ((hb.ext hw).at0 1 rfl) 2 rfl)) rfl rfl rfl ?_
            refine E.QL.val (fun w' hw => E.y_move rfl) rfl rfl rfl ?_
            refine E.QL.val (fun w' hw => E.y_fld Tryz.underlying32 rfl Tryz.sizeOf29 rfl) rfl rfl rfl ?_
            refine E.QL.val (fun w' hw => E.y_idxA Tryz.underlying29 Tryz.sizeOf2 rfl rfl (by decide) (by decide)) rfl rfl rfl ?_
            refine E.QL.val (fun w' hw => E.y_load rfl (E.At.ld1 Tryz.isAgg2 ((hb.ext hw).at0 2 rfl) 3 rfl)) rfl rfl rfl ?_
            refine E.QL.val (fun w' hw => E.y_move rfl) rfl rfl rfl ?_
            refine E.QL.val (fun w' hw => E.y_idxA Tryz.underlying29 Tryz.sizeOf2 rfl rfl (by decide) (by decide)) rfl rfl rfl ?_
            refine E.QL.val (fun w' hw => E.y_load rfl (E.At.ld1 Tryz.isAgg2 ((hb.ext hw).at0 0 rfl) 2 rfl)) rfl rfl rfl ?_
            refine E.QL.val (fun w' hw => E.y_sub rfl rfl (Go.IntWalk.i64_in _ (by omega))) rfl rfl rfl ?_
            refine E.QL.val (fun w' hw => E.y_leq rfl rfl) rfl rfl rfl ?_
            refine E.QL.val (fun w' hw => E.y_pick_t rfl rfl) rfl rfl rfl ?_
            refine E.QL.val (fun w' hw => E.y_assign rfl) rfl rfl rfl ?_
            refine E.QL.end_ fun w22 hx => ?_
            replace hb := hb.ext hx
            clear hx
            refine E.KQ.block_n ?_
            refine E.KQ.then_n ?_
            refine E.W.region ?_
            refine E.WL.val (E.y_add rfl rfl (Go.IntWalk.i64_in _ (by omega))) rfl rfl rfl ?_
            refine E.WL.val (E.y_move rfl) rfl rfl rfl ?_
            refine E.WL.done ?_
            refine E.KQ.next 3 (by exact .cons rfl (.cons rfl (.cons rfl (.cons (Eq.trans rfl (congrArg (fun b => some (Value.bool (b && decide (u.c ≤ n.h2 - v.c)))) h24.symm)) (.cons rfl .nil))))) ⟨hb, .inr (.inr (.inr rfl))⟩ (by decide)
          · skip
            refine E.QL.off rfl rfl rfl ?_
            refine E.QL.off rfl rfl rfl ?_
            refine E.QL.off rfl rfl rfl ?_
            refine E.QL.off rfl rfl rfl ?_
            refine E.QL.off rfl rfl rfl ?_
            refine E.QL.off rfl rfl rfl ?_
            refine E.QL.off rfl rfl rfl ?_
            refine E.QL.off rfl rfl rfl ?_
            refine E.QL.off rfl rfl rfl ?_
            refine E.QL.off rfl rfl rfl ?_
            refine E.QL.off rfl rfl rfl ?_
            refine E.QL.off rfl rfl rfl ?_
            refine E.QL.val (fun w' hw => E.y_pick_f rfl rfl) rfl rfl rfl ?_
            refine E.QL.val (fun w' hw => E.y_assign rfl) rfl rfl rfl ?_
            refine E.QL.end_ fun w23 hx => ?_
            replace hb := hb.ext hx
            clear hx
            refine E.KQ.block_n ?_
            refine E.KQ.then_n ?_
            refine E.W.region ?_
            refine E.WL.val (E.y_add rfl rfl (Go.IntWalk.i64_in _ (by omega))) rfl rfl rfl ?_
            refine E.WL.val (E.y_move rfl) rfl rfl rfl ?_
            refine E.WL.done ?_
            refine E.KQ.next 3 (by exact .cons rfl (.cons rfl (.cons rfl (.cons (Eq.trans rfl (congrArg (fun b => some (Value.bool (b && decide (u.c ≤ n.h2 - v.c)))) h24.symm)) (.cons rfl .nil))))) ⟨hb, .inr (.inr (.inr rfl))⟩ (by decide)
        · replace hc21 := of_decide_eq_false hc21
          exact absurd (by decide) hc21
      · have way3 := hj
        refine E.W.seq ?_
        refine E.W.region ?_
        refine E.WL.val (E.y_lss rfl rfl) rfl rfl rfl ?_
        refine E.WL.done ?_
        refine E.KQ.then_n ?_
        refine E.W.seq ?_
        refine E.W.condT 21 rfl (fun hc21 => ?_) (fun hc21 => ?_)
        · replace hc21 := of_decide_eq_true hc21
          exact absurd hc21 (by decide)
        · replace hc21 := of_decide_eq_false hc21
          refine E.W.exit ?_
          refine E.KQ.then_e ?_
          refine E.KQ.loop_e ?_
          refine E.KQ.block_e ?_
          refine E.KQ.then_n ?_
          refine E.W.seq ?_
          refine E.W.region ?_
          refine E.WL.val (E.y_move rfl) rfl rfl rfl ?_
          refine E.WL.val (E.y_assign rfl) rfl rfl rfl ?_
          refine E.WL.done ?_
          refine E.KQ.then_n ?_
          refine E.W.ret ?_
          refine E.KQ.ret1 Tryz.results85 rfl ?_
          exact ⟨_, rfl, by unfold roomB roomUp; simp only [Bool.and_assoc], hb.below⟩
  · skip
    refine E.WL.off rfl rfl rfl ?_
    refine E.WL.off rfl rfl rfl ?_
    refine E.WL.val (E.y_pick_f rfl rfl) rfl rfl rfl ?_
    refine E.WL.val (E.y_move rfl) rfl rfl rfl ?_
    refine E.WL.off rfl rfl rfl ?_
    refine E.WL.off rfl rfl rfl ?_
    refine E.WL.val (E.y_pick_f rfl rfl) rfl rfl rfl ?_
    refine E.WL.val (E.y_assign rfl) rfl rfl rfl ?_
    refine E.WL.as 7 rfl (show _ = Value.bool (roomUp (amtB n.h0 n.h1 n.h2 1 && (amtB u.a u.b u.c 32 && amtB v.a v.b v.c 1)) (decide (u.a ≤ n.h0 - v.a)) (decide (u.b ≤ n.h1 - v.b)) (decide (u.c ≤ n.h2 - v.c)) 0) from by simp [roomUp, *]) ?_
    refine E.WL.done ?_
    refine E.KQ.then_n ?_
    refine E.W.seq ?_
    refine E.W.seq ?_
    refine E.W.region ?_
    refine E.WL.val (E.y_move rfl) rfl rfl rfl ?_
    refine E.WL.done ?_
    refine E.KQ.then_n ?_
    refine E.W.block ?_
    refine E.W.loop (ι := Nat) (fun j => [(3, .pointer (some ⟨B3, 0, none⟩)), (4, .pointer (some ⟨B4, 0, none⟩)), (5, .pointer (some ⟨B5, 0, none⟩)), (7, .bool (roomUp (amtB n.h0 n.h1 n.h2 1 && (amtB u.a u.b u.c 32 && amtB v.a v.b v.c 1)) (decide (u.a ≤ n.h0 - v.a)) (decide (u.b ≤ n.h1 - v.b)) (decide (u.c ≤ n.h2 - v.c)) j)), (20, .int .i64 (j : Nat))]) (fun j w' => Bx w.heap.size w w' [(B5, [.int .i64 v.a, .int .i64 v.b, .int .i64 v.c], 29), (B4, [.int .i64 u.a, .int .i64 u.b, .int .i64 u.c], 29), (B3, [.string n.name, .int .i64 n.h0, .int .i64 n.h1, .int .i64 n.h2, vl, vt], 32)] ∧ (j = 0 ∨ j = 1 ∨ j = 2 ∨ j = 3)) (fun j => 3 - j) (0) (by exact (.cons rfl (.cons rfl (.cons rfl (.cons rfl (.cons rfl .nil)))))) ⟨hb, .inl rfl⟩ (fun j w24 hJ => ?_)
    clear hb
    obtain ⟨hb, hj⟩ := hJ
    obtain rfl | rfl | rfl | rfl := id hj
    · have way0 := hj
      refine E.W.seq ?_
      refine E.W.region ?_
      refine E.WL.val (E.y_lss rfl rfl) rfl rfl rfl ?_
      refine E.WL.done ?_
      refine E.KQ.then_n ?_
      refine E.W.seq ?_
      refine E.W.condT 21 rfl (fun hc21 => ?_) (fun hc21 => ?_)
      · replace hc21 := of_decide_eq_true hc21
        refine E.W.skip ?_
        refine E.KQ.then_n ?_
        refine E.W.seq ?_
        refine E.W.block ?_
        refine E.W.seq ?_
        refine E.W.region ?_
        refine E.WL.val (E.y_move rfl) rfl rfl rfl ?_
        refine E.WL.val (E.y_assign rfl) rfl rfl rfl ?_
        refine E.WL.done ?_
        refine E.KQ.then_n ?_
        refine E.W.regionQ rfl (by kernel_rfl) ?_
        refine E.QL.val (fun w' hw => E.y_move rfl) rfl rfl rfl ?_
        refine E.QL.val (fun w' hw => E.y_move rfl) rfl rfl rfl ?_
        refine E.QL.split 24 rfl (fun h24 => ?_) (fun h24 => ?_)
        · skip
          have hA : (amtB n.h0 n.h1 n.h2 1 && (amtB u.a u.b u.c 32 && amtB v.a v.b v.c 1)) = true := roomUp_all h24
          simp only [Bool.and_eq_true] at hA
          have q1 := amtB_iff.1 hA.1
          have q2 := amtB_iff.1 hA.2.1
          have q3 := amtB_iff.1 hA.2.2
          refine E.QL.val (fun w' hw => E.y_move rfl) rfl rfl rfl ?_
          refine E.QL.val (fun w' hw => E.y_idxA Tryz.underlying29 Tryz.sizeOf2 rfl rfl (by decide) (by decide)) rfl rfl rfl ?_
          refine E.QL.val (fun w' hw => E.y_load rfl (E.At.ld1 Tryz.isAgg2 ((hb.ext hw).at0 1 rfl) 0 rfl)) rfl rfl rfl ?_
          refine E.QL.val (fun w' hw => E.y_move rfl) rfl rfl rfl ?_
          refine E.QL.val (fun w' hw => E.y_fld Tryz.underlying32 rfl Tryz.sizeOf29 rfl) rfl rfl rfl ?_
          refine E.QL.val (fun w' hw => E.y_idxA Tryz.underlying29 Tryz.sizeOf2 rfl rfl (by decide) (by decide)) rfl rfl rfl ?_
          refine E.QL.val (fun w' hw => E.y_load rfl (E.At.ld1 Tryz.isAgg2 ((hb.ext hw).at0 2 rfl) 1 rfl)) rfl rfl rfl ?_
          refine E.QL.val (fun w' hw => E.y_move rfl) rfl rfl rfl ?_
          refine E.QL.val (fun w' hw => E.y_idxA Tryz.underlying29 Tryz.sizeOf2 rfl rfl (by decide) (by decide)) rfl rfl rfl ?_
          refine E.QL.val (fun w' hw => E.y_load rfl (E.At.ld1 Tryz.isAgg2 ((hb.ext hw).at0 0 rfl) 0 rfl)) rfl rfl rfl ?_
          refine E.QL.val (fun w' hw => E.y_sub rfl rfl (Go.IntWalk.i64_in _ (by omega))) rfl rfl rfl ?_
          refine E.QL.val (fun w' hw => E.y_leq rfl rfl) rfl rfl rfl ?_
          refine E.QL.val (fun w' hw => E.y_pick_t rfl rfl) rfl rfl rfl ?_
          refine E.QL.val (fun w' hw => E.y_assign rfl) rfl rfl rfl ?_
          refine E.QL.end_ fun w25 hx => ?_
          replace hb := hb.ext hx
          clear hx
          refine E.KQ.block_n ?_
          refine E.KQ.then_n ?_
          refine E.W.region ?_
          refine E.WL.val (E.y_add rfl rfl (Go.IntWalk.i64_in _ (by omega))) rfl rfl rfl ?_
          refine E.WL.val (E.y_move rfl) rfl rfl rfl ?_
          refine E.WL.done ?_
          refine E.KQ.next 1 (by exact .cons rfl (.cons rfl (.cons rfl (.cons (Eq.trans rfl (congrArg (fun b => some (Value.bool (b && decide (u.a ≤ n.h0 - v.a)))) h24.symm)) (.cons rfl .nil))))) ⟨hb, .inr (.inl rfl)⟩ (by decide)
        · skip
          refine E.QL.off rfl rfl rfl ?_
          refine E.QL.off rfl rfl rfl ?_
          refine E.QL.off rfl rfl rfl ?_
          refine E.QL.off rfl rfl rfl ?_
          refine E.QL.off rfl rfl rfl ?_
          refine E.QL.off rfl rfl rfl ?_
          refine E.QL.off rfl rfl rfl ?_
          refine E.QL.off rfl rfl rfl ?_
          refine E.QL.off rfl rfl rfl ?_
          refine E.QL.off rfl rfl rfl ?_
          refine E.QL.off rfl rfl rfl ?_
          refine E.QL.off rfl rfl rfl ?_
          refine E.QL.val (fun w' hw => E.y_pick_f rfl rfl) rfl rfl rfl ?_
          refine E.QL.val (fun w' hw => E.y_assign rfl) rfl rfl rfl ?_
          refine E.QL.end_ fun w26 hx => ?_
          replace hb := hb.ext hx
          clear hx
          refine E.KQ.block_n ?_
          refine E.KQ.then_n ?_
          refine E.W.region ?_
          refine E.WL.val (E.y_add rfl rfl (Go.IntWalk.i64_in _ (by omega))) rfl rfl rfl ?_
          refine E.WL.val (E.y_move rfl) rfl rfl rfl ?_
          refine E.WL.done ?_
          refine E.KQ.next 1 (by exact .cons rfl (.cons rfl (.cons rfl (.cons (Eq.trans rfl (congrArg (fun b => some (Value.bool (b && decide (u.a ≤ n.h0 - v.a)))) h24.symm)) (.cons rfl .nil))))) ⟨hb, .inr (.inl rfl)⟩ (by decide)
      · replace hc21 := of_decide_eq_false hc21
        exact absurd (by decide) hc21
    · have way1 := hj
      refine E.W.seq ?_
      refine E.W.region ?_
      refine E.WL.val (E.y_lss rfl rfl) rfl rfl rfl ?_
      refine E.WL.done ?_
      refine E.KQ.then_n ?_
      refine E.W.seq ?_
      refine E.W.condT 21 rfl (fun hc21 => ?_) (fun hc21 => ?_)
      · replace hc21 := of_decide_eq_true hc21
        refine E.W.skip ?_
        refine E.KQ.then_n ?_
        refine E.W.seq ?_
        refine E.W.block ?_
        refine E.W.seq ?_
        refine E.W.region ?_
        refine E.WL.val (E.y_move rfl) rfl rfl rfl ?_
        refine E.WL.val (E.y_assign rfl) rfl rfl rfl ?_
        refine E.WL.done ?_
        refine E.KQ.then_n ?_
        refine E.W.regionQ rfl (by kernel_rfl) ?_
        refine E.QL.val (fun w' hw => E.y_move rfl) rfl rfl rfl ?_
        refine E.QL.val (fun w' hw => E.y_move rfl) rfl rfl rfl ?_
        refine E.QL.split 24 rfl (fun h24 => ?_) (fun h24 => ?_)
        · skip
          have hA : (amtB n.h0 n.h1 n.h2 1 && (amtB u.a u.b u.c 32 && amtB v.a v.b v.c 1)) = true := roomUp_all h24
          simp only [Bool.and_eq_true] at hA
          have q1 := amtB_iff.1 hA.1
          have q2 := amtB_iff.1 hA.2.1
          have q3 := amtB_iff.1 hA.2.2
          refine E.QL.val (fun w' hw => E.y_move rfl) rfl rfl rfl ?_
          refine E.QL.val (fun w' hw => E.y_idxA Tryz.underlying29 Tryz.sizeOf2 rfl rfl (by decide) (by decide)) rfl rfl rfl ?_
          refine E.QL.val (fun w' hw => E.y_load rfl (E.At.ld1 Tryz.isAgg2 ((hb.ext hw).at0 1 rfl) 1 rfl)) rfl rfl rfl ?_
          refine E.QL.val (fun w' hw => E.y_move rfl) rfl rfl rfl ?_
          refine E.QL.val (fun w' hw => E.y_fld Tryz.underlying32 rfl Tryz.sizeOf29 rfl) rfl rfl rfl ?_
          refine E.QL.val (fun w' hw => E.y_idxA Tryz.underlying29 Tryz.sizeOf2 rfl rfl (by decide) (by decide)) rfl rfl rfl ?_
          refine E.QL.val (fun w' hw => E.y_load rfl (E.At.ld1 Tryz.isAgg2 ((hb.ext hw).at0 2 rfl) 2 rfl)) rfl rfl rfl ?_
          refine E.QL.val (fun w' hw => E.y_move rfl) rfl rfl rfl ?_
          refine E.QL.val (fun w' hw => E.y_idxA Tryz.underlying29 Tryz.sizeOf2 rfl rfl (by decide) (by decide)) rfl rfl rfl ?_
          refine E.QL.val (fun w' hw => E.y_load rfl (E.At.ld1 Tryz.isAgg2 ((hb.ext hw).at0 0 rfl) 1 rfl)) rfl rfl rfl ?_
          refine E.QL.val (fun w' hw => E.y_sub rfl rfl (Go.IntWalk.i64_in _ (by omega))) rfl rfl rfl ?_
          refine E.QL.val (fun w' hw => E.y_leq rfl rfl) rfl rfl rfl ?_
          refine E.QL.val (fun w' hw => E.y_pick_t rfl rfl) rfl rfl rfl ?_
          refine E.QL.val (fun w' hw => E.y_assign rfl) rfl rfl rfl ?_
          refine E.QL.end_ fun w27 hx => ?_
          replace hb := hb.ext hx
          clear hx
          refine E.KQ.block_n ?_
          refine E.KQ.then_n ?_
          refine E.W.region ?_
          refine E.WL.val (E.y_add rfl rfl (Go.IntWalk.i64_in _ (by omega))) rfl rfl rfl ?_
          refine E.WL.val (E.y_move rfl) rfl rfl rfl ?_
          refine E.WL.done ?_
          refine E.KQ.next 2 (by exact .cons rfl (.cons rfl (.cons rfl (.cons (Eq.trans rfl (congrArg (fun b => some (Value.bool (b && decide (u.b ≤ n.h1 - v.b)))) h24.symm)) (.cons rfl .nil))))) ⟨hb, .inr (.inr (.inl rfl))⟩ (by decide)
        · skip
          refine E.QL.off rfl rfl rfl ?_
          refine E.QL.off rfl rfl rfl ?_
          refine E.QL.off rfl rfl rfl ?_
          refine E.QL.off rfl rfl rfl ?_
          refine E.QL.off rfl rfl rfl ?_
          refine E.QL.off rfl rfl rfl ?_
          refine E.QL.off rfl rfl rfl ?_
          refine E.QL.off rfl rfl rfl ?_
          refine E.QL.off rfl rfl rfl ?_
          refine E.QL.off rfl rfl rfl ?_
          refine E.QL.off rfl rfl rfl ?_
          refine E.QL.off rfl rfl rfl ?_
          refine E.QL.val (fun w' hw => E.y_pick_f rfl rfl) rfl rfl rfl ?_
          refine E.QL.val (fun w' hw => E.y_assign rfl) rfl rfl rfl ?_
          refine E.QL.end_ fun w28 hx => ?_
          replace hb := hb.ext hx
          clear hx
          refine E.KQ.block_n ?_
          refine E.KQ.then_n ?_
          refine E.W.region ?_
          refine E.WL.val (E.y_add rfl rfl (Go.IntWalk.i64_in _ (by omega))) rfl rfl rfl ?_
          refine E.WL.val (E.y_move rfl) rfl rfl rfl ?_
          refine E.WL.done ?_
          refine E.KQ.next 2 (by exact .cons rfl (.cons rfl (.cons rfl (.cons (Eq.trans rfl (congrArg (fun b => some (Value.bool (b && decide (u.b ≤ n.h1 - v.b)))) h24.symm)) (.cons rfl .nil))))) ⟨hb, .inr (.inr (.inl rfl))⟩ (by decide)
      · replace hc21 := of_decide_eq_false hc21
        exact absurd (by decide) hc21
    · have way2 := hj
      refine E.W.seq ?_
      refine E.W.region ?_
      refine E.WL.val (E.y_lss rfl rfl) rfl rfl rfl ?_
      refine E.WL.done ?_
      refine E.KQ.then_n ?_
      refine E.W.seq ?_
      refine E.W.condT 21 rfl (fun hc21 => ?_) (fun hc21 => ?_)
      · replace hc21 := of_decide_eq_true hc21
        refine E.W.skip ?_
        refine E.KQ.then_n ?_
        refine E.W.seq ?_
        refine E.W.block ?_
        refine E.W.seq ?_
        refine E.W.region ?_
        refine E.WL.val (E.y_move rfl) rfl rfl rfl ?_
        refine E.WL.val (E.y_assign rfl) rfl rfl rfl ?_
        refine E.WL.done ?_
        refine E.KQ.then_n ?_
        refine E.W.regionQ rfl (by kernel_rfl) ?_
        refine E.QL.val (fun w' hw => E.y_move rfl) rfl rfl rfl ?_
        refine E.QL.val (fun w' hw => E.y_move rfl) rfl rfl rfl ?_
        refine E.QL.split 24 rfl (fun h24 => ?_) (fun h24 => ?_)
        · skip
          have hA : (amtB n.h0 n.h1 n.h2 1 && (amtB u.a u.b u.c 32 && amtB v.a v.b v.c 1)) = true := roomUp_all h24
          simp only [Bool.and_eq_true] at hA
          have q1 := amtB_iff.1 hA.1
          have q2 := amtB_iff.1 hA.2.1
          have q3 := amtB_iff.1 hA.2.2
          refine E.QL.val (fun w' hw => E.y_move rfl) rfl rfl rfl ?_
          refine E.QL.val (fun w' hw => E.y_idxA Tryz.underlying29 Tryz.sizeOf2 rfl rfl (by decide) (by decide)) rfl rfl rfl ?_
          refine E.QL.val (fun w' hw => E.y_load rfl (E.At.ld1 Tryz.isAgg2 ((hb.ext hw).at0 1 rfl) 2 rfl)) rfl rfl rfl ?_
          refine E.QL.val (fun w' hw => E.y_move rfl) rfl rfl rfl ?_
          refine E.QL.val (fun w' hw => E.y_fld Tryz.underlying32 rfl Tryz.sizeOf29 rfl) rfl rfl rfl ?_
          refine E.QL.val (fun w' hw => E.y_idxA Tryz.underlying29 Tryz.sizeOf2 rfl rfl (by decide) (by decide)) rfl rfl rfl ?_
          refine E.QL.val (fun w' hw => E.y_load rfl (E.At.ld1 Tryz.isAgg2 ((hb.ext hw).at0 2 rfl) 3 rfl)) rfl rfl rfl ?_
          refine E.QL.val (fun w' hw => E.y_move rfl) rfl rfl rfl ?_
          refine E.QL.val (fun w' hw => E.y_idxA Tryz.underlying29 Tryz.sizeOf2 rfl rfl (by decide) (by decide)) rfl rfl rfl ?_
          refine E.QL.val (fun w' hw => E.y_load rfl (E.At.ld1 Tryz.isAgg2 ((hb.ext hw).at0 0 rfl) 2 rfl)) rfl rfl rfl ?_
          refine E.QL.val (fun w' hw => E.y_sub rfl rfl (Go.IntWalk.i64_in _ (by omega))) rfl rfl rfl ?_
          refine E.QL.val (fun w' hw => E.y_leq rfl rfl) rfl rfl rfl ?_
          refine E.QL.val (fun w' hw => E.y_pick_t rfl rfl) rfl rfl rfl ?_
          refine E.QL.val (fun w' hw => E.y_assign rfl) rfl rfl rfl ?_
          refine E.QL.end_ fun w29 hx => ?_
          replace hb := hb.ext hx
          clear hx
          refine E.KQ.block_n ?_
          refine E.KQ.then_n ?_
          refine E.W.region ?_
          refine E.WL.val (E.y_add rfl rfl (Go.IntWalk.i64_in _ (by omega))) rfl rfl rfl ?_
          refine E.WL.val (E.y_move rfl) rfl rfl rfl ?_
          refine E.WL.done ?_
          refine E.KQ.next 3 (by exact .cons rfl (.cons rfl (.cons rfl (.cons (Eq.trans rfl (congrArg (fun b => some (Value.bool (b && decide (u.c ≤ n.h2 - v.c)))) h24.symm)) (.cons rfl .nil))))) ⟨hb, .inr (.inr (.inr rfl))⟩ (by decide)
        · skip
          refine E.QL.off rfl rfl rfl ?_
          refine E.QL.off rfl rfl rfl ?_
          refine E.QL.off rfl rfl rfl ?_
          refine E.QL.off rfl rfl rfl ?_
          refine E.QL.off rfl rfl rfl ?_
          refine E.QL.off rfl rfl rfl ?_
          refine E.QL.off rfl rfl rfl ?_
          refine E.QL.off rfl rfl rfl ?_
          refine E.QL.off rfl rfl rfl ?_
          refine E.QL.off rfl rfl rfl ?_
          refine E.QL.off rfl rfl rfl ?_
          refine E.QL.off rfl rfl rfl ?_
          refine E.QL.val (fun w' hw => E.y_pick_f rfl rfl) rfl rfl rfl ?_
          refine E.QL.val (fun w' hw => E.y_assign rfl) rfl rfl rfl ?_
          refine E.QL.end_ fun w30 hx => ?_
          replace hb := hb.ext hx
          clear hx
          refine E.KQ.block_n ?_
          refine E.KQ.then_n ?_
          refine E.W.region ?_
          refine E.WL.val (E.y_add rfl rfl (Go.IntWalk.i64_in _ (by omega))) rfl rfl rfl ?_
          refine E.WL.val (E.y_move rfl) rfl rfl rfl ?_
          refine E.WL.done ?_
          refine E.KQ.next 3 (by exact .cons rfl (.cons rfl (.cons rfl (.cons (Eq.trans rfl (congrArg (fun b => some (Value.bool (b && decide (u.c ≤ n.h2 - v.c)))) h24.symm)) (.cons rfl .nil))))) ⟨hb, .inr (.inr (.inr rfl))⟩ (by decide)
      · replace hc21 := of_decide_eq_false hc21
        exact absurd (by decide) hc21
    · have way3 := hj
      refine E.W.seq ?_
      refine E.W.region ?_
      refine E.WL.val (E.y_lss rfl rfl) rfl rfl rfl ?_
      refine E.WL.done ?_
      refine E.KQ.then_n ?_
      refine E.W.seq ?_
      refine E.W.condT 21 rfl (fun hc21 => ?_) (fun hc21 => ?_)
      · replace hc21 := of_decide_eq_true hc21
        exact absurd hc21 (by decide)
      · replace hc21 := of_decide_eq_false hc21
        refine E.W.exit ?_
        refine E.KQ.then_e ?_
        refine E.KQ.loop_e ?_
        refine E.KQ.block_e ?_
        refine E.KQ.then_n ?_
        refine E.W.seq ?_
        refine E.W.region ?_
        refine E.WL.val (E.y_move rfl) rfl rfl rfl ?_
        refine E.WL.val (E.y_assign rfl) rfl rfl rfl ?_
        refine E.WL.done ?_
        refine E.KQ.then_n ?_
        refine E.W.ret ?_
        refine E.KQ.ret1 Tryz.results85 rfl ?_
        exact ⟨_, rfl, by unfold roomB roomUp; simp only [Bool.and_assoc], hb.below⟩
end Go.Proofs.YtmnnbnajnfdncaaGreatDoor
