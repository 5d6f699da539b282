/- Walks: book, third part: Check, can. -/
import Derived.Test.YtmnnbnajnfdncaaGreatDoorBook2
set_option linter.unusedVariables false
set_option linter.unusedSimpArgs false
namespace Go.Proofs.YtmnnbnajnfdncaaGreatDoor
open Go.RowKit E
set_option maxHeartbeats 4000000 in
theorem check_calls {F : FP} {w : World} {cs : List Value} {b : BookD} (h : RBook F w cs b) :
    Calls Tryz.prog 15 #[(.agg cs.toArray)] w (Ret fun u w' => u = .int .i64 (if checkB b = true then 0 else 10) ∧ Ext w w') := by
  obtain ⟨vn, vt, vb, rfl, hn, ht, hbi⟩ := id h
  obtain ⟨Ab, cb, rfl, hcb, hbyb, hgb⟩ := hbi.open_
  obtain ⟨At', ct, rfl, hct, hbyt, hgt⟩ := ht.open_
  obtain ⟨An, cn, rfl, hcn, hbyn, hgn⟩ := hn.open_
  have hb := E.Bx.start w (base := w.heap.size) (Nat.le_refl _)
  refine E.enter Tryz.func15 rfl Tryz.ntmps15 [(.agg #[.slice An b.nodes.length cn, .slice At' b.tasks.length ct, .slice Ab b.binds.length cb, .int .u64 b.fence])] rfl ?_
  refine E.W.seq ?_
  refine E.W.region ?_
  refine E.WL.box hb rfl rfl rfl rfl ?_
  clear hb; intro B1 w2 hb _ _
  refine E.WL.val (E.y_assign rfl) rfl rfl rfl ?_
  refine E.WL.done ?_
  refine E.KQ.then_n ?_
  refine E.W.seq ?_
  refine E.W.region ?_
  refine E.WL.val (E.y_load rfl (E.At.ldk Tryz.isAgg27 Tryz.sizeOf27 (hb.at0 0 rfl) rfl)) rfl rfl rfl ?_
  refine E.WL.val (E.y_build (v := .agg #[.slice An b.nodes.length cn, .slice At' b.tasks.length ct, .slice Ab b.binds.length cb, .int .u64 b.fence]) rfl (by kernel_rfl)) rfl rfl rfl ?_
  refine E.WL.box hb rfl rfl rfl rfl ?_
  clear hb; intro B2 w4 hb _ _
  refine E.WL.alloc hb Tryz.zeroValue64 rfl rfl rfl ?_
  clear hb; intro B3 w6 hb _ _
  refine E.WL.storeW hb 0 rfl rfl rfl Tryz.sizeOf64 rfl rfl rfl (E.allOne rfl) rfl ?_
  clear hb; intro w7 hb _
  refine E.WL.done ?_
  refine E.KQ.then_n ?_
  refine E.W.seq ?_
  refine E.W.region ?_
  refine E.WL.val (E.y_fld Tryz.underlying27 rfl Tryz.sizeOf22 rfl) rfl rfl rfl ?_
  refine E.WL.val (E.y_load rfl (E.At.ld1 Tryz.isAgg22 (hb.at0 2 rfl) 0 rfl)) rfl rfl rfl ?_
  refine E.WL.val (E.y_lenS Tryz.underlying22 rfl) rfl rfl rfl ?_
  refine E.WL.val (E.y_leq rfl rfl) rfl rfl rfl ?_
  refine E.WL.val (E.y_move rfl) rfl rfl rfl ?_
  refine E.WL.split 12 rfl (fun h1 => ?_) (fun h1 => ?_)
  · replace h1 : b.nodes.length ≤ 16 := by have := of_decide_eq_true h1; omega
    refine E.WL.val (E.y_fld Tryz.underlying27 rfl Tryz.sizeOf23 rfl) rfl rfl rfl ?_
    refine E.WL.val (E.y_load rfl (E.At.ld1 Tryz.isAgg23 (hb.at0 2 rfl) 1 rfl)) rfl rfl rfl ?_
    refine E.WL.val (E.y_lenS Tryz.underlying23 rfl) rfl rfl rfl ?_
    refine E.WL.val (E.y_leq rfl rfl) rfl rfl rfl ?_
    refine E.WL.val (E.y_pick_t rfl rfl) rfl rfl rfl ?_
    refine E.WL.val (E.y_move rfl) rfl rfl rfl ?_
    refine E.WL.split 18 rfl (fun h2 => ?_) (fun h2 => ?_)
    · replace h2 : b.tasks.length ≤ 32 := by have := of_decide_eq_true h2; omega
      refine E.WL.val (E.y_fld Tryz.underlying27 rfl Tryz.sizeOf22 rfl) rfl rfl rfl ?_
      refine E.WL.val (E.y_load rfl (E.At.ld1 Tryz.isAgg22 (hb.at0 2 rfl) 0 rfl)) rfl rfl rfl ?_
      refine E.WL.call (risingNode_calls (hn.ext RNode.goes hb.below) NodeD.name 32 Tryz.call32 (fun w' hw i hi cs hr => nameNode_calls hr)) Tryz.call31 rfl rfl rfl ?_
      rintro _ w8 ⟨rfl, hX⟩
      replace hb := hb.ext hX
      clear hX
      refine E.WL.val (E.y_pick_t rfl rfl) rfl rfl rfl ?_
      refine E.WL.val (E.y_move rfl) rfl rfl rfl ?_
      refine E.WL.split 23 rfl (fun h3 => ?_) (fun h3 => ?_)
      · replace h3 : risingB (nodeNames b) = true := h3
        refine E.WL.val (E.y_fld Tryz.underlying27 rfl Tryz.sizeOf23 rfl) rfl rfl rfl ?_
        refine E.WL.val (E.y_load rfl (E.At.ld1 Tryz.isAgg23 (hb.at0 2 rfl) 1 rfl)) rfl rfl rfl ?_
        refine E.WL.call (risingTask_calls (ht.ext RTask.goes hb.below) TaskD.name 34 Tryz.call34 (fun w' hw i hi cs hr => nameTask_calls hr)) Tryz.call33 rfl rfl rfl ?_
        rintro _ w9 ⟨rfl, hX⟩
        replace hb := hb.ext hX
        clear hX
        refine E.WL.val (E.y_pick_t rfl rfl) rfl rfl rfl ?_
        refine E.WL.val (E.y_move rfl) rfl rfl rfl ?_
        refine E.WL.split 28 rfl (fun h4 => ?_) (fun h4 => ?_)
        · replace h4 : risingB (taskNames b) = true := h4
          refine E.WL.val (E.y_fld Tryz.underlying27 rfl Tryz.sizeOf24 rfl) rfl rfl rfl ?_
          refine E.WL.val (E.y_load rfl (E.At.ld1 Tryz.isAgg24 (hb.at0 2 rfl) 2 rfl)) rfl rfl rfl ?_
          refine E.WL.call (risingBind_calls (hbi.ext RBind.goes hb.below) BindD.task 36 Tryz.call36 (fun w' hw i hi cs hr => nameBind_calls hr)) Tryz.call35 rfl rfl rfl ?_
          rintro _ w10 ⟨rfl, hX⟩
          replace hb := hb.ext hX
          clear hX
          refine E.WL.val (E.y_pick_t rfl rfl) rfl rfl rfl ?_
          refine E.WL.val (E.y_assign rfl) rfl rfl rfl ?_
          refine E.WL.done ?_
          refine E.KQ.then_n ?_
          refine E.W.seq ?_
          refine E.W.region ?_
          refine E.WL.val (E.y_move rfl) rfl rfl rfl ?_
          refine E.WL.val (E.y_move rfl) rfl rfl rfl ?_
          refine E.WL.split 34 rfl (fun h5 => ?_) (fun h5 => ?_)
          · replace h5 : risingB (bindNames b) = true := h5
            have hp0 : listsB b = true := by simp [listsB, h1, h2, h3, h4, h5]
            refine E.WL.val (E.y_fld Tryz.underlying27 rfl Tryz.sizeOf22 rfl) rfl rfl rfl ?_
            refine E.WL.val (E.y_load rfl (E.At.ld1 Tryz.isAgg22 (hb.at0 2 rfl) 0 rfl)) rfl rfl rfl ?_
            refine E.WL.call (containsFuncNode_calls (hn.ext RNode.goes hb.below) (fun n => decide (¬ checkNode n = 0)) 38 [] Tryz.call38 (fun w' hw i hi cs hr => checkNodeNot_calls hr)) Tryz.call37 rfl rfl rfl ?_
            rintro _ w11 ⟨rfl, hX⟩
            replace hb := hb.ext hX
            clear hX
            refine E.WL.val (E.y_not rfl) rfl rfl rfl ?_
            refine E.WL.val (E.y_pick_t rfl rfl) rfl rfl rfl ?_
            refine E.WL.val (E.y_assign rfl) rfl rfl rfl ?_
            refine E.WL.done ?_
            refine E.KQ.then_n ?_
            refine E.W.seq ?_
            refine E.W.region ?_
            refine E.WL.val (E.y_move rfl) rfl rfl rfl ?_
            refine E.WL.val (E.y_move rfl) rfl rfl rfl ?_
            refine E.WL.split 41 rfl (fun h6 => ?_) (fun h6 => ?_)
            · skip
              have hp1 : pre1 b = true := by unfold pre1; rw [hp0, h6]; rfl
              refine E.WL.val (E.y_fld Tryz.underlying27 rfl Tryz.sizeOf23 rfl) rfl rfl rfl ?_
              refine E.WL.val (E.y_load rfl (E.At.ld1 Tryz.isAgg23 (hb.at0 2 rfl) 1 rfl)) rfl rfl rfl ?_
              refine E.WL.call (containsFuncTask_calls (ht.ext RTask.goes hb.below) (fun n => decide (¬ checkTask n = 0)) 41 [] Tryz.call41 (fun w' hw i hi cs hr => checkTaskNot_calls hr)) Tryz.call40 rfl rfl rfl ?_
              rintro _ w12 ⟨rfl, hX⟩
              replace hb := hb.ext hX
              clear hX
              refine E.WL.val (E.y_not rfl) rfl rfl rfl ?_
              refine E.WL.val (E.y_pick_t rfl rfl) rfl rfl rfl ?_
              refine E.WL.val (E.y_assign rfl) rfl rfl rfl ?_
              refine E.WL.done ?_
              refine E.KQ.then_n ?_
              refine E.W.seq ?_
              refine E.W.region ?_
              refine E.WL.val (E.y_move rfl) rfl rfl rfl ?_
              refine E.WL.val (E.y_move rfl) rfl rfl rfl ?_
              refine E.WL.split 48 rfl (fun h7 => ?_) (fun h7 => ?_)
              · skip
                have hp2 : pre2 b = true := by unfold pre2; rw [hp1, h7]; rfl
                refine E.WL.val (E.y_fld Tryz.underlying27 rfl Tryz.sizeOf24 rfl) rfl rfl rfl ?_
                refine E.WL.val (E.y_load rfl (E.At.ld1 Tryz.isAgg24 (hb.at0 2 rfl) 2 rfl)) rfl rfl rfl ?_
                refine E.WL.val (E.y_mkfn rfl rfl) rfl rfl rfl ?_
                refine E.WL.call (containsFuncBind_calls (hbi.ext RBind.goes hb.below) (fun x => !boundB b x) 43 [.pointer (some ⟨B3, 0, none⟩)] Tryz.call43 (fun w' hw i hi cs hr => bound_calls ((hb.at0 0 rfl).ext hw) ((hb.at0 1 rfl).ext hw) (RBook.goes.stays h (Stays.ext (E.Ext.trans hb.below hw))) hr)) Tryz.call26 rfl rfl rfl ?_
                rintro _ w13 ⟨rfl, hX⟩
                replace hb := hb.ext hX
                clear hX
                refine E.WL.val (E.y_not rfl) rfl rfl rfl ?_
                refine E.WL.val (E.y_pick_t rfl rfl) rfl rfl rfl ?_
                refine E.WL.val (E.y_assign rfl) rfl rfl rfl ?_
                refine E.WL.done ?_
                refine E.KQ.then_n ?_
                refine E.W.seq ?_
                refine E.W.region ?_
                refine E.WL.val (E.y_move rfl) rfl rfl rfl ?_
                refine E.WL.val (E.y_move rfl) rfl rfl rfl ?_
                refine E.WL.split 56 rfl (fun h8 => ?_) (fun h8 => ?_)
                · skip
                  have hp3 : pre3 b = true := by unfold pre3; rw [hp2, h8]; rfl
                  have hbl := pre3_le hp3
                  refine E.WL.val (E.y_fld Tryz.underlying27 rfl Tryz.sizeOf22 rfl) rfl rfl rfl ?_
                  refine E.WL.val (E.y_load rfl (E.At.ld1 Tryz.isAgg22 (hb.at0 2 rfl) 0 rfl)) rfl rfl rfl ?_
                  refine E.WL.val (E.y_mkfn rfl rfl) rfl rfl rfl ?_
                  refine E.WL.call (containsFuncNode_calls (hn.ext RNode.goes hb.below) (fun n => !wellB b n) 46 [.pointer (some ⟨B3, 0, none⟩)] Tryz.call46 (fun w' hw i hi cs hr => wellNot_calls ((hb.at0 0 rfl).ext hw) ((hb.at0 1 rfl).ext hw) (RBook.goes.stays h (Stays.ext (E.Ext.trans hb.below hw))) hbl hr)) Tryz.call37 rfl rfl rfl ?_
                  rintro _ w14 ⟨rfl, hX⟩
                  replace hb := hb.ext hX
                  clear hX
                  refine E.WL.val (E.y_not rfl) rfl rfl rfl ?_
                  refine E.WL.val (E.y_pick_t rfl rfl) rfl rfl rfl ?_
                  refine E.WL.val (E.y_assign rfl) rfl rfl rfl ?_
                  refine E.WL.done ?_
                  refine E.KQ.then_n ?_
                  refine E.W.seq ?_
                  refine E.W.seq ?_
                  refine E.W.region ?_
                  refine E.WL.val (E.y_move rfl) rfl rfl rfl ?_
                  refine E.WL.val (E.y_not rfl) rfl rfl rfl ?_
                  refine E.WL.done ?_
                  refine E.KQ.then_n ?_
                  refine E.W.condT 64 rfl (fun h9 => ?_) (fun h9 => ?_)
                  · skip
                    have hbad : checkB b = false := by unfold checkB; rw [hp3]; simpa using h9
                    refine E.W.seq ?_
                    refine E.W.region ?_
                    refine E.WL.val (E.y_assign rfl) rfl rfl rfl ?_
                    refine E.WL.done ?_
                    refine E.KQ.then_n ?_
                    refine E.W.ret ?_
                    refine E.KQ.then_r ?_
                    refine E.KQ.ret1 Tryz.results15 rfl ?_
                    exact ⟨_, rfl, by rw [if_neg (by rw [hbad]; decide)], hb.below⟩
                  · skip
                    have hgood : checkB b = true := by unfold checkB; rw [hp3]; simpa using h9
                    refine E.W.skip ?_
                    refine E.KQ.then_n ?_
                    refine E.W.seq ?_
                    refine E.W.region ?_
                    refine E.WL.val (E.y_assign rfl) rfl rfl rfl ?_
                    refine E.WL.done ?_
                    refine E.KQ.then_n ?_
                    refine E.W.ret ?_
                    refine E.KQ.ret1 Tryz.results15 rfl ?_
                    exact ⟨_, rfl, by rw [if_pos hgood], hb.below⟩
                · skip
                  have hbad : checkB b = false := by unfold checkB pre3; rw [hp2, h8]; rfl
                  refine E.WL.off rfl rfl rfl ?_
                  refine E.WL.off rfl rfl rfl ?_
                  refine E.WL.off rfl rfl rfl ?_
                  refine E.WL.off rfl rfl rfl ?_
                  refine E.WL.off rfl rfl rfl ?_
                  refine E.WL.val (E.y_pick_f rfl rfl) rfl rfl rfl ?_
                  refine E.WL.val (E.y_assign rfl) rfl rfl rfl ?_
                  refine E.WL.done ?_
                  refine E.KQ.then_n ?_
                  refine E.W.seq ?_
                  refine E.W.seq ?_
                  refine E.W.region ?_
                  refine E.WL.val (E.y_move rfl) rfl rfl rfl ?_
                  refine E.WL.val (E.y_not rfl) rfl rfl rfl ?_
                  refine E.WL.done ?_
                  refine E.KQ.then_n ?_
                  refine E.W.cond_t rfl ?_
                  refine E.W.seq ?_
                  refine E.W.region ?_
                  refine E.WL.val (E.y_assign rfl) rfl rfl rfl ?_
                  refine E.WL.done ?_
                  refine E.KQ.then_n ?_
                  refine E.W.ret ?_
                  refine E.KQ.then_r ?_
                  refine E.KQ.ret1 Tryz.results15 rfl ?_
                  exact ⟨_, rfl, by rw [if_neg (by rw [hbad]; decide)], hb.below⟩
              · skip
                have hbad : checkB b = false := by unfold checkB pre3 pre2; rw [hp1, h7]; rfl
                refine E.WL.off rfl rfl rfl ?_
                refine E.WL.off rfl rfl rfl ?_
                refine E.WL.off rfl rfl rfl ?_
                refine E.WL.off rfl rfl rfl ?_
                refine E.WL.off rfl rfl rfl ?_
                refine E.WL.val (E.y_pick_f rfl rfl) rfl rfl rfl ?_
                refine E.WL.val (E.y_assign rfl) rfl rfl rfl ?_
                refine E.WL.done ?_
                refine E.KQ.then_n ?_
                refine E.W.seq ?_
                refine E.W.region ?_
                refine E.WL.val (E.y_move rfl) rfl rfl rfl ?_
                refine E.WL.val (E.y_move rfl) rfl rfl rfl ?_
                refine E.WL.off rfl rfl rfl ?_
                refine E.WL.off rfl rfl rfl ?_
                refine E.WL.off rfl rfl rfl ?_
                refine E.WL.off rfl rfl rfl ?_
                refine E.WL.off rfl rfl rfl ?_
                refine E.WL.val (E.y_pick_f rfl rfl) rfl rfl rfl ?_
                refine E.WL.val (E.y_assign rfl) rfl rfl rfl ?_
                refine E.WL.done ?_
                refine E.KQ.then_n ?_
                refine E.W.seq ?_
                refine E.W.seq ?_
                refine E.W.region ?_
                refine E.WL.val (E.y_move rfl) rfl rfl rfl ?_
                refine E.WL.val (E.y_not rfl) rfl rfl rfl ?_
                refine E.WL.done ?_
                refine E.KQ.then_n ?_
                refine E.W.cond_t rfl ?_
                refine E.W.seq ?_
                refine E.W.region ?_
                refine E.WL.val (E.y_assign rfl) rfl rfl rfl ?_
                refine E.WL.done ?_
                refine E.KQ.then_n ?_
                refine E.W.ret ?_
                refine E.KQ.then_r ?_
                refine E.KQ.ret1 Tryz.results15 rfl ?_
                exact ⟨_, rfl, by rw [if_neg (by rw [hbad]; decide)], hb.below⟩
            · skip
              have hbad : checkB b = false := by unfold checkB pre3 pre2 pre1; rw [hp0, h6]; rfl
              refine E.WL.off rfl rfl rfl ?_
              refine E.WL.off rfl rfl rfl ?_
              refine E.WL.off rfl rfl rfl ?_
              refine E.WL.off rfl rfl rfl ?_
              refine E.WL.val (E.y_pick_f rfl rfl) rfl rfl rfl ?_
              refine E.WL.val (E.y_assign rfl) rfl rfl rfl ?_
              refine E.WL.done ?_
              refine E.KQ.then_n ?_
              refine E.W.seq ?_
              refine E.W.region ?_
              refine E.WL.val (E.y_move rfl) rfl rfl rfl ?_
              refine E.WL.val (E.y_move rfl) rfl rfl rfl ?_
              refine E.WL.off rfl rfl rfl ?_
              refine E.WL.off rfl rfl rfl ?_
              refine E.WL.off rfl rfl rfl ?_
              refine E.WL.off rfl rfl rfl ?_
              refine E.WL.off rfl rfl rfl ?_
              refine E.WL.val (E.y_pick_f rfl rfl) rfl rfl rfl ?_
              refine E.WL.val (E.y_assign rfl) rfl rfl rfl ?_
              refine E.WL.done ?_
              refine E.KQ.then_n ?_
              refine E.W.seq ?_
              refine E.W.region ?_
              refine E.WL.val (E.y_move rfl) rfl rfl rfl ?_
              refine E.WL.val (E.y_move rfl) rfl rfl rfl ?_
              refine E.WL.off rfl rfl rfl ?_
              refine E.WL.off rfl rfl rfl ?_
              refine E.WL.off rfl rfl rfl ?_
              refine E.WL.off rfl rfl rfl ?_
              refine E.WL.off rfl rfl rfl ?_
              refine E.WL.val (E.y_pick_f rfl rfl) rfl rfl rfl ?_
              refine E.WL.val (E.y_assign rfl) rfl rfl rfl ?_
              refine E.WL.done ?_
              refine E.KQ.then_n ?_
              refine E.W.seq ?_
              refine E.W.seq ?_
              refine E.W.region ?_
              refine E.WL.val (E.y_move rfl) rfl rfl rfl ?_
              refine E.WL.val (E.y_not rfl) rfl rfl rfl ?_
              refine E.WL.done ?_
              refine E.KQ.then_n ?_
              refine E.W.cond_t rfl ?_
              refine E.W.seq ?_
              refine E.W.region ?_
              refine E.WL.val (E.y_assign rfl) rfl rfl rfl ?_
              refine E.WL.done ?_
              refine E.KQ.then_n ?_
              refine E.W.ret ?_
              refine E.KQ.then_r ?_
              refine E.KQ.ret1 Tryz.results15 rfl ?_
              exact ⟨_, rfl, by rw [if_neg (by rw [hbad]; decide)], hb.below⟩
          · replace h5 : risingB (bindNames b) = false := h5
            have hbad : checkB b = false := by simp [checkB, pre3, pre2, pre1, listsB, h5]
            refine E.WL.off rfl rfl rfl ?_
            refine E.WL.off rfl rfl rfl ?_
            refine E.WL.off rfl rfl rfl ?_
            refine E.WL.off rfl rfl rfl ?_
            refine E.WL.val (E.y_pick_f rfl rfl) rfl rfl rfl ?_
            refine E.WL.val (E.y_assign rfl) rfl rfl rfl ?_
            refine E.WL.done ?_
            refine E.KQ.then_n ?_
            refine E.W.seq ?_
            refine E.W.region ?_
            refine E.WL.val (E.y_move rfl) rfl rfl rfl ?_
            refine E.WL.val (E.y_move rfl) rfl rfl rfl ?_
            refine E.WL.off rfl rfl rfl ?_
            refine E.WL.off rfl rfl rfl ?_
            refine E.WL.off rfl rfl rfl ?_
            refine E.WL.off rfl rfl rfl ?_
            refine E.WL.val (E.y_pick_f rfl rfl) rfl rfl rfl ?_
            refine E.WL.val (E.y_assign rfl) rfl rfl rfl ?_
            refine E.WL.done ?_
            refine E.KQ.then_n ?_
            refine E.W.seq ?_
            refine E.W.region ?_
            refine E.WL.val (E.y_move rfl) rfl rfl rfl ?_
            refine E.WL.val (E.y_move rfl) rfl rfl rfl ?_
            refine E.WL.off rfl rfl rfl ?_
            refine E.WL.off rfl rfl rfl ?_
            refine E.WL.off rfl rfl rfl ?_
            refine E.WL.off rfl rfl rfl ?_
            refine E.WL.off rfl rfl rfl ?_
            refine E.WL.val (E.y_pick_f rfl rfl) rfl rfl rfl ?_
            refine E.WL.val (E.y_assign rfl) rfl rfl rfl ?_
            refine E.WL.done ?_
            refine E.KQ.then_n ?_
            refine E.W.seq ?_
            refine E.W.region ?_
            refine E.WL.val (E.y_move rfl) rfl rfl rfl ?_
            refine E.WL.val (E.y_move rfl) rfl rfl rfl ?_
            refine E.WL.off rfl rfl rfl ?_
            refine E.WL.off rfl rfl rfl ?_
            refine E.WL.off rfl rfl rfl ?_
            refine E.WL.off rfl rfl rfl ?_
            refine E.WL.off rfl rfl rfl ?_
            refine E.WL.val (E.y_pick_f rfl rfl) rfl rfl rfl ?_
            refine E.WL.val (E.y_assign rfl) rfl rfl rfl ?_
            refine E.WL.done ?_
            refine E.KQ.then_n ?_
            refine E.W.seq ?_
            refine E.W.seq ?_
            refine E.W.region ?_
            refine E.WL.val (E.y_move rfl) rfl rfl rfl ?_
            refine E.WL.val (E.y_not rfl) rfl rfl rfl ?_
            refine E.WL.done ?_
            refine E.KQ.then_n ?_
            refine E.W.cond_t rfl ?_
            refine E.W.seq ?_
            refine E.W.region ?_
            refine E.WL.val (E.y_assign rfl) rfl rfl rfl ?_
            refine E.WL.done ?_
            refine E.KQ.then_n ?_
            refine E.W.ret ?_
            refine E.KQ.then_r ?_
            refine E.KQ.ret1 Tryz.results15 rfl ?_
            exact ⟨_, rfl, by rw [if_neg (by rw [hbad]; decide)], hb.below⟩
        · replace h4 : risingB (taskNames b) = false := h4
          have hbad : checkB b = false := by simp [checkB, pre3, pre2, pre1, listsB, h4]
          refine E.WL.off rfl rfl rfl ?_
          refine E.WL.off rfl rfl rfl ?_
          refine E.WL.off rfl rfl rfl ?_
          refine E.WL.val (E.y_pick_f rfl rfl) rfl rfl rfl ?_
          refine E.WL.val (E.y_assign rfl) rfl rfl rfl ?_
          refine E.WL.done ?_
          refine E.KQ.then_n ?_
          refine E.W.seq ?_
          refine E.W.region ?_
          refine E.WL.val (E.y_move rfl) rfl rfl rfl ?_
          refine E.WL.val (E.y_move rfl) rfl rfl rfl ?_
          refine E.WL.off rfl rfl rfl ?_
          refine E.WL.off rfl rfl rfl ?_
          refine E.WL.off rfl rfl rfl ?_
          refine E.WL.off rfl rfl rfl ?_
          refine E.WL.val (E.y_pick_f rfl rfl) rfl rfl rfl ?_
          refine E.WL.val (E.y_assign rfl) rfl rfl rfl ?_
          refine E.WL.done ?_
          refine E.KQ.then_n ?_
          refine E.W.seq ?_
          refine E.W.region ?_
          refine E.WL.val (E.y_move rfl) rfl rfl rfl ?_
          refine E.WL.val (E.y_move rfl) rfl rfl rfl ?_
          refine E.WL.off rfl rfl rfl ?_
          refine E.WL.off rfl rfl rfl ?_
          refine E.WL.off rfl rfl rfl ?_
          refine E.WL.off rfl rfl rfl ?_
          refine E.WL.val (E.y_pick_f rfl rfl) rfl rfl rfl ?_
          refine E.WL.val (E.y_assign rfl) rfl rfl rfl ?_
          refine E.WL.done ?_
          refine E.KQ.then_n ?_
          refine E.W.seq ?_
          refine E.W.region ?_
          refine E.WL.val (E.y_move rfl) rfl rfl rfl ?_
          refine E.WL.val (E.y_move rfl) rfl rfl rfl ?_
          refine E.WL.off rfl rfl rfl ?_
          refine E.WL.off rfl rfl rfl ?_
          refine E.WL.off rfl rfl rfl ?_
          refine E.WL.off rfl rfl rfl ?_
          refine E.WL.off rfl rfl rfl ?_
          refine E.WL.val (E.y_pick_f rfl rfl) rfl rfl rfl ?_
          refine E.WL.val (E.y_assign rfl) rfl rfl rfl ?_
          refine E.WL.done ?_
          refine E.KQ.then_n ?_
          refine E.W.seq ?_
          refine E.W.region ?_
          refine E.WL.val (E.y_move rfl) rfl rfl rfl ?_
          refine E.WL.val (E.y_move rfl) rfl rfl rfl ?_
          refine E.WL.off rfl rfl rfl ?_
          refine E.WL.off rfl rfl rfl ?_
          refine E.WL.off rfl rfl rfl ?_
          refine E.WL.off rfl rfl rfl ?_
          refine E.WL.off rfl rfl rfl ?_
          refine E.WL.val (E.y_pick_f rfl rfl) rfl rfl rfl ?_
          refine E.WL.val (E.y_assign rfl) rfl rfl rfl ?_
          refine E.WL.done ?_
          refine E.KQ.then_n ?_
          refine E.W.seq ?_
          refine E.W.seq ?_
          refine E.W.region ?_
          refine E.WL.val (E.y_move rfl) rfl rfl rfl ?_
          refine E.WL.val (E.y_not rfl) rfl rfl rfl ?_
          refine E.WL.done ?_
          refine E.KQ.then_n ?_
          refine E.W.cond_t rfl ?_
          refine E.W.seq ?_
          refine E.W.region ?_
          refine E.WL.val (E.y_assign rfl) rfl rfl rfl ?_
          refine E.WL.done ?_
          refine E.KQ.then_n ?_
          refine E.W.ret ?_
          refine E.KQ.then_r ?_
          refine E.KQ.ret1 Tryz.results15 rfl ?_
          exact ⟨_, rfl, by rw [if_neg (by rw [hbad]; decide)], hb.below⟩
      · replace h3 : risingB (nodeNames b) = false := h3
        have hbad : checkB b = false := by simp [checkB, pre3, pre2, pre1, listsB, h3]
        refine E.WL.off rfl rfl rfl ?_
        refine E.WL.off rfl rfl rfl ?_
        refine E.WL.off rfl rfl rfl ?_
        refine E.WL.val (E.y_pick_f rfl rfl) rfl rfl rfl ?_
        refine E.WL.val (E.y_move rfl) rfl rfl rfl ?_
        refine E.WL.off rfl rfl rfl ?_
        refine E.WL.off rfl rfl rfl ?_
        refine E.WL.off rfl rfl rfl ?_
        refine E.WL.val (E.y_pick_f rfl rfl) rfl rfl rfl ?_
        refine E.WL.val (E.y_assign rfl) rfl rfl rfl ?_
        refine E.WL.done ?_
        refine E.KQ.then_n ?_
        refine E.W.seq ?_
        refine E.W.region ?_
        refine E.WL.val (E.y_move rfl) rfl rfl rfl ?_
        refine E.WL.val (E.y_move rfl) rfl rfl rfl ?_
        refine E.WL.off rfl rfl rfl ?_
        refine E.WL.off rfl rfl rfl ?_
        refine E.WL.off rfl rfl rfl ?_
        refine E.WL.off rfl rfl rfl ?_
        refine E.WL.val (E.y_pick_f rfl rfl) rfl rfl rfl ?_
        refine E.WL.val (E.y_assign rfl) rfl rfl rfl ?_
        refine E.WL.done ?_
        refine E.KQ.then_n ?_
        refine E.W.seq ?_
        refine E.W.region ?_
        refine E.WL.val (E.y_move rfl) rfl rfl rfl ?_
        refine E.WL.val (E.y_move rfl) rfl rfl rfl ?_
        refine E.WL.off rfl rfl rfl ?_
        refine E.WL.off rfl rfl rfl ?_
        refine E.WL.off rfl rfl rfl ?_
        refine E.WL.off rfl rfl rfl ?_
        refine E.WL.val (E.y_pick_f rfl rfl) rfl rfl rfl ?_
        refine E.WL.val (E.y_assign rfl) rfl rfl rfl ?_
        refine E.WL.done ?_
        refine E.KQ.then_n ?_
        refine E.W.seq ?_
        refine E.W.region ?_
        refine E.WL.val (E.y_move rfl) rfl rfl rfl ?_
        refine E.WL.val (E.y_move rfl) rfl rfl rfl ?_
        refine E.WL.off rfl rfl rfl ?_
        refine E.WL.off rfl rfl rfl ?_
        refine E.WL.off rfl rfl rfl ?_
        refine E.WL.off rfl rfl rfl ?_
        refine E.WL.off rfl rfl rfl ?_
        refine E.WL.val (E.y_pick_f rfl rfl) rfl rfl rfl ?_
        refine E.WL.val (E.y_assign rfl) rfl rfl rfl ?_
        refine E.WL.done ?_
        refine E.KQ.then_n ?_
        refine E.W.seq ?_
        refine E.W.region ?_
        refine E.WL.val (E.y_move rfl) rfl rfl rfl ?_
        refine E.WL.val (E.y_move rfl) rfl rfl rfl ?_
        refine E.WL.off rfl rfl rfl ?_
        refine E.WL.off rfl rfl rfl ?_
        refine E.WL.off rfl rfl rfl ?_
        refine E.WL.off rfl rfl rfl ?_
        refine E.WL.off rfl rfl rfl ?_
        refine E.WL.val (E.y_pick_f rfl rfl) rfl rfl rfl ?_
        refine E.WL.val (E.y_assign rfl) rfl rfl rfl ?_
        refine E.WL.done ?_
        refine E.KQ.then_n ?_
        refine E.W.seq ?_
        refine E.W.seq ?_
        refine E.W.region ?_
        refine E.WL.val (E.y_move rfl) rfl rfl rfl ?_
        refine E.WL.val (E.y_not rfl) rfl rfl rfl ?_
        refine E.WL.done ?_
        refine E.KQ.then_n ?_
        refine E.W.cond_t rfl ?_
        refine E.W.seq ?_
        refine E.W.region ?_
        refine E.WL.val (E.y_assign rfl) rfl rfl rfl ?_
        refine E.WL.done ?_
        refine E.KQ.then_n ?_
        refine E.W.ret ?_
        refine E.KQ.then_r ?_
        refine E.KQ.ret1 Tryz.results15 rfl ?_
        exact ⟨_, rfl, by rw [if_neg (by rw [hbad]; decide)], hb.below⟩
    · replace h2 : ¬ b.tasks.length ≤ 32 := by have := of_decide_eq_false h2; omega
      have hbad : checkB b = false := by simp [checkB, pre3, pre2, pre1, listsB, h2]
      refine E.WL.off rfl rfl rfl ?_
      refine E.WL.off rfl rfl rfl ?_
      refine E.WL.off rfl rfl rfl ?_
      refine E.WL.val (E.y_pick_f rfl rfl) rfl rfl rfl ?_
      refine E.WL.val (E.y_move rfl) rfl rfl rfl ?_
      refine E.WL.off rfl rfl rfl ?_
      refine E.WL.off rfl rfl rfl ?_
      refine E.WL.off rfl rfl rfl ?_
      refine E.WL.val (E.y_pick_f rfl rfl) rfl rfl rfl ?_
      refine E.WL.val (E.y_move rfl) rfl rfl rfl ?_
      refine E.WL.off rfl rfl rfl ?_
      refine E.WL.off rfl rfl rfl ?_
      refine E.WL.off rfl rfl rfl ?_
      refine E.WL.val (E.y_pick_f rfl rfl) rfl rfl rfl ?_
      refine E.WL.val (E.y_assign rfl) rfl rfl rfl ?_
      refine E.WL.done ?_
      refine E.KQ.then_n ?_
      refine E.W.seq ?_
      refine E.W.region ?_
      refine E.WL.val (E.y_move rfl) rfl rfl rfl ?_
      refine E.WL.val (E.y_move rfl) rfl rfl rfl ?_
      refine E.WL.off rfl rfl rfl ?_
      refine E.WL.off rfl rfl rfl ?_
      refine E.WL.off rfl rfl rfl ?_
      refine E.WL.off rfl rfl rfl ?_
      refine E.WL.val (E.y_pick_f rfl rfl) rfl rfl rfl ?_
      refine E.WL.val (E.y_assign rfl) rfl rfl rfl ?_
      refine E.WL.done ?_
      refine E.KQ.then_n ?_
      refine E.W.seq ?_
      refine E.W.region ?_
      refine E.WL.val (E.y_move rfl) rfl rfl rfl ?_
      refine E.WL.val (E.y_move rfl) rfl rfl rfl ?_
      refine E.WL.off rfl rfl rfl ?_
      refine E.WL.off rfl rfl rfl ?_
      refine E.WL.off rfl rfl rfl ?_
      refine E.WL.off rfl rfl rfl ?_
      refine E.WL.val (E.y_pick_f rfl rfl) rfl rfl rfl ?_
      refine E.WL.val (E.y_assign rfl) rfl rfl rfl ?_
      refine E.WL.done ?_
      refine E.KQ.then_n ?_
      refine E.W.seq ?_
      refine E.W.region ?_
      refine E.WL.val (E.y_move rfl) rfl rfl rfl ?_
      refine E.WL.val (E.y_move rfl) rfl rfl rfl ?_
      refine E.WL.off rfl rfl rfl ?_
      refine E.WL.off rfl rfl rfl ?_
      refine E.WL.off rfl rfl rfl ?_
      refine E.WL.off rfl rfl rfl ?_
      refine E.WL.off rfl rfl rfl ?_
      refine E.WL.val (E.y_pick_f rfl rfl) rfl rfl rfl ?_
      refine E.WL.val (E.y_assign rfl) rfl rfl rfl ?_
      refine E.WL.done ?_
      refine E.KQ.then_n ?_
      refine E.W.seq ?_
      refine E.W.region ?_
      refine E.WL.val (E.y_move rfl) rfl rfl rfl ?_
      refine E.WL.val (E.y_move rfl) rfl rfl rfl ?_
      refine E.WL.off rfl rfl rfl ?_
      refine E.WL.off rfl rfl rfl ?_
      refine E.WL.off rfl rfl rfl ?_
      refine E.WL.off rfl rfl rfl ?_
      refine E.WL.off rfl rfl rfl ?_
      refine E.WL.val (E.y_pick_f rfl rfl) rfl rfl rfl ?_
      refine E.WL.val (E.y_assign rfl) rfl rfl rfl ?_
      refine E.WL.done ?_
      refine E.KQ.then_n ?_
      refine E.W.seq ?_
      refine E.W.seq ?_
      refine E.W.region ?_
      refine E.WL.val (E.y_move rfl) rfl rfl rfl ?_
      refine E.WL.val (E.y_not rfl) rfl rfl rfl ?_
      refine E.WL.done ?_
      refine E.KQ.then_n ?_
      refine E.W.cond_t rfl ?_
      refine E.W.seq ?_
      refine E.W.region ?_
      refine E.WL.val (E.y_assign rfl) rfl rfl rfl ?_
      refine E.WL.done ?_
      refine E.KQ.then_n ?_
      refine E.W.ret ?_
      refine E.KQ.then_r ?_
      refine E.KQ.ret1 Tryz.results15 rfl ?_
      exact ⟨_, rfl, by rw [if_neg (by rw [hbad]; decide)], hb.below⟩
  · replace h1 : ¬ b.nodes.length ≤ 16 := by have := of_decide_eq_false h1; omega
    have hbad : checkB b = false := by simp [checkB, pre3, pre2, pre1, listsB, h1]
    refine E.WL.off rfl rfl rfl ?_
    refine E.WL.off rfl rfl rfl ?_
    refine E.WL.off rfl rfl rfl ?_
    refine E.WL.off rfl rfl rfl ?_
    refine E.WL.val (E.y_pick_f rfl rfl) rfl rfl rfl ?_
    refine E.WL.val (E.y_move rfl) rfl rfl rfl ?_
    refine E.WL.off rfl rfl rfl ?_
    refine E.WL.off rfl rfl rfl ?_
    refine E.WL.off rfl rfl rfl ?_
    refine E.WL.val (E.y_pick_f rfl rfl) rfl rfl rfl ?_
    refine E.WL.val (E.y_move rfl) rfl rfl rfl ?_
    refine E.WL.off rfl rfl rfl ?_
    refine E.WL.off rfl rfl rfl ?_
    refine E.WL.off rfl rfl rfl ?_
    refine E.WL.val (E.y_pick_f rfl rfl) rfl rfl rfl ?_
    refine E.WL.val (E.y_move rfl) rfl rfl rfl ?_
    refine E.WL.off rfl rfl rfl ?_
    refine E.WL.off rfl rfl rfl ?_
    refine E.WL.off rfl rfl rfl ?_
    refine E.WL.val (E.y_pick_f rfl rfl) rfl rfl rfl ?_
    refine E.WL.val (E.y_assign rfl) rfl rfl rfl ?_
    refine E.WL.done ?_
    refine E.KQ.then_n ?_
    refine E.W.seq ?_
    refine E.W.region ?_
    refine E.WL.val (E.y_move rfl) rfl rfl rfl ?_
    refine E.WL.val (E.y_move rfl) rfl rfl rfl ?_
    refine E.WL.off rfl rfl rfl ?_
    refine E.WL.off rfl rfl rfl ?_
    refine E.WL.off rfl rfl rfl ?_
    refine E.WL.off rfl rfl rfl ?_
    refine E.WL.val (E.y_pick_f rfl rfl) rfl rfl rfl ?_
    refine E.WL.val (E.y_assign rfl) rfl rfl rfl ?_
    refine E.WL.done ?_
    refine E.KQ.then_n ?_
    refine E.W.seq ?_
    refine E.W.region ?_
    refine E.WL.val (E.y_move rfl) rfl rfl rfl ?_
    refine E.WL.val (E.y_move rfl) rfl rfl rfl ?_
    refine E.WL.off rfl rfl rfl ?_
    refine E.WL.off rfl rfl rfl ?_
    refine E.WL.off rfl rfl rfl ?_
    refine E.WL.off rfl rfl rfl ?_
    refine E.WL.val (E.y_pick_f rfl rfl) rfl rfl rfl ?_
    refine E.WL.val (E.y_assign rfl) rfl rfl rfl ?_
    refine E.WL.done ?_
    refine E.KQ.then_n ?_
    refine E.W.seq ?_
    refine E.W.region ?_
    refine E.WL.val (E.y_move rfl) rfl rfl rfl ?_
    refine E.WL.val (E.y_move rfl) rfl rfl rfl ?_
    refine E.WL.off rfl rfl rfl ?_
    refine E.WL.off rfl rfl rfl ?_
    refine E.WL.off rfl rfl rfl ?_
    refine E.WL.off rfl rfl rfl ?_
    refine E.WL.off rfl rfl rfl ?_
    refine E.WL.val (E.y_pick_f rfl rfl) rfl rfl rfl ?_
    refine E.WL.val (E.y_assign rfl) rfl rfl rfl ?_
    refine E.WL.done ?_
    refine E.KQ.then_n ?_
    refine E.W.seq ?_
    refine E.W.region ?_
    refine E.WL.val (E.y_move rfl) rfl rfl rfl ?_
    refine E.WL.val (E.y_move rfl) rfl rfl rfl ?_
    refine E.WL.off rfl rfl rfl ?_
    refine E.WL.off rfl rfl rfl ?_
    refine E.WL.off rfl rfl rfl ?_
    refine E.WL.off rfl rfl rfl ?_
    refine E.WL.off rfl rfl rfl ?_
    refine E.WL.val (E.y_pick_f rfl rfl) rfl rfl rfl ?_
    refine E.WL.val (E.y_assign rfl) rfl rfl rfl ?_
    refine E.WL.done ?_
    refine E.KQ.then_n ?_
    refine E.W.seq ?_
    refine E.W.seq ?_
    refine E.W.region ?_
    refine E.WL.val (E.y_move rfl) rfl rfl rfl ?_
    refine E.WL.val (E.y_not rfl) rfl rfl rfl ?_
    refine E.WL.done ?_
    refine E.KQ.then_n ?_
    refine E.W.cond_t rfl ?_
    refine E.W.seq ?_
    refine E.W.region ?_
    refine E.WL.val (E.y_assign rfl) rfl rfl rfl ?_
    refine E.WL.done ?_
    refine E.KQ.then_n ?_
    refine E.W.ret ?_
    refine E.KQ.then_r ?_
    refine E.KQ.ret1 Tryz.results15 rfl ?_
    exact ⟨_, rfl, by rw [if_neg (by rw [hbad]; decide)], hb.below⟩

set_option maxHeartbeats 2000000 in
theorem can_calls {F : FP} {w : World} {K : Nat} {cs : List Value} {b : BookD} (hK : At w ⟨K, 0, none⟩ cs) (h : RBook F w cs b) (hbl : b.binds.length ≤ 32) (task node : ByteArray) :
    Calls Tryz.prog 59 #[(.pointer (some ⟨K, 0, none⟩)), (.string task), (.string node)] w (Ret fun u w' => u = .int .i64 (canP b task node) ∧ Ext w w') := by
  obtain ⟨vn, vt, vb, rfl, hn, ht, hbi⟩ := id h
  obtain ⟨Ab, cb, rfl, hcb, hbyb, hgb⟩ := hbi.open_
  obtain ⟨At', ct, rfl, hct, hbyt, hgt⟩ := ht.open_
  obtain ⟨An, cn, rfl, hcn, hbyn, hgn⟩ := hn.open_
  have hb := E.Bx.start w (base := w.heap.size) (Nat.le_refl _)
  refine E.enter Tryz.func59 rfl Tryz.ntmps59 [(.pointer (some ⟨K, 0, none⟩)), (.string task), (.string node)] rfl ?_
  refine E.W.seq ?_
  refine E.W.region ?_
  refine E.WL.val (E.y_assign rfl) rfl rfl rfl ?_
  refine E.WL.done ?_
  refine E.KQ.then_n ?_
  refine E.W.scope ?_
  refine E.W.seq ?_
  refine E.W.region ?_
  refine E.WL.val (E.y_move rfl) rfl rfl rfl ?_
  refine E.WL.val (E.y_move rfl) rfl rfl rfl ?_
  refine E.WL.call (task_calls (hK.ext hb.below) (RBook.goes.stays h (Stays.ext hb.below)) task) Tryz.call45 rfl rfl rfl ?_
  rintro _ w1 ⟨rfl, hX⟩
  replace hb := hb.ext hX
  clear hX
  refine E.WL.val (E.y_move rfl) rfl rfl rfl ?_
  refine E.WL.val (E.y_extract rfl rfl) rfl rfl rfl ?_
  refine E.WL.val (E.y_extract rfl rfl) rfl rfl rfl ?_
  refine E.WL.val (E.y_assign rfl) rfl rfl rfl ?_
  refine E.WL.val (E.y_assign rfl) rfl rfl rfl ?_
  refine E.WL.done ?_
  refine E.KQ.then_n ?_
  refine E.W.seq ?_
  refine E.W.region ?_
  refine E.WL.val (E.y_move rfl) rfl rfl rfl ?_
  refine E.WL.val (E.y_move rfl) rfl rfl rfl ?_
  refine E.WL.call (node_calls (hK.ext hb.below) (RBook.goes.stays h (Stays.ext hb.below)) node) Tryz.call44 rfl rfl rfl ?_
  rintro _ w2 ⟨rfl, hX⟩
  replace hb := hb.ext hX
  clear hX
  refine E.WL.val (E.y_move rfl) rfl rfl rfl ?_
  refine E.WL.val (E.y_extract rfl rfl) rfl rfl rfl ?_
  refine E.WL.val (E.y_extract rfl rfl) rfl rfl rfl ?_
  refine E.WL.val (E.y_assign rfl) rfl rfl rfl ?_
  refine E.WL.val (E.y_assign rfl) rfl rfl rfl ?_
  refine E.WL.done ?_
  refine E.KQ.then_n ?_
  refine E.W.seq ?_
  refine E.W.seq ?_
  refine E.W.region ?_
  refine E.WL.val (E.y_move rfl) rfl rfl rfl ?_
  refine E.WL.val (E.y_not rfl) rfl rfl rfl ?_
  refine E.WL.val (E.y_move rfl) rfl rfl rfl ?_
  refine E.WL.split 34 rfl (fun h1 => ?_) (fun h1 => ?_)
  · replace h1 : hasB (taskNames b) task = false := by simpa using h1
    refine E.WL.off rfl rfl rfl ?_
    refine E.WL.off rfl rfl rfl ?_
    refine E.WL.val (E.y_pick_t rfl rfl) rfl rfl rfl ?_
    refine E.WL.done ?_
    refine E.KQ.then_n ?_
    refine E.W.cond_t rfl ?_
    refine E.W.seq ?_
    refine E.W.region ?_
    refine E.WL.val (E.y_assign rfl) rfl rfl rfl ?_
    refine E.WL.done ?_
    refine E.KQ.then_n ?_
    refine E.W.ret ?_
    refine E.KQ.then_r ?_
    refine E.KQ.goto_r ?_
    refine E.KQ.ret1 Tryz.results59 rfl ?_
    exact ⟨_, rfl, by unfold canP; rw [if_pos h1], hb.below⟩
  · replace h1 : hasB (taskNames b) task = true := by simpa using h1
    refine E.WL.val (E.y_move rfl) rfl rfl rfl ?_
    refine E.WL.val (E.y_not rfl) rfl rfl rfl ?_
    refine E.WL.val (E.y_pick_f rfl rfl) rfl rfl rfl ?_
    refine E.WL.done ?_
    refine E.KQ.then_n ?_
    refine E.W.condT 37 rfl (fun h2 => ?_) (fun h2 => ?_)
    · replace h2 : hasB (nodeNames b) node = false := by simpa using h2
      refine E.W.seq ?_
      refine E.W.region ?_
      refine E.WL.val (E.y_assign rfl) rfl rfl rfl ?_
      refine E.WL.done ?_
      refine E.KQ.then_n ?_
      refine E.W.ret ?_
      refine E.KQ.then_r ?_
      refine E.KQ.goto_r ?_
      refine E.KQ.ret1 Tryz.results59 rfl ?_
      exact ⟨_, rfl, by unfold canP; rw [if_neg (by rw [h1]; decide), if_pos h2], hb.below⟩
    · replace h2 : hasB (nodeNames b) node = true := by simpa using h2
      refine E.W.skip ?_
      refine E.KQ.then_n ?_
      refine E.W.seq ?_
      refine E.W.seq ?_
      refine E.W.region ?_
      refine E.WL.val (E.y_move rfl) rfl rfl rfl ?_
      refine E.WL.val (E.y_move rfl) rfl rfl rfl ?_
      refine E.WL.call (bind_calls (hK.ext hb.below) (RBook.goes.stays h (Stays.ext hb.below)) task) Tryz.call60 rfl rfl rfl ?_
      rintro _ w3 ⟨rfl, hX⟩
      replace hb := hb.ext hX
      clear hX
      refine E.WL.val (E.y_move rfl) rfl rfl rfl ?_
      refine E.WL.val (E.y_extract rfl rfl) rfl rfl rfl ?_
      refine E.WL.val (E.y_extract rfl rfl) rfl rfl rfl ?_
      refine E.WL.val (E.y_assign rfl) rfl rfl rfl ?_
      refine E.WL.val (E.y_assign rfl) rfl rfl rfl ?_
      refine E.WL.done ?_
      refine E.KQ.then_n ?_
      refine E.W.seq ?_
      refine E.W.region ?_
      refine E.WL.val (E.y_move rfl) rfl rfl rfl ?_
      refine E.WL.done ?_
      refine E.KQ.then_n ?_
      refine E.W.condT 44 rfl (fun h3 => ?_) (fun h3 => ?_)
      · skip
        refine E.W.seq ?_
        refine E.W.region ?_
        refine E.WL.val (E.y_assign rfl) rfl rfl rfl ?_
        refine E.WL.done ?_
        refine E.KQ.then_n ?_
        refine E.W.ret ?_
        refine E.KQ.then_r ?_
        refine E.KQ.goto_r ?_
        refine E.KQ.ret1 Tryz.results59 rfl ?_
        exact ⟨_, rfl, by unfold canP; rw [if_neg (by rw [h1]; decide), if_neg (by rw [h2]; decide), if_pos h3], hb.below⟩
      · skip
        have hpl := taskPos_lt h1
        have hql := nodePos_lt h2
        have hcan := canP_fit h1 h2 h3 hpl hql
        refine E.W.skip ?_
        refine E.KQ.then_n ?_
        refine E.W.seq ?_
        refine E.W.region ?_
        refine E.WL.val (E.y_move rfl) rfl rfl rfl ?_
        refine E.WL.val (E.y_move rfl) rfl rfl rfl ?_
        refine E.WL.call (there_calls (hK.ext hb.below) (RBook.goes.stays h (Stays.ext hb.below)) hbl node) Tryz.call57 rfl rfl rfl ?_
        rintro _ w4 ⟨⟨v, rfl, hl⟩, hX⟩
        replace hb := hb.ext hX
        have hE0 := hb.below
        clear hb hX
        have hb := E.Bx.start w4 (base := w4.heap.size) (Nat.le_refl _)
        obtain ⟨A, c, rfl, hc, hby, hg⟩ := hl.open_
        replace hK := hK.ext hE0
        refine E.WL.val (E.y_assign rfl) rfl rfl rfl ?_
        refine E.WL.done ?_
        refine E.KQ.then_n ?_
        refine E.W.seq ?_
        refine E.W.region ?_
        refine E.WL.val (E.y_move rfl) rfl rfl rfl ?_
        refine E.WL.call (sum_calls hl) Tryz.call75 rfl rfl rfl ?_
        rintro _ w5 ⟨rfl, hX⟩
        replace hb := hb.ext hX
        clear hX
        refine E.WL.val (E.y_move rfl) rfl rfl rfl ?_
        refine E.WL.val (E.y_extract rfl rfl) rfl rfl rfl ?_
        refine E.WL.val (E.y_extract rfl rfl) rfl rfl rfl ?_
        refine E.WL.alloc hb Tryz.zeroValue29 rfl rfl rfl ?_
        clear hb; intro B14 w7 hb _ _
        refine E.WL.storeW hb 0 rfl rfl rfl Tryz.sizeOf29 rfl rfl rfl (E.allOne rfl) rfl ?_
        clear hb; intro w8 hb _
        refine E.WL.val (E.y_assign rfl) rfl rfl rfl ?_
        refine E.WL.done ?_
        refine E.KQ.then_n ?_
        refine E.W.seq ?_
        refine E.W.region ?_
        refine E.WL.val (E.y_move rfl) rfl rfl rfl ?_
        refine E.WL.val (E.y_nilCheck rfl) rfl rfl rfl ?_
        refine E.WL.val (E.y_fld Tryz.underlying66 rfl Tryz.sizeOf27 rfl) rfl rfl rfl ?_
        refine E.WL.val (E.y_fld Tryz.underlying27 rfl Tryz.sizeOf23 rfl) rfl rfl rfl ?_
        refine E.WL.val (E.y_load rfl (E.At.ld1 Tryz.isAgg23 (hK.ext hb.below) 1 rfl)) rfl rfl rfl ?_
        refine E.WL.val (E.y_move rfl) rfl rfl rfl ?_
        obtain ⟨q, cs', hA, _, hl', hat, hr⟩ := hgt _ hpl
        subst hA
        have hone := hr.one
        have hr2 := RTask.goes.stays hr (Stays.ext hE0)
        obtain ⟨va, vb', rfl, hw1, hw2⟩ := hr
        replace hat := hat.ext (E.Ext.trans hE0 hb.below)
        refine E.WL.val (E.y_idxS Tryz.underlying23 Tryz.sizeOf34 rfl rfl (by omega) (by omega)) rfl rfl rfl ?_
        refine E.WL.val (E.y_load rfl (E.At.ldk Tryz.isAgg34 Tryz.sizeOf34 hat rfl)) rfl rfl rfl ?_
        refine E.WL.alloc hb Tryz.zeroValue34 rfl rfl rfl ?_
        clear hb; intro B16 w10 hb _ _
        refine E.WL.storeW hb 0 rfl rfl rfl Tryz.sizeOf34 rfl rfl rfl (hone) rfl ?_
        clear hb; intro w11 hb _
        refine E.WL.done ?_
        refine E.KQ.then_n ?_
        refine E.W.seq ?_
        refine E.W.regionQ rfl (by kernel_rfl) ?_
        obtain ⟨qn, csn, hAn, _, hln, hatn, hrn⟩ := hgn _ hql
        subst hAn
        have hrn2 := RNode.goes.stays hrn (Stays.ext (E.Ext.trans hE0 hb.below))
        replace hr2 := RTask.goes.stays hr2 (Stays.ext hb.below)
        replace hatn := hatn.ext (E.Ext.trans hE0 hb.below)
        refine E.QL.val (fun w' hw => E.y_load rfl (E.At.ldk Tryz.isAgg34 Tryz.sizeOf34 ((hb.ext hw).at0 0 rfl) rfl)) rfl rfl rfl ?_
        refine E.QL.val (fun w' hw => E.y_move rfl) rfl rfl rfl ?_
        refine E.QL.val (fun w' hw => E.y_nilCheck rfl) rfl rfl rfl ?_
        refine E.QL.val (fun w' hw => E.y_fld Tryz.underlying66 rfl Tryz.sizeOf27 rfl) rfl rfl rfl ?_
        refine E.QL.val (fun w' hw => E.y_fld Tryz.underlying27 rfl Tryz.sizeOf22 rfl) rfl rfl rfl ?_
        refine E.QL.val (fun w' hw => E.y_load rfl (E.At.ld1 Tryz.isAgg22 ((hK.ext hb.below).ext hw) 0 rfl)) rfl rfl rfl ?_
        refine E.QL.val (fun w' hw => E.y_move rfl) rfl rfl rfl ?_
        refine E.QL.val (fun w' hw => E.y_idxS Tryz.underlying22 Tryz.sizeOf32 rfl rfl (by omega) (by omega)) rfl rfl rfl ?_
        refine E.QL.val (fun w' hw => E.y_load rfl (E.At.ldk Tryz.isAgg32 Tryz.sizeOf32 (hatn.ext hw) hln)) rfl rfl rfl ?_
        refine E.QL.call Tryz.call86 rfl (fun w' hw => E.quiet hw (suits_calls (RTask.goes.stays hr2 (Stays.ext hw)) (RNode.goes.stays hrn2 (Stays.ext hw)))) rfl rfl ?_
        refine E.QL.val (fun w' hw => E.y_move rfl) rfl rfl rfl ?_
        refine E.QL.split 71 rfl (fun h71 => ?_) (fun h71 => ?_)
        · skip
          refine E.QL.val (fun w' hw => E.y_move rfl) rfl rfl rfl ?_
          refine E.QL.val (fun w' hw => E.y_nilCheck rfl) rfl rfl rfl ?_
          refine E.QL.val (fun w' hw => E.y_fld Tryz.underlying66 rfl Tryz.sizeOf27 rfl) rfl rfl rfl ?_
          refine E.QL.val (fun w' hw => E.y_fld Tryz.underlying27 rfl Tryz.sizeOf22 rfl) rfl rfl rfl ?_
          refine E.QL.val (fun w' hw => E.y_load rfl (E.At.ld1 Tryz.isAgg22 ((hK.ext hb.below).ext hw) 0 rfl)) rfl rfl rfl ?_
          refine E.QL.val (fun w' hw => E.y_move rfl) rfl rfl rfl ?_
          refine E.QL.val (fun w' hw => E.y_idxS Tryz.underlying22 Tryz.sizeOf32 rfl rfl (by omega) (by omega)) rfl rfl rfl ?_
          refine E.QL.val (fun w' hw => E.y_load rfl (E.At.ldk Tryz.isAgg32 Tryz.sizeOf32 (hatn.ext hw) hln)) rfl rfl rfl ?_
          refine E.QL.val (fun w' hw => E.y_load rfl (E.At.ldk Tryz.isAgg29 Tryz.sizeOf29 ((hb.ext hw).at0 1 rfl) rfl)) rfl rfl rfl ?_
          refine E.QL.val (fun w' hw => E.y_fld Tryz.underlying34 rfl Tryz.sizeOf29 rfl) rfl rfl rfl ?_
          refine E.QL.val (fun w' hw => E.y_load rfl (E.At.ldk Tryz.isAgg29 Tryz.sizeOf29 (((hb.ext hw).at0 0 rfl).sub rfl 1 3) rfl)) rfl rfl rfl ?_
          refine E.QL.as 82 rfl (show _ = Value.agg (three ⟨b.tasks[posB (taskNames b) task].n0, b.tasks[posB (taskNames b) task].n1, b.tasks[posB (taskNames b) task].n2⟩).toArray from rfl) ?_
          refine E.QL.call Tryz.call85 rfl (fun w' hw => E.quiet hw (room_calls (RNode.goes.stays hrn2 (Stays.ext hw)) (sumP (thereB b node)).1 ⟨b.tasks[posB (taskNames b) task].n0, b.tasks[posB (taskNames b) task].n1, b.tasks[posB (taskNames b) task].n2⟩)) rfl rfl ?_
          refine E.QL.val (fun w' hw => E.y_pick_t rfl rfl) rfl rfl rfl ?_
          refine E.QL.val (fun w' hw => E.y_assign rfl) rfl rfl rfl ?_
          refine E.QL.as 17 rfl (show _ = Value.bool ((suits b.tasks[posB (taskNames b) task] b.nodes[posB (nodeNames b) node] && roomB b.nodes[posB (nodeNames b) node] (sumP (thereB b node)).1 ⟨b.tasks[posB (taskNames b) task].n0, b.tasks[posB (taskNames b) task].n1, b.tasks[posB (taskNames b) task].n2⟩) && ((thereB b node).take 0).all (bear b.tasks[posB (taskNames b) task])) from by simp [h71]) ?_
          refine E.QL.end_ fun w12 hx => ?_
          replace hb := hb.ext hx
          clear hx
          refine E.KQ.then_n ?_
          refine E.W.seq ?_
          refine E.W.label ?_
          refine E.KQ.then_n ?_
          refine E.W.seq ?_
          refine E.W.seq ?_
          refine E.W.region ?_
          refine E.WL.val (E.y_move rfl) rfl rfl rfl ?_
          refine E.WL.val (E.y_lenS Tryz.underlying23 rfl) rfl rfl rfl ?_
          refine E.WL.val (E.y_move rfl) rfl rfl rfl ?_
          refine E.WL.done ?_
          refine E.KQ.then_n ?_
          refine E.W.block ?_
          refine E.W.loop (ι := Nat) (fun k => [(16, .pointer (some ⟨B16, 0, none⟩)), (17, .bool ((suits b.tasks[posB (taskNames b) task] b.nodes[posB (nodeNames b) node] && roomB b.nodes[posB (nodeNames b) node] (sumP (thereB b node)).1 ⟨b.tasks[posB (taskNames b) task].n0, b.tasks[posB (taskNames b) task].n1, b.tasks[posB (taskNames b) task].n2⟩) && ((thereB b node).take k).all (bear b.tasks[posB (taskNames b) task]))), (85, .slice A (thereB b node).length c), (86, .int .i64 (thereB b node).length), (87, .int .i64 (k : Nat))]) (fun k w' => Bx w4.heap.size w4 w' [(B16, [.string b.tasks[posB (taskNames b) task].name, .int .i64 b.tasks[posB (taskNames b) task].n0, .int .i64 b.tasks[posB (taskNames b) task].n1, .int .i64 b.tasks[posB (taskNames b) task].n2, va, vb', .string b.tasks[posB (taskNames b) task].group, .string b.tasks[posB (taskNames b) task].apart, .int .i64 b.tasks[posB (taskNames b) task].rank], 34)] ∧ k ≤ (thereB b node).length) (fun k => (thereB b node).length - k) (0) (by exact (.cons rfl (.cons rfl (.cons rfl (.cons rfl (.cons rfl .nil)))))) ⟨hb.drop (.cons_cons _ (List.nil_sublist _)), Nat.zero_le _⟩ (fun k w13 hJ => ?_)
          clear hb
          obtain ⟨hb, hk⟩ := hJ
          refine E.W.seq ?_
          refine E.W.region ?_
          refine E.WL.val (E.y_lss rfl rfl) rfl rfl rfl ?_
          refine E.WL.done ?_
          refine E.KQ.then_n ?_
          refine E.W.seq ?_
          refine E.W.condT 88 rfl (fun hc88 => ?_) (fun hc88 => ?_)
          · replace hc88 := of_decide_eq_true hc88
            refine E.W.skip ?_
            refine E.KQ.then_n ?_
            refine E.W.seq ?_
            refine E.W.block ?_
            refine E.W.seq ?_
            refine E.W.region ?_
            have hkl : k < (thereB b node).length := by omega
            obtain ⟨q2, cs2, hA2, _, hl2, hat2, hr3⟩ := hg k hkl
            subst hA2
            have hone2 := hr3.one
            obtain ⟨vc, vd, rfl, hw3, hw4⟩ := hr3
            replace hat2 := hat2.ext hb.below
            refine E.WL.val (E.y_idxS Tryz.underlying23 Tryz.sizeOf34 rfl rfl (by omega) (by omega)) rfl rfl rfl ?_
            refine E.WL.val (E.y_load rfl (E.At.ldk Tryz.isAgg34 Tryz.sizeOf34 hat2 rfl)) rfl rfl rfl ?_
            refine E.WL.alloc hb Tryz.zeroValue34 rfl rfl rfl ?_
            clear hb; intro B14 w15 hb _ _
            refine E.WL.storeW hb 0 rfl rfl rfl Tryz.sizeOf34 rfl rfl rfl (hone2) rfl ?_
            clear hb; intro w16 hb _
            refine E.WL.done ?_
            refine E.KQ.then_n ?_
            refine E.W.seq ?_
            refine E.W.region ?_
            refine E.WL.val (E.y_move rfl) rfl rfl rfl ?_
            refine E.WL.val (E.y_move rfl) rfl rfl rfl ?_
            refine E.WL.split 92 rfl (fun h92 => ?_) (fun h92 => ?_)
            · skip
              refine E.WL.val (E.y_load rfl (E.At.ldk Tryz.isAgg34 Tryz.sizeOf34 (hb.at0 1 rfl) rfl)) rfl rfl rfl ?_
              refine E.WL.val (E.y_load rfl (E.At.ldk Tryz.isAgg34 Tryz.sizeOf34 (hb.at0 0 rfl) rfl)) rfl rfl rfl ?_
              refine E.WL.call (bear_calls w16 b.tasks[posB (taskNames b) task] (thereB b node)[k] va vb' vc vd) Tryz.call88 rfl rfl rfl ?_
              rintro _ w17 ⟨rfl, hX⟩
              replace hb := hb.ext hX
              clear hX
              refine E.WL.val (E.y_pick_t rfl rfl) rfl rfl rfl ?_
              refine E.WL.val (E.y_assign rfl) rfl rfl rfl ?_
              refine E.WL.done ?_
              refine E.KQ.then_n ?_
              refine E.W.seq ?_
              refine E.W.region ?_
              refine E.WL.val (E.y_move rfl) rfl rfl rfl ?_
              refine E.WL.val (E.y_not rfl) rfl rfl rfl ?_
              refine E.WL.done ?_
              refine E.KQ.then_n ?_
              refine E.W.condT 98 rfl (fun h98 => ?_) (fun h98 => ?_)
              · replace h98 : bear b.tasks[posB (taskNames b) task] (thereB b node)[k] = false := by simpa using h98
                have hbad : ((suits b.tasks[posB (taskNames b) task] b.nodes[posB (nodeNames b) node] && roomB b.nodes[posB (nodeNames b) node] (sumP (thereB b node)).1 ⟨b.tasks[posB (taskNames b) task].n0, b.tasks[posB (taskNames b) task].n1, b.tasks[posB (taskNames b) task].n2⟩) && (thereB b node).all (bear b.tasks[posB (taskNames b) task])) = false := by rw [all_not (k := k + 1) (by rw [all_take hkl, h98]; simp)]; simp
                refine E.W.exit ?_
                refine E.KQ.block_o rfl ?_
                refine E.KQ.then_e ?_
                refine E.KQ.loop_e ?_
                refine E.KQ.block_e ?_
                refine E.KQ.then_n ?_
                refine E.W.seq ?_
                refine E.W.seq ?_
                refine E.W.region ?_
                refine E.WL.val (E.y_move rfl) rfl rfl rfl ?_
                refine E.WL.val (E.y_not rfl) rfl rfl rfl ?_
                refine E.WL.done ?_
                refine E.KQ.then_n ?_
                refine E.W.condT 101 rfl (fun h101 => ?_) (fun h101 => ?_)
                · skip
                  refine E.W.seq ?_
                  refine E.W.region ?_
                  refine E.WL.val (E.y_assign rfl) rfl rfl rfl ?_
                  refine E.WL.done ?_
                  refine E.KQ.then_n ?_
                  refine E.W.ret ?_
                  refine E.KQ.then_r ?_
                  refine E.KQ.goto_r ?_
                  refine E.KQ.ret1 Tryz.results59 rfl ?_
                  exact ⟨_, rfl, by rw [hcan, if_neg (by rw [hbad]; decide)], E.Ext.trans hE0 hb.below⟩
                · skip
                  rw [h98] at h101
                  exact absurd h101 (by decide)
              · replace h98 : bear b.tasks[posB (taskNames b) task] (thereB b node)[k] = true := by simpa using h98
                refine E.W.skip ?_
                refine E.KQ.block_n ?_
                refine E.KQ.then_n ?_
                refine E.W.region ?_
                refine E.WL.val (E.y_add rfl rfl (Go.IntWalk.i64_in _ (by omega))) rfl rfl rfl ?_
                refine E.WL.val (E.y_move rfl) rfl rfl rfl ?_
                refine E.WL.done ?_
                replace hb := hb.drop (List.Sublist.cons _ (List.Sublist.refl _))
                refine E.KQ.next (k + 1) (by exact .cons rfl (.cons (by show some (Value.bool (bear _ _)) = some _; rw [all_take hkl, ← Bool.and_assoc, h92]; rfl) (.cons rfl (.cons rfl (.cons rfl .nil))))) ⟨hb, by omega⟩ (by show (thereB b node).length - (k + 1) < (thereB b node).length - k; omega)
            · skip
              have hbad : ((suits b.tasks[posB (taskNames b) task] b.nodes[posB (nodeNames b) node] && roomB b.nodes[posB (nodeNames b) node] (sumP (thereB b node)).1 ⟨b.tasks[posB (taskNames b) task].n0, b.tasks[posB (taskNames b) task].n1, b.tasks[posB (taskNames b) task].n2⟩) && (thereB b node).all (bear b.tasks[posB (taskNames b) task])) = false := Bool.and_eq_false_iff.2 ((Bool.and_eq_false_iff.1 h92).imp id all_not)
              refine E.WL.off rfl rfl rfl ?_
              refine E.WL.off rfl rfl rfl ?_
              refine E.WL.off rfl rfl rfl ?_
              refine E.WL.val (E.y_pick_f rfl rfl) rfl rfl rfl ?_
              refine E.WL.val (E.y_assign rfl) rfl rfl rfl ?_
              refine E.WL.done ?_
              refine E.KQ.then_n ?_
              refine E.W.seq ?_
              refine E.W.region ?_
              refine E.WL.val (E.y_move rfl) rfl rfl rfl ?_
              refine E.WL.val (E.y_not rfl) rfl rfl rfl ?_
              refine E.WL.done ?_
              refine E.KQ.then_n ?_
              refine E.W.cond_t rfl ?_
              refine E.W.exit ?_
              refine E.KQ.block_o rfl ?_
              refine E.KQ.then_e ?_
              refine E.KQ.loop_e ?_
              refine E.KQ.block_e ?_
              refine E.KQ.then_n ?_
              refine E.W.seq ?_
              refine E.W.seq ?_
              refine E.W.region ?_
              refine E.WL.val (E.y_move rfl) rfl rfl rfl ?_
              refine E.WL.val (E.y_not rfl) rfl rfl rfl ?_
              refine E.WL.done ?_
              refine E.KQ.then_n ?_
              refine E.W.cond_t rfl ?_
              refine E.W.seq ?_
              refine E.W.region ?_
              refine E.WL.val (E.y_assign rfl) rfl rfl rfl ?_
              refine E.WL.done ?_
              refine E.KQ.then_n ?_
              refine E.W.ret ?_
              refine E.KQ.then_r ?_
              refine E.KQ.goto_r ?_
              refine E.KQ.ret1 Tryz.results59 rfl ?_
              exact ⟨_, rfl, by rw [hcan, if_neg (by rw [hbad]; decide)], E.Ext.trans hE0 hb.below⟩
          · replace hc88 := of_decide_eq_false hc88
            have hke : (thereB b node).take k = (thereB b node) := List.take_of_length_le (by omega)
            refine E.W.exit ?_
            refine E.KQ.then_e ?_
            refine E.KQ.loop_e ?_
            refine E.KQ.block_e ?_
            refine E.KQ.then_n ?_
            refine E.W.seq ?_
            refine E.W.seq ?_
            refine E.W.region ?_
            refine E.WL.val (E.y_move rfl) rfl rfl rfl ?_
            refine E.WL.val (E.y_not rfl) rfl rfl rfl ?_
            refine E.WL.done ?_
            refine E.KQ.then_n ?_
            refine E.W.condT 101 rfl (fun h101 => ?_) (fun h101 => ?_)
            · skip
              have hbad : ((suits b.tasks[posB (taskNames b) task] b.nodes[posB (nodeNames b) node] && roomB b.nodes[posB (nodeNames b) node] (sumP (thereB b node)).1 ⟨b.tasks[posB (taskNames b) task].n0, b.tasks[posB (taskNames b) task].n1, b.tasks[posB (taskNames b) task].n2⟩) && (thereB b node).all (bear b.tasks[posB (taskNames b) task])) = false := by rw [hke] at h101; rwa [Bool.not_eq_true'] at h101
              refine E.W.seq ?_
              refine E.W.region ?_
              refine E.WL.val (E.y_assign rfl) rfl rfl rfl ?_
              refine E.WL.done ?_
              refine E.KQ.then_n ?_
              refine E.W.ret ?_
              refine E.KQ.then_r ?_
              refine E.KQ.goto_r ?_
              refine E.KQ.ret1 Tryz.results59 rfl ?_
              exact ⟨_, rfl, by rw [hcan, if_neg (by rw [hbad]; decide)], E.Ext.trans hE0 hb.below⟩
            · skip
              have hgood : ((suits b.tasks[posB (taskNames b) task] b.nodes[posB (nodeNames b) node] && roomB b.nodes[posB (nodeNames b) node] (sumP (thereB b node)).1 ⟨b.tasks[posB (taskNames b) task].n0, b.tasks[posB (taskNames b) task].n1, b.tasks[posB (taskNames b) task].n2⟩) && (thereB b node).all (bear b.tasks[posB (taskNames b) task])) = true := by rw [hke] at h101; rwa [Bool.not_eq_false'] at h101
              refine E.W.skip ?_
              refine E.KQ.then_n ?_
              refine E.W.seq ?_
              refine E.W.region ?_
              refine E.WL.val (E.y_assign rfl) rfl rfl rfl ?_
              refine E.WL.done ?_
              refine E.KQ.then_n ?_
              refine E.W.ret ?_
              refine E.KQ.goto_r ?_
              refine E.KQ.ret1 Tryz.results59 rfl ?_
              exact ⟨_, rfl, by rw [hcan, if_pos hgood], E.Ext.trans hE0 hb.below⟩
        · skip
          refine E.QL.off rfl rfl rfl ?_
          refine E.QL.off rfl rfl rfl ?_
          refine E.QL.off rfl rfl rfl ?_
          refine E.QL.off rfl rfl rfl ?_
          refine E.QL.off rfl rfl rfl ?_
          refine E.QL.off rfl rfl rfl ?_
          refine E.QL.off rfl rfl rfl ?_
          refine E.QL.off rfl rfl rfl ?_
          refine E.QL.off rfl rfl rfl ?_
          refine E.QL.off rfl rfl rfl ?_
          refine E.QL.off rfl rfl rfl ?_
          refine E.QL.off rfl rfl rfl ?_
          refine E.QL.val (fun w' hw => E.y_pick_f rfl rfl) rfl rfl rfl ?_
          refine E.QL.val (fun w' hw => E.y_assign rfl) rfl rfl rfl ?_
          refine E.QL.as 17 rfl (show _ = Value.bool ((suits b.tasks[posB (taskNames b) task] b.nodes[posB (nodeNames b) node] && roomB b.nodes[posB (nodeNames b) node] (sumP (thereB b node)).1 ⟨b.tasks[posB (taskNames b) task].n0, b.tasks[posB (taskNames b) task].n1, b.tasks[posB (taskNames b) task].n2⟩) && ((thereB b node).take 0).all (bear b.tasks[posB (taskNames b) task])) from by simp [h71]) ?_
          refine E.QL.end_ fun w18 hx => ?_
          replace hb := hb.ext hx
          clear hx
          refine E.KQ.then_n ?_
          refine E.W.seq ?_
          refine E.W.label ?_
          refine E.KQ.then_n ?_
          refine E.W.seq ?_
          refine E.W.seq ?_
          refine E.W.region ?_
          refine E.WL.val (E.y_move rfl) rfl rfl rfl ?_
          refine E.WL.val (E.y_lenS Tryz.underlying23 rfl) rfl rfl rfl ?_
          refine E.WL.val (E.y_move rfl) rfl rfl rfl ?_
          refine E.WL.done ?_
          refine E.KQ.then_n ?_
          refine E.W.block ?_
          refine E.W.loop (ι := Nat) (fun k => [(16, .pointer (some ⟨B16, 0, none⟩)), (17, .bool ((suits b.tasks[posB (taskNames b) task] b.nodes[posB (nodeNames b) node] && roomB b.nodes[posB (nodeNames b) node] (sumP (thereB b node)).1 ⟨b.tasks[posB (taskNames b) task].n0, b.tasks[posB (taskNames b) task].n1, b.tasks[posB (taskNames b) task].n2⟩) && ((thereB b node).take k).all (bear b.tasks[posB (taskNames b) task]))), (85, .slice A (thereB b node).length c), (86, .int .i64 (thereB b node).length), (87, .int .i64 (k : Nat))]) (fun k w' => Bx w4.heap.size w4 w' [(B16, [.string b.tasks[posB (taskNames b) task].name, .int .i64 b.tasks[posB (taskNames b) task].n0, .int .i64 b.tasks[posB (taskNames b) task].n1, .int .i64 b.tasks[posB (taskNames b) task].n2, va, vb', .string b.tasks[posB (taskNames b) task].group, .string b.tasks[posB (taskNames b) task].apart, .int .i64 b.tasks[posB (taskNames b) task].rank], 34)] ∧ k ≤ (thereB b node).length) (fun k => (thereB b node).length - k) (0) (by exact (.cons rfl (.cons rfl (.cons rfl (.cons rfl (.cons rfl .nil)))))) ⟨hb.drop (.cons_cons _ (List.nil_sublist _)), Nat.zero_le _⟩ (fun k w19 hJ => ?_)
          clear hb
          obtain ⟨hb, hk⟩ := hJ
          refine E.W.seq ?_
          refine E.W.region ?_
          refine E.WL.val (E.y_lss rfl rfl) rfl rfl rfl ?_
          refine E.WL.done ?_
          refine E.KQ.then_n ?_
          refine E.W.seq ?_
          refine E.W.condT 88 rfl (fun hc88 => ?_) (fun hc88 => ?_)
          · replace hc88 := of_decide_eq_true hc88
            refine E.W.skip ?_
            refine E.KQ.then_n ?_
            refine E.W.seq ?_
            refine E.W.block ?_
            refine E.W.seq ?_
            refine E.W.region ?_
            have hkl : k < (thereB b node).length := by omega
            obtain ⟨q2, cs2, hA2, _, hl2, hat2, hr3⟩ := hg k hkl
            subst hA2
            have hone2 := hr3.one
            obtain ⟨vc, vd, rfl, hw3, hw4⟩ := hr3
            replace hat2 := hat2.ext hb.below
            refine E.WL.val (E.y_idxS Tryz.underlying23 Tryz.sizeOf34 rfl rfl (by omega) (by omega)) rfl rfl rfl ?_
            refine E.WL.val (E.y_load rfl (E.At.ldk Tryz.isAgg34 Tryz.sizeOf34 hat2 rfl)) rfl rfl rfl ?_
            refine E.WL.alloc hb Tryz.zeroValue34 rfl rfl rfl ?_
            clear hb; intro B20 w21 hb _ _
            refine E.WL.storeW hb 0 rfl rfl rfl Tryz.sizeOf34 rfl rfl rfl (hone2) rfl ?_
            clear hb; intro w22 hb _
            refine E.WL.done ?_
            refine E.KQ.then_n ?_
            refine E.W.seq ?_
            refine E.W.region ?_
            refine E.WL.val (E.y_move rfl) rfl rfl rfl ?_
            refine E.WL.val (E.y_move rfl) rfl rfl rfl ?_
            refine E.WL.split 92 rfl (fun h92 => ?_) (fun h92 => ?_)
            · skip
              refine E.WL.val (E.y_load rfl (E.At.ldk Tryz.isAgg34 Tryz.sizeOf34 (hb.at0 1 rfl) rfl)) rfl rfl rfl ?_
              refine E.WL.val (E.y_load rfl (E.At.ldk Tryz.isAgg34 Tryz.sizeOf34 (hb.at0 0 rfl) rfl)) rfl rfl rfl ?_
              refine E.WL.call (bear_calls w22 b.tasks[posB (taskNames b) task] (thereB b node)[k] va vb' vc vd) Tryz.call88 rfl rfl rfl ?_
              rintro _ w23 ⟨rfl, hX⟩
              replace hb := hb.ext hX
              clear hX
              refine E.WL.val (E.y_pick_t rfl rfl) rfl rfl rfl ?_
              refine E.WL.val (E.y_assign rfl) rfl rfl rfl ?_
              refine E.WL.done ?_
              refine E.KQ.then_n ?_
              refine E.W.seq ?_
              refine E.W.region ?_
              refine E.WL.val (E.y_move rfl) rfl rfl rfl ?_
              refine E.WL.val (E.y_not rfl) rfl rfl rfl ?_
              refine E.WL.done ?_
              refine E.KQ.then_n ?_
              refine E.W.condT 98 rfl (fun h98 => ?_) (fun h98 => ?_)
              · replace h98 : bear b.tasks[posB (taskNames b) task] (thereB b node)[k] = false := by simpa using h98
                have hbad : ((suits b.tasks[posB (taskNames b) task] b.nodes[posB (nodeNames b) node] && roomB b.nodes[posB (nodeNames b) node] (sumP (thereB b node)).1 ⟨b.tasks[posB (taskNames b) task].n0, b.tasks[posB (taskNames b) task].n1, b.tasks[posB (taskNames b) task].n2⟩) && (thereB b node).all (bear b.tasks[posB (taskNames b) task])) = false := by rw [all_not (k := k + 1) (by rw [all_take hkl, h98]; simp)]; simp
                refine E.W.exit ?_
                refine E.KQ.block_o rfl ?_
                refine E.KQ.then_e ?_
                refine E.KQ.loop_e ?_
                refine E.KQ.block_e ?_
                refine E.KQ.then_n ?_
                refine E.W.seq ?_
                refine E.W.seq ?_
                refine E.W.region ?_
                refine E.WL.val (E.y_move rfl) rfl rfl rfl ?_
                refine E.WL.val (E.y_not rfl) rfl rfl rfl ?_
                refine E.WL.done ?_
                refine E.KQ.then_n ?_
                refine E.W.condT 101 rfl (fun h101 => ?_) (fun h101 => ?_)
                · skip
                  refine E.W.seq ?_
                  refine E.W.region ?_
                  refine E.WL.val (E.y_assign rfl) rfl rfl rfl ?_
                  refine E.WL.done ?_
                  refine E.KQ.then_n ?_
                  refine E.W.ret ?_
                  refine E.KQ.then_r ?_
                  refine E.KQ.goto_r ?_
                  refine E.KQ.ret1 Tryz.results59 rfl ?_
                  exact ⟨_, rfl, by rw [hcan, if_neg (by rw [hbad]; decide)], E.Ext.trans hE0 hb.below⟩
                · skip
                  rw [h98] at h101
                  exact absurd h101 (by decide)
              · replace h98 : bear b.tasks[posB (taskNames b) task] (thereB b node)[k] = true := by simpa using h98
                refine E.W.skip ?_
                refine E.KQ.block_n ?_
                refine E.KQ.then_n ?_
                refine E.W.region ?_
                refine E.WL.val (E.y_add rfl rfl (Go.IntWalk.i64_in _ (by omega))) rfl rfl rfl ?_
                refine E.WL.val (E.y_move rfl) rfl rfl rfl ?_
                refine E.WL.done ?_
                replace hb := hb.drop (List.Sublist.cons _ (List.Sublist.refl _))
                refine E.KQ.next (k + 1) (by exact .cons rfl (.cons (by show some (Value.bool (bear _ _)) = some _; rw [all_take hkl, ← Bool.and_assoc, h92]; rfl) (.cons rfl (.cons rfl (.cons rfl .nil))))) ⟨hb, by omega⟩ (by show (thereB b node).length - (k + 1) < (thereB b node).length - k; omega)
            · skip
              have hbad : ((suits b.tasks[posB (taskNames b) task] b.nodes[posB (nodeNames b) node] && roomB b.nodes[posB (nodeNames b) node] (sumP (thereB b node)).1 ⟨b.tasks[posB (taskNames b) task].n0, b.tasks[posB (taskNames b) task].n1, b.tasks[posB (taskNames b) task].n2⟩) && (thereB b node).all (bear b.tasks[posB (taskNames b) task])) = false := Bool.and_eq_false_iff.2 ((Bool.and_eq_false_iff.1 h92).imp id all_not)
              refine E.WL.off rfl rfl rfl ?_
              refine E.WL.off rfl rfl rfl ?_
              refine E.WL.off rfl rfl rfl ?_
              refine E.WL.val (E.y_pick_f rfl rfl) rfl rfl rfl ?_
              refine E.WL.val (E.y_assign rfl) rfl rfl rfl ?_
              refine E.WL.done ?_
              refine E.KQ.then_n ?_
              refine E.W.seq ?_
              refine E.W.region ?_
              refine E.WL.val (E.y_move rfl) rfl rfl rfl ?_
              refine E.WL.val (E.y_not rfl) rfl rfl rfl ?_
              refine E.WL.done ?_
              refine E.KQ.then_n ?_
              refine E.W.cond_t rfl ?_
              refine E.W.exit ?_
              refine E.KQ.block_o rfl ?_
              refine E.KQ.then_e ?_
              refine E.KQ.loop_e ?_
              refine E.KQ.block_e ?_
              refine E.KQ.then_n ?_
              refine E.W.seq ?_
              refine E.W.seq ?_
              refine E.W.region ?_
              refine E.WL.val (E.y_move rfl) rfl rfl rfl ?_
              refine E.WL.val (E.y_not rfl) rfl rfl rfl ?_
              refine E.WL.done ?_
              refine E.KQ.then_n ?_
              refine E.W.cond_t rfl ?_
              refine E.W.seq ?_
              refine E.W.region ?_
              refine E.WL.val (E.y_assign rfl) rfl rfl rfl ?_
              refine E.WL.done ?_
              refine E.KQ.then_n ?_
              refine E.W.ret ?_
              refine E.KQ.then_r ?_
              refine E.KQ.goto_r ?_
              refine E.KQ.ret1 Tryz.results59 rfl ?_
              exact ⟨_, rfl, by rw [hcan, if_neg (by rw [hbad]; decide)], E.Ext.trans hE0 hb.below⟩
          · replace hc88 := of_decide_eq_false hc88
            have hke : (thereB b node).take k = (thereB b node) := List.take_of_length_le (by omega)
            refine E.W.exit ?_
            refine E.KQ.then_e ?_
            refine E.KQ.loop_e ?_
            refine E.KQ.block_e ?_
            refine E.KQ.then_n ?_
            refine E.W.seq ?_
            refine E.W.seq ?_
            refine E.W.region ?_
            refine E.WL.val (E.y_move rfl) rfl rfl rfl ?_
            refine E.WL.val (E.y_not rfl) rfl rfl rfl ?_
            refine E.WL.done ?_
            refine E.KQ.then_n ?_
            refine E.W.condT 101 rfl (fun h101 => ?_) (fun h101 => ?_)
            · skip
              have hbad : ((suits b.tasks[posB (taskNames b) task] b.nodes[posB (nodeNames b) node] && roomB b.nodes[posB (nodeNames b) node] (sumP (thereB b node)).1 ⟨b.tasks[posB (taskNames b) task].n0, b.tasks[posB (taskNames b) task].n1, b.tasks[posB (taskNames b) task].n2⟩) && (thereB b node).all (bear b.tasks[posB (taskNames b) task])) = false := by rw [hke] at h101; rwa [Bool.not_eq_true'] at h101
              refine E.W.seq ?_
              refine E.W.region ?_
              refine E.WL.val (E.y_assign rfl) rfl rfl rfl ?_
              refine E.WL.done ?_
              refine E.KQ.then_n ?_
              refine E.W.ret ?_
              refine E.KQ.then_r ?_
              refine E.KQ.goto_r ?_
              refine E.KQ.ret1 Tryz.results59 rfl ?_
              exact ⟨_, rfl, by rw [hcan, if_neg (by rw [hbad]; decide)], E.Ext.trans hE0 hb.below⟩
            · skip
              have hgood : ((suits b.tasks[posB (taskNames b) task] b.nodes[posB (nodeNames b) node] && roomB b.nodes[posB (nodeNames b) node] (sumP (thereB b node)).1 ⟨b.tasks[posB (taskNames b) task].n0, b.tasks[posB (taskNames b) task].n1, b.tasks[posB (taskNames b) task].n2⟩) && (thereB b node).all (bear b.tasks[posB (taskNames b) task])) = true := by rw [hke] at h101; rwa [Bool.not_eq_false'] at h101
              refine E.W.skip ?_
              refine E.KQ.then_n ?_
              refine E.W.seq ?_
              refine E.W.region ?_
              refine E.WL.val (E.y_assign rfl) rfl rfl rfl ?_
              refine E.WL.done ?_
              refine E.KQ.then_n ?_
              refine E.W.ret ?_
              refine E.KQ.goto_r ?_
              refine E.KQ.ret1 Tryz.results59 rfl ?_
              exact ⟨_, rfl, by rw [hcan, if_pos hgood], E.Ext.trans hE0 hb.below⟩
end Go.Proofs.YtmnnbnajnfdncaaGreatDoor
