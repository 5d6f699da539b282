/- Walks: lives, of the queue's law. -/
import Derived.Test.YtmnnbnajnfdncaaGreatDoorD13
set_option linter.unusedVariables false
set_option linter.unusedSimpArgs false
namespace Go.Proofs.YtmnnbnajnfdncaaGreatDoor
open Go.RowKit E
set_option maxHeartbeats 4000000 in
theorem livesQ_calls (w : World) :
    Calls Tryz.prog 9 #[] w (Ret fun u w' => u = .bool true ∧ Ext w w') := by
  have hb := E.Bx.start w (base := w.heap.size) (Nat.le_refl _)
  refine E.enter Tryz.func9 rfl Tryz.ntmps9 [] rfl ?_
  refine E.W.seq ?_
  refine E.W.region ?_
  refine E.WL.val (E.y_assign rfl) rfl rfl rfl ?_
  refine E.WL.done ?_
  refine E.KQ.then_n ?_
  refine E.W.seq ?_
  refine E.W.region ?_
  refine E.WL.val (E.y_build (v := .agg #[.string bN, .int .i64 0, .int .i64 0, .int .i64 0, nilS, nilS]) rfl (by kernel_rfl)) rfl rfl rfl ?_
  refine E.WL.val (E.y_build (v := .agg #[.string qX, .string noText]) rfl (by kernel_rfl)) rfl rfl rfl ?_
  refine E.WL.mkslice (T := 45) (cs := [.string qX, .string noText]) hb rfl (fun _ => by kernel_rfl) rfl rfl ?_
  clear hb; intro B12 w2 hb _ _
  refine E.WL.val (E.y_build (v := .agg #[.string qO, .int .i64 0, .int .i64 0, .int .i64 0, nilS, .slice (some ⟨B12, 0, none⟩) 1 1]) rfl (by kernel_rfl)) rfl rfl rfl ?_
  refine E.WL.mkslice (T := 32) (cs := qN0 ++ qN1 B12) hb rfl (fun _ => by kernel_rfl) rfl rfl ?_
  clear hb; intro B14 w4 hb _ _
  refine E.WL.val (E.y_build (v := .agg (qTc bA 5).toArray) rfl (by kernel_rfl)) rfl rfl rfl ?_
  refine E.WL.val (E.y_build (v := .agg (qTc bB 5).toArray) rfl (by kernel_rfl)) rfl rfl rfl ?_
  refine E.WL.val (E.y_build (v := .agg (qTc qC 1).toArray) rfl (by kernel_rfl)) rfl rfl rfl ?_
  refine E.WL.mkslice (T := 34) (cs := qTc bA 5 ++ (qTc bB 5 ++ qTc qC 1)) hb rfl (fun _ => by kernel_rfl) rfl rfl ?_
  clear hb; intro B18 w6 hb _ _
  refine E.WL.val (E.y_build (v := .agg #[.slice (some ⟨B14, 0, none⟩) 2 2, .slice (some ⟨B18, 0, none⟩) 3 3, .slice none 0 0, .int .u64 0]) rfl (by kernel_rfl)) rfl rfl rfl ?_
  refine E.WL.alloc hb Tryz.zeroValue27 rfl rfl rfl ?_
  clear hb; intro B1 w8 hb _ _
  refine E.WL.storeW hb 0 rfl rfl rfl Tryz.sizeOf27 rfl rfl rfl (E.allOne rfl) rfl ?_
  clear hb; intro w9 hb _
  have hbk := bQ_rd (hb.at0 3 rfl) (hb.at0 2 rfl) (hb.at0 1 rfl)
  refine E.WL.done ?_
  refine E.KQ.then_n ?_
  refine E.W.seq ?_
  refine E.W.region ?_
  refine E.WL.val (E.y_load rfl (E.At.ldk Tryz.isAgg27 Tryz.sizeOf27 (hb.at0 0 rfl) rfl)) rfl rfl rfl ?_
  refine E.WL.call (waiting_calls hbk) Tryz.call10 rfl rfl rfl ?_
  rintro _ w10 ⟨⟨v1, xs1, news1, rfl, ot, hw1⟩, hX⟩
  replace hb := hb.ext hX
  replace hbk := RBook.goes.stays hbk (Stays.ext hX)
  obtain ⟨hp1, hs1⟩ := hw1 bQ_check
  rw [bQ_waits] at hp1
  obtain rfl := sorted_one hp1 hs1
  obtain ⟨A1, c1, rfl, hA1⟩ := ownsRow_open ot.row
  clear hX hw1 hp1 hs1
  refine E.WL.val (E.y_move rfl) rfl rfl rfl ?_
  refine E.WL.val (E.y_extract rfl rfl) rfl rfl rfl ?_
  refine E.WL.val (E.y_extract rfl rfl) rfl rfl rfl ?_
  refine E.WL.val (E.y_assign rfl) rfl rfl rfl ?_
  refine E.WL.val (E.y_assign rfl) rfl rfl rfl ?_
  refine E.WL.done ?_
  refine E.KQ.then_n ?_
  refine E.W.seq ?_
  refine E.W.region ?_
  refine E.WL.val (E.y_load rfl (E.At.ldk Tryz.isAgg27 Tryz.sizeOf27 (hb.at0 0 rfl) rfl)) rfl rfl rfl ?_
  refine E.WL.call (loads_calls hbk) Tryz.call11 rfl rfl rfl ?_
  rintro _ w11 ⟨⟨v2, xs2, news2, rfl, ol, hw2⟩, hX⟩
  replace hb := hb.ext hX
  replace hbk := RBook.goes.stays hbk (Stays.ext hX)
  replace ot := OTasks.keeps ot (Keeps.ext hX) (S := fun U => U = 34 ∨ U = 45) (by decide) (by decide)
  obtain rfl := hw2 bQ_check
  obtain ⟨A2, c2, rfl, hA2⟩ := ownsRow_open ol.row
  clear hX hw2 ol
  refine E.WL.val (E.y_move rfl) rfl rfl rfl ?_
  refine E.WL.val (E.y_extract rfl rfl) rfl rfl rfl ?_
  refine E.WL.val (E.y_extract rfl rfl) rfl rfl rfl ?_
  refine E.WL.val (E.y_assign rfl) rfl rfl rfl ?_
  refine E.WL.val (E.y_assign rfl) rfl rfl rfl ?_
  refine E.WL.done ?_
  refine E.KQ.then_n ?_
  refine E.W.seq ?_
  refine E.W.region ?_
  refine E.WL.val (E.y_load rfl (E.At.ldk Tryz.isAgg27 Tryz.sizeOf27 (hb.at0 0 rfl) rfl)) rfl rfl rfl ?_
  refine E.WL.call (free_q_calls hbk bA) Tryz.call25 rfl rfl rfl ?_
  rintro _ w12 ⟨⟨v3, rfl, hs3⟩, hX⟩
  replace hb := hb.ext hX
  replace hbk := RBook.goes.stays hbk (Stays.ext hX)
  replace ot := OTasks.keeps ot (Keeps.ext hX) (S := fun U => U = 34 ∨ U = 45) (by decide) (by decide)
  rw [bQ_free] at hs3
  obtain ⟨A3, c3, rfl, _, _, _⟩ := hs3.open_
  clear hX
  refine E.WL.val (E.y_move rfl) rfl rfl rfl ?_
  refine E.WL.val (E.y_extract rfl rfl) rfl rfl rfl ?_
  refine E.WL.val (E.y_extract rfl rfl) rfl rfl rfl ?_
  refine E.WL.val (E.y_assign rfl) rfl rfl rfl ?_
  refine E.WL.val (E.y_assign rfl) rfl rfl rfl ?_
  refine E.WL.done ?_
  refine E.KQ.then_n ?_
  refine E.W.seq ?_
  refine E.W.region ?_
  refine E.WL.val (E.y_load rfl (E.At.ldk Tryz.isAgg27 Tryz.sizeOf27 (hb.at0 0 rfl) rfl)) rfl rfl rfl ?_
  refine E.WL.call (free_q_calls hbk qZ) Tryz.call25 rfl rfl rfl ?_
  rintro _ w13 ⟨⟨v4, rfl, _⟩, hX⟩
  replace hb := hb.ext hX
  replace hbk := RBook.goes.stays hbk (Stays.ext hX)
  replace ot := OTasks.keeps ot (Keeps.ext hX) (S := fun U => U = 34 ∨ U = 45) (by decide) (by decide)
  replace hs3 := RdS.stays RStr.goes hs3 (Stays.ext hX)
  clear hX
  refine E.WL.val (E.y_move rfl) rfl rfl rfl ?_
  refine E.WL.val (E.y_extract rfl rfl) rfl rfl rfl ?_
  refine E.WL.val (E.y_extract rfl rfl) rfl rfl rfl ?_
  refine E.WL.val (E.y_assign rfl) rfl rfl rfl ?_
  refine E.WL.val (E.y_assign rfl) rfl rfl rfl ?_
  refine E.WL.done ?_
  refine E.KQ.then_n ?_
  refine E.W.seq ?_
  refine E.W.region ?_
  refine E.WL.val (E.y_move rfl) rfl rfl rfl ?_
  refine E.WL.val (E.y_lenS Tryz.underlying23 rfl) rfl rfl rfl ?_
  refine E.WL.val (E.y_eql rfl rfl) rfl rfl rfl ?_
  refine E.WL.as 42 rfl (show _ = Value.bool true from rfl) ?_
  refine E.WL.val (E.y_move rfl) rfl rfl rfl ?_
  refine E.WL.val (E.y_move rfl) rfl rfl rfl ?_
  obtain ⟨g1, rfl⟩ := hA1 (by simp)
  obtain ⟨va, vb, e0, _, _⟩ := ot.rows.each 0 qA rfl
  have hat0 := At.cut_ (ownsRow_at ot.row) 9 0
  rw [e0] at hat0
  obtain ⟨va2, vb2, e2, _, _⟩ := ot.rows.each 2 qCt rfl
  have hat2 := At.cut_ (ownsRow_at ot.row) 9 2
  rw [e2] at hat2
  refine E.WL.val (E.y_idxS Tryz.underlying23 Tryz.sizeOf34 rfl rfl (by decide) (by simp)) rfl rfl rfl ?_
  refine E.WL.val (E.y_fld Tryz.underlying34 rfl Tryz.sizeOf9 rfl) rfl rfl rfl ?_
  refine E.WL.val (E.y_load rfl (E.At.ld1 Tryz.isAgg9 hat0 0 rfl)) rfl rfl rfl ?_
  refine E.WL.val (E.y_seql rfl rfl) rfl rfl rfl ?_
  refine E.WL.as 48 rfl (show _ = Value.bool true from congrArg Value.bool (decide_eq_true rfl)) ?_
  refine E.WL.val (E.y_pick_t rfl rfl) rfl rfl rfl ?_
  refine E.WL.val (E.y_move rfl) rfl rfl rfl ?_
  refine E.WL.val (E.y_move rfl) rfl rfl rfl ?_
  refine E.WL.val (E.y_idxS Tryz.underlying23 Tryz.sizeOf34 rfl rfl (by decide) (by simp)) rfl rfl rfl ?_
  refine E.WL.val (E.y_fld Tryz.underlying34 rfl Tryz.sizeOf9 rfl) rfl rfl rfl ?_
  refine E.WL.val (E.y_load rfl (E.At.ld1 Tryz.isAgg9 hat2 0 rfl)) rfl rfl rfl ?_
  refine E.WL.val (E.y_seql rfl rfl) rfl rfl rfl ?_
  refine E.WL.as 55 rfl (show _ = Value.bool true from congrArg Value.bool (decide_eq_true rfl)) ?_
  refine E.WL.val (E.y_pick_t rfl rfl) rfl rfl rfl ?_
  refine E.WL.val (E.y_move rfl) rfl rfl rfl ?_
  refine E.WL.val (E.y_move rfl) rfl rfl rfl ?_
  refine E.WL.val (E.y_eql rfl rfl) rfl rfl rfl ?_
  refine E.WL.as 59 rfl (show _ = Value.bool true from by rw [bQ_check]; rfl) ?_
  refine E.WL.val (E.y_pick_t rfl rfl) rfl rfl rfl ?_
  refine E.WL.val (E.y_move rfl) rfl rfl rfl ?_
  refine E.WL.val (E.y_move rfl) rfl rfl rfl ?_
  refine E.WL.val (E.y_lenS Tryz.underlying52 rfl) rfl rfl rfl ?_
  refine E.WL.val (E.y_eql rfl rfl) rfl rfl rfl ?_
  refine E.WL.as 64 rfl (show _ = Value.bool true from rfl) ?_
  refine E.WL.val (E.y_pick_t rfl rfl) rfl rfl rfl ?_
  refine E.WL.val (E.y_move rfl) rfl rfl rfl ?_
  refine E.WL.val (E.y_move rfl) rfl rfl rfl ?_
  refine E.WL.val (E.y_eql rfl rfl) rfl rfl rfl ?_
  refine E.WL.as 68 rfl (show _ = Value.bool true from by rw [bQ_check]; rfl) ?_
  refine E.WL.val (E.y_pick_t rfl rfl) rfl rfl rfl ?_
  refine E.WL.val (E.y_move rfl) rfl rfl rfl ?_
  refine E.WL.val (E.y_move rfl) rfl rfl rfl ?_
  refine E.WL.val (E.y_lenS Tryz.underlying74 rfl) rfl rfl rfl ?_
  refine E.WL.val (E.y_eql rfl rfl) rfl rfl rfl ?_
  refine E.WL.as 73 rfl (show _ = Value.bool true from rfl) ?_
  refine E.WL.val (E.y_pick_t rfl rfl) rfl rfl rfl ?_
  refine E.WL.val (E.y_move rfl) rfl rfl rfl ?_
  refine E.WL.val (E.y_move rfl) rfl rfl rfl ?_
  obtain ⟨p3, rfl, hat3⟩ := RStrs.first hs3
  refine E.WL.val (E.y_idxS Tryz.underlying74 Tryz.sizeOf9 rfl rfl (by decide) (by simp)) rfl rfl rfl ?_
  refine E.WL.val (E.y_load rfl (E.At.ld0 Tryz.isAgg9 hat3 rfl)) rfl rfl rfl ?_
  refine E.WL.val (E.y_seql rfl rfl) rfl rfl rfl ?_
  refine E.WL.as 79 rfl (show _ = Value.bool true from congrArg Value.bool (decide_eq_true rfl)) ?_
  refine E.WL.val (E.y_pick_t rfl rfl) rfl rfl rfl ?_
  refine E.WL.val (E.y_move rfl) rfl rfl rfl ?_
  refine E.WL.val (E.y_move rfl) rfl rfl rfl ?_
  refine E.WL.val (E.y_eql rfl rfl) rfl rfl rfl ?_
  refine E.WL.as 83 rfl (show _ = Value.bool true from by rw [bQ_free]; rfl) ?_
  refine E.WL.val (E.y_pick_t rfl rfl) rfl rfl rfl ?_
  refine E.WL.val (E.y_move rfl) rfl rfl rfl ?_
  refine E.WL.val (E.y_move rfl) rfl rfl rfl ?_
  refine E.WL.val (E.y_eql rfl rfl) rfl rfl rfl ?_
  refine E.WL.as 87 rfl (show _ = Value.bool true from by rw [bQ_none]; rfl) ?_
  refine E.WL.val (E.y_pick_t rfl rfl) rfl rfl rfl ?_
  refine E.WL.val (E.y_assign rfl) rfl rfl rfl ?_
  refine E.WL.done ?_
  refine E.KQ.then_n ?_
  refine E.W.ret ?_
  refine E.KQ.ret1 Tryz.results9 rfl ?_
  exact ⟨_, rfl, rfl, hb.below⟩
end Go.Proofs.YtmnnbnajnfdncaaGreatDoor
