/- Walks: book, eleventh part: Do, Lead. -/
import Derived.Test.YtmnnbnajnfdncaaGreatDoorBook10
set_option linter.unusedVariables false
set_option linter.unusedSimpArgs false
namespace Go.Proofs.YtmnnbnajnfdncaaGreatDoor
open Go.RowKit E
set_option maxHeartbeats 4000000 in
theorem do_calls {F G : FP} {w : World} {cs co : List Value} {b : BookD} {o : OrderD} (h : RBook F w cs b) (ho : ROrder G w co o) (hs : orderFits o) :
    Calls Tryz.prog 7 #[(.agg cs.toArray), (.agg co.toArray)] w (Ret fun u w' => (∃ cs', u = .tuple #[.agg cs'.toArray, .agg #[.int .i64 (doP b o).2.1, .string (doP b o).2.2]] ∧ OBook w.heap.size w' cs' (doP b o).1) ∧ Ext w w') := by
  have h0 := h.old
  obtain ⟨vn, vt, vb, rfl, hn0, ht0, hbi0⟩ := id h
  obtain ⟨Ab, cb0, rfl, hcb, hbyb, hgb⟩ := hbi0.open_
  obtain ⟨At', ct0, rfl, hct, hbyt, hgt⟩ := ht0.open_
  obtain ⟨An, cn0, rfl, hcn, hbyn, hgn⟩ := hn0.open_
  have ho2 : ROrder (Lt w.heap.size) w co o := ho.old
  clear ho
  obtain ⟨cn, ct, rfl, hn, ht⟩ := id ho2
  obtain ⟨vl, vt', rfl, hq1, hq2⟩ := id hn
  obtain ⟨vw, vb', rfl, hq3, hq4⟩ := id ht
  have hb := E.Bx.start w (base := w.heap.size) (Nat.le_refl _)
  refine E.enter Tryz.func7 rfl Tryz.ntmps7 [(.agg #[.slice An b.nodes.length cn0, .slice At' b.tasks.length ct0, .slice Ab b.binds.length cb0, .int .u64 b.fence]), (.agg #[.int .u8 o.kind, .string o.node.name, .int .i64 o.node.h0, .int .i64 o.node.h1, .int .i64 o.node.h2, vl, vt', .string o.task.name, .int .i64 o.task.n0, .int .i64 o.task.n1, .int .i64 o.task.n2, vw, vb', .string o.task.group, .string o.task.apart, .int .i64 o.task.rank, .string o.name, .string o.on, .int .u64 o.fence])] rfl ?_
  refine E.W.seq ?_
  refine E.W.region ?_
  refine E.WL.box hb rfl rfl rfl rfl ?_
  clear hb; intro B2 w2 hb _ _
  refine E.WL.box hb rfl rfl rfl rfl ?_
  clear hb; intro B3 w4 hb _ _
  refine E.WL.alloc hb Tryz.zeroValue27 rfl rfl rfl ?_
  clear hb; intro B4 w6 hb _ _
  refine E.WL.alloc hb Tryz.zeroValue41 rfl rfl rfl ?_
  clear hb; intro B5 w8 hb _ _
  refine E.WL.done ?_
  refine E.KQ.then_n ?_
  refine E.W.seq ?_
  refine E.W.seq ?_
  refine E.W.region ?_
  refine E.WL.val (E.y_load rfl (E.At.ldk Tryz.isAgg27 Tryz.sizeOf27 (hb.at0 3 rfl) rfl)) rfl rfl rfl ?_
  refine E.WL.call (check_calls (RBook.goes.stays h0 (Stays.below hb.below (fun _ _ h => h)))) Tryz.call15 rfl rfl rfl ?_
  rintro _ w9 ⟨rfl, hX⟩
  replace hb := hb.ext hX
  clear hX
  refine E.WL.val (E.y_assign rfl) rfl rfl rfl ?_
  refine E.WL.done ?_
  refine E.KQ.then_n ?_
  refine E.W.seq ?_
  refine E.W.region ?_
  refine E.WL.val (E.y_move rfl) rfl rfl rfl ?_
  refine E.WL.val (E.y_neq rfl rfl) rfl rfl rfl ?_
  refine E.WL.done ?_
  refine E.KQ.then_n ?_
  refine E.W.condT 13 rfl (fun h13 => ?_) (fun h13 => ?_)
  · replace h13 : checkB b = false := by cases hc : checkB b with | true => rw [hc] at h13; simp at h13 | false => rfl
    have hp : doP b o = (noBook, 10, noText) := by unfold doP; rw [if_pos h13]
    refine E.W.seq ?_
    refine E.W.region ?_
    refine E.WL.val (E.y_build (v := .agg #[.slice none 0 0, .slice none 0 0, .slice none 0 0, .int .u64 0]) rfl (by kernel_rfl)) rfl rfl rfl ?_
    refine E.WL.val (E.y_move rfl) rfl rfl rfl ?_
    refine E.WL.val (E.y_build (v := .agg #[.int .i64 (if checkB b = true then 0 else 10), .string noText]) rfl (by kernel_rfl)) rfl rfl rfl ?_
    refine E.WL.storeW hb 1 rfl rfl rfl Tryz.sizeOf27 rfl rfl rfl (E.allOne rfl) rfl ?_
    clear hb; intro w10 hb _
    refine E.WL.storeW hb 0 rfl rfl rfl Tryz.sizeOf41 rfl rfl rfl (E.allOne rfl) rfl ?_
    clear hb; intro w11 hb _
    refine E.WL.done ?_
    refine E.KQ.then_n ?_
    refine E.W.ret ?_
    refine E.KQ.then_r ?_
    refine E.KQ.retcc Tryz.results7 rfl (E.At.ldk Tryz.isAgg27 Tryz.sizeOf27 (hb.at0 1 rfl) rfl) rfl (E.At.ldk Tryz.isAgg41 Tryz.sizeOf41 (hb.at0 0 rfl) rfl) ?_
    exact ⟨_, rfl, ⟨_, by rw [hp, h13]; rfl, by rw [hp]; exact ⟨_, _, _, [], [], [], rfl, ⟨World.ownsRow_nil _ _ _ _, Rows.nil⟩, ⟨World.ownsRow_nil _ _ _ _, Rows.nil⟩, ⟨World.ownsRow_nil _ _ _ _, Rows.nil⟩⟩⟩, hb.below⟩
  · replace h13 : checkB b = true := by cases hc : checkB b with | true => rfl | false => rw [hc] at h13; simp at h13
    have hsm : small b := check_le h13
    have h13' : ¬ checkB b = false := by rw [h13]; decide
    refine E.W.skip ?_
    refine E.KQ.then_n ?_
    refine E.W.seq ?_
    refine E.W.region ?_
    refine E.WL.val (E.y_load rfl (E.At.ldk Tryz.isAgg27 Tryz.sizeOf27 (hb.at0 3 rfl) rfl)) rfl rfl rfl ?_
    refine E.WL.call (own_calls (RBook.goes.stays h0 (Stays.below hb.below (fun _ _ h => h)))) Tryz.call16 rfl rfl rfl ?_
    rintro _ w12 ⟨⟨cs', rfl, hob⟩, hX⟩
    have hle := hb.le
    replace hb := hb.ext hX
    obtain ⟨vn2, vt2, vb2, nn, nt, nb, rfl, o1, o2, o3⟩ := (hob.le hle).out
    obtain ⟨A1', c1', rfl, _⟩ := ownsRow_open o1.row
    obtain ⟨A2', c2', rfl, _⟩ := ownsRow_open o2.row
    obtain ⟨A3', c3', rfl, _⟩ := ownsRow_open o3.row
    clear hob hle hX
    refine E.WL.val (E.y_build (v := .agg #[.slice A1' b.nodes.length c1', .slice A2' b.tasks.length c2', .slice A3' b.binds.length c3', .int .u64 b.fence]) rfl (by kernel_rfl)) rfl rfl rfl ?_
    refine E.WL.box hb rfl rfl rfl rfl ?_
    clear hb; intro B7 w14 hb hX _
    replace o1 := ONodes.keeps o1 (Keeps.ext hX) (S := rowS) (by decide) (by decide)
    replace o2 := OTasks.keeps o2 (Keeps.ext hX) (S := rowS) (by decide) (by decide)
    replace o3 := OBinds.keeps o3 (Keeps.ext hX) (S := rowS) (by decide)
    clear hX
    refine E.WL.val (E.y_assign rfl) rfl rfl rfl ?_
    refine E.WL.done ?_
    refine E.KQ.then_n ?_
    refine E.W.seq ?_
    refine E.W.seq ?_
    refine E.W.region ?_
    refine E.WL.val (E.y_load rfl (E.At.ldk Tryz.isAgg36 Tryz.sizeOf36 (hb.at0 3 rfl) rfl)) rfl rfl rfl ?_
    refine E.WL.call (checkOrder_calls (ROrder.goes.stays ho2 (Stays.below hb.below (fun _ _ h => h))) hs) Tryz.call17 rfl rfl rfl ?_
    rintro _ w15 ⟨rfl, hX⟩
    replace hb := hb.ext hX
    replace o1 := ONodes.keeps o1 (Keeps.ext hX) (S := rowS) (by decide) (by decide)
    replace o2 := OTasks.keeps o2 (Keeps.ext hX) (S := rowS) (by decide) (by decide)
    replace o3 := OBinds.keeps o3 (Keeps.ext hX) (S := rowS) (by decide)
    clear hX
    refine E.WL.val (E.y_assign rfl) rfl rfl rfl ?_
    refine E.WL.done ?_
    refine E.KQ.then_n ?_
    refine E.W.seq ?_
    refine E.W.region ?_
    refine E.WL.val (E.y_move rfl) rfl rfl rfl ?_
    refine E.WL.val (E.y_neq rfl rfl) rfl rfl rfl ?_
    refine E.WL.done ?_
    refine E.KQ.then_n ?_
    refine E.W.condT 24 rfl (fun h24 => ?_) (fun h24 => ?_)
    · replace h24 : orderB o = false := by cases hc : orderB o with | true => rw [hc] at h24; simp at h24 | false => rfl
      have hp : doP b o = (b, 4, noText) := by unfold doP; rw [if_neg h13', if_pos h24]
      refine E.W.seq ?_
      refine E.W.region ?_
      refine E.WL.val (E.y_move rfl) rfl rfl rfl ?_
      refine E.WL.val (E.y_nilCheck rfl) rfl rfl rfl ?_
      refine E.WL.val (E.y_fld Tryz.underlying66 rfl Tryz.sizeOf27 rfl) rfl rfl rfl ?_
      refine E.WL.val (E.y_load rfl (E.At.ldk Tryz.isAgg27 Tryz.sizeOf27 ((hb.at0 0 rfl).sub rfl 0 4) rfl)) rfl rfl rfl ?_
      refine E.WL.val (E.y_move rfl) rfl rfl rfl ?_
      refine E.WL.val (E.y_build (v := .agg #[.int .i64 (if orderB o = true then 0 else 4), .string noText]) rfl (by kernel_rfl)) rfl rfl rfl ?_
      refine E.WL.storeW hb 2 rfl rfl rfl Tryz.sizeOf27 rfl rfl rfl (E.allOne rfl) rfl ?_
      have hT := hb.hasT 2 rfl
      clear hb; intro w16 hb hO
      replace o1 := ONodes.keeps o1 (Keeps.only hO hT (by decide)) (S := rowS) (by decide) (by decide)
      replace o2 := OTasks.keeps o2 (Keeps.only hO hT (by decide)) (S := rowS) (by decide) (by decide)
      replace o3 := OBinds.keeps o3 (Keeps.only hO hT (by decide)) (S := rowS) (by decide)
      clear hT
      clear hO
      refine E.WL.storeW hb 1 rfl rfl rfl Tryz.sizeOf41 rfl rfl rfl (E.allOne rfl) rfl ?_
      have hT := hb.hasT 1 rfl
      clear hb; intro w17 hb hO
      replace o1 := ONodes.keeps o1 (Keeps.only hO hT (by decide)) (S := rowS) (by decide) (by decide)
      replace o2 := OTasks.keeps o2 (Keeps.only hO hT (by decide)) (S := rowS) (by decide) (by decide)
      replace o3 := OBinds.keeps o3 (Keeps.only hO hT (by decide)) (S := rowS) (by decide)
      clear hT
      clear hO
      refine E.WL.done ?_
      refine E.KQ.then_n ?_
      refine E.W.ret ?_
      refine E.KQ.then_r ?_
      refine E.KQ.retcc Tryz.results7 rfl (E.At.ldk Tryz.isAgg27 Tryz.sizeOf27 (hb.at0 2 rfl) rfl) rfl (E.At.ldk Tryz.isAgg41 Tryz.sizeOf41 (hb.at0 1 rfl) rfl) ?_
      exact ⟨_, rfl, ⟨_, by rw [hp, h24]; rfl, by rw [hp]; exact ⟨_, _, _, _, _, _, rfl, o1, o2, o3⟩⟩, hb.below⟩
    · replace h24 : orderB o = true := by cases hc : orderB o with | true => rfl | false => rw [hc] at h24; simp at h24
      have h24' : ¬ orderB o = false := by rw [h24]; decide
      refine E.W.skip ?_
      refine E.KQ.then_n ?_
      refine E.W.seq ?_
      refine E.W.region ?_
      refine E.WL.alloc hb Tryz.zeroValue41 rfl rfl rfl ?_
      clear hb; intro B9 w19 hb hX _
      replace o1 := ONodes.keeps o1 (Keeps.ext hX) (S := rowS) (by decide) (by decide)
      replace o2 := OTasks.keeps o2 (Keeps.ext hX) (S := rowS) (by decide) (by decide)
      replace o3 := OBinds.keeps o3 (Keeps.ext hX) (S := rowS) (by decide)
      clear hX
      refine E.WL.done ?_
      refine E.KQ.then_n ?_
      refine E.W.seq ?_
      refine E.W.seq ?_
      refine E.W.region ?_
      refine E.WL.val (E.y_fld Tryz.underlying36 rfl Tryz.sizeOf28 rfl) rfl rfl rfl ?_
      refine E.WL.val (E.y_load rfl (E.At.ld1 Tryz.isAgg28 (hb.at0 4 rfl) 0 rfl)) rfl rfl rfl ?_
      refine E.WL.done ?_
      refine E.KQ.then_n ?_
      refine E.W.block ?_
      refine E.W.seq ?_
      refine E.W.region ?_
      refine E.WL.val (E.y_eql rfl rfl) rfl rfl rfl ?_
      refine E.WL.val (E.y_assign rfl) rfl rfl rfl ?_
      refine E.WL.done ?_
      refine E.KQ.then_n ?_
      refine E.W.condT 36 rfl (fun k1 => ?_) (fun k1 => ?_)
      · replace k1 := of_decide_eq_true k1
        have hp : doP b o = ((addNodeP b o.node).1, (addNodeP b o.node).2, noText) := by unfold doP; rw [if_neg h13', if_neg h24', if_pos k1]
        refine E.W.region ?_
        refine E.WL.val (E.y_move rfl) rfl rfl rfl ?_
        refine E.WL.val (E.y_fld Tryz.underlying36 rfl Tryz.sizeOf32 rfl) rfl rfl rfl ?_
        refine E.WL.val (E.y_load rfl (E.At.ldk Tryz.isAgg32 Tryz.sizeOf32 ((hb.at0 4 rfl).sub rfl 1 6) rfl)) rfl rfl rfl ?_
        refine E.WL.call (addNode_calls hb.le (Kp.mk' hb 1 rfl o1 o2 o3) hsm (RNode.goes.stays hn (Stays.below hb.below (fun _ _ h => h)))) Tryz.call18 rfl rfl rfl ?_
        rintro _ w20 ⟨rfl, hk2, hB6, hK6⟩
        clear o1 o2 o3
        obtain ⟨vn3, vt3, vb3, nn3, nt3, nb3, hbK3, hgK3, o1, o2, o3⟩ := hk2.out
        obtain ⟨A1', c1', rfl, hA1'⟩ := ownsRow_open o1.row
        obtain ⟨A2', c2', rfl, hA2'⟩ := ownsRow_open o2.row
        obtain ⟨A3', c3', rfl, hA3'⟩ := ownsRow_open o3.row
        replace hb := Bx.reK2 [(B9, _, 41)] [(B5, _, 41), (B4, _, 27), (B3, _, 36), (B2, _, 27)] hb hK6 hB6 (by intro p hp; simp only [List.mem_cons, List.mem_append, List.not_mem_nil, or_false] at hp; rcases hp with rfl | rfl | rfl | rfl | rfl <;> simp [boxS]) hbK3 hgK3
        simp only [List.cons_append, List.nil_append] at hb
        clear hB6 hK6 hgK3
        refine E.WL.val (E.y_fld Tryz.underlying41 rfl Tryz.sizeOf39 rfl) rfl rfl rfl ?_
        refine E.WL.store hb 0 0 rfl rfl rfl Tryz.sizeOf39 rfl rfl rfl (E.allOne rfl) rfl ?_
        have hT := hb.hasT 0 rfl
        clear hb; intro w21 hb hO
        replace o1 := ONodes.keeps o1 (Keeps.only hO hT (by decide)) (S := rowS) (by decide) (by decide)
        replace o2 := OTasks.keeps o2 (Keeps.only hO hT (by decide)) (S := rowS) (by decide) (by decide)
        replace o3 := OBinds.keeps o3 (Keeps.only hO hT (by decide)) (S := rowS) (by decide)
        clear hT
        clear hO
        refine E.WL.done ?_
        refine E.KQ.block_n ?_
        refine E.KQ.then_n ?_
        refine E.W.seq ?_
        have hb0 := hb
        refine E.W.regionC (C := fun w' => At w' ⟨B7, 0, none⟩ [.slice A1' (addNodeP b o.node).1.nodes.length c1', .slice A2' (addNodeP b o.node).1.tasks.length c2', .slice A3' (addNodeP b o.node).1.binds.length c3', .int .u64 (addNodeP b o.node).1.fence] ∧ At w' ⟨B9, 0, none⟩ [.int .i64 (addNodeP b o.node).2, .string noText]) (E.heads 7 []) rfl ?_
        replace hb := hb.drew
        replace o1 := ONodes.keeps o1 (Keeps.ext (E.Ext.drew _)) (S := rowS) (by decide) (by decide)
        replace o2 := OTasks.keeps o2 (Keeps.ext (E.Ext.drew _)) (S := rowS) (by decide) (by decide)
        replace o3 := OBinds.keeps o3 (Keeps.ext (E.Ext.drew _)) (S := rowS) (by decide)
        have hE : (fun w' => At w' ⟨B7, 0, none⟩ [.slice A1' (addNodeP b o.node).1.nodes.length c1', .slice A2' (addNodeP b o.node).1.tasks.length c2', .slice A3' (addNodeP b o.node).1.binds.length c3', .int .u64 (addNodeP b o.node).1.fence] ∧ At w' ⟨B9, 0, none⟩ [.int .i64 (addNodeP b o.node).2, .string noText]) (w21.drew) := ⟨hb.at0 1 rfl, hb.at0 0 rfl⟩
        refine E.DL.take 0 rfl (by kernel_rfl) (by kernel_rfl) (fun w' hw => E.y_move rfl) rfl rfl rfl (fun _ _ _ _ h => by obtain ⟨_, _, h, _⟩ := h; cases h) hE ?_
        refine E.DL.take 1 rfl (by kernel_rfl) (by kernel_rfl) (fun w' hw => E.y_nilCheck rfl) rfl rfl rfl (fun _ _ _ _ h => by obtain ⟨_, _, h, _⟩ := h; cases h) hE ?_
        refine E.DL.take 2 rfl (by kernel_rfl) (by kernel_rfl) (fun w' hw => E.y_fld Tryz.underlying66 rfl Tryz.sizeOf27 rfl) rfl rfl rfl (fun _ _ _ _ h => by obtain ⟨_, _, h, _⟩ := h; cases h) hE ?_
        refine E.DL.take 3 rfl (by kernel_rfl) (by kernel_rfl) (fun w' hw => E.y_load rfl (E.At.ldk Tryz.isAgg27 Tryz.sizeOf27 (hw.1.sub rfl 0 4) rfl)) rfl rfl rfl (fun _ _ _ _ h => by obtain ⟨_, _, h, _⟩ := h; cases h) hE ?_
        refine E.DL.take 4 rfl (by kernel_rfl) (by kernel_rfl) (fun w' hw => E.y_load rfl (E.At.ldk Tryz.isAgg41 Tryz.sizeOf41 hw.2 rfl)) rfl rfl rfl (fun _ _ _ _ h => by obtain ⟨_, _, h, _⟩ := h; cases h) hE ?_
        refine E.DL.only 5 rfl (by kernel_rfl) (fun hsh => ?_)
        refine E.WL.storeW hb 3 rfl rfl rfl Tryz.sizeOf27 rfl rfl rfl (E.allOne rfl) rfl ?_
        have hT := hb.hasT 3 rfl
        clear hb; intro w22 hb hO
        replace o1 := ONodes.keeps o1 (Keeps.only hO hT (by decide)) (S := rowS) (by decide) (by decide)
        replace o2 := OTasks.keeps o2 (Keeps.only hO hT (by decide)) (S := rowS) (by decide) (by decide)
        replace o3 := OBinds.keeps o3 (Keeps.only hO hT (by decide)) (S := rowS) (by decide)
        clear hT
        clear hO
        refine E.WL.done ?_
        replace hE : (fun w' => At w' ⟨B7, 0, none⟩ [.slice A1' (addNodeP b o.node).1.nodes.length c1', .slice A2' (addNodeP b o.node).1.tasks.length c2', .slice A3' (addNodeP b o.node).1.binds.length c3', .int .u64 (addNodeP b o.node).1.fence] ∧ At w' ⟨B9, 0, none⟩ [.int .i64 (addNodeP b o.node).2, .string noText]) (w22) := ⟨hb.at0 1 rfl, hb.at0 0 rfl⟩
        refine E.DL.next hsh (.inl hE) ?_
        clear hsh
        refine E.DL.only 6 rfl (by kernel_rfl) (fun hsh => ?_)
        refine E.WL.storeW hb 2 rfl rfl rfl Tryz.sizeOf41 rfl rfl rfl (E.allOne rfl) rfl ?_
        have hT := hb.hasT 2 rfl
        clear hb; intro w23 hb hO
        replace o1 := ONodes.keeps o1 (Keeps.only hO hT (by decide)) (S := rowS) (by decide) (by decide)
        replace o2 := OTasks.keeps o2 (Keeps.only hO hT (by decide)) (S := rowS) (by decide) (by decide)
        replace o3 := OBinds.keeps o3 (Keeps.only hO hT (by decide)) (S := rowS) (by decide)
        clear hT
        clear hO
        refine E.WL.done ?_
        replace hE : (fun w' => At w' ⟨B7, 0, none⟩ [.slice A1' (addNodeP b o.node).1.nodes.length c1', .slice A2' (addNodeP b o.node).1.tasks.length c2', .slice A3' (addNodeP b o.node).1.binds.length c3', .int .u64 (addNodeP b o.node).1.fence] ∧ At w' ⟨B9, 0, none⟩ [.int .i64 (addNodeP b o.node).2, .string noText]) (w23) := ⟨hb.at0 1 rfl, hb.at0 0 rfl⟩
        refine E.DL.next hsh (.inl hE) ?_
        clear hsh
        refine E.DL.done (by kernel_rfl) ?_
        clear hE hb0
        refine E.KQ.then_n ?_
        refine E.W.ret ?_
        refine E.KQ.retcc Tryz.results7 rfl (E.At.ldk Tryz.isAgg27 Tryz.sizeOf27 (hb.at0 3 rfl) rfl) rfl (E.At.ldk Tryz.isAgg41 Tryz.sizeOf41 (hb.at0 2 rfl) rfl) ?_
        exact ⟨_, rfl, ⟨_, by (rw [hp] <;> rfl), by rw [hp]; exact ⟨_, _, _, _, _, _, rfl, o1, o2, o3⟩⟩, hb.below⟩
      · replace k1 := of_decide_eq_false k1
        refine E.W.seq ?_
        refine E.W.region ?_
        refine E.WL.val (E.y_eql rfl rfl) rfl rfl rfl ?_
        refine E.WL.val (E.y_assign rfl) rfl rfl rfl ?_
        refine E.WL.done ?_
        refine E.KQ.then_n ?_
        refine E.W.condT 43 rfl (fun k3 => ?_) (fun k3 => ?_)
        · replace k3 := of_decide_eq_true k3
          have hp : doP b o = ((addTaskP b o.task).1, (addTaskP b o.task).2, noText) := by unfold doP; rw [if_neg h13', if_neg h24', if_neg k1, if_pos k3]
          refine E.W.region ?_
          refine E.WL.val (E.y_move rfl) rfl rfl rfl ?_
          refine E.WL.val (E.y_fld Tryz.underlying36 rfl Tryz.sizeOf34 rfl) rfl rfl rfl ?_
          refine E.WL.val (E.y_load rfl (E.At.ldk Tryz.isAgg34 Tryz.sizeOf34 ((hb.at0 4 rfl).sub rfl 7 9) rfl)) rfl rfl rfl ?_
          refine E.WL.call (addTask_calls hb.le (Kp.mk' hb 1 rfl o1 o2 o3) hsm (RTask.goes.stays ht (Stays.below hb.below (fun _ _ h => h)))) Tryz.call19 rfl rfl rfl ?_
          rintro _ w24 ⟨rfl, hk2, hB6, hK6⟩
          clear o1 o2 o3
          obtain ⟨vn3, vt3, vb3, nn3, nt3, nb3, hbK3, hgK3, o1, o2, o3⟩ := hk2.out
          obtain ⟨A1', c1', rfl, hA1'⟩ := ownsRow_open o1.row
          obtain ⟨A2', c2', rfl, hA2'⟩ := ownsRow_open o2.row
          obtain ⟨A3', c3', rfl, hA3'⟩ := ownsRow_open o3.row
          replace hb := Bx.reK2 [(B9, _, 41)] [(B5, _, 41), (B4, _, 27), (B3, _, 36), (B2, _, 27)] hb hK6 hB6 (by intro p hp; simp only [List.mem_cons, List.mem_append, List.not_mem_nil, or_false] at hp; rcases hp with rfl | rfl | rfl | rfl | rfl <;> simp [boxS]) hbK3 hgK3
          simp only [List.cons_append, List.nil_append] at hb
          clear hB6 hK6 hgK3
          refine E.WL.val (E.y_fld Tryz.underlying41 rfl Tryz.sizeOf39 rfl) rfl rfl rfl ?_
          refine E.WL.store hb 0 0 rfl rfl rfl Tryz.sizeOf39 rfl rfl rfl (E.allOne rfl) rfl ?_
          have hT := hb.hasT 0 rfl
          clear hb; intro w25 hb hO
          replace o1 := ONodes.keeps o1 (Keeps.only hO hT (by decide)) (S := rowS) (by decide) (by decide)
          replace o2 := OTasks.keeps o2 (Keeps.only hO hT (by decide)) (S := rowS) (by decide) (by decide)
          replace o3 := OBinds.keeps o3 (Keeps.only hO hT (by decide)) (S := rowS) (by decide)
          clear hT
          clear hO
          refine E.WL.done ?_
          refine E.KQ.block_n ?_
          refine E.KQ.then_n ?_
          refine E.W.seq ?_
          have hb0 := hb
          refine E.W.regionC (C := fun w' => At w' ⟨B7, 0, none⟩ [.slice A1' (addTaskP b o.task).1.nodes.length c1', .slice A2' (addTaskP b o.task).1.tasks.length c2', .slice A3' (addTaskP b o.task).1.binds.length c3', .int .u64 (addTaskP b o.task).1.fence] ∧ At w' ⟨B9, 0, none⟩ [.int .i64 (addTaskP b o.task).2, .string noText]) (E.heads 7 []) rfl ?_
          replace hb := hb.drew
          replace o1 := ONodes.keeps o1 (Keeps.ext (E.Ext.drew _)) (S := rowS) (by decide) (by decide)
          replace o2 := OTasks.keeps o2 (Keeps.ext (E.Ext.drew _)) (S := rowS) (by decide) (by decide)
          replace o3 := OBinds.keeps o3 (Keeps.ext (E.Ext.drew _)) (S := rowS) (by decide)
          have hE : (fun w' => At w' ⟨B7, 0, none⟩ [.slice A1' (addTaskP b o.task).1.nodes.length c1', .slice A2' (addTaskP b o.task).1.tasks.length c2', .slice A3' (addTaskP b o.task).1.binds.length c3', .int .u64 (addTaskP b o.task).1.fence] ∧ At w' ⟨B9, 0, none⟩ [.int .i64 (addTaskP b o.task).2, .string noText]) (w25.drew) := ⟨hb.at0 1 rfl, hb.at0 0 rfl⟩
          refine E.DL.take 0 rfl (by kernel_rfl) (by kernel_rfl) (fun w' hw => E.y_move rfl) rfl rfl rfl (fun _ _ _ _ h => by obtain ⟨_, _, h, _⟩ := h; cases h) hE ?_
          refine E.DL.take 1 rfl (by kernel_rfl) (by kernel_rfl) (fun w' hw => E.y_nilCheck rfl) rfl rfl rfl (fun _ _ _ _ h => by obtain ⟨_, _, h, _⟩ := h; cases h) hE ?_
          refine E.DL.take 2 rfl (by kernel_rfl) (by kernel_rfl) (fun w' hw => E.y_fld Tryz.underlying66 rfl Tryz.sizeOf27 rfl) rfl rfl rfl (fun _ _ _ _ h => by obtain ⟨_, _, h, _⟩ := h; cases h) hE ?_
          refine E.DL.take 3 rfl (by kernel_rfl) (by kernel_rfl) (fun w' hw => E.y_load rfl (E.At.ldk Tryz.isAgg27 Tryz.sizeOf27 (hw.1.sub rfl 0 4) rfl)) rfl rfl rfl (fun _ _ _ _ h => by obtain ⟨_, _, h, _⟩ := h; cases h) hE ?_
          refine E.DL.take 4 rfl (by kernel_rfl) (by kernel_rfl) (fun w' hw => E.y_load rfl (E.At.ldk Tryz.isAgg41 Tryz.sizeOf41 hw.2 rfl)) rfl rfl rfl (fun _ _ _ _ h => by obtain ⟨_, _, h, _⟩ := h; cases h) hE ?_
          refine E.DL.only 5 rfl (by kernel_rfl) (fun hsh => ?_)
          refine E.WL.storeW hb 3 rfl rfl rfl Tryz.sizeOf27 rfl rfl rfl (E.allOne rfl) rfl ?_
          have hT := hb.hasT 3 rfl
          clear hb; intro w26 hb hO
          replace o1 := ONodes.keeps o1 (Keeps.only hO hT (by decide)) (S := rowS) (by decide) (by decide)
          replace o2 := OTasks.keeps o2 (Keeps.only hO hT (by decide)) (S := rowS) (by decide) (by decide)
          replace o3 := OBinds.keeps o3 (Keeps.only hO hT (by decide)) (S := rowS) (by decide)
          clear hT
          clear hO
          refine E.WL.done ?_
          replace hE : (fun w' => At w' ⟨B7, 0, none⟩ [.slice A1' (addTaskP b o.task).1.nodes.length c1', .slice A2' (addTaskP b o.task).1.tasks.length c2', .slice A3' (addTaskP b o.task).1.binds.length c3', .int .u64 (addTaskP b o.task).1.fence] ∧ At w' ⟨B9, 0, none⟩ [.int .i64 (addTaskP b o.task).2, .string noText]) (w26) := ⟨hb.at0 1 rfl, hb.at0 0 rfl⟩
          refine E.DL.next hsh (.inl hE) ?_
          clear hsh
          refine E.DL.only 6 rfl (by kernel_rfl) (fun hsh => ?_)
          refine E.WL.storeW hb 2 rfl rfl rfl Tryz.sizeOf41 rfl rfl rfl (E.allOne rfl) rfl ?_
          have hT := hb.hasT 2 rfl
          clear hb; intro w27 hb hO
          replace o1 := ONodes.keeps o1 (Keeps.only hO hT (by decide)) (S := rowS) (by decide) (by decide)
          replace o2 := OTasks.keeps o2 (Keeps.only hO hT (by decide)) (S := rowS) (by decide) (by decide)
          replace o3 := OBinds.keeps o3 (Keeps.only hO hT (by decide)) (S := rowS) (by decide)
          clear hT
          clear hO
          refine E.WL.done ?_
          replace hE : (fun w' => At w' ⟨B7, 0, none⟩ [.slice A1' (addTaskP b o.task).1.nodes.length c1', .slice A2' (addTaskP b o.task).1.tasks.length c2', .slice A3' (addTaskP b o.task).1.binds.length c3', .int .u64 (addTaskP b o.task).1.fence] ∧ At w' ⟨B9, 0, none⟩ [.int .i64 (addTaskP b o.task).2, .string noText]) (w27) := ⟨hb.at0 1 rfl, hb.at0 0 rfl⟩
          refine E.DL.next hsh (.inl hE) ?_
          clear hsh
          refine E.DL.done (by kernel_rfl) ?_
          clear hE hb0
          refine E.KQ.then_n ?_
          refine E.W.ret ?_
          refine E.KQ.retcc Tryz.results7 rfl (E.At.ldk Tryz.isAgg27 Tryz.sizeOf27 (hb.at0 3 rfl) rfl) rfl (E.At.ldk Tryz.isAgg41 Tryz.sizeOf41 (hb.at0 2 rfl) rfl) ?_
          exact ⟨_, rfl, ⟨_, by (rw [hp] <;> rfl), by rw [hp]; exact ⟨_, _, _, _, _, _, rfl, o1, o2, o3⟩⟩, hb.below⟩
        · replace k3 := of_decide_eq_false k3
          refine E.W.seq ?_
          refine E.W.region ?_
          refine E.WL.val (E.y_eql rfl rfl) rfl rfl rfl ?_
          refine E.WL.val (E.y_assign rfl) rfl rfl rfl ?_
          refine E.WL.done ?_
          refine E.KQ.then_n ?_
          refine E.W.condT 50 rfl (fun k2 => ?_) (fun k2 => ?_)
          · replace k2 := of_decide_eq_true k2
            have hp : doP b o = ((goneP b o.name).1, (goneP b o.name).2, noText) := by unfold doP; rw [if_neg h13', if_neg h24', if_neg k1, if_neg k3, if_pos k2]
            refine E.W.region ?_
            refine E.WL.val (E.y_move rfl) rfl rfl rfl ?_
            refine E.WL.val (E.y_fld Tryz.underlying36 rfl Tryz.sizeOf9 rfl) rfl rfl rfl ?_
            refine E.WL.val (E.y_load rfl (E.At.ld1 Tryz.isAgg9 (hb.at0 4 rfl) 16 rfl)) rfl rfl rfl ?_
            refine E.WL.call (gone_calls hb.le (Kp.mk' hb 1 rfl o1 o2 o3) hsm o.name) Tryz.call20 rfl rfl rfl ?_
            rintro _ w28 ⟨rfl, hk2, hB6, hK6⟩
            clear o1 o2 o3
            obtain ⟨vn3, vt3, vb3, nn3, nt3, nb3, hbK3, hgK3, o1, o2, o3⟩ := hk2.out
            obtain ⟨A1', c1', rfl, hA1'⟩ := ownsRow_open o1.row
            obtain ⟨A2', c2', rfl, hA2'⟩ := ownsRow_open o2.row
            obtain ⟨A3', c3', rfl, hA3'⟩ := ownsRow_open o3.row
            replace hb := Bx.reK2 [(B9, _, 41)] [(B5, _, 41), (B4, _, 27), (B3, _, 36), (B2, _, 27)] hb hK6 hB6 (by intro p hp; simp only [List.mem_cons, List.mem_append, List.not_mem_nil, or_false] at hp; rcases hp with rfl | rfl | rfl | rfl | rfl <;> simp [boxS]) hbK3 hgK3
            simp only [List.cons_append, List.nil_append] at hb
            clear hB6 hK6 hgK3
            refine E.WL.val (E.y_fld Tryz.underlying41 rfl Tryz.sizeOf39 rfl) rfl rfl rfl ?_
            refine E.WL.store hb 0 0 rfl rfl rfl Tryz.sizeOf39 rfl rfl rfl (E.allOne rfl) rfl ?_
            have hT := hb.hasT 0 rfl
            clear hb; intro w29 hb hO
            replace o1 := ONodes.keeps o1 (Keeps.only hO hT (by decide)) (S := rowS) (by decide) (by decide)
            replace o2 := OTasks.keeps o2 (Keeps.only hO hT (by decide)) (S := rowS) (by decide) (by decide)
            replace o3 := OBinds.keeps o3 (Keeps.only hO hT (by decide)) (S := rowS) (by decide)
            clear hT
            clear hO
            refine E.WL.done ?_
            refine E.KQ.block_n ?_
            refine E.KQ.then_n ?_
            refine E.W.seq ?_
            have hb0 := hb
            refine E.W.regionC (C := fun w' => At w' ⟨B7, 0, none⟩ [.slice A1' (goneP b o.name).1.nodes.length c1', .slice A2' (goneP b o.name).1.tasks.length c2', .slice A3' (goneP b o.name).1.binds.length c3', .int .u64 (goneP b o.name).1.fence] ∧ At w' ⟨B9, 0, none⟩ [.int .i64 (goneP b o.name).2, .string noText]) (E.heads 7 []) rfl ?_
            replace hb := hb.drew
            replace o1 := ONodes.keeps o1 (Keeps.ext (E.Ext.drew _)) (S := rowS) (by decide) (by decide)
            replace o2 := OTasks.keeps o2 (Keeps.ext (E.Ext.drew _)) (S := rowS) (by decide) (by decide)
            replace o3 := OBinds.keeps o3 (Keeps.ext (E.Ext.drew _)) (S := rowS) (by decide)
            have hE : (fun w' => At w' ⟨B7, 0, none⟩ [.slice A1' (goneP b o.name).1.nodes.length c1', .slice A2' (goneP b o.name).1.tasks.length c2', .slice A3' (goneP b o.name).1.binds.length c3', .int .u64 (goneP b o.name).1.fence] ∧ At w' ⟨B9, 0, none⟩ [.int .i64 (goneP b o.name).2, .string noText]) (w29.drew) := ⟨hb.at0 1 rfl, hb.at0 0 rfl⟩
            refine E.DL.take 0 rfl (by kernel_rfl) (by kernel_rfl) (fun w' hw => E.y_move rfl) rfl rfl rfl (fun _ _ _ _ h => by obtain ⟨_, _, h, _⟩ := h; cases h) hE ?_
            refine E.DL.take 1 rfl (by kernel_rfl) (by kernel_rfl) (fun w' hw => E.y_nilCheck rfl) rfl rfl rfl (fun _ _ _ _ h => by obtain ⟨_, _, h, _⟩ := h; cases h) hE ?_
            refine E.DL.take 2 rfl (by kernel_rfl) (by kernel_rfl) (fun w' hw => E.y_fld Tryz.underlying66 rfl Tryz.sizeOf27 rfl) rfl rfl rfl (fun _ _ _ _ h => by obtain ⟨_, _, h, _⟩ := h; cases h) hE ?_
            refine E.DL.take 3 rfl (by kernel_rfl) (by kernel_rfl) (fun w' hw => E.y_load rfl (E.At.ldk Tryz.isAgg27 Tryz.sizeOf27 (hw.1.sub rfl 0 4) rfl)) rfl rfl rfl (fun _ _ _ _ h => by obtain ⟨_, _, h, _⟩ := h; cases h) hE ?_
            refine E.DL.take 4 rfl (by kernel_rfl) (by kernel_rfl) (fun w' hw => E.y_load rfl (E.At.ldk Tryz.isAgg41 Tryz.sizeOf41 hw.2 rfl)) rfl rfl rfl (fun _ _ _ _ h => by obtain ⟨_, _, h, _⟩ := h; cases h) hE ?_
            refine E.DL.only 5 rfl (by kernel_rfl) (fun hsh => ?_)
            refine E.WL.storeW hb 3 rfl rfl rfl Tryz.sizeOf27 rfl rfl rfl (E.allOne rfl) rfl ?_
            have hT := hb.hasT 3 rfl
            clear hb; intro w30 hb hO
            replace o1 := ONodes.keeps o1 (Keeps.only hO hT (by decide)) (S := rowS) (by decide) (by decide)
            replace o2 := OTasks.keeps o2 (Keeps.only hO hT (by decide)) (S := rowS) (by decide) (by decide)
            replace o3 := OBinds.keeps o3 (Keeps.only hO hT (by decide)) (S := rowS) (by decide)
            clear hT
            clear hO
            refine E.WL.done ?_
            replace hE : (fun w' => At w' ⟨B7, 0, none⟩ [.slice A1' (goneP b o.name).1.nodes.length c1', .slice A2' (goneP b o.name).1.tasks.length c2', .slice A3' (goneP b o.name).1.binds.length c3', .int .u64 (goneP b o.name).1.fence] ∧ At w' ⟨B9, 0, none⟩ [.int .i64 (goneP b o.name).2, .string noText]) (w30) := ⟨hb.at0 1 rfl, hb.at0 0 rfl⟩
            refine E.DL.next hsh (.inl hE) ?_
            clear hsh
            refine E.DL.only 6 rfl (by kernel_rfl) (fun hsh => ?_)
            refine E.WL.storeW hb 2 rfl rfl rfl Tryz.sizeOf41 rfl rfl rfl (E.allOne rfl) rfl ?_
            have hT := hb.hasT 2 rfl
            clear hb; intro w31 hb hO
            replace o1 := ONodes.keeps o1 (Keeps.only hO hT (by decide)) (S := rowS) (by decide) (by decide)
            replace o2 := OTasks.keeps o2 (Keeps.only hO hT (by decide)) (S := rowS) (by decide) (by decide)
            replace o3 := OBinds.keeps o3 (Keeps.only hO hT (by decide)) (S := rowS) (by decide)
            clear hT
            clear hO
            refine E.WL.done ?_
            replace hE : (fun w' => At w' ⟨B7, 0, none⟩ [.slice A1' (goneP b o.name).1.nodes.length c1', .slice A2' (goneP b o.name).1.tasks.length c2', .slice A3' (goneP b o.name).1.binds.length c3', .int .u64 (goneP b o.name).1.fence] ∧ At w' ⟨B9, 0, none⟩ [.int .i64 (goneP b o.name).2, .string noText]) (w31) := ⟨hb.at0 1 rfl, hb.at0 0 rfl⟩
            refine E.DL.next hsh (.inl hE) ?_
            clear hsh
            refine E.DL.done (by kernel_rfl) ?_
            clear hE hb0
            refine E.KQ.then_n ?_
            refine E.W.ret ?_
            refine E.KQ.retcc Tryz.results7 rfl (E.At.ldk Tryz.isAgg27 Tryz.sizeOf27 (hb.at0 3 rfl) rfl) rfl (E.At.ldk Tryz.isAgg41 Tryz.sizeOf41 (hb.at0 2 rfl) rfl) ?_
            exact ⟨_, rfl, ⟨_, by (rw [hp] <;> rfl), by rw [hp]; exact ⟨_, _, _, _, _, _, rfl, o1, o2, o3⟩⟩, hb.below⟩
          · replace k2 := of_decide_eq_false k2
            refine E.W.seq ?_
            refine E.W.region ?_
            refine E.WL.val (E.y_eql rfl rfl) rfl rfl rfl ?_
            refine E.WL.val (E.y_assign rfl) rfl rfl rfl ?_
            refine E.WL.done ?_
            refine E.KQ.then_n ?_
            refine E.W.condT 57 rfl (fun k5 => ?_) (fun k5 => ?_)
            · replace k5 := of_decide_eq_true k5
              have hp : doP b o = ((placeP b o).1, (placeP b o).2, noText) := by unfold doP; rw [if_neg h13', if_neg h24', if_neg k1, if_neg k3, if_neg k2, if_pos k5]
              refine E.W.region ?_
              refine E.WL.val (E.y_move rfl) rfl rfl rfl ?_
              refine E.WL.val (E.y_load rfl (E.At.ldk Tryz.isAgg36 Tryz.sizeOf36 (hb.at0 4 rfl) rfl)) rfl rfl rfl ?_
              refine E.WL.call (place_calls hb.le (Kp.mk' hb 1 rfl o1 o2 o3) hsm (ROrder.goes.stays ho2 (Stays.below hb.below (fun _ _ h => h)))) Tryz.call21 rfl rfl rfl ?_
              rintro _ w32 ⟨rfl, hk2, hB6, hK6⟩
              clear o1 o2 o3
              obtain ⟨vn3, vt3, vb3, nn3, nt3, nb3, hbK3, hgK3, o1, o2, o3⟩ := hk2.out
              obtain ⟨A1', c1', rfl, hA1'⟩ := ownsRow_open o1.row
              obtain ⟨A2', c2', rfl, hA2'⟩ := ownsRow_open o2.row
              obtain ⟨A3', c3', rfl, hA3'⟩ := ownsRow_open o3.row
              replace hb := Bx.reK2 [(B9, _, 41)] [(B5, _, 41), (B4, _, 27), (B3, _, 36), (B2, _, 27)] hb hK6 hB6 (by intro p hp; simp only [List.mem_cons, List.mem_append, List.not_mem_nil, or_false] at hp; rcases hp with rfl | rfl | rfl | rfl | rfl <;> simp [boxS]) hbK3 hgK3
              simp only [List.cons_append, List.nil_append] at hb
              clear hB6 hK6 hgK3
              refine E.WL.val (E.y_fld Tryz.underlying41 rfl Tryz.sizeOf39 rfl) rfl rfl rfl ?_
              refine E.WL.store hb 0 0 rfl rfl rfl Tryz.sizeOf39 rfl rfl rfl (E.allOne rfl) rfl ?_
              have hT := hb.hasT 0 rfl
              clear hb; intro w33 hb hO
              replace o1 := ONodes.keeps o1 (Keeps.only hO hT (by decide)) (S := rowS) (by decide) (by decide)
              replace o2 := OTasks.keeps o2 (Keeps.only hO hT (by decide)) (S := rowS) (by decide) (by decide)
              replace o3 := OBinds.keeps o3 (Keeps.only hO hT (by decide)) (S := rowS) (by decide)
              clear hT
              clear hO
              refine E.WL.done ?_
              refine E.KQ.block_n ?_
              refine E.KQ.then_n ?_
              refine E.W.seq ?_
              have hb0 := hb
              refine E.W.regionC (C := fun w' => At w' ⟨B7, 0, none⟩ [.slice A1' (placeP b o).1.nodes.length c1', .slice A2' (placeP b o).1.tasks.length c2', .slice A3' (placeP b o).1.binds.length c3', .int .u64 (placeP b o).1.fence] ∧ At w' ⟨B9, 0, none⟩ [.int .i64 (placeP b o).2, .string noText]) (E.heads 7 []) rfl ?_
              replace hb := hb.drew
              replace o1 := ONodes.keeps o1 (Keeps.ext (E.Ext.drew _)) (S := rowS) (by decide) (by decide)
              replace o2 := OTasks.keeps o2 (Keeps.ext (E.Ext.drew _)) (S := rowS) (by decide) (by decide)
              replace o3 := OBinds.keeps o3 (Keeps.ext (E.Ext.drew _)) (S := rowS) (by decide)
              have hE : (fun w' => At w' ⟨B7, 0, none⟩ [.slice A1' (placeP b o).1.nodes.length c1', .slice A2' (placeP b o).1.tasks.length c2', .slice A3' (placeP b o).1.binds.length c3', .int .u64 (placeP b o).1.fence] ∧ At w' ⟨B9, 0, none⟩ [.int .i64 (placeP b o).2, .string noText]) (w33.drew) := ⟨hb.at0 1 rfl, hb.at0 0 rfl⟩
              refine E.DL.take 0 rfl (by kernel_rfl) (by kernel_rfl) (fun w' hw => E.y_move rfl) rfl rfl rfl (fun _ _ _ _ h => by obtain ⟨_, _, h, _⟩ := h; cases h) hE ?_
              refine E.DL.take 1 rfl (by kernel_rfl) (by kernel_rfl) (fun w' hw => E.y_nilCheck rfl) rfl rfl rfl (fun _ _ _ _ h => by obtain ⟨_, _, h, _⟩ := h; cases h) hE ?_
              refine E.DL.take 2 rfl (by kernel_rfl) (by kernel_rfl) (fun w' hw => E.y_fld Tryz.underlying66 rfl Tryz.sizeOf27 rfl) rfl rfl rfl (fun _ _ _ _ h => by obtain ⟨_, _, h, _⟩ := h; cases h) hE ?_
              refine E.DL.take 3 rfl (by kernel_rfl) (by kernel_rfl) (fun w' hw => E.y_load rfl (E.At.ldk Tryz.isAgg27 Tryz.sizeOf27 (hw.1.sub rfl 0 4) rfl)) rfl rfl rfl (fun _ _ _ _ h => by obtain ⟨_, _, h, _⟩ := h; cases h) hE ?_
              refine E.DL.take 4 rfl (by kernel_rfl) (by kernel_rfl) (fun w' hw => E.y_load rfl (E.At.ldk Tryz.isAgg41 Tryz.sizeOf41 hw.2 rfl)) rfl rfl rfl (fun _ _ _ _ h => by obtain ⟨_, _, h, _⟩ := h; cases h) hE ?_
              refine E.DL.only 5 rfl (by kernel_rfl) (fun hsh => ?_)
              refine E.WL.storeW hb 3 rfl rfl rfl Tryz.sizeOf27 rfl rfl rfl (E.allOne rfl) rfl ?_
              have hT := hb.hasT 3 rfl
              clear hb; intro w34 hb hO
              replace o1 := ONodes.keeps o1 (Keeps.only hO hT (by decide)) (S := rowS) (by decide) (by decide)
              replace o2 := OTasks.keeps o2 (Keeps.only hO hT (by decide)) (S := rowS) (by decide) (by decide)
              replace o3 := OBinds.keeps o3 (Keeps.only hO hT (by decide)) (S := rowS) (by decide)
              clear hT
              clear hO
              refine E.WL.done ?_
              replace hE : (fun w' => At w' ⟨B7, 0, none⟩ [.slice A1' (placeP b o).1.nodes.length c1', .slice A2' (placeP b o).1.tasks.length c2', .slice A3' (placeP b o).1.binds.length c3', .int .u64 (placeP b o).1.fence] ∧ At w' ⟨B9, 0, none⟩ [.int .i64 (placeP b o).2, .string noText]) (w34) := ⟨hb.at0 1 rfl, hb.at0 0 rfl⟩
              refine E.DL.next hsh (.inl hE) ?_
              clear hsh
              refine E.DL.only 6 rfl (by kernel_rfl) (fun hsh => ?_)
              refine E.WL.storeW hb 2 rfl rfl rfl Tryz.sizeOf41 rfl rfl rfl (E.allOne rfl) rfl ?_
              have hT := hb.hasT 2 rfl
              clear hb; intro w35 hb hO
              replace o1 := ONodes.keeps o1 (Keeps.only hO hT (by decide)) (S := rowS) (by decide) (by decide)
              replace o2 := OTasks.keeps o2 (Keeps.only hO hT (by decide)) (S := rowS) (by decide) (by decide)
              replace o3 := OBinds.keeps o3 (Keeps.only hO hT (by decide)) (S := rowS) (by decide)
              clear hT
              clear hO
              refine E.WL.done ?_
              replace hE : (fun w' => At w' ⟨B7, 0, none⟩ [.slice A1' (placeP b o).1.nodes.length c1', .slice A2' (placeP b o).1.tasks.length c2', .slice A3' (placeP b o).1.binds.length c3', .int .u64 (placeP b o).1.fence] ∧ At w' ⟨B9, 0, none⟩ [.int .i64 (placeP b o).2, .string noText]) (w35) := ⟨hb.at0 1 rfl, hb.at0 0 rfl⟩
              refine E.DL.next hsh (.inl hE) ?_
              clear hsh
              refine E.DL.done (by kernel_rfl) ?_
              clear hE hb0
              refine E.KQ.then_n ?_
              refine E.W.ret ?_
              refine E.KQ.retcc Tryz.results7 rfl (E.At.ldk Tryz.isAgg27 Tryz.sizeOf27 (hb.at0 3 rfl) rfl) rfl (E.At.ldk Tryz.isAgg41 Tryz.sizeOf41 (hb.at0 2 rfl) rfl) ?_
              exact ⟨_, rfl, ⟨_, by (rw [hp] <;> rfl), by rw [hp]; exact ⟨_, _, _, _, _, _, rfl, o1, o2, o3⟩⟩, hb.below⟩
            · replace k5 := of_decide_eq_false k5
              have hp : doP b o = ofTaskP b o := by unfold doP; rw [if_neg h13', if_neg h24', if_neg k1, if_neg k3, if_neg k2, if_neg k5]
              refine E.W.region ?_
              refine E.WL.val (E.y_move rfl) rfl rfl rfl ?_
              refine E.WL.val (E.y_load rfl (E.At.ldk Tryz.isAgg36 Tryz.sizeOf36 (hb.at0 4 rfl) rfl)) rfl rfl rfl ?_
              refine E.WL.call (ofTask_calls hb.le (Kp.mk' hb 1 rfl o1 o2 o3) hsm (ROrder.goes.stays ho2 (Stays.below hb.below (fun _ _ h => h)))) Tryz.call22 rfl rfl rfl ?_
              rintro _ w36 ⟨rfl, hk2, hB6, hK6⟩
              clear o1 o2 o3
              obtain ⟨vn3, vt3, vb3, nn3, nt3, nb3, hbK3, hgK3, o1, o2, o3⟩ := hk2.out
              obtain ⟨A1', c1', rfl, hA1'⟩ := ownsRow_open o1.row
              obtain ⟨A2', c2', rfl, hA2'⟩ := ownsRow_open o2.row
              obtain ⟨A3', c3', rfl, hA3'⟩ := ownsRow_open o3.row
              replace hb := Bx.reK2 [(B9, _, 41)] [(B5, _, 41), (B4, _, 27), (B3, _, 36), (B2, _, 27)] hb hK6 hB6 (by intro p hp; simp only [List.mem_cons, List.mem_append, List.not_mem_nil, or_false] at hp; rcases hp with rfl | rfl | rfl | rfl | rfl <;> simp [boxS]) hbK3 hgK3
              simp only [List.cons_append, List.nil_append] at hb
              clear hB6 hK6 hgK3
              refine E.WL.storeW hb 0 rfl rfl rfl Tryz.sizeOf41 rfl rfl rfl (E.allOne rfl) rfl ?_
              have hT := hb.hasT 0 rfl
              clear hb; intro w37 hb hO
              replace o1 := ONodes.keeps o1 (Keeps.only hO hT (by decide)) (S := rowS) (by decide) (by decide)
              replace o2 := OTasks.keeps o2 (Keeps.only hO hT (by decide)) (S := rowS) (by decide) (by decide)
              replace o3 := OBinds.keeps o3 (Keeps.only hO hT (by decide)) (S := rowS) (by decide)
              clear hT
              clear hO
              refine E.WL.done ?_
              refine E.KQ.block_n ?_
              refine E.KQ.then_n ?_
              refine E.W.seq ?_
              have hb0 := hb
              refine E.W.regionC (C := fun w' => At w' ⟨B7, 0, none⟩ [.slice A1' (ofTaskP b o).1.nodes.length c1', .slice A2' (ofTaskP b o).1.tasks.length c2', .slice A3' (ofTaskP b o).1.binds.length c3', .int .u64 (ofTaskP b o).1.fence] ∧ At w' ⟨B9, 0, none⟩ [.int .i64 (ofTaskP b o).2.1, .string (ofTaskP b o).2.2]) (E.heads 7 []) rfl ?_
              replace hb := hb.drew
              replace o1 := ONodes.keeps o1 (Keeps.ext (E.Ext.drew _)) (S := rowS) (by decide) (by decide)
              replace o2 := OTasks.keeps o2 (Keeps.ext (E.Ext.drew _)) (S := rowS) (by decide) (by decide)
              replace o3 := OBinds.keeps o3 (Keeps.ext (E.Ext.drew _)) (S := rowS) (by decide)
              have hE : (fun w' => At w' ⟨B7, 0, none⟩ [.slice A1' (ofTaskP b o).1.nodes.length c1', .slice A2' (ofTaskP b o).1.tasks.length c2', .slice A3' (ofTaskP b o).1.binds.length c3', .int .u64 (ofTaskP b o).1.fence] ∧ At w' ⟨B9, 0, none⟩ [.int .i64 (ofTaskP b o).2.1, .string (ofTaskP b o).2.2]) (w37.drew) := ⟨hb.at0 1 rfl, hb.at0 0 rfl⟩
              refine E.DL.take 0 rfl (by kernel_rfl) (by kernel_rfl) (fun w' hw => E.y_move rfl) rfl rfl rfl (fun _ _ _ _ h => by obtain ⟨_, _, h, _⟩ := h; cases h) hE ?_
              refine E.DL.take 1 rfl (by kernel_rfl) (by kernel_rfl) (fun w' hw => E.y_nilCheck rfl) rfl rfl rfl (fun _ _ _ _ h => by obtain ⟨_, _, h, _⟩ := h; cases h) hE ?_
              refine E.DL.take 2 rfl (by kernel_rfl) (by kernel_rfl) (fun w' hw => E.y_fld Tryz.underlying66 rfl Tryz.sizeOf27 rfl) rfl rfl rfl (fun _ _ _ _ h => by obtain ⟨_, _, h, _⟩ := h; cases h) hE ?_
              refine E.DL.take 3 rfl (by kernel_rfl) (by kernel_rfl) (fun w' hw => E.y_load rfl (E.At.ldk Tryz.isAgg27 Tryz.sizeOf27 (hw.1.sub rfl 0 4) rfl)) rfl rfl rfl (fun _ _ _ _ h => by obtain ⟨_, _, h, _⟩ := h; cases h) hE ?_
              refine E.DL.take 4 rfl (by kernel_rfl) (by kernel_rfl) (fun w' hw => E.y_load rfl (E.At.ldk Tryz.isAgg41 Tryz.sizeOf41 hw.2 rfl)) rfl rfl rfl (fun _ _ _ _ h => by obtain ⟨_, _, h, _⟩ := h; cases h) hE ?_
              refine E.DL.only 5 rfl (by kernel_rfl) (fun hsh => ?_)
              refine E.WL.storeW hb 3 rfl rfl rfl Tryz.sizeOf27 rfl rfl rfl (E.allOne rfl) rfl ?_
              have hT := hb.hasT 3 rfl
              clear hb; intro w38 hb hO
              replace o1 := ONodes.keeps o1 (Keeps.only hO hT (by decide)) (S := rowS) (by decide) (by decide)
              replace o2 := OTasks.keeps o2 (Keeps.only hO hT (by decide)) (S := rowS) (by decide) (by decide)
              replace o3 := OBinds.keeps o3 (Keeps.only hO hT (by decide)) (S := rowS) (by decide)
              clear hT
              clear hO
              refine E.WL.done ?_
              replace hE : (fun w' => At w' ⟨B7, 0, none⟩ [.slice A1' (ofTaskP b o).1.nodes.length c1', .slice A2' (ofTaskP b o).1.tasks.length c2', .slice A3' (ofTaskP b o).1.binds.length c3', .int .u64 (ofTaskP b o).1.fence] ∧ At w' ⟨B9, 0, none⟩ [.int .i64 (ofTaskP b o).2.1, .string (ofTaskP b o).2.2]) (w38) := ⟨hb.at0 1 rfl, hb.at0 0 rfl⟩
              refine E.DL.next hsh (.inl hE) ?_
              clear hsh
              refine E.DL.only 6 rfl (by kernel_rfl) (fun hsh => ?_)
              refine E.WL.storeW hb 2 rfl rfl rfl Tryz.sizeOf41 rfl rfl rfl (E.allOne rfl) rfl ?_
              have hT := hb.hasT 2 rfl
              clear hb; intro w39 hb hO
              replace o1 := ONodes.keeps o1 (Keeps.only hO hT (by decide)) (S := rowS) (by decide) (by decide)
              replace o2 := OTasks.keeps o2 (Keeps.only hO hT (by decide)) (S := rowS) (by decide) (by decide)
              replace o3 := OBinds.keeps o3 (Keeps.only hO hT (by decide)) (S := rowS) (by decide)
              clear hT
              clear hO
              refine E.WL.done ?_
              replace hE : (fun w' => At w' ⟨B7, 0, none⟩ [.slice A1' (ofTaskP b o).1.nodes.length c1', .slice A2' (ofTaskP b o).1.tasks.length c2', .slice A3' (ofTaskP b o).1.binds.length c3', .int .u64 (ofTaskP b o).1.fence] ∧ At w' ⟨B9, 0, none⟩ [.int .i64 (ofTaskP b o).2.1, .string (ofTaskP b o).2.2]) (w39) := ⟨hb.at0 1 rfl, hb.at0 0 rfl⟩
              refine E.DL.next hsh (.inl hE) ?_
              clear hsh
              refine E.DL.done (by kernel_rfl) ?_
              clear hE hb0
              refine E.KQ.then_n ?_
              refine E.W.ret ?_
              refine E.KQ.retcc Tryz.results7 rfl (E.At.ldk Tryz.isAgg27 Tryz.sizeOf27 (hb.at0 3 rfl) rfl) rfl (E.At.ldk Tryz.isAgg41 Tryz.sizeOf41 (hb.at0 2 rfl) rfl) ?_
              exact ⟨_, rfl, ⟨_, by (rw [hp] <;> rfl), by rw [hp]; exact ⟨_, _, _, _, _, _, rfl, o1, o2, o3⟩⟩, hb.below⟩

set_option maxHeartbeats 4000000 in
theorem lead_calls {F : FP} {w : World} {cs : List Value} {b : BookD} (h : RBook F w cs b) (t : Int) :
    Calls Tryz.prog 12 #[(.agg cs.toArray), (.int .u64 t)] w (Ret fun u w' => (∃ cs', u = .tuple #[.agg cs'.toArray, .int .i64 (leadP b t).2] ∧ OBook w.heap.size w' cs' (leadP b t).1) ∧ Ext w w') := by
  have h0 := h.old
  obtain ⟨vn, vt, vb, rfl, hn0, ht0, hbi0⟩ := id h
  obtain ⟨Ab, cb0, rfl, hcb, hbyb, hgb⟩ := hbi0.open_
  obtain ⟨At', ct0, rfl, hct, hbyt, hgt⟩ := ht0.open_
  obtain ⟨An, cn0, rfl, hcn, hbyn, hgn⟩ := hn0.open_
  have hb := E.Bx.start w (base := w.heap.size) (Nat.le_refl _)
  refine E.enter Tryz.func12 rfl Tryz.ntmps12 [(.agg #[.slice An b.nodes.length cn0, .slice At' b.tasks.length ct0, .slice Ab b.binds.length cb0, .int .u64 b.fence]), (.int .u64 t)] rfl ?_
  refine E.W.seq ?_
  refine E.W.region ?_
  refine E.WL.box hb rfl rfl rfl rfl ?_
  clear hb; intro B2 w2 hb _ _
  refine E.WL.alloc hb Tryz.zeroValue27 rfl rfl rfl ?_
  clear hb; intro B4 w4 hb _ _
  refine E.WL.val (E.y_assign rfl) rfl rfl rfl ?_
  refine E.WL.done ?_
  refine E.KQ.then_n ?_
  refine E.W.seq ?_
  refine E.W.seq ?_
  refine E.W.region ?_
  refine E.WL.val (E.y_load rfl (E.At.ldk Tryz.isAgg27 Tryz.sizeOf27 (hb.at0 1 rfl) rfl)) rfl rfl rfl ?_
  refine E.WL.call (check_calls (RBook.goes.stays h0 (Stays.below hb.below (fun _ _ h => h)))) Tryz.call15 rfl rfl rfl ?_
  rintro _ w5 ⟨rfl, hX⟩
  replace hb := hb.ext hX
  clear hX
  refine E.WL.val (E.y_assign rfl) rfl rfl rfl ?_
  refine E.WL.done ?_
  refine E.KQ.then_n ?_
  refine E.W.seq ?_
  refine E.W.region ?_
  refine E.WL.val (E.y_move rfl) rfl rfl rfl ?_
  refine E.WL.val (E.y_neq rfl rfl) rfl rfl rfl ?_
  refine E.WL.done ?_
  refine E.KQ.then_n ?_
  refine E.W.condT 10 rfl (fun h13 => ?_) (fun h13 => ?_)
  · replace h13 : checkB b = false := by cases hc : checkB b with | true => rw [hc] at h13; simp at h13 | false => rfl
    have hp : leadP b t = (noBook, 10) := by unfold leadP; rw [if_pos h13]
    refine E.W.seq ?_
    refine E.W.region ?_
    refine E.WL.val (E.y_build (v := .agg #[.slice none 0 0, .slice none 0 0, .slice none 0 0, .int .u64 0]) rfl (by kernel_rfl)) rfl rfl rfl ?_
    refine E.WL.val (E.y_move rfl) rfl rfl rfl ?_
    refine E.WL.storeW hb 0 rfl rfl rfl Tryz.sizeOf27 rfl rfl rfl (E.allOne rfl) rfl ?_
    clear hb; intro w6 hb _
    refine E.WL.val (E.y_assign rfl) rfl rfl rfl ?_
    refine E.WL.done ?_
    refine E.KQ.then_n ?_
    refine E.W.ret ?_
    refine E.KQ.then_r ?_
    refine E.KQ.retct Tryz.results12 rfl (E.At.ldk Tryz.isAgg27 Tryz.sizeOf27 (hb.at0 0 rfl) rfl) rfl ?_
    exact ⟨_, rfl, ⟨_, by rw [hp, h13]; rfl, by rw [hp]; exact ⟨_, _, _, [], [], [], rfl, ⟨World.ownsRow_nil _ _ _ _, Rows.nil⟩, ⟨World.ownsRow_nil _ _ _ _, Rows.nil⟩, ⟨World.ownsRow_nil _ _ _ _, Rows.nil⟩⟩⟩, hb.below⟩
  · replace h13 : checkB b = true := by cases hc : checkB b with | true => rfl | false => rw [hc] at h13; simp at h13
    have hp : leadP b t = ({ b with fence := if t > b.fence then t else b.fence }, 0) := by unfold leadP; rw [if_neg (by rw [h13]; decide)]
    refine E.W.skip ?_
    refine E.KQ.then_n ?_
    refine E.W.seq ?_
    refine E.W.region ?_
    refine E.WL.val (E.y_load rfl (E.At.ldk Tryz.isAgg27 Tryz.sizeOf27 (hb.at0 1 rfl) rfl)) rfl rfl rfl ?_
    refine E.WL.call (own_calls (RBook.goes.stays h0 (Stays.below hb.below (fun _ _ h => h)))) Tryz.call16 rfl rfl rfl ?_
    rintro _ w7 ⟨⟨cs', rfl, hob⟩, hX⟩
    have hle := hb.le
    replace hb := hb.ext hX
    obtain ⟨vn2, vt2, vb2, nn, nt, nb, rfl, o1, o2, o3⟩ := (hob.le hle).out
    obtain ⟨A1', c1', rfl, _⟩ := ownsRow_open o1.row
    obtain ⟨A2', c2', rfl, _⟩ := ownsRow_open o2.row
    obtain ⟨A3', c3', rfl, _⟩ := ownsRow_open o3.row
    clear hob hle hX
    refine E.WL.storeW hb 1 rfl rfl rfl Tryz.sizeOf27 rfl rfl rfl (E.allOne rfl) rfl ?_
    have hT := hb.hasT 1 rfl
    clear hb; intro w8 hb hO
    replace o1 := ONodes.keeps o1 (Keeps.only hO hT (by decide)) (S := rowS) (by decide) (by decide)
    replace o2 := OTasks.keeps o2 (Keeps.only hO hT (by decide)) (S := rowS) (by decide) (by decide)
    replace o3 := OBinds.keeps o3 (Keeps.only hO hT (by decide)) (S := rowS) (by decide)
    clear hT
    clear hO
    refine E.WL.done ?_
    refine E.KQ.then_n ?_
    refine E.W.seq ?_
    refine E.W.region ?_
    refine E.WL.val (E.y_fld Tryz.underlying27 rfl Tryz.sizeOf25 rfl) rfl rfl rfl ?_
    refine E.WL.val (E.y_load rfl (E.At.ld1 Tryz.isAgg25 (hb.at0 1 rfl) 3 rfl)) rfl rfl rfl ?_
    refine E.WL.val (E.y_move rfl) rfl rfl rfl ?_
    refine E.WL.val (E.y_max rfl rfl) rfl rfl rfl ?_
    refine E.WL.val (E.y_fld Tryz.underlying27 rfl Tryz.sizeOf25 rfl) rfl rfl rfl ?_
    refine E.WL.store hb 1 3 rfl rfl rfl Tryz.sizeOf25 rfl rfl rfl (E.allOne rfl) rfl ?_
    have hT := hb.hasT 1 rfl
    clear hb; intro w9 hb hO
    replace o1 := ONodes.keeps o1 (Keeps.only hO hT (by decide)) (S := rowS) (by decide) (by decide)
    replace o2 := OTasks.keeps o2 (Keeps.only hO hT (by decide)) (S := rowS) (by decide) (by decide)
    replace o3 := OBinds.keeps o3 (Keeps.only hO hT (by decide)) (S := rowS) (by decide)
    clear hT
    clear hO
    refine E.WL.done ?_
    refine E.KQ.then_n ?_
    refine E.W.seq ?_
    refine E.W.region ?_
    refine E.WL.val (E.y_load rfl (E.At.ldk Tryz.isAgg27 Tryz.sizeOf27 (hb.at0 1 rfl) rfl)) rfl rfl rfl ?_
    refine E.WL.storeW hb 0 rfl rfl rfl Tryz.sizeOf27 rfl rfl rfl (E.allOne rfl) rfl ?_
    have hT := hb.hasT 0 rfl
    clear hb; intro w10 hb hO
    replace o1 := ONodes.keeps o1 (Keeps.only hO hT (by decide)) (S := rowS) (by decide) (by decide)
    replace o2 := OTasks.keeps o2 (Keeps.only hO hT (by decide)) (S := rowS) (by decide) (by decide)
    replace o3 := OBinds.keeps o3 (Keeps.only hO hT (by decide)) (S := rowS) (by decide)
    clear hT
    clear hO
    refine E.WL.val (E.y_assign rfl) rfl rfl rfl ?_
    refine E.WL.done ?_
    refine E.KQ.then_n ?_
    refine E.W.ret ?_
    refine E.KQ.retct Tryz.results12 rfl (E.At.ldk Tryz.isAgg27 Tryz.sizeOf27 (hb.at0 0 rfl) rfl) rfl ?_
    exact ⟨_, rfl, ⟨_, by (rw [hp] <;> rfl), by rw [hp]; exact ⟨_, _, _, _, _, _, rfl, o1, o2, o3⟩⟩, hb.below⟩
end Go.Proofs.YtmnnbnajnfdncaaGreatDoor
