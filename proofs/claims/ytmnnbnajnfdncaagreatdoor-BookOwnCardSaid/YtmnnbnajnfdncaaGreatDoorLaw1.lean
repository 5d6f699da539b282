/- Walks: lives. -/
import Derived.Test.YtmnnbnajnfdncaaGreatDoorD9
import Derived.Test.YtmnnbnajnfdncaaGreatDoorBook11
set_option linter.unusedVariables false
set_option linter.unusedSimpArgs false
namespace Go.Proofs.YtmnnbnajnfdncaaGreatDoor
open Go.RowKit E
set_option maxHeartbeats 4000000 in
theorem lives_calls (w : World) :
    Calls Tryz.prog 5 #[] w (Ret fun u w' => u = .bool true ∧ Ext w w') := by
  have hb := E.Bx.start w (base := w.heap.size) (Nat.le_refl _)
  refine E.enter Tryz.func5 rfl Tryz.ntmps5 [] rfl ?_
  refine E.W.seq ?_
  refine E.W.region ?_
  refine E.WL.val (E.y_assign rfl) rfl rfl rfl ?_
  refine E.WL.done ?_
  refine E.KQ.then_n ?_
  refine E.W.seq ?_
  refine E.W.region ?_
  refine E.WL.val (E.y_build (v := .agg #[nilS, nilS, nilS, .int .u64 0]) rfl (by kernel_rfl)) rfl rfl rfl ?_
  refine E.WL.alloc hb Tryz.zeroValue27 rfl rfl rfl ?_
  clear hb; intro B1 w2 hb _ _
  refine E.WL.storeW hb 0 rfl rfl rfl Tryz.sizeOf27 rfl rfl rfl (E.allOne rfl) rfl ?_
  clear hb; intro w3 hb _
  refine E.WL.done ?_
  refine E.KQ.then_n ?_
  refine E.W.seq ?_
  refine E.W.seq ?_
  refine E.W.region ?_
  refine E.WL.val (E.y_build (v := .agg #[.int .i64 5, .int .i64 0, .int .i64 0]) rfl (by kernel_rfl)) rfl rfl rfl ?_
  refine E.WL.val (E.y_build (v := .agg #[.string bN, .int .i64 5, .int .i64 0, .int .i64 0, nilS, nilS]) rfl (by kernel_rfl)) rfl rfl rfl ?_
  refine E.WL.val (E.y_build (v := .agg (ordCells (ord 0)).toArray) rfl (by kernel_rfl)) rfl rfl rfl ?_
  refine E.WL.val (E.y_build (v := .agg #[.int .i64 3, .int .i64 0, .int .i64 0]) rfl (by kernel_rfl)) rfl rfl rfl ?_
  refine E.WL.val (E.y_build (v := .agg #[.string bA, .int .i64 3, .int .i64 0, .int .i64 0, nilS, nilS, .string noText, .string noText, .int .i64 0]) rfl (by kernel_rfl)) rfl rfl rfl ?_
  refine E.WL.val (E.y_build (v := .agg (ordCells (ord 1)).toArray) rfl (by kernel_rfl)) rfl rfl rfl ?_
  refine E.WL.val (E.y_build (v := .agg #[.int .i64 3, .int .i64 0, .int .i64 0]) rfl (by kernel_rfl)) rfl rfl rfl ?_
  refine E.WL.val (E.y_build (v := .agg #[.string bB, .int .i64 3, .int .i64 0, .int .i64 0, nilS, nilS, .string noText, .string noText, .int .i64 0]) rfl (by kernel_rfl)) rfl rfl rfl ?_
  refine E.WL.val (E.y_build (v := .agg (ordCells (ord 2)).toArray) rfl (by kernel_rfl)) rfl rfl rfl ?_
  refine E.WL.val (E.y_build (v := .agg (ordCells (ord 3)).toArray) rfl (by kernel_rfl)) rfl rfl rfl ?_
  refine E.WL.mkslice (T := 36) (cs := ordAll) hb rfl (fun _ => by kernel_rfl) rfl rfl ?_
  clear hb; intro B25 w5 hb _ _
  refine E.WL.val (E.y_lenS Tryz.underlying58 rfl) rfl rfl rfl ?_
  refine E.WL.val (E.y_move rfl) rfl rfl rfl ?_
  refine E.WL.done ?_
  refine E.KQ.then_n ?_
  refine E.W.block ?_
  refine E.W.loop (ι := Nat) (fun k => [(1, .pointer (some ⟨B1, 0, none⟩)), (25, .slice (some ⟨B25, 0, none⟩) 4 4), (26, .int .i64 4), (27, .int .i64 (k : Nat))]) (fun k w' => k ≤ 4 ∧ ∃ cs, Bx w.heap.size w w' [(B25, ordAll, 36), (B1, cs, 27)] ∧ OBook w.heap.size w' cs (bk k)) (fun k => 4 - k) (0) (by exact (.cons rfl (.cons rfl (.cons rfl (.cons rfl .nil))))) ⟨Nat.zero_le _, _, hb, ⟨_, _, _, [], [], [], rfl, ⟨World.ownsRow_nil _ _ _ _, Rows.nil⟩, ⟨World.ownsRow_nil _ _ _ _, Rows.nil⟩, ⟨World.ownsRow_nil _ _ _ _, Rows.nil⟩⟩⟩ (fun k w6 hJ => ?_)
  clear hb
  obtain ⟨hk, cs, hb, ob⟩ := hJ
  obtain ⟨A1, c1, A2, c2, A3, c3, rfl⟩ := ob.four
  refine E.W.seq ?_
  refine E.W.region ?_
  refine E.WL.val (E.y_lss rfl rfl) rfl rfl rfl ?_
  refine E.WL.done ?_
  refine E.KQ.then_n ?_
  refine E.W.seq ?_
  refine E.W.condT 28 rfl (fun hc28 => ?_) (fun hc28 => ?_)
  · replace hc28 := of_decide_eq_true hc28
    have hk4 : k < 4 := by omega
    have hat : At w6 ((⟨B25, 0, none⟩ : Addr).add (k * 19)) (ordCells (ord k)) := by have h := (hb.at0 0 rfl).sub rfl (k * 19) 19; rw [ord_cut k hk4] at h; exact h
    refine E.W.skip ?_
    refine E.KQ.then_n ?_
    refine E.W.seq ?_
    refine E.W.block ?_
    refine E.W.seq ?_
    refine E.W.region ?_
    refine E.WL.val (E.y_idxS Tryz.underlying58 Tryz.sizeOf36 rfl rfl (by omega) (by omega)) rfl rfl rfl ?_
    refine E.WL.val (E.y_load rfl (E.At.ldk Tryz.isAgg36 Tryz.sizeOf36 hat rfl)) rfl rfl rfl ?_
    refine E.WL.alloc hb Tryz.zeroValue36 rfl rfl rfl ?_
    clear hb; intro B3 w8 hb hX _
    replace ob := OBook.keeps ob (Keeps.ext hX) (S := rowS) (by decide)
    clear hX
    refine E.WL.storeW hb 0 rfl rfl rfl Tryz.sizeOf36 rfl rfl rfl ((ord_rd' w k (by omega)).one) rfl ?_
    have hT := hb.hasT 0 rfl
    clear hb; intro w9 hb hO
    replace ob := OBook.keeps ob (Keeps.only hO hT (by decide)) (S := rowS) (by decide)
    clear hT
    clear hO
    refine E.WL.done ?_
    refine E.KQ.then_n ?_
    refine E.W.seq ?_
    refine E.W.region ?_
    refine E.WL.val (E.y_load rfl (E.At.ldk Tryz.isAgg27 Tryz.sizeOf27 (hb.at0 2 rfl) rfl)) rfl rfl rfl ?_
    refine E.WL.val (E.y_load rfl (E.At.ldk Tryz.isAgg36 Tryz.sizeOf36 (hb.at0 0 rfl) rfl)) rfl rfl rfl ?_
    refine E.WL.call (do_calls (ob.rd (bk_small k hk)) (ord_rd' _ k (by omega)) (ord_fits k (by omega))) Tryz.call7 rfl rfl rfl ?_
    rintro _ w10 ⟨⟨csd, rfl, obd⟩, hX⟩
    have hle := hb.le
    replace hb := hb.ext hX
    replace ob := OBook.keeps ob (Keeps.ext hX) (S := rowS) (by decide)
    replace obd := obd.le hle
    obtain ⟨A1d, c1d, A2d, c2d, A3d, c3d, rfl⟩ := obd.four
    clear hX hle
    refine E.WL.val (E.y_move rfl) rfl rfl rfl ?_
    refine E.WL.val (E.y_extract rfl rfl) rfl rfl rfl ?_
    refine E.WL.val (E.y_extract rfl rfl) rfl rfl rfl ?_
    refine E.WL.alloc hb Tryz.zeroValue27 rfl rfl rfl ?_
    clear hb; intro B4 w12 hb hX _
    replace ob := OBook.keeps ob (Keeps.ext hX) (S := rowS) (by decide)
    replace obd := OBook.keeps obd (Keeps.ext hX) (S := rowS) (by decide)
    clear hX
    refine E.WL.alloc hb Tryz.zeroValue41 rfl rfl rfl ?_
    clear hb; intro B5 w14 hb hX _
    replace ob := OBook.keeps ob (Keeps.ext hX) (S := rowS) (by decide)
    replace obd := OBook.keeps obd (Keeps.ext hX) (S := rowS) (by decide)
    clear hX
    refine E.WL.storeW hb 1 rfl rfl rfl Tryz.sizeOf27 rfl rfl rfl (E.allOne rfl) rfl ?_
    have hT := hb.hasT 1 rfl
    clear hb; intro w15 hb hO
    replace ob := OBook.keeps ob (Keeps.only hO hT (by decide)) (S := rowS) (by decide)
    replace obd := OBook.keeps obd (Keeps.only hO hT (by decide)) (S := rowS) (by decide)
    clear hT
    clear hO
    refine E.WL.storeW hb 0 rfl rfl rfl Tryz.sizeOf41 rfl rfl rfl (E.allOne rfl) rfl ?_
    have hT := hb.hasT 0 rfl
    clear hb; intro w16 hb hO
    replace ob := OBook.keeps ob (Keeps.only hO hT (by decide)) (S := rowS) (by decide)
    replace obd := OBook.keeps obd (Keeps.only hO hT (by decide)) (S := rowS) (by decide)
    clear hT
    clear hO
    refine E.WL.done ?_
    refine E.KQ.then_n ?_
    refine E.W.seq ?_
    refine E.W.seq ?_
    refine E.W.region ?_
    refine E.WL.val (E.y_fld Tryz.underlying41 rfl Tryz.sizeOf39 rfl) rfl rfl rfl ?_
    refine E.WL.val (E.y_load rfl (E.At.ld1 Tryz.isAgg39 (hb.at0 0 rfl) 0 rfl)) rfl rfl rfl ?_
    refine E.WL.val (E.y_neq rfl rfl) rfl rfl rfl ?_
    refine E.WL.done ?_
    refine E.KQ.then_n ?_
    refine E.W.condT 39 rfl (fun h39 => ?_) (fun h39 => ?_)
    · skip
      rw [bk_why k hk4] at h39
      exact absurd h39 (by decide)
    · skip
      refine E.W.skip ?_
      refine E.KQ.then_n ?_
      refine E.W.region ?_
      refine E.WL.val (E.y_load rfl (E.At.ldk Tryz.isAgg27 Tryz.sizeOf27 (hb.at0 1 rfl) rfl)) rfl rfl rfl ?_
      refine E.WL.storeW hb 4 rfl rfl rfl Tryz.sizeOf27 rfl rfl rfl (E.allOne rfl) rfl ?_
      have hT := hb.hasT 4 rfl
      clear hb; intro w17 hb hO
      replace ob := OBook.keeps ob (Keeps.only hO hT (by decide)) (S := rowS) (by decide)
      replace obd := OBook.keeps obd (Keeps.only hO hT (by decide)) (S := rowS) (by decide)
      clear hT
      clear hO
      refine E.WL.done ?_
      refine E.KQ.block_n ?_
      refine E.KQ.then_n ?_
      refine E.W.region ?_
      refine E.WL.val (E.y_add rfl rfl (Go.IntWalk.i64_in _ (by omega))) rfl rfl rfl ?_
      refine E.WL.val (E.y_move rfl) rfl rfl rfl ?_
      refine E.WL.done ?_
      replace hb := hb.drop (List.Sublist.cons _ (List.Sublist.cons _ (List.Sublist.cons _ (List.Sublist.refl _))))
      exact E.KQ.next (k + 1) (by exact .cons rfl (.cons rfl (.cons rfl (.cons rfl .nil)))) ⟨by omega, _, hb, obd⟩ (by show 4 - (k + 1) < 4 - k; omega)
  · replace hc28 := of_decide_eq_false hc28
    obtain rfl : k = 4 := by omega
    refine E.W.exit ?_
    refine E.KQ.then_e ?_
    refine E.KQ.loop_e ?_
    refine E.KQ.block_e ?_
    refine E.KQ.then_n ?_
    refine E.W.seq ?_
    refine E.W.region ?_
    refine E.WL.val (E.y_load rfl (E.At.ldk Tryz.isAgg27 Tryz.sizeOf27 (hb.at0 1 rfl) rfl)) rfl rfl rfl ?_
    refine E.WL.val (E.y_build (v := .agg (ordCells (ord 4)).toArray) rfl (by kernel_rfl)) rfl rfl rfl ?_
    refine E.WL.call (do_calls (ob.rd (bk_small 4 (by decide))) (ord_rd' _ 4 (by decide)) (ord_fits 4 (by decide))) Tryz.call7 rfl rfl rfl ?_
    rintro _ w18 ⟨⟨csx, rfl, obx⟩, hX⟩
    have hle := hb.le
    replace hb := hb.ext hX
    replace ob := OBook.keeps ob (Keeps.ext hX) (S := rowS) (by decide)
    replace obx := obx.le hle
    obtain ⟨A1x, c1x, A2x, c2x, A3x, c3x, rfl⟩ := obx.four
    clear hX hle
    refine E.WL.val (E.y_move rfl) rfl rfl rfl ?_
    refine E.WL.val (E.y_extract rfl rfl) rfl rfl rfl ?_
    refine E.WL.val (E.y_extract rfl rfl) rfl rfl rfl ?_
    refine E.WL.alloc hb Tryz.zeroValue27 rfl rfl rfl ?_
    clear hb; intro B6 w20 hb hX _
    replace ob := OBook.keeps ob (Keeps.ext hX) (S := rowS) (by decide)
    replace obx := OBook.keeps obx (Keeps.ext hX) (S := rowS) (by decide)
    clear hX
    refine E.WL.alloc hb Tryz.zeroValue41 rfl rfl rfl ?_
    clear hb; intro B7 w22 hb hX _
    replace ob := OBook.keeps ob (Keeps.ext hX) (S := rowS) (by decide)
    replace obx := OBook.keeps obx (Keeps.ext hX) (S := rowS) (by decide)
    clear hX
    refine E.WL.storeW hb 1 rfl rfl rfl Tryz.sizeOf27 rfl rfl rfl (E.allOne rfl) rfl ?_
    have hT := hb.hasT 1 rfl
    clear hb; intro w23 hb hO
    replace ob := OBook.keeps ob (Keeps.only hO hT (by decide)) (S := rowS) (by decide)
    replace obx := OBook.keeps obx (Keeps.only hO hT (by decide)) (S := rowS) (by decide)
    clear hT
    clear hO
    refine E.WL.storeW hb 0 rfl rfl rfl Tryz.sizeOf41 rfl rfl rfl (E.allOne rfl) rfl ?_
    have hT := hb.hasT 0 rfl
    clear hb; intro w24 hb hO
    replace ob := OBook.keeps ob (Keeps.only hO hT (by decide)) (S := rowS) (by decide)
    replace obx := OBook.keeps obx (Keeps.only hO hT (by decide)) (S := rowS) (by decide)
    clear hT
    clear hO
    refine E.WL.done ?_
    refine E.KQ.then_n ?_
    refine E.W.seq ?_
    refine E.W.region ?_
    refine E.WL.val (E.y_load rfl (E.At.ldk Tryz.isAgg27 Tryz.sizeOf27 (hb.at0 3 rfl) rfl)) rfl rfl rfl ?_
    refine E.WL.val (E.y_build (v := .agg (ordCells (ord 5)).toArray) rfl (by kernel_rfl)) rfl rfl rfl ?_
    refine E.WL.call (do_calls (ob.rd (bk_small 4 (by decide))) (ord_rd' _ 5 (by decide)) (ord_fits 5 (by decide))) Tryz.call7 rfl rfl rfl ?_
    rintro _ w25 ⟨⟨csy, rfl, oby⟩, hX⟩
    have hle := hb.le
    replace hb := hb.ext hX
    replace ob := OBook.keeps ob (Keeps.ext hX) (S := rowS) (by decide)
    replace obx := OBook.keeps obx (Keeps.ext hX) (S := rowS) (by decide)
    replace oby := oby.le hle
    obtain ⟨A1y, c1y, A2y, c2y, A3y, c3y, rfl⟩ := oby.four
    clear hX hle
    refine E.WL.val (E.y_move rfl) rfl rfl rfl ?_
    refine E.WL.val (E.y_extract rfl rfl) rfl rfl rfl ?_
    refine E.WL.val (E.y_extract rfl rfl) rfl rfl rfl ?_
    refine E.WL.alloc hb Tryz.zeroValue27 rfl rfl rfl ?_
    clear hb; intro B8 w27 hb hX _
    replace ob := OBook.keeps ob (Keeps.ext hX) (S := rowS) (by decide)
    replace obx := OBook.keeps obx (Keeps.ext hX) (S := rowS) (by decide)
    replace oby := OBook.keeps oby (Keeps.ext hX) (S := rowS) (by decide)
    clear hX
    refine E.WL.alloc hb Tryz.zeroValue41 rfl rfl rfl ?_
    clear hb; intro B9 w29 hb hX _
    replace ob := OBook.keeps ob (Keeps.ext hX) (S := rowS) (by decide)
    replace obx := OBook.keeps obx (Keeps.ext hX) (S := rowS) (by decide)
    replace oby := OBook.keeps oby (Keeps.ext hX) (S := rowS) (by decide)
    clear hX
    refine E.WL.storeW hb 1 rfl rfl rfl Tryz.sizeOf27 rfl rfl rfl (E.allOne rfl) rfl ?_
    have hT := hb.hasT 1 rfl
    clear hb; intro w30 hb hO
    replace ob := OBook.keeps ob (Keeps.only hO hT (by decide)) (S := rowS) (by decide)
    replace obx := OBook.keeps obx (Keeps.only hO hT (by decide)) (S := rowS) (by decide)
    replace oby := OBook.keeps oby (Keeps.only hO hT (by decide)) (S := rowS) (by decide)
    clear hT
    clear hO
    refine E.WL.storeW hb 0 rfl rfl rfl Tryz.sizeOf41 rfl rfl rfl (E.allOne rfl) rfl ?_
    have hT := hb.hasT 0 rfl
    clear hb; intro w31 hb hO
    replace ob := OBook.keeps ob (Keeps.only hO hT (by decide)) (S := rowS) (by decide)
    replace obx := OBook.keeps obx (Keeps.only hO hT (by decide)) (S := rowS) (by decide)
    replace oby := OBook.keeps oby (Keeps.only hO hT (by decide)) (S := rowS) (by decide)
    clear hT
    clear hO
    refine E.WL.done ?_
    refine E.KQ.then_n ?_
    refine E.W.seq ?_
    refine E.W.region ?_
    refine E.WL.val (E.y_load rfl (E.At.ldk Tryz.isAgg27 Tryz.sizeOf27 (hb.at0 5 rfl) rfl)) rfl rfl rfl ?_
    refine E.WL.call (lead_calls (ob.rd (bk_small 4 (by decide))) 3) Tryz.call12 rfl rfl rfl ?_
    rintro _ w32 ⟨⟨csl, rfl, obl⟩, hX⟩
    have hle := hb.le
    replace hb := hb.ext hX
    replace ob := OBook.keeps ob (Keeps.ext hX) (S := rowS) (by decide)
    replace obx := OBook.keeps obx (Keeps.ext hX) (S := rowS) (by decide)
    replace oby := OBook.keeps oby (Keeps.ext hX) (S := rowS) (by decide)
    replace obl := obl.le hle
    obtain ⟨A1l, c1l, A2l, c2l, A3l, c3l, rfl⟩ := obl.four
    clear hX hle
    refine E.WL.val (E.y_move rfl) rfl rfl rfl ?_
    refine E.WL.val (E.y_extract rfl rfl) rfl rfl rfl ?_
    refine E.WL.val (E.y_extract rfl rfl) rfl rfl rfl ?_
    refine E.WL.alloc hb Tryz.zeroValue27 rfl rfl rfl ?_
    clear hb; intro B10 w34 hb hX _
    replace ob := OBook.keeps ob (Keeps.ext hX) (S := rowS) (by decide)
    replace obx := OBook.keeps obx (Keeps.ext hX) (S := rowS) (by decide)
    replace oby := OBook.keeps oby (Keeps.ext hX) (S := rowS) (by decide)
    replace obl := OBook.keeps obl (Keeps.ext hX) (S := rowS) (by decide)
    clear hX
    refine E.WL.storeW hb 0 rfl rfl rfl Tryz.sizeOf27 rfl rfl rfl (E.allOne rfl) rfl ?_
    have hT := hb.hasT 0 rfl
    clear hb; intro w35 hb hO
    replace ob := OBook.keeps ob (Keeps.only hO hT (by decide)) (S := rowS) (by decide)
    replace obx := OBook.keeps obx (Keeps.only hO hT (by decide)) (S := rowS) (by decide)
    replace oby := OBook.keeps oby (Keeps.only hO hT (by decide)) (S := rowS) (by decide)
    replace obl := OBook.keeps obl (Keeps.only hO hT (by decide)) (S := rowS) (by decide)
    clear hT
    clear hO
    refine E.WL.val (E.y_assign rfl) rfl rfl rfl ?_
    refine E.WL.done ?_
    refine E.KQ.then_n ?_
    refine E.W.seq ?_
    refine E.W.region ?_
    refine E.WL.val (E.y_load rfl (E.At.ldk Tryz.isAgg27 Tryz.sizeOf27 (hb.at0 0 rfl) rfl)) rfl rfl rfl ?_
    refine E.WL.val (E.y_build (v := .agg (ordCells (ord 6)).toArray) rfl (by kernel_rfl)) rfl rfl rfl ?_
    refine E.WL.call (do_calls (obl.rd lead_small) (ord_rd' _ 6 (by decide)) (ord_fits 6 (by decide))) Tryz.call7 rfl rfl rfl ?_
    rintro _ w36 ⟨⟨csv, rfl, obv⟩, hX⟩
    have hle := hb.le
    replace hb := hb.ext hX
    replace ob := OBook.keeps ob (Keeps.ext hX) (S := rowS) (by decide)
    replace obx := OBook.keeps obx (Keeps.ext hX) (S := rowS) (by decide)
    replace oby := OBook.keeps oby (Keeps.ext hX) (S := rowS) (by decide)
    replace obl := OBook.keeps obl (Keeps.ext hX) (S := rowS) (by decide)
    replace obv := obv.le hle
    obtain ⟨A1v, c1v, A2v, c2v, A3v, c3v, rfl⟩ := obv.four
    clear hX hle
    refine E.WL.val (E.y_move rfl) rfl rfl rfl ?_
    refine E.WL.val (E.y_extract rfl rfl) rfl rfl rfl ?_
    refine E.WL.val (E.y_extract rfl rfl) rfl rfl rfl ?_
    refine E.WL.alloc hb Tryz.zeroValue27 rfl rfl rfl ?_
    clear hb; intro B12 w38 hb hX _
    replace ob := OBook.keeps ob (Keeps.ext hX) (S := rowS) (by decide)
    replace obx := OBook.keeps obx (Keeps.ext hX) (S := rowS) (by decide)
    replace oby := OBook.keeps oby (Keeps.ext hX) (S := rowS) (by decide)
    replace obl := OBook.keeps obl (Keeps.ext hX) (S := rowS) (by decide)
    replace obv := OBook.keeps obv (Keeps.ext hX) (S := rowS) (by decide)
    clear hX
    refine E.WL.alloc hb Tryz.zeroValue41 rfl rfl rfl ?_
    clear hb; intro B13 w40 hb hX _
    replace ob := OBook.keeps ob (Keeps.ext hX) (S := rowS) (by decide)
    replace obx := OBook.keeps obx (Keeps.ext hX) (S := rowS) (by decide)
    replace oby := OBook.keeps oby (Keeps.ext hX) (S := rowS) (by decide)
    replace obl := OBook.keeps obl (Keeps.ext hX) (S := rowS) (by decide)
    replace obv := OBook.keeps obv (Keeps.ext hX) (S := rowS) (by decide)
    clear hX
    refine E.WL.storeW hb 1 rfl rfl rfl Tryz.sizeOf27 rfl rfl rfl (E.allOne rfl) rfl ?_
    have hT := hb.hasT 1 rfl
    clear hb; intro w41 hb hO
    replace ob := OBook.keeps ob (Keeps.only hO hT (by decide)) (S := rowS) (by decide)
    replace obx := OBook.keeps obx (Keeps.only hO hT (by decide)) (S := rowS) (by decide)
    replace oby := OBook.keeps oby (Keeps.only hO hT (by decide)) (S := rowS) (by decide)
    replace obl := OBook.keeps obl (Keeps.only hO hT (by decide)) (S := rowS) (by decide)
    replace obv := OBook.keeps obv (Keeps.only hO hT (by decide)) (S := rowS) (by decide)
    clear hT
    clear hO
    refine E.WL.storeW hb 0 rfl rfl rfl Tryz.sizeOf41 rfl rfl rfl (E.allOne rfl) rfl ?_
    have hT := hb.hasT 0 rfl
    clear hb; intro w42 hb hO
    replace ob := OBook.keeps ob (Keeps.only hO hT (by decide)) (S := rowS) (by decide)
    replace obx := OBook.keeps obx (Keeps.only hO hT (by decide)) (S := rowS) (by decide)
    replace oby := OBook.keeps oby (Keeps.only hO hT (by decide)) (S := rowS) (by decide)
    replace obl := OBook.keeps obl (Keeps.only hO hT (by decide)) (S := rowS) (by decide)
    replace obv := OBook.keeps obv (Keeps.only hO hT (by decide)) (S := rowS) (by decide)
    clear hT
    clear hO
    refine E.WL.done ?_
    refine E.KQ.then_n ?_
    refine E.W.seq ?_
    refine E.W.region ?_
    refine E.WL.val (E.y_fld Tryz.underlying41 rfl Tryz.sizeOf39 rfl) rfl rfl rfl ?_
    refine E.WL.val (E.y_load rfl (E.At.ld1 Tryz.isAgg39 (hb.at0 5 rfl) 0 rfl)) rfl rfl rfl ?_
    refine E.WL.val (E.y_eql rfl rfl) rfl rfl rfl ?_
    refine E.WL.as 67 rfl (show _ = Value.bool true from by rw [bk_full]; rfl) ?_
    refine E.WL.val (E.y_move rfl) rfl rfl rfl ?_
    refine E.WL.val (E.y_fld Tryz.underlying41 rfl Tryz.sizeOf9 rfl) rfl rfl rfl ?_
    refine E.WL.val (E.y_load rfl (E.At.ld1 Tryz.isAgg9 (hb.at0 3 rfl) 1 rfl)) rfl rfl rfl ?_
    refine E.WL.val (E.y_seql rfl rfl) rfl rfl rfl ?_
    refine E.WL.as 71 rfl (show _ = Value.bool true from by rw [bk_look.2]; rfl) ?_
    refine E.WL.val (E.y_pick_t rfl rfl) rfl rfl rfl ?_
    refine E.WL.val (E.y_move rfl) rfl rfl rfl ?_
    refine E.WL.val (E.y_fld Tryz.underlying41 rfl Tryz.sizeOf39 rfl) rfl rfl rfl ?_
    refine E.WL.val (E.y_load rfl (E.At.ld1 Tryz.isAgg39 (hb.at0 3 rfl) 0 rfl)) rfl rfl rfl ?_
    refine E.WL.val (E.y_eql rfl rfl) rfl rfl rfl ?_
    refine E.WL.as 76 rfl (show _ = Value.bool true from by rw [bk_look.1]; rfl) ?_
    refine E.WL.val (E.y_pick_t rfl rfl) rfl rfl rfl ?_
    refine E.WL.val (E.y_move rfl) rfl rfl rfl ?_
    refine E.WL.val (E.y_move rfl) rfl rfl rfl ?_
    refine E.WL.val (E.y_eql rfl rfl) rfl rfl rfl ?_
    refine E.WL.as 80 rfl (show _ = Value.bool true from by rw [bk_lead]; rfl) ?_
    refine E.WL.val (E.y_pick_t rfl rfl) rfl rfl rfl ?_
    refine E.WL.val (E.y_move rfl) rfl rfl rfl ?_
    refine E.WL.val (E.y_fld Tryz.underlying41 rfl Tryz.sizeOf39 rfl) rfl rfl rfl ?_
    refine E.WL.val (E.y_load rfl (E.At.ld1 Tryz.isAgg39 (hb.at0 0 rfl) 0 rfl)) rfl rfl rfl ?_
    refine E.WL.val (E.y_eql rfl rfl) rfl rfl rfl ?_
    refine E.WL.as 85 rfl (show _ = Value.bool true from by rw [bk_fence]; rfl) ?_
    refine E.WL.val (E.y_pick_t rfl rfl) rfl rfl rfl ?_
    refine E.WL.val (E.y_move rfl) rfl rfl rfl ?_
    refine E.WL.val (E.y_fld Tryz.underlying27 rfl Tryz.sizeOf23 rfl) rfl rfl rfl ?_
    refine E.WL.val (E.y_load rfl (E.At.ld1 Tryz.isAgg23 (hb.at0 8 rfl) 1 rfl)) rfl rfl rfl ?_
    refine E.WL.val (E.y_lenS Tryz.underlying23 rfl) rfl rfl rfl ?_
    refine E.WL.val (E.y_eql rfl rfl) rfl rfl rfl ?_
    refine E.WL.as 91 rfl (show _ = Value.bool true from by rw [bk_two]; rfl) ?_
    refine E.WL.val (E.y_pick_t rfl rfl) rfl rfl rfl ?_
    refine E.WL.val (E.y_assign rfl) rfl rfl rfl ?_
    refine E.WL.done ?_
    refine E.KQ.then_n ?_
    refine E.W.ret ?_
    refine E.KQ.ret1 Tryz.results5 rfl ?_
    exact ⟨_, rfl, rfl, hb.below⟩
end Go.Proofs.YtmnnbnajnfdncaaGreatDoor
