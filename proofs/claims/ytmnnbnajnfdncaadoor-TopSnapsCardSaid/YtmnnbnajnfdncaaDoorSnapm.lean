/- Walks: a snapshot is loaded, and saved; what it begins with. -/
import Derived.Test.YtmnnbnajnfdncaaDoorSnapk
set_option linter.unusedVariables false
set_option linter.unusedSimpArgs false
namespace Go.Proofs.YtmnnbnajnfdncaaDoor
open Go.RowKit E
def LoadOk (d : DiskD) (x : SnapD) : Prop := (readP d snapN = (noB, 6) ∧ x = ⟨0, 0, [], noB⟩) ∨ ∃ (j : Nat) (n : ByteArray), 0 < j ∧ j < 256 ∧ n.size < 256 ∧ readP d snapN = (frameP (bytesP j n), 0) ∧ x = ⟨j, 0, [1], n⟩
def aB : ByteArray := ⟨#[97]⟩
def xB : ByteArray := ⟨#[120]⟩
def dZ : DiskD := ⟨[], false, -1⟩
theorem read_a : readP (addP dZ aB xB).1 aB = (xB, 0) := by decide +kernel
theorem okA : okAdd aB xB dZ := ⟨⟨by decide +kernel, rfl, by decide⟩, by decide +kernel, by decide +kernel, by decide, by decide⟩
set_option maxHeartbeats 400000 in
theorem load0_calls {F : FP} {w : World} {cs : List Value} {d : DiskD} (h : RDisk F w cs d) (hr : readP d snapN = (noB, 6)) :
    Calls Tryd.prog 8 #[(.agg cs.toArray)] w (Ret fun u w' => (∃ A m c, u = .tuple #[.agg #[.int .u64 0, .int .u64 0, .slice A m c, .string noB], .int .i64 0]) ∧ Ext w w') := by
  obtain ⟨v, rfl, hf⟩ := id h
  obtain ⟨A, c, rfl, _, _, _⟩ := hf.open_
  have hb := E.Bx.start w (base := w.heap.size) (Nat.le_refl _)
  refine E.enter Tryd.func8 rfl Tryd.ntmps8 [(.agg #[.slice A d.files.length c, .bool d.down, .int .i64 d.fuse])] rfl ?_
  refine E.W.seq ?_
  refine E.W.region ?_
  refine E.WL.box hb rfl rfl rfl rfl ?_
  clear hb; intro B1 w2 hb _ _
  refine E.WL.alloc hb Tryd.zeroValue30 rfl rfl rfl ?_
  clear hb; intro B2 w4 hb _ _
  refine E.WL.val (E.y_assign rfl) rfl rfl rfl ?_
  refine E.WL.done ?_
  refine E.KQ.then_n ?_
  refine E.W.seq ?_
  refine E.W.region ?_
  refine E.WL.val (E.y_load rfl (E.At.ldk Tryd.isAgg27 Tryd.sizeOf27 (hb.at0 1 rfl) rfl)) rfl rfl rfl ?_
  refine E.WL.call (read_calls (h.ext hb.below) snapN) Tryd.call10 rfl rfl rfl ?_
  rintro _ w5 ⟨rfl, hX⟩
  replace hb := hb.ext hX
  clear hX
  refine E.WL.as 12 rfl (show _ = Value.tuple #[.string noB, .int .i64 6] from by rw [hr]) ?_
  refine E.WL.val (E.y_move rfl) rfl rfl rfl ?_
  refine E.WL.val (E.y_extract rfl rfl) rfl rfl rfl ?_
  refine E.WL.val (E.y_extract rfl rfl) rfl rfl rfl ?_
  refine E.WL.val (E.y_assign rfl) rfl rfl rfl ?_
  refine E.WL.val (E.y_assign rfl) rfl rfl rfl ?_
  refine E.WL.done ?_
  refine E.KQ.then_n ?_
  refine E.W.seq ?_
  refine E.W.block ?_
  refine E.W.seq ?_
  refine E.W.region ?_
  refine E.WL.val (E.y_move rfl) rfl rfl rfl ?_
  refine E.WL.val (E.y_eql rfl rfl) rfl rfl rfl ?_
  refine E.WL.as 17 rfl (show _ = Value.bool true from congrArg Value.bool (by decide)) ?_
  refine E.WL.val (E.y_assign rfl) rfl rfl rfl ?_
  refine E.WL.done ?_
  refine E.KQ.then_n ?_
  refine E.W.cond_t rfl ?_
  refine E.W.seq ?_
  refine E.W.region ?_
  refine E.WL.val (E.y_build (v := .agg #[.int .u64 0, .int .u64 0, .slice none 0 0, .string noB]) rfl (by kernel_rfl)) rfl rfl rfl ?_
  refine E.WL.storeW hb 0 rfl rfl rfl Tryd.sizeOf30 rfl rfl rfl (E.allOne rfl) rfl ?_
  clear hb; intro w6 hb _
  refine E.WL.val (E.y_assign rfl) rfl rfl rfl ?_
  refine E.WL.done ?_
  refine E.KQ.then_n ?_
  refine E.W.ret ?_
  refine E.KQ.block_r ?_
  refine E.KQ.then_r ?_
  refine E.KQ.retct Tryd.results8 rfl (E.At.ldk Tryd.isAgg30 Tryd.sizeOf30 (hb.at0 0 rfl) rfl) rfl ?_
  exact ⟨_, rfl, ⟨_, _, _, rfl⟩, hb.below⟩

set_option maxHeartbeats 400000 in
theorem load1_calls {F : FP} {w : World} {cs : List Value} {d : DiskD} (h : RDisk F w cs d) (i : Nat) (hi : i < 256) (hi0 : 0 < i) (n : ByteArray) (hn : n.size < 256) (hr : readP d snapN = (frameP (bytesP i n), 0)) :
    Calls Tryd.prog 8 #[(.agg cs.toArray)] w (Ret fun u w' => (∃ A m c, u = .tuple #[.agg #[.int .u64 (i : Nat), .int .u64 0, .slice A m c, .string n], .int .i64 0]) ∧ Ext w w') := by
  obtain ⟨v, rfl, hf⟩ := id h
  obtain ⟨A, c, rfl, _, _, _⟩ := hf.open_
  have hbs := bytesP_size (i := i) (s := n)
  have hb := E.Bx.start w (base := w.heap.size) (Nat.le_refl _)
  refine E.enter Tryd.func8 rfl Tryd.ntmps8 [(.agg #[.slice A d.files.length c, .bool d.down, .int .i64 d.fuse])] rfl ?_
  refine E.W.seq ?_
  refine E.W.region ?_
  refine E.WL.box hb rfl rfl rfl rfl ?_
  clear hb; intro B1 w2 hb _ _
  refine E.WL.alloc hb Tryd.zeroValue30 rfl rfl rfl ?_
  clear hb; intro B2 w4 hb _ _
  refine E.WL.val (E.y_assign rfl) rfl rfl rfl ?_
  refine E.WL.done ?_
  refine E.KQ.then_n ?_
  refine E.W.seq ?_
  refine E.W.region ?_
  refine E.WL.val (E.y_load rfl (E.At.ldk Tryd.isAgg27 Tryd.sizeOf27 (hb.at0 1 rfl) rfl)) rfl rfl rfl ?_
  refine E.WL.call (read_calls (h.ext hb.below) snapN) Tryd.call10 rfl rfl rfl ?_
  rintro _ w5 ⟨rfl, hX⟩
  replace hb := hb.ext hX
  clear hX
  refine E.WL.as 12 rfl (show _ = Value.tuple #[.string (frameP (bytesP i n)), .int .i64 0] from by rw [hr]) ?_
  refine E.WL.val (E.y_move rfl) rfl rfl rfl ?_
  refine E.WL.val (E.y_extract rfl rfl) rfl rfl rfl ?_
  refine E.WL.val (E.y_extract rfl rfl) rfl rfl rfl ?_
  refine E.WL.val (E.y_assign rfl) rfl rfl rfl ?_
  refine E.WL.val (E.y_assign rfl) rfl rfl rfl ?_
  refine E.WL.done ?_
  refine E.KQ.then_n ?_
  refine E.W.seq ?_
  refine E.W.block ?_
  refine E.W.seq ?_
  refine E.W.region ?_
  refine E.WL.val (E.y_move rfl) rfl rfl rfl ?_
  refine E.WL.val (E.y_eql rfl rfl) rfl rfl rfl ?_
  refine E.WL.as 17 rfl (show _ = Value.bool false from congrArg Value.bool (by decide)) ?_
  refine E.WL.val (E.y_assign rfl) rfl rfl rfl ?_
  refine E.WL.done ?_
  refine E.KQ.then_n ?_
  refine E.W.cond_f rfl ?_
  refine E.W.seq ?_
  refine E.W.region ?_
  refine E.WL.val (E.y_move rfl) rfl rfl rfl ?_
  refine E.WL.val (E.y_neq rfl rfl) rfl rfl rfl ?_
  refine E.WL.as 21 rfl (show _ = Value.bool false from congrArg Value.bool (by decide)) ?_
  refine E.WL.val (E.y_assign rfl) rfl rfl rfl ?_
  refine E.WL.done ?_
  refine E.KQ.then_n ?_
  refine E.W.cond_f rfl ?_
  refine E.W.skip ?_
  refine E.KQ.block_n ?_
  refine E.KQ.then_n ?_
  refine E.W.seq ?_
  refine E.W.region ?_
  refine E.WL.val (E.y_move rfl) rfl rfl rfl ?_
  refine E.WL.call (takeFrame_calls w5 (bytesP i n) (by omega)) Tryd.call19 rfl rfl rfl ?_
  rintro _ w6 ⟨rfl, hX⟩
  replace hb := hb.ext hX
  clear hX
  refine E.WL.val (E.y_move rfl) rfl rfl rfl ?_
  refine E.WL.val (E.y_extract rfl rfl) rfl rfl rfl ?_
  refine E.WL.val (E.y_extract rfl rfl) rfl rfl rfl ?_
  refine E.WL.val (E.y_extract rfl rfl) rfl rfl rfl ?_
  refine E.WL.val (E.y_assign rfl) rfl rfl rfl ?_
  refine E.WL.val (E.y_assign rfl) rfl rfl rfl ?_
  refine E.WL.val (E.y_assign rfl) rfl rfl rfl ?_
  refine E.WL.done ?_
  refine E.KQ.then_n ?_
  refine E.W.seq ?_
  refine E.W.region ?_
  refine E.WL.val (E.y_move rfl) rfl rfl rfl ?_
  refine E.WL.call (decode_calls w6 i hi hi0 n hn) Tryd.call20 rfl rfl rfl ?_
  rintro _ w7 ⟨⟨v1, rfl, hv1⟩, hX⟩
  replace hb := hb.ext hX
  obtain ⟨A1, c1, rfl, _, _, _⟩ := hv1.open_
  clear hX
  refine E.WL.val (E.y_move rfl) rfl rfl rfl ?_
  refine E.WL.val (E.y_extract rfl rfl) rfl rfl rfl ?_
  refine E.WL.val (E.y_extract rfl rfl) rfl rfl rfl ?_
  refine E.WL.alloc hb Tryd.zeroValue30 rfl rfl rfl ?_
  clear hb; intro B8 w9 hb _ _
  refine E.WL.storeW hb 0 rfl rfl rfl Tryd.sizeOf30 rfl rfl rfl (E.allOne rfl) rfl ?_
  clear hb; intro w10 hb _
  refine E.WL.val (E.y_assign rfl) rfl rfl rfl ?_
  refine E.WL.done ?_
  refine E.KQ.then_n ?_
  refine E.W.seq ?_
  refine E.W.seq ?_
  refine E.W.region ?_
  refine E.WL.val (E.y_move rfl) rfl rfl rfl ?_
  refine E.WL.val (E.y_neq rfl rfl) rfl rfl rfl ?_
  refine E.WL.as 36 rfl (show _ = Value.bool false from congrArg Value.bool (by decide)) ?_
  refine E.WL.val (E.y_move rfl) rfl rfl rfl ?_
  refine E.WL.val (E.y_move rfl) rfl rfl rfl ?_
  refine E.WL.val (E.y_neq rfl rfl) rfl rfl rfl ?_
  refine E.WL.as 39 rfl (show _ = Value.bool false from congrArg Value.bool (by decide)) ?_
  refine E.WL.val (E.y_pick_f rfl rfl) rfl rfl rfl ?_
  refine E.WL.val (E.y_move rfl) rfl rfl rfl ?_
  refine E.WL.val (E.y_move rfl) rfl rfl rfl ?_
  refine E.WL.val (E.y_sneq rfl rfl) rfl rfl rfl ?_
  refine E.WL.as 43 rfl (show _ = Value.bool false from congrArg Value.bool (by decide)) ?_
  refine E.WL.val (E.y_pick_f rfl rfl) rfl rfl rfl ?_
  refine E.WL.done ?_
  refine E.KQ.then_n ?_
  refine E.W.cond_f rfl ?_
  refine E.W.skip ?_
  refine E.KQ.then_n ?_
  refine E.W.seq ?_
  refine E.W.region ?_
  refine E.WL.val (E.y_load rfl (E.At.ldk Tryd.isAgg30 Tryd.sizeOf30 (hb.at0 0 rfl) rfl)) rfl rfl rfl ?_
  refine E.WL.storeW hb 1 rfl rfl rfl Tryd.sizeOf30 rfl rfl rfl (E.allOne rfl) rfl ?_
  clear hb; intro w11 hb _
  refine E.WL.val (E.y_assign rfl) rfl rfl rfl ?_
  refine E.WL.done ?_
  refine E.KQ.then_n ?_
  refine E.W.ret ?_
  refine E.KQ.retct Tryd.results8 rfl (E.At.ldk Tryd.isAgg30 Tryd.sizeOf30 (hb.at0 1 rfl) rfl) rfl ?_
  exact ⟨_, rfl, ⟨_, _, _, rfl⟩, hb.below⟩

theorem load_calls {F : FP} {w : World} {cs : List Value} {d : DiskD} (h : RDisk F w cs d) {x : SnapD} (hl : LoadOk d x) : Calls Tryd.prog 8 #[(.agg cs.toArray)] w (Ret fun u w' => (∃ A m c, u = .tuple #[.agg #[.int .u64 x.index, .int .u64 x.term, .slice A m c, .string x.data], .int .i64 0]) ∧ Ext w w') := by
  rcases hl with ⟨hr, rfl⟩ | ⟨j, n, h1, h2, h3, hr, rfl⟩
  · exact load0_calls h hr
  · exact load1_calls h j h2 h1 n h3 hr

set_option maxHeartbeats 2000000 in
theorem save_calls {G : FP} {w : World} {cs : List Value} {d : DiskD} (h : RDisk (Tk w) w cs d) {A9 : Option Addr} {m9 c9 : Nat} (hv9 : RInts G w (.slice A9 m9 c9) [1]) (i : Nat) (hi : i < 256) (hi0 : 0 < i) (n : ByteArray) (hn : n.size < 256) {x : SnapD} (hl : LoadOk d x) (hx : x.index ≤ i) (ok : okPut d snapN (frameP (bytesP i n))) :
    Calls Tryd.prog 6 #[(.agg cs.toArray), (.agg #[.int .u64 (i : Nat), .int .u64 0, .slice A9 m9 c9, .string n])] w (Ret fun u w' => (∃ cs', u = .tuple #[.agg cs'.toArray, .int .i64 (putP d snapN (frameP (bytesP i n))).2] ∧ RDisk (Tk w') w' cs' (putP d snapN (frameP (bytesP i n))).1) ∧ Ext w w') := by
  obtain ⟨v, rfl, hf⟩ := id h
  obtain ⟨A, c, rfl, _, _, _⟩ := hf.open_
  have hbs := bytesP_size (i := i) (s := n)
  have hv0 : RInts (Old w) w (.slice A9 m9 c9) [1] := hv9.old (by decide) (fun _ _ h => h)
  have hd1 := h
  have hb := E.Bx.start w (base := w.heap.size) (Nat.le_refl _)
  refine E.enter Tryd.func6 rfl Tryd.ntmps6 [(.agg #[.slice A d.files.length c, .bool d.down, .int .i64 d.fuse]), (.agg #[.int .u64 (i : Nat), .int .u64 0, .slice A9 m9 c9, .string n])] rfl ?_
  refine E.W.seq ?_
  refine E.W.region ?_
  refine E.WL.box hb rfl rfl rfl rfl ?_
  clear hb; intro B2 w2 hb hX _
  replace hd1 := RDisk.keeps hd1 (Keeps.ext hX) (S := fun U => U = 51) rfl
  clear hX
  refine E.WL.box hb rfl rfl rfl rfl ?_
  clear hb; intro B3 w4 hb hX _
  replace hd1 := RDisk.keeps hd1 (Keeps.ext hX) (S := fun U => U = 51) rfl
  clear hX
  refine E.WL.alloc hb Tryd.zeroValue27 rfl rfl rfl ?_
  clear hb; intro B4 w6 hb hX _
  replace hd1 := RDisk.keeps hd1 (Keeps.ext hX) (S := fun U => U = 51) rfl
  clear hX
  refine E.WL.val (E.y_assign rfl) rfl rfl rfl ?_
  refine E.WL.done ?_
  refine E.KQ.then_n ?_
  refine E.W.seq ?_
  refine E.W.region ?_
  refine E.WL.val (E.y_load rfl (E.At.ldk Tryd.isAgg30 Tryd.sizeOf30 (hb.at0 1 rfl) rfl)) rfl rfl rfl ?_
  refine E.WL.call (snapCheck_calls (F := Old w) (s := ⟨(i : Nat), 0, [1], n⟩) ⟨_, rfl, hv0.stays (RInt.goes .i64) (Stays.below hb.below (fun _ _ h => h))⟩ rfl (by show ¬ ((i : Nat) : Int) = 0; omega) (by show n.size ≤ 64512; omega)) Tryd.call13 rfl rfl rfl ?_
  rintro _ w7 ⟨rfl, hX⟩
  replace hb := hb.ext hX
  replace hd1 := RDisk.keeps hd1 (Keeps.ext hX) (S := fun U => U = 51) rfl
  clear hX
  refine E.WL.val (E.y_assign rfl) rfl rfl rfl ?_
  refine E.WL.done ?_
  refine E.KQ.then_n ?_
  refine E.W.seq ?_
  refine E.W.seq ?_
  refine E.W.region ?_
  refine E.WL.val (E.y_move rfl) rfl rfl rfl ?_
  refine E.WL.val (E.y_eql rfl rfl) rfl rfl rfl ?_
  refine E.WL.as 13 rfl (show _ = Value.bool true from congrArg Value.bool (by decide)) ?_
  refine E.WL.done ?_
  refine E.KQ.then_n ?_
  refine E.W.cond_t rfl ?_
  refine E.W.seq ?_
  refine E.W.region ?_
  refine E.WL.alloc hb Tryd.zeroValue30 rfl rfl rfl ?_
  clear hb; intro B7 w9 hb hX _
  replace hd1 := RDisk.keeps hd1 (Keeps.ext hX) (S := fun U => U = 51) rfl
  clear hX
  refine E.WL.done ?_
  refine E.KQ.then_n ?_
  refine E.W.seq ?_
  refine E.W.region ?_
  refine E.WL.val (E.y_load rfl (E.At.ldk Tryd.isAgg27 Tryd.sizeOf27 (hb.at0 3 rfl) rfl)) rfl rfl rfl ?_
  refine E.WL.call (load_calls hd1 hl) Tryd.call8 rfl rfl rfl ?_
  rintro _ w10 ⟨⟨A3, m3, c3, rfl⟩, hX⟩
  replace hb := hb.ext hX
  replace hd1 := RDisk.keeps hd1 (Keeps.ext hX) (S := fun U => U = 51) rfl
  clear hX
  refine E.WL.val (E.y_move rfl) rfl rfl rfl ?_
  refine E.WL.val (E.y_extract rfl rfl) rfl rfl rfl ?_
  refine E.WL.val (E.y_extract rfl rfl) rfl rfl rfl ?_
  refine E.WL.storeW hb 0 rfl rfl rfl Tryd.sizeOf30 rfl rfl rfl (E.allOne rfl) rfl ?_
  have hT := hb.hasT 0 rfl
  clear hb; intro w11 hb hO
  replace hd1 := RDisk.keeps hd1 (Keeps.only hO hT (by decide)) (S := fun U => U = 51) rfl
  clear hT
  clear hO
  refine E.WL.val (E.y_assign rfl) rfl rfl rfl ?_
  refine E.WL.done ?_
  refine E.KQ.then_n ?_
  refine E.W.seq ?_
  refine E.W.region ?_
  refine E.WL.val (E.y_move rfl) rfl rfl rfl ?_
  refine E.WL.val (E.y_eql rfl rfl) rfl rfl rfl ?_
  refine E.WL.as 20 rfl (show _ = Value.bool true from congrArg Value.bool (by decide)) ?_
  refine E.WL.val (E.y_move rfl) rfl rfl rfl ?_
  refine E.WL.val (E.y_fld Tryd.underlying30 rfl Tryd.sizeOf28 rfl) rfl rfl rfl ?_
  refine E.WL.val (E.y_load rfl (E.At.ld1 Tryd.isAgg28 (hb.at0 0 rfl) 0 rfl)) rfl rfl rfl ?_
  refine E.WL.val (E.y_fld Tryd.underlying30 rfl Tryd.sizeOf28 rfl) rfl rfl rfl ?_
  refine E.WL.val (E.y_load rfl (E.At.ld1 Tryd.isAgg28 (hb.at0 2 rfl) 0 rfl)) rfl rfl rfl ?_
  refine E.WL.val (E.y_gtr rfl rfl) rfl rfl rfl ?_
  refine E.WL.as 26 rfl (show _ = Value.bool false from congrArg Value.bool (decide_eq_false (by omega))) ?_
  refine E.WL.val (E.y_pick_t rfl rfl) rfl rfl rfl ?_
  refine E.WL.done ?_
  refine E.KQ.then_n ?_
  refine E.W.cond_f rfl ?_
  refine E.W.skip ?_
  refine E.KQ.then_n ?_
  refine E.W.seq ?_
  refine E.W.block ?_
  refine E.W.seq ?_
  refine E.W.region ?_
  refine E.WL.val (E.y_move rfl) rfl rfl rfl ?_
  refine E.WL.val (E.y_eql rfl rfl) rfl rfl rfl ?_
  refine E.WL.as 30 rfl (show _ = Value.bool true from congrArg Value.bool (by decide)) ?_
  refine E.WL.val (E.y_assign rfl) rfl rfl rfl ?_
  refine E.WL.done ?_
  refine E.KQ.then_n ?_
  refine E.W.cond_t rfl ?_
  refine E.W.seq ?_
  refine E.W.region ?_
  refine E.WL.val (E.y_load rfl (E.At.ldk Tryd.isAgg30 Tryd.sizeOf30 (hb.at0 2 rfl) rfl)) rfl rfl rfl ?_
  refine E.WL.call (snapBytes_calls (hv0.stays (RInt.goes .i64) (Stays.below hb.below (fun _ _ h => h))) i hi n hn) Tryd.call15 rfl rfl rfl ?_
  rintro _ w12 ⟨rfl, hX⟩
  replace hb := hb.ext hX
  replace hd1 := RDisk.keeps hd1 (Keeps.ext hX) (S := fun U => U = 51) rfl
  clear hX
  refine E.WL.call (frame_calls w12 (bytesP i n) (by omega)) Tryd.call14 rfl rfl rfl ?_
  rintro _ w13 ⟨rfl, hX⟩
  replace hb := hb.ext hX
  replace hd1 := RDisk.keeps hd1 (Keeps.ext hX) (S := fun U => U = 51) rfl
  clear hX
  refine E.WL.val (E.y_move rfl) rfl rfl rfl ?_
  refine E.WL.val (E.y_extract rfl rfl) rfl rfl rfl ?_
  refine E.WL.val (E.y_extract rfl rfl) rfl rfl rfl ?_
  refine E.WL.val (E.y_assign rfl) rfl rfl rfl ?_
  refine E.WL.val (E.y_assign rfl) rfl rfl rfl ?_
  refine E.WL.done ?_
  refine E.KQ.then_n ?_
  refine E.W.seq ?_
  refine E.W.region ?_
  refine E.WL.val (E.y_load rfl (E.At.ldk Tryd.isAgg27 Tryd.sizeOf27 (hb.at0 3 rfl) rfl)) rfl rfl rfl ?_
  refine E.WL.val (E.y_move rfl) rfl rfl rfl ?_
  refine E.WL.call (put_calls hd1 snapN (frameP (bytesP i n)) (by decide) ok) Tryd.call16 rfl rfl rfl ?_
  rintro _ w14 ⟨⟨cs1, rfl, hd1⟩, hX⟩
  obtain ⟨v1, rfl, hf1⟩ := id hd1
  obtain ⟨A1, c1, rfl, _, _, _⟩ := hf1.open_
  clear hf1
  replace hb := hb.ext hX
  clear hX
  refine E.WL.val (E.y_extract rfl rfl) rfl rfl rfl ?_
  refine E.WL.val (E.y_extract rfl rfl) rfl rfl rfl ?_
  refine E.WL.storeW hb 1 rfl rfl rfl Tryd.sizeOf27 rfl rfl rfl (E.allOne rfl) rfl ?_
  have hT := hb.hasT 1 rfl
  clear hb; intro w15 hb hO
  replace hd1 := RDisk.keeps hd1 (Keeps.only hO hT (by decide)) (S := fun U => U = 51) rfl
  clear hT
  clear hO
  refine E.WL.val (E.y_assign rfl) rfl rfl rfl ?_
  refine E.WL.done ?_
  refine E.KQ.then_n ?_
  refine E.W.ret ?_
  refine E.KQ.block_r ?_
  refine E.KQ.then_r ?_
  refine E.KQ.retct Tryd.results6 rfl (E.At.ldk Tryd.isAgg27 Tryd.sizeOf27 (hb.at0 1 rfl) rfl) rfl ?_
  exact ⟨_, rfl, ⟨_, rfl, hd1⟩, hb.below⟩

set_option maxHeartbeats 400000 in
theorem begins_calls (w : World) :
    Calls Tryd.prog 4 #[] w (Ret fun u w' => u = .bool true ∧ Ext w w') := by
  have hb := E.Bx.start w (base := w.heap.size) (Nat.le_refl _)
  refine E.enter Tryd.func4 rfl Tryd.ntmps4 [] rfl ?_
  refine E.W.seq ?_
  refine E.W.region ?_
  refine E.WL.val (E.y_assign rfl) rfl rfl rfl ?_
  refine E.WL.done ?_
  refine E.KQ.then_n ?_
  refine E.W.seq ?_
  refine E.W.region ?_
  refine E.WL.val (E.y_build (v := .agg #[.slice none 0 0, .bool false, .int .i64 (-1)]) rfl (by kernel_rfl)) rfl rfl rfl ?_
  refine E.WL.call (add_calls (F := Any) (d := dZ) ⟨_, rfl, RdS.nil_⟩ aB xB okA) Tryd.call9 rfl rfl rfl ?_
  rintro _ w1 ⟨⟨cs1, rfl, hd1⟩, hX⟩
  obtain ⟨v1, rfl, hf1⟩ := id hd1
  obtain ⟨A1, c1, rfl, _, _, _⟩ := hf1.open_
  clear hf1
  replace hb := hb.ext hX
  clear hX
  refine E.WL.val (E.y_move rfl) rfl rfl rfl ?_
  refine E.WL.val (E.y_extract rfl rfl) rfl rfl rfl ?_
  refine E.WL.val (E.y_extract rfl rfl) rfl rfl rfl ?_
  refine E.WL.as 9 rfl (show _ = Value.int .i64 0 from rfl) ?_
  refine E.WL.alloc hb Tryd.zeroValue27 rfl rfl rfl ?_
  clear hb; intro B1 w3 hb hX _
  replace hd1 := RDisk.keeps hd1 (Keeps.ext hX) (S := fun U => U = 51) rfl
  clear hX
  refine E.WL.storeW hb 0 rfl rfl rfl Tryd.sizeOf27 rfl rfl rfl (E.allOne rfl) rfl ?_
  have hT := hb.hasT 0 rfl
  clear hb; intro w4 hb hO
  replace hd1 := RDisk.keeps hd1 (Keeps.only hO hT (by decide)) (S := fun U => U = 51) rfl
  clear hT
  clear hO
  refine E.WL.val (E.y_assign rfl) rfl rfl rfl ?_
  refine E.WL.done ?_
  refine E.KQ.then_n ?_
  refine E.W.seq ?_
  refine E.W.region ?_
  refine E.WL.val (E.y_load rfl (E.At.ldk Tryd.isAgg27 Tryd.sizeOf27 (hb.at0 0 rfl) rfl)) rfl rfl rfl ?_
  refine E.WL.call (read_calls hd1 aB) Tryd.call10 rfl rfl rfl ?_
  rintro _ w5 ⟨rfl, hX⟩
  replace hb := hb.ext hX
  replace hd1 := RDisk.keeps hd1 (Keeps.ext hX) (S := fun U => U = 51) rfl
  clear hX
  refine E.WL.as 12 rfl (show _ = Value.tuple #[.string xB, .int .i64 0] from by rw [read_a]) ?_
  refine E.WL.val (E.y_move rfl) rfl rfl rfl ?_
  refine E.WL.val (E.y_extract rfl rfl) rfl rfl rfl ?_
  refine E.WL.val (E.y_extract rfl rfl) rfl rfl rfl ?_
  refine E.WL.val (E.y_assign rfl) rfl rfl rfl ?_
  refine E.WL.val (E.y_assign rfl) rfl rfl rfl ?_
  refine E.WL.done ?_
  refine E.KQ.then_n ?_
  refine E.W.seq ?_
  refine E.W.region ?_
  refine E.WL.call (crc_calls w5 ⟨#[49, 50, 51, 52, 53, 54, 55, 56, 57]⟩ (by decide)) Tryd.call11 rfl rfl rfl ?_
  rintro _ w6 ⟨rfl, hX⟩
  replace hb := hb.ext hX
  replace hd1 := RDisk.keeps hd1 (Keeps.ext hX) (S := fun U => U = 51) rfl
  clear hX
  refine E.WL.as 15 rfl (show _ = Value.int .u16 10673 from by rw [sum_nine]) ?_
  refine E.WL.val (E.y_eql rfl rfl) rfl rfl rfl ?_
  refine E.WL.as 16 rfl (show _ = Value.bool true from congrArg Value.bool (by decide)) ?_
  refine E.WL.val (E.y_move rfl) rfl rfl rfl ?_
  refine E.WL.val (E.y_move rfl) rfl rfl rfl ?_
  refine E.WL.val (E.y_eql rfl rfl) rfl rfl rfl ?_
  refine E.WL.as 19 rfl (show _ = Value.bool true from congrArg Value.bool (by decide)) ?_
  refine E.WL.val (E.y_pick_t rfl rfl) rfl rfl rfl ?_
  refine E.WL.val (E.y_move rfl) rfl rfl rfl ?_
  refine E.WL.val (E.y_move rfl) rfl rfl rfl ?_
  refine E.WL.val (E.y_eql rfl rfl) rfl rfl rfl ?_
  refine E.WL.as 23 rfl (show _ = Value.bool true from congrArg Value.bool (by decide)) ?_
  refine E.WL.val (E.y_pick_t rfl rfl) rfl rfl rfl ?_
  refine E.WL.val (E.y_move rfl) rfl rfl rfl ?_
  refine E.WL.val (E.y_move rfl) rfl rfl rfl ?_
  refine E.WL.val (E.y_seql rfl rfl) rfl rfl rfl ?_
  refine E.WL.as 27 rfl (show _ = Value.bool true from congrArg Value.bool (by decide)) ?_
  refine E.WL.val (E.y_pick_t rfl rfl) rfl rfl rfl ?_
  refine E.WL.val (E.y_assign rfl) rfl rfl rfl ?_
  refine E.WL.done ?_
  refine E.KQ.then_n ?_
  refine E.W.ret ?_
  refine E.KQ.ret1 Tryd.results4 rfl ?_
  exact ⟨_, rfl, rfl, hb.below⟩
end Go.Proofs.YtmnnbnajnfdncaaDoor
