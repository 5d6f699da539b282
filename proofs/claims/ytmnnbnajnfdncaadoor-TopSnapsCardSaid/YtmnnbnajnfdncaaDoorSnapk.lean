/- Walks: what is put away. -/
import Derived.Test.YtmnnbnajnfdncaaDoorQ5
set_option linter.unusedVariables false
set_option linter.unusedSimpArgs false
namespace Go.Proofs.YtmnnbnajnfdncaaDoor
open Go.RowKit E
theorem At.nth_ {w : World} {p : Addr} {l : List Value} {v : Value} {k : Nat} (h : At w p l) (hk : l[k]? = some v) : At w (p.add (k * 1)) [v] := fun j u hu => by
  cases j with
  | zero =>
    simp at hu; subst hu
    rw [add_add, Nat.mul_one, Nat.add_zero]
    exact h k v hk
  | succ j => simp at hu
set_option maxHeartbeats 400000 in
theorem add_calls {F : FP} {w : World} {cs : List Value} {d : DiskD} (h : RDisk F w cs d) (name data : ByteArray) (ok : okAdd name data d) :
    Calls Tryd.prog 9 #[(.agg cs.toArray), (.string name), (.string data)] w (Ret fun u w' => (∃ cs', u = .tuple #[.agg cs'.toArray, .int .i64 (addP d name data).2] ∧ RDisk (Tk w') w' cs' (addP d name data).1) ∧ Ext w w') := by
  obtain ⟨v, rfl, hf⟩ := id h
  obtain ⟨A, c, rfl, _, _, _⟩ := hf.open_
  have hb := E.Bx.start w (base := w.heap.size) (Nat.le_refl _)
  refine E.enter Tryd.func9 rfl Tryd.ntmps9 [(.agg #[.slice A d.files.length c, .bool d.down, .int .i64 d.fuse]), (.string name), (.string data)] rfl ?_
  refine E.W.seq ?_
  refine E.W.region ?_
  refine E.WL.box hb rfl rfl rfl rfl ?_
  clear hb; intro B1 w2 hb _ _
  refine E.WL.alloc hb Tryd.zeroValue27 rfl rfl rfl ?_
  clear hb; intro B3 w4 hb _ _
  refine E.WL.val (E.y_assign rfl) rfl rfl rfl ?_
  refine E.WL.done ?_
  refine E.KQ.then_n ?_
  refine E.W.seq ?_
  refine E.W.region ?_
  refine E.WL.val (E.y_load rfl (E.At.ldk Tryd.isAgg27 Tryd.sizeOf27 (hb.at0 1 rfl) rfl)) rfl rfl rfl ?_
  refine E.WL.val (E.y_move rfl) rfl rfl rfl ?_
  refine E.WL.val (E.y_move rfl) rfl rfl rfl ?_
  refine E.WL.val (E.y_build (v := .agg #[.int .u8 0, .string name, .string noB, .string data, .int .i64 0]) rfl (by kernel_rfl)) rfl rfl rfl ?_
  refine E.WL.call (doneAdd_calls (h.ext hb.below) ok.1.1 ok.1.2.1 ok.1.2.2 name noB data 0 ok.2.1 ok.2.2.1 ok.2.2.2.1 ok.2.2.2.2) Tryd.call21 rfl rfl rfl ?_
  rintro _ w5 ⟨⟨cs1, rfl, hd1⟩, hX⟩
  obtain ⟨v1, rfl, hf1⟩ := id hd1
  obtain ⟨A1, c1, rfl, _, _, _⟩ := hf1.open_
  clear hf1
  replace hb := hb.ext hX
  clear hX
  refine E.WL.val (E.y_extract rfl rfl) rfl rfl rfl ?_
  refine E.WL.val (E.y_extract rfl rfl) rfl rfl rfl ?_
  refine E.WL.storeW hb 0 rfl rfl rfl Tryd.sizeOf27 rfl rfl rfl (E.allOne rfl) rfl ?_
  have hT := hb.hasT 0 rfl
  clear hb; intro w6 hb hO
  replace hd1 := RDisk.keeps hd1 (Keeps.only hO hT (by decide)) (S := fun U => U = 51) rfl
  clear hT
  clear hO
  refine E.WL.val (E.y_assign rfl) rfl rfl rfl ?_
  refine E.WL.done ?_
  refine E.KQ.then_n ?_
  refine E.W.ret ?_
  refine E.KQ.retct Tryd.results9 rfl (E.At.ldk Tryd.isAgg27 Tryd.sizeOf27 (hb.at0 0 rfl) rfl) rfl ?_
  exact ⟨_, rfl, ⟨_, rfl, hd1⟩, hb.below⟩

set_option maxHeartbeats 400000 in
theorem sync_calls {F : FP} {w : World} {cs : List Value} {d : DiskD} (h : RDisk F w cs d) (name : ByteArray) (ok : okSync name d) :
    Calls Tryd.prog 40 #[(.agg cs.toArray), (.string name)] w (Ret fun u w' => (∃ cs', u = .tuple #[.agg cs'.toArray, .int .i64 (syncP d name).2] ∧ RDisk (Tk w') w' cs' (syncP d name).1) ∧ Ext w w') := by
  obtain ⟨v, rfl, hf⟩ := id h
  obtain ⟨A, c, rfl, _, _, _⟩ := hf.open_
  have hb := E.Bx.start w (base := w.heap.size) (Nat.le_refl _)
  refine E.enter Tryd.func40 rfl Tryd.ntmps40 [(.agg #[.slice A d.files.length c, .bool d.down, .int .i64 d.fuse]), (.string name)] rfl ?_
  refine E.W.seq ?_
  refine E.W.region ?_
  refine E.WL.box hb rfl rfl rfl rfl ?_
  clear hb; intro B1 w2 hb _ _
  refine E.WL.alloc hb Tryd.zeroValue27 rfl rfl rfl ?_
  clear hb; intro B3 w4 hb _ _
  refine E.WL.val (E.y_assign rfl) rfl rfl rfl ?_
  refine E.WL.done ?_
  refine E.KQ.then_n ?_
  refine E.W.seq ?_
  refine E.W.region ?_
  refine E.WL.val (E.y_load rfl (E.At.ldk Tryd.isAgg27 Tryd.sizeOf27 (hb.at0 1 rfl) rfl)) rfl rfl rfl ?_
  refine E.WL.val (E.y_move rfl) rfl rfl rfl ?_
  refine E.WL.val (E.y_build (v := .agg #[.int .u8 1, .string name, .string noB, .string noB, .int .i64 0]) rfl (by kernel_rfl)) rfl rfl rfl ?_
  refine E.WL.call (doneSync_calls (h.ext hb.below) ok.1.1 ok.1.2.1 ok.1.2.2 name noB noB 0 ok.2) Tryd.call21 rfl rfl rfl ?_
  rintro _ w5 ⟨⟨cs1, rfl, hd1⟩, hX⟩
  obtain ⟨v1, rfl, hf1⟩ := id hd1
  obtain ⟨A1, c1, rfl, _, _, _⟩ := hf1.open_
  clear hf1
  replace hb := hb.ext hX
  clear hX
  refine E.WL.val (E.y_extract rfl rfl) rfl rfl rfl ?_
  refine E.WL.val (E.y_extract rfl rfl) rfl rfl rfl ?_
  refine E.WL.storeW hb 0 rfl rfl rfl Tryd.sizeOf27 rfl rfl rfl (E.allOne rfl) rfl ?_
  have hT := hb.hasT 0 rfl
  clear hb; intro w6 hb hO
  replace hd1 := RDisk.keeps hd1 (Keeps.only hO hT (by decide)) (S := fun U => U = 51) rfl
  clear hT
  clear hO
  refine E.WL.val (E.y_assign rfl) rfl rfl rfl ?_
  refine E.WL.done ?_
  refine E.KQ.then_n ?_
  refine E.W.ret ?_
  refine E.KQ.retct Tryd.results40 rfl (E.At.ldk Tryd.isAgg27 Tryd.sizeOf27 (hb.at0 0 rfl) rfl) rfl ?_
  exact ⟨_, rfl, ⟨_, rfl, hd1⟩, hb.below⟩

set_option maxHeartbeats 400000 in
theorem drop_calls {F : FP} {w : World} {cs : List Value} {d : DiskD} (h : RDisk F w cs d) (name : ByteArray) (ok : okSync name d) :
    Calls Tryd.prog 36 #[(.agg cs.toArray), (.string name)] w (Ret fun u w' => (∃ cs', u = .tuple #[.agg cs'.toArray, .int .i64 (dropP d name).2] ∧ RDisk (Tk w') w' cs' (dropP d name).1) ∧ Ext w w') := by
  obtain ⟨v, rfl, hf⟩ := id h
  obtain ⟨A, c, rfl, _, _, _⟩ := hf.open_
  have hb := E.Bx.start w (base := w.heap.size) (Nat.le_refl _)
  refine E.enter Tryd.func36 rfl Tryd.ntmps36 [(.agg #[.slice A d.files.length c, .bool d.down, .int .i64 d.fuse]), (.string name)] rfl ?_
  refine E.W.seq ?_
  refine E.W.region ?_
  refine E.WL.box hb rfl rfl rfl rfl ?_
  clear hb; intro B1 w2 hb _ _
  refine E.WL.alloc hb Tryd.zeroValue27 rfl rfl rfl ?_
  clear hb; intro B3 w4 hb _ _
  refine E.WL.val (E.y_assign rfl) rfl rfl rfl ?_
  refine E.WL.done ?_
  refine E.KQ.then_n ?_
  refine E.W.seq ?_
  refine E.W.region ?_
  refine E.WL.val (E.y_load rfl (E.At.ldk Tryd.isAgg27 Tryd.sizeOf27 (hb.at0 1 rfl) rfl)) rfl rfl rfl ?_
  refine E.WL.val (E.y_move rfl) rfl rfl rfl ?_
  refine E.WL.val (E.y_build (v := .agg #[.int .u8 4, .string name, .string noB, .string noB, .int .i64 0]) rfl (by kernel_rfl)) rfl rfl rfl ?_
  refine E.WL.call (doneDrop_calls (h.ext hb.below) ok.1.1 ok.1.2.1 ok.1.2.2 name noB noB 0 ok.2) Tryd.call21 rfl rfl rfl ?_
  rintro _ w5 ⟨⟨cs1, rfl, hd1⟩, hX⟩
  obtain ⟨v1, rfl, hf1⟩ := id hd1
  obtain ⟨A1, c1, rfl, _, _, _⟩ := hf1.open_
  clear hf1
  replace hb := hb.ext hX
  clear hX
  refine E.WL.val (E.y_extract rfl rfl) rfl rfl rfl ?_
  refine E.WL.val (E.y_extract rfl rfl) rfl rfl rfl ?_
  refine E.WL.storeW hb 0 rfl rfl rfl Tryd.sizeOf27 rfl rfl rfl (E.allOne rfl) rfl ?_
  have hT := hb.hasT 0 rfl
  clear hb; intro w6 hb hO
  replace hd1 := RDisk.keeps hd1 (Keeps.only hO hT (by decide)) (S := fun U => U = 51) rfl
  clear hT
  clear hO
  refine E.WL.val (E.y_assign rfl) rfl rfl rfl ?_
  refine E.WL.done ?_
  refine E.KQ.then_n ?_
  refine E.W.ret ?_
  refine E.KQ.retct Tryd.results36 rfl (E.At.ldk Tryd.isAgg27 Tryd.sizeOf27 (hb.at0 0 rfl) rfl) rfl ?_
  exact ⟨_, rfl, ⟨_, rfl, hd1⟩, hb.below⟩

set_option maxHeartbeats 400000 in
theorem swap_calls {F : FP} {w : World} {cs : List Value} {d : DiskD} (h : RDisk F w cs d) (name to : ByteArray) (ok : okSwap name to d) :
    Calls Tryd.prog 42 #[(.agg cs.toArray), (.string name), (.string to)] w (Ret fun u w' => (∃ cs', u = .tuple #[.agg cs'.toArray, .int .i64 (swapP d name to).2] ∧ RDisk (Tk w') w' cs' (swapP d name to).1) ∧ Ext w w') := by
  obtain ⟨v, rfl, hf⟩ := id h
  obtain ⟨A, c, rfl, _, _, _⟩ := hf.open_
  have hb := E.Bx.start w (base := w.heap.size) (Nat.le_refl _)
  refine E.enter Tryd.func42 rfl Tryd.ntmps42 [(.agg #[.slice A d.files.length c, .bool d.down, .int .i64 d.fuse]), (.string name), (.string to)] rfl ?_
  refine E.W.seq ?_
  refine E.W.region ?_
  refine E.WL.box hb rfl rfl rfl rfl ?_
  clear hb; intro B1 w2 hb _ _
  refine E.WL.alloc hb Tryd.zeroValue27 rfl rfl rfl ?_
  clear hb; intro B3 w4 hb _ _
  refine E.WL.val (E.y_assign rfl) rfl rfl rfl ?_
  refine E.WL.done ?_
  refine E.KQ.then_n ?_
  refine E.W.seq ?_
  refine E.W.region ?_
  refine E.WL.val (E.y_load rfl (E.At.ldk Tryd.isAgg27 Tryd.sizeOf27 (hb.at0 1 rfl) rfl)) rfl rfl rfl ?_
  refine E.WL.val (E.y_move rfl) rfl rfl rfl ?_
  refine E.WL.val (E.y_move rfl) rfl rfl rfl ?_
  refine E.WL.val (E.y_build (v := .agg #[.int .u8 3, .string name, .string to, .string noB, .int .i64 0]) rfl (by kernel_rfl)) rfl rfl rfl ?_
  refine E.WL.call (doneSwap_calls (h.ext hb.below) ok.1.1 ok.1.2.1 ok.1.2.2 name to noB 0 ok.2.1 ok.2.2.1 ok.2.2.2) Tryd.call21 rfl rfl rfl ?_
  rintro _ w5 ⟨⟨cs1, rfl, hd1⟩, hX⟩
  obtain ⟨v1, rfl, hf1⟩ := id hd1
  obtain ⟨A1, c1, rfl, _, _, _⟩ := hf1.open_
  clear hf1
  replace hb := hb.ext hX
  clear hX
  refine E.WL.val (E.y_extract rfl rfl) rfl rfl rfl ?_
  refine E.WL.val (E.y_extract rfl rfl) rfl rfl rfl ?_
  refine E.WL.storeW hb 0 rfl rfl rfl Tryd.sizeOf27 rfl rfl rfl (E.allOne rfl) rfl ?_
  have hT := hb.hasT 0 rfl
  clear hb; intro w6 hb hO
  replace hd1 := RDisk.keeps hd1 (Keeps.only hO hT (by decide)) (S := fun U => U = 51) rfl
  clear hT
  clear hO
  refine E.WL.val (E.y_assign rfl) rfl rfl rfl ?_
  refine E.WL.done ?_
  refine E.KQ.then_n ?_
  refine E.W.ret ?_
  refine E.KQ.retct Tryd.results42 rfl (E.At.ldk Tryd.isAgg27 Tryd.sizeOf27 (hb.at0 0 rfl) rfl) rfl ?_
  exact ⟨_, rfl, ⟨_, rfl, hd1⟩, hb.below⟩

set_option maxHeartbeats 400000 in
theorem putAdd_calls {F : FP} {w : World} {cs : List Value} {d : DiskD} (h : RDisk F w cs d) {P1 : Nat} {tmp : ByteArray} (htP1 : At w ⟨P1, 0, none⟩ [.string tmp]) {P2 : Nat} {data : ByteArray} (htP2 : At w ⟨P2, 0, none⟩ [.string data]) (ok : okAdd tmp data d) :
    Calls Tryd.prog 38 #[(.agg cs.toArray), (.pointer (some ⟨P1, 0, none⟩)), (.pointer (some ⟨P2, 0, none⟩))] w (Ret fun u w' => (∃ cs', u = .tuple #[.agg cs'.toArray, .int .i64 (addP d tmp data).2] ∧ RDisk (Tk w') w' cs' (addP d tmp data).1) ∧ Ext w w') := by
  obtain ⟨v, rfl, hf⟩ := id h
  obtain ⟨A, c, rfl, _, _, _⟩ := hf.open_
  have hb := E.Bx.start w (base := w.heap.size) (Nat.le_refl _)
  refine E.enter Tryd.func38 rfl Tryd.ntmps38 [(.agg #[.slice A d.files.length c, .bool d.down, .int .i64 d.fuse]), (.pointer (some ⟨P1, 0, none⟩)), (.pointer (some ⟨P2, 0, none⟩))] rfl ?_
  refine E.W.seq ?_
  refine E.W.region ?_
  refine E.WL.box hb rfl rfl rfl rfl ?_
  clear hb; intro B1 w2 hb _ _
  refine E.WL.alloc hb Tryd.zeroValue27 rfl rfl rfl ?_
  clear hb; intro B3 w4 hb _ _
  refine E.WL.val (E.y_assign rfl) rfl rfl rfl ?_
  refine E.WL.done ?_
  refine E.KQ.then_n ?_
  refine E.W.seq ?_
  refine E.W.region ?_
  refine E.WL.val (E.y_load rfl (E.At.ldk Tryd.isAgg27 Tryd.sizeOf27 (hb.at0 1 rfl) rfl)) rfl rfl rfl ?_
  refine E.WL.val (E.y_load rfl (E.At.ld0 Tryd.isAgg9 (htP1.ext hb.below) rfl)) rfl rfl rfl ?_
  refine E.WL.val (E.y_load rfl (E.At.ld0 Tryd.isAgg9 (htP2.ext hb.below) rfl)) rfl rfl rfl ?_
  refine E.WL.call (add_calls (h.ext hb.below) tmp data ok) Tryd.call9 rfl rfl rfl ?_
  rintro _ w5 ⟨⟨cs1, rfl, hd1⟩, hX⟩
  obtain ⟨v1, rfl, hf1⟩ := id hd1
  obtain ⟨A1, c1, rfl, _, _, _⟩ := hf1.open_
  clear hf1
  replace hb := hb.ext hX
  clear hX
  refine E.WL.val (E.y_extract rfl rfl) rfl rfl rfl ?_
  refine E.WL.val (E.y_extract rfl rfl) rfl rfl rfl ?_
  refine E.WL.storeW hb 0 rfl rfl rfl Tryd.sizeOf27 rfl rfl rfl (E.allOne rfl) rfl ?_
  have hT := hb.hasT 0 rfl
  clear hb; intro w6 hb hO
  replace hd1 := RDisk.keeps hd1 (Keeps.only hO hT (by decide)) (S := fun U => U = 51) rfl
  clear hT
  clear hO
  refine E.WL.val (E.y_assign rfl) rfl rfl rfl ?_
  refine E.WL.done ?_
  refine E.KQ.then_n ?_
  refine E.W.ret ?_
  refine E.KQ.retct Tryd.results38 rfl (E.At.ldk Tryd.isAgg27 Tryd.sizeOf27 (hb.at0 0 rfl) rfl) rfl ?_
  exact ⟨_, rfl, ⟨_, rfl, hd1⟩, hb.below⟩

set_option maxHeartbeats 400000 in
theorem putSync_calls {F : FP} {w : World} {cs : List Value} {d : DiskD} (h : RDisk F w cs d) {P1 : Nat} {tmp : ByteArray} (htP1 : At w ⟨P1, 0, none⟩ [.string tmp]) (ok : okSync tmp d) :
    Calls Tryd.prog 39 #[(.agg cs.toArray), (.pointer (some ⟨P1, 0, none⟩))] w (Ret fun u w' => (∃ cs', u = .tuple #[.agg cs'.toArray, .int .i64 (syncP d tmp).2] ∧ RDisk (Tk w') w' cs' (syncP d tmp).1) ∧ Ext w w') := by
  obtain ⟨v, rfl, hf⟩ := id h
  obtain ⟨A, c, rfl, _, _, _⟩ := hf.open_
  have hb := E.Bx.start w (base := w.heap.size) (Nat.le_refl _)
  refine E.enter Tryd.func39 rfl Tryd.ntmps39 [(.agg #[.slice A d.files.length c, .bool d.down, .int .i64 d.fuse]), (.pointer (some ⟨P1, 0, none⟩))] rfl ?_
  refine E.W.seq ?_
  refine E.W.region ?_
  refine E.WL.box hb rfl rfl rfl rfl ?_
  clear hb; intro B1 w2 hb _ _
  refine E.WL.alloc hb Tryd.zeroValue27 rfl rfl rfl ?_
  clear hb; intro B3 w4 hb _ _
  refine E.WL.val (E.y_assign rfl) rfl rfl rfl ?_
  refine E.WL.done ?_
  refine E.KQ.then_n ?_
  refine E.W.seq ?_
  refine E.W.region ?_
  refine E.WL.val (E.y_load rfl (E.At.ldk Tryd.isAgg27 Tryd.sizeOf27 (hb.at0 1 rfl) rfl)) rfl rfl rfl ?_
  refine E.WL.val (E.y_load rfl (E.At.ld0 Tryd.isAgg9 (htP1.ext hb.below) rfl)) rfl rfl rfl ?_
  refine E.WL.call (sync_calls (h.ext hb.below) tmp ok) Tryd.call40 rfl rfl rfl ?_
  rintro _ w5 ⟨⟨cs1, rfl, hd1⟩, hX⟩
  obtain ⟨v1, rfl, hf1⟩ := id hd1
  obtain ⟨A1, c1, rfl, _, _, _⟩ := hf1.open_
  clear hf1
  replace hb := hb.ext hX
  clear hX
  refine E.WL.val (E.y_extract rfl rfl) rfl rfl rfl ?_
  refine E.WL.val (E.y_extract rfl rfl) rfl rfl rfl ?_
  refine E.WL.storeW hb 0 rfl rfl rfl Tryd.sizeOf27 rfl rfl rfl (E.allOne rfl) rfl ?_
  have hT := hb.hasT 0 rfl
  clear hb; intro w6 hb hO
  replace hd1 := RDisk.keeps hd1 (Keeps.only hO hT (by decide)) (S := fun U => U = 51) rfl
  clear hT
  clear hO
  refine E.WL.val (E.y_assign rfl) rfl rfl rfl ?_
  refine E.WL.done ?_
  refine E.KQ.then_n ?_
  refine E.W.ret ?_
  refine E.KQ.retct Tryd.results39 rfl (E.At.ldk Tryd.isAgg27 Tryd.sizeOf27 (hb.at0 0 rfl) rfl) rfl ?_
  exact ⟨_, rfl, ⟨_, rfl, hd1⟩, hb.below⟩

set_option maxHeartbeats 400000 in
theorem putSwap_calls {F : FP} {w : World} {cs : List Value} {d : DiskD} (h : RDisk F w cs d) {P1 : Nat} {tmp : ByteArray} (htP1 : At w ⟨P1, 0, none⟩ [.string tmp]) {P2 : Nat} {name : ByteArray} (htP2 : At w ⟨P2, 0, none⟩ [.string name]) (ok : okSwap tmp name d) :
    Calls Tryd.prog 41 #[(.agg cs.toArray), (.pointer (some ⟨P1, 0, none⟩)), (.pointer (some ⟨P2, 0, none⟩))] w (Ret fun u w' => (∃ cs', u = .tuple #[.agg cs'.toArray, .int .i64 (swapP d tmp name).2] ∧ RDisk (Tk w') w' cs' (swapP d tmp name).1) ∧ Ext w w') := by
  obtain ⟨v, rfl, hf⟩ := id h
  obtain ⟨A, c, rfl, _, _, _⟩ := hf.open_
  have hb := E.Bx.start w (base := w.heap.size) (Nat.le_refl _)
  refine E.enter Tryd.func41 rfl Tryd.ntmps41 [(.agg #[.slice A d.files.length c, .bool d.down, .int .i64 d.fuse]), (.pointer (some ⟨P1, 0, none⟩)), (.pointer (some ⟨P2, 0, none⟩))] rfl ?_
  refine E.W.seq ?_
  refine E.W.region ?_
  refine E.WL.box hb rfl rfl rfl rfl ?_
  clear hb; intro B1 w2 hb _ _
  refine E.WL.alloc hb Tryd.zeroValue27 rfl rfl rfl ?_
  clear hb; intro B3 w4 hb _ _
  refine E.WL.val (E.y_assign rfl) rfl rfl rfl ?_
  refine E.WL.done ?_
  refine E.KQ.then_n ?_
  refine E.W.seq ?_
  refine E.W.region ?_
  refine E.WL.val (E.y_load rfl (E.At.ldk Tryd.isAgg27 Tryd.sizeOf27 (hb.at0 1 rfl) rfl)) rfl rfl rfl ?_
  refine E.WL.val (E.y_load rfl (E.At.ld0 Tryd.isAgg9 (htP1.ext hb.below) rfl)) rfl rfl rfl ?_
  refine E.WL.val (E.y_load rfl (E.At.ld0 Tryd.isAgg9 (htP2.ext hb.below) rfl)) rfl rfl rfl ?_
  refine E.WL.call (swap_calls (h.ext hb.below) tmp name ok) Tryd.call42 rfl rfl rfl ?_
  rintro _ w5 ⟨⟨cs1, rfl, hd1⟩, hX⟩
  obtain ⟨v1, rfl, hf1⟩ := id hd1
  obtain ⟨A1, c1, rfl, _, _, _⟩ := hf1.open_
  clear hf1
  replace hb := hb.ext hX
  clear hX
  refine E.WL.val (E.y_extract rfl rfl) rfl rfl rfl ?_
  refine E.WL.val (E.y_extract rfl rfl) rfl rfl rfl ?_
  refine E.WL.storeW hb 0 rfl rfl rfl Tryd.sizeOf27 rfl rfl rfl (E.allOne rfl) rfl ?_
  have hT := hb.hasT 0 rfl
  clear hb; intro w6 hb hO
  replace hd1 := RDisk.keeps hd1 (Keeps.only hO hT (by decide)) (S := fun U => U = 51) rfl
  clear hT
  clear hO
  refine E.WL.val (E.y_assign rfl) rfl rfl rfl ?_
  refine E.WL.done ?_
  refine E.KQ.then_n ?_
  refine E.W.ret ?_
  refine E.KQ.retct Tryd.results41 rfl (E.At.ldk Tryd.isAgg27 Tryd.sizeOf27 (hb.at0 0 rfl) rfl) rfl ?_
  exact ⟨_, rfl, ⟨_, rfl, hd1⟩, hb.below⟩

set_option maxHeartbeats 2000000 in
theorem all_calls {w : World} {cs : List Value} {d : DiskD} (h : RDisk (Tk w) w cs d) {p : Addr} (ss : List StepD) (hlen : ss.length ≤ 100) (hok0 : allOk ss d) (hss : ∀ s ∈ ss, s.good w) (hat : At w p (ss.map StepD.val)) :
    Calls Tryd.prog 37 #[(.agg cs.toArray), (.slice (some p) ss.length ss.length)] w (Ret fun u w' => (∃ cs', u = .tuple #[.agg cs'.toArray, .int .i64 (allP ss d).2] ∧ RDisk (Tk w') w' cs' (allP ss d).1) ∧ Ext w w') := by
  obtain ⟨v, rfl, hf⟩ := id h
  obtain ⟨A, c, rfl, _, _, _⟩ := hf.open_
  have hd1 := h
  have hb := E.Bx.start w (base := w.heap.size) (Nat.le_refl _)
  refine E.enter Tryd.func37 rfl Tryd.ntmps37 [(.agg #[.slice A d.files.length c, .bool d.down, .int .i64 d.fuse]), (.slice (some p) ss.length ss.length)] rfl ?_
  refine E.W.seq ?_
  refine E.W.region ?_
  refine E.WL.box hb rfl rfl rfl rfl ?_
  clear hb; intro B2 w2 hb hX _
  replace hd1 := RDisk.keeps hd1 (Keeps.ext hX) (S := fun U => U = 51) rfl
  clear hX
  refine E.WL.alloc hb Tryd.zeroValue27 rfl rfl rfl ?_
  clear hb; intro B4 w4 hb hX _
  replace hd1 := RDisk.keeps hd1 (Keeps.ext hX) (S := fun U => U = 51) rfl
  clear hX
  refine E.WL.val (E.y_assign rfl) rfl rfl rfl ?_
  refine E.WL.done ?_
  refine E.KQ.then_n ?_
  refine E.W.seq ?_
  refine E.W.seq ?_
  refine E.W.region ?_
  refine E.WL.val (E.y_move rfl) rfl rfl rfl ?_
  refine E.WL.val (E.y_lenS Tryd.underlying104 rfl) rfl rfl rfl ?_
  refine E.WL.val (E.y_move rfl) rfl rfl rfl ?_
  refine E.WL.done ?_
  refine E.KQ.then_n ?_
  refine E.W.block ?_
  refine E.W.loop (ι := Nat) (fun k => [(2, .pointer (some ⟨B2, 0, none⟩)), (4, .pointer (some ⟨B4, 0, none⟩)), (10, .slice (some p) ss.length ss.length), (11, .int .i64 ss.length), (12, .int .i64 (k : Nat))]) (fun k w' => ∃ d2 A2 c2, Bx w.heap.size w w' [(B4, [.slice none 0 0, .bool false, .int .i64 0], 27), (B2, [.slice A2 (DiskD.files d2).length c2, .bool (DiskD.down d2), .int .i64 (DiskD.fuse d2)], 27)] ∧ RDisk (Tk w') w' [.slice A2 (DiskD.files d2).length c2, .bool (DiskD.down d2), .int .i64 (DiskD.fuse d2)] d2 ∧ k ≤ ss.length ∧ allP (ss.drop k) d2 = allP ss d ∧ allOk (ss.drop k) d2) (fun k => ss.length - k) (0) (by exact (.cons rfl (.cons rfl (.cons rfl (.cons rfl (.cons rfl .nil)))))) ⟨d, A, c, hb, hd1, Nat.zero_le _, rfl, hok0⟩ (fun k w5 hJ => ?_)
  clear hb hd1
  obtain ⟨d2, A2, c2, hb, hd1, hk, hal, hok⟩ := hJ
  refine E.W.seq ?_
  refine E.W.region ?_
  refine E.WL.val (E.y_lss rfl rfl) rfl rfl rfl ?_
  refine E.WL.done ?_
  refine E.KQ.then_n ?_
  refine E.W.seq ?_
  refine E.W.condT 13 rfl (fun h13 => ?_) (fun h13 => ?_)
  · replace h13 : k < ss.length := by have := of_decide_eq_true h13; omega
    refine E.W.skip ?_
    refine E.KQ.then_n ?_
    refine E.W.seq ?_
    refine E.W.block ?_
    refine E.W.seq ?_
    refine E.W.region ?_
    have hatk := (At.nth_ hat (k := k) (v := ss[k].val) (by rw [List.getElem?_map, List.getElem?_eq_getElem h13]; rfl)).ext hb.below
    rw [drop_cons h13] at hal hok
    obtain ⟨hpre, hok2⟩ := hok
    refine E.WL.val (E.y_idxS Tryd.underlying104 Tryd.sizeOf77 rfl rfl (by omega) (by omega)) rfl rfl rfl ?_
    refine E.WL.val (E.y_load rfl (E.At.ld0 Tryd.isAgg77 hatk rfl)) rfl rfl rfl ?_
    refine E.WL.val (E.y_assign rfl) rfl rfl rfl ?_
    refine E.WL.done ?_
    refine E.KQ.then_n ?_
    refine E.W.seq ?_
    refine E.W.region ?_
    refine E.WL.val (E.y_move rfl) rfl rfl rfl ?_
    refine E.WL.val (E.y_load rfl (E.At.ldk Tryd.isAgg27 Tryd.sizeOf27 (hb.at0 1 rfl) rfl)) rfl rfl rfl ?_
    refine E.WL.callv ((hss _ (List.getElem_mem h13)).2 hb.below hd1 hpre) rfl (hss _ (List.getElem_mem h13)).1 rfl rfl rfl rfl ?_
    rintro _ w6 ⟨⟨cs1, rfl, hd1⟩, hX⟩
    obtain ⟨v1, rfl, hf1⟩ := id hd1
    obtain ⟨A1, c1, rfl, _, _, _⟩ := hf1.open_
    clear hf1
    replace hb := hb.ext hX
    clear hX
    refine E.WL.val (E.y_move rfl) rfl rfl rfl ?_
    refine E.WL.val (E.y_extract rfl rfl) rfl rfl rfl ?_
    refine E.WL.val (E.y_extract rfl rfl) rfl rfl rfl ?_
    refine E.WL.alloc hb Tryd.zeroValue27 rfl rfl rfl ?_
    clear hb; intro B7 w8 hb hX _
    replace hd1 := RDisk.keeps hd1 (Keeps.ext hX) (S := fun U => U = 51) rfl
    clear hX
    refine E.WL.storeW hb 0 rfl rfl rfl Tryd.sizeOf27 rfl rfl rfl (E.allOne rfl) rfl ?_
    have hT := hb.hasT 0 rfl
    clear hb; intro w9 hb hO
    replace hd1 := RDisk.keeps hd1 (Keeps.only hO hT (by decide)) (S := fun U => U = 51) rfl
    clear hT
    clear hO
    refine E.WL.val (E.y_assign rfl) rfl rfl rfl ?_
    refine E.WL.done ?_
    refine E.KQ.then_n ?_
    refine E.W.seq ?_
    refine E.W.seq ?_
    refine E.W.region ?_
    refine E.WL.val (E.y_move rfl) rfl rfl rfl ?_
    refine E.WL.val (E.y_neq rfl rfl) rfl rfl rfl ?_
    refine E.WL.done ?_
    refine E.KQ.then_n ?_
    refine E.W.condT 23 rfl (fun h23 => ?_) (fun h23 => ?_)
    · replace h23 : ¬ (ss[k].run d2).2 = 0 := by simpa using h23
      have hq : allP ss d = ss[k].run d2 := by rw [← hal]; exact if_neg h23
      refine E.W.seq ?_
      refine E.W.region ?_
      refine E.WL.val (E.y_load rfl (E.At.ldk Tryd.isAgg27 Tryd.sizeOf27 (hb.at0 0 rfl) rfl)) rfl rfl rfl ?_
      refine E.WL.val (E.y_move rfl) rfl rfl rfl ?_
      refine E.WL.storeW hb 1 rfl rfl rfl Tryd.sizeOf27 rfl rfl rfl (E.allOne rfl) rfl ?_
      have hT := hb.hasT 1 rfl
      clear hb; intro w10 hb hO
      replace hd1 := RDisk.keeps hd1 (Keeps.only hO hT (by decide)) (S := fun U => U = 51) rfl
      clear hT
      clear hO
      refine E.WL.val (E.y_assign rfl) rfl rfl rfl ?_
      refine E.WL.done ?_
      refine E.KQ.then_n ?_
      refine E.W.ret ?_
      refine E.KQ.then_r ?_
      refine E.KQ.block_r ?_
      refine E.KQ.then_r ?_
      refine E.KQ.loop_r ?_
      refine E.KQ.block_r ?_
      refine E.KQ.then_r ?_
      refine E.KQ.retct Tryd.results37 rfl (E.At.ldk Tryd.isAgg27 Tryd.sizeOf27 (hb.at0 1 rfl) rfl) rfl ?_
      exact ⟨_, rfl, ⟨_, by rw [hq] <;> rfl, by rw [hq]; exact hd1⟩, hb.below⟩
    · replace h23 : (ss[k].run d2).2 = 0 := by simpa using h23
      replace hok2 := hok2 h23
      have hal2 : allP (ss.drop (k + 1)) (ss[k].run d2).1 = allP ss d := by rw [← hal]; exact (if_pos h23).symm
      refine E.W.skip ?_
      refine E.KQ.then_n ?_
      refine E.W.region ?_
      refine E.WL.val (E.y_load rfl (E.At.ldk Tryd.isAgg27 Tryd.sizeOf27 (hb.at0 0 rfl) rfl)) rfl rfl rfl ?_
      refine E.WL.storeW hb 2 rfl rfl rfl Tryd.sizeOf27 rfl rfl rfl (E.allOne rfl) rfl ?_
      have hT := hb.hasT 2 rfl
      clear hb; intro w11 hb hO
      replace hd1 := RDisk.keeps hd1 (Keeps.only hO hT (by decide)) (S := fun U => U = 51) rfl
      clear hT
      clear hO
      refine E.WL.done ?_
      refine E.KQ.block_n ?_
      refine E.KQ.then_n ?_
      refine E.W.region ?_
      refine E.WL.val (E.y_add rfl rfl (Go.IntWalk.i64_in _ (by omega))) rfl rfl rfl ?_
      refine E.WL.val (E.y_move rfl) rfl rfl rfl ?_
      refine E.WL.done ?_
      replace hb := hb.drop (List.Sublist.cons _ (List.Sublist.refl _))
      exact E.KQ.next (k + 1) (by exact .cons rfl (.cons rfl (.cons rfl (.cons rfl (.cons rfl .nil))))) ⟨_, _, _, hb, hd1, by omega, hal2, hok2⟩ (by show ss.length - (k + 1) < ss.length - k; omega)
  · replace h13 : ¬ k < ss.length := by have := of_decide_eq_false h13; omega
    have hq : allP ss d = (d2, 0) := by rw [← hal, List.drop_eq_nil_of_le (by omega)]; rfl
    refine E.W.exit ?_
    refine E.KQ.then_e ?_
    refine E.KQ.loop_e ?_
    refine E.KQ.block_e ?_
    refine E.KQ.then_n ?_
    refine E.W.seq ?_
    refine E.W.region ?_
    refine E.WL.val (E.y_load rfl (E.At.ldk Tryd.isAgg27 Tryd.sizeOf27 (hb.at0 1 rfl) rfl)) rfl rfl rfl ?_
    refine E.WL.storeW hb 0 rfl rfl rfl Tryd.sizeOf27 rfl rfl rfl (E.allOne rfl) rfl ?_
    have hT := hb.hasT 0 rfl
    clear hb; intro w12 hb hO
    replace hd1 := RDisk.keeps hd1 (Keeps.only hO hT (by decide)) (S := fun U => U = 51) rfl
    clear hT
    clear hO
    refine E.WL.val (E.y_assign rfl) rfl rfl rfl ?_
    refine E.WL.done ?_
    refine E.KQ.then_n ?_
    refine E.W.ret ?_
    refine E.KQ.retct Tryd.results37 rfl (E.At.ldk Tryd.isAgg27 Tryd.sizeOf27 (hb.at0 0 rfl) rfl) rfl ?_
    exact ⟨_, rfl, ⟨_, by rw [hq] <;> rfl, by rw [hq]; exact hd1⟩, hb.below⟩

theorem putSteps_good {w : World} {B8 B5 B4 : Nat} {tmp name data : ByteArray} (h8 : At w ⟨B8, 0, none⟩ [.string tmp]) (h5 : At w ⟨B5, 0, none⟩ [.string data]) (h4 : At w ⟨B4, 0, none⟩ [.string name]) : ∀ s ∈ putSteps B8 B5 B4 tmp name data, s.good w := by
  intro s hs
  simp only [putSteps, List.mem_cons, List.not_mem_nil, or_false] at hs
  rcases hs with rfl | rfl | rfl
  · exact ⟨Tryd.call38, fun hX h ok => putAdd_calls h (h8.ext hX) (h5.ext hX) ok⟩
  · exact ⟨Tryd.call39, fun hX h ok => putSync_calls h (h8.ext hX) ok⟩
  · exact ⟨Tryd.call41, fun hX h ok => putSwap_calls h (h8.ext hX) (h4.ext hX) ok⟩

set_option maxHeartbeats 2000000 in
theorem put_calls {w : World} {cs : List Value} {d : DiskD} (h : RDisk (Tk w) w cs d) (name data : ByteArray) (hns : name.size ≤ 100) (ok : okPut d name data) :
    Calls Tryd.prog 16 #[(.agg cs.toArray), (.string name), (.string data)] w (Ret fun u w' => (∃ cs', u = .tuple #[.agg cs'.toArray, .int .i64 (putP d name data).2] ∧ RDisk (Tk w') w' cs' (putP d name data).1) ∧ Ext w w') := by
  obtain ⟨v, rfl, hf⟩ := id h
  obtain ⟨A, c, rfl, _, _, _⟩ := hf.open_
  have hd1 := h
  have hb := E.Bx.start w (base := w.heap.size) (Nat.le_refl _)
  refine E.enter Tryd.func16 rfl Tryd.ntmps16 [(.agg #[.slice A d.files.length c, .bool d.down, .int .i64 d.fuse]), (.string name), (.string data)] rfl ?_
  refine E.W.seq ?_
  refine E.W.region ?_
  refine E.WL.box hb rfl rfl rfl rfl ?_
  clear hb; intro B3 w2 hb hX _
  replace hd1 := RDisk.keeps hd1 (Keeps.ext hX) (S := fun U => U = 51) rfl
  clear hX
  refine E.WL.box hb rfl rfl rfl rfl ?_
  clear hb; intro B4 w4 hb hX _
  replace hd1 := RDisk.keeps hd1 (Keeps.ext hX) (S := fun U => U = 51) rfl
  clear hX
  refine E.WL.box hb rfl rfl rfl rfl ?_
  clear hb; intro B5 w6 hb hX _
  replace hd1 := RDisk.keeps hd1 (Keeps.ext hX) (S := fun U => U = 51) rfl
  clear hX
  refine E.WL.alloc hb Tryd.zeroValue27 rfl rfl rfl ?_
  clear hb; intro B6 w8 hb hX _
  replace hd1 := RDisk.keeps hd1 (Keeps.ext hX) (S := fun U => U = 51) rfl
  clear hX
  refine E.WL.val (E.y_assign rfl) rfl rfl rfl ?_
  refine E.WL.done ?_
  refine E.KQ.then_n ?_
  refine E.W.seq ?_
  refine E.W.region ?_
  refine E.WL.val (E.y_load rfl (E.At.ld0 Tryd.isAgg9 (hb.at0 2 rfl) rfl)) rfl rfl rfl ?_
  refine E.WL.val (E.y_sadd rfl rfl (by have h00 : (ByteArray.mk #[46, 116, 109, 112]).size = 4 := rfl; omega)) rfl rfl rfl ?_
  refine E.WL.as 14 rfl (show _ = Value.string (name ++ dotTmp) from rfl) ?_
  refine E.WL.alloc hb Tryd.zeroValue9 rfl rfl rfl ?_
  clear hb; intro B8 w10 hb hX _
  replace hd1 := RDisk.keeps hd1 (Keeps.ext hX) (S := fun U => U = 51) rfl
  clear hX
  refine E.WL.storeW hb 0 rfl rfl rfl Tryd.sizeOf9 rfl rfl rfl (E.allOne rfl) rfl ?_
  have hT := hb.hasT 0 rfl
  clear hb; intro w11 hb hO
  replace hd1 := RDisk.keeps hd1 (Keeps.only hO hT (by decide)) (S := fun U => U = 51) rfl
  clear hT
  clear hO
  refine E.WL.done ?_
  refine E.KQ.then_n ?_
  refine E.W.seq ?_
  refine E.W.seq ?_
  refine E.W.region ?_
  refine E.WL.val (E.y_load rfl (E.At.ldk Tryd.isAgg27 Tryd.sizeOf27 (hb.at0 4 rfl) rfl)) rfl rfl rfl ?_
  refine E.WL.val (E.y_load rfl (E.At.ld0 Tryd.isAgg9 (hb.at0 0 rfl) rfl)) rfl rfl rfl ?_
  refine E.WL.call (read_calls hd1 (name ++ dotTmp)) Tryd.call10 rfl rfl rfl ?_
  rintro _ w12 ⟨rfl, hX⟩
  replace hb := hb.ext hX
  replace hd1 := RDisk.keeps hd1 (Keeps.ext hX) (S := fun U => U = 51) rfl
  clear hX
  refine E.WL.val (E.y_move rfl) rfl rfl rfl ?_
  refine E.WL.val (E.y_extract rfl rfl) rfl rfl rfl ?_
  refine E.WL.val (E.y_extract rfl rfl) rfl rfl rfl ?_
  refine E.WL.val (E.y_assign rfl) rfl rfl rfl ?_
  refine E.WL.val (E.y_assign rfl) rfl rfl rfl ?_
  refine E.WL.done ?_
  refine E.KQ.then_n ?_
  refine E.W.seq ?_
  refine E.W.region ?_
  refine E.WL.val (E.y_move rfl) rfl rfl rfl ?_
  refine E.WL.val (E.y_eql rfl rfl) rfl rfl rfl ?_
  refine E.WL.done ?_
  refine E.KQ.then_n ?_
  refine E.W.condT 22 rfl (fun h22 => ?_) (fun h22 => ?_)
  · replace h22 := of_decide_eq_true h22
    have ok1 := ok.1 h22
    refine E.W.seq ?_
    refine E.W.region ?_
    refine E.WL.val (E.y_load rfl (E.At.ldk Tryd.isAgg27 Tryd.sizeOf27 (hb.at0 4 rfl) rfl)) rfl rfl rfl ?_
    refine E.WL.val (E.y_load rfl (E.At.ld0 Tryd.isAgg9 (hb.at0 0 rfl) rfl)) rfl rfl rfl ?_
    refine E.WL.call (drop_calls hd1 (name ++ dotTmp) ok1.1) Tryd.call36 rfl rfl rfl ?_
    rintro _ w13 ⟨⟨cs1, rfl, hd1⟩, hX⟩
    obtain ⟨v1, rfl, hf1⟩ := id hd1
    obtain ⟨A1, c1, rfl, _, _, _⟩ := hf1.open_
    clear hf1
    replace hb := hb.ext hX
    clear hX
    refine E.WL.val (E.y_move rfl) rfl rfl rfl ?_
    refine E.WL.val (E.y_extract rfl rfl) rfl rfl rfl ?_
    refine E.WL.val (E.y_extract rfl rfl) rfl rfl rfl ?_
    refine E.WL.alloc hb Tryd.zeroValue27 rfl rfl rfl ?_
    clear hb; intro B11 w15 hb hX _
    replace hd1 := RDisk.keeps hd1 (Keeps.ext hX) (S := fun U => U = 51) rfl
    clear hX
    refine E.WL.storeW hb 0 rfl rfl rfl Tryd.sizeOf27 rfl rfl rfl (E.allOne rfl) rfl ?_
    have hT := hb.hasT 0 rfl
    clear hb; intro w16 hb hO
    replace hd1 := RDisk.keeps hd1 (Keeps.only hO hT (by decide)) (S := fun U => U = 51) rfl
    clear hT
    clear hO
    refine E.WL.val (E.y_assign rfl) rfl rfl rfl ?_
    refine E.WL.done ?_
    refine E.KQ.then_n ?_
    refine E.W.seq ?_
    refine E.W.seq ?_
    refine E.W.region ?_
    refine E.WL.val (E.y_move rfl) rfl rfl rfl ?_
    refine E.WL.val (E.y_neq rfl rfl) rfl rfl rfl ?_
    refine E.WL.done ?_
    refine E.KQ.then_n ?_
    refine E.W.condT 30 rfl (fun h30 => ?_) (fun h30 => ?_)
    · replace h30 : ¬ (dropP d (name ++ dotTmp)).2 = 0 := by simpa using h30
      have hq : putP d name data = dropP d (name ++ dotTmp) := by unfold putP; rw [if_pos h22, if_neg h30]
      refine E.W.seq ?_
      refine E.W.region ?_
      refine E.WL.val (E.y_load rfl (E.At.ldk Tryd.isAgg27 Tryd.sizeOf27 (hb.at0 0 rfl) rfl)) rfl rfl rfl ?_
      refine E.WL.val (E.y_move rfl) rfl rfl rfl ?_
      refine E.WL.storeW hb 2 rfl rfl rfl Tryd.sizeOf27 rfl rfl rfl (E.allOne rfl) rfl ?_
      have hT := hb.hasT 2 rfl
      clear hb; intro w17 hb hO
      replace hd1 := RDisk.keeps hd1 (Keeps.only hO hT (by decide)) (S := fun U => U = 51) rfl
      clear hT
      clear hO
      refine E.WL.val (E.y_assign rfl) rfl rfl rfl ?_
      refine E.WL.done ?_
      refine E.KQ.then_n ?_
      refine E.W.ret ?_
      refine E.KQ.then_r ?_
      refine E.KQ.then_r ?_
      refine E.KQ.retct Tryd.results16 rfl (E.At.ldk Tryd.isAgg27 Tryd.sizeOf27 (hb.at0 2 rfl) rfl) rfl ?_
      exact ⟨_, rfl, ⟨_, by rw [hq] <;> rfl, by rw [hq]; exact hd1⟩, hb.below⟩
    · replace h30 : (dropP d (name ++ dotTmp)).2 = 0 := by simpa using h30
      have hqq : putP d name data = put3 (name ++ dotTmp) name data (dropP d (name ++ dotTmp)).1 := by unfold putP; rw [if_pos h22, if_pos h30]
      have hok3 := ok1.2 h30
      refine E.W.skip ?_
      refine E.KQ.then_n ?_
      refine E.W.region ?_
      refine E.WL.val (E.y_load rfl (E.At.ldk Tryd.isAgg27 Tryd.sizeOf27 (hb.at0 0 rfl) rfl)) rfl rfl rfl ?_
      refine E.WL.storeW hb 5 rfl rfl rfl Tryd.sizeOf27 rfl rfl rfl (E.allOne rfl) rfl ?_
      have hT := hb.hasT 5 rfl
      clear hb; intro w18 hb hO
      replace hd1 := RDisk.keeps hd1 (Keeps.only hO hT (by decide)) (S := fun U => U = 51) rfl
      clear hT
      clear hO
      refine E.WL.done ?_
      refine E.KQ.then_n ?_
      refine E.W.seq ?_
      refine E.W.region ?_
      refine E.WL.val (E.y_load rfl (E.At.ldk Tryd.isAgg27 Tryd.sizeOf27 (hb.at0 5 rfl) rfl)) rfl rfl rfl ?_
      refine E.WL.val (E.y_mkfn rfl rfl) rfl rfl rfl ?_
      refine E.WL.val (E.y_mkfn rfl rfl) rfl rfl rfl ?_
      refine E.WL.val (E.y_mkfn rfl rfl) rfl rfl rfl ?_
      refine E.WL.mkslice (T := 77) (cs := (putSteps B8 B5 B4 (name ++ dotTmp) name data).map StepD.val) hb rfl (fun _ => by kernel_rfl) rfl rfl ?_
      clear hb; intro B38 w20 hb hX _
      replace hd1 := RDisk.keeps hd1 (Keeps.ext hX) (S := fun U => U = 51) rfl
      clear hX
      refine E.WL.call (all_calls hd1 (putSteps B8 B5 B4 (name ++ dotTmp) name data) (by show 3 ≤ 100; decide) hok3 (putSteps_good (hb.at0 2 rfl) (hb.at0 4 rfl) (hb.at0 5 rfl)) (hb.at0 0 rfl)) Tryd.call37 rfl rfl rfl ?_
      rintro _ w21 ⟨⟨cs2, rfl, hd1⟩, hX⟩
      obtain ⟨v2, rfl, hf2⟩ := id hd1
      obtain ⟨A2, c2, rfl, _, _, _⟩ := hf2.open_
      clear hf2
      replace hb := hb.ext hX
      clear hX
      refine E.WL.val (E.y_extract rfl rfl) rfl rfl rfl ?_
      refine E.WL.val (E.y_extract rfl rfl) rfl rfl rfl ?_
      refine E.WL.storeW hb 3 rfl rfl rfl Tryd.sizeOf27 rfl rfl rfl (E.allOne rfl) rfl ?_
      have hT := hb.hasT 3 rfl
      clear hb; intro w22 hb hO
      replace hd1 := RDisk.keeps hd1 (Keeps.only hO hT (by decide)) (S := fun U => U = 51) rfl
      clear hT
      clear hO
      refine E.WL.val (E.y_assign rfl) rfl rfl rfl ?_
      refine E.WL.done ?_
      refine E.KQ.then_n ?_
      refine E.W.ret ?_
      refine E.KQ.retct Tryd.results16 rfl (E.At.ldk Tryd.isAgg27 Tryd.sizeOf27 (hb.at0 3 rfl) rfl) rfl ?_
      exact ⟨_, rfl, ⟨_, by rw [hqq]; rfl, by rw [hqq]; exact hd1⟩, hb.below⟩
  · replace h22 := of_decide_eq_false h22
    have hqq : putP d name data = put3 (name ++ dotTmp) name data d := if_neg h22
    have hok3 := ok.2 h22
    refine E.W.skip ?_
    refine E.KQ.then_n ?_
    refine E.W.seq ?_
    refine E.W.region ?_
    refine E.WL.val (E.y_load rfl (E.At.ldk Tryd.isAgg27 Tryd.sizeOf27 (hb.at0 4 rfl) rfl)) rfl rfl rfl ?_
    refine E.WL.val (E.y_mkfn rfl rfl) rfl rfl rfl ?_
    refine E.WL.val (E.y_mkfn rfl rfl) rfl rfl rfl ?_
    refine E.WL.val (E.y_mkfn rfl rfl) rfl rfl rfl ?_
    refine E.WL.mkslice (T := 77) (cs := (putSteps B8 B5 B4 (name ++ dotTmp) name data).map StepD.val) hb rfl (fun _ => by kernel_rfl) rfl rfl ?_
    clear hb; intro B38 w24 hb hX _
    replace hd1 := RDisk.keeps hd1 (Keeps.ext hX) (S := fun U => U = 51) rfl
    clear hX
    refine E.WL.call (all_calls hd1 (putSteps B8 B5 B4 (name ++ dotTmp) name data) (by show 3 ≤ 100; decide) hok3 (putSteps_good (hb.at0 1 rfl) (hb.at0 3 rfl) (hb.at0 4 rfl)) (hb.at0 0 rfl)) Tryd.call37 rfl rfl rfl ?_
    rintro _ w25 ⟨⟨cs2, rfl, hd1⟩, hX⟩
    obtain ⟨v2, rfl, hf2⟩ := id hd1
    obtain ⟨A2, c2, rfl, _, _, _⟩ := hf2.open_
    clear hf2
    replace hb := hb.ext hX
    clear hX
    refine E.WL.val (E.y_extract rfl rfl) rfl rfl rfl ?_
    refine E.WL.val (E.y_extract rfl rfl) rfl rfl rfl ?_
    refine E.WL.storeW hb 2 rfl rfl rfl Tryd.sizeOf27 rfl rfl rfl (E.allOne rfl) rfl ?_
    have hT := hb.hasT 2 rfl
    clear hb; intro w26 hb hO
    replace hd1 := RDisk.keeps hd1 (Keeps.only hO hT (by decide)) (S := fun U => U = 51) rfl
    clear hT
    clear hO
    refine E.WL.val (E.y_assign rfl) rfl rfl rfl ?_
    refine E.WL.done ?_
    refine E.KQ.then_n ?_
    refine E.W.ret ?_
    refine E.KQ.retct Tryd.results16 rfl (E.At.ldk Tryd.isAgg27 Tryd.sizeOf27 (hb.at0 2 rfl) rfl) rfl ?_
    exact ⟨_, rfl, ⟨_, by rw [hqq]; rfl, by rw [hqq]; exact hd1⟩, hb.below⟩
end Go.Proofs.YtmnnbnajnfdncaaDoor
