/- Walks: a disk is asked. -/
import Derived.Test.YtmnnbnajnfdncaaDoorQ3
import Derived.Test.YtmnnbnajnfdncaaDoorSnapa
set_option linter.unusedVariables false
set_option linter.unusedSimpArgs false
namespace Go.Proofs.YtmnnbnajnfdncaaDoor
open Go.RowKit E
theorem readP_bad {d : DiskD} {name : ByteArray} (h : checkD d = false ∨ d.down = true) : readP d name = (noB, if checkD d = false then 10 else if d.down = true then 8 else 0) := by
  unfold readP; cases h1 : checkD d with
  | false => rfl
  | true => cases h2 : d.down with
    | true => rfl
    | false => rw [h1, h2] at h; simp at h
theorem RdS.none_ {α : Type} {R : Rd α} {F : FP} {w : World} {T k bytes m c : Nat} {xs : List α} (h : RdS F w T k bytes R (.slice none m c) xs) : xs = [] := by
  obtain ⟨A, c', e, hc, hby, hg⟩ := h
  injection e with e1 e2 e3
  subst e1
  cases xs with
  | nil => rfl
  | cons x r => obtain ⟨p, _, hp, _⟩ := hg 0 x rfl; cases hp
set_option maxHeartbeats 400000 in
theorem place_calls {F : FP} {w : World} {cs : List Value} {d : DiskD} (h : RDisk F w cs d) (name : ByteArray) :
    Calls Tryd.prog 23 #[(.agg cs.toArray), (.string name)] w (Ret fun u w' => u = .tuple #[.int .i64 (posB (namesF d.files) name : Nat), .bool (hasB (namesF d.files) name)] ∧ Ext w w') := by
  obtain ⟨v, rfl, hf⟩ := id h
  obtain ⟨A, c, rfl, hc, hby, hg⟩ := hf.open_
  have hb := E.Bx.start w (base := w.heap.size) (Nat.le_refl _)
  refine E.enter Tryd.func23 rfl Tryd.ntmps23 [(.agg #[.slice A d.files.length c, .bool d.down, .int .i64 d.fuse]), (.string name)] rfl ?_
  refine E.W.seq ?_
  refine E.W.region ?_
  refine E.WL.box hb rfl rfl rfl rfl ?_
  clear hb; intro B1 w2 hb _ _
  refine E.WL.val (E.y_assign rfl) rfl rfl rfl ?_
  refine E.WL.val (E.y_assign rfl) rfl rfl rfl ?_
  refine E.WL.done ?_
  refine E.KQ.then_n ?_
  refine E.W.seq ?_
  refine E.W.region ?_
  refine E.WL.val (E.y_fld Tryd.underlying27 rfl Tryd.sizeOf25 rfl) rfl rfl rfl ?_
  refine E.WL.val (E.y_load rfl (E.At.ld1 Tryd.isAgg25 (hb.at0 0 rfl) 0 rfl)) rfl rfl rfl ?_
  refine E.WL.val (E.y_move rfl) rfl rfl rfl ?_
  refine E.WL.call (searchFile_calls (hf.ext RFile.goes hb.below) name) Tryd.call48 rfl rfl rfl ?_
  rintro _ w3 ⟨rfl, hX⟩
  replace hb := hb.ext hX
  clear hX
  refine E.WL.val (E.y_extract rfl rfl) rfl rfl rfl ?_
  refine E.WL.val (E.y_extract rfl rfl) rfl rfl rfl ?_
  refine E.WL.val (E.y_assign rfl) rfl rfl rfl ?_
  refine E.WL.val (E.y_assign rfl) rfl rfl rfl ?_
  refine E.WL.done ?_
  refine E.KQ.then_n ?_
  refine E.W.ret ?_
  refine E.KQ.ret2 Tryd.results23 rfl rfl ?_
  exact ⟨_, rfl, rfl, hb.below⟩

set_option maxHeartbeats 2000000 in
theorem check_calls {F : FP} {w : World} {cs : List Value} {d : DiskD} (h : RDisk F w cs d) :
    Calls Tryd.prog 17 #[(.agg cs.toArray)] w (Ret fun u w' => u = .int .i64 (if checkD d = true then 0 else 10) ∧ Ext w w') := by
  obtain ⟨v, rfl, hf⟩ := id h
  obtain ⟨A, c, rfl, hc, hby, hg⟩ := hf.open_
  have hb := E.Bx.start w (base := w.heap.size) (Nat.le_refl _)
  refine E.enter Tryd.func17 rfl Tryd.ntmps17 [(.agg #[.slice A d.files.length c, .bool d.down, .int .i64 d.fuse])] rfl ?_
  refine E.W.seq ?_
  refine E.W.region ?_
  refine E.WL.box hb rfl rfl rfl rfl ?_
  clear hb; intro B1 w2 hb _ _
  refine E.WL.val (E.y_assign rfl) rfl rfl rfl ?_
  refine E.WL.done ?_
  refine E.KQ.then_n ?_
  refine E.W.seq ?_
  refine E.W.region ?_
  refine E.WL.val (E.y_assign rfl) rfl rfl rfl ?_
  refine E.WL.done ?_
  refine E.KQ.then_n ?_
  refine E.W.seq ?_
  refine E.W.seq ?_
  refine E.W.region ?_
  refine E.WL.val (E.y_fld Tryd.underlying27 rfl Tryd.sizeOf25 rfl) rfl rfl rfl ?_
  refine E.WL.val (E.y_load rfl (E.At.ld1 Tryd.isAgg25 (hb.at0 0 rfl) 0 rfl)) rfl rfl rfl ?_
  refine E.WL.val (E.y_lenS Tryd.underlying25 rfl) rfl rfl rfl ?_
  refine E.WL.val (E.y_move rfl) rfl rfl rfl ?_
  refine E.WL.done ?_
  refine E.KQ.then_n ?_
  refine E.W.block ?_
  refine E.W.loop (ι := Nat) (fun k => [(1, .pointer (some ⟨B1, 0, none⟩)), (3, .bool (checkL d.files k)), (7, .slice A d.files.length c), (8, .int .i64 d.files.length), (9, .int .i64 (k : Nat))]) (fun k w' => Bx w.heap.size w w' [(B1, [.slice A d.files.length c, .bool d.down, .int .i64 d.fuse], 27)] ∧ k ≤ d.files.length) (fun k => d.files.length - k) (0) (by exact (.cons rfl (.cons rfl (.cons rfl (.cons rfl (.cons rfl .nil)))))) ⟨hb, Nat.zero_le _⟩ (fun k w3 hJ => ?_)
  clear hb
  obtain ⟨hb, hk⟩ := hJ
  refine E.W.seq ?_
  refine E.W.region ?_
  refine E.WL.val (E.y_lss rfl rfl) rfl rfl rfl ?_
  refine E.WL.done ?_
  refine E.KQ.then_n ?_
  refine E.W.seq ?_
  refine E.W.condT 10 rfl (fun hc10 => ?_) (fun hc10 => ?_)
  · replace hc10 := of_decide_eq_true hc10
    refine E.W.skip ?_
    refine E.KQ.then_n ?_
    refine E.W.seq ?_
    refine E.W.block ?_
    refine E.W.seq ?_
    refine E.W.region ?_
    refine E.WL.val (E.y_move rfl) rfl rfl rfl ?_
    have hkl : k < d.files.length := by omega
    obtain ⟨q, cs, hA, _, hl, hat, hr⟩ := hg k hkl
    subst hA
    have hr' : cs = [.string d.files[k].name, .string d.files[k].data, .int .i64 d.files[k].synced] := hr
    subst hr'
    replace hat := hat.ext hb.below
    refine E.WL.val (E.y_idxS Tryd.underlying25 Tryd.sizeOf51 rfl rfl (by omega) (by omega)) rfl rfl rfl ?_
    refine E.WL.val (E.y_load rfl (E.At.ldk Tryd.isAgg51 Tryd.sizeOf51 hat rfl)) rfl rfl rfl ?_
    refine E.WL.alloc hb Tryd.zeroValue51 rfl rfl rfl ?_
    clear hb; intro B5 w5 hb _ _
    refine E.WL.val (E.y_assign rfl) rfl rfl rfl ?_
    refine E.WL.storeW hb 0 rfl rfl rfl Tryd.sizeOf51 rfl rfl rfl (E.allOne rfl) rfl ?_
    clear hb; intro w6 hb _
    refine E.WL.done ?_
    refine E.KQ.then_n ?_
    refine E.W.regionQ rfl (by kernel_rfl) ?_
    refine E.QL.val (fun w' hw => E.y_move rfl) rfl rfl rfl ?_
    refine E.QL.val (fun w' hw => E.y_move rfl) rfl rfl rfl ?_
    refine E.QL.split 15 rfl (fun h15 => ?_) (fun h15 => ?_)
    · skip
      have h15 : checkL d.files k = true := h15
      refine E.QL.val (fun w' hw => E.y_move rfl) rfl rfl rfl ?_
      refine E.QL.val (fun w' hw => E.y_eql rfl rfl) rfl rfl rfl ?_
      refine E.QL.val (fun w' hw => E.y_move rfl) rfl rfl rfl ?_
      refine E.QL.split 18 rfl (fun h18 => ?_) (fun h18 => ?_)
      · replace h18 : k = 0 := by have := of_decide_eq_true h18; omega
        refine E.QL.off rfl rfl rfl ?_
        refine E.QL.off rfl rfl rfl ?_
        refine E.QL.off rfl rfl rfl ?_
        refine E.QL.off rfl rfl rfl ?_
        refine E.QL.off rfl rfl rfl ?_
        refine E.QL.off rfl rfl rfl ?_
        refine E.QL.off rfl rfl rfl ?_
        refine E.QL.off rfl rfl rfl ?_
        refine E.QL.off rfl rfl rfl ?_
        refine E.QL.off rfl rfl rfl ?_
        refine E.QL.val (fun w' hw => E.y_pick_t rfl rfl) rfl rfl rfl ?_
        refine E.QL.val (fun w' hw => E.y_pick_t rfl rfl) rfl rfl rfl ?_
        refine E.QL.val (fun w' hw => E.y_move rfl) rfl rfl rfl ?_
        refine E.QL.val (fun w' hw => E.y_fld Tryd.underlying51 rfl Tryd.sizeOf3 rfl) rfl rfl rfl ?_
        refine E.QL.val (fun w' hw => E.y_load rfl (E.At.ld1 Tryd.isAgg3 ((hb.ext hw).at0 0 rfl) 2 rfl)) rfl rfl rfl ?_
        refine E.QL.val (fun w' hw => E.y_geq rfl rfl) rfl rfl rfl ?_
        refine E.QL.val (fun w' hw => E.y_pick_t rfl rfl) rfl rfl rfl ?_
        refine E.QL.val (fun w' hw => E.y_move rfl) rfl rfl rfl ?_
        refine E.QL.split 36 rfl (fun h36 => ?_) (fun h36 => ?_)
        · replace h36 := of_decide_eq_true h36
          refine E.QL.val (fun w' hw => E.y_fld Tryd.underlying51 rfl Tryd.sizeOf3 rfl) rfl rfl rfl ?_
          refine E.QL.val (fun w' hw => E.y_load rfl (E.At.ld1 Tryd.isAgg3 ((hb.ext hw).at0 0 rfl) 2 rfl)) rfl rfl rfl ?_
          refine E.QL.val (fun w' hw => E.y_fld Tryd.underlying51 rfl Tryd.sizeOf9 rfl) rfl rfl rfl ?_
          refine E.QL.val (fun w' hw => E.y_load rfl (E.At.ld1 Tryd.isAgg9 ((hb.ext hw).at0 0 rfl) 1 rfl)) rfl rfl rfl ?_
          refine E.QL.val (fun w' hw => E.y_lens Tryd.underlying9 rfl) rfl rfl rfl ?_
          refine E.QL.val (fun w' hw => E.y_leq rfl rfl) rfl rfl rfl ?_
          refine E.QL.val (fun w' hw => E.y_pick_t rfl rfl) rfl rfl rfl ?_
          refine E.QL.val (fun w' hw => E.y_assign rfl) rfl rfl rfl ?_
          refine E.QL.as 3 rfl (show _ = Value.bool (checkL d.files (k + 1)) from congrArg Value.bool (by rw [checkL_succ, h15]; first | rfl | (subst h18; rw [fileOk_zero hkl]; simp [h36]) | (rw [fileOk_pos h18 hkl hk1l, h31]; simp [h36]) | (rw [fileOk_pos h18 hkl hk1l, h31]; rfl))) ?_
          refine E.QL.end_ fun w7 hx => ?_
          replace hb := hb.ext hx
          clear hx
          refine E.KQ.block_n ?_
          refine E.KQ.then_n ?_
          refine E.W.region ?_
          refine E.WL.val (E.y_add rfl rfl (Go.IntWalk.i64_in _ (by omega))) rfl rfl rfl ?_
          refine E.WL.val (E.y_move rfl) rfl rfl rfl ?_
          refine E.WL.done ?_
          replace hb := hb.drop (List.Sublist.cons _ (List.Sublist.refl _))
          exact E.KQ.next (k + 1) (by exact .cons rfl (.cons rfl (.cons rfl (.cons rfl (.cons rfl .nil))))) ⟨hb, by omega⟩ (by show d.files.length - (k + 1) < d.files.length - k; omega)
        · replace h36 := of_decide_eq_false h36
          refine E.QL.off rfl rfl rfl ?_
          refine E.QL.off rfl rfl rfl ?_
          refine E.QL.off rfl rfl rfl ?_
          refine E.QL.off rfl rfl rfl ?_
          refine E.QL.off rfl rfl rfl ?_
          refine E.QL.off rfl rfl rfl ?_
          refine E.QL.val (fun w' hw => E.y_pick_f rfl rfl) rfl rfl rfl ?_
          refine E.QL.val (fun w' hw => E.y_assign rfl) rfl rfl rfl ?_
          refine E.QL.as 3 rfl (show _ = Value.bool (checkL d.files (k + 1)) from congrArg Value.bool (by rw [checkL_succ, h15]; first | rfl | (subst h18; rw [fileOk_zero hkl]; simp [h36]) | (rw [fileOk_pos h18 hkl hk1l, h31]; simp [h36]) | (rw [fileOk_pos h18 hkl hk1l, h31]; rfl))) ?_
          refine E.QL.end_ fun w8 hx => ?_
          replace hb := hb.ext hx
          clear hx
          refine E.KQ.block_n ?_
          refine E.KQ.then_n ?_
          refine E.W.region ?_
          refine E.WL.val (E.y_add rfl rfl (Go.IntWalk.i64_in _ (by omega))) rfl rfl rfl ?_
          refine E.WL.val (E.y_move rfl) rfl rfl rfl ?_
          refine E.WL.done ?_
          replace hb := hb.drop (List.Sublist.cons _ (List.Sublist.refl _))
          exact E.KQ.next (k + 1) (by exact .cons rfl (.cons rfl (.cons rfl (.cons rfl (.cons rfl .nil))))) ⟨hb, by omega⟩ (by show d.files.length - (k + 1) < d.files.length - k; omega)
      · replace h18 : ¬ k = 0 := by have := of_decide_eq_false h18; omega
        have hk1l : k - 1 < d.files.length := by omega
        obtain ⟨q2, cs2, hA2, _, hl2, hat2, hr2⟩ := hg (k - 1) hk1l
        injection hA2 with hA2
        subst hA2
        have hr2' : cs2 = [.string d.files[k - 1].name, .string d.files[k - 1].data, .int .i64 d.files[k - 1].synced] := hr2
        subst hr2'
        replace hat2 := hat2.ext hb.below
        refine E.QL.val (fun w' hw => E.y_fld Tryd.underlying27 rfl Tryd.sizeOf25 rfl) rfl rfl rfl ?_
        refine E.QL.val (fun w' hw => E.y_load rfl (E.At.ld1 Tryd.isAgg25 ((hb.ext hw).at0 1 rfl) 0 rfl)) rfl rfl rfl ?_
        refine E.QL.val (fun w' hw => E.y_move rfl) rfl rfl rfl ?_
        refine E.QL.val (fun w' hw => E.y_sub rfl rfl (Go.IntWalk.i64_in _ (by omega))) rfl rfl rfl ?_
        refine E.QL.as 22 rfl (show _ = Value.int .i64 ((k - 1 : Nat) : Int) from congrArg (Value.int .i64) (by omega)) ?_
        refine E.QL.val (fun w' hw => E.y_idxS Tryd.underlying25 Tryd.sizeOf51 rfl rfl (by omega) (by omega)) rfl rfl rfl ?_
        refine E.QL.val (fun w' hw => E.y_fld Tryd.underlying51 rfl Tryd.sizeOf9 rfl) rfl rfl rfl ?_
        refine E.QL.val (fun w' hw => E.y_load rfl (E.At.ld1 Tryd.isAgg9 (hat2.ext hw) 0 rfl)) rfl rfl rfl ?_
        refine E.QL.val (fun w' hw => E.y_fld Tryd.underlying51 rfl Tryd.sizeOf9 rfl) rfl rfl rfl ?_
        refine E.QL.val (fun w' hw => E.y_load rfl (E.At.ld1 Tryd.isAgg9 ((hb.ext hw).at0 0 rfl) 0 rfl)) rfl rfl rfl ?_
        refine E.QL.val (fun w' hw => E.y_slss rfl rfl) rfl rfl rfl ?_
        refine E.QL.val (fun w' hw => E.y_pick_f rfl rfl) rfl rfl rfl ?_
        refine E.QL.val (fun w' hw => E.y_pick_t rfl rfl) rfl rfl rfl ?_
        refine E.QL.val (fun w' hw => E.y_move rfl) rfl rfl rfl ?_
        refine E.QL.split 31 rfl (fun h31 => ?_) (fun h31 => ?_)
        · skip
          have h31 : ltB d.files[k - 1].name d.files[k].name = true := h31
          refine E.QL.val (fun w' hw => E.y_fld Tryd.underlying51 rfl Tryd.sizeOf3 rfl) rfl rfl rfl ?_
          refine E.QL.val (fun w' hw => E.y_load rfl (E.At.ld1 Tryd.isAgg3 ((hb.ext hw).at0 0 rfl) 2 rfl)) rfl rfl rfl ?_
          refine E.QL.val (fun w' hw => E.y_geq rfl rfl) rfl rfl rfl ?_
          refine E.QL.val (fun w' hw => E.y_pick_t rfl rfl) rfl rfl rfl ?_
          refine E.QL.val (fun w' hw => E.y_move rfl) rfl rfl rfl ?_
          refine E.QL.split 36 rfl (fun h36 => ?_) (fun h36 => ?_)
          · replace h36 := of_decide_eq_true h36
            refine E.QL.val (fun w' hw => E.y_fld Tryd.underlying51 rfl Tryd.sizeOf3 rfl) rfl rfl rfl ?_
            refine E.QL.val (fun w' hw => E.y_load rfl (E.At.ld1 Tryd.isAgg3 ((hb.ext hw).at0 0 rfl) 2 rfl)) rfl rfl rfl ?_
            refine E.QL.val (fun w' hw => E.y_fld Tryd.underlying51 rfl Tryd.sizeOf9 rfl) rfl rfl rfl ?_
            refine E.QL.val (fun w' hw => E.y_load rfl (E.At.ld1 Tryd.isAgg9 ((hb.ext hw).at0 0 rfl) 1 rfl)) rfl rfl rfl ?_
            refine E.QL.val (fun w' hw => E.y_lens Tryd.underlying9 rfl) rfl rfl rfl ?_
            refine E.QL.val (fun w' hw => E.y_leq rfl rfl) rfl rfl rfl ?_
            refine E.QL.val (fun w' hw => E.y_pick_t rfl rfl) rfl rfl rfl ?_
            refine E.QL.val (fun w' hw => E.y_assign rfl) rfl rfl rfl ?_
            refine E.QL.as 3 rfl (show _ = Value.bool (checkL d.files (k + 1)) from congrArg Value.bool (by rw [checkL_succ, h15]; first | rfl | (subst h18; rw [fileOk_zero hkl]; simp [h36]) | (rw [fileOk_pos h18 hkl hk1l, h31]; simp [h36]) | (rw [fileOk_pos h18 hkl hk1l, h31]; rfl))) ?_
            refine E.QL.end_ fun w9 hx => ?_
            replace hb := hb.ext hx
            clear hx
            refine E.KQ.block_n ?_
            refine E.KQ.then_n ?_
            refine E.W.region ?_
            refine E.WL.val (E.y_add rfl rfl (Go.IntWalk.i64_in _ (by omega))) rfl rfl rfl ?_
            refine E.WL.val (E.y_move rfl) rfl rfl rfl ?_
            refine E.WL.done ?_
            replace hb := hb.drop (List.Sublist.cons _ (List.Sublist.refl _))
            exact E.KQ.next (k + 1) (by exact .cons rfl (.cons rfl (.cons rfl (.cons rfl (.cons rfl .nil))))) ⟨hb, by omega⟩ (by show d.files.length - (k + 1) < d.files.length - k; omega)
          · replace h36 := of_decide_eq_false h36
            refine E.QL.off rfl rfl rfl ?_
            refine E.QL.off rfl rfl rfl ?_
            refine E.QL.off rfl rfl rfl ?_
            refine E.QL.off rfl rfl rfl ?_
            refine E.QL.off rfl rfl rfl ?_
            refine E.QL.off rfl rfl rfl ?_
            refine E.QL.val (fun w' hw => E.y_pick_f rfl rfl) rfl rfl rfl ?_
            refine E.QL.val (fun w' hw => E.y_assign rfl) rfl rfl rfl ?_
            refine E.QL.as 3 rfl (show _ = Value.bool (checkL d.files (k + 1)) from congrArg Value.bool (by rw [checkL_succ, h15]; first | rfl | (subst h18; rw [fileOk_zero hkl]; simp [h36]) | (rw [fileOk_pos h18 hkl hk1l, h31]; simp [h36]) | (rw [fileOk_pos h18 hkl hk1l, h31]; rfl))) ?_
            refine E.QL.end_ fun w10 hx => ?_
            replace hb := hb.ext hx
            clear hx
            refine E.KQ.block_n ?_
            refine E.KQ.then_n ?_
            refine E.W.region ?_
            refine E.WL.val (E.y_add rfl rfl (Go.IntWalk.i64_in _ (by omega))) rfl rfl rfl ?_
            refine E.WL.val (E.y_move rfl) rfl rfl rfl ?_
            refine E.WL.done ?_
            replace hb := hb.drop (List.Sublist.cons _ (List.Sublist.refl _))
            exact E.KQ.next (k + 1) (by exact .cons rfl (.cons rfl (.cons rfl (.cons rfl (.cons rfl .nil))))) ⟨hb, by omega⟩ (by show d.files.length - (k + 1) < d.files.length - k; omega)
        · skip
          have h31 : ltB d.files[k - 1].name d.files[k].name = false := h31
          refine E.QL.off rfl rfl rfl ?_
          refine E.QL.off rfl rfl rfl ?_
          refine E.QL.off rfl rfl rfl ?_
          refine E.QL.val (fun w' hw => E.y_pick_f rfl rfl) rfl rfl rfl ?_
          refine E.QL.val (fun w' hw => E.y_move rfl) rfl rfl rfl ?_
          refine E.QL.off rfl rfl rfl ?_
          refine E.QL.off rfl rfl rfl ?_
          refine E.QL.off rfl rfl rfl ?_
          refine E.QL.off rfl rfl rfl ?_
          refine E.QL.off rfl rfl rfl ?_
          refine E.QL.off rfl rfl rfl ?_
          refine E.QL.val (fun w' hw => E.y_pick_f rfl rfl) rfl rfl rfl ?_
          refine E.QL.val (fun w' hw => E.y_assign rfl) rfl rfl rfl ?_
          refine E.QL.as 3 rfl (show _ = Value.bool (checkL d.files (k + 1)) from congrArg Value.bool (by rw [checkL_succ, h15]; first | rfl | (subst h18; rw [fileOk_zero hkl]; simp [h36]) | (rw [fileOk_pos h18 hkl hk1l, h31]; simp [h36]) | (rw [fileOk_pos h18 hkl hk1l, h31]; rfl))) ?_
          refine E.QL.end_ fun w11 hx => ?_
          replace hb := hb.ext hx
          clear hx
          refine E.KQ.block_n ?_
          refine E.KQ.then_n ?_
          refine E.W.region ?_
          refine E.WL.val (E.y_add rfl rfl (Go.IntWalk.i64_in _ (by omega))) rfl rfl rfl ?_
          refine E.WL.val (E.y_move rfl) rfl rfl rfl ?_
          refine E.WL.done ?_
          replace hb := hb.drop (List.Sublist.cons _ (List.Sublist.refl _))
          exact E.KQ.next (k + 1) (by exact .cons rfl (.cons rfl (.cons rfl (.cons rfl (.cons rfl .nil))))) ⟨hb, by omega⟩ (by show d.files.length - (k + 1) < d.files.length - k; omega)
    · skip
      have h15 : checkL d.files k = false := h15
      refine E.QL.off rfl rfl rfl ?_
      refine E.QL.off rfl rfl rfl ?_
      refine E.QL.off rfl rfl rfl ?_
      refine E.QL.off rfl rfl rfl ?_
      refine E.QL.off rfl rfl rfl ?_
      refine E.QL.off rfl rfl rfl ?_
      refine E.QL.off rfl rfl rfl ?_
      refine E.QL.off rfl rfl rfl ?_
      refine E.QL.off rfl rfl rfl ?_
      refine E.QL.off rfl rfl rfl ?_
      refine E.QL.off rfl rfl rfl ?_
      refine E.QL.off rfl rfl rfl ?_
      refine E.QL.off rfl rfl rfl ?_
      refine E.QL.off rfl rfl rfl ?_
      refine E.QL.val (fun w' hw => E.y_pick_f rfl rfl) rfl rfl rfl ?_
      refine E.QL.val (fun w' hw => E.y_move rfl) rfl rfl rfl ?_
      refine E.QL.off rfl rfl rfl ?_
      refine E.QL.off rfl rfl rfl ?_
      refine E.QL.off rfl rfl rfl ?_
      refine E.QL.val (fun w' hw => E.y_pick_f rfl rfl) rfl rfl rfl ?_
      refine E.QL.val (fun w' hw => E.y_move rfl) rfl rfl rfl ?_
      refine E.QL.off rfl rfl rfl ?_
      refine E.QL.off rfl rfl rfl ?_
      refine E.QL.off rfl rfl rfl ?_
      refine E.QL.off rfl rfl rfl ?_
      refine E.QL.off rfl rfl rfl ?_
      refine E.QL.off rfl rfl rfl ?_
      refine E.QL.val (fun w' hw => E.y_pick_f rfl rfl) rfl rfl rfl ?_
      refine E.QL.val (fun w' hw => E.y_assign rfl) rfl rfl rfl ?_
      refine E.QL.as 3 rfl (show _ = Value.bool (checkL d.files (k + 1)) from congrArg Value.bool (by rw [checkL_succ, h15]; first | rfl | (subst h18; rw [fileOk_zero hkl]; simp [h36]) | (rw [fileOk_pos h18 hkl hk1l, h31]; simp [h36]) | (rw [fileOk_pos h18 hkl hk1l, h31]; rfl))) ?_
      refine E.QL.end_ fun w12 hx => ?_
      replace hb := hb.ext hx
      clear hx
      refine E.KQ.block_n ?_
      refine E.KQ.then_n ?_
      refine E.W.region ?_
      refine E.WL.val (E.y_add rfl rfl (Go.IntWalk.i64_in _ (by omega))) rfl rfl rfl ?_
      refine E.WL.val (E.y_move rfl) rfl rfl rfl ?_
      refine E.WL.done ?_
      replace hb := hb.drop (List.Sublist.cons _ (List.Sublist.refl _))
      exact E.KQ.next (k + 1) (by exact .cons rfl (.cons rfl (.cons rfl (.cons rfl (.cons rfl .nil))))) ⟨hb, by omega⟩ (by show d.files.length - (k + 1) < d.files.length - k; omega)
  · replace hc10 := of_decide_eq_false hc10
    obtain rfl : k = d.files.length := by omega
    refine E.W.exit ?_
    refine E.KQ.then_e ?_
    refine E.KQ.loop_e ?_
    refine E.KQ.block_e ?_
    refine E.KQ.then_n ?_
    refine E.W.seq ?_
    refine E.W.seq ?_
    refine E.W.region ?_
    refine E.WL.val (E.y_move rfl) rfl rfl rfl ?_
    refine E.WL.val (E.y_not rfl) rfl rfl rfl ?_
    refine E.WL.val (E.y_move rfl) rfl rfl rfl ?_
    refine E.WL.split 47 rfl (fun h47 => ?_) (fun h47 => ?_)
    · skip
      have hq : checkD d = false := by unfold checkD; rw [show checkL d.files d.files.length = false by simpa using h47]; rfl
      refine E.WL.off rfl rfl rfl ?_
      refine E.WL.off rfl rfl rfl ?_
      refine E.WL.off rfl rfl rfl ?_
      refine E.WL.off rfl rfl rfl ?_
      refine E.WL.val (E.y_pick_t rfl rfl) rfl rfl rfl ?_
      refine E.WL.done ?_
      refine E.KQ.then_n ?_
      refine E.W.cond_t rfl ?_
      refine E.W.seq ?_
      refine E.W.region ?_
      refine E.WL.val (E.y_assign rfl) rfl rfl rfl ?_
      refine E.WL.done ?_
      refine E.KQ.then_n ?_
      refine E.W.ret ?_
      refine E.KQ.then_r ?_
      refine E.KQ.ret1 Tryd.results17 rfl ?_
      exact ⟨_, rfl, by rw [hq]; rfl, hb.below⟩
    · skip
      have h47 : checkL d.files d.files.length = true := by simpa using h47
      refine E.WL.val (E.y_fld Tryd.underlying27 rfl Tryd.sizeOf25 rfl) rfl rfl rfl ?_
      refine E.WL.val (E.y_load rfl (E.At.ld1 Tryd.isAgg25 (hb.at0 0 rfl) 0 rfl)) rfl rfl rfl ?_
      refine E.WL.val (E.y_lenS Tryd.underlying25 rfl) rfl rfl rfl ?_
      refine E.WL.val (E.y_gtr rfl rfl) rfl rfl rfl ?_
      refine E.WL.val (E.y_pick_f rfl rfl) rfl rfl rfl ?_
      refine E.WL.done ?_
      refine E.KQ.then_n ?_
      refine E.W.condT 52 rfl (fun h52 => ?_) (fun h52 => ?_)
      · replace h52 := of_decide_eq_true h52
        have hq : checkD d = false := by unfold checkD; rw [h47, decide_eq_false (by omega)]; rfl
        refine E.W.seq ?_
        refine E.W.region ?_
        refine E.WL.val (E.y_assign rfl) rfl rfl rfl ?_
        refine E.WL.done ?_
        refine E.KQ.then_n ?_
        refine E.W.ret ?_
        refine E.KQ.then_r ?_
        refine E.KQ.ret1 Tryd.results17 rfl ?_
        exact ⟨_, rfl, by rw [hq]; rfl, hb.below⟩
      · replace h52 := of_decide_eq_false h52
        have hq : checkD d = true := by unfold checkD; rw [h47, decide_eq_true (by omega)]; rfl
        refine E.W.skip ?_
        refine E.KQ.then_n ?_
        refine E.W.seq ?_
        refine E.W.region ?_
        refine E.WL.val (E.y_assign rfl) rfl rfl rfl ?_
        refine E.WL.done ?_
        refine E.KQ.then_n ?_
        refine E.W.ret ?_
        refine E.KQ.ret1 Tryd.results17 rfl ?_
        exact ⟨_, rfl, by rw [hq]; rfl, hb.below⟩

set_option maxHeartbeats 400000 in
theorem asked_calls {F : FP} {w : World} {cs : List Value} {d : DiskD} (h : RDisk F w cs d) :
    Calls Tryd.prog 22 #[(.agg cs.toArray)] w (Ret fun u w' => u = .int .i64 (if checkD d = false then 10 else if d.down = true then 8 else 0) ∧ Ext w w') := by
  obtain ⟨v, rfl, hf⟩ := id h
  obtain ⟨A, c, rfl, hc, hby, hg⟩ := hf.open_
  have hb := E.Bx.start w (base := w.heap.size) (Nat.le_refl _)
  refine E.enter Tryd.func22 rfl Tryd.ntmps22 [(.agg #[.slice A d.files.length c, .bool d.down, .int .i64 d.fuse])] rfl ?_
  refine E.W.seq ?_
  refine E.W.region ?_
  refine E.WL.box hb rfl rfl rfl rfl ?_
  clear hb; intro B1 w2 hb _ _
  refine E.WL.val (E.y_assign rfl) rfl rfl rfl ?_
  refine E.WL.done ?_
  refine E.KQ.then_n ?_
  refine E.W.seq ?_
  refine E.W.seq ?_
  refine E.W.region ?_
  refine E.WL.val (E.y_load rfl (E.At.ldk Tryd.isAgg27 Tryd.sizeOf27 (hb.at0 0 rfl) rfl)) rfl rfl rfl ?_
  refine E.WL.call (check_calls (h.ext hb.below)) Tryd.call17 rfl rfl rfl ?_
  rintro _ w3 ⟨rfl, hX⟩
  replace hb := hb.ext hX
  clear hX
  refine E.WL.val (E.y_assign rfl) rfl rfl rfl ?_
  refine E.WL.done ?_
  refine E.KQ.then_n ?_
  refine E.W.seq ?_
  refine E.W.region ?_
  refine E.WL.val (E.y_move rfl) rfl rfl rfl ?_
  refine E.WL.val (E.y_neq rfl rfl) rfl rfl rfl ?_
  refine E.WL.done ?_
  refine E.KQ.then_n ?_
  refine E.W.condT 7 rfl (fun h7 => ?_) (fun h7 => ?_)
  · replace h7 : checkD d = false := by cases hc : checkD d with | true => rw [hc] at h7; simp at h7 | false => rfl
    refine E.W.seq ?_
    refine E.W.region ?_
    refine E.WL.val (E.y_move rfl) rfl rfl rfl ?_
    refine E.WL.val (E.y_assign rfl) rfl rfl rfl ?_
    refine E.WL.done ?_
    refine E.KQ.then_n ?_
    refine E.W.ret ?_
    refine E.KQ.then_r ?_
    refine E.KQ.ret1 Tryd.results22 rfl ?_
    exact ⟨_, rfl, by rw [h7]; rfl, hb.below⟩
  · replace h7 : checkD d = true := by cases hc : checkD d with | true => rfl | false => rw [hc] at h7; simp at h7
    refine E.W.skip ?_
    refine E.KQ.then_n ?_
    refine E.W.seq ?_
    refine E.W.seq ?_
    refine E.W.region ?_
    refine E.WL.val (E.y_fld Tryd.underlying27 rfl Tryd.sizeOf4 rfl) rfl rfl rfl ?_
    refine E.WL.val (E.y_load rfl (E.At.ld1 Tryd.isAgg4 (hb.at0 0 rfl) 1 rfl)) rfl rfl rfl ?_
    refine E.WL.done ?_
    refine E.KQ.then_n ?_
    refine E.W.condT 10 rfl (fun h10 => ?_) (fun h10 => ?_)
    · skip
      have h10 : d.down = true := h10
      refine E.W.seq ?_
      refine E.W.region ?_
      refine E.WL.val (E.y_assign rfl) rfl rfl rfl ?_
      refine E.WL.done ?_
      refine E.KQ.then_n ?_
      refine E.W.ret ?_
      refine E.KQ.then_r ?_
      refine E.KQ.ret1 Tryd.results22 rfl ?_
      exact ⟨_, rfl, by rw [h7, h10]; rfl, hb.below⟩
    · skip
      have h10 : d.down = false := h10
      refine E.W.skip ?_
      refine E.KQ.then_n ?_
      refine E.W.seq ?_
      refine E.W.region ?_
      refine E.WL.val (E.y_assign rfl) rfl rfl rfl ?_
      refine E.WL.done ?_
      refine E.KQ.then_n ?_
      refine E.W.ret ?_
      refine E.KQ.ret1 Tryd.results22 rfl ?_
      exact ⟨_, rfl, by rw [h7, h10]; rfl, hb.below⟩

set_option maxHeartbeats 400000 in
theorem read_calls {F : FP} {w : World} {cs : List Value} {d : DiskD} (h : RDisk F w cs d) (name : ByteArray) :
    Calls Tryd.prog 10 #[(.agg cs.toArray), (.string name)] w (Ret fun u w' => u = .tuple #[.string (readP d name).1, .int .i64 (readP d name).2] ∧ Ext w w') := by
  obtain ⟨v, rfl, hf⟩ := id h
  obtain ⟨A, c, rfl, hc, hby, hg⟩ := hf.open_
  have hb := E.Bx.start w (base := w.heap.size) (Nat.le_refl _)
  refine E.enter Tryd.func10 rfl Tryd.ntmps10 [(.agg #[.slice A d.files.length c, .bool d.down, .int .i64 d.fuse]), (.string name)] rfl ?_
  refine E.W.seq ?_
  refine E.W.region ?_
  refine E.WL.box hb rfl rfl rfl rfl ?_
  clear hb; intro B1 w2 hb _ _
  refine E.WL.val (E.y_assign rfl) rfl rfl rfl ?_
  refine E.WL.val (E.y_assign rfl) rfl rfl rfl ?_
  refine E.WL.done ?_
  refine E.KQ.then_n ?_
  refine E.W.seq ?_
  refine E.W.seq ?_
  refine E.W.region ?_
  refine E.WL.val (E.y_load rfl (E.At.ldk Tryd.isAgg27 Tryd.sizeOf27 (hb.at0 0 rfl) rfl)) rfl rfl rfl ?_
  refine E.WL.call (asked_calls (h.ext hb.below)) Tryd.call22 rfl rfl rfl ?_
  rintro _ w3 ⟨rfl, hX⟩
  replace hb := hb.ext hX
  clear hX
  refine E.WL.val (E.y_assign rfl) rfl rfl rfl ?_
  refine E.WL.done ?_
  refine E.KQ.then_n ?_
  refine E.W.seq ?_
  refine E.W.region ?_
  refine E.WL.val (E.y_move rfl) rfl rfl rfl ?_
  refine E.WL.val (E.y_neq rfl rfl) rfl rfl rfl ?_
  refine E.WL.done ?_
  refine E.KQ.then_n ?_
  refine E.W.condT 12 rfl (fun h12 => ?_) (fun h12 => ?_)
  · skip
    have hq : readP d name = (noB, if checkD d = false then 10 else if d.down = true then 8 else 0) := readP_bad (by cases h1 : checkD d <;> cases h2 : d.down <;> first | exact .inl rfl | exact .inr rfl | (rw [h1, h2] at h12; simp at h12))
    refine E.W.seq ?_
    refine E.W.region ?_
    refine E.WL.val (E.y_move rfl) rfl rfl rfl ?_
    refine E.WL.val (E.y_assign rfl) rfl rfl rfl ?_
    refine E.WL.val (E.y_assign rfl) rfl rfl rfl ?_
    refine E.WL.done ?_
    refine E.KQ.then_n ?_
    refine E.W.ret ?_
    refine E.KQ.then_r ?_
    refine E.KQ.ret2 Tryd.results10 rfl rfl ?_
    exact ⟨_, rfl, by rw [hq]; rfl, hb.below⟩
  · skip
    have h1 : checkD d = true := by cases h1 : checkD d with | true => rfl | false => rw [h1] at h12; simp at h12
    have h2 : d.down = false := by cases h2 : d.down with | false => rfl | true => rw [h1, h2] at h12; simp at h12
    refine E.W.skip ?_
    refine E.KQ.then_n ?_
    refine E.W.seq ?_
    refine E.W.region ?_
    refine E.WL.val (E.y_load rfl (E.At.ldk Tryd.isAgg27 Tryd.sizeOf27 (hb.at0 0 rfl) rfl)) rfl rfl rfl ?_
    refine E.WL.val (E.y_move rfl) rfl rfl rfl ?_
    refine E.WL.call (place_calls (h.ext hb.below) name) Tryd.call23 rfl rfl rfl ?_
    rintro _ w4 ⟨rfl, hX⟩
    replace hb := hb.ext hX
    clear hX
    refine E.WL.val (E.y_move rfl) rfl rfl rfl ?_
    refine E.WL.val (E.y_extract rfl rfl) rfl rfl rfl ?_
    refine E.WL.val (E.y_extract rfl rfl) rfl rfl rfl ?_
    refine E.WL.val (E.y_assign rfl) rfl rfl rfl ?_
    refine E.WL.val (E.y_assign rfl) rfl rfl rfl ?_
    refine E.WL.done ?_
    refine E.KQ.then_n ?_
    refine E.W.seq ?_
    refine E.W.seq ?_
    refine E.W.region ?_
    refine E.WL.val (E.y_move rfl) rfl rfl rfl ?_
    refine E.WL.val (E.y_not rfl) rfl rfl rfl ?_
    refine E.WL.done ?_
    refine E.KQ.then_n ?_
    refine E.W.condT 21 rfl (fun h21 => ?_) (fun h21 => ?_)
    · skip
      have h21 : hasB (namesF d.files) name = false := by simpa using h21
      have hq : readP d name = (noB, 6) := by unfold readP; rw [if_neg (by rw [h1]; decide), if_neg (by rw [h2]; decide), if_pos h21]
      refine E.W.seq ?_
      refine E.W.region ?_
      refine E.WL.val (E.y_assign rfl) rfl rfl rfl ?_
      refine E.WL.val (E.y_assign rfl) rfl rfl rfl ?_
      refine E.WL.done ?_
      refine E.KQ.then_n ?_
      refine E.W.ret ?_
      refine E.KQ.then_r ?_
      refine E.KQ.ret2 Tryd.results10 rfl rfl ?_
      exact ⟨_, rfl, by rw [hq]; rfl, hb.below⟩
    · skip
      have h21 : hasB (namesF d.files) name = true := by simpa using h21
      have hpl := namePos_lt h21
      have hq : readP d name = (d.files[posB (namesF d.files) name].data, 0) := by unfold readP; rw [if_neg (by rw [h1]; decide), if_neg (by rw [h2]; decide), if_neg (by rw [h21]; decide), List.getElem?_eq_getElem hpl]
      refine E.W.skip ?_
      refine E.KQ.then_n ?_
      refine E.W.seq ?_
      refine E.W.region ?_
      refine E.WL.val (E.y_fld Tryd.underlying27 rfl Tryd.sizeOf25 rfl) rfl rfl rfl ?_
      refine E.WL.val (E.y_load rfl (E.At.ld1 Tryd.isAgg25 (hb.at0 0 rfl) 0 rfl)) rfl rfl rfl ?_
      refine E.WL.val (E.y_move rfl) rfl rfl rfl ?_
      obtain ⟨q, cs, hA, _, hl, hat, hr⟩ := hg _ hpl
      subst hA
      have hr' : cs = [.string d.files[posB (namesF d.files) name].name, .string d.files[posB (namesF d.files) name].data, .int .i64 d.files[posB (namesF d.files) name].synced] := hr
      subst hr'
      replace hat := hat.ext hb.below
      refine E.WL.val (E.y_idxS Tryd.underlying25 Tryd.sizeOf51 rfl rfl (by omega) (by omega)) rfl rfl rfl ?_
      refine E.WL.val (E.y_fld Tryd.underlying51 rfl Tryd.sizeOf9 rfl) rfl rfl rfl ?_
      refine E.WL.val (E.y_load rfl (E.At.ld1 Tryd.isAgg9 hat 1 rfl)) rfl rfl rfl ?_
      refine E.WL.val (E.y_assign rfl) rfl rfl rfl ?_
      refine E.WL.val (E.y_assign rfl) rfl rfl rfl ?_
      refine E.WL.done ?_
      refine E.KQ.then_n ?_
      refine E.W.ret ?_
      refine E.KQ.ret2 Tryd.results10 rfl rfl ?_
      exact ⟨_, rfl, by rw [hq], hb.below⟩

set_option maxHeartbeats 400000 in
theorem cloneFile_calls {F : FP} {w : World} {v : Value} {xs : List FileD} (h : RdS F w 51 3 40 RFile v xs) :
    Calls Tryd.prog 18 #[v] w (Ret fun u w' => (∃ v' news, u = v' ∧ w'.ownsRow w.heap.size 51 3 v' xs.length news ∧ Rows RFile F w 3 news xs) ∧ Ext w w') := by
  obtain ⟨A, c, rfl, hc, hby, _⟩ := h.open_
  have hb := E.Bx.start w (base := w.heap.size) (Nat.le_refl _)
  refine E.enter Tryd.func18 rfl Tryd.ntmps18 [(.slice A xs.length c)] rfl ?_
  refine E.W.seq ?_
  refine E.W.region ?_
  refine E.WL.val (E.y_assign rfl) rfl rfl rfl ?_
  refine E.WL.done ?_
  refine E.KQ.then_n ?_
  refine E.W.seq ?_
  refine E.W.seq ?_
  refine E.W.region ?_
  refine E.WL.val (E.y_move rfl) rfl rfl rfl ?_
  refine E.WL.val (E.y_snil Tryd.underlying25 rfl rfl) rfl rfl rfl ?_
  refine E.WL.done ?_
  refine E.KQ.then_n ?_
  refine E.W.condT 4 rfl (fun h4 => ?_) (fun h4 => ?_)
  · skip
    obtain rfl : A = none := by cases A with | none => rfl | some p => cases h4
    refine E.W.seq ?_
    refine E.W.region ?_
    refine E.WL.val (E.y_assign rfl) rfl rfl rfl ?_
    refine E.WL.done ?_
    refine E.KQ.then_n ?_
    refine E.W.ret ?_
    refine E.KQ.then_r ?_
    refine E.KQ.ret1 Tryd.results18 rfl ?_
    have hxs := h.none_
    subst hxs
    exact ⟨_, rfl, ⟨_, [], rfl, World.ownsRow_nil _ _ _ _, Rows.nil⟩, hb.below⟩
  · skip
    obtain ⟨p, rfl⟩ : ∃ p, A = some p := by cases A with | none => cases h4 | some p => exact ⟨p, rfl⟩
    obtain ⟨news, rows, hat, _, _, _⟩ := h.rows (by decide)
    refine E.W.skip ?_
    refine E.KQ.then_n ?_
    refine E.W.seq ?_
    refine E.W.region ?_
    refine E.WL.mkslice (T := 51) (cs := []) hb rfl (fun _ => by kernel_rfl) rfl rfl ?_
    clear hb; intro B2 w2 hb _ _
    refine E.WL.val (E.y_move rfl) rfl rfl rfl ?_
    have own0 := Bx.own0 (k := 3) hb
    refine E.WL.append Tryd.underlying25 (i := Tryd.t51) (size := 3) (bytes := 40) (by kernel_rfl) rfl rfl rfl rfl (by decide) (v := .slice (some ⟨B2, 0, none⟩) 0 0) rfl rfl own0 (hat.ext hb.below) rows.len (rows.one1 (by decide) (fun cs x hx => hx.one)) (by omega) (by decide) hb.le rfl rfl (fun v' w6 own6 hg6 _ => ?_)
    have hE6 : E.Ext w w6 := grown_below hb.below hg6 hb.le (fun k hk => (own0.lt k hk).1)
    rw [Nat.zero_add, List.nil_append] at own6
    refine E.WL.val (E.y_assign rfl) rfl rfl rfl ?_
    refine E.WL.done ?_
    refine E.KQ.then_n ?_
    refine E.W.ret ?_
    refine E.KQ.ret1 Tryd.results18 rfl ?_
    exact ⟨_, rfl, ⟨_, _, rfl, own6, rows⟩, hE6⟩

set_option maxHeartbeats 400000 in
theorem namedF_calls (w : World) (s : ByteArray) :
    Calls Tryd.prog 61 #[(.string s)] w (Ret fun u w' => u = .bool (namedF s) ∧ Ext w w') := by
  have hb := E.Bx.start w (base := w.heap.size) (Nat.le_refl _)
  refine E.enter Tryd.func61 rfl Tryd.ntmps61 [(.string s)] rfl ?_
  refine E.W.seq ?_
  refine E.W.region ?_
  refine E.WL.val (E.y_assign rfl) rfl rfl rfl ?_
  refine E.WL.done ?_
  refine E.KQ.then_n ?_
  refine E.W.seq ?_
  refine E.W.region ?_
  refine E.WL.val (E.y_move rfl) rfl rfl rfl ?_
  refine E.WL.val (E.y_sneq rfl rfl) rfl rfl rfl ?_
  refine E.WL.val (E.y_move rfl) rfl rfl rfl ?_
  refine E.WL.split 5 rfl (fun h5 => ?_) (fun h5 => ?_)
  · skip
    have h5 : ¬ s = noB := by intro h; subst h; exact absurd h5 (by decide)
    refine E.WL.val (E.y_move rfl) rfl rfl rfl ?_
    refine E.WL.val (E.y_lens Tryd.underlying9 rfl) rfl rfl rfl ?_
    refine E.WL.val (E.y_leq rfl rfl) rfl rfl rfl ?_
    refine E.WL.val (E.y_pick_t rfl rfl) rfl rfl rfl ?_
    refine E.WL.val (E.y_assign rfl) rfl rfl rfl ?_
    refine E.WL.done ?_
    refine E.KQ.then_n ?_
    refine E.W.ret ?_
    refine E.KQ.ret1 Tryd.results61 rfl ?_
    exact ⟨_, rfl, by unfold namedF; rw [decide_eq_false h5]; simp; omega, hb.below⟩
  · skip
    have h5 : s = noB := by have := h5; unfold noB; simpa using this
    refine E.WL.off rfl rfl rfl ?_
    refine E.WL.off rfl rfl rfl ?_
    refine E.WL.off rfl rfl rfl ?_
    refine E.WL.val (E.y_pick_f rfl rfl) rfl rfl rfl ?_
    refine E.WL.val (E.y_assign rfl) rfl rfl rfl ?_
    refine E.WL.done ?_
    refine E.KQ.then_n ?_
    refine E.W.ret ?_
    refine E.KQ.ret1 Tryd.results61 rfl ?_
    exact ⟨_, rfl, by unfold namedF; rw [h5]; rfl, hb.below⟩

set_option maxHeartbeats 1000000 in
theorem refusedAdd_calls {F : FP} {w : World} {cs : List Value} {d : DiskD} (h : RDisk F w cs d) (name to data : ByteArray) (size : Int) (hn : namedF name = true) (hh : hasB (namesF d.files) name = false) (hlen : d.files.length < 4096) :
    Calls Tryd.prog 45 #[(.agg #[.int .u8 0, .string name, .string to, .string data, .int .i64 size]), (.agg cs.toArray)] w (Ret fun u w' => u = .int .i64 0 ∧ Ext w w') := by
  obtain ⟨v, rfl, hf⟩ := id h
  obtain ⟨A, c, rfl, hc, hby, hg⟩ := hf.open_
  have hb := E.Bx.start w (base := w.heap.size) (Nat.le_refl _)
  refine E.enter Tryd.func45 rfl Tryd.ntmps45 [(.agg #[.int .u8 0, .string name, .string to, .string data, .int .i64 size]), (.agg #[.slice A d.files.length c, .bool d.down, .int .i64 d.fuse])] rfl ?_
  refine E.W.seq ?_
  refine E.W.region ?_
  refine E.WL.box hb rfl rfl rfl rfl ?_
  clear hb; intro B1 w2 hb _ _
  refine E.WL.box hb rfl rfl rfl rfl ?_
  clear hb; intro B3 w4 hb _ _
  refine E.WL.val (E.y_assign rfl) rfl rfl rfl ?_
  refine E.WL.done ?_
  refine E.KQ.then_n ?_
  refine E.W.seq ?_
  refine E.W.region ?_
  refine E.WL.val (E.y_load rfl (E.At.ldk Tryd.isAgg27 Tryd.sizeOf27 (hb.at0 0 rfl) rfl)) rfl rfl rfl ?_
  refine E.WL.val (E.y_fld Tryd.underlying59 rfl Tryd.sizeOf9 rfl) rfl rfl rfl ?_
  refine E.WL.val (E.y_load rfl (E.At.ld1 Tryd.isAgg9 (hb.at0 1 rfl) 1 rfl)) rfl rfl rfl ?_
  refine E.WL.call (place_calls (h.ext hb.below) name) Tryd.call23 rfl rfl rfl ?_
  rintro _ w5 ⟨rfl, hX⟩
  replace hb := hb.ext hX
  clear hX
  refine E.WL.val (E.y_move rfl) rfl rfl rfl ?_
  refine E.WL.val (E.y_extract rfl rfl) rfl rfl rfl ?_
  refine E.WL.val (E.y_extract rfl rfl) rfl rfl rfl ?_
  refine E.WL.val (E.y_assign rfl) rfl rfl rfl ?_
  refine E.WL.val (E.y_assign rfl) rfl rfl rfl ?_
  refine E.WL.done ?_
  refine E.KQ.then_n ?_
  refine E.W.seq ?_
  refine E.W.block ?_
  refine E.W.seq ?_
  refine E.W.region ?_
  refine E.WL.val (E.y_fld Tryd.underlying59 rfl Tryd.sizeOf57 rfl) rfl rfl rfl ?_
  refine E.WL.val (E.y_load rfl (E.At.ld1 Tryd.isAgg57 (hb.at0 1 rfl) 0 rfl)) rfl rfl rfl ?_
  refine E.WL.val (E.y_eql rfl rfl) rfl rfl rfl ?_
  refine E.WL.as 17 rfl (show _ = Value.bool true from congrArg Value.bool (decide_eq_true (by decide))) ?_
  refine E.WL.val (E.y_move rfl) rfl rfl rfl ?_
  refine E.WL.val (E.y_fld Tryd.underlying59 rfl Tryd.sizeOf9 rfl) rfl rfl rfl ?_
  refine E.WL.val (E.y_load rfl (E.At.ld1 Tryd.isAgg9 (hb.at0 1 rfl) 1 rfl)) rfl rfl rfl ?_
  refine E.WL.call (namedF_calls w5 name) Tryd.call61 rfl rfl rfl ?_
  rintro _ w6 ⟨rfl, hX⟩
  replace hb := hb.ext hX
  clear hX
  refine E.WL.as 21 rfl (show _ = Value.bool true from by rw [hn]) ?_
  refine E.WL.val (E.y_not rfl) rfl rfl rfl ?_
  refine E.WL.val (E.y_pick_t rfl rfl) rfl rfl rfl ?_
  refine E.WL.val (E.y_assign rfl) rfl rfl rfl ?_
  refine E.WL.done ?_
  refine E.KQ.then_n ?_
  refine E.W.cond_f rfl ?_
  refine E.W.seq ?_
  refine E.W.region ?_
  refine E.WL.val (E.y_fld Tryd.underlying59 rfl Tryd.sizeOf57 rfl) rfl rfl rfl ?_
  refine E.WL.val (E.y_load rfl (E.At.ld1 Tryd.isAgg57 (hb.at0 1 rfl) 0 rfl)) rfl rfl rfl ?_
  refine E.WL.val (E.y_eql rfl rfl) rfl rfl rfl ?_
  refine E.WL.as 27 rfl (show _ = Value.bool true from congrArg Value.bool (decide_eq_true (by decide))) ?_
  refine E.WL.val (E.y_move rfl) rfl rfl rfl ?_
  refine E.WL.val (E.y_move rfl) rfl rfl rfl ?_
  refine E.WL.val (E.y_not rfl) rfl rfl rfl ?_
  refine E.WL.as 30 rfl (show _ = Value.bool true from by rw [hh]; rfl) ?_
  refine E.WL.val (E.y_pick_t rfl rfl) rfl rfl rfl ?_
  refine E.WL.val (E.y_move rfl) rfl rfl rfl ?_
  refine E.WL.val (E.y_fld Tryd.underlying27 rfl Tryd.sizeOf25 rfl) rfl rfl rfl ?_
  refine E.WL.val (E.y_load rfl (E.At.ld1 Tryd.isAgg25 (hb.at0 0 rfl) 0 rfl)) rfl rfl rfl ?_
  refine E.WL.val (E.y_lenS Tryd.underlying25 rfl) rfl rfl rfl ?_
  refine E.WL.val (E.y_geq rfl rfl) rfl rfl rfl ?_
  refine E.WL.as 36 rfl (show _ = Value.bool false from congrArg Value.bool (decide_eq_false (by omega))) ?_
  refine E.WL.val (E.y_pick_t rfl rfl) rfl rfl rfl ?_
  refine E.WL.val (E.y_assign rfl) rfl rfl rfl ?_
  refine E.WL.done ?_
  refine E.KQ.then_n ?_
  refine E.W.cond_f rfl ?_
  refine E.W.seq ?_
  refine E.W.region ?_
  refine E.WL.val (E.y_fld Tryd.underlying59 rfl Tryd.sizeOf57 rfl) rfl rfl rfl ?_
  refine E.WL.val (E.y_load rfl (E.At.ld1 Tryd.isAgg57 (hb.at0 1 rfl) 0 rfl)) rfl rfl rfl ?_
  refine E.WL.val (E.y_neq rfl rfl) rfl rfl rfl ?_
  refine E.WL.as 41 rfl (show _ = Value.bool false from congrArg Value.bool (by decide)) ?_
  refine E.WL.val (E.y_move rfl) rfl rfl rfl ?_
  refine E.WL.off rfl rfl rfl ?_
  refine E.WL.off rfl rfl rfl ?_
  refine E.WL.val (E.y_pick_f rfl rfl) rfl rfl rfl ?_
  refine E.WL.val (E.y_assign rfl) rfl rfl rfl ?_
  refine E.WL.done ?_
  refine E.KQ.then_n ?_
  refine E.W.cond_f rfl ?_
  refine E.W.seq ?_
  refine E.W.regionQ rfl (by kernel_rfl) ?_
  refine E.QL.val (fun w' hw => E.y_fld Tryd.underlying59 rfl Tryd.sizeOf57 rfl) rfl rfl rfl ?_
  refine E.QL.val (fun w' hw => E.y_load rfl (E.At.ld1 Tryd.isAgg57 ((hb.ext hw).at0 1 rfl) 0 rfl)) rfl rfl rfl ?_
  refine E.QL.val (fun w' hw => E.y_eql rfl rfl) rfl rfl rfl ?_
  refine E.QL.as 49 rfl (show _ = Value.bool false from congrArg Value.bool (decide_eq_false (by decide))) ?_
  refine E.QL.val (fun w' hw => E.y_move rfl) rfl rfl rfl ?_
  refine E.QL.off rfl rfl rfl ?_
  refine E.QL.off rfl rfl rfl ?_
  refine E.QL.off rfl rfl rfl ?_
  refine E.QL.off rfl rfl rfl ?_
  refine E.QL.off rfl rfl rfl ?_
  refine E.QL.off rfl rfl rfl ?_
  refine E.QL.off rfl rfl rfl ?_
  refine E.QL.off rfl rfl rfl ?_
  refine E.QL.off rfl rfl rfl ?_
  refine E.QL.off rfl rfl rfl ?_
  refine E.QL.off rfl rfl rfl ?_
  refine E.QL.off rfl rfl rfl ?_
  refine E.QL.off rfl rfl rfl ?_
  refine E.QL.off rfl rfl rfl ?_
  refine E.QL.off rfl rfl rfl ?_
  refine E.QL.val (fun w' hw => E.y_pick_f rfl rfl) rfl rfl rfl ?_
  refine E.QL.val (fun w' hw => E.y_assign rfl) rfl rfl rfl ?_
  refine E.QL.end_ fun w7 hx => ?_
  replace hb := hb.ext hx
  clear hx
  refine E.KQ.then_n ?_
  refine E.W.cond_f rfl ?_
  refine E.W.seq ?_
  refine E.W.regionQ rfl (by kernel_rfl) ?_
  refine E.QL.val (fun w' hw => E.y_fld Tryd.underlying59 rfl Tryd.sizeOf57 rfl) rfl rfl rfl ?_
  refine E.QL.val (fun w' hw => E.y_load rfl (E.At.ld1 Tryd.isAgg57 ((hb.ext hw).at0 1 rfl) 0 rfl)) rfl rfl rfl ?_
  refine E.QL.val (fun w' hw => E.y_eql rfl rfl) rfl rfl rfl ?_
  refine E.QL.as 70 rfl (show _ = Value.bool false from congrArg Value.bool (decide_eq_false (by decide))) ?_
  refine E.QL.val (fun w' hw => E.y_move rfl) rfl rfl rfl ?_
  refine E.QL.off rfl rfl rfl ?_
  refine E.QL.off rfl rfl rfl ?_
  refine E.QL.off rfl rfl rfl ?_
  refine E.QL.off rfl rfl rfl ?_
  refine E.QL.off rfl rfl rfl ?_
  refine E.QL.off rfl rfl rfl ?_
  refine E.QL.off rfl rfl rfl ?_
  refine E.QL.off rfl rfl rfl ?_
  refine E.QL.off rfl rfl rfl ?_
  refine E.QL.off rfl rfl rfl ?_
  refine E.QL.off rfl rfl rfl ?_
  refine E.QL.off rfl rfl rfl ?_
  refine E.QL.off rfl rfl rfl ?_
  refine E.QL.off rfl rfl rfl ?_
  refine E.QL.val (fun w' hw => E.y_pick_f rfl rfl) rfl rfl rfl ?_
  refine E.QL.val (fun w' hw => E.y_assign rfl) rfl rfl rfl ?_
  refine E.QL.end_ fun w8 hx => ?_
  replace hb := hb.ext hx
  clear hx
  refine E.KQ.then_n ?_
  refine E.W.cond_f rfl ?_
  refine E.W.seq ?_
  refine E.W.region ?_
  refine E.WL.val (E.y_fld Tryd.underlying59 rfl Tryd.sizeOf57 rfl) rfl rfl rfl ?_
  refine E.WL.val (E.y_load rfl (E.At.ld1 Tryd.isAgg57 (hb.at0 1 rfl) 0 rfl)) rfl rfl rfl ?_
  refine E.WL.val (E.y_eql rfl rfl) rfl rfl rfl ?_
  refine E.WL.as 90 rfl (show _ = Value.bool false from congrArg Value.bool (decide_eq_false (by decide))) ?_
  refine E.WL.val (E.y_move rfl) rfl rfl rfl ?_
  refine E.WL.off rfl rfl rfl ?_
  refine E.WL.off rfl rfl rfl ?_
  refine E.WL.off rfl rfl rfl ?_
  refine E.WL.off rfl rfl rfl ?_
  refine E.WL.val (E.y_pick_f rfl rfl) rfl rfl rfl ?_
  refine E.WL.val (E.y_assign rfl) rfl rfl rfl ?_
  refine E.WL.done ?_
  refine E.KQ.then_n ?_
  refine E.W.cond_f rfl ?_
  refine E.W.skip ?_
  refine E.KQ.block_n ?_
  refine E.KQ.then_n ?_
  refine E.W.seq ?_
  refine E.W.region ?_
  refine E.WL.val (E.y_assign rfl) rfl rfl rfl ?_
  refine E.WL.done ?_
  refine E.KQ.then_n ?_
  refine E.W.ret ?_
  refine E.KQ.ret1 Tryd.results45 rfl ?_
  exact ⟨_, rfl, rfl, hb.below⟩

set_option maxHeartbeats 1000000 in
theorem refusedSync_calls {F : FP} {w : World} {cs : List Value} {d : DiskD} (h : RDisk F w cs d) (name to data : ByteArray) (size : Int) (hh : hasB (namesF d.files) name = true) :
    Calls Tryd.prog 45 #[(.agg #[.int .u8 1, .string name, .string to, .string data, .int .i64 size]), (.agg cs.toArray)] w (Ret fun u w' => u = .int .i64 0 ∧ Ext w w') := by
  obtain ⟨v, rfl, hf⟩ := id h
  obtain ⟨A, c, rfl, hc, hby, hg⟩ := hf.open_
  have hb := E.Bx.start w (base := w.heap.size) (Nat.le_refl _)
  refine E.enter Tryd.func45 rfl Tryd.ntmps45 [(.agg #[.int .u8 1, .string name, .string to, .string data, .int .i64 size]), (.agg #[.slice A d.files.length c, .bool d.down, .int .i64 d.fuse])] rfl ?_
  refine E.W.seq ?_
  refine E.W.region ?_
  refine E.WL.box hb rfl rfl rfl rfl ?_
  clear hb; intro B1 w2 hb _ _
  refine E.WL.box hb rfl rfl rfl rfl ?_
  clear hb; intro B3 w4 hb _ _
  refine E.WL.val (E.y_assign rfl) rfl rfl rfl ?_
  refine E.WL.done ?_
  refine E.KQ.then_n ?_
  refine E.W.seq ?_
  refine E.W.region ?_
  refine E.WL.val (E.y_load rfl (E.At.ldk Tryd.isAgg27 Tryd.sizeOf27 (hb.at0 0 rfl) rfl)) rfl rfl rfl ?_
  refine E.WL.val (E.y_fld Tryd.underlying59 rfl Tryd.sizeOf9 rfl) rfl rfl rfl ?_
  refine E.WL.val (E.y_load rfl (E.At.ld1 Tryd.isAgg9 (hb.at0 1 rfl) 1 rfl)) rfl rfl rfl ?_
  refine E.WL.call (place_calls (h.ext hb.below) name) Tryd.call23 rfl rfl rfl ?_
  rintro _ w5 ⟨rfl, hX⟩
  replace hb := hb.ext hX
  clear hX
  refine E.WL.val (E.y_move rfl) rfl rfl rfl ?_
  refine E.WL.val (E.y_extract rfl rfl) rfl rfl rfl ?_
  refine E.WL.val (E.y_extract rfl rfl) rfl rfl rfl ?_
  refine E.WL.val (E.y_assign rfl) rfl rfl rfl ?_
  refine E.WL.val (E.y_assign rfl) rfl rfl rfl ?_
  refine E.WL.done ?_
  refine E.KQ.then_n ?_
  refine E.W.seq ?_
  refine E.W.block ?_
  refine E.W.seq ?_
  refine E.W.region ?_
  refine E.WL.val (E.y_fld Tryd.underlying59 rfl Tryd.sizeOf57 rfl) rfl rfl rfl ?_
  refine E.WL.val (E.y_load rfl (E.At.ld1 Tryd.isAgg57 (hb.at0 1 rfl) 0 rfl)) rfl rfl rfl ?_
  refine E.WL.val (E.y_eql rfl rfl) rfl rfl rfl ?_
  refine E.WL.as 17 rfl (show _ = Value.bool false from congrArg Value.bool (decide_eq_false (by decide))) ?_
  refine E.WL.val (E.y_move rfl) rfl rfl rfl ?_
  refine E.WL.off rfl rfl rfl ?_
  refine E.WL.off rfl rfl rfl ?_
  refine E.WL.off rfl rfl rfl ?_
  refine E.WL.off rfl rfl rfl ?_
  refine E.WL.val (E.y_pick_f rfl rfl) rfl rfl rfl ?_
  refine E.WL.val (E.y_assign rfl) rfl rfl rfl ?_
  refine E.WL.done ?_
  refine E.KQ.then_n ?_
  refine E.W.cond_f rfl ?_
  refine E.W.seq ?_
  refine E.W.region ?_
  refine E.WL.val (E.y_fld Tryd.underlying59 rfl Tryd.sizeOf57 rfl) rfl rfl rfl ?_
  refine E.WL.val (E.y_load rfl (E.At.ld1 Tryd.isAgg57 (hb.at0 1 rfl) 0 rfl)) rfl rfl rfl ?_
  refine E.WL.val (E.y_eql rfl rfl) rfl rfl rfl ?_
  refine E.WL.as 27 rfl (show _ = Value.bool false from congrArg Value.bool (decide_eq_false (by decide))) ?_
  refine E.WL.val (E.y_move rfl) rfl rfl rfl ?_
  refine E.WL.off rfl rfl rfl ?_
  refine E.WL.off rfl rfl rfl ?_
  refine E.WL.val (E.y_pick_f rfl rfl) rfl rfl rfl ?_
  refine E.WL.val (E.y_move rfl) rfl rfl rfl ?_
  refine E.WL.off rfl rfl rfl ?_
  refine E.WL.off rfl rfl rfl ?_
  refine E.WL.off rfl rfl rfl ?_
  refine E.WL.off rfl rfl rfl ?_
  refine E.WL.val (E.y_pick_f rfl rfl) rfl rfl rfl ?_
  refine E.WL.val (E.y_assign rfl) rfl rfl rfl ?_
  refine E.WL.done ?_
  refine E.KQ.then_n ?_
  refine E.W.cond_f rfl ?_
  refine E.W.seq ?_
  refine E.W.region ?_
  refine E.WL.val (E.y_fld Tryd.underlying59 rfl Tryd.sizeOf57 rfl) rfl rfl rfl ?_
  refine E.WL.val (E.y_load rfl (E.At.ld1 Tryd.isAgg57 (hb.at0 1 rfl) 0 rfl)) rfl rfl rfl ?_
  refine E.WL.val (E.y_neq rfl rfl) rfl rfl rfl ?_
  refine E.WL.as 41 rfl (show _ = Value.bool true from congrArg Value.bool (by decide)) ?_
  refine E.WL.val (E.y_move rfl) rfl rfl rfl ?_
  refine E.WL.val (E.y_move rfl) rfl rfl rfl ?_
  refine E.WL.val (E.y_not rfl) rfl rfl rfl ?_
  refine E.WL.as 44 rfl (show _ = Value.bool false from by rw [hh]; rfl) ?_
  refine E.WL.val (E.y_pick_t rfl rfl) rfl rfl rfl ?_
  refine E.WL.val (E.y_assign rfl) rfl rfl rfl ?_
  refine E.WL.done ?_
  refine E.KQ.then_n ?_
  refine E.W.cond_f rfl ?_
  refine E.W.seq ?_
  refine E.W.regionQ rfl (by kernel_rfl) ?_
  refine E.QL.val (fun w' hw => E.y_fld Tryd.underlying59 rfl Tryd.sizeOf57 rfl) rfl rfl rfl ?_
  refine E.QL.val (fun w' hw => E.y_load rfl (E.At.ld1 Tryd.isAgg57 ((hb.ext hw).at0 1 rfl) 0 rfl)) rfl rfl rfl ?_
  refine E.QL.val (fun w' hw => E.y_eql rfl rfl) rfl rfl rfl ?_
  refine E.QL.as 49 rfl (show _ = Value.bool false from congrArg Value.bool (decide_eq_false (by decide))) ?_
  refine E.QL.val (fun w' hw => E.y_move rfl) rfl rfl rfl ?_
  refine E.QL.off rfl rfl rfl ?_
  refine E.QL.off rfl rfl rfl ?_
  refine E.QL.off rfl rfl rfl ?_
  refine E.QL.off rfl rfl rfl ?_
  refine E.QL.off rfl rfl rfl ?_
  refine E.QL.off rfl rfl rfl ?_
  refine E.QL.off rfl rfl rfl ?_
  refine E.QL.off rfl rfl rfl ?_
  refine E.QL.off rfl rfl rfl ?_
  refine E.QL.off rfl rfl rfl ?_
  refine E.QL.off rfl rfl rfl ?_
  refine E.QL.off rfl rfl rfl ?_
  refine E.QL.off rfl rfl rfl ?_
  refine E.QL.off rfl rfl rfl ?_
  refine E.QL.off rfl rfl rfl ?_
  refine E.QL.val (fun w' hw => E.y_pick_f rfl rfl) rfl rfl rfl ?_
  refine E.QL.val (fun w' hw => E.y_assign rfl) rfl rfl rfl ?_
  refine E.QL.end_ fun w6 hx => ?_
  replace hb := hb.ext hx
  clear hx
  refine E.KQ.then_n ?_
  refine E.W.cond_f rfl ?_
  refine E.W.seq ?_
  refine E.W.regionQ rfl (by kernel_rfl) ?_
  refine E.QL.val (fun w' hw => E.y_fld Tryd.underlying59 rfl Tryd.sizeOf57 rfl) rfl rfl rfl ?_
  refine E.QL.val (fun w' hw => E.y_load rfl (E.At.ld1 Tryd.isAgg57 ((hb.ext hw).at0 1 rfl) 0 rfl)) rfl rfl rfl ?_
  refine E.QL.val (fun w' hw => E.y_eql rfl rfl) rfl rfl rfl ?_
  refine E.QL.as 70 rfl (show _ = Value.bool false from congrArg Value.bool (decide_eq_false (by decide))) ?_
  refine E.QL.val (fun w' hw => E.y_move rfl) rfl rfl rfl ?_
  refine E.QL.off rfl rfl rfl ?_
  refine E.QL.off rfl rfl rfl ?_
  refine E.QL.off rfl rfl rfl ?_
  refine E.QL.off rfl rfl rfl ?_
  refine E.QL.off rfl rfl rfl ?_
  refine E.QL.off rfl rfl rfl ?_
  refine E.QL.off rfl rfl rfl ?_
  refine E.QL.off rfl rfl rfl ?_
  refine E.QL.off rfl rfl rfl ?_
  refine E.QL.off rfl rfl rfl ?_
  refine E.QL.off rfl rfl rfl ?_
  refine E.QL.off rfl rfl rfl ?_
  refine E.QL.off rfl rfl rfl ?_
  refine E.QL.off rfl rfl rfl ?_
  refine E.QL.val (fun w' hw => E.y_pick_f rfl rfl) rfl rfl rfl ?_
  refine E.QL.val (fun w' hw => E.y_assign rfl) rfl rfl rfl ?_
  refine E.QL.end_ fun w7 hx => ?_
  replace hb := hb.ext hx
  clear hx
  refine E.KQ.then_n ?_
  refine E.W.cond_f rfl ?_
  refine E.W.seq ?_
  refine E.W.region ?_
  refine E.WL.val (E.y_fld Tryd.underlying59 rfl Tryd.sizeOf57 rfl) rfl rfl rfl ?_
  refine E.WL.val (E.y_load rfl (E.At.ld1 Tryd.isAgg57 (hb.at0 1 rfl) 0 rfl)) rfl rfl rfl ?_
  refine E.WL.val (E.y_eql rfl rfl) rfl rfl rfl ?_
  refine E.WL.as 90 rfl (show _ = Value.bool false from congrArg Value.bool (decide_eq_false (by decide))) ?_
  refine E.WL.val (E.y_move rfl) rfl rfl rfl ?_
  refine E.WL.off rfl rfl rfl ?_
  refine E.WL.off rfl rfl rfl ?_
  refine E.WL.off rfl rfl rfl ?_
  refine E.WL.off rfl rfl rfl ?_
  refine E.WL.val (E.y_pick_f rfl rfl) rfl rfl rfl ?_
  refine E.WL.val (E.y_assign rfl) rfl rfl rfl ?_
  refine E.WL.done ?_
  refine E.KQ.then_n ?_
  refine E.W.cond_f rfl ?_
  refine E.W.skip ?_
  refine E.KQ.block_n ?_
  refine E.KQ.then_n ?_
  refine E.W.seq ?_
  refine E.W.region ?_
  refine E.WL.val (E.y_assign rfl) rfl rfl rfl ?_
  refine E.WL.done ?_
  refine E.KQ.then_n ?_
  refine E.W.ret ?_
  refine E.KQ.ret1 Tryd.results45 rfl ?_
  exact ⟨_, rfl, rfl, hb.below⟩

set_option maxHeartbeats 1000000 in
theorem refusedDrop_calls {F : FP} {w : World} {cs : List Value} {d : DiskD} (h : RDisk F w cs d) (name to data : ByteArray) (size : Int) (hh : hasB (namesF d.files) name = true) :
    Calls Tryd.prog 45 #[(.agg #[.int .u8 4, .string name, .string to, .string data, .int .i64 size]), (.agg cs.toArray)] w (Ret fun u w' => u = .int .i64 0 ∧ Ext w w') := by
  obtain ⟨v, rfl, hf⟩ := id h
  obtain ⟨A, c, rfl, hc, hby, hg⟩ := hf.open_
  have hb := E.Bx.start w (base := w.heap.size) (Nat.le_refl _)
  refine E.enter Tryd.func45 rfl Tryd.ntmps45 [(.agg #[.int .u8 4, .string name, .string to, .string data, .int .i64 size]), (.agg #[.slice A d.files.length c, .bool d.down, .int .i64 d.fuse])] rfl ?_
  refine E.W.seq ?_
  refine E.W.region ?_
  refine E.WL.box hb rfl rfl rfl rfl ?_
  clear hb; intro B1 w2 hb _ _
  refine E.WL.box hb rfl rfl rfl rfl ?_
  clear hb; intro B3 w4 hb _ _
  refine E.WL.val (E.y_assign rfl) rfl rfl rfl ?_
  refine E.WL.done ?_
  refine E.KQ.then_n ?_
  refine E.W.seq ?_
  refine E.W.region ?_
  refine E.WL.val (E.y_load rfl (E.At.ldk Tryd.isAgg27 Tryd.sizeOf27 (hb.at0 0 rfl) rfl)) rfl rfl rfl ?_
  refine E.WL.val (E.y_fld Tryd.underlying59 rfl Tryd.sizeOf9 rfl) rfl rfl rfl ?_
  refine E.WL.val (E.y_load rfl (E.At.ld1 Tryd.isAgg9 (hb.at0 1 rfl) 1 rfl)) rfl rfl rfl ?_
  refine E.WL.call (place_calls (h.ext hb.below) name) Tryd.call23 rfl rfl rfl ?_
  rintro _ w5 ⟨rfl, hX⟩
  replace hb := hb.ext hX
  clear hX
  refine E.WL.val (E.y_move rfl) rfl rfl rfl ?_
  refine E.WL.val (E.y_extract rfl rfl) rfl rfl rfl ?_
  refine E.WL.val (E.y_extract rfl rfl) rfl rfl rfl ?_
  refine E.WL.val (E.y_assign rfl) rfl rfl rfl ?_
  refine E.WL.val (E.y_assign rfl) rfl rfl rfl ?_
  refine E.WL.done ?_
  refine E.KQ.then_n ?_
  refine E.W.seq ?_
  refine E.W.block ?_
  refine E.W.seq ?_
  refine E.W.region ?_
  refine E.WL.val (E.y_fld Tryd.underlying59 rfl Tryd.sizeOf57 rfl) rfl rfl rfl ?_
  refine E.WL.val (E.y_load rfl (E.At.ld1 Tryd.isAgg57 (hb.at0 1 rfl) 0 rfl)) rfl rfl rfl ?_
  refine E.WL.val (E.y_eql rfl rfl) rfl rfl rfl ?_
  refine E.WL.as 17 rfl (show _ = Value.bool false from congrArg Value.bool (decide_eq_false (by decide))) ?_
  refine E.WL.val (E.y_move rfl) rfl rfl rfl ?_
  refine E.WL.off rfl rfl rfl ?_
  refine E.WL.off rfl rfl rfl ?_
  refine E.WL.off rfl rfl rfl ?_
  refine E.WL.off rfl rfl rfl ?_
  refine E.WL.val (E.y_pick_f rfl rfl) rfl rfl rfl ?_
  refine E.WL.val (E.y_assign rfl) rfl rfl rfl ?_
  refine E.WL.done ?_
  refine E.KQ.then_n ?_
  refine E.W.cond_f rfl ?_
  refine E.W.seq ?_
  refine E.W.region ?_
  refine E.WL.val (E.y_fld Tryd.underlying59 rfl Tryd.sizeOf57 rfl) rfl rfl rfl ?_
  refine E.WL.val (E.y_load rfl (E.At.ld1 Tryd.isAgg57 (hb.at0 1 rfl) 0 rfl)) rfl rfl rfl ?_
  refine E.WL.val (E.y_eql rfl rfl) rfl rfl rfl ?_
  refine E.WL.as 27 rfl (show _ = Value.bool false from congrArg Value.bool (decide_eq_false (by decide))) ?_
  refine E.WL.val (E.y_move rfl) rfl rfl rfl ?_
  refine E.WL.off rfl rfl rfl ?_
  refine E.WL.off rfl rfl rfl ?_
  refine E.WL.val (E.y_pick_f rfl rfl) rfl rfl rfl ?_
  refine E.WL.val (E.y_move rfl) rfl rfl rfl ?_
  refine E.WL.off rfl rfl rfl ?_
  refine E.WL.off rfl rfl rfl ?_
  refine E.WL.off rfl rfl rfl ?_
  refine E.WL.off rfl rfl rfl ?_
  refine E.WL.val (E.y_pick_f rfl rfl) rfl rfl rfl ?_
  refine E.WL.val (E.y_assign rfl) rfl rfl rfl ?_
  refine E.WL.done ?_
  refine E.KQ.then_n ?_
  refine E.W.cond_f rfl ?_
  refine E.W.seq ?_
  refine E.W.region ?_
  refine E.WL.val (E.y_fld Tryd.underlying59 rfl Tryd.sizeOf57 rfl) rfl rfl rfl ?_
  refine E.WL.val (E.y_load rfl (E.At.ld1 Tryd.isAgg57 (hb.at0 1 rfl) 0 rfl)) rfl rfl rfl ?_
  refine E.WL.val (E.y_neq rfl rfl) rfl rfl rfl ?_
  refine E.WL.as 41 rfl (show _ = Value.bool true from congrArg Value.bool (by decide)) ?_
  refine E.WL.val (E.y_move rfl) rfl rfl rfl ?_
  refine E.WL.val (E.y_move rfl) rfl rfl rfl ?_
  refine E.WL.val (E.y_not rfl) rfl rfl rfl ?_
  refine E.WL.as 44 rfl (show _ = Value.bool false from by rw [hh]; rfl) ?_
  refine E.WL.val (E.y_pick_t rfl rfl) rfl rfl rfl ?_
  refine E.WL.val (E.y_assign rfl) rfl rfl rfl ?_
  refine E.WL.done ?_
  refine E.KQ.then_n ?_
  refine E.W.cond_f rfl ?_
  refine E.W.seq ?_
  refine E.W.regionQ rfl (by kernel_rfl) ?_
  refine E.QL.val (fun w' hw => E.y_fld Tryd.underlying59 rfl Tryd.sizeOf57 rfl) rfl rfl rfl ?_
  refine E.QL.val (fun w' hw => E.y_load rfl (E.At.ld1 Tryd.isAgg57 ((hb.ext hw).at0 1 rfl) 0 rfl)) rfl rfl rfl ?_
  refine E.QL.val (fun w' hw => E.y_eql rfl rfl) rfl rfl rfl ?_
  refine E.QL.as 49 rfl (show _ = Value.bool false from congrArg Value.bool (decide_eq_false (by decide))) ?_
  refine E.QL.val (fun w' hw => E.y_move rfl) rfl rfl rfl ?_
  refine E.QL.off rfl rfl rfl ?_
  refine E.QL.off rfl rfl rfl ?_
  refine E.QL.off rfl rfl rfl ?_
  refine E.QL.off rfl rfl rfl ?_
  refine E.QL.off rfl rfl rfl ?_
  refine E.QL.off rfl rfl rfl ?_
  refine E.QL.off rfl rfl rfl ?_
  refine E.QL.off rfl rfl rfl ?_
  refine E.QL.off rfl rfl rfl ?_
  refine E.QL.off rfl rfl rfl ?_
  refine E.QL.off rfl rfl rfl ?_
  refine E.QL.off rfl rfl rfl ?_
  refine E.QL.off rfl rfl rfl ?_
  refine E.QL.off rfl rfl rfl ?_
  refine E.QL.off rfl rfl rfl ?_
  refine E.QL.val (fun w' hw => E.y_pick_f rfl rfl) rfl rfl rfl ?_
  refine E.QL.val (fun w' hw => E.y_assign rfl) rfl rfl rfl ?_
  refine E.QL.end_ fun w6 hx => ?_
  replace hb := hb.ext hx
  clear hx
  refine E.KQ.then_n ?_
  refine E.W.cond_f rfl ?_
  refine E.W.seq ?_
  refine E.W.regionQ rfl (by kernel_rfl) ?_
  refine E.QL.val (fun w' hw => E.y_fld Tryd.underlying59 rfl Tryd.sizeOf57 rfl) rfl rfl rfl ?_
  refine E.QL.val (fun w' hw => E.y_load rfl (E.At.ld1 Tryd.isAgg57 ((hb.ext hw).at0 1 rfl) 0 rfl)) rfl rfl rfl ?_
  refine E.QL.val (fun w' hw => E.y_eql rfl rfl) rfl rfl rfl ?_
  refine E.QL.as 70 rfl (show _ = Value.bool false from congrArg Value.bool (decide_eq_false (by decide))) ?_
  refine E.QL.val (fun w' hw => E.y_move rfl) rfl rfl rfl ?_
  refine E.QL.off rfl rfl rfl ?_
  refine E.QL.off rfl rfl rfl ?_
  refine E.QL.off rfl rfl rfl ?_
  refine E.QL.off rfl rfl rfl ?_
  refine E.QL.off rfl rfl rfl ?_
  refine E.QL.off rfl rfl rfl ?_
  refine E.QL.off rfl rfl rfl ?_
  refine E.QL.off rfl rfl rfl ?_
  refine E.QL.off rfl rfl rfl ?_
  refine E.QL.off rfl rfl rfl ?_
  refine E.QL.off rfl rfl rfl ?_
  refine E.QL.off rfl rfl rfl ?_
  refine E.QL.off rfl rfl rfl ?_
  refine E.QL.off rfl rfl rfl ?_
  refine E.QL.val (fun w' hw => E.y_pick_f rfl rfl) rfl rfl rfl ?_
  refine E.QL.val (fun w' hw => E.y_assign rfl) rfl rfl rfl ?_
  refine E.QL.end_ fun w7 hx => ?_
  replace hb := hb.ext hx
  clear hx
  refine E.KQ.then_n ?_
  refine E.W.cond_f rfl ?_
  refine E.W.seq ?_
  refine E.W.region ?_
  refine E.WL.val (E.y_fld Tryd.underlying59 rfl Tryd.sizeOf57 rfl) rfl rfl rfl ?_
  refine E.WL.val (E.y_load rfl (E.At.ld1 Tryd.isAgg57 (hb.at0 1 rfl) 0 rfl)) rfl rfl rfl ?_
  refine E.WL.val (E.y_eql rfl rfl) rfl rfl rfl ?_
  refine E.WL.as 90 rfl (show _ = Value.bool false from congrArg Value.bool (decide_eq_false (by decide))) ?_
  refine E.WL.val (E.y_move rfl) rfl rfl rfl ?_
  refine E.WL.off rfl rfl rfl ?_
  refine E.WL.off rfl rfl rfl ?_
  refine E.WL.off rfl rfl rfl ?_
  refine E.WL.off rfl rfl rfl ?_
  refine E.WL.val (E.y_pick_f rfl rfl) rfl rfl rfl ?_
  refine E.WL.val (E.y_assign rfl) rfl rfl rfl ?_
  refine E.WL.done ?_
  refine E.KQ.then_n ?_
  refine E.W.cond_f rfl ?_
  refine E.W.skip ?_
  refine E.KQ.block_n ?_
  refine E.KQ.then_n ?_
  refine E.W.seq ?_
  refine E.W.region ?_
  refine E.WL.val (E.y_assign rfl) rfl rfl rfl ?_
  refine E.WL.done ?_
  refine E.KQ.then_n ?_
  refine E.W.ret ?_
  refine E.KQ.ret1 Tryd.results45 rfl ?_
  exact ⟨_, rfl, rfl, hb.below⟩

set_option maxHeartbeats 1000000 in
theorem refusedSwap_calls {F : FP} {w : World} {cs : List Value} {d : DiskD} (h : RDisk F w cs d) (name to data : ByteArray) (size : Int) (hh : hasB (namesF d.files) name = true) (hn : namedF to = true) (hs : ∀ hi : posB (namesF d.files) name < d.files.length, (d.files[posB (namesF d.files) name].data.size : Int) ≤ d.files[posB (namesF d.files) name].synced) :
    Calls Tryd.prog 45 #[(.agg #[.int .u8 3, .string name, .string to, .string data, .int .i64 size]), (.agg cs.toArray)] w (Ret fun u w' => u = .int .i64 0 ∧ Ext w w') := by
  obtain ⟨v, rfl, hf⟩ := id h
  obtain ⟨A, c, rfl, hc, hby, hg⟩ := hf.open_
  have hb := E.Bx.start w (base := w.heap.size) (Nat.le_refl _)
  refine E.enter Tryd.func45 rfl Tryd.ntmps45 [(.agg #[.int .u8 3, .string name, .string to, .string data, .int .i64 size]), (.agg #[.slice A d.files.length c, .bool d.down, .int .i64 d.fuse])] rfl ?_
  refine E.W.seq ?_
  refine E.W.region ?_
  refine E.WL.box hb rfl rfl rfl rfl ?_
  clear hb; intro B1 w2 hb _ _
  refine E.WL.box hb rfl rfl rfl rfl ?_
  clear hb; intro B3 w4 hb _ _
  refine E.WL.val (E.y_assign rfl) rfl rfl rfl ?_
  refine E.WL.done ?_
  refine E.KQ.then_n ?_
  refine E.W.seq ?_
  refine E.W.region ?_
  refine E.WL.val (E.y_load rfl (E.At.ldk Tryd.isAgg27 Tryd.sizeOf27 (hb.at0 0 rfl) rfl)) rfl rfl rfl ?_
  refine E.WL.val (E.y_fld Tryd.underlying59 rfl Tryd.sizeOf9 rfl) rfl rfl rfl ?_
  refine E.WL.val (E.y_load rfl (E.At.ld1 Tryd.isAgg9 (hb.at0 1 rfl) 1 rfl)) rfl rfl rfl ?_
  refine E.WL.call (place_calls (h.ext hb.below) name) Tryd.call23 rfl rfl rfl ?_
  rintro _ w5 ⟨rfl, hX⟩
  replace hb := hb.ext hX
  clear hX
  refine E.WL.val (E.y_move rfl) rfl rfl rfl ?_
  refine E.WL.val (E.y_extract rfl rfl) rfl rfl rfl ?_
  refine E.WL.val (E.y_extract rfl rfl) rfl rfl rfl ?_
  refine E.WL.val (E.y_assign rfl) rfl rfl rfl ?_
  refine E.WL.val (E.y_assign rfl) rfl rfl rfl ?_
  refine E.WL.done ?_
  refine E.KQ.then_n ?_
  refine E.W.seq ?_
  refine E.W.block ?_
  refine E.W.seq ?_
  refine E.W.region ?_
  refine E.WL.val (E.y_fld Tryd.underlying59 rfl Tryd.sizeOf57 rfl) rfl rfl rfl ?_
  refine E.WL.val (E.y_load rfl (E.At.ld1 Tryd.isAgg57 (hb.at0 1 rfl) 0 rfl)) rfl rfl rfl ?_
  refine E.WL.val (E.y_eql rfl rfl) rfl rfl rfl ?_
  refine E.WL.as 17 rfl (show _ = Value.bool false from congrArg Value.bool (decide_eq_false (by decide))) ?_
  refine E.WL.val (E.y_move rfl) rfl rfl rfl ?_
  refine E.WL.off rfl rfl rfl ?_
  refine E.WL.off rfl rfl rfl ?_
  refine E.WL.off rfl rfl rfl ?_
  refine E.WL.off rfl rfl rfl ?_
  refine E.WL.val (E.y_pick_f rfl rfl) rfl rfl rfl ?_
  refine E.WL.val (E.y_assign rfl) rfl rfl rfl ?_
  refine E.WL.done ?_
  refine E.KQ.then_n ?_
  refine E.W.cond_f rfl ?_
  refine E.W.seq ?_
  refine E.W.region ?_
  refine E.WL.val (E.y_fld Tryd.underlying59 rfl Tryd.sizeOf57 rfl) rfl rfl rfl ?_
  refine E.WL.val (E.y_load rfl (E.At.ld1 Tryd.isAgg57 (hb.at0 1 rfl) 0 rfl)) rfl rfl rfl ?_
  refine E.WL.val (E.y_eql rfl rfl) rfl rfl rfl ?_
  refine E.WL.as 27 rfl (show _ = Value.bool false from congrArg Value.bool (decide_eq_false (by decide))) ?_
  refine E.WL.val (E.y_move rfl) rfl rfl rfl ?_
  refine E.WL.off rfl rfl rfl ?_
  refine E.WL.off rfl rfl rfl ?_
  refine E.WL.val (E.y_pick_f rfl rfl) rfl rfl rfl ?_
  refine E.WL.val (E.y_move rfl) rfl rfl rfl ?_
  refine E.WL.off rfl rfl rfl ?_
  refine E.WL.off rfl rfl rfl ?_
  refine E.WL.off rfl rfl rfl ?_
  refine E.WL.off rfl rfl rfl ?_
  refine E.WL.val (E.y_pick_f rfl rfl) rfl rfl rfl ?_
  refine E.WL.val (E.y_assign rfl) rfl rfl rfl ?_
  refine E.WL.done ?_
  refine E.KQ.then_n ?_
  refine E.W.cond_f rfl ?_
  refine E.W.seq ?_
  refine E.W.region ?_
  refine E.WL.val (E.y_fld Tryd.underlying59 rfl Tryd.sizeOf57 rfl) rfl rfl rfl ?_
  refine E.WL.val (E.y_load rfl (E.At.ld1 Tryd.isAgg57 (hb.at0 1 rfl) 0 rfl)) rfl rfl rfl ?_
  refine E.WL.val (E.y_neq rfl rfl) rfl rfl rfl ?_
  refine E.WL.as 41 rfl (show _ = Value.bool true from congrArg Value.bool (by decide)) ?_
  refine E.WL.val (E.y_move rfl) rfl rfl rfl ?_
  refine E.WL.val (E.y_move rfl) rfl rfl rfl ?_
  refine E.WL.val (E.y_not rfl) rfl rfl rfl ?_
  refine E.WL.as 44 rfl (show _ = Value.bool false from by rw [hh]; rfl) ?_
  refine E.WL.val (E.y_pick_t rfl rfl) rfl rfl rfl ?_
  refine E.WL.val (E.y_assign rfl) rfl rfl rfl ?_
  refine E.WL.done ?_
  refine E.KQ.then_n ?_
  refine E.W.cond_f rfl ?_
  refine E.W.seq ?_
  refine E.W.regionQ rfl (by kernel_rfl) ?_
  refine E.QL.val (fun w' hw => E.y_fld Tryd.underlying59 rfl Tryd.sizeOf57 rfl) rfl rfl rfl ?_
  refine E.QL.val (fun w' hw => E.y_load rfl (E.At.ld1 Tryd.isAgg57 ((hb.ext hw).at0 1 rfl) 0 rfl)) rfl rfl rfl ?_
  refine E.QL.val (fun w' hw => E.y_eql rfl rfl) rfl rfl rfl ?_
  refine E.QL.as 49 rfl (show _ = Value.bool false from congrArg Value.bool (decide_eq_false (by decide))) ?_
  refine E.QL.val (fun w' hw => E.y_move rfl) rfl rfl rfl ?_
  refine E.QL.off rfl rfl rfl ?_
  refine E.QL.off rfl rfl rfl ?_
  refine E.QL.off rfl rfl rfl ?_
  refine E.QL.off rfl rfl rfl ?_
  refine E.QL.off rfl rfl rfl ?_
  refine E.QL.off rfl rfl rfl ?_
  refine E.QL.off rfl rfl rfl ?_
  refine E.QL.off rfl rfl rfl ?_
  refine E.QL.off rfl rfl rfl ?_
  refine E.QL.off rfl rfl rfl ?_
  refine E.QL.off rfl rfl rfl ?_
  refine E.QL.off rfl rfl rfl ?_
  refine E.QL.off rfl rfl rfl ?_
  refine E.QL.off rfl rfl rfl ?_
  refine E.QL.off rfl rfl rfl ?_
  refine E.QL.val (fun w' hw => E.y_pick_f rfl rfl) rfl rfl rfl ?_
  refine E.QL.val (fun w' hw => E.y_assign rfl) rfl rfl rfl ?_
  refine E.QL.end_ fun w6 hx => ?_
  replace hb := hb.ext hx
  clear hx
  refine E.KQ.then_n ?_
  refine E.W.cond_f rfl ?_
  refine E.W.seq ?_
  refine E.W.regionQ rfl (by kernel_rfl) ?_
  refine E.QL.val (fun w' hw => E.y_fld Tryd.underlying59 rfl Tryd.sizeOf57 rfl) rfl rfl rfl ?_
  refine E.QL.val (fun w' hw => E.y_load rfl (E.At.ld1 Tryd.isAgg57 ((hb.ext hw).at0 1 rfl) 0 rfl)) rfl rfl rfl ?_
  refine E.QL.val (fun w' hw => E.y_eql rfl rfl) rfl rfl rfl ?_
  refine E.QL.as 70 rfl (show _ = Value.bool true from congrArg Value.bool (decide_eq_true (by decide))) ?_
  refine E.QL.val (fun w' hw => E.y_move rfl) rfl rfl rfl ?_
  refine E.QL.val (fun w' hw => E.y_fld Tryd.underlying27 rfl Tryd.sizeOf25 rfl) rfl rfl rfl ?_
  refine E.QL.val (fun w' hw => E.y_load rfl (E.At.ld1 Tryd.isAgg25 ((hb.ext hw).at0 0 rfl) 0 rfl)) rfl rfl rfl ?_
  refine E.QL.val (fun w' hw => E.y_move rfl) rfl rfl rfl ?_
  have hpl := namePos_lt hh
  obtain ⟨q, cs, hA, _, hl, hat, hr⟩ := hg _ hpl
  subst hA
  have hr' : cs = [.string d.files[posB (namesF d.files) name].name, .string d.files[posB (namesF d.files) name].data, .int .i64 d.files[posB (namesF d.files) name].synced] := hr
  subst hr'
  replace hat := hat.ext hb.below
  refine E.QL.val (fun w' hw => E.y_idxS Tryd.underlying25 Tryd.sizeOf51 rfl rfl (by omega) (by omega)) rfl rfl rfl ?_
  refine E.QL.val (fun w' hw => E.y_fld Tryd.underlying51 rfl Tryd.sizeOf3 rfl) rfl rfl rfl ?_
  refine E.QL.val (fun w' hw => E.y_load rfl (E.At.ld1 Tryd.isAgg3 (hat.ext hw) 2 rfl)) rfl rfl rfl ?_
  refine E.QL.val (fun w' hw => E.y_fld Tryd.underlying27 rfl Tryd.sizeOf25 rfl) rfl rfl rfl ?_
  refine E.QL.val (fun w' hw => E.y_load rfl (E.At.ld1 Tryd.isAgg25 ((hb.ext hw).at0 0 rfl) 0 rfl)) rfl rfl rfl ?_
  refine E.QL.val (fun w' hw => E.y_move rfl) rfl rfl rfl ?_
  refine E.QL.val (fun w' hw => E.y_idxS Tryd.underlying25 Tryd.sizeOf51 rfl rfl (by omega) (by omega)) rfl rfl rfl ?_
  refine E.QL.val (fun w' hw => E.y_fld Tryd.underlying51 rfl Tryd.sizeOf9 rfl) rfl rfl rfl ?_
  refine E.QL.val (fun w' hw => E.y_load rfl (E.At.ld1 Tryd.isAgg9 (hat.ext hw) 1 rfl)) rfl rfl rfl ?_
  refine E.QL.val (fun w' hw => E.y_lens Tryd.underlying9 rfl) rfl rfl rfl ?_
  refine E.QL.val (fun w' hw => E.y_lss rfl rfl) rfl rfl rfl ?_
  refine E.QL.as 85 rfl (show _ = Value.bool false from congrArg Value.bool (decide_eq_false (by have := hs hpl; omega))) ?_
  refine E.QL.val (fun w' hw => E.y_pick_t rfl rfl) rfl rfl rfl ?_
  refine E.QL.val (fun w' hw => E.y_assign rfl) rfl rfl rfl ?_
  refine E.QL.end_ fun w7 hx => ?_
  replace hb := hb.ext hx
  clear hx
  refine E.KQ.then_n ?_
  refine E.W.cond_f rfl ?_
  refine E.W.seq ?_
  refine E.W.region ?_
  refine E.WL.val (E.y_fld Tryd.underlying59 rfl Tryd.sizeOf57 rfl) rfl rfl rfl ?_
  refine E.WL.val (E.y_load rfl (E.At.ld1 Tryd.isAgg57 (hb.at0 1 rfl) 0 rfl)) rfl rfl rfl ?_
  refine E.WL.val (E.y_eql rfl rfl) rfl rfl rfl ?_
  refine E.WL.as 90 rfl (show _ = Value.bool true from congrArg Value.bool (decide_eq_true (by decide))) ?_
  refine E.WL.val (E.y_move rfl) rfl rfl rfl ?_
  refine E.WL.val (E.y_fld Tryd.underlying59 rfl Tryd.sizeOf9 rfl) rfl rfl rfl ?_
  refine E.WL.val (E.y_load rfl (E.At.ld1 Tryd.isAgg9 (hb.at0 1 rfl) 2 rfl)) rfl rfl rfl ?_
  refine E.WL.call (namedF_calls w7 to) Tryd.call61 rfl rfl rfl ?_
  rintro _ w8 ⟨rfl, hX⟩
  replace hb := hb.ext hX
  clear hX
  refine E.WL.as 94 rfl (show _ = Value.bool true from by rw [hn]) ?_
  refine E.WL.val (E.y_not rfl) rfl rfl rfl ?_
  refine E.WL.val (E.y_pick_t rfl rfl) rfl rfl rfl ?_
  refine E.WL.val (E.y_assign rfl) rfl rfl rfl ?_
  refine E.WL.done ?_
  refine E.KQ.then_n ?_
  refine E.W.cond_f rfl ?_
  refine E.W.skip ?_
  refine E.KQ.block_n ?_
  refine E.KQ.then_n ?_
  refine E.W.seq ?_
  refine E.W.region ?_
  refine E.WL.val (E.y_assign rfl) rfl rfl rfl ?_
  refine E.WL.done ?_
  refine E.KQ.then_n ?_
  refine E.W.ret ?_
  refine E.KQ.ret1 Tryd.results45 rfl ?_
  exact ⟨_, rfl, rfl, hb.below⟩
end Go.Proofs.YtmnnbnajnfdncaaDoor
