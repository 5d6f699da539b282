/- Walks: rig, first part. -/
import Derived.Test.YtmnnbnajnfdncaaGreatDoorP1
import Derived.Test.YtmnnbnajnfdncaaGreatDoorE5
set_option linter.unusedVariables false
set_option linter.unusedSimpArgs false
namespace Go.Proofs.YtmnnbnajnfdncaaGreatDoor
open Go.RowKit E
set_option maxHeartbeats 400000 in
theorem shuns_calls (w : World) (a b : TaskD) (va vb vc vd : Value) :
    Calls Tryz.prog 117 #[(.agg #[.string a.name, .int .i64 a.n0, .int .i64 a.n1, .int .i64 a.n2, va, vb, .string a.group, .string a.apart, .int .i64 a.rank]), (.agg #[.string b.name, .int .i64 b.n0, .int .i64 b.n1, .int .i64 b.n2, vc, vd, .string b.group, .string b.apart, .int .i64 b.rank])] w (Ret fun v w' => v = .bool (shuns a b) ∧ Ext w w') := by
  have hb := E.Bx.start w (base := w.heap.size) (Nat.le_refl _)
  refine E.enter Tryz.func117 rfl Tryz.ntmps117 [(.agg #[.string a.name, .int .i64 a.n0, .int .i64 a.n1, .int .i64 a.n2, va, vb, .string a.group, .string a.apart, .int .i64 a.rank]), (.agg #[.string b.name, .int .i64 b.n0, .int .i64 b.n1, .int .i64 b.n2, vc, vd, .string b.group, .string b.apart, .int .i64 b.rank])] rfl ?_
  refine E.W.seq ?_
  refine E.W.region ?_
  refine E.WL.box hb rfl rfl rfl rfl ?_
  clear hb; intro B1 w2 hb _ _
  refine E.WL.box hb rfl rfl rfl rfl ?_
  clear hb; intro B3 w4 hb _ _
  refine E.WL.val (E.y_assign rfl) rfl rfl rfl ?_
  refine E.WL.done ?_
  refine E.KQ.then_n ?_
  refine E.W.seq ?_
  refine E.W.region ?_
  refine E.WL.val (E.y_fld Tryz.underlying34 rfl Tryz.sizeOf9 rfl) rfl rfl rfl ?_
  refine E.WL.val (E.y_load rfl (E.At.ld1 Tryz.isAgg9 (hb.at0 1 rfl) 7 rfl)) rfl rfl rfl ?_
  refine E.WL.val (E.y_sneq rfl rfl) rfl rfl rfl ?_
  refine E.WL.val (E.y_move rfl) rfl rfl rfl ?_
  refine E.WL.split 8 rfl (fun h8 => ?_) (fun h8 => ?_)
  · skip
    have h8 : ¬ a.apart = ByteArray.mk #[] := by simpa using h8
    refine E.WL.val (E.y_fld Tryz.underlying34 rfl Tryz.sizeOf9 rfl) rfl rfl rfl ?_
    refine E.WL.val (E.y_load rfl (E.At.ld1 Tryz.isAgg9 (hb.at0 1 rfl) 7 rfl)) rfl rfl rfl ?_
    refine E.WL.val (E.y_fld Tryz.underlying34 rfl Tryz.sizeOf9 rfl) rfl rfl rfl ?_
    refine E.WL.val (E.y_load rfl (E.At.ld1 Tryz.isAgg9 (hb.at0 0 rfl) 6 rfl)) rfl rfl rfl ?_
    refine E.WL.val (E.y_seql rfl rfl) rfl rfl rfl ?_
    refine E.WL.val (E.y_pick_t rfl rfl) rfl rfl rfl ?_
    refine E.WL.val (E.y_assign rfl) rfl rfl rfl ?_
    refine E.WL.done ?_
    refine E.KQ.then_n ?_
    refine E.W.ret ?_
    refine E.KQ.ret1 Tryz.results117 rfl ?_
    exact ⟨_, rfl, by simp [shuns, h8], hb.below⟩
  · skip
    have h8 : a.apart = ByteArray.mk #[] := by simpa using h8
    refine E.WL.off rfl rfl rfl ?_
    refine E.WL.off rfl rfl rfl ?_
    refine E.WL.off rfl rfl rfl ?_
    refine E.WL.off rfl rfl rfl ?_
    refine E.WL.off rfl rfl rfl ?_
    refine E.WL.val (E.y_pick_f rfl rfl) rfl rfl rfl ?_
    refine E.WL.val (E.y_assign rfl) rfl rfl rfl ?_
    refine E.WL.done ?_
    refine E.KQ.then_n ?_
    refine E.W.ret ?_
    refine E.KQ.ret1 Tryz.results117 rfl ?_
    exact ⟨_, rfl, by simp [shuns, h8], hb.below⟩

set_option maxHeartbeats 400000 in
theorem bear_calls (w : World) (a b : TaskD) (va vb vc vd : Value) :
    Calls Tryz.prog 88 #[(.agg #[.string a.name, .int .i64 a.n0, .int .i64 a.n1, .int .i64 a.n2, va, vb, .string a.group, .string a.apart, .int .i64 a.rank]), (.agg #[.string b.name, .int .i64 b.n0, .int .i64 b.n1, .int .i64 b.n2, vc, vd, .string b.group, .string b.apart, .int .i64 b.rank])] w (Ret fun v w' => v = .bool (bear a b) ∧ Ext w w') := by
  have hb := E.Bx.start w (base := w.heap.size) (Nat.le_refl _)
  refine E.enter Tryz.func88 rfl Tryz.ntmps88 [(.agg #[.string a.name, .int .i64 a.n0, .int .i64 a.n1, .int .i64 a.n2, va, vb, .string a.group, .string a.apart, .int .i64 a.rank]), (.agg #[.string b.name, .int .i64 b.n0, .int .i64 b.n1, .int .i64 b.n2, vc, vd, .string b.group, .string b.apart, .int .i64 b.rank])] rfl ?_
  refine E.W.seq ?_
  refine E.W.region ?_
  refine E.WL.box hb rfl rfl rfl rfl ?_
  clear hb; intro B1 w2 hb _ _
  refine E.WL.box hb rfl rfl rfl rfl ?_
  clear hb; intro B3 w4 hb _ _
  refine E.WL.val (E.y_assign rfl) rfl rfl rfl ?_
  refine E.WL.done ?_
  refine E.KQ.then_n ?_
  refine E.W.seq ?_
  refine E.W.region ?_
  refine E.WL.val (E.y_load rfl (E.At.ldk Tryz.isAgg34 Tryz.sizeOf34 (hb.at0 1 rfl) rfl)) rfl rfl rfl ?_
  refine E.WL.val (E.y_load rfl (E.At.ldk Tryz.isAgg34 Tryz.sizeOf34 (hb.at0 0 rfl) rfl)) rfl rfl rfl ?_
  refine E.WL.call (shuns_calls w4 a b va vb vc vd) Tryz.call117 rfl rfl rfl ?_
  rintro _ w5 ⟨rfl, hX⟩
  replace hb := hb.ext hX
  clear hX
  refine E.WL.val (E.y_not rfl) rfl rfl rfl ?_
  refine E.WL.val (E.y_move rfl) rfl rfl rfl ?_
  refine E.WL.split 9 rfl (fun h9 => ?_) (fun h9 => ?_)
  · skip
    have h9 : shuns a b = false := by simpa using h9
    refine E.WL.val (E.y_load rfl (E.At.ldk Tryz.isAgg34 Tryz.sizeOf34 (hb.at0 0 rfl) rfl)) rfl rfl rfl ?_
    refine E.WL.val (E.y_load rfl (E.At.ldk Tryz.isAgg34 Tryz.sizeOf34 (hb.at0 1 rfl) rfl)) rfl rfl rfl ?_
    refine E.WL.call (shuns_calls w5 b a vc vd va vb) Tryz.call117 rfl rfl rfl ?_
    rintro _ w6 ⟨rfl, hX⟩
    replace hb := hb.ext hX
    clear hX
    refine E.WL.val (E.y_not rfl) rfl rfl rfl ?_
    refine E.WL.val (E.y_pick_t rfl rfl) rfl rfl rfl ?_
    refine E.WL.val (E.y_assign rfl) rfl rfl rfl ?_
    refine E.WL.done ?_
    refine E.KQ.then_n ?_
    refine E.W.ret ?_
    refine E.KQ.ret1 Tryz.results88 rfl ?_
    exact ⟨_, rfl, by simp [bear, h9], hb.below⟩
  · skip
    have h9 : shuns a b = true := by simpa using h9
    refine E.WL.off rfl rfl rfl ?_
    refine E.WL.off rfl rfl rfl ?_
    refine E.WL.off rfl rfl rfl ?_
    refine E.WL.off rfl rfl rfl ?_
    refine E.WL.val (E.y_pick_f rfl rfl) rfl rfl rfl ?_
    refine E.WL.val (E.y_assign rfl) rfl rfl rfl ?_
    refine E.WL.done ?_
    refine E.KQ.then_n ?_
    refine E.W.ret ?_
    refine E.KQ.ret1 Tryz.results88 rfl ?_
    exact ⟨_, rfl, by simp [bear, h9], hb.below⟩

set_option maxHeartbeats 400000 in
theorem isNaN_calls (w : World) (a : ByteArray) :
    Calls Tryz.prog 110 #[(.string a)] w (Ret fun v w' => v = .bool false ∧ Ext w w') := by
  have hb := E.Bx.start w (base := w.heap.size) (Nat.le_refl _)
  refine E.enter Tryz.func110 rfl Tryz.ntmps110 [(.string a)] rfl ?_
  refine E.W.seq ?_
  refine E.W.region ?_
  refine E.WL.val (E.y_assign rfl) rfl rfl rfl ?_
  refine E.WL.done ?_
  refine E.KQ.then_n ?_
  refine E.W.seq ?_
  refine E.W.region ?_
  refine E.WL.val (E.y_move rfl) rfl rfl rfl ?_
  refine E.WL.val (E.y_move rfl) rfl rfl rfl ?_
  refine E.WL.val (E.y_sneq rfl rfl) rfl rfl rfl ?_
  refine E.WL.val (E.y_assign rfl) rfl rfl rfl ?_
  refine E.WL.done ?_
  refine E.KQ.then_n ?_
  refine E.W.ret ?_
  refine E.KQ.ret1 Tryz.results110 rfl ?_
  exact ⟨_, rfl, by simp, hb.below⟩

set_option maxHeartbeats 400000 in
theorem cmpB_calls (w : World) (a b : ByteArray) :
    Calls Tryz.prog 74 #[(.string a), (.string b)] w (Ret fun v w' => v = .int .i64 (cmpB a b) ∧ Ext w w') := by
  have hb := E.Bx.start w (base := w.heap.size) (Nat.le_refl _)
  refine E.enter Tryz.func74 rfl Tryz.ntmps74 [(.string a), (.string b)] rfl ?_
  refine E.W.seq ?_
  refine E.W.region ?_
  refine E.WL.val (E.y_assign rfl) rfl rfl rfl ?_
  refine E.WL.done ?_
  refine E.KQ.then_n ?_
  refine E.W.seq ?_
  refine E.W.region ?_
  refine E.WL.val (E.y_move rfl) rfl rfl rfl ?_
  refine E.WL.call (isNaN_calls w a) Tryz.call110 rfl rfl rfl ?_
  rintro _ w1 ⟨rfl, hX⟩
  replace hb := hb.ext hX
  clear hX
  refine E.WL.val (E.y_assign rfl) rfl rfl rfl ?_
  refine E.WL.done ?_
  refine E.KQ.then_n ?_
  refine E.W.seq ?_
  refine E.W.region ?_
  refine E.WL.val (E.y_move rfl) rfl rfl rfl ?_
  refine E.WL.call (isNaN_calls w1 b) Tryz.call110 rfl rfl rfl ?_
  rintro _ w2 ⟨rfl, hX⟩
  replace hb := hb.ext hX
  clear hX
  refine E.WL.val (E.y_assign rfl) rfl rfl rfl ?_
  refine E.WL.done ?_
  refine E.KQ.then_n ?_
  refine E.W.seq ?_
  refine E.W.seq ?_
  refine E.W.region ?_
  refine E.WL.val (E.y_move rfl) rfl rfl rfl ?_
  refine E.WL.done ?_
  refine E.KQ.then_n ?_
  refine E.W.cond_f rfl ?_
  refine E.W.skip ?_
  refine E.KQ.then_n ?_
  refine E.W.seq ?_
  refine E.W.seq ?_
  refine E.W.region ?_
  refine E.WL.val (E.y_move rfl) rfl rfl rfl ?_
  refine E.WL.done ?_
  refine E.KQ.then_n ?_
  refine E.W.cond_f rfl ?_
  refine E.W.skip ?_
  refine E.KQ.then_n ?_
  refine E.W.seq ?_
  refine E.W.seq ?_
  refine E.W.region ?_
  refine E.WL.val (E.y_move rfl) rfl rfl rfl ?_
  refine E.WL.val (E.y_move rfl) rfl rfl rfl ?_
  refine E.WL.val (E.y_slss rfl rfl) rfl rfl rfl ?_
  refine E.WL.done ?_
  refine E.KQ.then_n ?_
  refine E.W.condT 16 rfl (fun hc16 => ?_) (fun hc16 => ?_)
  · skip
    have e1 : ltB a b = true := hc16
    refine E.W.seq ?_
    refine E.W.region ?_
    refine E.WL.val (E.y_assign rfl) rfl rfl rfl ?_
    refine E.WL.done ?_
    refine E.KQ.then_n ?_
    refine E.W.ret ?_
    refine E.KQ.then_r ?_
    refine E.KQ.ret1 Tryz.results74 rfl ?_
    exact ⟨_, rfl, by simp [cmpB, e1], hb.below⟩
  · skip
    have e1 : ltB a b = false := hc16
    refine E.W.skip ?_
    refine E.KQ.then_n ?_
    refine E.W.seq ?_
    refine E.W.seq ?_
    refine E.W.region ?_
    refine E.WL.val (E.y_move rfl) rfl rfl rfl ?_
    refine E.WL.val (E.y_move rfl) rfl rfl rfl ?_
    refine E.WL.val (E.y_sgtr rfl rfl) rfl rfl rfl ?_
    refine E.WL.done ?_
    refine E.KQ.then_n ?_
    refine E.W.condT 19 rfl (fun hc19 => ?_) (fun hc19 => ?_)
    · skip
      have e2 : ¬ a = b := by unfold ltB at e1; simpa [e1] using hc19
      refine E.W.seq ?_
      refine E.W.region ?_
      refine E.WL.val (E.y_assign rfl) rfl rfl rfl ?_
      refine E.WL.done ?_
      refine E.KQ.then_n ?_
      refine E.W.ret ?_
      refine E.KQ.then_r ?_
      refine E.KQ.ret1 Tryz.results74 rfl ?_
      exact ⟨_, rfl, by simp [cmpB, e1, e2], hb.below⟩
    · skip
      have e2 : a = b := by unfold ltB at e1; simpa [e1] using hc19
      refine E.W.skip ?_
      refine E.KQ.then_n ?_
      refine E.W.seq ?_
      refine E.W.region ?_
      refine E.WL.val (E.y_assign rfl) rfl rfl rfl ?_
      refine E.WL.done ?_
      refine E.KQ.then_n ?_
      refine E.W.ret ?_
      refine E.KQ.ret1 Tryz.results74 rfl ?_
      exact ⟨_, rfl, by unfold cmpB; rw [if_neg (by rw [e1]; decide), if_pos e2], hb.below⟩

set_option maxHeartbeats 400000 in
theorem or_calls {F : FP} {w : World} {v : Value} {xs : List Int} (h : RdS F w 2 1 8 (RInt .i64) v xs) :
    Calls Tryz.prog 72 #[v] w (Ret fun u w' => u = .int .i64 (orI xs) ∧ Ext w w') := by
  obtain ⟨A, c, rfl, hc, hby, hg⟩ := h.open_
  have hb := E.Bx.start w (base := w.heap.size) (Nat.le_refl _)
  refine E.enter Tryz.func72 rfl Tryz.ntmps72 [(.slice A xs.length c)] rfl ?_
  refine E.W.seq ?_
  refine E.W.region ?_
  refine E.WL.val (E.y_assign rfl) rfl rfl rfl ?_
  refine E.WL.done ?_
  refine E.KQ.then_n ?_
  refine E.W.seq ?_
  refine E.W.region ?_
  refine E.WL.val (E.y_assign rfl) rfl rfl rfl ?_
  refine E.WL.done ?_
  refine E.KQ.then_n ?_
  refine E.W.seq ?_
  refine E.W.seq ?_
  refine E.W.region ?_
  refine E.WL.val (E.y_move rfl) rfl rfl rfl ?_
  refine E.WL.val (E.y_lenS Tryz.underlying147 rfl) rfl rfl rfl ?_
  refine E.WL.val (E.y_move rfl) rfl rfl rfl ?_
  refine E.WL.done ?_
  refine E.KQ.then_n ?_
  refine E.W.block ?_
  refine E.W.loop (ι := Nat) (fun k => [(0, .slice A xs.length c), (3, .int .i64 0), (6, .slice A xs.length c), (7, .int .i64 xs.length), (8, .int .i64 (k : Nat))]) (fun k w' => Bx w.heap.size w w' [] ∧ k ≤ xs.length ∧ orI xs = orI (xs.drop k)) (fun k => xs.length - k) (0) (by exact (.cons rfl (.cons rfl (.cons rfl (.cons rfl (.cons rfl .nil)))))) ⟨hb, Nat.zero_le _, by simp⟩ (fun k w1 hJ => ?_)
  clear hb
  obtain ⟨hb, hk, ho⟩ := hJ
  refine E.W.seq ?_
  refine E.W.region ?_
  refine E.WL.val (E.y_lss rfl rfl) rfl rfl rfl ?_
  refine E.WL.done ?_
  refine E.KQ.then_n ?_
  refine E.W.seq ?_
  refine E.W.condT 9 rfl (fun hc9 => ?_) (fun hc9 => ?_)
  · replace hc9 := of_decide_eq_true hc9
    refine E.W.skip ?_
    refine E.KQ.then_n ?_
    refine E.W.seq ?_
    refine E.W.block ?_
    refine E.W.seq ?_
    refine E.W.region ?_
    obtain ⟨p, cs, hA, _, hl, hat, hr⟩ := hg k (by omega)
    subst hA
    unfold RInt at hr
    subst hr
    replace hat := hat.ext hb.below
    refine E.WL.val (E.y_idxS Tryz.underlying147 Tryz.sizeOf3 rfl rfl (by omega) (by omega)) rfl rfl rfl ?_
    refine E.WL.val (E.y_load rfl (E.At.ld0 Tryz.isAgg3 hat rfl)) rfl rfl rfl ?_
    refine E.WL.val (E.y_assign rfl) rfl rfl rfl ?_
    refine E.WL.done ?_
    refine E.KQ.then_n ?_
    refine E.W.seq ?_
    refine E.W.region ?_
    refine E.WL.val (E.y_move rfl) rfl rfl rfl ?_
    refine E.WL.val (E.y_move rfl) rfl rfl rfl ?_
    refine E.WL.val (E.y_neq rfl rfl) rfl rfl rfl ?_
    refine E.WL.done ?_
    refine E.KQ.then_n ?_
    refine E.W.condT 14 rfl (fun hc14 => ?_) (fun hc14 => ?_)
    · skip
      have hx : ¬ xs[k] = 0 := by simpa using hc14
      refine E.W.seq ?_
      refine E.W.region ?_
      refine E.WL.val (E.y_move rfl) rfl rfl rfl ?_
      refine E.WL.val (E.y_assign rfl) rfl rfl rfl ?_
      refine E.WL.done ?_
      refine E.KQ.then_n ?_
      refine E.W.ret ?_
      refine E.KQ.block_r ?_
      refine E.KQ.then_r ?_
      refine E.KQ.loop_r ?_
      refine E.KQ.block_r ?_
      refine E.KQ.then_r ?_
      refine E.KQ.ret1 Tryz.results72 rfl ?_
      exact ⟨_, rfl, by rw [ho, orI_drop (by omega), if_neg hx], hb.below⟩
    · skip
      have hx : xs[k] = 0 := by simpa using hc14
      refine E.W.skip ?_
      refine E.KQ.block_n ?_
      refine E.KQ.then_n ?_
      refine E.W.region ?_
      refine E.WL.val (E.y_add rfl rfl (Go.IntWalk.i64_in _ (by omega))) rfl rfl rfl ?_
      refine E.WL.val (E.y_move rfl) rfl rfl rfl ?_
      refine E.WL.done ?_
      exact E.KQ.next (k + 1) (by exact .cons rfl (.cons rfl (.cons rfl (.cons rfl (.cons rfl .nil))))) ⟨hb, by omega, by rw [ho, orI_drop (by omega), if_pos hx]⟩ (by show xs.length - (k + 1) < xs.length - k; omega)
  · replace hc9 := of_decide_eq_false hc9
    refine E.W.exit ?_
    refine E.KQ.then_e ?_
    refine E.KQ.loop_e ?_
    refine E.KQ.block_e ?_
    refine E.KQ.then_n ?_
    refine E.W.seq ?_
    refine E.W.region ?_
    refine E.WL.val (E.y_move rfl) rfl rfl rfl ?_
    refine E.WL.val (E.y_assign rfl) rfl rfl rfl ?_
    refine E.WL.done ?_
    refine E.KQ.then_n ?_
    refine E.W.ret ?_
    refine E.KQ.ret1 Tryz.results72 rfl ?_
    exact ⟨_, rfl, by rw [ho, List.drop_eq_nil_of_le (by omega)]; rfl, hb.below⟩

set_option maxHeartbeats 400000 in
theorem orderP_calls (w : World) (a b : PairD) :
    Calls Tryz.prog 115 #[(.agg #[.string a.key, .string a.val]), (.agg #[.string b.key, .string b.val])] w (Ret fun v w' => v = .int .i64 (orderP a b) ∧ Ext w w') := by
  have hb := E.Bx.start w (base := w.heap.size) (Nat.le_refl _)
  refine E.enter Tryz.func115 rfl Tryz.ntmps115 [(.agg #[.string a.key, .string a.val]), (.agg #[.string b.key, .string b.val])] rfl ?_
  refine E.W.seq ?_
  refine E.W.region ?_
  refine E.WL.box hb rfl rfl rfl rfl ?_
  clear hb; intro B1 w2 hb _ _
  refine E.WL.box hb rfl rfl rfl rfl ?_
  clear hb; intro B3 w4 hb _ _
  refine E.WL.val (E.y_assign rfl) rfl rfl rfl ?_
  refine E.WL.done ?_
  refine E.KQ.then_n ?_
  refine E.W.seq ?_
  have hb0 := hb
  refine E.W.regionD (E.heads 13 []) rfl ?_
  replace hb := hb.drew
  have hE := E.Ext.drew w4
  refine E.DL.take 0 rfl (by kernel_rfl) (by kernel_rfl) (fun w' hw => E.y_fld Tryz.underlying45 rfl Tryz.sizeOf9 rfl) rfl rfl rfl (fun _ _ _ _ h => by obtain ⟨_, _, h, _⟩ := h; cases h) hE ?_
  refine E.DL.take 1 rfl (by kernel_rfl) (by kernel_rfl) (fun w' hw => E.y_load rfl (E.At.ld1 Tryz.isAgg9 ((hb0.ext hw).at0 1 rfl) 0 rfl)) rfl rfl rfl (fun _ _ _ _ h => by obtain ⟨_, _, h, _⟩ := h; cases h) hE ?_
  refine E.DL.take 2 rfl (by kernel_rfl) (by kernel_rfl) (fun w' hw => E.y_fld Tryz.underlying45 rfl Tryz.sizeOf9 rfl) rfl rfl rfl (fun _ _ _ _ h => by obtain ⟨_, _, h, _⟩ := h; cases h) hE ?_
  refine E.DL.take 3 rfl (by kernel_rfl) (by kernel_rfl) (fun w' hw => E.y_load rfl (E.At.ld1 Tryz.isAgg9 ((hb0.ext hw).at0 0 rfl) 0 rfl)) rfl rfl rfl (fun _ _ _ _ h => by obtain ⟨_, _, h, _⟩ := h; cases h) hE ?_
  refine E.DL.take 5 rfl (by kernel_rfl) (by kernel_rfl) (fun w' hw => E.y_fld Tryz.underlying45 rfl Tryz.sizeOf9 rfl) rfl rfl rfl (fun _ _ _ _ h => by obtain ⟨_, _, h, _⟩ := h; cases h) hE ?_
  refine E.DL.take 6 rfl (by kernel_rfl) (by kernel_rfl) (fun w' hw => E.y_load rfl (E.At.ld1 Tryz.isAgg9 ((hb0.ext hw).at0 1 rfl) 1 rfl)) rfl rfl rfl (fun _ _ _ _ h => by obtain ⟨_, _, h, _⟩ := h; cases h) hE ?_
  refine E.DL.take 7 rfl (by kernel_rfl) (by kernel_rfl) (fun w' hw => E.y_fld Tryz.underlying45 rfl Tryz.sizeOf9 rfl) rfl rfl rfl (fun _ _ _ _ h => by obtain ⟨_, _, h, _⟩ := h; cases h) hE ?_
  refine E.DL.take 8 rfl (by kernel_rfl) (by kernel_rfl) (fun w' hw => E.y_load rfl (E.At.ld1 Tryz.isAgg9 ((hb0.ext hw).at0 0 rfl) 1 rfl)) rfl rfl rfl (fun _ _ _ _ h => by obtain ⟨_, _, h, _⟩ := h; cases h) hE ?_
  refine E.DL.only 4 rfl (by kernel_rfl) (fun hsh => ?_)
  refine E.WL.call (cmpB_calls w4.drew a.key b.key) Tryz.call74 rfl rfl rfl ?_
  rintro _ w5 ⟨rfl, hX⟩
  replace hb := hb.ext hX
  refine E.WL.done ?_
  replace hE := hE.trans hX
  clear hX
  refine E.DL.next hsh (.inl hE) ?_
  clear hsh
  refine E.DL.only 9 rfl (by kernel_rfl) (fun hsh => ?_)
  refine E.WL.call (cmpB_calls w5 a.val b.val) Tryz.call74 rfl rfl rfl ?_
  rintro _ w6 ⟨rfl, hX⟩
  replace hb := hb.ext hX
  refine E.WL.done ?_
  replace hE := hE.trans hX
  clear hX
  refine E.DL.next hsh (.inl hE) ?_
  clear hsh
  refine E.DL.only 10 rfl (by kernel_rfl) (fun hsh => ?_)
  refine E.WL.mkslice (T := 3) (cs := [.int .i64 (cmpB a.key b.key), .int .i64 (cmpB a.val b.val)]) hb rfl (fun _ => by kernel_rfl) rfl rfl ?_
  clear hb; intro B7 w8 hb hX _
  refine E.WL.done ?_
  replace hE := hE.trans hX
  clear hX
  refine E.DL.next hsh (.inl hE) ?_
  clear hsh
  refine E.DL.only 11 rfl (by kernel_rfl) (fun hsh => ?_)
  refine E.WL.call (or_calls (RdS.ints (xs := [cmpB a.key b.key, cmpB a.val b.val]) (hb.at0 0 rfl) (by simp))) Tryz.call72 rfl rfl rfl ?_
  rintro _ w9 ⟨rfl, hX⟩
  replace hb := hb.ext hX
  refine E.WL.done ?_
  replace hE := hE.trans hX
  clear hX
  refine E.DL.next hsh (.inl hE) ?_
  clear hsh
  refine E.DL.take 12 rfl (by kernel_rfl) (by kernel_rfl) (fun w' hw => E.y_assign rfl) rfl rfl rfl (fun _ _ _ _ h => by obtain ⟨_, _, h, _⟩ := h; cases h) hE ?_
  refine E.DL.done (by kernel_rfl) ?_
  clear hE hb0
  refine E.KQ.then_n ?_
  refine E.W.ret ?_
  refine E.KQ.ret1 Tryz.results115 rfl ?_
  exact ⟨_, rfl, rfl, hb.below⟩
end Go.Proofs.YtmnnbnajnfdncaaGreatDoor
