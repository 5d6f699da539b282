/- Walks: queue, second part: what holds two waiting tasks against each other; over the engine that tells of the draws. -/
import Derived.Test.YtmnnbnajnfdncaaGreatDoorP1
import Derived.Test.YtmnnbnajnfdncaaGreatDoorX
set_option linter.unusedVariables false
set_option linter.unusedSimpArgs false
namespace Go.Proofs.YtmnnbnajnfdncaaGreatDoor
open Go.RowKit X
def cmpI (a b : Int) : Int := if a < b then -1 else if b < a then 1 else 0
def aheadP (a b : TaskD) : Int := orI [cmpI b.rank a.rank, cmpB a.name b.name]
set_option maxHeartbeats 400000 in
theorem isNaNX_calls (w : World) (a : ByteArray) :
    Calls Tryz.prog 110 #[(.string a)] w (Ret fun v w' => v = .bool false ∧ Ext w w') := by
  have hb := X.Bx.start w (base := w.heap.size) (Nat.le_refl _)
  refine X.enter Tryz.func110 rfl Tryz.ntmps110 [(.string a)] rfl ?_
  refine X.W.seq ?_
  refine X.W.region ?_
  refine X.WL.val (X.y_assign rfl) rfl rfl rfl ?_
  refine X.WL.done ?_
  refine X.KQ.then_n ?_
  refine X.W.seq ?_
  refine X.W.region ?_
  refine X.WL.val (X.y_move rfl) rfl rfl rfl ?_
  refine X.WL.val (X.y_move rfl) rfl rfl rfl ?_
  refine X.WL.val (X.y_sneq rfl rfl) rfl rfl rfl ?_
  refine X.WL.val (X.y_assign rfl) rfl rfl rfl ?_
  refine X.WL.done ?_
  refine X.KQ.then_n ?_
  refine X.W.ret ?_
  refine X.KQ.ret1 Tryz.results110 rfl ?_
  exact ⟨_, rfl, by simp, hb.below⟩

set_option maxHeartbeats 400000 in
theorem cmpBX_calls (w : World) (a b : ByteArray) :
    Calls Tryz.prog 74 #[(.string a), (.string b)] w (Ret fun v w' => v = .int .i64 (cmpB a b) ∧ Ext w w') := by
  have hb := X.Bx.start w (base := w.heap.size) (Nat.le_refl _)
  refine X.enter Tryz.func74 rfl Tryz.ntmps74 [(.string a), (.string b)] rfl ?_
  refine X.W.seq ?_
  refine X.W.region ?_
  refine X.WL.val (X.y_assign rfl) rfl rfl rfl ?_
  refine X.WL.done ?_
  refine X.KQ.then_n ?_
  refine X.W.seq ?_
  refine X.W.region ?_
  refine X.WL.val (X.y_move rfl) rfl rfl rfl ?_
  refine X.WL.call (isNaNX_calls w a) Tryz.call110 rfl rfl rfl ?_
  rintro _ w1 ⟨rfl, hX⟩
  replace hb := hb.ext hX
  clear hX
  refine X.WL.val (X.y_assign rfl) rfl rfl rfl ?_
  refine X.WL.done ?_
  refine X.KQ.then_n ?_
  refine X.W.seq ?_
  refine X.W.region ?_
  refine X.WL.val (X.y_move rfl) rfl rfl rfl ?_
  refine X.WL.call (isNaNX_calls w1 b) Tryz.call110 rfl rfl rfl ?_
  rintro _ w2 ⟨rfl, hX⟩
  replace hb := hb.ext hX
  clear hX
  refine X.WL.val (X.y_assign rfl) rfl rfl rfl ?_
  refine X.WL.done ?_
  refine X.KQ.then_n ?_
  refine X.W.seq ?_
  refine X.W.seq ?_
  refine X.W.region ?_
  refine X.WL.val (X.y_move rfl) rfl rfl rfl ?_
  refine X.WL.done ?_
  refine X.KQ.then_n ?_
  refine X.W.cond_f rfl ?_
  refine X.W.skip ?_
  refine X.KQ.then_n ?_
  refine X.W.seq ?_
  refine X.W.seq ?_
  refine X.W.region ?_
  refine X.WL.val (X.y_move rfl) rfl rfl rfl ?_
  refine X.WL.done ?_
  refine X.KQ.then_n ?_
  refine X.W.cond_f rfl ?_
  refine X.W.skip ?_
  refine X.KQ.then_n ?_
  refine X.W.seq ?_
  refine X.W.seq ?_
  refine X.W.region ?_
  refine X.WL.val (X.y_move rfl) rfl rfl rfl ?_
  refine X.WL.val (X.y_move rfl) rfl rfl rfl ?_
  refine X.WL.val (X.y_slss rfl rfl) rfl rfl rfl ?_
  refine X.WL.done ?_
  refine X.KQ.then_n ?_
  refine X.W.condT 16 rfl (fun hc16 => ?_) (fun hc16 => ?_)
  · skip
    have e1 : ltB a b = true := hc16
    refine X.W.seq ?_
    refine X.W.region ?_
    refine X.WL.val (X.y_assign rfl) rfl rfl rfl ?_
    refine X.WL.done ?_
    refine X.KQ.then_n ?_
    refine X.W.ret ?_
    refine X.KQ.then_r ?_
    refine X.KQ.ret1 Tryz.results74 rfl ?_
    exact ⟨_, rfl, by simp [cmpB, e1], hb.below⟩
  · skip
    have e1 : ltB a b = false := hc16
    refine X.W.skip ?_
    refine X.KQ.then_n ?_
    refine X.W.seq ?_
    refine X.W.seq ?_
    refine X.W.region ?_
    refine X.WL.val (X.y_move rfl) rfl rfl rfl ?_
    refine X.WL.val (X.y_move rfl) rfl rfl rfl ?_
    refine X.WL.val (X.y_sgtr rfl rfl) rfl rfl rfl ?_
    refine X.WL.done ?_
    refine X.KQ.then_n ?_
    refine X.W.condT 19 rfl (fun hc19 => ?_) (fun hc19 => ?_)
    · skip
      have e2 : ¬ a = b := by unfold ltB at e1; simpa [e1] using hc19
      refine X.W.seq ?_
      refine X.W.region ?_
      refine X.WL.val (X.y_assign rfl) rfl rfl rfl ?_
      refine X.WL.done ?_
      refine X.KQ.then_n ?_
      refine X.W.ret ?_
      refine X.KQ.then_r ?_
      refine X.KQ.ret1 Tryz.results74 rfl ?_
      exact ⟨_, rfl, by simp [cmpB, e1, e2], hb.below⟩
    · skip
      have e2 : a = b := by unfold ltB at e1; simpa [e1] using hc19
      refine X.W.skip ?_
      refine X.KQ.then_n ?_
      refine X.W.seq ?_
      refine X.W.region ?_
      refine X.WL.val (X.y_assign rfl) rfl rfl rfl ?_
      refine X.WL.done ?_
      refine X.KQ.then_n ?_
      refine X.W.ret ?_
      refine X.KQ.ret1 Tryz.results74 rfl ?_
      exact ⟨_, rfl, by unfold cmpB; rw [if_neg (by rw [e1]; decide), if_pos e2], hb.below⟩

set_option maxHeartbeats 400000 in
theorem isNaNI_calls (w : World) (a : Int) :
    Calls Tryz.prog 109 #[(.int .i64 a)] w (Ret fun v w' => v = .bool false ∧ Ext w w') := by
  have hb := X.Bx.start w (base := w.heap.size) (Nat.le_refl _)
  refine X.enter Tryz.func109 rfl Tryz.ntmps109 [(.int .i64 a)] rfl ?_
  refine X.W.seq ?_
  refine X.W.region ?_
  refine X.WL.val (X.y_assign rfl) rfl rfl rfl ?_
  refine X.WL.done ?_
  refine X.KQ.then_n ?_
  refine X.W.seq ?_
  refine X.W.region ?_
  refine X.WL.val (X.y_move rfl) rfl rfl rfl ?_
  refine X.WL.val (X.y_move rfl) rfl rfl rfl ?_
  refine X.WL.val (X.y_neq rfl rfl) rfl rfl rfl ?_
  refine X.WL.val (X.y_assign rfl) rfl rfl rfl ?_
  refine X.WL.done ?_
  refine X.KQ.then_n ?_
  refine X.W.ret ?_
  refine X.KQ.ret1 Tryz.results109 rfl ?_
  exact ⟨_, rfl, by simp, hb.below⟩

set_option maxHeartbeats 400000 in
theorem cmpI_calls (w : World) (a b : Int) :
    Calls Tryz.prog 73 #[(.int .i64 a), (.int .i64 b)] w (Ret fun v w' => v = .int .i64 (cmpI a b) ∧ Ext w w') := by
  have hb := X.Bx.start w (base := w.heap.size) (Nat.le_refl _)
  refine X.enter Tryz.func73 rfl Tryz.ntmps73 [(.int .i64 a), (.int .i64 b)] rfl ?_
  refine X.W.seq ?_
  refine X.W.region ?_
  refine X.WL.val (X.y_assign rfl) rfl rfl rfl ?_
  refine X.WL.done ?_
  refine X.KQ.then_n ?_
  refine X.W.seq ?_
  refine X.W.region ?_
  refine X.WL.val (X.y_move rfl) rfl rfl rfl ?_
  refine X.WL.call (isNaNI_calls w a) Tryz.call109 rfl rfl rfl ?_
  rintro _ w1 ⟨rfl, hX⟩
  replace hb := hb.ext hX
  clear hX
  refine X.WL.val (X.y_assign rfl) rfl rfl rfl ?_
  refine X.WL.done ?_
  refine X.KQ.then_n ?_
  refine X.W.seq ?_
  refine X.W.region ?_
  refine X.WL.val (X.y_move rfl) rfl rfl rfl ?_
  refine X.WL.call (isNaNI_calls w1 b) Tryz.call109 rfl rfl rfl ?_
  rintro _ w2 ⟨rfl, hX⟩
  replace hb := hb.ext hX
  clear hX
  refine X.WL.val (X.y_assign rfl) rfl rfl rfl ?_
  refine X.WL.done ?_
  refine X.KQ.then_n ?_
  refine X.W.seq ?_
  refine X.W.seq ?_
  refine X.W.region ?_
  refine X.WL.val (X.y_move rfl) rfl rfl rfl ?_
  refine X.WL.done ?_
  refine X.KQ.then_n ?_
  refine X.W.cond_f rfl ?_
  refine X.W.skip ?_
  refine X.KQ.then_n ?_
  refine X.W.seq ?_
  refine X.W.seq ?_
  refine X.W.region ?_
  refine X.WL.val (X.y_move rfl) rfl rfl rfl ?_
  refine X.WL.done ?_
  refine X.KQ.then_n ?_
  refine X.W.cond_f rfl ?_
  refine X.W.skip ?_
  refine X.KQ.then_n ?_
  refine X.W.seq ?_
  refine X.W.seq ?_
  refine X.W.region ?_
  refine X.WL.val (X.y_move rfl) rfl rfl rfl ?_
  refine X.WL.val (X.y_move rfl) rfl rfl rfl ?_
  refine X.WL.val (X.y_lss rfl rfl) rfl rfl rfl ?_
  refine X.WL.done ?_
  refine X.KQ.then_n ?_
  refine X.W.condT 16 rfl (fun hc16 => ?_) (fun hc16 => ?_)
  · replace hc16 := of_decide_eq_true hc16
    refine X.W.seq ?_
    refine X.W.region ?_
    refine X.WL.val (X.y_assign rfl) rfl rfl rfl ?_
    refine X.WL.done ?_
    refine X.KQ.then_n ?_
    refine X.W.ret ?_
    refine X.KQ.then_r ?_
    refine X.KQ.ret1 Tryz.results73 rfl ?_
    exact ⟨_, rfl, by simp [cmpI, hc16], hb.below⟩
  · replace hc16 := of_decide_eq_false hc16
    refine X.W.skip ?_
    refine X.KQ.then_n ?_
    refine X.W.seq ?_
    refine X.W.seq ?_
    refine X.W.region ?_
    refine X.WL.val (X.y_move rfl) rfl rfl rfl ?_
    refine X.WL.val (X.y_move rfl) rfl rfl rfl ?_
    refine X.WL.val (X.y_gtr rfl rfl) rfl rfl rfl ?_
    refine X.WL.done ?_
    refine X.KQ.then_n ?_
    refine X.W.condT 19 rfl (fun hc19 => ?_) (fun hc19 => ?_)
    · replace hc19 := of_decide_eq_true hc19
      refine X.W.seq ?_
      refine X.W.region ?_
      refine X.WL.val (X.y_assign rfl) rfl rfl rfl ?_
      refine X.WL.done ?_
      refine X.KQ.then_n ?_
      refine X.W.ret ?_
      refine X.KQ.then_r ?_
      refine X.KQ.ret1 Tryz.results73 rfl ?_
      exact ⟨_, rfl, by simp [cmpI, hc16, hc19], hb.below⟩
    · replace hc19 := of_decide_eq_false hc19
      refine X.W.skip ?_
      refine X.KQ.then_n ?_
      refine X.W.seq ?_
      refine X.W.region ?_
      refine X.WL.val (X.y_assign rfl) rfl rfl rfl ?_
      refine X.WL.done ?_
      refine X.KQ.then_n ?_
      refine X.W.ret ?_
      refine X.KQ.ret1 Tryz.results73 rfl ?_
      exact ⟨_, rfl, by simp [cmpI, hc16, hc19], hb.below⟩

set_option maxHeartbeats 400000 in
theorem orX_calls {w : World} {B : Nat} {xs : List Int} (h : At w ⟨B, 0, none⟩ (xs.map (Value.int .i64))) (hl : xs.length ≤ 1000) :
    Calls Tryz.prog 72 #[(.slice (some ⟨B, 0, none⟩) xs.length xs.length)] w (Ret fun u w' => u = .int .i64 (orI xs) ∧ Ext w w') := by
  have hb := X.Bx.start w (base := w.heap.size) (Nat.le_refl _)
  refine X.enter Tryz.func72 rfl Tryz.ntmps72 [(.slice (some ⟨B, 0, none⟩) xs.length xs.length)] rfl ?_
  refine X.W.seq ?_
  refine X.W.region ?_
  refine X.WL.val (X.y_assign rfl) rfl rfl rfl ?_
  refine X.WL.done ?_
  refine X.KQ.then_n ?_
  refine X.W.seq ?_
  refine X.W.region ?_
  refine X.WL.val (X.y_assign rfl) rfl rfl rfl ?_
  refine X.WL.done ?_
  refine X.KQ.then_n ?_
  refine X.W.seq ?_
  refine X.W.seq ?_
  refine X.W.region ?_
  refine X.WL.val (X.y_move rfl) rfl rfl rfl ?_
  refine X.WL.val (X.y_lenS Tryz.underlying147 rfl) rfl rfl rfl ?_
  refine X.WL.val (X.y_move rfl) rfl rfl rfl ?_
  refine X.WL.done ?_
  refine X.KQ.then_n ?_
  refine X.W.block ?_
  refine X.W.loop (ι := Nat) (fun k => [(0, .slice (some ⟨B, 0, none⟩) xs.length xs.length), (3, .int .i64 0), (6, .slice (some ⟨B, 0, none⟩) xs.length xs.length), (7, .int .i64 xs.length), (8, .int .i64 (k : Nat))]) (fun k w' => Bx w.heap.size w w' [] ∧ k ≤ xs.length ∧ orI xs = orI (xs.drop k)) (fun k => xs.length - k) (0) (by exact (.cons rfl (.cons rfl (.cons rfl (.cons rfl (.cons rfl .nil)))))) ⟨hb, Nat.zero_le _, by simp⟩ (fun k w1 hJ => ?_)
  clear hb
  obtain ⟨hb, hk, ho⟩ := hJ
  refine X.W.seq ?_
  refine X.W.region ?_
  refine X.WL.val (X.y_lss rfl rfl) rfl rfl rfl ?_
  refine X.WL.done ?_
  refine X.KQ.then_n ?_
  refine X.W.seq ?_
  refine X.W.condT 9 rfl (fun hc9 => ?_) (fun hc9 => ?_)
  · replace hc9 := of_decide_eq_true hc9
    refine X.W.skip ?_
    refine X.KQ.then_n ?_
    refine X.W.seq ?_
    refine X.W.block ?_
    refine X.W.seq ?_
    refine X.W.region ?_
    have hkl : k < xs.length := by omega
    have hat := (h.sub rfl (k * 1) 1).ext hb.below
    rw [show ((xs.map (Value.int .i64)).drop (k * 1)).take 1 = [.int .i64 xs[k]] from by rw [Nat.mul_one, ← List.map_drop, List.drop_eq_getElem_cons hkl]; rfl] at hat
    refine X.WL.val (X.y_idxS Tryz.underlying147 Tryz.sizeOf3 rfl rfl (by omega) (by omega)) rfl rfl rfl ?_
    refine X.WL.val (X.y_load rfl (X.At.ld0 Tryz.isAgg3 hat rfl)) rfl rfl rfl ?_
    refine X.WL.val (X.y_assign rfl) rfl rfl rfl ?_
    refine X.WL.done ?_
    refine X.KQ.then_n ?_
    refine X.W.seq ?_
    refine X.W.region ?_
    refine X.WL.val (X.y_move rfl) rfl rfl rfl ?_
    refine X.WL.val (X.y_move rfl) rfl rfl rfl ?_
    refine X.WL.val (X.y_neq rfl rfl) rfl rfl rfl ?_
    refine X.WL.done ?_
    refine X.KQ.then_n ?_
    refine X.W.condT 14 rfl (fun hc14 => ?_) (fun hc14 => ?_)
    · skip
      have hx : ¬ xs[k] = 0 := by simpa using hc14
      refine X.W.seq ?_
      refine X.W.region ?_
      refine X.WL.val (X.y_move rfl) rfl rfl rfl ?_
      refine X.WL.val (X.y_assign rfl) rfl rfl rfl ?_
      refine X.WL.done ?_
      refine X.KQ.then_n ?_
      refine X.W.ret ?_
      refine X.KQ.block_r ?_
      refine X.KQ.then_r ?_
      refine X.KQ.loop_r ?_
      refine X.KQ.block_r ?_
      refine X.KQ.then_r ?_
      refine X.KQ.ret1 Tryz.results72 rfl ?_
      exact ⟨_, rfl, by rw [ho, orI_drop (by omega), if_neg hx], hb.below⟩
    · skip
      have hx : xs[k] = 0 := by simpa using hc14
      refine X.W.skip ?_
      refine X.KQ.block_n ?_
      refine X.KQ.then_n ?_
      refine X.W.region ?_
      refine X.WL.val (X.y_add rfl rfl (Go.IntWalk.i64_in _ (by omega))) rfl rfl rfl ?_
      refine X.WL.val (X.y_move rfl) rfl rfl rfl ?_
      refine X.WL.done ?_
      exact X.KQ.next (k + 1) (by exact .cons rfl (.cons rfl (.cons rfl (.cons rfl (.cons rfl .nil))))) ⟨hb, by omega, by rw [ho, orI_drop (by omega), if_pos hx]⟩ (by show xs.length - (k + 1) < xs.length - k; omega)
  · replace hc9 := of_decide_eq_false hc9
    refine X.W.exit ?_
    refine X.KQ.then_e ?_
    refine X.KQ.loop_e ?_
    refine X.KQ.block_e ?_
    refine X.KQ.then_n ?_
    refine X.W.seq ?_
    refine X.W.region ?_
    refine X.WL.val (X.y_move rfl) rfl rfl rfl ?_
    refine X.WL.val (X.y_assign rfl) rfl rfl rfl ?_
    refine X.WL.done ?_
    refine X.KQ.then_n ?_
    refine X.W.ret ?_
    refine X.KQ.ret1 Tryz.results72 rfl ?_
    exact ⟨_, rfl, by rw [ho, List.drop_eq_nil_of_le (by omega)]; rfl, hb.below⟩

set_option maxHeartbeats 400000 in
theorem ahead_calls (w : World) (a b : TaskD) (va vb vc vd : Value) :
    Calls Tryz.prog 29 #[(.agg #[.string a.name, .int .i64 a.n0, .int .i64 a.n1, .int .i64 a.n2, va, vb, .string a.group, .string a.apart, .int .i64 a.rank]), (.agg #[.string b.name, .int .i64 b.n0, .int .i64 b.n1, .int .i64 b.n2, vc, vd, .string b.group, .string b.apart, .int .i64 b.rank])] w (Ret fun v w' => v = .int .i64 (aheadP a b) ∧ Ext w w') := by
  have hb := X.Bx.start w (base := w.heap.size) (Nat.le_refl _)
  refine X.enter Tryz.func29 rfl Tryz.ntmps29 [(.agg #[.string a.name, .int .i64 a.n0, .int .i64 a.n1, .int .i64 a.n2, va, vb, .string a.group, .string a.apart, .int .i64 a.rank]), (.agg #[.string b.name, .int .i64 b.n0, .int .i64 b.n1, .int .i64 b.n2, vc, vd, .string b.group, .string b.apart, .int .i64 b.rank])] rfl ?_
  refine X.W.seq ?_
  refine X.W.region ?_
  refine X.WL.box hb rfl rfl rfl rfl ?_
  clear hb; intro B1 w2 hb _ _
  refine X.WL.box hb rfl rfl rfl rfl ?_
  clear hb; intro B3 w4 hb _ _
  refine X.WL.val (X.y_assign rfl) rfl rfl rfl ?_
  refine X.WL.done ?_
  refine X.KQ.then_n ?_
  refine X.W.seq ?_
  have hb0 := hb
  refine X.W.regionD (X.heads 13 []) rfl ?_
  replace hb := hb.drew
  have hE := X.Ext.drew w4
  refine X.DL.take 0 rfl (by kernel_rfl) (by kernel_rfl) (fun w' hw => X.y_fld Tryz.underlying34 rfl Tryz.sizeOf3 rfl) rfl rfl rfl (fun _ _ _ _ h => by obtain ⟨_, _, h, _⟩ := h; cases h) hE ?_
  refine X.DL.take 1 rfl (by kernel_rfl) (by kernel_rfl) (fun w' hw => X.y_load rfl (X.At.ld1 Tryz.isAgg3 ((hb0.ext hw).at0 0 rfl) 8 rfl)) rfl rfl rfl (fun _ _ _ _ h => by obtain ⟨_, _, h, _⟩ := h; cases h) hE ?_
  refine X.DL.take 2 rfl (by kernel_rfl) (by kernel_rfl) (fun w' hw => X.y_fld Tryz.underlying34 rfl Tryz.sizeOf3 rfl) rfl rfl rfl (fun _ _ _ _ h => by obtain ⟨_, _, h, _⟩ := h; cases h) hE ?_
  refine X.DL.take 3 rfl (by kernel_rfl) (by kernel_rfl) (fun w' hw => X.y_load rfl (X.At.ld1 Tryz.isAgg3 ((hb0.ext hw).at0 1 rfl) 8 rfl)) rfl rfl rfl (fun _ _ _ _ h => by obtain ⟨_, _, h, _⟩ := h; cases h) hE ?_
  refine X.DL.take 5 rfl (by kernel_rfl) (by kernel_rfl) (fun w' hw => X.y_fld Tryz.underlying34 rfl Tryz.sizeOf9 rfl) rfl rfl rfl (fun _ _ _ _ h => by obtain ⟨_, _, h, _⟩ := h; cases h) hE ?_
  refine X.DL.take 6 rfl (by kernel_rfl) (by kernel_rfl) (fun w' hw => X.y_load rfl (X.At.ld1 Tryz.isAgg9 ((hb0.ext hw).at0 1 rfl) 0 rfl)) rfl rfl rfl (fun _ _ _ _ h => by obtain ⟨_, _, h, _⟩ := h; cases h) hE ?_
  refine X.DL.take 7 rfl (by kernel_rfl) (by kernel_rfl) (fun w' hw => X.y_fld Tryz.underlying34 rfl Tryz.sizeOf9 rfl) rfl rfl rfl (fun _ _ _ _ h => by obtain ⟨_, _, h, _⟩ := h; cases h) hE ?_
  refine X.DL.take 8 rfl (by kernel_rfl) (by kernel_rfl) (fun w' hw => X.y_load rfl (X.At.ld1 Tryz.isAgg9 ((hb0.ext hw).at0 0 rfl) 0 rfl)) rfl rfl rfl (fun _ _ _ _ h => by obtain ⟨_, _, h, _⟩ := h; cases h) hE ?_
  refine X.DL.only 4 rfl (by kernel_rfl) (fun hsh => ?_)
  refine X.WL.call (cmpI_calls w4.drew b.rank a.rank) Tryz.call73 rfl rfl rfl ?_
  rintro _ w5 ⟨rfl, hX⟩
  replace hb := hb.ext hX
  refine X.WL.done ?_
  replace hE := hE.trans hX
  clear hX
  refine X.DL.next hsh (.inl hE) ?_
  clear hsh
  refine X.DL.only 9 rfl (by kernel_rfl) (fun hsh => ?_)
  refine X.WL.call (cmpBX_calls w5 a.name b.name) Tryz.call74 rfl rfl rfl ?_
  rintro _ w6 ⟨rfl, hX⟩
  replace hb := hb.ext hX
  refine X.WL.done ?_
  replace hE := hE.trans hX
  clear hX
  refine X.DL.next hsh (.inl hE) ?_
  clear hsh
  refine X.DL.only 10 rfl (by kernel_rfl) (fun hsh => ?_)
  refine X.WL.mkslice (T := 3) (cs := [.int .i64 (cmpI b.rank a.rank), .int .i64 (cmpB a.name b.name)]) hb rfl (fun _ => by kernel_rfl) rfl rfl ?_
  clear hb; intro B7 w8 hb hX _
  refine X.WL.done ?_
  replace hE := hE.trans hX
  clear hX
  refine X.DL.next hsh (.inl hE) ?_
  clear hsh
  refine X.DL.only 11 rfl (by kernel_rfl) (fun hsh => ?_)
  refine X.WL.call (orX_calls (xs := [cmpI b.rank a.rank, cmpB a.name b.name]) (hb.at0 0 rfl) (by simp)) Tryz.call72 rfl rfl rfl ?_
  rintro _ w9 ⟨rfl, hX⟩
  replace hb := hb.ext hX
  refine X.WL.done ?_
  replace hE := hE.trans hX
  clear hX
  refine X.DL.next hsh (.inl hE) ?_
  clear hsh
  refine X.DL.take 12 rfl (by kernel_rfl) (by kernel_rfl) (fun w' hw => X.y_assign rfl) rfl rfl rfl (fun _ _ _ _ h => by obtain ⟨_, _, h, _⟩ := h; cases h) hE ?_
  refine X.DL.done (by kernel_rfl) ?_
  clear hE hb0
  refine X.KQ.then_n ?_
  refine X.W.ret ?_
  refine X.KQ.ret1 Tryz.results29 rfl ?_
  exact ⟨_, rfl, rfl, hb.below⟩
end Go.Proofs.YtmnnbnajnfdncaaGreatDoor
