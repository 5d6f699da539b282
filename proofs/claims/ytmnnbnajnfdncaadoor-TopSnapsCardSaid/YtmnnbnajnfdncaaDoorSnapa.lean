/- Walks: names held against each other; where a file is. -/
import Derived.Test.YtmnnbnajnfdncaaDoorG1
set_option linter.unusedVariables false
set_option linter.unusedSimpArgs false
namespace Go.Proofs.YtmnnbnajnfdncaaDoor
open Go.RowKit E
set_option maxHeartbeats 400000 in
theorem isNaN_calls (w : World) (a : ByteArray) :
    Calls Tryd.prog 64 #[(.string a)] w (Ret fun v w' => v = .bool false ∧ Ext w w') := by
  have hb := E.Bx.start w (base := w.heap.size) (Nat.le_refl _)
  refine E.enter Tryd.func64 rfl Tryd.ntmps64 [(.string a)] rfl ?_
  refine E.W.seq ?_
  refine E.W.region ?_
  refine E.WL.val (E.y_assign rfl) rfl rfl rfl ?_
  refine E.WL.done ?_
  refine E.KQ.then_n ?_
  refine E.W.seq ?_
  refine E.W.region ?_
  refine E.WL.val (E.y_move rfl) rfl rfl rfl ?_
  refine E.WL.val (E.y_move rfl) rfl rfl rfl ?_
  refine E.WL.val (E.y_sneq rfl rfl) rfl rfl rfl ?_
  refine E.WL.val (E.y_assign rfl) rfl rfl rfl ?_
  refine E.WL.done ?_
  refine E.KQ.then_n ?_
  refine E.W.ret ?_
  refine E.KQ.ret1 Tryd.results64 rfl ?_
  exact ⟨_, rfl, by simp, hb.below⟩

set_option maxHeartbeats 400000 in
theorem cmpB_calls (w : World) (a b : ByteArray) :
    Calls Tryd.prog 50 #[(.string a), (.string b)] w (Ret fun v w' => v = .int .i64 (cmpB a b) ∧ Ext w w') := by
  have hb := E.Bx.start w (base := w.heap.size) (Nat.le_refl _)
  refine E.enter Tryd.func50 rfl Tryd.ntmps50 [(.string a), (.string b)] rfl ?_
  refine E.W.seq ?_
  refine E.W.region ?_
  refine E.WL.val (E.y_assign rfl) rfl rfl rfl ?_
  refine E.WL.done ?_
  refine E.KQ.then_n ?_
  refine E.W.seq ?_
  refine E.W.region ?_
  refine E.WL.val (E.y_move rfl) rfl rfl rfl ?_
  refine E.WL.call (isNaN_calls w a) Tryd.call64 rfl rfl rfl ?_
  rintro _ w1 ⟨rfl, hX⟩
  replace hb := hb.ext hX
  clear hX
  refine E.WL.val (E.y_assign rfl) rfl rfl rfl ?_
  refine E.WL.done ?_
  refine E.KQ.then_n ?_
  refine E.W.seq ?_
  refine E.W.region ?_
  refine E.WL.val (E.y_move rfl) rfl rfl rfl ?_
  refine E.WL.call (isNaN_calls w1 b) Tryd.call64 rfl rfl rfl ?_
  rintro _ w2 ⟨rfl, hX⟩
  replace hb := hb.ext hX
  clear hX
  refine E.WL.val (E.y_assign rfl) rfl rfl rfl ?_
  refine E.WL.done ?_
  refine E.KQ.then_n ?_
  refine E.W.seq ?_
  refine E.W.seq ?_
  refine E.W.region ?_
  refine E.WL.val (E.y_move rfl) rfl rfl rfl ?_
  refine E.WL.done ?_
  refine E.KQ.then_n ?_
  refine E.W.cond_f rfl ?_
  refine E.W.skip ?_
  refine E.KQ.then_n ?_
  refine E.W.seq ?_
  refine E.W.seq ?_
  refine E.W.region ?_
  refine E.WL.val (E.y_move rfl) rfl rfl rfl ?_
  refine E.WL.done ?_
  refine E.KQ.then_n ?_
  refine E.W.cond_f rfl ?_
  refine E.W.skip ?_
  refine E.KQ.then_n ?_
  refine E.W.seq ?_
  refine E.W.seq ?_
  refine E.W.region ?_
  refine E.WL.val (E.y_move rfl) rfl rfl rfl ?_
  refine E.WL.val (E.y_move rfl) rfl rfl rfl ?_
  refine E.WL.val (E.y_slss rfl rfl) rfl rfl rfl ?_
  refine E.WL.done ?_
  refine E.KQ.then_n ?_
  refine E.W.condT 16 rfl (fun hc16 => ?_) (fun hc16 => ?_)
  · skip
    have e1 : ltB a b = true := hc16
    refine E.W.seq ?_
    refine E.W.region ?_
    refine E.WL.val (E.y_assign rfl) rfl rfl rfl ?_
    refine E.WL.done ?_
    refine E.KQ.then_n ?_
    refine E.W.ret ?_
    refine E.KQ.then_r ?_
    refine E.KQ.ret1 Tryd.results50 rfl ?_
    exact ⟨_, rfl, by simp [cmpB, e1], hb.below⟩
  · skip
    have e1 : ltB a b = false := hc16
    refine E.W.skip ?_
    refine E.KQ.then_n ?_
    refine E.W.seq ?_
    refine E.W.seq ?_
    refine E.W.region ?_
    refine E.WL.val (E.y_move rfl) rfl rfl rfl ?_
    refine E.WL.val (E.y_move rfl) rfl rfl rfl ?_
    refine E.WL.val (E.y_sgtr rfl rfl) rfl rfl rfl ?_
    refine E.WL.done ?_
    refine E.KQ.then_n ?_
    refine E.W.condT 19 rfl (fun hc19 => ?_) (fun hc19 => ?_)
    · skip
      have e2 : ¬ a = b := by unfold ltB at e1; simpa [e1] using hc19
      refine E.W.seq ?_
      refine E.W.region ?_
      refine E.WL.val (E.y_assign rfl) rfl rfl rfl ?_
      refine E.WL.done ?_
      refine E.KQ.then_n ?_
      refine E.W.ret ?_
      refine E.KQ.then_r ?_
      refine E.KQ.ret1 Tryd.results50 rfl ?_
      exact ⟨_, rfl, by simp [cmpB, e1, e2], hb.below⟩
    · skip
      have e2 : a = b := by unfold ltB at e1; simpa [e1] using hc19
      refine E.W.skip ?_
      refine E.KQ.then_n ?_
      refine E.W.seq ?_
      refine E.W.region ?_
      refine E.WL.val (E.y_assign rfl) rfl rfl rfl ?_
      refine E.WL.done ?_
      refine E.KQ.then_n ?_
      refine E.W.ret ?_
      refine E.KQ.ret1 Tryd.results50 rfl ?_
      exact ⟨_, rfl, by unfold cmpB; rw [if_neg (by rw [e1]; decide), if_pos e2], hb.below⟩

set_option maxHeartbeats 400000 in
theorem cmpFile_calls {F : FP} {w : World} {cn : List Value} {n : FileD} (h : RFile F w cn n) (s : ByteArray) :
    Calls Tryd.prog 49 #[(.agg cn.toArray), (.string s)] w (Ret fun u w' => u = .int .i64 (cmpB n.name s) ∧ Ext w w') := by
  unfold RFile at h; subst h
  have hb := E.Bx.start w (base := w.heap.size) (Nat.le_refl _)
  refine E.enter Tryd.func49 rfl Tryd.ntmps49 [(.agg #[.string n.name, .string n.data, .int .i64 n.synced]), (.string s)] rfl ?_
  refine E.W.seq ?_
  refine E.W.region ?_
  refine E.WL.box hb rfl rfl rfl rfl ?_
  clear hb; intro B1 w2 hb _ _
  refine E.WL.val (E.y_assign rfl) rfl rfl rfl ?_
  refine E.WL.done ?_
  refine E.KQ.then_n ?_
  refine E.W.seq ?_
  refine E.W.region ?_
  refine E.WL.val (E.y_fld Tryd.underlying51 rfl Tryd.sizeOf9 rfl) rfl rfl rfl ?_
  refine E.WL.val (E.y_load rfl (E.At.ld1 Tryd.isAgg9 (hb.at0 0 rfl) 0 rfl)) rfl rfl rfl ?_
  refine E.WL.val (E.y_move rfl) rfl rfl rfl ?_
  refine E.WL.call (cmpB_calls w2 n.name s) Tryd.call50 rfl rfl rfl ?_
  rintro _ w3 ⟨rfl, hX⟩
  replace hb := hb.ext hX
  clear hX
  refine E.WL.val (E.y_assign rfl) rfl rfl rfl ?_
  refine E.WL.done ?_
  refine E.KQ.then_n ?_
  refine E.W.ret ?_
  refine E.KQ.ret1 Tryd.results49 rfl ?_
  exact ⟨_, rfl, rfl, hb.below⟩

set_option maxHeartbeats 400000 in
theorem searchFile_calls {F : FP} {w : World} {v : Value} {xs : List FileD} (h : RdS F w 51 3 40 RFile v xs) (s : ByteArray) :
    Calls Tryd.prog 48 #[v, (.string s), (.func (.func 49) #[] #[])] w (Ret fun u w' => u = .tuple #[.int .i64 (posB (xs.map FileD.name) s : Nat), .bool (hasB (xs.map FileD.name) s)] ∧ Ext w w') := by
  obtain ⟨A, c, rfl, hc, hby, hg⟩ := h.open_
  have hml : (xs.map FileD.name).length = xs.length := List.length_map _
  have hb := E.Bx.start w (base := w.heap.size) (Nat.le_refl _)
  refine E.enter Tryd.func48 rfl Tryd.ntmps48 [(.slice A xs.length c), (.string s), (.func (.func 49) #[] #[])] rfl ?_
  refine E.W.seq ?_
  refine E.W.region ?_
  refine E.WL.val (E.y_assign rfl) rfl rfl rfl ?_
  refine E.WL.val (E.y_assign rfl) rfl rfl rfl ?_
  refine E.WL.done ?_
  refine E.KQ.then_n ?_
  refine E.W.seq ?_
  refine E.W.region ?_
  refine E.WL.val (E.y_move rfl) rfl rfl rfl ?_
  refine E.WL.val (E.y_lenS Tryd.underlying25 rfl) rfl rfl rfl ?_
  refine E.WL.val (E.y_assign rfl) rfl rfl rfl ?_
  refine E.WL.done ?_
  refine E.KQ.then_n ?_
  refine E.W.seq ?_
  refine E.W.region ?_
  refine E.WL.val (E.y_move rfl) rfl rfl rfl ?_
  refine E.WL.val (E.y_assign rfl) rfl rfl rfl ?_
  refine E.WL.val (E.y_assign rfl) rfl rfl rfl ?_
  refine E.WL.done ?_
  refine E.KQ.then_n ?_
  refine E.W.seq ?_
  refine E.W.block ?_
  refine E.W.loop (ι := Nat × Nat) (fun k => [(0, .slice A xs.length c), (1, .string s), (2, .func (.func 49) #[] #[]), (8, .int .i64 xs.length), (9, .int .i64 (k.1 : Nat)), (10, .int .i64 (k.2 : Nat))]) (fun k w' => Bx w.heap.size w w' [] ∧ k.1 ≤ k.2 ∧ k.2 ≤ xs.length ∧ posB (xs.map FileD.name) s = bsI (lessAt (xs.map FileD.name) s) k.1 k.2) (fun k => k.2 - k.1) ((0, xs.length)) (by exact (.cons rfl (.cons rfl (.cons rfl (.cons rfl (.cons rfl (.cons rfl .nil))))))) ⟨hb, Nat.zero_le _, Nat.le_refl _, by unfold posB; rw [hml]⟩ (fun k w1 hJ => ?_)
  clear hb
  obtain ⟨i, j⟩ := k
  obtain ⟨hb, hij, hjn, hpos⟩ := hJ
  simp only at hij hjn hpos
  refine E.W.seq ?_
  refine E.W.seq ?_
  refine E.W.region ?_
  refine E.WL.val (E.y_move rfl) rfl rfl rfl ?_
  refine E.WL.val (E.y_move rfl) rfl rfl rfl ?_
  refine E.WL.val (E.y_lss rfl rfl) rfl rfl rfl ?_
  refine E.WL.done ?_
  refine E.KQ.then_n ?_
  refine E.W.condT 17 rfl (fun hc17 => ?_) (fun hc17 => ?_)
  · replace hc17 := of_decide_eq_true hc17
    have hij' : i < j := by have := hc17; simp only at this; omega
    refine E.W.skip ?_
    refine E.KQ.then_n ?_
    refine E.W.block ?_
    refine E.W.seq ?_
    refine E.W.region ?_
    refine E.WL.val (E.y_move rfl) rfl rfl rfl ?_
    refine E.WL.val (E.y_move rfl) rfl rfl rfl ?_
    refine E.WL.val (E.y_add rfl rfl (Go.IntWalk.i64_in _ (by omega))) rfl rfl rfl ?_
    refine E.WL.val (E.y_conv (by rw [Tryd.underlying3]; rfl) Tryd.underlying62 rfl (Go.IntWalk.u64_in _ (by omega))) rfl rfl rfl ?_
    refine E.WL.val (E.y_shr (m := 1) rfl rfl (by decide)) rfl rfl rfl ?_
    refine E.WL.as 22 rfl (show _ = Value.int .u64 (((i + j) / 2 : Nat) : Int) from by congr 1) ?_
    refine E.WL.val (E.y_conv (by rw [Tryd.underlying62]; rfl) Tryd.underlying3 rfl (Go.IntWalk.i64_in _ (by omega))) rfl rfl rfl ?_
    refine E.WL.val (E.y_assign rfl) rfl rfl rfl ?_
    refine E.WL.done ?_
    refine E.KQ.then_n ?_
    refine E.W.seq ?_
    refine E.W.region ?_
    refine E.WL.val (E.y_move rfl) rfl rfl rfl ?_
    refine E.WL.val (E.y_move rfl) rfl rfl rfl ?_
    have hhl : (i + j) / 2 < xs.length := by omega
    obtain ⟨q, cs, hA, _, hl, hat, hr⟩ := hg ((i + j) / 2) hhl
    subst hA
    replace hat := hat.ext hb.below
    replace hr := RFile.goes.stays hr (Stays.ext hb.below)
    refine E.WL.val (E.y_move rfl) rfl rfl rfl ?_
    refine E.WL.val (E.y_idxS Tryd.underlying25 Tryd.sizeOf51 rfl rfl (by omega) (by omega)) rfl rfl rfl ?_
    refine E.WL.val (E.y_load rfl (E.At.ldk Tryd.isAgg51 Tryd.sizeOf51 hat hl)) rfl rfl rfl ?_
    refine E.WL.val (E.y_move rfl) rfl rfl rfl ?_
    refine E.WL.callv (cmpFile_calls hr s) rfl Tryd.call49 rfl rfl rfl rfl ?_
    rintro _ w2 ⟨rfl, hX⟩
    replace hb := hb.ext hX
    clear hX
    refine E.WL.val (E.y_lss rfl rfl) rfl rfl rfl ?_
    refine E.WL.done ?_
    refine E.KQ.then_n ?_
    refine E.W.condT 31 rfl (fun hc31 => ?_) (fun hc31 => ?_)
    · skip
      have hl31 : lessAt (xs.map FileD.name) s ((i + j) / 2) = true := by rw [lessAt_get (by rw [hml]; exact hhl)]; simpa using hc31
      have hn1 : (i + j) / 2 + 1 ≤ j := by omega
      have hn2 : j ≤ xs.length := hjn
      have hn3 := hpos.trans (bsI_up hij' hl31)
      have hn4 : j - ((i + j) / 2 + 1) < j - i := by omega
      let nxt : Nat × Nat := ((i + j) / 2 + 1, j)
      refine E.W.region ?_
      refine E.WL.val (E.y_move rfl) rfl rfl rfl ?_
      refine E.WL.val (E.y_add rfl rfl (Go.IntWalk.i64_in _ (by omega))) rfl rfl rfl ?_
      refine E.WL.val (E.y_assign rfl) rfl rfl rfl ?_
      refine E.WL.done ?_
      refine E.KQ.block_n ?_
      refine E.KQ.next (ι := Nat × Nat) nxt (by exact .cons rfl (.cons rfl (.cons rfl (.cons rfl (.cons rfl (.cons rfl .nil)))))) ⟨hb, hn1, hn2, hn3⟩ hn4
    · skip
      have hl31 : lessAt (xs.map FileD.name) s ((i + j) / 2) = false := by rw [lessAt_get (by rw [hml]; exact hhl)]; simpa using hc31
      have hn1 : i ≤ (i + j) / 2 := by omega
      have hn2 : (i + j) / 2 ≤ xs.length := by omega
      have hn3 := hpos.trans (bsI_down hij' hl31)
      have hn4 : (i + j) / 2 - i < j - i := by omega
      let nxt : Nat × Nat := (i, (i + j) / 2)
      refine E.W.region ?_
      refine E.WL.val (E.y_move rfl) rfl rfl rfl ?_
      refine E.WL.val (E.y_assign rfl) rfl rfl rfl ?_
      refine E.WL.done ?_
      refine E.KQ.block_n ?_
      refine E.KQ.next (ι := Nat × Nat) nxt (by exact .cons rfl (.cons rfl (.cons rfl (.cons rfl (.cons rfl (.cons rfl .nil)))))) ⟨hb, hn1, hn2, hn3⟩ hn4
  · replace hc17 := of_decide_eq_false hc17
    have hij' : ¬ i < j := by have := hc17; simp only at this; omega
    rw [bsI_end hij'] at hpos
    refine E.W.exit ?_
    refine E.KQ.then_e ?_
    refine E.KQ.loop_e ?_
    refine E.KQ.block_e ?_
    refine E.KQ.then_n ?_
    refine E.W.seq ?_
    refine E.W.region ?_
    refine E.WL.val (E.y_move rfl) rfl rfl rfl ?_
    refine E.WL.val (E.y_move rfl) rfl rfl rfl ?_
    refine E.WL.val (E.y_move rfl) rfl rfl rfl ?_
    refine E.WL.val (E.y_lss rfl rfl) rfl rfl rfl ?_
    refine E.WL.val (E.y_move rfl) rfl rfl rfl ?_
    refine E.WL.split 39 rfl (fun h39 => ?_) (fun h39 => ?_)
    · replace h39 : i < xs.length := by have := of_decide_eq_true h39; simp only at this; omega
      obtain ⟨q, cs, hA, _, hl, hat, hr⟩ := hg i h39
      subst hA
      replace hat := hat.ext hb.below
      replace hr := RFile.goes.stays hr (Stays.ext hb.below)
      have hfin : hasB (xs.map FileD.name) s = decide (cmpB xs[i].name s = 0) := by unfold hasB; rw [hpos, hitAt_get (by rw [hml]; exact h39)]; simp only [List.getElem_map]
      refine E.WL.val (E.y_move rfl) rfl rfl rfl ?_
      refine E.WL.val (E.y_move rfl) rfl rfl rfl ?_
      refine E.WL.val (E.y_move rfl) rfl rfl rfl ?_
      refine E.WL.val (E.y_idxS Tryd.underlying25 Tryd.sizeOf51 rfl rfl (by omega) (by omega)) rfl rfl rfl ?_
      refine E.WL.val (E.y_load rfl (E.At.ldk Tryd.isAgg51 Tryd.sizeOf51 hat hl)) rfl rfl rfl ?_
      refine E.WL.val (E.y_move rfl) rfl rfl rfl ?_
      refine E.WL.callv (cmpFile_calls hr s) rfl Tryd.call49 rfl rfl rfl rfl ?_
      rintro _ w3 ⟨rfl, hX⟩
      replace hb := hb.ext hX
      clear hX
      refine E.WL.val (E.y_eql rfl rfl) rfl rfl rfl ?_
      refine E.WL.val (E.y_pick_t rfl rfl) rfl rfl rfl ?_
      refine E.WL.val (E.y_assign rfl) rfl rfl rfl ?_
      refine E.WL.val (E.y_assign rfl) rfl rfl rfl ?_
      refine E.WL.done ?_
      refine E.KQ.then_n ?_
      refine E.W.ret ?_
      refine E.KQ.ret2 Tryd.results48 rfl rfl ?_
      exact ⟨_, rfl, by rw [hfin, hpos], hb.below⟩
    · replace h39 : ¬ i < xs.length := by have := of_decide_eq_false h39; simp only at this; omega
      have hfin : hasB (xs.map FileD.name) s = false := by unfold hasB; rw [hpos]; exact hitAt_none (by rw [hml]; exact h39)
      refine E.WL.off rfl rfl rfl ?_
      refine E.WL.off rfl rfl rfl ?_
      refine E.WL.off rfl rfl rfl ?_
      refine E.WL.off rfl rfl rfl ?_
      refine E.WL.off rfl rfl rfl ?_
      refine E.WL.off rfl rfl rfl ?_
      refine E.WL.off rfl rfl rfl ?_
      refine E.WL.off rfl rfl rfl ?_
      refine E.WL.val (E.y_pick_f rfl rfl) rfl rfl rfl ?_
      refine E.WL.val (E.y_assign rfl) rfl rfl rfl ?_
      refine E.WL.val (E.y_assign rfl) rfl rfl rfl ?_
      refine E.WL.done ?_
      refine E.KQ.then_n ?_
      refine E.W.ret ?_
      refine E.KQ.ret2 Tryd.results48 rfl rfl ?_
      exact ⟨_, rfl, by rw [hfin, hpos], hb.below⟩
end Go.Proofs.YtmnnbnajnfdncaaDoor
