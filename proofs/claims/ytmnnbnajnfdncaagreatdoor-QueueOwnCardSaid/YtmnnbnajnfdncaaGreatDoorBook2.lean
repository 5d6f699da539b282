/- Walks: book, second part: where a name is, what is on a node. -/
import Derived.Test.YtmnnbnajnfdncaaGreatDoorD3
import Derived.Test.YtmnnbnajnfdncaaGreatDoorP5
import Derived.Test.YtmnnbnajnfdncaaGreatDoorBook1
set_option linter.unusedVariables false
set_option linter.unusedSimpArgs false
namespace Go.Proofs.YtmnnbnajnfdncaaGreatDoor
open Go.RowKit E
def thereTake (b : BookD) (s : ByteArray) (k : Nat) : List TaskD := (b.binds.take k).flatMap (thereOf b.tasks s)
theorem Ext.more {w0 w w' : World} {row : Option Nat} (h : Ext w0 w) (hg : w.grownBy w' row) (hr : ∀ k, row = some k → w0.heap.size ≤ k) : Ext w0 w' := grown_below h hg h.size hr
set_option maxHeartbeats 400000 in
theorem node_calls {F : FP} {w : World} {K : Nat} {cs : List Value} {b : BookD} (hK : At w ⟨K, 0, none⟩ cs) (h : RBook F w cs b) (s : ByteArray) :
    Calls Tryz.prog 44 #[(.pointer (some ⟨K, 0, none⟩)), (.string s)] w (Ret fun u w' => u = .tuple #[.int .i64 (posB (nodeNames b) s : Nat), .bool (hasB (nodeNames b) s)] ∧ Ext w w') := by
  obtain ⟨vn, vt, vb, rfl, hn, ht, hbi⟩ := id h
  have hb := E.Bx.start w (base := w.heap.size) (Nat.le_refl _)
  refine E.enter Tryz.func44 rfl Tryz.ntmps44 [(.pointer (some ⟨K, 0, none⟩)), (.string s)] rfl ?_
  refine E.W.seq ?_
  refine E.W.region ?_
  refine E.WL.val (E.y_assign rfl) rfl rfl rfl ?_
  refine E.WL.val (E.y_assign rfl) rfl rfl rfl ?_
  refine E.WL.done ?_
  refine E.KQ.then_n ?_
  refine E.W.seq ?_
  refine E.W.region ?_
  refine E.WL.val (E.y_move rfl) rfl rfl rfl ?_
  refine E.WL.val (E.y_nilCheck rfl) rfl rfl rfl ?_
  refine E.WL.val (E.y_fld Tryz.underlying66 rfl Tryz.sizeOf27 rfl) rfl rfl rfl ?_
  refine E.WL.val (E.y_fld Tryz.underlying27 rfl Tryz.sizeOf22 rfl) rfl rfl rfl ?_
  refine E.WL.val (E.y_load rfl (E.At.ld1 Tryz.isAgg22 (hK.ext hb.below) 0 rfl)) rfl rfl rfl ?_
  refine E.WL.val (E.y_move rfl) rfl rfl rfl ?_
  refine E.WL.call (searchNode_calls (hn.ext RNode.goes hb.below) s) Tryz.call81 rfl rfl rfl ?_
  rintro _ w1 ⟨rfl, hX⟩
  replace hb := hb.ext hX
  clear hX
  refine E.WL.val (E.y_extract rfl rfl) rfl rfl rfl ?_
  refine E.WL.val (E.y_extract rfl rfl) rfl rfl rfl ?_
  refine E.WL.val (E.y_assign rfl) rfl rfl rfl ?_
  refine E.WL.val (E.y_assign rfl) rfl rfl rfl ?_
  refine E.WL.done ?_
  refine E.KQ.then_n ?_
  refine E.W.ret ?_
  refine E.KQ.ret2 Tryz.results44 rfl rfl ?_
  exact ⟨_, rfl, rfl, hb.below⟩

set_option maxHeartbeats 400000 in
theorem task_calls {F : FP} {w : World} {K : Nat} {cs : List Value} {b : BookD} (hK : At w ⟨K, 0, none⟩ cs) (h : RBook F w cs b) (s : ByteArray) :
    Calls Tryz.prog 45 #[(.pointer (some ⟨K, 0, none⟩)), (.string s)] w (Ret fun u w' => u = .tuple #[.int .i64 (posB (taskNames b) s : Nat), .bool (hasB (taskNames b) s)] ∧ Ext w w') := by
  obtain ⟨vn, vt, vb, rfl, hn, ht, hbi⟩ := id h
  have hb := E.Bx.start w (base := w.heap.size) (Nat.le_refl _)
  refine E.enter Tryz.func45 rfl Tryz.ntmps45 [(.pointer (some ⟨K, 0, none⟩)), (.string s)] rfl ?_
  refine E.W.seq ?_
  refine E.W.region ?_
  refine E.WL.val (E.y_assign rfl) rfl rfl rfl ?_
  refine E.WL.val (E.y_assign rfl) rfl rfl rfl ?_
  refine E.WL.done ?_
  refine E.KQ.then_n ?_
  refine E.W.seq ?_
  refine E.W.region ?_
  refine E.WL.val (E.y_move rfl) rfl rfl rfl ?_
  refine E.WL.val (E.y_nilCheck rfl) rfl rfl rfl ?_
  refine E.WL.val (E.y_fld Tryz.underlying66 rfl Tryz.sizeOf27 rfl) rfl rfl rfl ?_
  refine E.WL.val (E.y_fld Tryz.underlying27 rfl Tryz.sizeOf23 rfl) rfl rfl rfl ?_
  refine E.WL.val (E.y_load rfl (E.At.ld1 Tryz.isAgg23 (hK.ext hb.below) 1 rfl)) rfl rfl rfl ?_
  refine E.WL.val (E.y_move rfl) rfl rfl rfl ?_
  refine E.WL.call (searchTask_calls (ht.ext RTask.goes hb.below) s) Tryz.call83 rfl rfl rfl ?_
  rintro _ w1 ⟨rfl, hX⟩
  replace hb := hb.ext hX
  clear hX
  refine E.WL.val (E.y_extract rfl rfl) rfl rfl rfl ?_
  refine E.WL.val (E.y_extract rfl rfl) rfl rfl rfl ?_
  refine E.WL.val (E.y_assign rfl) rfl rfl rfl ?_
  refine E.WL.val (E.y_assign rfl) rfl rfl rfl ?_
  refine E.WL.done ?_
  refine E.KQ.then_n ?_
  refine E.W.ret ?_
  refine E.KQ.ret2 Tryz.results45 rfl rfl ?_
  exact ⟨_, rfl, rfl, hb.below⟩

set_option maxHeartbeats 400000 in
theorem bind_calls {F : FP} {w : World} {K : Nat} {cs : List Value} {b : BookD} (hK : At w ⟨K, 0, none⟩ cs) (h : RBook F w cs b) (s : ByteArray) :
    Calls Tryz.prog 60 #[(.pointer (some ⟨K, 0, none⟩)), (.string s)] w (Ret fun u w' => u = .tuple #[.int .i64 (posB (bindNames b) s : Nat), .bool (hasB (bindNames b) s)] ∧ Ext w w') := by
  obtain ⟨vn, vt, vb, rfl, hn, ht, hbi⟩ := id h
  have hb := E.Bx.start w (base := w.heap.size) (Nat.le_refl _)
  refine E.enter Tryz.func60 rfl Tryz.ntmps60 [(.pointer (some ⟨K, 0, none⟩)), (.string s)] rfl ?_
  refine E.W.seq ?_
  refine E.W.region ?_
  refine E.WL.val (E.y_assign rfl) rfl rfl rfl ?_
  refine E.WL.val (E.y_assign rfl) rfl rfl rfl ?_
  refine E.WL.done ?_
  refine E.KQ.then_n ?_
  refine E.W.seq ?_
  refine E.W.region ?_
  refine E.WL.val (E.y_move rfl) rfl rfl rfl ?_
  refine E.WL.val (E.y_nilCheck rfl) rfl rfl rfl ?_
  refine E.WL.val (E.y_fld Tryz.underlying66 rfl Tryz.sizeOf27 rfl) rfl rfl rfl ?_
  refine E.WL.val (E.y_fld Tryz.underlying27 rfl Tryz.sizeOf24 rfl) rfl rfl rfl ?_
  refine E.WL.val (E.y_load rfl (E.At.ld1 Tryz.isAgg24 (hK.ext hb.below) 2 rfl)) rfl rfl rfl ?_
  refine E.WL.val (E.y_move rfl) rfl rfl rfl ?_
  refine E.WL.call (searchBind_calls (hbi.ext RBind.goes hb.below) s) Tryz.call94 rfl rfl rfl ?_
  rintro _ w1 ⟨rfl, hX⟩
  replace hb := hb.ext hX
  clear hX
  refine E.WL.val (E.y_extract rfl rfl) rfl rfl rfl ?_
  refine E.WL.val (E.y_extract rfl rfl) rfl rfl rfl ?_
  refine E.WL.val (E.y_assign rfl) rfl rfl rfl ?_
  refine E.WL.val (E.y_assign rfl) rfl rfl rfl ?_
  refine E.WL.done ?_
  refine E.KQ.then_n ?_
  refine E.W.ret ?_
  refine E.KQ.ret2 Tryz.results60 rfl rfl ?_
  exact ⟨_, rfl, rfl, hb.below⟩

set_option maxHeartbeats 1000000 in
theorem there_calls {F : FP} {w : World} {K : Nat} {cs : List Value} {b : BookD} (hK : At w ⟨K, 0, none⟩ cs) (h : RBook F w cs b) (hbl : b.binds.length ≤ 32) (s : ByteArray) :
    Calls Tryz.prog 57 #[(.pointer (some ⟨K, 0, none⟩)), (.string s)] w (Ret fun u w' => (∃ v, u = v ∧ RTasks Any w' v (thereB b s)) ∧ Ext w w') := by
  obtain ⟨vn, vt, vb, rfl, hn, ht, hbi⟩ := id h
  obtain ⟨Ab, cb, rfl, hcb, hbyb, hgb⟩ := hbi.open_
  obtain ⟨At', ct, rfl, hct, hbyt, hgt⟩ := ht.open_
  have hb := E.Bx.start w (base := w.heap.size) (Nat.le_refl _)
  refine E.enter Tryz.func57 rfl Tryz.ntmps57 [(.pointer (some ⟨K, 0, none⟩)), (.string s)] rfl ?_
  refine E.W.seq ?_
  refine E.W.region ?_
  refine E.WL.val (E.y_assign rfl) rfl rfl rfl ?_
  refine E.WL.done ?_
  refine E.KQ.then_n ?_
  refine E.W.seq ?_
  refine E.W.region ?_
  refine E.WL.val (E.y_assign rfl) rfl rfl rfl ?_
  refine E.WL.done ?_
  refine E.KQ.then_n ?_
  refine E.W.seq ?_
  refine E.W.seq ?_
  refine E.W.region ?_
  refine E.WL.val (E.y_move rfl) rfl rfl rfl ?_
  refine E.WL.val (E.y_nilCheck rfl) rfl rfl rfl ?_
  refine E.WL.val (E.y_fld Tryz.underlying66 rfl Tryz.sizeOf27 rfl) rfl rfl rfl ?_
  refine E.WL.val (E.y_fld Tryz.underlying27 rfl Tryz.sizeOf24 rfl) rfl rfl rfl ?_
  refine E.WL.val (E.y_load rfl (E.At.ld1 Tryz.isAgg24 (hK.ext hb.below) 2 rfl)) rfl rfl rfl ?_
  refine E.WL.val (E.y_lenS Tryz.underlying24 rfl) rfl rfl rfl ?_
  refine E.WL.val (E.y_move rfl) rfl rfl rfl ?_
  refine E.WL.done ?_
  refine E.KQ.then_n ?_
  refine E.W.block ?_
  refine E.W.loop (ι := Nat × Value × List Value) (fun κ => [(0, .pointer (some ⟨K, 0, none⟩)), (1, .string s), (5, κ.2.1), (14, .slice Ab b.binds.length cb), (15, .int .i64 b.binds.length), (16, .int .i64 (κ.1 : Nat))]) (fun κ w' => E.Ext w w' ∧ κ.1 ≤ b.binds.length ∧ w'.ownsRow w.heap.size 34 9 κ.2.1 (thereTake b s κ.1).length κ.2.2 ∧ Rows RTask Any w 9 κ.2.2 (thereTake b s κ.1)) (fun κ => b.binds.length - κ.1) ((0, .slice none 0 0, [])) (by exact (.cons rfl (.cons rfl (.cons rfl (.cons rfl (.cons rfl (.cons rfl .nil))))))) ⟨hb.below, Nat.zero_le _, World.ownsRow_nil _ _ _ _, Rows.nil⟩ (fun κ w1 hJ => ?_)
  clear hb
  obtain ⟨k, v, news⟩ := κ
  obtain ⟨hE, hk, own, rows⟩ := hJ
  simp only at hk own rows
  have hb := E.Bx.start w1 (base := w1.heap.size) (Nat.le_refl _)
  have h2 := RBook.goes.stays h (Stays.ext hE)
  replace hK := hK.ext hE
  refine E.W.seq ?_
  refine E.W.region ?_
  refine E.WL.val (E.y_lss rfl rfl) rfl rfl rfl ?_
  refine E.WL.done ?_
  refine E.KQ.then_n ?_
  refine E.W.seq ?_
  refine E.W.condT 17 rfl (fun hc17 => ?_) (fun hc17 => ?_)
  · replace hc17 := of_decide_eq_true hc17
    refine E.W.skip ?_
    refine E.KQ.then_n ?_
    refine E.W.seq ?_
    refine E.W.block ?_
    refine E.W.seq ?_
    refine E.W.region ?_
    have hkl : k < b.binds.length := by omega
    obtain ⟨q, cs, hA, _, hl, hat, hr⟩ := hgb k hkl
    subst hA
    unfold RBind at hr
    subst hr
    replace hat := hat.ext (hE.trans hb.below)
    refine E.WL.val (E.y_idxS Tryz.underlying24 Tryz.sizeOf47 rfl rfl (by omega) (by omega)) rfl rfl rfl ?_
    refine E.WL.val (E.y_load rfl (E.At.ldk Tryz.isAgg47 Tryz.sizeOf47 hat rfl)) rfl rfl rfl ?_
    refine E.WL.alloc hb Tryz.zeroValue47 rfl rfl rfl ?_
    clear hb; intro B2 w3 hb _ _
    refine E.WL.storeW hb 0 rfl rfl rfl Tryz.sizeOf47 rfl rfl rfl (E.allOne rfl) rfl ?_
    clear hb; intro w4 hb _
    refine E.WL.done ?_
    refine E.KQ.then_n ?_
    refine E.W.seq ?_
    refine E.W.region ?_
    refine E.WL.val (E.y_move rfl) rfl rfl rfl ?_
    refine E.WL.val (E.y_fld Tryz.underlying47 rfl Tryz.sizeOf9 rfl) rfl rfl rfl ?_
    refine E.WL.val (E.y_load rfl (E.At.ld1 Tryz.isAgg9 (hb.at0 0 rfl) 0 rfl)) rfl rfl rfl ?_
    refine E.WL.call (task_calls (hK.ext hb.below) (RBook.goes.stays h2 (Stays.ext hb.below)) b.binds[k].task) Tryz.call45 rfl rfl rfl ?_
    rintro _ w5 ⟨rfl, hX⟩
    replace hb := hb.ext hX
    clear hX
    refine E.WL.val (E.y_move rfl) rfl rfl rfl ?_
    refine E.WL.val (E.y_extract rfl rfl) rfl rfl rfl ?_
    refine E.WL.val (E.y_extract rfl rfl) rfl rfl rfl ?_
    refine E.WL.val (E.y_assign rfl) rfl rfl rfl ?_
    refine E.WL.val (E.y_assign rfl) rfl rfl rfl ?_
    refine E.WL.done ?_
    refine E.KQ.then_n ?_
    refine E.W.seq ?_
    refine E.W.region ?_
    refine E.WL.val (E.y_move rfl) rfl rfl rfl ?_
    refine E.WL.val (E.y_move rfl) rfl rfl rfl ?_
    refine E.WL.split 28 rfl (fun h28 => ?_) (fun h28 => ?_)
    · skip
      refine E.WL.val (E.y_fld Tryz.underlying47 rfl Tryz.sizeOf9 rfl) rfl rfl rfl ?_
      refine E.WL.val (E.y_load rfl (E.At.ld1 Tryz.isAgg9 (hb.at0 0 rfl) 1 rfl)) rfl rfl rfl ?_
      refine E.WL.val (E.y_move rfl) rfl rfl rfl ?_
      refine E.WL.val (E.y_seql rfl rfl) rfl rfl rfl ?_
      refine E.WL.val (E.y_pick_t rfl rfl) rfl rfl rfl ?_
      refine E.WL.done ?_
      refine E.KQ.then_n ?_
      refine E.W.condT 33 rfl (fun h33 => ?_) (fun h33 => ?_)
      · replace h33 := of_decide_eq_true h33
        have hpl : posB (taskNames b) b.binds[k].task < b.tasks.length := by have := hasB_lt h28; simpa [taskNames] using this
        have hth : thereOf b.tasks s b.binds[k] = [b.tasks[posB (taskNames b) b.binds[k].task]] := thereOf_hit h28 h33 hpl
        refine E.W.region ?_
        refine E.WL.val (E.y_move rfl) rfl rfl rfl ?_
        refine E.WL.val (E.y_move rfl) rfl rfl rfl ?_
        refine E.WL.val (E.y_nilCheck rfl) rfl rfl rfl ?_
        refine E.WL.val (E.y_fld Tryz.underlying66 rfl Tryz.sizeOf27 rfl) rfl rfl rfl ?_
        refine E.WL.val (E.y_fld Tryz.underlying27 rfl Tryz.sizeOf23 rfl) rfl rfl rfl ?_
        refine E.WL.val (E.y_load rfl (E.At.ld1 Tryz.isAgg23 (hK.ext hb.below) 1 rfl)) rfl rfl rfl ?_
        refine E.WL.val (E.y_move rfl) rfl rfl rfl ?_
        obtain ⟨q', cs', hA', _, hl', hat', hr'⟩ := hgt _ hpl
        subst hA'
        have hrA := RTask.goes.mono hr' (G := Any) (fun _ _ _ => trivial)
        have hone := hr'.one
        obtain ⟨vl, vw, rfl, _, _⟩ := hr'
        replace hat' := hat'.ext (hE.trans hb.below)
        refine E.WL.val (E.y_idxS Tryz.underlying23 Tryz.sizeOf34 rfl rfl (by omega) (by omega)) rfl rfl rfl ?_
        refine E.WL.val (E.y_load rfl (E.At.ldk Tryz.isAgg34 Tryz.sizeOf34 hat' rfl)) rfl rfl rfl ?_
        refine E.WL.mkslice (T := 34) (cs := [.string b.tasks[posB (taskNames b) b.binds[k].task].name, .int .i64 b.tasks[posB (taskNames b) b.binds[k].task].n0, .int .i64 b.tasks[posB (taskNames b) b.binds[k].task].n1, .int .i64 b.tasks[posB (taskNames b) b.binds[k].task].n2, vl, vw, .string b.tasks[posB (taskNames b) b.binds[k].task].group, .string b.tasks[posB (taskNames b) b.binds[k].task].apart, .int .i64 b.tasks[posB (taskNames b) b.binds[k].task].rank]) hb rfl (fun _ => by kernel_rfl) rfl rfl ?_
        clear hb; intro B6 w7 hb _ _
        have own5 := E.ownsRow_ext own hb.below
        refine E.WL.append Tryz.underlying23 (i := Tryz.t34) (size := 9) (bytes := 128) (by kernel_rfl) rfl rfl rfl rfl (by decide) (v := v) rfl rfl own5 (hb.at0 0 rfl) rfl hone (by have := there_le b.tasks s (b.binds.take k); rw [List.length_take] at this; simp only [thereTake]; omega) (by decide) (Nat.le_trans hE.size hb.le) rfl rfl (fun v' w6 own6 hg6 _ => ?_)
        have hE6 : E.Ext w w6 := Ext.more (hE.trans hb.below) hg6 (fun k hk => (own5.lt k hk).1)
        refine E.WL.val (E.y_assign rfl) rfl rfl rfl ?_
        refine E.WL.done ?_
        refine E.KQ.block_n ?_
        refine E.KQ.then_n ?_
        refine E.W.region ?_
        refine E.WL.val (E.y_add rfl rfl (Go.IntWalk.i64_in _ (by omega))) rfl rfl rfl ?_
        refine E.WL.val (E.y_move rfl) rfl rfl rfl ?_
        refine E.WL.done ?_
        replace hb := hb.drop (List.Sublist.cons _ (List.Sublist.cons _ (List.Sublist.refl _)))
        have hlen : (thereTake b s (k + 1)).length = (thereTake b s k).length + 1 := by unfold thereTake; rw [there_take hkl, hth]; simp
        exact E.KQ.next (ι := Nat × Value × List Value) (k + 1, v', news ++ _) (by exact .cons rfl (.cons rfl (.cons rfl (.cons rfl (.cons rfl (.cons rfl .nil)))))) ⟨hE6, by omega, by rw [hlen]; exact own6, by unfold thereTake; rw [there_take hkl, hth]; exact rows.app (Rows.one hrA rfl)⟩ (by show b.binds.length - (k + 1) < b.binds.length - k; omega)
      · replace h33 := of_decide_eq_false h33
        have hth : thereOf b.tasks s b.binds[k] = [] := thereOf_other h33
        refine E.W.skip ?_
        refine E.KQ.block_n ?_
        refine E.KQ.then_n ?_
        refine E.W.region ?_
        refine E.WL.val (E.y_add rfl rfl (Go.IntWalk.i64_in _ (by omega))) rfl rfl rfl ?_
        refine E.WL.val (E.y_move rfl) rfl rfl rfl ?_
        refine E.WL.done ?_
        replace hb := hb.drop (List.Sublist.cons _ (List.Sublist.refl _))
        have hsame : thereTake b s (k + 1) = thereTake b s k := by unfold thereTake; rw [there_take hkl, hth]; simp
        exact E.KQ.next (ι := Nat × Value × List Value) (k + 1, v, news) (by exact .cons rfl (.cons rfl (.cons rfl (.cons rfl (.cons rfl (.cons rfl .nil)))))) ⟨hE.trans hb.below, by omega, by rw [hsame]; exact E.ownsRow_ext own hb.below, by rw [hsame]; exact rows⟩ (by show b.binds.length - (k + 1) < b.binds.length - k; omega)
    · skip
      have hth : thereOf b.tasks s b.binds[k] = [] := thereOf_off h28
      refine E.WL.off rfl rfl rfl ?_
      refine E.WL.off rfl rfl rfl ?_
      refine E.WL.off rfl rfl rfl ?_
      refine E.WL.off rfl rfl rfl ?_
      refine E.WL.val (E.y_pick_f rfl rfl) rfl rfl rfl ?_
      refine E.WL.done ?_
      refine E.KQ.then_n ?_
      refine E.W.cond_f rfl ?_
      refine E.W.skip ?_
      refine E.KQ.block_n ?_
      refine E.KQ.then_n ?_
      refine E.W.region ?_
      refine E.WL.val (E.y_add rfl rfl (Go.IntWalk.i64_in _ (by omega))) rfl rfl rfl ?_
      refine E.WL.val (E.y_move rfl) rfl rfl rfl ?_
      refine E.WL.done ?_
      replace hb := hb.drop (List.Sublist.cons _ (List.Sublist.refl _))
      have hsame : thereTake b s (k + 1) = thereTake b s k := by unfold thereTake; rw [there_take hkl, hth]; simp
      exact E.KQ.next (ι := Nat × Value × List Value) (k + 1, v, news) (by exact .cons rfl (.cons rfl (.cons rfl (.cons rfl (.cons rfl (.cons rfl .nil)))))) ⟨hE.trans hb.below, by omega, by rw [hsame]; exact E.ownsRow_ext own hb.below, by rw [hsame]; exact rows⟩ (by show b.binds.length - (k + 1) < b.binds.length - k; omega)
  · replace hc17 := of_decide_eq_false hc17
    have hke : thereTake b s k = thereB b s := by unfold thereTake thereB; rw [List.take_of_length_le (by omega)]
    rw [hke] at own rows
    refine E.W.exit ?_
    refine E.KQ.then_e ?_
    refine E.KQ.loop_e ?_
    refine E.KQ.block_e ?_
    refine E.KQ.then_n ?_
    refine E.W.seq ?_
    refine E.W.region ?_
    refine E.WL.val (E.y_move rfl) rfl rfl rfl ?_
    refine E.WL.val (E.y_assign rfl) rfl rfl rfl ?_
    refine E.WL.done ?_
    refine E.KQ.then_n ?_
    refine E.W.ret ?_
    refine E.KQ.ret1 Tryz.results57 rfl ?_
    exact ⟨_, rfl, ⟨_, rfl, ownsRow_rdS (E.ownsRow_ext own hb.below) (rows.to fun cs x hx => RTask.goes.stays hx (Stays.ext (hE.trans hb.below))) (fun _ _ _ _ _ => trivial) (by have := there_le b.tasks s b.binds; unfold thereB; omega)⟩, hE.trans hb.below⟩

set_option maxHeartbeats 400000 in
theorem bound_calls {F : FP} {w : World} {K : Nat} {cs : List Value} {b : BookD} {C : Nat} (hC : At w ⟨C, 0, none⟩ [.pointer (some ⟨K, 0, none⟩)]) (hK : At w ⟨K, 0, none⟩ cs) (h : RBook F w cs b) {G : FP} {cx : List Value} {x : BindD} (hx : RBind G w cx x) :
    Calls Tryz.prog 43 #[(.agg cx.toArray), (.pointer (some ⟨C, 0, none⟩))] w (Ret fun u w' => u = .bool (!boundB b x) ∧ Ext w w') := by
  unfold RBind at hx
  subst hx
  have hb := E.Bx.start w (base := w.heap.size) (Nat.le_refl _)
  refine E.enter Tryz.func43 rfl Tryz.ntmps43 [(.agg #[.string x.task, .string x.node]), (.pointer (some ⟨C, 0, none⟩))] rfl ?_
  refine E.W.seq ?_
  refine E.W.region ?_
  refine E.WL.box hb rfl rfl rfl rfl ?_
  clear hb; intro B1 w2 hb _ _
  refine E.WL.val (E.y_assign rfl) rfl rfl rfl ?_
  refine E.WL.done ?_
  refine E.KQ.then_n ?_
  refine E.W.seq ?_
  refine E.W.region ?_
  refine E.WL.val (E.y_load rfl (E.At.ld0 Tryz.isAgg64 (hC.ext hb.below) rfl)) rfl rfl rfl ?_
  refine E.WL.val (E.y_fld Tryz.underlying47 rfl Tryz.sizeOf9 rfl) rfl rfl rfl ?_
  refine E.WL.val (E.y_load rfl (E.At.ld1 Tryz.isAgg9 (hb.at0 0 rfl) 1 rfl)) rfl rfl rfl ?_
  refine E.WL.call (node_calls (hK.ext hb.below) (RBook.goes.stays h (Stays.ext hb.below)) x.node) Tryz.call44 rfl rfl rfl ?_
  rintro _ w3 ⟨rfl, hX⟩
  replace hb := hb.ext hX
  clear hX
  refine E.WL.val (E.y_move rfl) rfl rfl rfl ?_
  refine E.WL.val (E.y_extract rfl rfl) rfl rfl rfl ?_
  refine E.WL.val (E.y_extract rfl rfl) rfl rfl rfl ?_
  refine E.WL.val (E.y_assign rfl) rfl rfl rfl ?_
  refine E.WL.val (E.y_assign rfl) rfl rfl rfl ?_
  refine E.WL.done ?_
  refine E.KQ.then_n ?_
  refine E.W.seq ?_
  refine E.W.region ?_
  refine E.WL.val (E.y_load rfl (E.At.ld0 Tryz.isAgg64 (hC.ext hb.below) rfl)) rfl rfl rfl ?_
  refine E.WL.val (E.y_fld Tryz.underlying47 rfl Tryz.sizeOf9 rfl) rfl rfl rfl ?_
  refine E.WL.val (E.y_load rfl (E.At.ld1 Tryz.isAgg9 (hb.at0 0 rfl) 0 rfl)) rfl rfl rfl ?_
  refine E.WL.call (task_calls (hK.ext hb.below) (RBook.goes.stays h (Stays.ext hb.below)) x.task) Tryz.call45 rfl rfl rfl ?_
  rintro _ w4 ⟨rfl, hX⟩
  replace hb := hb.ext hX
  clear hX
  refine E.WL.val (E.y_move rfl) rfl rfl rfl ?_
  refine E.WL.val (E.y_extract rfl rfl) rfl rfl rfl ?_
  refine E.WL.val (E.y_extract rfl rfl) rfl rfl rfl ?_
  refine E.WL.val (E.y_assign rfl) rfl rfl rfl ?_
  refine E.WL.val (E.y_assign rfl) rfl rfl rfl ?_
  refine E.WL.done ?_
  refine E.KQ.then_n ?_
  refine E.W.seq ?_
  refine E.W.region ?_
  refine E.WL.val (E.y_move rfl) rfl rfl rfl ?_
  refine E.WL.val (E.y_not rfl) rfl rfl rfl ?_
  refine E.WL.val (E.y_move rfl) rfl rfl rfl ?_
  refine E.WL.split 24 rfl (fun h24 => ?_) (fun h24 => ?_)
  · skip
    refine E.WL.off rfl rfl rfl ?_
    refine E.WL.off rfl rfl rfl ?_
    refine E.WL.val (E.y_pick_t rfl rfl) rfl rfl rfl ?_
    refine E.WL.val (E.y_assign rfl) rfl rfl rfl ?_
    refine E.WL.done ?_
    refine E.KQ.then_n ?_
    refine E.W.ret ?_
    refine E.KQ.ret1 Tryz.results43 rfl ?_
    exact ⟨_, rfl, by unfold boundB; simp at h24; simp [h24], hb.below⟩
  · skip
    refine E.WL.val (E.y_move rfl) rfl rfl rfl ?_
    refine E.WL.val (E.y_not rfl) rfl rfl rfl ?_
    refine E.WL.val (E.y_pick_f rfl rfl) rfl rfl rfl ?_
    refine E.WL.val (E.y_assign rfl) rfl rfl rfl ?_
    refine E.WL.done ?_
    refine E.KQ.then_n ?_
    refine E.W.ret ?_
    refine E.KQ.ret1 Tryz.results43 rfl ?_
    exact ⟨_, rfl, by unfold boundB; simp at h24; simp [h24], hb.below⟩

set_option maxHeartbeats 400000 in
theorem wellOne_calls {w : World} {C : Nat} {a u : TaskD} {va vb : Value} (hC : At w ⟨C, 0, none⟩ [.string a.name, .int .i64 a.n0, .int .i64 a.n1, .int .i64 a.n2, va, vb, .string a.group, .string a.apart, .int .i64 a.rank]) {G : FP} {cx : List Value} (hx : RTask G w cx u) :
    Calls Tryz.prog 87 #[(.agg cx.toArray), (.pointer (some ⟨C, 0, none⟩))] w (Ret fun r w' => r = .bool (!bear a u) ∧ Ext w w') := by
  obtain ⟨vl, vt, rfl, hl, ht⟩ := hx
  have hb := E.Bx.start w (base := w.heap.size) (Nat.le_refl _)
  refine E.enter Tryz.func87 rfl Tryz.ntmps87 [(.agg #[.string u.name, .int .i64 u.n0, .int .i64 u.n1, .int .i64 u.n2, vl, vt, .string u.group, .string u.apart, .int .i64 u.rank]), (.pointer (some ⟨C, 0, none⟩))] rfl ?_
  refine E.W.seq ?_
  refine E.W.region ?_
  refine E.WL.box hb rfl rfl rfl rfl ?_
  clear hb; intro B1 w2 hb _ _
  refine E.WL.val (E.y_assign rfl) rfl rfl rfl ?_
  refine E.WL.done ?_
  refine E.KQ.then_n ?_
  refine E.W.seq ?_
  refine E.W.region ?_
  refine E.WL.val (E.y_load rfl (E.At.ldk Tryz.isAgg34 Tryz.sizeOf34 (hC.ext hb.below) rfl)) rfl rfl rfl ?_
  refine E.WL.val (E.y_load rfl (E.At.ldk Tryz.isAgg34 Tryz.sizeOf34 (hb.at0 0 rfl) rfl)) rfl rfl rfl ?_
  refine E.WL.call (bear_calls w2 a u va vb vl vt) Tryz.call88 rfl rfl rfl ?_
  rintro _ w3 ⟨rfl, hX⟩
  replace hb := hb.ext hX
  clear hX
  refine E.WL.val (E.y_not rfl) rfl rfl rfl ?_
  refine E.WL.val (E.y_assign rfl) rfl rfl rfl ?_
  refine E.WL.done ?_
  refine E.KQ.then_n ?_
  refine E.W.ret ?_
  refine E.KQ.ret1 Tryz.results87 rfl ?_
  exact ⟨_, rfl, rfl, hb.below⟩

set_option maxHeartbeats 1000000 in
theorem well_calls {F : FP} {w : World} {K : Nat} {cs : List Value} {b : BookD} (hK : At w ⟨K, 0, none⟩ cs) (h : RBook F w cs b) (hbl : b.binds.length ≤ 32) {G : FP} {cn : List Value} {n : NodeD} (hn : RNode G w cn n) :
    Calls Tryz.prog 47 #[(.pointer (some ⟨K, 0, none⟩)), (.agg cn.toArray)] w (Ret fun u w' => u = .bool (wellB b n) ∧ Ext w w') := by
  obtain ⟨vl, vt, rfl, hnl, hnt⟩ := id hn
  have hb := E.Bx.start w (base := w.heap.size) (Nat.le_refl _)
  refine E.enter Tryz.func47 rfl Tryz.ntmps47 [(.pointer (some ⟨K, 0, none⟩)), (.agg #[.string n.name, .int .i64 n.h0, .int .i64 n.h1, .int .i64 n.h2, vl, vt])] rfl ?_
  refine E.W.seq ?_
  refine E.W.region ?_
  refine E.WL.box hb rfl rfl rfl rfl ?_
  clear hb; intro B1 w2 hb _ _
  refine E.WL.val (E.y_assign rfl) rfl rfl rfl ?_
  refine E.WL.done ?_
  refine E.KQ.then_n ?_
  refine E.W.seq ?_
  refine E.W.region ?_
  refine E.WL.val (E.y_move rfl) rfl rfl rfl ?_
  refine E.WL.val (E.y_fld Tryz.underlying32 rfl Tryz.sizeOf9 rfl) rfl rfl rfl ?_
  refine E.WL.val (E.y_load rfl (E.At.ld1 Tryz.isAgg9 (hb.at0 0 rfl) 0 rfl)) rfl rfl rfl ?_
  refine E.WL.call (there_calls (hK.ext hb.below) (RBook.goes.stays h (Stays.ext hb.below)) hbl n.name) Tryz.call57 rfl rfl rfl ?_
  rintro _ w3 ⟨⟨v, rfl, hl⟩, hX⟩
  replace hb := hb.ext hX
  have hN := hb.at0 0 rfl
  have hE0 := hb.below
  clear hb hX
  have hb := E.Bx.start w3 (base := w3.heap.size) (Nat.le_refl _)
  obtain ⟨A, c, rfl, hc, hby, hg⟩ := hl.open_
  replace hn := RNode.goes.stays hn (Stays.ext hE0)
  refine E.WL.val (E.y_assign rfl) rfl rfl rfl ?_
  refine E.WL.done ?_
  refine E.KQ.then_n ?_
  refine E.W.seq ?_
  refine E.W.region ?_
  refine E.WL.val (E.y_move rfl) rfl rfl rfl ?_
  refine E.WL.call (sum_calls hl) Tryz.call75 rfl rfl rfl ?_
  rintro _ w4 ⟨rfl, hX⟩
  replace hb := hb.ext hX
  clear hX
  refine E.WL.val (E.y_move rfl) rfl rfl rfl ?_
  refine E.WL.val (E.y_extract rfl rfl) rfl rfl rfl ?_
  refine E.WL.val (E.y_extract rfl rfl) rfl rfl rfl ?_
  refine E.WL.alloc hb Tryz.zeroValue29 rfl rfl rfl ?_
  clear hb; intro B5 w6 hb _ _
  refine E.WL.storeW hb 0 rfl rfl rfl Tryz.sizeOf29 rfl rfl rfl (E.allOne rfl) rfl ?_
  clear hb; intro w7 hb _
  refine E.WL.val (E.y_assign rfl) rfl rfl rfl ?_
  refine E.WL.done ?_
  refine E.KQ.then_n ?_
  refine E.W.seq ?_
  refine E.W.seq ?_
  refine E.W.region ?_
  refine E.WL.val (E.y_move rfl) rfl rfl rfl ?_
  refine E.WL.val (E.y_neq rfl rfl) rfl rfl rfl ?_
  refine E.WL.val (E.y_move rfl) rfl rfl rfl ?_
  refine E.WL.split 21 rfl (fun h21 => ?_) (fun h21 => ?_)
  · replace h21 : ¬ (sumP (thereB b n.name)).2 = 0 := by simpa using h21
    have hbad : wellB b n = false := by unfold wellB wellL; rw [decide_eq_false h21]; rfl
    refine E.WL.off rfl rfl rfl ?_
    refine E.WL.off rfl rfl rfl ?_
    refine E.WL.off rfl rfl rfl ?_
    refine E.WL.off rfl rfl rfl ?_
    refine E.WL.off rfl rfl rfl ?_
    refine E.WL.val (E.y_pick_t rfl rfl) rfl rfl rfl ?_
    refine E.WL.done ?_
    refine E.KQ.then_n ?_
    refine E.W.cond_t rfl ?_
    refine E.W.seq ?_
    refine E.W.region ?_
    refine E.WL.val (E.y_assign rfl) rfl rfl rfl ?_
    refine E.WL.done ?_
    refine E.KQ.then_n ?_
    refine E.W.ret ?_
    refine E.KQ.then_r ?_
    refine E.KQ.ret1 Tryz.results47 rfl ?_
    exact ⟨_, rfl, by rw [hbad], E.Ext.trans hE0 hb.below⟩
  · replace h21 : (sumP (thereB b n.name)).2 = 0 := by simpa using h21
    refine E.WL.val (E.y_load rfl (E.At.ldk Tryz.isAgg32 Tryz.sizeOf32 (hN.ext hb.below) rfl)) rfl rfl rfl ?_
    refine E.WL.val (E.y_load rfl (E.At.ldk Tryz.isAgg29 Tryz.sizeOf29 (hb.at0 0 rfl) rfl)) rfl rfl rfl ?_
    refine E.WL.val (E.y_build (v := .agg (three Sum3.zero).toArray) rfl (by kernel_rfl)) rfl rfl rfl ?_
    refine E.WL.call (room_calls (RNode.goes.stays hn (Stays.ext hb.below)) (sumP (thereB b n.name)).1 Sum3.zero) Tryz.call85 rfl rfl rfl ?_
    rintro _ w8 ⟨rfl, hX⟩
    replace hb := hb.ext hX
    clear hX
    refine E.WL.val (E.y_not rfl) rfl rfl rfl ?_
    refine E.WL.val (E.y_pick_f rfl rfl) rfl rfl rfl ?_
    refine E.WL.done ?_
    refine E.KQ.then_n ?_
    refine E.W.condT 27 rfl (fun h27 => ?_) (fun h27 => ?_)
    · skip
      have hbad : wellB b n = false := by unfold wellB wellL; simp at h27; rw [h27]; simp
      refine E.W.seq ?_
      refine E.W.region ?_
      refine E.WL.val (E.y_assign rfl) rfl rfl rfl ?_
      refine E.WL.done ?_
      refine E.KQ.then_n ?_
      refine E.W.ret ?_
      refine E.KQ.then_r ?_
      refine E.KQ.ret1 Tryz.results47 rfl ?_
      exact ⟨_, rfl, by rw [hbad], E.Ext.trans hE0 hb.below⟩
    · skip
      have hroom : roomB n (sumP (thereB b n.name)).1 Sum3.zero = true := by simpa using h27
      refine E.W.skip ?_
      refine E.KQ.then_n ?_
      refine E.W.seq ?_
      refine E.W.seq ?_
      refine E.W.region ?_
      refine E.WL.val (E.y_move rfl) rfl rfl rfl ?_
      refine E.WL.val (E.y_lenS Tryz.underlying23 rfl) rfl rfl rfl ?_
      refine E.WL.val (E.y_move rfl) rfl rfl rfl ?_
      refine E.WL.done ?_
      refine E.KQ.then_n ?_
      refine E.W.block ?_
      refine E.W.loop (ι := Nat) (fun k => [(0, .pointer (some ⟨K, 0, none⟩)), (3, .pointer (some ⟨B1, 0, none⟩)), (5, .slice A (thereB b n.name).length c), (28, .slice A (thereB b n.name).length c), (29, .int .i64 (thereB b n.name).length), (30, .int .i64 (k : Nat))]) (fun k w' => Bx w3.heap.size w3 w' [] ∧ k ≤ (thereB b n.name).length ∧ ∀ i, i < k → wellAt (thereB b n.name) n i = true) (fun k => (thereB b n.name).length - k) (0) (by exact (.cons rfl (.cons rfl (.cons rfl (.cons rfl (.cons rfl (.cons rfl .nil))))))) ⟨hb.drop (List.nil_sublist _), Nat.zero_le _, fun i h' => by omega⟩ (fun k w9 hJ => ?_)
      clear hb
      obtain ⟨hb, hk, hall⟩ := hJ
      refine E.W.seq ?_
      refine E.W.region ?_
      refine E.WL.val (E.y_lss rfl rfl) rfl rfl rfl ?_
      refine E.WL.done ?_
      refine E.KQ.then_n ?_
      refine E.W.seq ?_
      refine E.W.condT 31 rfl (fun hc31 => ?_) (fun hc31 => ?_)
      · replace hc31 := of_decide_eq_true hc31
        refine E.W.skip ?_
        refine E.KQ.then_n ?_
        refine E.W.seq ?_
        refine E.W.block ?_
        refine E.W.seq ?_
        refine E.W.region ?_
        have hkl : k < (thereB b n.name).length := by omega
        obtain ⟨q, cs', hA, _, hl', hat, hr⟩ := hg k hkl
        subst hA
        have hone := hr.one
        have hr2 := hr
        obtain ⟨va, vb, rfl, hw1, hw2⟩ := hr
        replace hat := hat.ext hb.below
        refine E.WL.val (E.y_move rfl) rfl rfl rfl ?_
        refine E.WL.val (E.y_idxS Tryz.underlying23 Tryz.sizeOf34 rfl rfl (by omega) (by omega)) rfl rfl rfl ?_
        refine E.WL.val (E.y_load rfl (E.At.ldk Tryz.isAgg34 Tryz.sizeOf34 hat rfl)) rfl rfl rfl ?_
        refine E.WL.alloc hb Tryz.zeroValue34 rfl rfl rfl ?_
        clear hb; intro B9 w11 hb _ _
        refine E.WL.val (E.y_assign rfl) rfl rfl rfl ?_
        refine E.WL.storeW hb 0 rfl rfl rfl Tryz.sizeOf34 rfl rfl rfl (hone) rfl ?_
        clear hb; intro w12 hb _
        refine E.WL.done ?_
        refine E.KQ.then_n ?_
        refine E.W.seq ?_
        refine E.W.region ?_
        refine E.WL.val (E.y_load rfl (E.At.ldk Tryz.isAgg34 Tryz.sizeOf34 (hb.at0 0 rfl) rfl)) rfl rfl rfl ?_
        refine E.WL.val (E.y_load rfl (E.At.ldk Tryz.isAgg32 Tryz.sizeOf32 (hN.ext hb.below) rfl)) rfl rfl rfl ?_
        refine E.WL.call (suits_calls (RTask.goes.stays hr2 (Stays.ext hb.below)) (RNode.goes.stays hn (Stays.ext hb.below))) Tryz.call86 rfl rfl rfl ?_
        rintro _ w13 ⟨rfl, hX⟩
        replace hb := hb.ext hX
        clear hX
        refine E.WL.val (E.y_not rfl) rfl rfl rfl ?_
        refine E.WL.val (E.y_move rfl) rfl rfl rfl ?_
        refine E.WL.split 39 rfl (fun h39 => ?_) (fun h39 => ?_)
        · replace h39 : suits (thereB b n.name)[k] n = false := by simpa using h39
          have hbad : wellB b n = false := by unfold wellB wellL; rw [all_range_not hkl (by rw [wellAt_get hkl, h39]; rfl)]; simp
          refine E.WL.off rfl rfl rfl ?_
          refine E.WL.off rfl rfl rfl ?_
          refine E.WL.off rfl rfl rfl ?_
          refine E.WL.off rfl rfl rfl ?_
          refine E.WL.off rfl rfl rfl ?_
          refine E.WL.val (E.y_pick_t rfl rfl) rfl rfl rfl ?_
          refine E.WL.done ?_
          refine E.KQ.then_n ?_
          refine E.W.cond_t rfl ?_
          refine E.W.seq ?_
          refine E.W.region ?_
          refine E.WL.val (E.y_assign rfl) rfl rfl rfl ?_
          refine E.WL.done ?_
          refine E.KQ.then_n ?_
          refine E.W.ret ?_
          refine E.KQ.block_r ?_
          refine E.KQ.then_r ?_
          refine E.KQ.loop_r ?_
          refine E.KQ.block_r ?_
          refine E.KQ.then_r ?_
          refine E.KQ.ret1 Tryz.results47 rfl ?_
          exact ⟨_, rfl, by rw [hbad], E.Ext.trans hE0 hb.below⟩
        · replace h39 : suits (thereB b n.name)[k] n = true := by simpa using h39
          refine E.WL.val (E.y_move rfl) rfl rfl rfl ?_
          refine E.WL.val (E.y_move rfl) rfl rfl rfl ?_
          refine E.WL.val (E.y_sl_h Tryz.underlying23 Tryz.sizeOf34 rfl rfl (by omega)) rfl rfl rfl ?_
          refine E.WL.val (E.y_mkfn rfl rfl) rfl rfl rfl ?_
          refine E.WL.call (containsFuncTask_calls ((hl.take_ (i := k) hk).ext RTask.goes hb.below) (fun u => !bear (thereB b n.name)[k] u) 87 [.pointer (some ⟨B9, 0, none⟩)] Tryz.call87 (fun w' hw i hi cs hr => wellOne_calls ((hb.at0 0 rfl).ext hw) hr)) Tryz.call40 rfl rfl rfl ?_
          rintro _ w14 ⟨rfl, hX⟩
          replace hb := hb.ext hX
          clear hX
          refine E.WL.val (E.y_pick_f rfl rfl) rfl rfl rfl ?_
          refine E.WL.done ?_
          refine E.KQ.then_n ?_
          refine E.W.condT 45 rfl (fun h45 => ?_) (fun h45 => ?_)
          · skip
            have hbad : wellB b n = false := by unfold wellB wellL; rw [all_range_not hkl (by rw [wellAt_get hkl, h39, h45]; rfl)]; simp
            refine E.W.seq ?_
            refine E.W.region ?_
            refine E.WL.val (E.y_assign rfl) rfl rfl rfl ?_
            refine E.WL.done ?_
            refine E.KQ.then_n ?_
            refine E.W.ret ?_
            refine E.KQ.block_r ?_
            refine E.KQ.then_r ?_
            refine E.KQ.loop_r ?_
            refine E.KQ.block_r ?_
            refine E.KQ.then_r ?_
            refine E.KQ.ret1 Tryz.results47 rfl ?_
            exact ⟨_, rfl, by rw [hbad], E.Ext.trans hE0 hb.below⟩
          · skip
            have hok : wellAt (thereB b n.name) n k = true := by rw [wellAt_get hkl, h39, h45]; rfl
            refine E.W.skip ?_
            refine E.KQ.block_n ?_
            refine E.KQ.then_n ?_
            refine E.W.region ?_
            refine E.WL.val (E.y_add rfl rfl (Go.IntWalk.i64_in _ (by omega))) rfl rfl rfl ?_
            refine E.WL.val (E.y_move rfl) rfl rfl rfl ?_
            refine E.WL.done ?_
            replace hb := hb.drop (List.Sublist.cons _ (List.Sublist.refl _))
            refine E.KQ.next (k + 1) (by exact .cons rfl (.cons rfl (.cons rfl (.cons rfl (.cons rfl (.cons rfl .nil)))))) ⟨hb, by omega, fun i h' => ?_⟩ (by show (thereB b n.name).length - (k + 1) < (thereB b n.name).length - k; omega)
            rcases Nat.eq_or_lt_of_le (Nat.le_of_lt_succ h') with e | e
            · subst e; exact hok
            · exact hall i e
      · replace hc31 := of_decide_eq_false hc31
        refine E.W.exit ?_
        refine E.KQ.then_e ?_
        refine E.KQ.loop_e ?_
        refine E.KQ.block_e ?_
        refine E.KQ.then_n ?_
        refine E.W.seq ?_
        refine E.W.region ?_
        refine E.WL.val (E.y_assign rfl) rfl rfl rfl ?_
        refine E.WL.done ?_
        refine E.KQ.then_n ?_
        refine E.W.ret ?_
        refine E.KQ.ret1 Tryz.results47 rfl ?_
        exact ⟨_, rfl, by unfold wellB wellL; rw [decide_eq_true h21, hroom, all_range (fun i hi => hall i (by omega))]; rfl, E.Ext.trans hE0 hb.below⟩

set_option maxHeartbeats 400000 in
theorem wellNot_calls {F : FP} {w : World} {K : Nat} {cs : List Value} {b : BookD} {C : Nat} (hC : At w ⟨C, 0, none⟩ [.pointer (some ⟨K, 0, none⟩)]) (hK : At w ⟨K, 0, none⟩ cs) (h : RBook F w cs b) (hbl : b.binds.length ≤ 32) {G : FP} {cn : List Value} {n : NodeD} (hn : RNode G w cn n) :
    Calls Tryz.prog 46 #[(.agg cn.toArray), (.pointer (some ⟨C, 0, none⟩))] w (Ret fun u w' => u = .bool (!wellB b n) ∧ Ext w w') := by
  obtain ⟨vl, vt, rfl, hnl, hnt⟩ := id hn
  have hb := E.Bx.start w (base := w.heap.size) (Nat.le_refl _)
  refine E.enter Tryz.func46 rfl Tryz.ntmps46 [(.agg #[.string n.name, .int .i64 n.h0, .int .i64 n.h1, .int .i64 n.h2, vl, vt]), (.pointer (some ⟨C, 0, none⟩))] rfl ?_
  refine E.W.seq ?_
  refine E.W.region ?_
  refine E.WL.box hb rfl rfl rfl rfl ?_
  clear hb; intro B1 w2 hb _ _
  refine E.WL.val (E.y_assign rfl) rfl rfl rfl ?_
  refine E.WL.done ?_
  refine E.KQ.then_n ?_
  refine E.W.seq ?_
  refine E.W.region ?_
  refine E.WL.val (E.y_load rfl (E.At.ld0 Tryz.isAgg64 (hC.ext hb.below) rfl)) rfl rfl rfl ?_
  refine E.WL.val (E.y_load rfl (E.At.ldk Tryz.isAgg32 Tryz.sizeOf32 (hb.at0 0 rfl) rfl)) rfl rfl rfl ?_
  refine E.WL.call (well_calls (hK.ext hb.below) (RBook.goes.stays h (Stays.ext hb.below)) hbl (RNode.goes.stays hn (Stays.ext hb.below))) Tryz.call47 rfl rfl rfl ?_
  rintro _ w3 ⟨rfl, hX⟩
  replace hb := hb.ext hX
  clear hX
  refine E.WL.val (E.y_not rfl) rfl rfl rfl ?_
  refine E.WL.val (E.y_assign rfl) rfl rfl rfl ?_
  refine E.WL.done ?_
  refine E.KQ.then_n ?_
  refine E.W.ret ?_
  refine E.KQ.ret1 Tryz.results46 rfl ?_
  exact ⟨_, rfl, rfl, hb.below⟩

set_option maxHeartbeats 400000 in
theorem checkNodeNot_calls {F : FP} {w : World} {cn : List Value} {n : NodeD} (h : RNode F w cn n) :
    Calls Tryz.prog 38 #[(.agg cn.toArray)] w (Ret fun u w' => u = .bool (decide (¬ checkNode n = 0)) ∧ Ext w w') := by
  obtain ⟨vl, vt, rfl, hnl, hnt⟩ := id h
  have hb := E.Bx.start w (base := w.heap.size) (Nat.le_refl _)
  refine E.enter Tryz.func38 rfl Tryz.ntmps38 [(.agg #[.string n.name, .int .i64 n.h0, .int .i64 n.h1, .int .i64 n.h2, vl, vt])] rfl ?_
  refine E.W.seq ?_
  refine E.W.region ?_
  refine E.WL.box hb rfl rfl rfl rfl ?_
  clear hb; intro B1 w2 hb _ _
  refine E.WL.val (E.y_assign rfl) rfl rfl rfl ?_
  refine E.WL.done ?_
  refine E.KQ.then_n ?_
  refine E.W.seq ?_
  refine E.W.region ?_
  refine E.WL.val (E.y_load rfl (E.At.ldk Tryz.isAgg32 Tryz.sizeOf32 (hb.at0 0 rfl) rfl)) rfl rfl rfl ?_
  refine E.WL.call (checkNode_calls (RNode.goes.stays h (Stays.ext hb.below))) Tryz.call39 rfl rfl rfl ?_
  rintro _ w3 ⟨rfl, hX⟩
  replace hb := hb.ext hX
  clear hX
  refine E.WL.val (E.y_neq rfl rfl) rfl rfl rfl ?_
  refine E.WL.val (E.y_assign rfl) rfl rfl rfl ?_
  refine E.WL.done ?_
  refine E.KQ.then_n ?_
  refine E.W.ret ?_
  refine E.KQ.ret1 Tryz.results38 rfl ?_
  exact ⟨_, rfl, by simp, hb.below⟩

set_option maxHeartbeats 400000 in
theorem checkTaskNot_calls {F : FP} {w : World} {cn : List Value} {n : TaskD} (h : RTask F w cn n) :
    Calls Tryz.prog 41 #[(.agg cn.toArray)] w (Ret fun u w' => u = .bool (decide (¬ checkTask n = 0)) ∧ Ext w w') := by
  obtain ⟨vl, vt, rfl, hnl, hnt⟩ := id h
  have hb := E.Bx.start w (base := w.heap.size) (Nat.le_refl _)
  refine E.enter Tryz.func41 rfl Tryz.ntmps41 [(.agg #[.string n.name, .int .i64 n.n0, .int .i64 n.n1, .int .i64 n.n2, vl, vt, .string n.group, .string n.apart, .int .i64 n.rank])] rfl ?_
  refine E.W.seq ?_
  refine E.W.region ?_
  refine E.WL.box hb rfl rfl rfl rfl ?_
  clear hb; intro B1 w2 hb _ _
  refine E.WL.val (E.y_assign rfl) rfl rfl rfl ?_
  refine E.WL.done ?_
  refine E.KQ.then_n ?_
  refine E.W.seq ?_
  refine E.W.region ?_
  refine E.WL.val (E.y_load rfl (E.At.ldk Tryz.isAgg34 Tryz.sizeOf34 (hb.at0 0 rfl) rfl)) rfl rfl rfl ?_
  refine E.WL.call (checkTask_calls (RTask.goes.stays h (Stays.ext hb.below))) Tryz.call42 rfl rfl rfl ?_
  rintro _ w3 ⟨rfl, hX⟩
  replace hb := hb.ext hX
  clear hX
  refine E.WL.val (E.y_neq rfl rfl) rfl rfl rfl ?_
  refine E.WL.val (E.y_assign rfl) rfl rfl rfl ?_
  refine E.WL.done ?_
  refine E.KQ.then_n ?_
  refine E.W.ret ?_
  refine E.KQ.ret1 Tryz.results41 rfl ?_
  exact ⟨_, rfl, by simp, hb.below⟩
end Go.Proofs.YtmnnbnajnfdncaaGreatDoor
