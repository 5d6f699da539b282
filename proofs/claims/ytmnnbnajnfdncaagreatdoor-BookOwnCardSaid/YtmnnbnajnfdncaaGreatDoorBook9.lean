/- Walks: book, ninth part: the keeper's orders. -/
import Derived.Test.YtmnnbnajnfdncaaGreatDoorD7
import Derived.Test.YtmnnbnajnfdncaaGreatDoorBook3
import Derived.Test.YtmnnbnajnfdncaaGreatDoorBook7
import Derived.Test.YtmnnbnajnfdncaaGreatDoorBook8
set_option linter.unusedVariables false
set_option linter.unusedSimpArgs false
namespace Go.Proofs.YtmnnbnajnfdncaaGreatDoor
open Go.RowKit E
abbrev Lt (base : Nat) : FP := fun _ B => B < base
set_option maxHeartbeats 2000000 in
theorem addNode_calls {w : World} {base K : Nat} {b : BookD} (hbase : base ≤ w.heap.size) (hk : Kp base w K b) (hsz : small b) {cn : List Value} {n : NodeD} (hn : RNode (Lt base) w cn n) :
    Calls Tryz.prog 18 #[(.pointer (some ⟨K, 0, none⟩)), (.agg cn.toArray)] w (Ret fun u w' => u = .int .i64 (addNodeP b n).2 ∧ Kp base w' K (addNodeP b n).1 ∧ Below base w w' ∧ Keeps boxS w w') := by
  obtain ⟨vn, vt, vb, nn, nt, nb, hbK, hgK, o1, o2, o3⟩ := hk.out
  obtain ⟨A1, c1, rfl, hA1⟩ := ownsRow_open o1.row
  obtain ⟨A2, c2, rfl, hA2⟩ := ownsRow_open o2.row
  obtain ⟨A3, c3, rfl, hA3⟩ := ownsRow_open o3.row
  have hkp : Keeps boxS w w := Keeps.refl w
  unfold small at hsz
  obtain ⟨vl, vt0, rfl, hnl, hnt⟩ := id hn
  have hb := Bx.one hbK hgK hbase
  refine E.enter Tryz.func18 rfl Tryz.ntmps18 [(.pointer (some ⟨K, 0, none⟩)), (.agg #[.string n.name, .int .i64 n.h0, .int .i64 n.h1, .int .i64 n.h2, vl, vt0])] rfl ?_
  refine E.W.seq ?_
  refine E.W.region ?_
  refine E.WL.box hb rfl rfl rfl rfl ?_
  clear hb; intro B1 w2 hb hX _
  replace o1 := ONodes.keeps o1 (Keeps.ext hX) (S := rowS) (by decide) (by decide)
  replace o2 := OTasks.keeps o2 (Keeps.ext hX) (S := rowS) (by decide) (by decide)
  replace o3 := OBinds.keeps o3 (Keeps.ext hX) (S := rowS) (by decide)
  replace hkp := Keeps.trans hkp (Keeps.ext hX)
  clear hX
  refine E.WL.val (E.y_assign rfl) rfl rfl rfl ?_
  refine E.WL.done ?_
  refine E.KQ.then_n ?_
  refine E.W.seq ?_
  refine E.W.region ?_
  refine E.WL.val (E.y_move rfl) rfl rfl rfl ?_
  refine E.WL.val (E.y_fld Tryz.underlying32 rfl Tryz.sizeOf9 rfl) rfl rfl rfl ?_
  refine E.WL.val (E.y_load rfl (E.At.ld1 Tryz.isAgg9 (hb.at0 0 rfl) 0 rfl)) rfl rfl rfl ?_
  refine E.WL.call (node_calls (hb.at0 1 rfl) (ORd (by omega) o1 o2 o3) n.name) Tryz.call44 rfl rfl rfl ?_
  rintro _ w3 ⟨rfl, hX⟩
  replace hb := hb.ext hX
  replace o1 := ONodes.keeps o1 (Keeps.ext hX) (S := rowS) (by decide) (by decide)
  replace o2 := OTasks.keeps o2 (Keeps.ext hX) (S := rowS) (by decide) (by decide)
  replace o3 := OBinds.keeps o3 (Keeps.ext hX) (S := rowS) (by decide)
  replace hkp := Keeps.trans hkp (Keeps.ext hX)
  clear hX
  refine E.WL.val (E.y_move rfl) rfl rfl rfl ?_
  refine E.WL.val (E.y_extract rfl rfl) rfl rfl rfl ?_
  refine E.WL.val (E.y_extract rfl rfl) rfl rfl rfl ?_
  refine E.WL.val (E.y_assign rfl) rfl rfl rfl ?_
  refine E.WL.val (E.y_assign rfl) rfl rfl rfl ?_
  refine E.WL.done ?_
  refine E.KQ.then_n ?_
  refine E.W.seq ?_
  refine E.W.seq ?_
  refine E.W.region ?_
  refine E.WL.val (E.y_load rfl (E.At.ldk Tryz.isAgg32 Tryz.sizeOf32 (hb.at0 0 rfl) rfl)) rfl rfl rfl ?_
  refine E.WL.call (checkNode_calls (RNode.goes.stays hn (Stays.below hb.below (fun _ _ h => h)))) Tryz.call39 rfl rfl rfl ?_
  rintro _ w4 ⟨rfl, hX⟩
  replace hb := hb.ext hX
  replace o1 := ONodes.keeps o1 (Keeps.ext hX) (S := rowS) (by decide) (by decide)
  replace o2 := OTasks.keeps o2 (Keeps.ext hX) (S := rowS) (by decide) (by decide)
  replace o3 := OBinds.keeps o3 (Keeps.ext hX) (S := rowS) (by decide)
  replace hkp := Keeps.trans hkp (Keeps.ext hX)
  clear hX
  refine E.WL.val (E.y_assign rfl) rfl rfl rfl ?_
  refine E.WL.done ?_
  refine E.KQ.then_n ?_
  refine E.W.block ?_
  refine E.W.seq ?_
  refine E.W.region ?_
  refine E.WL.val (E.y_move rfl) rfl rfl rfl ?_
  refine E.WL.val (E.y_neq rfl rfl) rfl rfl rfl ?_
  refine E.WL.val (E.y_assign rfl) rfl rfl rfl ?_
  refine E.WL.done ?_
  refine E.KQ.then_n ?_
  refine E.W.condT 17 rfl (fun h17 => ?_) (fun h17 => ?_)
  · replace h17 : ¬ checkNode n = 0 := by simpa using h17
    have hp : addNodeP b n = (b, checkNode n) := by unfold addNodeP; rw [if_pos h17]
    refine E.W.seq ?_
    refine E.W.region ?_
    refine E.WL.val (E.y_move rfl) rfl rfl rfl ?_
    refine E.WL.val (E.y_assign rfl) rfl rfl rfl ?_
    refine E.WL.done ?_
    refine E.KQ.then_n ?_
    refine E.W.ret ?_
    refine E.KQ.block_r ?_
    refine E.KQ.then_r ?_
    refine E.KQ.ret1 Tryz.results18 rfl ?_
    exact ⟨_, rfl, congrArg (fun p => Value.int .i64 p.2) hp.symm, by rw [hp]; exact Kp.mk' hb 1 rfl o1 o2 o3, hb.below, hkp⟩
  · replace h17 : checkNode n = 0 := by simpa using h17
    refine E.W.seq ?_
    refine E.W.region ?_
    refine E.WL.val (E.y_move rfl) rfl rfl rfl ?_
    refine E.WL.val (E.y_assign rfl) rfl rfl rfl ?_
    refine E.WL.done ?_
    refine E.KQ.then_n ?_
    refine E.W.condT 21 rfl (fun h21 => ?_) (fun h21 => ?_)
    · skip
      have hp : addNodeP b n = (b, 7) := by unfold addNodeP; rw [if_neg (by rw [h17]; simp), if_pos h21]
      refine E.W.seq ?_
      refine E.W.region ?_
      refine E.WL.val (E.y_assign rfl) rfl rfl rfl ?_
      refine E.WL.done ?_
      refine E.KQ.then_n ?_
      refine E.W.ret ?_
      refine E.KQ.block_r ?_
      refine E.KQ.then_r ?_
      refine E.KQ.ret1 Tryz.results18 rfl ?_
      exact ⟨_, rfl, congrArg (fun p => Value.int .i64 p.2) hp.symm, by rw [hp]; exact Kp.mk' hb 1 rfl o1 o2 o3, hb.below, hkp⟩
    · skip
      refine E.W.seq ?_
      refine E.W.region ?_
      refine E.WL.val (E.y_move rfl) rfl rfl rfl ?_
      refine E.WL.val (E.y_nilCheck rfl) rfl rfl rfl ?_
      refine E.WL.val (E.y_fld Tryz.underlying66 rfl Tryz.sizeOf27 rfl) rfl rfl rfl ?_
      refine E.WL.val (E.y_fld Tryz.underlying27 rfl Tryz.sizeOf22 rfl) rfl rfl rfl ?_
      refine E.WL.val (E.y_load rfl (E.At.ld1 Tryz.isAgg22 (hb.at0 1 rfl) 0 rfl)) rfl rfl rfl ?_
      refine E.WL.val (E.y_lenS Tryz.underlying22 rfl) rfl rfl rfl ?_
      refine E.WL.val (E.y_geq rfl rfl) rfl rfl rfl ?_
      refine E.WL.val (E.y_assign rfl) rfl rfl rfl ?_
      refine E.WL.done ?_
      refine E.KQ.then_n ?_
      refine E.W.condT 23 rfl (fun h23 => ?_) (fun h23 => ?_)
      · replace h23 : 16 ≤ b.nodes.length := by have := of_decide_eq_true h23; omega
        have hp : addNodeP b n = (b, 11) := by unfold addNodeP; rw [if_neg (by rw [h17]; simp), if_neg (by rw [h21]; decide), if_pos h23]
        refine E.W.seq ?_
        refine E.W.region ?_
        refine E.WL.val (E.y_assign rfl) rfl rfl rfl ?_
        refine E.WL.done ?_
        refine E.KQ.then_n ?_
        refine E.W.ret ?_
        refine E.KQ.block_r ?_
        refine E.KQ.then_r ?_
        refine E.KQ.ret1 Tryz.results18 rfl ?_
        exact ⟨_, rfl, congrArg (fun p => Value.int .i64 p.2) hp.symm, by rw [hp]; exact Kp.mk' hb 1 rfl o1 o2 o3, hb.below, hkp⟩
      · replace h23 : ¬ 16 ≤ b.nodes.length := by have := of_decide_eq_false h23; omega
        have hp : addNodeP b n = ({ b with nodes := putAt (posB (nodeNames b) n.name) n b.nodes }, 0) := by unfold addNodeP; rw [if_neg (by rw [h17]; simp), if_neg (by rw [h21]; decide), if_neg h23]
        have hi : posB (nodeNames b) n.name ≤ b.nodes.length := by have := posB_le (nodeNames b) n.name; simpa [nodeNames] using this
        refine E.W.skip ?_
        refine E.KQ.block_n ?_
        refine E.KQ.then_n ?_
        refine E.W.seq ?_
        have hb0 := hb
        refine E.W.regionD (E.heads 10 [0]) rfl ?_
        replace hb := hb.drew
        replace o1 := ONodes.keeps o1 (Keeps.ext (E.Ext.drew _)) (S := rowS) (by decide) (by decide)
        replace o2 := OTasks.keeps o2 (Keeps.ext (E.Ext.drew _)) (S := rowS) (by decide) (by decide)
        replace o3 := OBinds.keeps o3 (Keeps.ext (E.Ext.drew _)) (S := rowS) (by decide)
        replace hkp := Keeps.trans hkp (Keeps.ext (E.Ext.drew _))
        have hE := E.Ext.drew w4
        refine E.DL.takeU 0 rfl (by kernel_rfl) rfl (fun w' => E.y_move rfl) rfl rfl rfl (fun _ _ _ _ h => by obtain ⟨_, _, h, _⟩ := h; cases h) ?_
        refine E.DL.take 1 rfl (by kernel_rfl) (by kernel_rfl) (fun w' hw => E.y_move rfl) rfl rfl rfl (fun _ _ _ _ h => by obtain ⟨_, _, h, _⟩ := h; cases h) hE ?_
        refine E.DL.take 2 rfl (by kernel_rfl) (by kernel_rfl) (fun w' hw => E.y_nilCheck rfl) rfl rfl rfl (fun _ _ _ _ h => by obtain ⟨_, _, h, _⟩ := h; cases h) hE ?_
        refine E.DL.take 3 rfl (by kernel_rfl) (by kernel_rfl) (fun w' hw => E.y_fld Tryz.underlying66 rfl Tryz.sizeOf27 rfl) rfl rfl rfl (fun _ _ _ _ h => by obtain ⟨_, _, h, _⟩ := h; cases h) hE ?_
        refine E.DL.take 4 rfl (by kernel_rfl) (by kernel_rfl) (fun w' hw => E.y_fld Tryz.underlying27 rfl Tryz.sizeOf22 rfl) rfl rfl rfl (fun _ _ _ _ h => by obtain ⟨_, _, h, _⟩ := h; cases h) hE ?_
        refine E.DL.take 5 rfl (by kernel_rfl) (by kernel_rfl) (fun w' hw => E.y_load rfl (E.At.ld1 Tryz.isAgg22 ((hb0.ext hw).at0 1 rfl) 0 rfl)) rfl rfl rfl (fun _ _ _ _ h => by obtain ⟨_, _, h, _⟩ := h; cases h) hE ?_
        refine E.DL.take 6 rfl (by kernel_rfl) (by kernel_rfl) (fun w' hw => E.y_move rfl) rfl rfl rfl (fun _ _ _ _ h => by obtain ⟨_, _, h, _⟩ := h; cases h) hE ?_
        refine E.DL.take 7 rfl (by kernel_rfl) (by kernel_rfl) (fun w' hw => E.y_load rfl (E.At.ldk Tryz.isAgg32 Tryz.sizeOf32 ((hb0.ext hw).at0 0 rfl) rfl)) rfl rfl rfl (fun _ _ _ _ h => by obtain ⟨_, _, h, _⟩ := h; cases h) hE ?_
        refine E.DL.only 8 rfl (by kernel_rfl) (fun hsh => ?_)
        refine E.WL.call (ownNode_calls (RNode.goes.stays hn (Stays.below hb.below (fun _ _ h => h)))) Tryz.call51 rfl rfl rfl ?_
        rintro _ w5 ⟨⟨cn', rfl, hcn⟩, hX⟩
        have hle := hb.le
        replace hb := hb.ext hX
        replace o1 := ONodes.keeps o1 (Keeps.ext hX) (S := rowS) (by decide) (by decide)
        replace o2 := OTasks.keeps o2 (Keeps.ext hX) (S := rowS) (by decide) (by decide)
        replace o3 := OBinds.keeps o3 (Keeps.ext hX) (S := rowS) (by decide)
        replace hkp := Keeps.trans hkp (Keeps.ext hX)
        replace hcn := RNode.le hcn hle
        obtain ⟨vl2, vt2, rfl, hl2, ht2⟩ := id hcn
        clear hle
        refine E.WL.done ?_
        replace hE := hE.trans hX
        clear hX
        refine E.DL.next hsh (.inl hE) ?_
        clear hsh
        have hlt := o1.row.lt
        refine E.DL.only 9 rfl (by kernel_rfl) (fun hsh => ?_)
        refine E.WL.mkslice (T := 32) (cs := [.string n.name, .int .i64 n.h0, .int .i64 n.h1, .int .i64 n.h2, vl2, vt2]) hb rfl (fun _ => by kernel_rfl) rfl rfl ?_
        clear hb; intro B40 w7 hb hX hB40
        replace o1 := ONodes.keeps o1 (Keeps.ext hX) (S := rowS) (by decide) (by decide)
        replace o2 := OTasks.keeps o2 (Keeps.ext hX) (S := rowS) (by decide) (by decide)
        replace o3 := OBinds.keeps o3 (Keeps.ext hX) (S := rowS) (by decide)
        replace hkp := Keeps.trans hkp (Keeps.ext hX)
        replace hcn := RNode.keeps hcn (Keeps.ext hX) (S := rowS) (by decide)
        refine E.WL.done ?_
        replace hE := hE.trans hX
        clear hX
        refine E.DL.next hsh (.inl hE) ?_
        clear hsh
        have hgB : (Value.slice A1 b.nodes.length c1).ownBlock ≠ some B40 := fun e => by have := (hlt _ e).2; omega
        refine E.DL.only 10 rfl (by kernel_rfl) (fun hsh => ?_)
        refine E.WL.call (insertNode_calls (i := posB (nodeNames b) n.name) o1.row hb.le (hb.at0 0 rfl) (hb.hasT 0 rfl) hgB rfl hcn.one (o1.rows.one1 (by decide) (fun cs x hx => hx.one)) hi (by omega)) Tryz.call55 rfl rfl rfl ?_
        rintro v' w8 ⟨⟨_, rfl, own'⟩, hB6, hK6⟩
        replace hb := (hb.drop (List.Sublist.cons _ (List.Sublist.cons _ (List.Sublist.refl _)))).keeps hK6 hB6 (fun p hp => by simp at hp; subst hp; show (66 : Nat) ≠ 32; decide)
        replace o2 := OTasks.keeps o2 hK6 (by decide) (by decide)
        replace o3 := OBinds.keeps o3 hK6 (by decide)
        replace hkp := Keeps.trans hkp (hK6.mono (by rintro U (rfl | rfl | rfl) <;> decide))
        replace hcn := RNode.keeps hcn hK6 (by decide)
        replace o1 : ONodes base w8 v' (putAt (posB (nodeNames b) n.name) n b.nodes) _ := ⟨by rw [putAt_len hi]; exact own', (o1.rows.to fun cs x hx => RNode.keeps hx hK6 (by decide)).putIn hcn rfl⟩
        obtain ⟨A', c', rfl, _⟩ := ownsRow_open own'
        clear own' hcn hB6 hK6
        refine E.WL.done ?_
        refine E.DL.next hsh (.inr rfl) ?_
        clear hsh
        refine E.DL.takeU 11 rfl (by kernel_rfl) rfl (fun w' => E.y_nilCheck rfl) rfl rfl rfl (fun _ _ _ _ h => by obtain ⟨_, _, h, _⟩ := h; cases h) ?_
        refine E.DL.takeU 12 rfl (by kernel_rfl) rfl (fun w' => E.y_fld Tryz.underlying66 rfl Tryz.sizeOf27 rfl) rfl rfl rfl (fun _ _ _ _ h => by obtain ⟨_, _, h, _⟩ := h; cases h) ?_
        refine E.DL.takeU 13 rfl (by kernel_rfl) rfl (fun w' => E.y_fld Tryz.underlying27 rfl Tryz.sizeOf22 rfl) rfl rfl rfl (fun _ _ _ _ h => by obtain ⟨_, _, h, _⟩ := h; cases h) ?_
        refine E.DL.only 14 rfl (by kernel_rfl) (fun hsh => ?_)
        refine E.WL.store hb 0 0 rfl rfl rfl Tryz.sizeOf22 rfl rfl rfl (E.allOne rfl) rfl ?_
        have hT := hb.hasT 0 rfl
        clear hb; intro w9 hb hO
        replace o1 := ONodes.keeps o1 (Keeps.only hO hT (by decide)) (S := rowS) (by decide) (by decide)
        replace o2 := OTasks.keeps o2 (Keeps.only hO hT (by decide)) (S := rowS) (by decide) (by decide)
        replace o3 := OBinds.keeps o3 (Keeps.only hO hT (by decide)) (S := rowS) (by decide)
        replace hkp := Keeps.trans hkp (Keeps.only hO hT (by decide))
        clear hT
        clear hO
        refine E.WL.done ?_
        refine E.DL.next hsh (.inr rfl) ?_
        clear hsh
        refine E.DL.done (by kernel_rfl) ?_
        clear hE hb0
        refine E.KQ.then_n ?_
        refine E.W.seq ?_
        refine E.W.region ?_
        refine E.WL.val (E.y_assign rfl) rfl rfl rfl ?_
        refine E.WL.done ?_
        refine E.KQ.then_n ?_
        refine E.W.ret ?_
        refine E.KQ.ret1 Tryz.results18 rfl ?_
        exact ⟨_, rfl, congrArg (fun p => Value.int .i64 p.2) hp.symm, by rw [hp]; exact Kp.mk' hb 0 rfl o1 o2 o3, hb.below, hkp⟩

set_option maxHeartbeats 2000000 in
theorem addTask_calls {w : World} {base K : Nat} {b : BookD} (hbase : base ≤ w.heap.size) (hk : Kp base w K b) (hsz : small b) {cn : List Value} {n : TaskD} (hn : RTask (Lt base) w cn n) :
    Calls Tryz.prog 19 #[(.pointer (some ⟨K, 0, none⟩)), (.agg cn.toArray)] w (Ret fun u w' => u = .int .i64 (addTaskP b n).2 ∧ Kp base w' K (addTaskP b n).1 ∧ Below base w w' ∧ Keeps boxS w w') := by
  obtain ⟨vn, vt, vb, nn, nt, nb, hbK, hgK, o1, o2, o3⟩ := hk.out
  obtain ⟨A1, c1, rfl, hA1⟩ := ownsRow_open o1.row
  obtain ⟨A2, c2, rfl, hA2⟩ := ownsRow_open o2.row
  obtain ⟨A3, c3, rfl, hA3⟩ := ownsRow_open o3.row
  have hkp : Keeps boxS w w := Keeps.refl w
  unfold small at hsz
  obtain ⟨vl, vt0, rfl, hnl, hnt⟩ := id hn
  have hb := Bx.one hbK hgK hbase
  refine E.enter Tryz.func19 rfl Tryz.ntmps19 [(.pointer (some ⟨K, 0, none⟩)), (.agg #[.string n.name, .int .i64 n.n0, .int .i64 n.n1, .int .i64 n.n2, vl, vt0, .string n.group, .string n.apart, .int .i64 n.rank])] rfl ?_
  refine E.W.seq ?_
  refine E.W.region ?_
  refine E.WL.box hb rfl rfl rfl rfl ?_
  clear hb; intro B1 w2 hb hX _
  replace o1 := ONodes.keeps o1 (Keeps.ext hX) (S := rowS) (by decide) (by decide)
  replace o2 := OTasks.keeps o2 (Keeps.ext hX) (S := rowS) (by decide) (by decide)
  replace o3 := OBinds.keeps o3 (Keeps.ext hX) (S := rowS) (by decide)
  replace hkp := Keeps.trans hkp (Keeps.ext hX)
  clear hX
  refine E.WL.val (E.y_assign rfl) rfl rfl rfl ?_
  refine E.WL.done ?_
  refine E.KQ.then_n ?_
  refine E.W.seq ?_
  refine E.W.region ?_
  refine E.WL.val (E.y_move rfl) rfl rfl rfl ?_
  refine E.WL.val (E.y_fld Tryz.underlying34 rfl Tryz.sizeOf9 rfl) rfl rfl rfl ?_
  refine E.WL.val (E.y_load rfl (E.At.ld1 Tryz.isAgg9 (hb.at0 0 rfl) 0 rfl)) rfl rfl rfl ?_
  refine E.WL.call (task_calls (hb.at0 1 rfl) (ORd (by omega) o1 o2 o3) n.name) Tryz.call45 rfl rfl rfl ?_
  rintro _ w3 ⟨rfl, hX⟩
  replace hb := hb.ext hX
  replace o1 := ONodes.keeps o1 (Keeps.ext hX) (S := rowS) (by decide) (by decide)
  replace o2 := OTasks.keeps o2 (Keeps.ext hX) (S := rowS) (by decide) (by decide)
  replace o3 := OBinds.keeps o3 (Keeps.ext hX) (S := rowS) (by decide)
  replace hkp := Keeps.trans hkp (Keeps.ext hX)
  clear hX
  refine E.WL.val (E.y_move rfl) rfl rfl rfl ?_
  refine E.WL.val (E.y_extract rfl rfl) rfl rfl rfl ?_
  refine E.WL.val (E.y_extract rfl rfl) rfl rfl rfl ?_
  refine E.WL.val (E.y_assign rfl) rfl rfl rfl ?_
  refine E.WL.val (E.y_assign rfl) rfl rfl rfl ?_
  refine E.WL.done ?_
  refine E.KQ.then_n ?_
  refine E.W.seq ?_
  refine E.W.seq ?_
  refine E.W.region ?_
  refine E.WL.val (E.y_load rfl (E.At.ldk Tryz.isAgg34 Tryz.sizeOf34 (hb.at0 0 rfl) rfl)) rfl rfl rfl ?_
  refine E.WL.call (checkTask_calls (RTask.goes.stays hn (Stays.below hb.below (fun _ _ h => h)))) Tryz.call42 rfl rfl rfl ?_
  rintro _ w4 ⟨rfl, hX⟩
  replace hb := hb.ext hX
  replace o1 := ONodes.keeps o1 (Keeps.ext hX) (S := rowS) (by decide) (by decide)
  replace o2 := OTasks.keeps o2 (Keeps.ext hX) (S := rowS) (by decide) (by decide)
  replace o3 := OBinds.keeps o3 (Keeps.ext hX) (S := rowS) (by decide)
  replace hkp := Keeps.trans hkp (Keeps.ext hX)
  clear hX
  refine E.WL.val (E.y_assign rfl) rfl rfl rfl ?_
  refine E.WL.done ?_
  refine E.KQ.then_n ?_
  refine E.W.block ?_
  refine E.W.seq ?_
  refine E.W.region ?_
  refine E.WL.val (E.y_move rfl) rfl rfl rfl ?_
  refine E.WL.val (E.y_neq rfl rfl) rfl rfl rfl ?_
  refine E.WL.val (E.y_assign rfl) rfl rfl rfl ?_
  refine E.WL.done ?_
  refine E.KQ.then_n ?_
  refine E.W.condT 17 rfl (fun h17 => ?_) (fun h17 => ?_)
  · replace h17 : ¬ checkTask n = 0 := by simpa using h17
    have hp : addTaskP b n = (b, checkTask n) := by unfold addTaskP; rw [if_pos h17]
    refine E.W.seq ?_
    refine E.W.region ?_
    refine E.WL.val (E.y_move rfl) rfl rfl rfl ?_
    refine E.WL.val (E.y_assign rfl) rfl rfl rfl ?_
    refine E.WL.done ?_
    refine E.KQ.then_n ?_
    refine E.W.ret ?_
    refine E.KQ.block_r ?_
    refine E.KQ.then_r ?_
    refine E.KQ.ret1 Tryz.results19 rfl ?_
    exact ⟨_, rfl, congrArg (fun p => Value.int .i64 p.2) hp.symm, by rw [hp]; exact Kp.mk' hb 1 rfl o1 o2 o3, hb.below, hkp⟩
  · replace h17 : checkTask n = 0 := by simpa using h17
    refine E.W.seq ?_
    refine E.W.region ?_
    refine E.WL.val (E.y_move rfl) rfl rfl rfl ?_
    refine E.WL.val (E.y_assign rfl) rfl rfl rfl ?_
    refine E.WL.done ?_
    refine E.KQ.then_n ?_
    refine E.W.condT 21 rfl (fun h21 => ?_) (fun h21 => ?_)
    · skip
      have hp : addTaskP b n = (b, 7) := by unfold addTaskP; rw [if_neg (by rw [h17]; simp), if_pos h21]
      refine E.W.seq ?_
      refine E.W.region ?_
      refine E.WL.val (E.y_assign rfl) rfl rfl rfl ?_
      refine E.WL.done ?_
      refine E.KQ.then_n ?_
      refine E.W.ret ?_
      refine E.KQ.block_r ?_
      refine E.KQ.then_r ?_
      refine E.KQ.ret1 Tryz.results19 rfl ?_
      exact ⟨_, rfl, congrArg (fun p => Value.int .i64 p.2) hp.symm, by rw [hp]; exact Kp.mk' hb 1 rfl o1 o2 o3, hb.below, hkp⟩
    · skip
      refine E.W.seq ?_
      refine E.W.region ?_
      refine E.WL.val (E.y_move rfl) rfl rfl rfl ?_
      refine E.WL.val (E.y_nilCheck rfl) rfl rfl rfl ?_
      refine E.WL.val (E.y_fld Tryz.underlying66 rfl Tryz.sizeOf27 rfl) rfl rfl rfl ?_
      refine E.WL.val (E.y_fld Tryz.underlying27 rfl Tryz.sizeOf23 rfl) rfl rfl rfl ?_
      refine E.WL.val (E.y_load rfl (E.At.ld1 Tryz.isAgg23 (hb.at0 1 rfl) 1 rfl)) rfl rfl rfl ?_
      refine E.WL.val (E.y_lenS Tryz.underlying23 rfl) rfl rfl rfl ?_
      refine E.WL.val (E.y_geq rfl rfl) rfl rfl rfl ?_
      refine E.WL.val (E.y_assign rfl) rfl rfl rfl ?_
      refine E.WL.done ?_
      refine E.KQ.then_n ?_
      refine E.W.condT 23 rfl (fun h23 => ?_) (fun h23 => ?_)
      · replace h23 : 32 ≤ b.tasks.length := by have := of_decide_eq_true h23; omega
        have hp : addTaskP b n = (b, 11) := by unfold addTaskP; rw [if_neg (by rw [h17]; simp), if_neg (by rw [h21]; decide), if_pos h23]
        refine E.W.seq ?_
        refine E.W.region ?_
        refine E.WL.val (E.y_assign rfl) rfl rfl rfl ?_
        refine E.WL.done ?_
        refine E.KQ.then_n ?_
        refine E.W.ret ?_
        refine E.KQ.block_r ?_
        refine E.KQ.then_r ?_
        refine E.KQ.ret1 Tryz.results19 rfl ?_
        exact ⟨_, rfl, congrArg (fun p => Value.int .i64 p.2) hp.symm, by rw [hp]; exact Kp.mk' hb 1 rfl o1 o2 o3, hb.below, hkp⟩
      · replace h23 : ¬ 32 ≤ b.tasks.length := by have := of_decide_eq_false h23; omega
        have hp : addTaskP b n = ({ b with tasks := putAt (posB (taskNames b) n.name) n b.tasks }, 0) := by unfold addTaskP; rw [if_neg (by rw [h17]; simp), if_neg (by rw [h21]; decide), if_neg h23]
        have hi : posB (taskNames b) n.name ≤ b.tasks.length := by have := posB_le (taskNames b) n.name; simpa [taskNames] using this
        refine E.W.skip ?_
        refine E.KQ.block_n ?_
        refine E.KQ.then_n ?_
        refine E.W.seq ?_
        have hb0 := hb
        refine E.W.regionD (E.heads 10 [0]) rfl ?_
        replace hb := hb.drew
        replace o1 := ONodes.keeps o1 (Keeps.ext (E.Ext.drew _)) (S := rowS) (by decide) (by decide)
        replace o2 := OTasks.keeps o2 (Keeps.ext (E.Ext.drew _)) (S := rowS) (by decide) (by decide)
        replace o3 := OBinds.keeps o3 (Keeps.ext (E.Ext.drew _)) (S := rowS) (by decide)
        replace hkp := Keeps.trans hkp (Keeps.ext (E.Ext.drew _))
        have hE := E.Ext.drew w4
        refine E.DL.takeU 0 rfl (by kernel_rfl) rfl (fun w' => E.y_move rfl) rfl rfl rfl (fun _ _ _ _ h => by obtain ⟨_, _, h, _⟩ := h; cases h) ?_
        refine E.DL.take 1 rfl (by kernel_rfl) (by kernel_rfl) (fun w' hw => E.y_move rfl) rfl rfl rfl (fun _ _ _ _ h => by obtain ⟨_, _, h, _⟩ := h; cases h) hE ?_
        refine E.DL.take 2 rfl (by kernel_rfl) (by kernel_rfl) (fun w' hw => E.y_nilCheck rfl) rfl rfl rfl (fun _ _ _ _ h => by obtain ⟨_, _, h, _⟩ := h; cases h) hE ?_
        refine E.DL.take 3 rfl (by kernel_rfl) (by kernel_rfl) (fun w' hw => E.y_fld Tryz.underlying66 rfl Tryz.sizeOf27 rfl) rfl rfl rfl (fun _ _ _ _ h => by obtain ⟨_, _, h, _⟩ := h; cases h) hE ?_
        refine E.DL.take 4 rfl (by kernel_rfl) (by kernel_rfl) (fun w' hw => E.y_fld Tryz.underlying27 rfl Tryz.sizeOf23 rfl) rfl rfl rfl (fun _ _ _ _ h => by obtain ⟨_, _, h, _⟩ := h; cases h) hE ?_
        refine E.DL.take 5 rfl (by kernel_rfl) (by kernel_rfl) (fun w' hw => E.y_load rfl (E.At.ld1 Tryz.isAgg23 ((hb0.ext hw).at0 1 rfl) 1 rfl)) rfl rfl rfl (fun _ _ _ _ h => by obtain ⟨_, _, h, _⟩ := h; cases h) hE ?_
        refine E.DL.take 6 rfl (by kernel_rfl) (by kernel_rfl) (fun w' hw => E.y_move rfl) rfl rfl rfl (fun _ _ _ _ h => by obtain ⟨_, _, h, _⟩ := h; cases h) hE ?_
        refine E.DL.take 7 rfl (by kernel_rfl) (by kernel_rfl) (fun w' hw => E.y_load rfl (E.At.ldk Tryz.isAgg34 Tryz.sizeOf34 ((hb0.ext hw).at0 0 rfl) rfl)) rfl rfl rfl (fun _ _ _ _ h => by obtain ⟨_, _, h, _⟩ := h; cases h) hE ?_
        refine E.DL.only 8 rfl (by kernel_rfl) (fun hsh => ?_)
        refine E.WL.call (ownTask_calls (RTask.goes.stays hn (Stays.below hb.below (fun _ _ h => h)))) Tryz.call52 rfl rfl rfl ?_
        rintro _ w5 ⟨⟨cn', rfl, hcn⟩, hX⟩
        have hle := hb.le
        replace hb := hb.ext hX
        replace o1 := ONodes.keeps o1 (Keeps.ext hX) (S := rowS) (by decide) (by decide)
        replace o2 := OTasks.keeps o2 (Keeps.ext hX) (S := rowS) (by decide) (by decide)
        replace o3 := OBinds.keeps o3 (Keeps.ext hX) (S := rowS) (by decide)
        replace hkp := Keeps.trans hkp (Keeps.ext hX)
        replace hcn := RTask.le hcn hle
        obtain ⟨vl2, vt2, rfl, hl2, ht2⟩ := id hcn
        clear hle
        refine E.WL.done ?_
        replace hE := hE.trans hX
        clear hX
        refine E.DL.next hsh (.inl hE) ?_
        clear hsh
        have hlt := o2.row.lt
        refine E.DL.only 9 rfl (by kernel_rfl) (fun hsh => ?_)
        refine E.WL.mkslice (T := 34) (cs := [.string n.name, .int .i64 n.n0, .int .i64 n.n1, .int .i64 n.n2, vl2, vt2, .string n.group, .string n.apart, .int .i64 n.rank]) hb rfl (fun _ => by kernel_rfl) rfl rfl ?_
        clear hb; intro B40 w7 hb hX hB40
        replace o1 := ONodes.keeps o1 (Keeps.ext hX) (S := rowS) (by decide) (by decide)
        replace o2 := OTasks.keeps o2 (Keeps.ext hX) (S := rowS) (by decide) (by decide)
        replace o3 := OBinds.keeps o3 (Keeps.ext hX) (S := rowS) (by decide)
        replace hkp := Keeps.trans hkp (Keeps.ext hX)
        replace hcn := RTask.keeps hcn (Keeps.ext hX) (S := rowS) (by decide)
        refine E.WL.done ?_
        replace hE := hE.trans hX
        clear hX
        refine E.DL.next hsh (.inl hE) ?_
        clear hsh
        have hgB : (Value.slice A2 b.tasks.length c2).ownBlock ≠ some B40 := fun e => by have := (hlt _ e).2; omega
        refine E.DL.only 10 rfl (by kernel_rfl) (fun hsh => ?_)
        refine E.WL.call (insertTask_calls (i := posB (taskNames b) n.name) o2.row hb.le (hb.at0 0 rfl) (hb.hasT 0 rfl) hgB rfl hcn.one (o2.rows.one1 (by decide) (fun cs x hx => hx.one)) hi (by omega)) Tryz.call56 rfl rfl rfl ?_
        rintro v' w8 ⟨⟨_, rfl, own'⟩, hB6, hK6⟩
        replace hb := (hb.drop (List.Sublist.cons _ (List.Sublist.cons _ (List.Sublist.refl _)))).keeps hK6 hB6 (fun p hp => by simp at hp; subst hp; show (66 : Nat) ≠ 34; decide)
        replace o1 := ONodes.keeps o1 hK6 (by decide) (by decide)
        replace o3 := OBinds.keeps o3 hK6 (by decide)
        replace hkp := Keeps.trans hkp (hK6.mono (by rintro U (rfl | rfl | rfl) <;> decide))
        replace hcn := RTask.keeps hcn hK6 (by decide)
        replace o2 : OTasks base w8 v' (putAt (posB (taskNames b) n.name) n b.tasks) _ := ⟨by rw [putAt_len hi]; exact own', (o2.rows.to fun cs x hx => RTask.keeps hx hK6 (by decide)).putIn hcn rfl⟩
        obtain ⟨A', c', rfl, _⟩ := ownsRow_open own'
        clear own' hcn hB6 hK6
        refine E.WL.done ?_
        refine E.DL.next hsh (.inr rfl) ?_
        clear hsh
        refine E.DL.takeU 11 rfl (by kernel_rfl) rfl (fun w' => E.y_nilCheck rfl) rfl rfl rfl (fun _ _ _ _ h => by obtain ⟨_, _, h, _⟩ := h; cases h) ?_
        refine E.DL.takeU 12 rfl (by kernel_rfl) rfl (fun w' => E.y_fld Tryz.underlying66 rfl Tryz.sizeOf27 rfl) rfl rfl rfl (fun _ _ _ _ h => by obtain ⟨_, _, h, _⟩ := h; cases h) ?_
        refine E.DL.takeU 13 rfl (by kernel_rfl) rfl (fun w' => E.y_fld Tryz.underlying27 rfl Tryz.sizeOf23 rfl) rfl rfl rfl (fun _ _ _ _ h => by obtain ⟨_, _, h, _⟩ := h; cases h) ?_
        refine E.DL.only 14 rfl (by kernel_rfl) (fun hsh => ?_)
        refine E.WL.store hb 0 1 rfl rfl rfl Tryz.sizeOf23 rfl rfl rfl (E.allOne rfl) rfl ?_
        have hT := hb.hasT 0 rfl
        clear hb; intro w9 hb hO
        replace o1 := ONodes.keeps o1 (Keeps.only hO hT (by decide)) (S := rowS) (by decide) (by decide)
        replace o2 := OTasks.keeps o2 (Keeps.only hO hT (by decide)) (S := rowS) (by decide) (by decide)
        replace o3 := OBinds.keeps o3 (Keeps.only hO hT (by decide)) (S := rowS) (by decide)
        replace hkp := Keeps.trans hkp (Keeps.only hO hT (by decide))
        clear hT
        clear hO
        refine E.WL.done ?_
        refine E.DL.next hsh (.inr rfl) ?_
        clear hsh
        refine E.DL.done (by kernel_rfl) ?_
        clear hE hb0
        refine E.KQ.then_n ?_
        refine E.W.seq ?_
        refine E.W.region ?_
        refine E.WL.val (E.y_assign rfl) rfl rfl rfl ?_
        refine E.WL.done ?_
        refine E.KQ.then_n ?_
        refine E.W.ret ?_
        refine E.KQ.ret1 Tryz.results19 rfl ?_
        exact ⟨_, rfl, congrArg (fun p => Value.int .i64 p.2) hp.symm, by rw [hp]; exact Kp.mk' hb 0 rfl o1 o2 o3, hb.below, hkp⟩

set_option maxHeartbeats 2000000 in
theorem gone_calls {w : World} {base K : Nat} {b : BookD} (hbase : base ≤ w.heap.size) (hk : Kp base w K b) (hsz : small b) (s : ByteArray) :
    Calls Tryz.prog 20 #[(.pointer (some ⟨K, 0, none⟩)), (.string s)] w (Ret fun u w' => u = .int .i64 (goneP b s).2 ∧ Kp base w' K (goneP b s).1 ∧ Below base w w' ∧ Keeps boxS w w') := by
  obtain ⟨vn, vt, vb, nn, nt, nb, hbK, hgK, o1, o2, o3⟩ := hk.out
  obtain ⟨A1, c1, rfl, hA1⟩ := ownsRow_open o1.row
  obtain ⟨A2, c2, rfl, hA2⟩ := ownsRow_open o2.row
  obtain ⟨A3, c3, rfl, hA3⟩ := ownsRow_open o3.row
  have hkp : Keeps boxS w w := Keeps.refl w
  unfold small at hsz
  have hb := Bx.one hbK hgK hbase
  refine E.enter Tryz.func20 rfl Tryz.ntmps20 [(.pointer (some ⟨K, 0, none⟩)), (.string s)] rfl ?_
  refine E.W.seq ?_
  refine E.W.region ?_
  refine E.WL.val (E.y_assign rfl) rfl rfl rfl ?_
  refine E.WL.done ?_
  refine E.KQ.then_n ?_
  refine E.W.seq ?_
  refine E.W.region ?_
  refine E.WL.val (E.y_move rfl) rfl rfl rfl ?_
  refine E.WL.val (E.y_move rfl) rfl rfl rfl ?_
  refine E.WL.call (node_calls (hb.at0 0 rfl) (ORd (by omega) o1 o2 o3) s) Tryz.call44 rfl rfl rfl ?_
  rintro _ w1 ⟨rfl, hX⟩
  replace hb := hb.ext hX
  replace o1 := ONodes.keeps o1 (Keeps.ext hX) (S := rowS) (by decide) (by decide)
  replace o2 := OTasks.keeps o2 (Keeps.ext hX) (S := rowS) (by decide) (by decide)
  replace o3 := OBinds.keeps o3 (Keeps.ext hX) (S := rowS) (by decide)
  replace hkp := Keeps.trans hkp (Keeps.ext hX)
  clear hX
  refine E.WL.val (E.y_move rfl) rfl rfl rfl ?_
  refine E.WL.val (E.y_extract rfl rfl) rfl rfl rfl ?_
  refine E.WL.val (E.y_extract rfl rfl) rfl rfl rfl ?_
  refine E.WL.val (E.y_assign rfl) rfl rfl rfl ?_
  refine E.WL.val (E.y_assign rfl) rfl rfl rfl ?_
  refine E.WL.done ?_
  refine E.KQ.then_n ?_
  refine E.W.seq ?_
  refine E.W.block ?_
  refine E.W.seq ?_
  refine E.W.region ?_
  refine E.WL.val (E.y_move rfl) rfl rfl rfl ?_
  refine E.WL.val (E.y_not rfl) rfl rfl rfl ?_
  refine E.WL.val (E.y_assign rfl) rfl rfl rfl ?_
  refine E.WL.done ?_
  refine E.KQ.then_n ?_
  refine E.W.condT 13 rfl (fun h13 => ?_) (fun h13 => ?_)
  · replace h13 : hasB (nodeNames b) s = false := by simpa using h13
    have hp : goneP b s = (b, 6) := by unfold goneP; rw [if_pos h13]
    refine E.W.seq ?_
    refine E.W.region ?_
    refine E.WL.val (E.y_assign rfl) rfl rfl rfl ?_
    refine E.WL.done ?_
    refine E.KQ.then_n ?_
    refine E.W.ret ?_
    refine E.KQ.block_r ?_
    refine E.KQ.then_r ?_
    refine E.KQ.ret1 Tryz.results20 rfl ?_
    exact ⟨_, rfl, congrArg (fun p => Value.int .i64 p.2) hp.symm, by rw [hp]; exact Kp.mk' hb 0 rfl o1 o2 o3, hb.below, hkp⟩
  · replace h13 : hasB (nodeNames b) s = true := by simpa using h13
    refine E.W.seq ?_
    refine E.W.region ?_
    refine E.WL.val (E.y_move rfl) rfl rfl rfl ?_
    refine E.WL.val (E.y_move rfl) rfl rfl rfl ?_
    refine E.WL.call (there_calls (hb.at0 0 rfl) (ORd (by omega) o1 o2 o3) hsz.2.2 s) Tryz.call57 rfl rfl rfl ?_
    rintro v' w2 ⟨⟨_, rfl, hl⟩, hX⟩
    replace hb := hb.ext hX
    replace o1 := ONodes.keeps o1 (Keeps.ext hX) (S := rowS) (by decide) (by decide)
    replace o2 := OTasks.keeps o2 (Keeps.ext hX) (S := rowS) (by decide) (by decide)
    replace o3 := OBinds.keeps o3 (Keeps.ext hX) (S := rowS) (by decide)
    replace hkp := Keeps.trans hkp (Keeps.ext hX)
    obtain ⟨A, c, rfl, _⟩ := hl.open_
    clear hX
    refine E.WL.val (E.y_lenS Tryz.underlying23 rfl) rfl rfl rfl ?_
    refine E.WL.val (E.y_gtr rfl rfl) rfl rfl rfl ?_
    refine E.WL.val (E.y_assign rfl) rfl rfl rfl ?_
    refine E.WL.done ?_
    refine E.KQ.then_n ?_
    refine E.W.condT 16 rfl (fun h16 => ?_) (fun h16 => ?_)
    · replace h16 : 0 < (thereB b s).length := by have := of_decide_eq_true h16; omega
      have hp : goneP b s = (b, 12) := by unfold goneP; rw [if_neg (by rw [h13]; decide), if_pos h16]
      refine E.W.seq ?_
      refine E.W.region ?_
      refine E.WL.val (E.y_assign rfl) rfl rfl rfl ?_
      refine E.WL.done ?_
      refine E.KQ.then_n ?_
      refine E.W.ret ?_
      refine E.KQ.block_r ?_
      refine E.KQ.then_r ?_
      refine E.KQ.ret1 Tryz.results20 rfl ?_
      exact ⟨_, rfl, congrArg (fun p => Value.int .i64 p.2) hp.symm, by rw [hp]; exact Kp.mk' hb 0 rfl o1 o2 o3, hb.below, hkp⟩
    · replace h16 : ¬ 0 < (thereB b s).length := by have := of_decide_eq_false h16; omega
      have hp : goneP b s = ({ b with nodes := dropAt (posB (nodeNames b) s) b.nodes }, 0) := by unfold goneP; rw [if_neg (by rw [h13]; decide), if_neg h16]
      have hi := nodePos_lt h13
      refine E.W.skip ?_
      refine E.KQ.block_n ?_
      refine E.KQ.then_n ?_
      refine E.W.seq ?_
      refine E.W.region ?_
      refine E.WL.val (E.y_move rfl) rfl rfl rfl ?_
      refine E.WL.val (E.y_move rfl) rfl rfl rfl ?_
      refine E.WL.val (E.y_nilCheck rfl) rfl rfl rfl ?_
      refine E.WL.val (E.y_fld Tryz.underlying66 rfl Tryz.sizeOf27 rfl) rfl rfl rfl ?_
      refine E.WL.val (E.y_fld Tryz.underlying27 rfl Tryz.sizeOf22 rfl) rfl rfl rfl ?_
      refine E.WL.val (E.y_load rfl (E.At.ld1 Tryz.isAgg22 (hb.at0 0 rfl) 0 rfl)) rfl rfl rfl ?_
      refine E.WL.val (E.y_move rfl) rfl rfl rfl ?_
      refine E.WL.val (E.y_move rfl) rfl rfl rfl ?_
      refine E.WL.val (E.y_add rfl rfl (Go.IntWalk.i64_in _ (by omega))) rfl rfl rfl ?_
      refine E.WL.call (deleteNode_calls (i := posB (nodeNames b) s) o1.row hb.le (o1.rows.one1 (by decide) (fun cs x hx => hx.one)) hi (by omega)) Tryz.call58 rfl rfl rfl ?_
      rintro v' w3 ⟨⟨_, rfl, own'⟩, hB6, hK6⟩
      replace hb := (hb.drop (List.Sublist.refl _)).keeps hK6 hB6 (fun p hp => by simp at hp; subst hp; show (66 : Nat) ≠ 32; decide)
      replace o2 := OTasks.keeps o2 hK6 (by decide) (by decide)
      replace o3 := OBinds.keeps o3 hK6 (by decide)
      replace hkp := Keeps.trans hkp (hK6.mono (by rintro U (rfl | rfl | rfl) <;> decide))
      replace o1 : ONodes base w3 v' (dropAt (posB (nodeNames b) s) b.nodes) _ := ⟨by rw [dropAt_len hi]; exact own', (o1.rows.to fun cs x hx => RNode.keeps hx hK6 (by decide)).cutOut⟩
      obtain ⟨A', c', rfl, _⟩ := ownsRow_open own'
      clear own' hB6 hK6
      refine E.WL.val (E.y_nilCheck rfl) rfl rfl rfl ?_
      refine E.WL.val (E.y_fld Tryz.underlying66 rfl Tryz.sizeOf27 rfl) rfl rfl rfl ?_
      refine E.WL.val (E.y_fld Tryz.underlying27 rfl Tryz.sizeOf22 rfl) rfl rfl rfl ?_
      refine E.WL.store hb 0 0 rfl rfl rfl Tryz.sizeOf22 rfl rfl rfl (E.allOne rfl) rfl ?_
      have hT := hb.hasT 0 rfl
      clear hb; intro w4 hb hO
      replace o1 := ONodes.keeps o1 (Keeps.only hO hT (by decide)) (S := rowS) (by decide) (by decide)
      replace o2 := OTasks.keeps o2 (Keeps.only hO hT (by decide)) (S := rowS) (by decide) (by decide)
      replace o3 := OBinds.keeps o3 (Keeps.only hO hT (by decide)) (S := rowS) (by decide)
      replace hkp := Keeps.trans hkp (Keeps.only hO hT (by decide))
      clear hT
      clear hO
      refine E.WL.done ?_
      refine E.KQ.then_n ?_
      refine E.W.seq ?_
      refine E.W.region ?_
      refine E.WL.val (E.y_assign rfl) rfl rfl rfl ?_
      refine E.WL.done ?_
      refine E.KQ.then_n ?_
      refine E.W.ret ?_
      refine E.KQ.ret1 Tryz.results20 rfl ?_
      exact ⟨_, rfl, congrArg (fun p => Value.int .i64 p.2) hp.symm, by rw [hp]; exact Kp.mk' hb 0 rfl o1 o2 o3, hb.below, hkp⟩

set_option maxHeartbeats 2000000 in
theorem free_calls {w : World} {base K : Nat} {b : BookD} (hbase : base ≤ w.heap.size) (hk : Kp base w K b) (hsz : small b) (s : ByteArray) :
    Calls Tryz.prog 62 #[(.pointer (some ⟨K, 0, none⟩)), (.string s)] w (Ret fun u w' => u = .bool (freeP b s).2 ∧ Kp base w' K (freeP b s).1 ∧ Below base w w' ∧ Keeps boxS w w') := by
  obtain ⟨vn, vt, vb, nn, nt, nb, hbK, hgK, o1, o2, o3⟩ := hk.out
  obtain ⟨A1, c1, rfl, hA1⟩ := ownsRow_open o1.row
  obtain ⟨A2, c2, rfl, hA2⟩ := ownsRow_open o2.row
  obtain ⟨A3, c3, rfl, hA3⟩ := ownsRow_open o3.row
  have hkp : Keeps boxS w w := Keeps.refl w
  unfold small at hsz
  have hb := Bx.one hbK hgK hbase
  refine E.enter Tryz.func62 rfl Tryz.ntmps62 [(.pointer (some ⟨K, 0, none⟩)), (.string s)] rfl ?_
  refine E.W.seq ?_
  refine E.W.region ?_
  refine E.WL.val (E.y_assign rfl) rfl rfl rfl ?_
  refine E.WL.done ?_
  refine E.KQ.then_n ?_
  refine E.W.seq ?_
  refine E.W.region ?_
  refine E.WL.val (E.y_move rfl) rfl rfl rfl ?_
  refine E.WL.val (E.y_move rfl) rfl rfl rfl ?_
  refine E.WL.call (bind_calls (hb.at0 0 rfl) (ORd (by omega) o1 o2 o3) s) Tryz.call60 rfl rfl rfl ?_
  rintro _ w1 ⟨rfl, hX⟩
  replace hb := hb.ext hX
  replace o1 := ONodes.keeps o1 (Keeps.ext hX) (S := rowS) (by decide) (by decide)
  replace o2 := OTasks.keeps o2 (Keeps.ext hX) (S := rowS) (by decide) (by decide)
  replace o3 := OBinds.keeps o3 (Keeps.ext hX) (S := rowS) (by decide)
  replace hkp := Keeps.trans hkp (Keeps.ext hX)
  clear hX
  refine E.WL.val (E.y_move rfl) rfl rfl rfl ?_
  refine E.WL.val (E.y_extract rfl rfl) rfl rfl rfl ?_
  refine E.WL.val (E.y_extract rfl rfl) rfl rfl rfl ?_
  refine E.WL.val (E.y_assign rfl) rfl rfl rfl ?_
  refine E.WL.val (E.y_assign rfl) rfl rfl rfl ?_
  refine E.WL.done ?_
  refine E.KQ.then_n ?_
  refine E.W.seq ?_
  refine E.W.seq ?_
  refine E.W.region ?_
  refine E.WL.val (E.y_move rfl) rfl rfl rfl ?_
  refine E.WL.done ?_
  refine E.KQ.then_n ?_
  refine E.W.condT 13 rfl (fun h13 => ?_) (fun h13 => ?_)
  · skip
    have hp : freeP b s = ({ b with binds := dropAt (posB (bindNames b) s) b.binds }, true) := by unfold freeP; rw [if_pos h13]
    have hi := bindPos_lt h13
    refine E.W.region ?_
    refine E.WL.val (E.y_move rfl) rfl rfl rfl ?_
    refine E.WL.val (E.y_move rfl) rfl rfl rfl ?_
    refine E.WL.val (E.y_nilCheck rfl) rfl rfl rfl ?_
    refine E.WL.val (E.y_fld Tryz.underlying66 rfl Tryz.sizeOf27 rfl) rfl rfl rfl ?_
    refine E.WL.val (E.y_fld Tryz.underlying27 rfl Tryz.sizeOf24 rfl) rfl rfl rfl ?_
    refine E.WL.val (E.y_load rfl (E.At.ld1 Tryz.isAgg24 (hb.at0 0 rfl) 2 rfl)) rfl rfl rfl ?_
    refine E.WL.val (E.y_move rfl) rfl rfl rfl ?_
    refine E.WL.val (E.y_move rfl) rfl rfl rfl ?_
    refine E.WL.val (E.y_add rfl rfl (Go.IntWalk.i64_in _ (by omega))) rfl rfl rfl ?_
    refine E.WL.call (deleteBind_calls (i := posB (bindNames b) s) o3.row hb.le (o3.rows.one1 (by decide) (fun cs x hx => hx.one)) hi (by omega)) Tryz.call98 rfl rfl rfl ?_
    rintro v' w2 ⟨⟨_, rfl, own'⟩, hB6, hK6⟩
    replace hb := (hb.drop (List.Sublist.refl _)).keeps hK6 hB6 (fun p hp => by simp at hp; subst hp; show (66 : Nat) ≠ 47; decide)
    replace o1 := ONodes.keeps o1 hK6 (by decide) (by decide)
    replace o2 := OTasks.keeps o2 hK6 (by decide) (by decide)
    replace hkp := Keeps.trans hkp (hK6.mono (by rintro U (rfl | rfl | rfl) <;> decide))
    replace o3 : OBinds base w2 v' (dropAt (posB (bindNames b) s) b.binds) _ := ⟨by rw [dropAt_len hi]; exact own', (Rows.to (R' := RBind) (G := Own base w2) (w' := w2) o3.rows fun cs x hx => hx).cutOut⟩
    obtain ⟨A', c', rfl, _⟩ := ownsRow_open own'
    clear own' hB6 hK6
    refine E.WL.val (E.y_nilCheck rfl) rfl rfl rfl ?_
    refine E.WL.val (E.y_fld Tryz.underlying66 rfl Tryz.sizeOf27 rfl) rfl rfl rfl ?_
    refine E.WL.val (E.y_fld Tryz.underlying27 rfl Tryz.sizeOf24 rfl) rfl rfl rfl ?_
    refine E.WL.store hb 0 2 rfl rfl rfl Tryz.sizeOf24 rfl rfl rfl (E.allOne rfl) rfl ?_
    have hT := hb.hasT 0 rfl
    clear hb; intro w3 hb hO
    replace o1 := ONodes.keeps o1 (Keeps.only hO hT (by decide)) (S := rowS) (by decide) (by decide)
    replace o2 := OTasks.keeps o2 (Keeps.only hO hT (by decide)) (S := rowS) (by decide) (by decide)
    replace o3 := OBinds.keeps o3 (Keeps.only hO hT (by decide)) (S := rowS) (by decide)
    replace hkp := Keeps.trans hkp (Keeps.only hO hT (by decide))
    clear hT
    clear hO
    refine E.WL.done ?_
    refine E.KQ.then_n ?_
    refine E.W.seq ?_
    refine E.W.region ?_
    refine E.WL.val (E.y_move rfl) rfl rfl rfl ?_
    refine E.WL.val (E.y_assign rfl) rfl rfl rfl ?_
    refine E.WL.done ?_
    refine E.KQ.then_n ?_
    refine E.W.ret ?_
    refine E.KQ.ret1 Tryz.results62 rfl ?_
    exact ⟨_, rfl, by rw [hp]; exact congrArg Value.bool h13, by rw [hp]; exact Kp.mk' hb 0 rfl o1 o2 o3, hb.below, hkp⟩
  · skip
    have hp : freeP b s = (b, false) := by unfold freeP; rw [if_neg (by rw [h13]; decide)]
    refine E.W.skip ?_
    refine E.KQ.then_n ?_
    refine E.W.seq ?_
    refine E.W.region ?_
    refine E.WL.val (E.y_move rfl) rfl rfl rfl ?_
    refine E.WL.val (E.y_assign rfl) rfl rfl rfl ?_
    refine E.WL.done ?_
    refine E.KQ.then_n ?_
    refine E.W.ret ?_
    refine E.KQ.ret1 Tryz.results62 rfl ?_
    exact ⟨_, rfl, by rw [hp]; exact congrArg Value.bool h13, by rw [hp]; exact Kp.mk' hb 0 rfl o1 o2 o3, hb.below, hkp⟩

set_option maxHeartbeats 2000000 in
theorem place_calls {w : World} {base K : Nat} {b : BookD} (hbase : base ≤ w.heap.size) (hk : Kp base w K b) (hsz : small b) {co : List Value} {o : OrderD} (ho : ROrder (Lt base) w co o) :
    Calls Tryz.prog 21 #[(.pointer (some ⟨K, 0, none⟩)), (.agg co.toArray)] w (Ret fun u w' => u = .int .i64 (placeP b o).2 ∧ Kp base w' K (placeP b o).1 ∧ Below base w w' ∧ Keeps boxS w w') := by
  obtain ⟨vn, vt, vb, nn, nt, nb, hbK, hgK, o1, o2, o3⟩ := hk.out
  obtain ⟨A1, c1, rfl, hA1⟩ := ownsRow_open o1.row
  obtain ⟨A2, c2, rfl, hA2⟩ := ownsRow_open o2.row
  obtain ⟨A3, c3, rfl, hA3⟩ := ownsRow_open o3.row
  have hkp : Keeps boxS w w := Keeps.refl w
  unfold small at hsz
  obtain ⟨cn, ct, rfl, hn, ht⟩ := ho
  obtain ⟨vl, vt', rfl, _, _⟩ := id hn
  obtain ⟨vw, vb', rfl, _, _⟩ := id ht
  have hb := Bx.one hbK hgK hbase
  refine E.enter Tryz.func21 rfl Tryz.ntmps21 [(.pointer (some ⟨K, 0, none⟩)), (.agg #[.int .u8 o.kind, .string o.node.name, .int .i64 o.node.h0, .int .i64 o.node.h1, .int .i64 o.node.h2, vl, vt', .string o.task.name, .int .i64 o.task.n0, .int .i64 o.task.n1, .int .i64 o.task.n2, vw, vb', .string o.task.group, .string o.task.apart, .int .i64 o.task.rank, .string o.name, .string o.on, .int .u64 o.fence])] rfl ?_
  refine E.W.seq ?_
  refine E.W.region ?_
  refine E.WL.box hb rfl rfl rfl rfl ?_
  clear hb; intro B1 w2 hb hX _
  replace o1 := ONodes.keeps o1 (Keeps.ext hX) (S := rowS) (by decide) (by decide)
  replace o2 := OTasks.keeps o2 (Keeps.ext hX) (S := rowS) (by decide) (by decide)
  replace o3 := OBinds.keeps o3 (Keeps.ext hX) (S := rowS) (by decide)
  replace hkp := Keeps.trans hkp (Keeps.ext hX)
  clear hX
  refine E.WL.val (E.y_assign rfl) rfl rfl rfl ?_
  refine E.WL.done ?_
  refine E.KQ.then_n ?_
  refine E.W.seq ?_
  refine E.W.seq ?_
  refine E.W.regionQ rfl (by kernel_rfl) ?_
  refine E.QL.val (fun w' hw => E.y_fld Tryz.underlying36 rfl Tryz.sizeOf25 rfl) rfl rfl rfl ?_
  refine E.QL.val (fun w' hw => E.y_load rfl (E.At.ld1 Tryz.isAgg25 ((hb.ext hw).at0 0 rfl) 18 rfl)) rfl rfl rfl ?_
  refine E.QL.val (fun w' hw => E.y_move rfl) rfl rfl rfl ?_
  refine E.QL.val (fun w' hw => E.y_nilCheck rfl) rfl rfl rfl ?_
  refine E.QL.val (fun w' hw => E.y_fld Tryz.underlying66 rfl Tryz.sizeOf27 rfl) rfl rfl rfl ?_
  refine E.QL.val (fun w' hw => E.y_fld Tryz.underlying27 rfl Tryz.sizeOf25 rfl) rfl rfl rfl ?_
  refine E.QL.val (fun w' hw => E.y_load rfl (E.At.ld1 Tryz.isAgg25 ((hb.ext hw).at0 1 rfl) 3 rfl)) rfl rfl rfl ?_
  refine E.QL.val (fun w' hw => E.y_lss rfl rfl) rfl rfl rfl ?_
  refine E.QL.end_ fun w3 hx => ?_
  replace hb := hb.ext hx
  replace o1 := ONodes.keeps o1 (Keeps.ext hx) (S := rowS) (by decide) (by decide)
  replace o2 := OTasks.keeps o2 (Keeps.ext hx) (S := rowS) (by decide) (by decide)
  replace o3 := OBinds.keeps o3 (Keeps.ext hx) (S := rowS) (by decide)
  replace hkp := Keeps.trans hkp (Keeps.ext hx)
  clear hx
  refine E.KQ.then_n ?_
  refine E.W.condT 15 rfl (fun h15 => ?_) (fun h15 => ?_)
  · replace h15 := of_decide_eq_true h15
    have hp : placeP b o = (b, 14) := by unfold placeP; rw [if_pos h15]
    refine E.W.seq ?_
    refine E.W.region ?_
    refine E.WL.val (E.y_assign rfl) rfl rfl rfl ?_
    refine E.WL.done ?_
    refine E.KQ.then_n ?_
    refine E.W.ret ?_
    refine E.KQ.then_r ?_
    refine E.KQ.ret1 Tryz.results21 rfl ?_
    exact ⟨_, rfl, congrArg (fun p => Value.int .i64 p.2) hp.symm, by rw [hp]; exact Kp.mk' hb 1 rfl o1 o2 o3, hb.below, hkp⟩
  · replace h15 := of_decide_eq_false h15
    refine E.W.skip ?_
    refine E.KQ.then_n ?_
    refine E.W.seq ?_
    refine E.W.region ?_
    refine E.WL.val (E.y_move rfl) rfl rfl rfl ?_
    refine E.WL.val (E.y_fld Tryz.underlying36 rfl Tryz.sizeOf9 rfl) rfl rfl rfl ?_
    refine E.WL.val (E.y_load rfl (E.At.ld1 Tryz.isAgg9 (hb.at0 0 rfl) 16 rfl)) rfl rfl rfl ?_
    refine E.WL.val (E.y_fld Tryz.underlying36 rfl Tryz.sizeOf9 rfl) rfl rfl rfl ?_
    refine E.WL.val (E.y_load rfl (E.At.ld1 Tryz.isAgg9 (hb.at0 0 rfl) 17 rfl)) rfl rfl rfl ?_
    refine E.WL.call (can_calls (hb.at0 1 rfl) (ORd (by omega) o1 o2 o3) hsz.2.2 o.name o.on) Tryz.call59 rfl rfl rfl ?_
    rintro _ w4 ⟨rfl, hX⟩
    replace hb := hb.ext hX
    replace o1 := ONodes.keeps o1 (Keeps.ext hX) (S := rowS) (by decide) (by decide)
    replace o2 := OTasks.keeps o2 (Keeps.ext hX) (S := rowS) (by decide) (by decide)
    replace o3 := OBinds.keeps o3 (Keeps.ext hX) (S := rowS) (by decide)
    replace hkp := Keeps.trans hkp (Keeps.ext hX)
    clear hX
    refine E.WL.val (E.y_assign rfl) rfl rfl rfl ?_
    refine E.WL.done ?_
    refine E.KQ.then_n ?_
    refine E.W.seq ?_
    refine E.W.seq ?_
    refine E.W.region ?_
    refine E.WL.val (E.y_move rfl) rfl rfl rfl ?_
    refine E.WL.val (E.y_eql rfl rfl) rfl rfl rfl ?_
    refine E.WL.done ?_
    refine E.KQ.then_n ?_
    refine E.W.condT 23 rfl (fun h23 => ?_) (fun h23 => ?_)
    · replace h23 := of_decide_eq_true h23
      have hp : placeP b o = ({ b with binds := putAt (posB (bindNames b) o.name) ⟨o.name, o.on⟩ b.binds }, 0) := by unfold placeP; rw [if_neg h15, if_pos h23]
      have hi : posB (bindNames b) o.name ≤ b.binds.length := by have := posB_le (bindNames b) o.name; simpa [bindNames] using this
      refine E.W.seq ?_
      refine E.W.region ?_
      refine E.WL.val (E.y_move rfl) rfl rfl rfl ?_
      refine E.WL.val (E.y_fld Tryz.underlying36 rfl Tryz.sizeOf9 rfl) rfl rfl rfl ?_
      refine E.WL.val (E.y_load rfl (E.At.ld1 Tryz.isAgg9 (hb.at0 0 rfl) 16 rfl)) rfl rfl rfl ?_
      refine E.WL.call (bind_calls (hb.at0 1 rfl) (ORd (by omega) o1 o2 o3) o.name) Tryz.call60 rfl rfl rfl ?_
      rintro _ w5 ⟨rfl, hX⟩
      replace hb := hb.ext hX
      replace o1 := ONodes.keeps o1 (Keeps.ext hX) (S := rowS) (by decide) (by decide)
      replace o2 := OTasks.keeps o2 (Keeps.ext hX) (S := rowS) (by decide) (by decide)
      replace o3 := OBinds.keeps o3 (Keeps.ext hX) (S := rowS) (by decide)
      replace hkp := Keeps.trans hkp (Keeps.ext hX)
      clear hX
      refine E.WL.val (E.y_move rfl) rfl rfl rfl ?_
      refine E.WL.val (E.y_extract rfl rfl) rfl rfl rfl ?_
      refine E.WL.val (E.y_extract rfl rfl) rfl rfl rfl ?_
      refine E.WL.val (E.y_assign rfl) rfl rfl rfl ?_
      refine E.WL.val (E.y_assign rfl) rfl rfl rfl ?_
      refine E.WL.done ?_
      refine E.KQ.then_n ?_
      have hb0 := hb
      refine E.W.regionD (E.heads 13 [0]) rfl ?_
      replace hb := hb.drew
      replace o1 := ONodes.keeps o1 (Keeps.ext (E.Ext.drew _)) (S := rowS) (by decide) (by decide)
      replace o2 := OTasks.keeps o2 (Keeps.ext (E.Ext.drew _)) (S := rowS) (by decide) (by decide)
      replace o3 := OBinds.keeps o3 (Keeps.ext (E.Ext.drew _)) (S := rowS) (by decide)
      replace hkp := Keeps.trans hkp (Keeps.ext (E.Ext.drew _))
      have hE := E.Ext.drew w5
      refine E.DL.takeU 0 rfl (by kernel_rfl) rfl (fun w' => E.y_move rfl) rfl rfl rfl (fun _ _ _ _ h => by obtain ⟨_, _, h, _⟩ := h; cases h) ?_
      refine E.DL.take 1 rfl (by kernel_rfl) (by kernel_rfl) (fun w' hw => E.y_move rfl) rfl rfl rfl (fun _ _ _ _ h => by obtain ⟨_, _, h, _⟩ := h; cases h) hE ?_
      refine E.DL.take 2 rfl (by kernel_rfl) (by kernel_rfl) (fun w' hw => E.y_nilCheck rfl) rfl rfl rfl (fun _ _ _ _ h => by obtain ⟨_, _, h, _⟩ := h; cases h) hE ?_
      refine E.DL.take 3 rfl (by kernel_rfl) (by kernel_rfl) (fun w' hw => E.y_fld Tryz.underlying66 rfl Tryz.sizeOf27 rfl) rfl rfl rfl (fun _ _ _ _ h => by obtain ⟨_, _, h, _⟩ := h; cases h) hE ?_
      refine E.DL.take 4 rfl (by kernel_rfl) (by kernel_rfl) (fun w' hw => E.y_fld Tryz.underlying27 rfl Tryz.sizeOf24 rfl) rfl rfl rfl (fun _ _ _ _ h => by obtain ⟨_, _, h, _⟩ := h; cases h) hE ?_
      refine E.DL.take 5 rfl (by kernel_rfl) (by kernel_rfl) (fun w' hw => E.y_load rfl (E.At.ld1 Tryz.isAgg24 ((hb0.ext hw).at0 1 rfl) 2 rfl)) rfl rfl rfl (fun _ _ _ _ h => by obtain ⟨_, _, h, _⟩ := h; cases h) hE ?_
      refine E.DL.take 6 rfl (by kernel_rfl) (by kernel_rfl) (fun w' hw => E.y_move rfl) rfl rfl rfl (fun _ _ _ _ h => by obtain ⟨_, _, h, _⟩ := h; cases h) hE ?_
      refine E.DL.take 7 rfl (by kernel_rfl) (by kernel_rfl) (fun w' hw => E.y_fld Tryz.underlying36 rfl Tryz.sizeOf9 rfl) rfl rfl rfl (fun _ _ _ _ h => by obtain ⟨_, _, h, _⟩ := h; cases h) hE ?_
      refine E.DL.take 8 rfl (by kernel_rfl) (by kernel_rfl) (fun w' hw => E.y_load rfl (E.At.ld1 Tryz.isAgg9 ((hb0.ext hw).at0 0 rfl) 16 rfl)) rfl rfl rfl (fun _ _ _ _ h => by obtain ⟨_, _, h, _⟩ := h; cases h) hE ?_
      refine E.DL.take 9 rfl (by kernel_rfl) (by kernel_rfl) (fun w' hw => E.y_fld Tryz.underlying36 rfl Tryz.sizeOf9 rfl) rfl rfl rfl (fun _ _ _ _ h => by obtain ⟨_, _, h, _⟩ := h; cases h) hE ?_
      refine E.DL.take 10 rfl (by kernel_rfl) (by kernel_rfl) (fun w' hw => E.y_load rfl (E.At.ld1 Tryz.isAgg9 ((hb0.ext hw).at0 0 rfl) 17 rfl)) rfl rfl rfl (fun _ _ _ _ h => by obtain ⟨_, _, h, _⟩ := h; cases h) hE ?_
      refine E.DL.take 11 rfl (by kernel_rfl) (by kernel_rfl) (fun w' hw => E.y_build (v := .agg #[.string o.name, .string o.on]) rfl (by kernel_rfl)) rfl rfl rfl (fun _ _ _ _ h => by obtain ⟨_, _, h, _⟩ := h; cases h) hE ?_
      have hlt := o3.row.lt
      refine E.DL.only 12 rfl (by kernel_rfl) (fun hsh => ?_)
      refine E.WL.mkslice (T := 47) (cs := [.string o.name, .string o.on]) hb rfl (fun _ => by kernel_rfl) rfl rfl ?_
      clear hb; intro B43 w7 hb hX hB43
      replace o1 := ONodes.keeps o1 (Keeps.ext hX) (S := rowS) (by decide) (by decide)
      replace o2 := OTasks.keeps o2 (Keeps.ext hX) (S := rowS) (by decide) (by decide)
      replace o3 := OBinds.keeps o3 (Keeps.ext hX) (S := rowS) (by decide)
      replace hkp := Keeps.trans hkp (Keeps.ext hX)
      refine E.WL.done ?_
      replace hE := hE.trans hX
      clear hX
      refine E.DL.next hsh (.inl hE) ?_
      clear hsh
      have hgB : (Value.slice A3 b.binds.length c3).ownBlock ≠ some B43 := fun e => by have := (hlt _ e).2; omega
      refine E.DL.only 13 rfl (by kernel_rfl) (fun hsh => ?_)
      refine E.WL.call (insertBind_calls (i := posB (bindNames b) o.name) o3.row hb.le (hb.at0 0 rfl) (hb.hasT 0 rfl) hgB rfl (E.allOne rfl) (o3.rows.one1 (by decide) (fun cs x hx => hx.one)) hi (by omega)) Tryz.call61 rfl rfl rfl ?_
      rintro v' w8 ⟨⟨_, rfl, own'⟩, hB6, hK6⟩
      replace hb := (hb.drop (List.Sublist.cons _ (List.Sublist.cons _ (List.Sublist.refl _)))).keeps hK6 hB6 (fun p hp => by simp at hp; subst hp; show (66 : Nat) ≠ 47; decide)
      replace o1 := ONodes.keeps o1 hK6 (by decide) (by decide)
      replace o2 := OTasks.keeps o2 hK6 (by decide) (by decide)
      replace hkp := Keeps.trans hkp (hK6.mono (by rintro U (rfl | rfl | rfl) <;> decide))
      replace o3 : OBinds base w8 v' (putAt (posB (bindNames b) o.name) ⟨o.name, o.on⟩ b.binds) _ := ⟨by rw [putAt_len hi]; exact own', (Rows.to (R' := RBind) (G := Own base w8) (w' := w8) o3.rows fun cs x hx => hx).putIn rfl rfl⟩
      obtain ⟨A', c', rfl, _⟩ := ownsRow_open own'
      clear own' hB6 hK6
      refine E.WL.done ?_
      refine E.DL.next hsh (.inr rfl) ?_
      clear hsh
      refine E.DL.takeU 14 rfl (by kernel_rfl) rfl (fun w' => E.y_nilCheck rfl) rfl rfl rfl (fun _ _ _ _ h => by obtain ⟨_, _, h, _⟩ := h; cases h) ?_
      refine E.DL.takeU 15 rfl (by kernel_rfl) rfl (fun w' => E.y_fld Tryz.underlying66 rfl Tryz.sizeOf27 rfl) rfl rfl rfl (fun _ _ _ _ h => by obtain ⟨_, _, h, _⟩ := h; cases h) ?_
      refine E.DL.takeU 16 rfl (by kernel_rfl) rfl (fun w' => E.y_fld Tryz.underlying27 rfl Tryz.sizeOf24 rfl) rfl rfl rfl (fun _ _ _ _ h => by obtain ⟨_, _, h, _⟩ := h; cases h) ?_
      refine E.DL.only 17 rfl (by kernel_rfl) (fun hsh => ?_)
      refine E.WL.store hb 0 2 rfl rfl rfl Tryz.sizeOf24 rfl rfl rfl (E.allOne rfl) rfl ?_
      have hT := hb.hasT 0 rfl
      clear hb; intro w9 hb hO
      replace o1 := ONodes.keeps o1 (Keeps.only hO hT (by decide)) (S := rowS) (by decide) (by decide)
      replace o2 := OTasks.keeps o2 (Keeps.only hO hT (by decide)) (S := rowS) (by decide) (by decide)
      replace o3 := OBinds.keeps o3 (Keeps.only hO hT (by decide)) (S := rowS) (by decide)
      replace hkp := Keeps.trans hkp (Keeps.only hO hT (by decide))
      clear hT
      clear hO
      refine E.WL.done ?_
      refine E.DL.next hsh (.inr rfl) ?_
      clear hsh
      refine E.DL.done (by kernel_rfl) ?_
      clear hE hb0
      refine E.KQ.then_n ?_
      refine E.W.seq ?_
      refine E.W.region ?_
      refine E.WL.val (E.y_move rfl) rfl rfl rfl ?_
      refine E.WL.val (E.y_assign rfl) rfl rfl rfl ?_
      refine E.WL.done ?_
      refine E.KQ.then_n ?_
      refine E.W.ret ?_
      refine E.KQ.ret1 Tryz.results21 rfl ?_
      exact ⟨_, rfl, by rw [hp, h23], by rw [hp]; exact Kp.mk' hb 0 rfl o1 o2 o3, hb.below, hkp⟩
    · replace h23 := of_decide_eq_false h23
      have hp : placeP b o = (b, canP b o.name o.on) := by unfold placeP; rw [if_neg h15, if_neg h23]
      refine E.W.skip ?_
      refine E.KQ.then_n ?_
      refine E.W.seq ?_
      refine E.W.region ?_
      refine E.WL.val (E.y_move rfl) rfl rfl rfl ?_
      refine E.WL.val (E.y_assign rfl) rfl rfl rfl ?_
      refine E.WL.done ?_
      refine E.KQ.then_n ?_
      refine E.W.ret ?_
      refine E.KQ.ret1 Tryz.results21 rfl ?_
      exact ⟨_, rfl, congrArg (fun p => Value.int .i64 p.2) hp.symm, by rw [hp]; exact Kp.mk' hb 1 rfl o1 o2 o3, hb.below, hkp⟩
end Go.Proofs.YtmnnbnajnfdncaaGreatDoor
