/- Walks: BookOwn. -/
import Derived.Test.YtmnnbnajnfdncaaGreatDoorD10
import Derived.Test.YtmnnbnajnfdncaaGreatDoorLaw1
import Derived.Test.YtmnnbnajnfdncaaGreatDoorRef1
import Derived.Test.YtmnnbnajnfdncaaGreatDoorRef2
set_option linter.unusedVariables false
set_option linter.unusedSimpArgs false
namespace Go.Proofs.YtmnnbnajnfdncaaGreatDoor
open Go.RowKit E
def spo : ByteArray := ⟨#[115, 112, 111, 105, 108, 116]⟩
set_option maxHeartbeats 4000000 in
theorem bookOwn_calls {F G : FP} {w : World} {cs co : List Value} {b : BookD} {o : OrderD} (h : RBook F w cs b) (ho : ROrder G w co o) (hs : orderFits o) :
    Calls Tryz.prog 3 #[(.agg cs.toArray), (.agg co.toArray)] w (Ret fun u w' => u = .bool true ∧ Ext w w') := by
  have h0 := h.old
  obtain ⟨vn, vt, vb, rfl, hn0, ht0, hbi0⟩ := id h
  obtain ⟨Ab, cb0, rfl, hcb, hbyb, hgb⟩ := hbi0.open_
  obtain ⟨At', ct0, rfl, hct, hbyt, hgt⟩ := ht0.open_
  obtain ⟨An, cn0, rfl, hcn, hbyn, hgn⟩ := hn0.open_
  have ho2 : ROrder (Old w) w co o := ho.old
  clear ho
  obtain ⟨cn, ct, rfl, hn, ht⟩ := id ho2
  obtain ⟨vl, vt', rfl, hq1, hq2⟩ := id hn
  obtain ⟨vw, vb', rfl, hq3, hq4⟩ := id ht
  have hb := E.Bx.start w (base := w.heap.size) (Nat.le_refl _)
  refine E.enter Tryz.func3 rfl Tryz.ntmps3 [(.agg #[.slice An b.nodes.length cn0, .slice At' b.tasks.length ct0, .slice Ab b.binds.length cb0, .int .u64 b.fence]), (.agg #[.int .u8 o.kind, .string o.node.name, .int .i64 o.node.h0, .int .i64 o.node.h1, .int .i64 o.node.h2, vl, vt', .string o.task.name, .int .i64 o.task.n0, .int .i64 o.task.n1, .int .i64 o.task.n2, vw, vb', .string o.task.group, .string o.task.apart, .int .i64 o.task.rank, .string o.name, .string o.on, .int .u64 o.fence])] rfl ?_
  refine E.W.seq ?_
  refine E.W.region ?_
  refine E.WL.box hb rfl rfl rfl rfl ?_
  clear hb; intro B2 w2 hb _ _
  refine E.WL.box hb rfl rfl rfl rfl ?_
  clear hb; intro B3 w4 hb _ _
  refine E.WL.val (E.y_assign rfl) rfl rfl rfl ?_
  refine E.WL.done ?_
  refine E.KQ.then_n ?_
  refine E.W.seq ?_
  refine E.W.seq ?_
  refine E.W.region ?_
  refine E.WL.call (lives_calls w4) Tryz.call5 rfl rfl rfl ?_
  rintro _ w5 ⟨rfl, hX⟩
  replace hb := hb.ext hX
  clear hX
  refine E.WL.val (E.y_not rfl) rfl rfl rfl ?_
  refine E.WL.done ?_
  refine E.KQ.then_n ?_
  refine E.W.cond_f rfl ?_
  refine E.W.skip ?_
  refine E.KQ.then_n ?_
  refine E.W.seq ?_
  refine E.W.region ?_
  refine E.WL.val (E.y_load rfl (E.At.ldk Tryz.isAgg27 Tryz.sizeOf27 (hb.at0 1 rfl) rfl)) rfl rfl rfl ?_
  refine E.WL.call (copy_calls (RBook.goes.stays h0 (Stays.below hb.below (fun _ _ h => h)))) Tryz.call6 rfl rfl rfl ?_
  rintro _ w6 ⟨⟨csk, rfl, obk⟩, hX⟩
  replace hb := hb.ext hX
  obtain ⟨A1k, c1k, A2k, c2k, A3k, c3k, rfl⟩ := obk.four
  clear hX
  refine E.WL.alloc hb Tryz.zeroValue27 rfl rfl rfl ?_
  clear hb; intro B5 w8 hb hX _
  replace obk := OBook.keeps obk (Keeps.ext hX) (S := rowS) (by decide)
  clear hX
  refine E.WL.storeW hb 0 rfl rfl rfl Tryz.sizeOf27 rfl rfl rfl (E.allOne rfl) rfl ?_
  have hT := hb.hasT 0 rfl
  clear hb; intro w9 hb hO
  replace obk := OBook.keeps obk (Keeps.only hO hT (by decide)) (S := rowS) (by decide)
  clear hT
  clear hO
  refine E.WL.done ?_
  refine E.KQ.then_n ?_
  refine E.W.seq ?_
  refine E.W.region ?_
  refine E.WL.val (E.y_load rfl (E.At.ldk Tryz.isAgg27 Tryz.sizeOf27 (hb.at0 2 rfl) rfl)) rfl rfl rfl ?_
  refine E.WL.val (E.y_load rfl (E.At.ldk Tryz.isAgg36 Tryz.sizeOf36 (hb.at0 1 rfl) rfl)) rfl rfl rfl ?_
  refine E.WL.call (do_calls (RBook.goes.stays h0 (Stays.below hb.below (fun _ _ h => h))) (ROrder.goes.stays ho2 (Stays.below hb.below (fun _ _ h => h))) hs) Tryz.call7 rfl rfl rfl ?_
  rintro _ w10 ⟨⟨csc, rfl, obc⟩, hX⟩
  generalize (doP b o).1 = c at obc
  have hB2 := hb.at0 2 rfl
  have hB5 := hb.at0 0 rfl
  have hkr := obk.rd2 hbyn hbyt hbyb
  have hbr := RBook.goes.stays h0 (Stays.below hb.below (fun _ _ h => h))
  have hE0 := hb.below
  clear obk hb
  have hb : Bx w9.heap.size w9 w10 [] := ⟨hX, hX.size, fun _ h => (List.not_mem_nil h).elim, List.nodup_nil⟩
  obtain ⟨vn, vt, vb, nn, nt, nb, rfl, o1, o2, o3⟩ := obc.out
  obtain ⟨A1, c1, rfl, hA1⟩ := ownsRow_open o1.row
  obtain ⟨A2, c2, rfl, hA2⟩ := ownsRow_open o2.row
  obtain ⟨A3, c3, rfl, hA3⟩ := ownsRow_open o3.row
  clear obc hX
  have hm1 := ownsRow_max o1.row
  have hm2 := ownsRow_max o2.row
  have hm3 := ownsRow_max o3.row
  refine E.WL.val (E.y_move rfl) rfl rfl rfl ?_
  refine E.WL.val (E.y_extract rfl rfl) rfl rfl rfl ?_
  refine E.WL.val (E.y_extract rfl rfl) rfl rfl rfl ?_
  refine E.WL.alloc hb Tryz.zeroValue27 rfl rfl rfl ?_
  clear hb; intro B6 w12 hb hX _
  replace o1 := ONodes.keeps o1 (Keeps.ext hX) (S := rowS) (by decide) (by decide)
  replace o2 := OTasks.keeps o2 (Keeps.ext hX) (S := rowS) (by decide) (by decide)
  replace o3 := OBinds.keeps o3 (Keeps.ext hX) (S := rowS) (by decide)
  clear hX
  refine E.WL.alloc hb Tryz.zeroValue41 rfl rfl rfl ?_
  clear hb; intro B7 w14 hb hX _
  replace o1 := ONodes.keeps o1 (Keeps.ext hX) (S := rowS) (by decide) (by decide)
  replace o2 := OTasks.keeps o2 (Keeps.ext hX) (S := rowS) (by decide) (by decide)
  replace o3 := OBinds.keeps o3 (Keeps.ext hX) (S := rowS) (by decide)
  clear hX
  refine E.WL.storeW hb 1 rfl rfl rfl Tryz.sizeOf27 rfl rfl rfl (E.allOne rfl) rfl ?_
  have hT := hb.hasT 1 rfl
  clear hb; intro w15 hb hO
  replace o1 := ONodes.keeps o1 (Keeps.only hO hT (by decide)) (S := rowS) (by decide) (by decide)
  replace o2 := OTasks.keeps o2 (Keeps.only hO hT (by decide)) (S := rowS) (by decide) (by decide)
  replace o3 := OBinds.keeps o3 (Keeps.only hO hT (by decide)) (S := rowS) (by decide)
  clear hT
  clear hO
  refine E.WL.storeW hb 0 rfl rfl rfl Tryz.sizeOf41 rfl rfl rfl (E.allOne rfl) rfl ?_
  have hT := hb.hasT 0 rfl
  clear hb; intro w16 hb hO
  replace o1 := ONodes.keeps o1 (Keeps.only hO hT (by decide)) (S := rowS) (by decide) (by decide)
  replace o2 := OTasks.keeps o2 (Keeps.only hO hT (by decide)) (S := rowS) (by decide) (by decide)
  replace o3 := OBinds.keeps o3 (Keeps.only hO hT (by decide)) (S := rowS) (by decide)
  clear hT
  clear hO
  refine E.WL.done ?_
  refine E.KQ.then_n ?_
  refine E.W.seq ?_
  refine E.W.seq ?_
  refine E.W.region ?_
  refine E.WL.val (E.y_fld Tryz.underlying27 rfl Tryz.sizeOf22 rfl) rfl rfl rfl ?_
  refine E.WL.val (E.y_load rfl (E.At.ld1 Tryz.isAgg22 (hb.at0 1 rfl) 0 rfl)) rfl rfl rfl ?_
  refine E.WL.val (E.y_lenS Tryz.underlying22 rfl) rfl rfl rfl ?_
  refine E.WL.val (E.y_move rfl) rfl rfl rfl ?_
  refine E.WL.done ?_
  refine E.KQ.then_n ?_
  refine E.W.block ?_
  refine E.W.loop (ι := Nat) (fun k => [(2, .pointer (some ⟨B2, 0, none⟩)), (5, .pointer (some ⟨B5, 0, none⟩)), (6, .pointer (some ⟨B6, 0, none⟩)), (24, .int .i64 c.nodes.length), (25, .int .i64 (k : Nat))]) (fun k w' => Bx w9.heap.size w9 w' [(B7, [.int .i64 (doP b o).2.1, .string (doP b o).2.2], 41), (B6, [.slice A1 c.nodes.length c1, .slice A2 c.tasks.length c2, .slice A3 c.binds.length c3, .int .u64 c.fence], 27)] ∧ k ≤ c.nodes.length ∧ (∃ xs news, xs.length = c.nodes.length ∧ ONodes w9.heap.size w' (.slice A1 c.nodes.length c1) xs news) ∧ (∃ ts nt, ts.length = c.tasks.length ∧ OTasks w9.heap.size w' (.slice A2 c.tasks.length c2) ts nt) ∧ (∃ bs nb, bs.length = c.binds.length ∧ OBinds w9.heap.size w' (.slice A3 c.binds.length c3) bs nb)) (fun k => c.nodes.length - k) (0) (by exact (.cons rfl (.cons rfl (.cons rfl (.cons rfl (.cons rfl .nil)))))) ⟨hb, Nat.zero_le _, ⟨_, _, rfl, o1⟩, ⟨_, _, rfl, o2⟩, ⟨_, _, rfl, o3⟩⟩ (fun k w17 hJ => ?_)
  clear hb o1 o2 o3
  obtain ⟨hb, hk, ⟨xs, news, hx1, o1⟩, ⟨ts, nt, hx2, o2⟩, ⟨bs, nb, hx3, o3⟩⟩ := hJ
  refine E.W.seq ?_
  refine E.W.region ?_
  refine E.WL.val (E.y_lss rfl rfl) rfl rfl rfl ?_
  refine E.WL.done ?_
  refine E.KQ.then_n ?_
  refine E.W.seq ?_
  refine E.W.condT 26 rfl (fun hc26 => ?_) (fun hc26 => ?_)
  · replace hc26 := of_decide_eq_true hc26
    refine E.W.skip ?_
    refine E.KQ.then_n ?_
    refine E.W.seq ?_
    refine E.W.block ?_
    refine E.W.seq ?_
    refine E.W.region ?_
    refine E.WL.val (E.y_move rfl) rfl rfl rfl ?_
    refine E.WL.val (E.y_assign rfl) rfl rfl rfl ?_
    refine E.WL.done ?_
    refine E.KQ.then_n ?_
    refine E.W.seq ?_
    refine E.W.region ?_
    refine E.WL.val (E.y_fld Tryz.underlying27 rfl Tryz.sizeOf22 rfl) rfl rfl rfl ?_
    refine E.WL.val (E.y_load rfl (E.At.ld1 Tryz.isAgg22 (hb.at0 1 rfl) 0 rfl)) rfl rfl rfl ?_
    refine E.WL.val (E.y_move rfl) rfl rfl rfl ?_
    have hkl : k < c.nodes.length := by omega
    have hkx : k < xs.length := by omega
    obtain ⟨g, rfl⟩ := hA1 (by omega)
    have hin := mul_lt_le (k := 6) hkl
    refine E.WL.val (E.y_idxS Tryz.underlying22 Tryz.sizeOf32 rfl rfl (by omega) (by omega)) rfl rfl rfl ?_
    refine E.WL.val (E.y_fld Tryz.underlying32 rfl Tryz.sizeOf9 rfl) rfl rfl rfl ?_
    refine E.WL.as 32 rfl (show _ = Value.pointer (some ⟨g, k * 6 + 0, none⟩) from by simp [add_add, add_eq, add_zero']) ?_
    have own' := o1.row
    rw [hx1] at own'
    refine WL.storeCell (k := 6) (o := k * 6 + 0) own' (by omega) rfl rfl Tryz.sizeOf9 rfl rfl rfl ?_
    intro w18 own2 hO hT hB
    replace hb := hb.turn hO hT hB rfl
    replace o2 := OTasks.keeps o2 (Keeps.only hO hT (by decide)) (S := fun U => U = 34 ∨ U = 45) (by decide) (by decide)
    replace o3 := OBinds.keeps o3 (Keeps.only hO hT (by decide)) (S := fun U => U = 47) rfl
    obtain ⟨xs1, hxx, o1'⟩ := ONodes.rename (s := spo) o1 hkx hO hT (by rw [hx1]; exact own2)
    clear own2 own' o1
    have hx1' := hxx.trans hx1
    clear hx1
    have hx1 := hx1'
    clear hx1'
    generalize news.set (k * 6 + 0) (Value.string _) = news1 at o1'
    have hkx1 : k < xs1.length := by omega
    obtain ⟨vl9, vt9, e9, p9, _⟩ := o1'.rows.each k _ (List.getElem?_eq_getElem hkx1)
    obtain ⟨Al, cl, rfl, _, _, _⟩ := p9.open_
    clear p9
    have o1 := o1'
    clear o1'
    refine E.WL.done ?_
    refine E.KQ.then_n ?_
    refine E.W.seq ?_
    refine E.W.region ?_
    refine E.WL.val (E.y_fld Tryz.underlying27 rfl Tryz.sizeOf22 rfl) rfl rfl rfl ?_
    refine E.WL.val (E.y_load rfl (E.At.ld1 Tryz.isAgg22 (hb.at0 1 rfl) 0 rfl)) rfl rfl rfl ?_
    refine E.WL.val (E.y_move rfl) rfl rfl rfl ?_
    have own' := o1.row
    rw [hx1] at own'
    have hat := At.cut_ (ownsRow_at own') 6 k
    rw [e9] at hat
    clear own'
    refine E.WL.val (E.y_idxS Tryz.underlying22 Tryz.sizeOf32 rfl rfl (by omega) (by omega)) rfl rfl rfl ?_
    refine E.WL.val (E.y_fld Tryz.underlying32 rfl Tryz.sizeOf30 rfl) rfl rfl rfl ?_
    refine E.WL.val (E.y_load rfl (E.At.ld1 Tryz.isAgg30 hat 4 rfl)) rfl rfl rfl ?_
    refine E.WL.val (E.y_lenS Tryz.underlying30 rfl) rfl rfl rfl ?_
    refine E.WL.val (E.y_move rfl) rfl rfl rfl ?_
    refine E.WL.done ?_
    refine E.KQ.then_n ?_
    refine E.W.block ?_
    refine E.W.loop (ι := Nat) (fun j => [(2, .pointer (some ⟨B2, 0, none⟩)), (5, .pointer (some ⟨B5, 0, none⟩)), (6, .pointer (some ⟨B6, 0, none⟩)), (24, .int .i64 c.nodes.length), (25, .int .i64 (k : Nat)), (8, .int .i64 (k : Nat)), (39, .int .i64 xs1[k].labels.length), (40, .int .i64 (j : Nat))]) (fun j w' => Bx w9.heap.size w9 w' [(B7, [.int .i64 (doP b o).2.1, .string (doP b o).2.2], 41), (B6, [.slice (some ⟨g, 0, none⟩) c.nodes.length c1, .slice A2 c.tasks.length c2, .slice A3 c.binds.length c3, .int .u64 c.fence], 27)] ∧ j ≤ xs1[k].labels.length ∧ (∃ xs, xs.length = c.nodes.length ∧ ONodes w9.heap.size w' (.slice (some ⟨g, 0, none⟩) c.nodes.length c1) xs news1) ∧ (∃ ts nt, ts.length = c.tasks.length ∧ OTasks w9.heap.size w' (.slice A2 c.tasks.length c2) ts nt) ∧ (∃ bs nb, bs.length = c.binds.length ∧ OBinds w9.heap.size w' (.slice A3 c.binds.length c3) bs nb)) (fun j => xs1[k].labels.length - j) (0) (by exact (.cons rfl (.cons rfl (.cons rfl (.cons rfl (.cons rfl (.cons rfl (.cons rfl (.cons rfl .nil))))))))) ⟨hb, Nat.zero_le _, ⟨_, hx1, o1⟩, ⟨_, _, hx2, o2⟩, ⟨_, _, hx3, o3⟩⟩ (fun j w19 hJ => ?_)
    clear hb o1 o2 o3 hat
    obtain ⟨hb, hj, ⟨xs2, hx1, o1⟩, ⟨ts, nt, hx2, o2⟩, ⟨bs, nb, hx3, o3⟩⟩ := hJ
    refine E.W.seq ?_
    refine E.W.region ?_
    refine E.WL.val (E.y_lss rfl rfl) rfl rfl rfl ?_
    refine E.WL.done ?_
    refine E.KQ.then_n ?_
    refine E.W.seq ?_
    refine E.W.condT 41 rfl (fun hc41 => ?_) (fun hc41 => ?_)
    · replace hc41 := of_decide_eq_true hc41
      refine E.W.skip ?_
      refine E.KQ.then_n ?_
      refine E.W.seq ?_
      refine E.W.block ?_
      refine E.W.seq ?_
      refine E.W.region ?_
      refine E.WL.val (E.y_move rfl) rfl rfl rfl ?_
      refine E.WL.val (E.y_assign rfl) rfl rfl rfl ?_
      refine E.WL.done ?_
      refine E.KQ.then_n ?_
      refine E.W.region ?_
      refine E.WL.val (E.y_fld Tryz.underlying27 rfl Tryz.sizeOf22 rfl) rfl rfl rfl ?_
      refine E.WL.val (E.y_load rfl (E.At.ld1 Tryz.isAgg22 (hb.at0 1 rfl) 0 rfl)) rfl rfl rfl ?_
      refine E.WL.val (E.y_move rfl) rfl rfl rfl ?_
      have hjl : j < xs1[k].labels.length := by omega
      have hkx2 : k < xs2.length := by omega
      have own' := o1.row
      rw [hx1] at own'
      have hat := At.cut_ (ownsRow_at own') 6 k
      rw [e9] at hat
      clear own'
      obtain ⟨ps, hps, pr⟩ := ONodes.labels o1 hkx2 e9
      refine E.WL.val (E.y_idxS Tryz.underlying22 Tryz.sizeOf32 rfl rfl (by omega) (by omega)) rfl rfl rfl ?_
      refine E.WL.val (E.y_fld Tryz.underlying32 rfl Tryz.sizeOf30 rfl) rfl rfl rfl ?_
      refine E.WL.val (E.y_load rfl (E.At.ld1 Tryz.isAgg30 hat 4 rfl)) rfl rfl rfl ?_
      refine E.WL.val (E.y_move rfl) rfl rfl rfl ?_
      obtain ⟨p, rfl⟩ : ∃ p, Al = some p := by
        obtain ⟨A', c', e', _, _, hgd⟩ := id pr
        injection e' with e1 _ _
        obtain ⟨p, _, hp, _⟩ := hgd j _ (List.getElem?_eq_getElem (by omega))
        exact ⟨p, e1.trans hp⟩
      refine E.WL.val (E.y_idxS Tryz.underlying30 Tryz.sizeOf45 rfl rfl (by omega) (by omega)) rfl rfl rfl ?_
      refine E.WL.val (E.y_fld Tryz.underlying45 rfl Tryz.sizeOf9 rfl) rfl rfl rfl ?_
      refine E.WL.as 51 rfl (show _ = Value.pointer (some (p.add (j * 2))) from congrArg (fun z => Value.pointer (some z)) (add_zero' _)) ?_
      refine WL.storePair pr hjl rfl rfl Tryz.sizeOf9 rfl ?_
      intro w20 hsp
      replace hb := hb.keeps hsp.keeps hsp.below (by intro p hp; simp only [List.mem_cons, List.not_mem_nil, or_false] at hp; rcases hp with rfl | rfl <;> simp)
      obtain ⟨xs3, hxx, o1'⟩ := ONodes.spoilt o1 hsp
      obtain ⟨ts3, hxt, o2'⟩ := OTasks.spoilt o2 hsp
      replace o3 := OBinds.keeps o3 hsp.keeps (by decide)
      clear o1 o2 hsp pr hat
      have o1 := o1'
      have o2 := o2'
      clear o1' o2'
      replace hx1 := hxx.trans hx1
      replace hx2 := hxt.trans hx2
      refine E.WL.done ?_
      refine E.KQ.block_n ?_
      refine E.KQ.then_n ?_
      refine E.W.region ?_
      refine E.WL.val (E.y_add rfl rfl (Go.IntWalk.i64_in _ (by omega))) rfl rfl rfl ?_
      refine E.WL.val (E.y_move rfl) rfl rfl rfl ?_
      refine E.WL.done ?_
      exact E.KQ.next (j + 1) (by exact .cons rfl (.cons rfl (.cons rfl (.cons rfl (.cons rfl (.cons rfl (.cons rfl (.cons rfl (.nil))))))))) ⟨hb, by omega, ⟨_, hx1, o1⟩, ⟨_, _, hx2, o2⟩, ⟨_, _, hx3, o3⟩⟩ (by show xs1[k].labels.length - (j + 1) < xs1[k].labels.length - j; omega)
    · replace hc41 := of_decide_eq_false hc41
      refine E.W.exit ?_
      refine E.KQ.then_e ?_
      refine E.KQ.loop_e ?_
      refine E.KQ.block_e ?_
      refine E.KQ.block_n ?_
      refine E.KQ.then_n ?_
      refine E.W.region ?_
      refine E.WL.val (E.y_add rfl rfl (Go.IntWalk.i64_in _ (by omega))) rfl rfl rfl ?_
      refine E.WL.val (E.y_move rfl) rfl rfl rfl ?_
      refine E.WL.done ?_
      exact E.KQ.next (k + 1) (by exact .cons rfl (.cons rfl (.cons rfl (.cons rfl (.cons rfl (.nil)))))) ⟨hb, by omega, ⟨_, _, hx1, o1⟩, ⟨_, _, hx2, o2⟩, ⟨_, _, hx3, o3⟩⟩ (by show c.nodes.length - (k + 1) < c.nodes.length - k; omega)
  · replace hc26 := of_decide_eq_false hc26
    refine E.W.exit ?_
    refine E.KQ.then_e ?_
    refine E.KQ.loop_e ?_
    refine E.KQ.block_e ?_
    refine E.KQ.then_n ?_
    refine E.W.seq ?_
    refine E.W.seq ?_
    refine E.W.region ?_
    refine E.WL.val (E.y_fld Tryz.underlying27 rfl Tryz.sizeOf23 rfl) rfl rfl rfl ?_
    refine E.WL.val (E.y_load rfl (E.At.ld1 Tryz.isAgg23 (hb.at0 1 rfl) 1 rfl)) rfl rfl rfl ?_
    refine E.WL.val (E.y_lenS Tryz.underlying23 rfl) rfl rfl rfl ?_
    refine E.WL.val (E.y_move rfl) rfl rfl rfl ?_
    refine E.WL.done ?_
    refine E.KQ.then_n ?_
    refine E.W.block ?_
    refine E.W.loop (ι := Nat) (fun k => [(2, .pointer (some ⟨B2, 0, none⟩)), (5, .pointer (some ⟨B5, 0, none⟩)), (6, .pointer (some ⟨B6, 0, none⟩)), (56, .int .i64 c.tasks.length), (57, .int .i64 (k : Nat))]) (fun k w' => Bx w9.heap.size w9 w' [(B7, [.int .i64 (doP b o).2.1, .string (doP b o).2.2], 41), (B6, [.slice A1 c.nodes.length c1, .slice A2 c.tasks.length c2, .slice A3 c.binds.length c3, .int .u64 c.fence], 27)] ∧ k ≤ c.tasks.length ∧ (∃ ts nt, ts.length = c.tasks.length ∧ OTasks w9.heap.size w' (.slice A2 c.tasks.length c2) ts nt) ∧ (∃ bs nb, bs.length = c.binds.length ∧ OBinds w9.heap.size w' (.slice A3 c.binds.length c3) bs nb)) (fun k => c.tasks.length - k) (0) (by exact (.cons rfl (.cons rfl (.cons rfl (.cons rfl (.cons rfl .nil)))))) ⟨hb, Nat.zero_le _, ⟨_, _, hx2, o2⟩, ⟨_, _, hx3, o3⟩⟩ (fun k w21 hJ => ?_)
    clear hb o1 o2 o3
    obtain ⟨hb, hk, ⟨ts, nt, hx2, o2⟩, ⟨bs, nb, hx3, o3⟩⟩ := hJ
    refine E.W.seq ?_
    refine E.W.region ?_
    refine E.WL.val (E.y_lss rfl rfl) rfl rfl rfl ?_
    refine E.WL.done ?_
    refine E.KQ.then_n ?_
    refine E.W.seq ?_
    refine E.W.condT 58 rfl (fun hc58 => ?_) (fun hc58 => ?_)
    · replace hc58 := of_decide_eq_true hc58
      refine E.W.skip ?_
      refine E.KQ.then_n ?_
      refine E.W.seq ?_
      refine E.W.block ?_
      refine E.W.seq ?_
      refine E.W.region ?_
      refine E.WL.val (E.y_move rfl) rfl rfl rfl ?_
      refine E.WL.val (E.y_assign rfl) rfl rfl rfl ?_
      refine E.WL.done ?_
      refine E.KQ.then_n ?_
      refine E.W.region ?_
      refine E.WL.val (E.y_fld Tryz.underlying27 rfl Tryz.sizeOf23 rfl) rfl rfl rfl ?_
      refine E.WL.val (E.y_load rfl (E.At.ld1 Tryz.isAgg23 (hb.at0 1 rfl) 1 rfl)) rfl rfl rfl ?_
      refine E.WL.val (E.y_move rfl) rfl rfl rfl ?_
      have hkl : k < c.tasks.length := by omega
      have hkx : k < ts.length := by omega
      obtain ⟨g, rfl⟩ := hA2 (by omega)
      have hin := mul_lt_le (k := 9) hkl
      obtain ⟨vl9, vt9, e9, _, _⟩ := o2.rows.each k _ (List.getElem?_eq_getElem hkx)
      have own' := o2.row
      rw [hx2] at own'
      have hat := At.cut_ (ownsRow_at own') 9 k
      rw [e9] at hat
      clear own'
      refine E.WL.val (E.y_idxS Tryz.underlying23 Tryz.sizeOf34 rfl rfl (by omega) (by omega)) rfl rfl rfl ?_
      refine E.WL.val (E.y_fld Tryz.underlying34 rfl Tryz.sizeOf3 rfl) rfl rfl rfl ?_
      refine E.WL.val (E.y_load rfl (E.At.ld1 Tryz.isAgg3 hat 8 rfl)) rfl rfl rfl ?_
      refine E.WL.val (E.y_addw rfl rfl) rfl rfl rfl ?_
      refine E.WL.val (E.y_idxS Tryz.underlying23 Tryz.sizeOf34 rfl rfl (by omega) (by omega)) rfl rfl rfl ?_
      refine E.WL.val (E.y_fld Tryz.underlying34 rfl Tryz.sizeOf3 rfl) rfl rfl rfl ?_
      refine E.WL.as 68 rfl (show _ = Value.pointer (some ⟨g, k * 9 + 8, none⟩) from by show Value.pointer (some (((⟨g, 0, none⟩ : Addr).add (k * 9)).add 8)) = _; rw [add_add, add_eq]) ?_
      have own' := o2.row
      rw [hx2] at own'
      refine WL.storeCell (k := 9) (o := k * 9 + 8) own' (by omega) rfl rfl Tryz.sizeOf3 rfl rfl rfl ?_
      intro w22 own2 hO hT hB
      replace hb := hb.turn hO hT hB rfl
      replace o3 := OBinds.keeps o3 (Keeps.only hO hT (by decide)) (S := fun U => U = 47) rfl
      obtain ⟨xs1, hxx, o2'⟩ := OTasks.rerank (r := IntKind.i64.wrap (ts[k].rank + 5)) o2 hkx hO hT (by rw [hx2]; exact own2)
      clear own2 own' o2
      have hx2' := hxx.trans hx2
      refine E.WL.done ?_
      refine E.KQ.block_n ?_
      refine E.KQ.then_n ?_
      refine E.W.region ?_
      refine E.WL.val (E.y_add rfl rfl (Go.IntWalk.i64_in _ (by omega))) rfl rfl rfl ?_
      refine E.WL.val (E.y_move rfl) rfl rfl rfl ?_
      refine E.WL.done ?_
      exact E.KQ.next (k + 1) (by exact .cons rfl (.cons rfl (.cons rfl (.cons rfl (.cons rfl (.nil)))))) ⟨hb, by omega, ⟨_, _, hx2', o2'⟩, ⟨_, _, hx3, o3⟩⟩ (by show c.tasks.length - (k + 1) < c.tasks.length - k; omega)
    · replace hc58 := of_decide_eq_false hc58
      refine E.W.exit ?_
      refine E.KQ.then_e ?_
      refine E.KQ.loop_e ?_
      refine E.KQ.block_e ?_
      refine E.KQ.then_n ?_
      refine E.W.seq ?_
      refine E.W.seq ?_
      refine E.W.region ?_
      refine E.WL.val (E.y_fld Tryz.underlying27 rfl Tryz.sizeOf24 rfl) rfl rfl rfl ?_
      refine E.WL.val (E.y_load rfl (E.At.ld1 Tryz.isAgg24 (hb.at0 1 rfl) 2 rfl)) rfl rfl rfl ?_
      refine E.WL.val (E.y_lenS Tryz.underlying24 rfl) rfl rfl rfl ?_
      refine E.WL.val (E.y_move rfl) rfl rfl rfl ?_
      refine E.WL.done ?_
      refine E.KQ.then_n ?_
      refine E.W.block ?_
      refine E.W.loop (ι := Nat) (fun k => [(2, .pointer (some ⟨B2, 0, none⟩)), (5, .pointer (some ⟨B5, 0, none⟩)), (6, .pointer (some ⟨B6, 0, none⟩)), (72, .int .i64 c.binds.length), (73, .int .i64 (k : Nat))]) (fun k w' => Bx w9.heap.size w9 w' [(B7, [.int .i64 (doP b o).2.1, .string (doP b o).2.2], 41), (B6, [.slice A1 c.nodes.length c1, .slice A2 c.tasks.length c2, .slice A3 c.binds.length c3, .int .u64 c.fence], 27)] ∧ k ≤ c.binds.length ∧ (∃ bs nb, bs.length = c.binds.length ∧ OBinds w9.heap.size w' (.slice A3 c.binds.length c3) bs nb)) (fun k => c.binds.length - k) (0) (by exact (.cons rfl (.cons rfl (.cons rfl (.cons rfl (.cons rfl .nil)))))) ⟨hb, Nat.zero_le _, ⟨_, _, hx3, o3⟩⟩ (fun k w23 hJ => ?_)
      clear hb o2 o3
      obtain ⟨hb, hk, ⟨bs, nb, hx3, o3⟩⟩ := hJ
      refine E.W.seq ?_
      refine E.W.region ?_
      refine E.WL.val (E.y_lss rfl rfl) rfl rfl rfl ?_
      refine E.WL.done ?_
      refine E.KQ.then_n ?_
      refine E.W.seq ?_
      refine E.W.condT 74 rfl (fun hc74 => ?_) (fun hc74 => ?_)
      · replace hc74 := of_decide_eq_true hc74
        refine E.W.skip ?_
        refine E.KQ.then_n ?_
        refine E.W.seq ?_
        refine E.W.block ?_
        refine E.W.seq ?_
        refine E.W.region ?_
        refine E.WL.val (E.y_move rfl) rfl rfl rfl ?_
        refine E.WL.val (E.y_assign rfl) rfl rfl rfl ?_
        refine E.WL.done ?_
        refine E.KQ.then_n ?_
        refine E.W.region ?_
        refine E.WL.val (E.y_fld Tryz.underlying27 rfl Tryz.sizeOf24 rfl) rfl rfl rfl ?_
        refine E.WL.val (E.y_load rfl (E.At.ld1 Tryz.isAgg24 (hb.at0 1 rfl) 2 rfl)) rfl rfl rfl ?_
        refine E.WL.val (E.y_move rfl) rfl rfl rfl ?_
        have hkl : k < c.binds.length := by omega
        have hkx : k < bs.length := by omega
        obtain ⟨g, rfl⟩ := hA3 (by omega)
        have hin := mul_lt_le (k := 2) hkl
        refine E.WL.val (E.y_idxS Tryz.underlying24 Tryz.sizeOf47 rfl rfl (by omega) (by omega)) rfl rfl rfl ?_
        refine E.WL.val (E.y_fld Tryz.underlying47 rfl Tryz.sizeOf9 rfl) rfl rfl rfl ?_
        refine E.WL.as 80 rfl (show _ = Value.pointer (some ⟨g, k * 2 + 1, none⟩) from by show Value.pointer (some (((⟨g, 0, none⟩ : Addr).add (k * 2)).add 1)) = _; rw [add_add, add_eq]) ?_
        have own' := o3.row
        rw [hx3] at own'
        refine WL.storeCell (k := 2) (o := k * 2 + 1) own' (by omega) rfl rfl Tryz.sizeOf9 rfl rfl rfl ?_
        intro w24 own2 hO hT hB
        replace hb := hb.turn hO hT hB rfl
        obtain ⟨xs1, hxx, o3'⟩ := OBinds.renode (s := spo) o3 hkx (by rw [hx3]; exact own2)
        clear own2 own' o3
        have hx3' := hxx.trans hx3
        refine E.WL.done ?_
        refine E.KQ.block_n ?_
        refine E.KQ.then_n ?_
        refine E.W.region ?_
        refine E.WL.val (E.y_add rfl rfl (Go.IntWalk.i64_in _ (by omega))) rfl rfl rfl ?_
        refine E.WL.val (E.y_move rfl) rfl rfl rfl ?_
        refine E.WL.done ?_
        exact E.KQ.next (k + 1) (by exact .cons rfl (.cons rfl (.cons rfl (.cons rfl (.cons rfl (.nil)))))) ⟨hb, by omega, ⟨_, _, hx3', o3'⟩⟩ (by show c.binds.length - (k + 1) < c.binds.length - k; omega)
      · replace hc74 := of_decide_eq_false hc74
        refine E.W.exit ?_
        refine E.KQ.then_e ?_
        refine E.KQ.loop_e ?_
        refine E.KQ.block_e ?_
        refine E.KQ.then_n ?_
        refine E.W.seq ?_
        refine E.W.region ?_
        refine E.WL.val (E.y_load rfl (E.At.ldk Tryz.isAgg27 Tryz.sizeOf27 (hB2.ext hb.below) rfl)) rfl rfl rfl ?_
        refine E.WL.val (E.y_load rfl (E.At.ldk Tryz.isAgg27 Tryz.sizeOf27 (hB5.ext hb.below) rfl)) rfl rfl rfl ?_
        refine E.WL.call (same_calls (RBook.goes.stays hbr (Stays.ext hb.below)) (RBook.goes.stays hkr (Stays.ext hb.below))) Tryz.call8 rfl rfl rfl ?_
        rintro _ w25 ⟨rfl, hX⟩
        replace hb := hb.ext hX
        replace o3 := OBinds.keeps o3 (Keeps.ext hX) (S := rowS) (by decide)
        clear hX
        refine E.WL.val (E.y_assign rfl) rfl rfl rfl ?_
        refine E.WL.done ?_
        refine E.KQ.then_n ?_
        refine E.W.ret ?_
        refine E.KQ.ret1 Tryz.results3 rfl ?_
        exact ⟨_, rfl, rfl, E.Ext.trans hE0 hb.below⟩
end Go.Proofs.YtmnnbnajnfdncaaGreatDoor
