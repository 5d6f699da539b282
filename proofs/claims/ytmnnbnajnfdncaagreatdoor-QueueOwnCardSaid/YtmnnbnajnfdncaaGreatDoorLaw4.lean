/- Walks: QueueOwn. -/
import Derived.Test.YtmnnbnajnfdncaaGreatDoorLaw3
import Derived.Test.YtmnnbnajnfdncaaGreatDoorRef1
import Derived.Test.YtmnnbnajnfdncaaGreatDoorRef2
set_option linter.unusedVariables false
set_option linter.unusedSimpArgs false
namespace Go.Proofs.YtmnnbnajnfdncaaGreatDoor
open Go.RowKit E
def spoQ : ByteArray := ⟨#[115, 112, 111, 105, 108, 116]⟩
set_option maxHeartbeats 4000000 in
theorem queueOwn_calls {F : FP} {w : World} {cs : List Value} {b : BookD} (h : RBook F w cs b) :
    Calls Tryz.prog 4 #[(.agg cs.toArray)] w (Ret fun u w' => u = .bool true ∧ Ext w w') := by
  have h0 := h.old
  obtain ⟨vn, vt, vb, rfl, hn0, ht0, hbi0⟩ := id h
  obtain ⟨Ab, cb0, rfl, hcb, hbyb, hgb⟩ := hbi0.open_
  obtain ⟨At', ct0, rfl, hct, hbyt, hgt⟩ := ht0.open_
  obtain ⟨An, cn0, rfl, hcn, hbyn, hgn⟩ := hn0.open_
  have hb := E.Bx.start w (base := w.heap.size) (Nat.le_refl _)
  refine E.enter Tryz.func4 rfl Tryz.ntmps4 [(.agg #[.slice An b.nodes.length cn0, .slice At' b.tasks.length ct0, .slice Ab b.binds.length cb0, .int .u64 b.fence])] rfl ?_
  refine E.W.seq ?_
  refine E.W.region ?_
  refine E.WL.box hb rfl rfl rfl rfl ?_
  clear hb; intro B1 w2 hb _ _
  refine E.WL.val (E.y_assign rfl) rfl rfl rfl ?_
  refine E.WL.done ?_
  refine E.KQ.then_n ?_
  refine E.W.seq ?_
  refine E.W.seq ?_
  refine E.W.region ?_
  refine E.WL.call (livesQ_calls w2) Tryz.call9 rfl rfl rfl ?_
  rintro _ w3 ⟨rfl, hX⟩
  replace hb := hb.ext hX
  clear hX
  refine E.WL.val (E.y_not rfl) rfl rfl rfl ?_
  refine E.WL.done ?_
  refine E.KQ.then_n ?_
  refine E.W.cond_f rfl ?_
  refine E.W.skip ?_
  refine E.KQ.then_n ?_
  refine E.W.seq ?_
  refine E.W.region ?_
  refine E.WL.val (E.y_load rfl (E.At.ldk Tryz.isAgg27 Tryz.sizeOf27 (hb.at0 0 rfl) rfl)) rfl rfl rfl ?_
  refine E.WL.call (copy_calls (RBook.goes.stays h0 (Stays.below hb.below (fun _ _ h => h)))) Tryz.call6 rfl rfl rfl ?_
  rintro _ w4 ⟨⟨csk, rfl, obk⟩, hX⟩
  replace hb := hb.ext hX
  obtain ⟨A1k, c1k, A2k, c2k, A3k, c3k, rfl⟩ := obk.four
  clear hX
  refine E.WL.alloc hb Tryz.zeroValue27 rfl rfl rfl ?_
  clear hb; intro B3 w6 hb hX _
  replace obk := OBook.keeps obk (Keeps.ext hX) (S := rowS) (by decide)
  clear hX
  refine E.WL.storeW hb 0 rfl rfl rfl Tryz.sizeOf27 rfl rfl rfl (E.allOne rfl) rfl ?_
  have hT := hb.hasT 0 rfl
  clear hb; intro w7 hb hO
  replace obk := OBook.keeps obk (Keeps.only hO hT (by decide)) (S := rowS) (by decide)
  clear hT
  clear hO
  refine E.WL.done ?_
  refine E.KQ.then_n ?_
  refine E.W.seq ?_
  refine E.W.region ?_
  refine E.WL.val (E.y_load rfl (E.At.ldk Tryz.isAgg27 Tryz.sizeOf27 (hb.at0 1 rfl) rfl)) rfl rfl rfl ?_
  refine E.WL.call (waiting_calls (RBook.goes.stays h0 (Stays.below hb.below (fun _ _ h => h)))) Tryz.call10 rfl rfl rfl ?_
  rintro _ w8 ⟨⟨v1, xs, news, rfl, o2, _⟩, hX⟩
  have hB1 := hb.at0 1 rfl
  have hB3 := hb.at0 0 rfl
  have hkr := obk.rd2 hbyn hbyt hbyb
  have hbr := RBook.goes.stays h0 (Stays.below hb.below (fun _ _ h => h))
  have hE0 := hb.below
  clear obk hb
  have hb : Bx w7.heap.size w7 w8 [] := ⟨hX, hX.size, fun _ h => (List.not_mem_nil h).elim, List.nodup_nil⟩
  obtain ⟨A2, c2, hv, hA2⟩ := ownsRow_open o2.row
  have hm2 := ownsRow_max o2.row
  obtain ⟨m, hx2⟩ : ∃ m, xs.length = m := ⟨_, rfl⟩
  rw [hx2] at hv hA2 hm2
  subst hv
  clear hX
  refine E.WL.val (E.y_move rfl) rfl rfl rfl ?_
  refine E.WL.val (E.y_extract rfl rfl) rfl rfl rfl ?_
  refine E.WL.val (E.y_extract rfl rfl) rfl rfl rfl ?_
  refine E.WL.val (E.y_assign rfl) rfl rfl rfl ?_
  refine E.WL.val (E.y_assign rfl) rfl rfl rfl ?_
  refine E.WL.done ?_
  refine E.KQ.then_n ?_
  refine E.W.seq ?_
  refine E.W.seq ?_
  refine E.W.region ?_
  refine E.WL.val (E.y_move rfl) rfl rfl rfl ?_
  refine E.WL.val (E.y_lenS Tryz.underlying23 rfl) rfl rfl rfl ?_
  refine E.WL.val (E.y_move rfl) rfl rfl rfl ?_
  refine E.WL.done ?_
  refine E.KQ.then_n ?_
  refine E.W.block ?_
  refine E.W.loop (ι := Nat) (fun k => [(1, .pointer (some ⟨B1, 0, none⟩)), (3, .pointer (some ⟨B3, 0, none⟩)), (4, .slice A2 m c2), (22, .int .i64 m), (23, .int .i64 (k : Nat))]) (fun k w' => Bx w7.heap.size w7 w' [] ∧ k ≤ m ∧ (∃ ts nt, ts.length = m ∧ OTasks w7.heap.size w' (.slice (A2) m c2) ts nt)) (fun k => m - k) (0) (by exact (.cons rfl (.cons rfl (.cons rfl (.cons rfl (.cons rfl .nil)))))) ⟨hb, Nat.zero_le _, ⟨_, _, hx2, o2⟩⟩ (fun k w9 hJ => ?_)
  clear hb o2 hx2
  obtain ⟨hb, hk, ⟨ts, nt, hx2, o2⟩⟩ := hJ
  refine E.W.seq ?_
  refine E.W.region ?_
  refine E.WL.val (E.y_lss rfl rfl) rfl rfl rfl ?_
  refine E.WL.done ?_
  refine E.KQ.then_n ?_
  refine E.W.seq ?_
  refine E.W.condT 24 rfl (fun hc24 => ?_) (fun hc24 => ?_)
  · replace hc24 := of_decide_eq_true hc24
    refine E.W.skip ?_
    refine E.KQ.then_n ?_
    refine E.W.seq ?_
    refine E.W.block ?_
    refine E.W.seq ?_
    refine E.W.region ?_
    refine E.WL.val (E.y_move rfl) rfl rfl rfl ?_
    refine E.WL.val (E.y_assign rfl) rfl rfl rfl ?_
    refine E.WL.done ?_
    refine E.KQ.then_n ?_
    refine E.W.seq ?_
    refine E.W.region ?_
    refine E.WL.val (E.y_move rfl) rfl rfl rfl ?_
    refine E.WL.val (E.y_move rfl) rfl rfl rfl ?_
    have hkl : k < m := by omega
    have hkx : k < ts.length := by omega
    obtain ⟨g, rfl⟩ := hA2 (by omega)
    have hin := mul_lt_le (k := 9) hkl
    refine E.WL.val (E.y_idxS Tryz.underlying23 Tryz.sizeOf34 rfl rfl (by omega) (by omega)) rfl rfl rfl ?_
    refine E.WL.val (E.y_fld Tryz.underlying34 rfl Tryz.sizeOf9 rfl) rfl rfl rfl ?_
    refine E.WL.as 29 rfl (show _ = Value.pointer (some ⟨g, k * 9 + 0, none⟩) from by simp [add_add, add_eq, add_zero']) ?_
    have own' := o2.row
    rw [hx2] at own'
    refine WL.storeCell (k := 9) (o := k * 9 + 0) own' (by omega) rfl rfl Tryz.sizeOf9 rfl rfl rfl ?_
    intro w10 own2 hO hT hB
    replace hb := hb.turn hO hT hB rfl
    obtain ⟨ts1, hxx, o2'⟩ := OTasks.rename (s := spoQ) o2 hkx hO hT (by rw [hx2]; exact own2)
    clear own2 own' o2
    replace hx2 := hxx.trans hx2
    generalize nt.set (k * 9 + 0) (Value.string _) = nt1 at o2'
    have hkx1 : k < ts1.length := by omega
    obtain ⟨vl9, vt9, e9, p9, _⟩ := o2'.rows.each k _ (List.getElem?_eq_getElem hkx1)
    obtain ⟨Al, cl, rfl, _, _, _⟩ := p9.open_
    clear p9
    have o2 := o2'
    clear o2'
    refine E.WL.done ?_
    refine E.KQ.then_n ?_
    refine E.W.seq ?_
    refine E.W.region ?_
    refine E.WL.val (E.y_move rfl) rfl rfl rfl ?_
    refine E.WL.val (E.y_move rfl) rfl rfl rfl ?_
    have own' := o2.row
    rw [hx2] at own'
    have hat := At.cut_ (ownsRow_at own') 9 k
    rw [e9] at hat
    clear own'
    refine E.WL.val (E.y_idxS Tryz.underlying23 Tryz.sizeOf34 rfl rfl (by omega) (by omega)) rfl rfl rfl ?_
    refine E.WL.val (E.y_fld Tryz.underlying34 rfl Tryz.sizeOf30 rfl) rfl rfl rfl ?_
    refine E.WL.val (E.y_load rfl (E.At.ld1 Tryz.isAgg30 hat 4 rfl)) rfl rfl rfl ?_
    refine E.WL.val (E.y_lenS Tryz.underlying30 rfl) rfl rfl rfl ?_
    refine E.WL.val (E.y_move rfl) rfl rfl rfl ?_
    refine E.WL.done ?_
    refine E.KQ.then_n ?_
    refine E.W.block ?_
    refine E.W.loop (ι := Nat) (fun j => [(1, .pointer (some ⟨B1, 0, none⟩)), (3, .pointer (some ⟨B3, 0, none⟩)), (4, .slice (some ⟨g, 0, none⟩) m c2), (22, .int .i64 m), (23, .int .i64 (k : Nat)), (6, .int .i64 (k : Nat)), (35, .int .i64 ts1[k].wants.length), (36, .int .i64 (j : Nat))]) (fun j w' => Bx w7.heap.size w7 w' [] ∧ j ≤ ts1[k].wants.length ∧ (∃ xs, xs.length = m ∧ OTasks w7.heap.size w' (.slice (some ⟨g, 0, none⟩) m c2) xs nt1)) (fun j => ts1[k].wants.length - j) (0) (by exact (.cons rfl (.cons rfl (.cons rfl (.cons rfl (.cons rfl (.cons rfl (.cons rfl (.cons rfl .nil))))))))) ⟨hb, Nat.zero_le _, ⟨_, hx2, o2⟩⟩ (fun j w11 hJ => ?_)
    clear hb o2 hat
    obtain ⟨hb, hj, ⟨xs2, hx2, o2⟩⟩ := hJ
    refine E.W.seq ?_
    refine E.W.region ?_
    refine E.WL.val (E.y_lss rfl rfl) rfl rfl rfl ?_
    refine E.WL.done ?_
    refine E.KQ.then_n ?_
    refine E.W.seq ?_
    refine E.W.condT 37 rfl (fun hc37 => ?_) (fun hc37 => ?_)
    · replace hc37 := of_decide_eq_true hc37
      refine E.W.skip ?_
      refine E.KQ.then_n ?_
      refine E.W.seq ?_
      refine E.W.block ?_
      refine E.W.seq ?_
      refine E.W.region ?_
      refine E.WL.val (E.y_move rfl) rfl rfl rfl ?_
      refine E.WL.val (E.y_assign rfl) rfl rfl rfl ?_
      refine E.WL.done ?_
      refine E.KQ.then_n ?_
      refine E.W.region ?_
      refine E.WL.val (E.y_move rfl) rfl rfl rfl ?_
      refine E.WL.val (E.y_move rfl) rfl rfl rfl ?_
      have hjl : j < ts1[k].wants.length := by omega
      have hkx2 : k < xs2.length := by omega
      have own' := o2.row
      rw [hx2] at own'
      have hat := At.cut_ (ownsRow_at own') 9 k
      rw [e9] at hat
      clear own'
      obtain ⟨ps, hps, pr⟩ := OTasks.wants o2 hkx2 e9
      refine E.WL.val (E.y_idxS Tryz.underlying23 Tryz.sizeOf34 rfl rfl (by omega) (by omega)) rfl rfl rfl ?_
      refine E.WL.val (E.y_fld Tryz.underlying34 rfl Tryz.sizeOf30 rfl) rfl rfl rfl ?_
      refine E.WL.val (E.y_load rfl (E.At.ld1 Tryz.isAgg30 hat 4 rfl)) rfl rfl rfl ?_
      refine E.WL.val (E.y_move rfl) rfl rfl rfl ?_
      obtain ⟨p, rfl⟩ : ∃ p, Al = some p := by
        obtain ⟨A', c', e', _, _, hgd⟩ := id pr
        injection e' with e1 _ _
        obtain ⟨p, _, hp, _⟩ := hgd j _ (List.getElem?_eq_getElem (by omega))
        exact ⟨p, e1.trans hp⟩
      refine E.WL.val (E.y_idxS Tryz.underlying30 Tryz.sizeOf45 rfl rfl (by omega) (by omega)) rfl rfl rfl ?_
      refine E.WL.val (E.y_fld Tryz.underlying45 rfl Tryz.sizeOf9 rfl) rfl rfl rfl ?_
      refine E.WL.as 46 rfl (show _ = Value.pointer (some (p.add (j * 2))) from congrArg (fun z => Value.pointer (some z)) (add_zero' _)) ?_
      refine WL.storePair pr hjl rfl rfl Tryz.sizeOf9 rfl ?_
      intro w12 hsp
      replace hb := hb.keeps hsp.keeps hsp.below (by intro p hp; cases hp)
      obtain ⟨xs3, hxx, o9⟩ := OTasks.spoilt o2 hsp
      clear o2 hsp pr hat
      have o2 := o9
      clear o9
      replace hx2 := hxx.trans hx2
      refine E.WL.done ?_
      refine E.KQ.block_n ?_
      refine E.KQ.then_n ?_
      refine E.W.region ?_
      refine E.WL.val (E.y_add rfl rfl (Go.IntWalk.i64_in _ (by omega))) rfl rfl rfl ?_
      refine E.WL.val (E.y_move rfl) rfl rfl rfl ?_
      refine E.WL.done ?_
      exact E.KQ.next (j + 1) (by exact .cons rfl (.cons rfl (.cons rfl (.cons rfl (.cons rfl (.cons rfl (.cons rfl (.cons rfl (.nil))))))))) ⟨hb, by omega, ⟨_, hx2, o2⟩⟩ (by show ts1[k].wants.length - (j + 1) < ts1[k].wants.length - j; omega)
    · replace hc37 := of_decide_eq_false hc37
      refine E.W.exit ?_
      refine E.KQ.then_e ?_
      refine E.KQ.loop_e ?_
      refine E.KQ.block_e ?_
      refine E.KQ.block_n ?_
      refine E.KQ.then_n ?_
      refine E.W.region ?_
      refine E.WL.val (E.y_add rfl rfl (Go.IntWalk.i64_in _ (by omega))) rfl rfl rfl ?_
      refine E.WL.val (E.y_move rfl) rfl rfl rfl ?_
      refine E.WL.done ?_
      exact E.KQ.next (k + 1) (by exact .cons rfl (.cons rfl (.cons rfl (.cons rfl (.cons rfl (.nil)))))) ⟨hb, by omega, ⟨_, _, hx2, o2⟩⟩ (by show m - (k + 1) < m - k; omega)
  · replace hc24 := of_decide_eq_false hc24
    refine E.W.exit ?_
    refine E.KQ.then_e ?_
    refine E.KQ.loop_e ?_
    refine E.KQ.block_e ?_
    refine E.KQ.then_n ?_
    refine E.W.seq ?_
    refine E.W.region ?_
    refine E.WL.val (E.y_load rfl (E.At.ldk Tryz.isAgg27 Tryz.sizeOf27 (hB1.ext hb.below) rfl)) rfl rfl rfl ?_
    refine E.WL.call (loads_calls (RBook.goes.stays hbr (Stays.ext hb.below))) Tryz.call11 rfl rfl rfl ?_
    rintro _ w13 ⟨⟨v2, ys, nl, rfl, o3, _⟩, hX⟩
    have hle := hb.le
    replace hb := hb.ext hX
    replace o3 := o3.le hle
    obtain ⟨A3, c3, hv, hA3⟩ := ownsRow_open o3.row
    have hm3 := ownsRow_max o3.row
    obtain ⟨q, hx3⟩ : ∃ q, ys.length = q := ⟨_, rfl⟩
    rw [hx3] at hv hA3 hm3
    subst hv
    clear hX hle
    refine E.WL.val (E.y_move rfl) rfl rfl rfl ?_
    refine E.WL.val (E.y_extract rfl rfl) rfl rfl rfl ?_
    refine E.WL.val (E.y_extract rfl rfl) rfl rfl rfl ?_
    refine E.WL.val (E.y_assign rfl) rfl rfl rfl ?_
    refine E.WL.val (E.y_assign rfl) rfl rfl rfl ?_
    refine E.WL.done ?_
    refine E.KQ.then_n ?_
    refine E.W.seq ?_
    refine E.W.seq ?_
    refine E.W.region ?_
    refine E.WL.val (E.y_move rfl) rfl rfl rfl ?_
    refine E.WL.val (E.y_lenS Tryz.underlying52 rfl) rfl rfl rfl ?_
    refine E.WL.val (E.y_move rfl) rfl rfl rfl ?_
    refine E.WL.done ?_
    refine E.KQ.then_n ?_
    refine E.W.block ?_
    refine E.W.loop (ι := Nat) (fun k => [(1, .pointer (some ⟨B1, 0, none⟩)), (3, .pointer (some ⟨B3, 0, none⟩)), (8, .slice A3 q c3), (55, .int .i64 q), (56, .int .i64 (k : Nat))]) (fun k w' => Bx w7.heap.size w7 w' [] ∧ k ≤ q ∧ (∃ ys nl, ys.length = q ∧ OLoads w7.heap.size w' (.slice (A3) q c3) ys nl)) (fun k => q - k) (0) (by exact (.cons rfl (.cons rfl (.cons rfl (.cons rfl (.cons rfl .nil)))))) ⟨hb, Nat.zero_le _, ⟨_, _, hx3, o3⟩⟩ (fun k w14 hJ => ?_)
    clear hb o3 hx3
    obtain ⟨hb, hk, ⟨ys, nl, hx3, o3⟩⟩ := hJ
    refine E.W.seq ?_
    refine E.W.region ?_
    refine E.WL.val (E.y_lss rfl rfl) rfl rfl rfl ?_
    refine E.WL.done ?_
    refine E.KQ.then_n ?_
    refine E.W.seq ?_
    refine E.W.condT 57 rfl (fun hc57 => ?_) (fun hc57 => ?_)
    · replace hc57 := of_decide_eq_true hc57
      refine E.W.skip ?_
      refine E.KQ.then_n ?_
      refine E.W.seq ?_
      refine E.W.block ?_
      refine E.W.seq ?_
      refine E.W.region ?_
      refine E.WL.val (E.y_move rfl) rfl rfl rfl ?_
      refine E.WL.val (E.y_assign rfl) rfl rfl rfl ?_
      refine E.WL.done ?_
      refine E.KQ.then_n ?_
      refine E.W.seq ?_
      refine E.W.region ?_
      refine E.WL.val (E.y_move rfl) rfl rfl rfl ?_
      refine E.WL.val (E.y_move rfl) rfl rfl rfl ?_
      have hkl : k < q := by omega
      have hkx : k < ys.length := by omega
      obtain ⟨g, rfl⟩ := hA3 (by omega)
      obtain ⟨vl9, vt9, a9, b9, c9, e9, p9, _⟩ := o3.rows.each k _ (List.getElem?_eq_getElem hkx)
      obtain ⟨Al, cl, rfl, _, _, _⟩ := p9.open_
      clear p9
      have own' := o3.row
      rw [hx3] at own'
      have hat := At.cut_ (ownsRow_at own') 9 k
      rw [e9] at hat
      clear own'
      refine E.WL.val (E.y_idxS Tryz.underlying52 Tryz.sizeOf56 rfl rfl (by omega) (by omega)) rfl rfl rfl ?_
      refine E.WL.val (E.y_fld Tryz.underlying56 rfl Tryz.sizeOf32 rfl) rfl rfl rfl ?_
      refine E.WL.val (E.y_fld Tryz.underlying32 rfl Tryz.sizeOf30 rfl) rfl rfl rfl ?_
      refine E.WL.val (E.y_load rfl (E.At.ld1 Tryz.isAgg30 hat 4 rfl)) rfl rfl rfl ?_
      refine E.WL.val (E.y_lenS Tryz.underlying30 rfl) rfl rfl rfl ?_
      refine E.WL.val (E.y_move rfl) rfl rfl rfl ?_
      refine E.WL.done ?_
      refine E.KQ.then_n ?_
      refine E.W.block ?_
      refine E.W.loop (ι := Nat) (fun j => [(1, .pointer (some ⟨B1, 0, none⟩)), (3, .pointer (some ⟨B3, 0, none⟩)), (8, .slice (some ⟨g, 0, none⟩) q c3), (55, .int .i64 q), (56, .int .i64 (k : Nat)), (10, .int .i64 (k : Nat)), (65, .int .i64 ys[k].labels.length), (66, .int .i64 (j : Nat))]) (fun j w' => Bx w7.heap.size w7 w' [] ∧ j ≤ ys[k].labels.length ∧ (∃ xs, xs.length = q ∧ OLoads w7.heap.size w' (.slice (some ⟨g, 0, none⟩) q c3) xs nl)) (fun j => ys[k].labels.length - j) (0) (by exact (.cons rfl (.cons rfl (.cons rfl (.cons rfl (.cons rfl (.cons rfl (.cons rfl (.cons rfl .nil))))))))) ⟨hb, Nat.zero_le _, ⟨_, hx3, o3⟩⟩ (fun j w15 hJ => ?_)
      clear hb o3 hat
      obtain ⟨hb, hj, ⟨xs2, hx3, o3⟩⟩ := hJ
      refine E.W.seq ?_
      refine E.W.region ?_
      refine E.WL.val (E.y_lss rfl rfl) rfl rfl rfl ?_
      refine E.WL.done ?_
      refine E.KQ.then_n ?_
      refine E.W.seq ?_
      refine E.W.condT 67 rfl (fun hc67 => ?_) (fun hc67 => ?_)
      · replace hc67 := of_decide_eq_true hc67
        refine E.W.skip ?_
        refine E.KQ.then_n ?_
        refine E.W.seq ?_
        refine E.W.block ?_
        refine E.W.seq ?_
        refine E.W.region ?_
        refine E.WL.val (E.y_move rfl) rfl rfl rfl ?_
        refine E.WL.val (E.y_assign rfl) rfl rfl rfl ?_
        refine E.WL.done ?_
        refine E.KQ.then_n ?_
        refine E.W.region ?_
        refine E.WL.val (E.y_move rfl) rfl rfl rfl ?_
        refine E.WL.val (E.y_move rfl) rfl rfl rfl ?_
        have hjl : j < ys[k].labels.length := by omega
        have hkx2 : k < xs2.length := by omega
        have own' := o3.row
        rw [hx3] at own'
        have hat := At.cut_ (ownsRow_at own') 9 k
        rw [e9] at hat
        clear own'
        obtain ⟨ps, hps, pr⟩ := OLoads.labels o3 hkx2 e9
        refine E.WL.val (E.y_idxS Tryz.underlying52 Tryz.sizeOf56 rfl rfl (by omega) (by omega)) rfl rfl rfl ?_
        refine E.WL.val (E.y_fld Tryz.underlying56 rfl Tryz.sizeOf32 rfl) rfl rfl rfl ?_
        refine E.WL.val (E.y_fld Tryz.underlying32 rfl Tryz.sizeOf30 rfl) rfl rfl rfl ?_
        refine E.WL.val (E.y_load rfl (E.At.ld1 Tryz.isAgg30 hat 4 rfl)) rfl rfl rfl ?_
        refine E.WL.val (E.y_move rfl) rfl rfl rfl ?_
        obtain ⟨p, rfl⟩ : ∃ p, Al = some p := by
          obtain ⟨A', c', e', _, _, hgd⟩ := id pr
          injection e' with e1 _ _
          obtain ⟨p, _, hp, _⟩ := hgd j _ (List.getElem?_eq_getElem (by omega))
          exact ⟨p, e1.trans hp⟩
        refine E.WL.val (E.y_idxS Tryz.underlying30 Tryz.sizeOf45 rfl rfl (by omega) (by omega)) rfl rfl rfl ?_
        refine E.WL.val (E.y_fld Tryz.underlying45 rfl Tryz.sizeOf9 rfl) rfl rfl rfl ?_
        refine E.WL.as 77 rfl (show _ = Value.pointer (some (p.add (j * 2))) from congrArg (fun z => Value.pointer (some z)) (add_zero' _)) ?_
        refine WL.storePair pr hjl rfl rfl Tryz.sizeOf9 rfl ?_
        intro w16 hsp
        replace hb := hb.keeps hsp.keeps hsp.below (by intro p hp; cases hp)
        obtain ⟨xs3, hxx, o9⟩ := OLoads.spoilt o3 hsp
        clear o3 hsp pr hat
        have o3 := o9
        clear o9
        replace hx3 := hxx.trans hx3
        refine E.WL.done ?_
        refine E.KQ.block_n ?_
        refine E.KQ.then_n ?_
        refine E.W.region ?_
        refine E.WL.val (E.y_add rfl rfl (Go.IntWalk.i64_in _ (by omega))) rfl rfl rfl ?_
        refine E.WL.val (E.y_move rfl) rfl rfl rfl ?_
        refine E.WL.done ?_
        exact E.KQ.next (j + 1) (by exact .cons rfl (.cons rfl (.cons rfl (.cons rfl (.cons rfl (.cons rfl (.cons rfl (.cons rfl (.nil))))))))) ⟨hb, by omega, ⟨_, hx3, o3⟩⟩ (by show ys[k].labels.length - (j + 1) < ys[k].labels.length - j; omega)
      · replace hc67 := of_decide_eq_false hc67
        refine E.W.exit ?_
        refine E.KQ.then_e ?_
        refine E.KQ.loop_e ?_
        refine E.KQ.block_e ?_
        refine E.KQ.block_n ?_
        refine E.KQ.then_n ?_
        refine E.W.region ?_
        refine E.WL.val (E.y_add rfl rfl (Go.IntWalk.i64_in _ (by omega))) rfl rfl rfl ?_
        refine E.WL.val (E.y_move rfl) rfl rfl rfl ?_
        refine E.WL.done ?_
        exact E.KQ.next (k + 1) (by exact .cons rfl (.cons rfl (.cons rfl (.cons rfl (.cons rfl (.nil)))))) ⟨hb, by omega, ⟨_, _, hx3, o3⟩⟩ (by show q - (k + 1) < q - k; omega)
    · replace hc57 := of_decide_eq_false hc57
      refine E.W.exit ?_
      refine E.KQ.then_e ?_
      refine E.KQ.loop_e ?_
      refine E.KQ.block_e ?_
      refine E.KQ.then_n ?_
      refine E.W.seq ?_
      refine E.W.region ?_
      refine E.WL.val (E.y_load rfl (E.At.ldk Tryz.isAgg27 Tryz.sizeOf27 (hB1.ext hb.below) rfl)) rfl rfl rfl ?_
      refine E.WL.val (E.y_load rfl (E.At.ldk Tryz.isAgg27 Tryz.sizeOf27 (hB3.ext hb.below) rfl)) rfl rfl rfl ?_
      refine E.WL.call (same_calls (RBook.goes.stays hbr (Stays.ext hb.below)) (RBook.goes.stays hkr (Stays.ext hb.below))) Tryz.call8 rfl rfl rfl ?_
      rintro _ w17 ⟨rfl, hX⟩
      replace hb := hb.ext hX
      clear hX
      refine E.WL.val (E.y_assign rfl) rfl rfl rfl ?_
      refine E.WL.done ?_
      refine E.KQ.then_n ?_
      refine E.W.ret ?_
      refine E.KQ.ret1 Tryz.results4 rfl ?_
      exact ⟨_, rfl, rfl, E.Ext.trans hE0 hb.below⟩
end Go.Proofs.YtmnnbnajnfdncaaGreatDoor
