/- Walks: queue, third part: who waits: through a channel, then sorted. -/
import Derived.Test.YtmnnbnajnfdncaaGreatDoorD11
import Derived.Test.YtmnnbnajnfdncaaGreatDoorQueue1
import Derived.Test.YtmnnbnajnfdncaaGreatDoorBook6
set_option linter.unusedVariables false
set_option linter.unusedSimpArgs false
namespace Go.Proofs.YtmnnbnajnfdncaaGreatDoor
open Go.RowKit E
structure Q2 where
  buf : List Value
  todo : List TaskD
  done : List TaskD
  r : Nat
  v : Value
  news : List Value
set_option maxHeartbeats 4000000 in
theorem waiting_calls {F : FP} {w : World} {cs : List Value} {b : BookD} (h : RBook F w cs b) :
    Calls Tryz.prog 10 #[(.agg cs.toArray)] w (Ret fun u w' => (∃ v xs news, u = .tuple #[v, .int .i64 (if checkB b = true then 0 else 10)] ∧ OTasks w.heap.size w' v xs news ∧ (checkB b = true → xs.Perm (waitsP b) ∧ SortedT xs)) ∧ Ext w w') := by
  obtain ⟨vn, vt, vb, rfl, hn, ht, hbi⟩ := id h
  obtain ⟨Ab, cb, rfl, hcb, hbyb, hgb⟩ := hbi.open_
  obtain ⟨At', ct, rfl, hct, hbyt, hgt⟩ := ht.open_
  obtain ⟨An, cn, rfl, hcn, hbyn, hgn⟩ := hn.open_
  have hb := E.Bx.start w (base := w.heap.size) (Nat.le_refl _)
  refine E.enter Tryz.func10 rfl Tryz.ntmps10 [(.agg #[.slice An b.nodes.length cn, .slice At' b.tasks.length ct, .slice Ab b.binds.length cb, .int .u64 b.fence])] rfl ?_
  refine E.W.seq ?_
  refine E.W.region ?_
  refine E.WL.box hb rfl rfl rfl rfl ?_
  clear hb; intro B1 w2 hb _ _
  refine E.WL.val (E.y_assign rfl) rfl rfl rfl ?_
  refine E.WL.val (E.y_assign rfl) rfl rfl rfl ?_
  refine E.WL.done ?_
  refine E.KQ.then_n ?_
  refine E.W.scope ?_
  refine E.W.seq ?_
  refine E.W.seq ?_
  refine E.W.region ?_
  refine E.WL.val (E.y_load rfl (E.At.ldk Tryz.isAgg27 Tryz.sizeOf27 (hb.at0 0 rfl) rfl)) rfl rfl rfl ?_
  refine E.WL.call (check_calls (RBook.goes.stays h (Stays.ext hb.below))) Tryz.call15 rfl rfl rfl ?_
  rintro _ w3 ⟨rfl, hX⟩
  replace hb := hb.ext hX
  clear hX
  refine E.WL.val (E.y_assign rfl) rfl rfl rfl ?_
  refine E.WL.done ?_
  refine E.KQ.then_n ?_
  refine E.W.seq ?_
  refine E.W.region ?_
  refine E.WL.val (E.y_move rfl) rfl rfl rfl ?_
  refine E.WL.val (E.y_neq rfl rfl) rfl rfl rfl ?_
  refine E.WL.done ?_
  refine E.KQ.then_n ?_
  refine E.W.condT 13 rfl (fun h1 => ?_) (fun h1 => ?_)
  · replace h1 : checkB b = false := by cases hc : checkB b with | true => rw [hc] at h1; simp at h1 | false => rfl
    refine E.W.seq ?_
    refine E.W.region ?_
    refine E.WL.val (E.y_move rfl) rfl rfl rfl ?_
    refine E.WL.val (E.y_assign rfl) rfl rfl rfl ?_
    refine E.WL.val (E.y_assign rfl) rfl rfl rfl ?_
    refine E.WL.done ?_
    refine E.KQ.then_n ?_
    refine E.W.ret ?_
    refine E.KQ.then_r ?_
    refine E.KQ.goto_r ?_
    refine E.KQ.ret2 Tryz.results10 rfl rfl ?_
    exact ⟨_, rfl, ⟨_, [], [], rfl, ⟨World.ownsRow_nil _ _ _ _, Rows.nil⟩, fun h => by rw [h1] at h; cases h⟩, hb.below⟩
  · replace h1 : checkB b = true := by cases hc : checkB b with | true => rfl | false => rw [hc] at h1; simp at h1
    have hbl := check_le h1
    refine E.W.skip ?_
    refine E.KQ.then_n ?_
    refine E.W.seq ?_
    refine E.W.region ?_
    refine E.WL.val (E.y_load rfl (E.At.ldk Tryz.isAgg27 Tryz.sizeOf27 (hb.at0 0 rfl) rfl)) rfl rfl rfl ?_
    refine E.WL.call (own_calls (RBook.goes.stays h (Stays.ext hb.below))) Tryz.call16 rfl rfl rfl ?_
    rintro _ w4 ⟨⟨csk, rfl, obk⟩, hX⟩
    have hle := hb.le
    replace hb := hb.ext hX
    replace obk := obk.le hle
    obtain ⟨vn, vt, vb, nn, nt, nb, rfl, o1, o2, o3⟩ := obk.out
    obtain ⟨A1, c1, rfl, hA1⟩ := ownsRow_open o1.row
    obtain ⟨A2, c2, rfl, hA2⟩ := ownsRow_open o2.row
    obtain ⟨A3, c3, rfl, hA3⟩ := ownsRow_open o3.row
    clear obk hX o1 hle
    refine E.WL.storeW hb 0 rfl rfl rfl Tryz.sizeOf27 rfl rfl rfl (E.allOne rfl) rfl ?_
    have hT := hb.hasT 0 rfl
    clear hb; intro w5 hb hO
    replace o2 := OTasks.keeps o2 (Keeps.only hO hT (by decide)) (S := fun U => U = 34 ∨ U = 45) (by decide) (by decide)
    replace o3 := OBinds.keeps o3 (Keeps.only hO hT (by decide)) (S := fun U => U = 47) rfl
    clear hT
    clear hO
    refine E.WL.done ?_
    refine E.KQ.then_n ?_
    refine E.W.seq ?_
    refine E.W.region ?_
    refine E.WL.val (E.y_fld Tryz.underlying27 rfl Tryz.sizeOf23 rfl) rfl rfl rfl ?_
    refine E.WL.val (E.y_load rfl (E.At.ld1 Tryz.isAgg23 (hb.at0 0 rfl) 1 rfl)) rfl rfl rfl ?_
    refine E.WL.val (E.y_lenS Tryz.underlying23 rfl) rfl rfl rfl ?_
    refine WL.mkchan hb Tryz.underlying77 (inf := Tryz.t34) (bytes := 128) (by kernel_rfl) rfl rfl (by omega) (by decide) rfl rfl ?_
    clear hb; intro C wC hb hX hch hC
    replace o2 := OTasks.keeps o2 (Keeps.ext hX) (S := fun U => U = 34 ∨ U = 45) (by decide) (by decide)
    replace o3 := OBinds.keeps o3 (Keeps.ext hX) (S := fun U => U = 47) rfl
    clear hX
    refine E.WL.val (E.y_assign rfl) rfl rfl rfl ?_
    refine E.WL.done ?_
    refine E.KQ.then_n ?_
    refine E.W.seq ?_
    refine E.W.seq ?_
    refine E.W.region ?_
    refine E.WL.val (E.y_fld Tryz.underlying27 rfl Tryz.sizeOf23 rfl) rfl rfl rfl ?_
    refine E.WL.val (E.y_load rfl (E.At.ld1 Tryz.isAgg23 (hb.at0 0 rfl) 1 rfl)) rfl rfl rfl ?_
    refine E.WL.val (E.y_lenS Tryz.underlying23 rfl) rfl rfl rfl ?_
    refine E.WL.val (E.y_move rfl) rfl rfl rfl ?_
    refine E.WL.done ?_
    refine E.KQ.then_n ?_
    refine E.W.block ?_
    refine E.W.loop (ι := Nat × List Value × Nat) (fun κ => [(1, .pointer (some ⟨B1, 0, none⟩)), (5, .chan (some C)), (22, .slice A2 b.tasks.length c2), (23, .int .i64 b.tasks.length), (24, .int .i64 (κ.1 : Nat))]) (fun κ w' => Bx w.heap.size w w' [(B1, [.slice A1 b.nodes.length c1, .slice A2 b.tasks.length c2, .slice A3 b.binds.length c3, .int .u64 b.fence], 27)] ∧ κ.1 ≤ b.tasks.length ∧ OTasks w.heap.size w' (.slice A2 b.tasks.length c2) b.tasks nt ∧ OBinds w.heap.size w' (.slice A3 b.binds.length c3) b.binds nb ∧ ChanAt w' C b.tasks.length κ.2.1 κ.2.2 0 ∧ QBuf w.heap.size w' κ.2.1 ((b.tasks.take κ.1).filter (waitB b))) (fun κ => b.tasks.length - κ.1) ((0, [], 0)) (by exact (.cons rfl (.cons rfl (.cons rfl (.cons rfl (.cons rfl .nil)))))) ⟨hb, Nat.zero_le _, o2, o3, hch, .nil⟩ (fun κ w6 hJ => ?_)
    clear hb o2 o3 hch
    obtain ⟨k, buf, s⟩ := κ
    obtain ⟨hb, hk, o2, o3, hch, hq⟩ := hJ
    simp only at hb hk hch hq
    refine E.W.seq ?_
    refine E.W.region ?_
    refine E.WL.val (E.y_lss rfl rfl) rfl rfl rfl ?_
    refine E.WL.done ?_
    refine E.KQ.then_n ?_
    refine E.W.seq ?_
    refine E.W.condT 25 rfl (fun hc25 => ?_) (fun hc25 => ?_)
    · replace hc25 := of_decide_eq_true hc25
      refine E.W.skip ?_
      refine E.KQ.then_n ?_
      refine E.W.seq ?_
      refine E.W.block ?_
      refine E.W.seq ?_
      refine E.W.region ?_
      have hkl : k < b.tasks.length := by omega
      obtain ⟨q, rfl⟩ := hA2 (by omega)
      have hat := At.cut_ (ownsRow_at o2.row) 9 k
      have hr2 := o2.rows.each k _ (List.getElem?_eq_getElem hkl)
      have hone := hr2.one
      obtain ⟨vw, vb', e9, _, _⟩ := id hr2
      rw [e9] at hat hr2 hone
      refine E.WL.val (E.y_idxS Tryz.underlying23 Tryz.sizeOf34 rfl rfl (by omega) (by omega)) rfl rfl rfl ?_
      refine E.WL.val (E.y_load rfl (E.At.ldk Tryz.isAgg34 Tryz.sizeOf34 hat rfl)) rfl rfl rfl ?_
      have hlt := o2.row.lt
      refine E.WL.alloc hb Tryz.zeroValue34 rfl rfl rfl ?_
      clear hb; intro B7 w8 hb hX hB7
      replace o2 := OTasks.keeps o2 (Keeps.ext hX) (S := fun U => U = 34 ∨ U = 45) (by decide) (by decide)
      replace o3 := OBinds.keeps o3 (Keeps.ext hX) (S := fun U => U = 47) rfl
      replace hch := ChanAt.ext hch hX
      replace hq := QBuf.keeps hq (Keeps.ext hX) (S := fun U => U = 45) rfl
      replace hr2 := RTask.keeps hr2 (Keeps.ext hX) (S := fun U => U = 45) rfl
      clear hX
      have hne : (Value.slice (some ⟨q, 0, none⟩) b.tasks.length c2).ownBlock ≠ some B7 := fun e => by have := (hlt _ e).2; omega
      refine E.WL.storeW hb 0 rfl rfl rfl Tryz.sizeOf34 rfl rfl rfl (hone) rfl ?_
      have hT := hb.hasT 0 rfl
      clear hb; intro w9 hb hO
      replace o2 := OTasks.only o2 hO hT hne
      replace o3 := OBinds.keeps o3 (Keeps.only hO hT (by decide)) (S := fun U => U = 47) rfl
      replace hch := ChanAt.only hch hO hT
      replace hq := QBuf.keeps hq (Keeps.only hO hT (by decide)) (S := fun U => U = 45) rfl
      replace hr2 := RTask.keeps hr2 (Keeps.only hO hT (by decide)) (S := fun U => U = 45) rfl
      clear hT
      clear hO
      refine E.WL.done ?_
      refine E.KQ.then_n ?_
      refine E.W.seq ?_
      refine E.W.region ?_
      refine E.WL.val (E.y_fld Tryz.underlying27 rfl Tryz.sizeOf24 rfl) rfl rfl rfl ?_
      refine E.WL.val (E.y_load rfl (E.At.ld1 Tryz.isAgg24 (hb.at0 1 rfl) 2 rfl)) rfl rfl rfl ?_
      refine E.WL.val (E.y_mkfn rfl rfl) rfl rfl rfl ?_
      refine E.WL.call (containsFuncBind_calls (OwnS.rd o3 (by omega)) (fun x => decide (x.task = b.tasks[k].name)) 27 [.pointer (some ⟨B7, 0, none⟩)] Tryz.call27 (fun w' hw i hi cs hr => waits_calls ((hb.at0 0 rfl).ext hw) hr)) Tryz.call26 rfl rfl rfl ?_
      rintro _ w10 ⟨rfl, hX⟩
      replace hb := hb.ext hX
      replace o2 := OTasks.keeps o2 (Keeps.ext hX) (S := fun U => U = 34 ∨ U = 45) (by decide) (by decide)
      replace o3 := OBinds.keeps o3 (Keeps.ext hX) (S := fun U => U = 47) rfl
      replace hch := ChanAt.ext hch hX
      replace hq := QBuf.keeps hq (Keeps.ext hX) (S := fun U => U = 45) rfl
      replace hr2 := RTask.keeps hr2 (Keeps.ext hX) (S := fun U => U = 45) rfl
      clear hX
      refine E.WL.val (E.y_not rfl) rfl rfl rfl ?_
      refine E.WL.done ?_
      refine E.KQ.then_n ?_
      refine E.W.condT 32 rfl (fun hwt => ?_) (fun hwt => ?_)
      · skip
        have hwt : waitB b b.tasks[k] = true := hwt
        refine E.W.regionM ?_
        refine E.ML.val rfl (E.y_move rfl) rfl rfl rfl ?_
        refine E.ML.val rfl (E.y_load rfl (E.At.ldk Tryz.isAgg34 Tryz.sizeOf34 (hb.at0 0 rfl) rfl)) rfl rfl rfl ?_
        have hle0 := hq.len
        have hle1 := filter_take_le (p := waitB b) (l := b.tasks) (k := k)
        refine ML.sendK rfl rfl rfl hch (by omega) rfl ?_
        intro w9 hch9 hT9
        clear hch
        have hch := hch9
        clear hch9
        replace hb := Bx.turned hb hT9 hC
        replace o2 := OTasks.keeps o2 (hT9.keeps (fun U => U = 34 ∨ U = 45)) (by decide) (by decide)
        replace o3 := OBinds.keeps o3 (hT9.keeps (fun U => U = 47)) rfl
        replace hr2 := RTask.keeps hr2 (hT9.keeps (fun U => U = 45)) rfl
        replace hq := (QBuf.keeps hq (hT9.keeps (fun U => U = 45)) rfl).snoc hr2
        rw [show (b.tasks.take k).filter (waitB b) ++ [b.tasks[k]] = (b.tasks.take (k + 1)).filter (waitB b) from by rw [filter_take hkl, if_pos hwt]] at hq
        have hq9 := hq
        refine E.ML.done ?_
        refine E.KQ.block_n ?_
        refine E.KQ.then_n ?_
        refine E.W.region ?_
        refine E.WL.val (E.y_add rfl rfl (Go.IntWalk.i64_in _ (by omega))) rfl rfl rfl ?_
        refine E.WL.val (E.y_move rfl) rfl rfl rfl ?_
        refine E.WL.done ?_
        replace hb := hb.drop (List.Sublist.cons _ (List.Sublist.refl _))
        exact E.KQ.next (ι := Nat × List Value × Nat) (k + 1, _, _) (by exact .cons rfl (.cons rfl (.cons rfl (.cons rfl (.cons rfl (.nil)))))) ⟨hb, by omega, o2, o3, hch, hq9⟩ (by show b.tasks.length - (k + 1) < b.tasks.length - k; omega)
      · skip
        have hwf : waitB b b.tasks[k] = false := hwt
        refine E.W.skip ?_
        refine E.KQ.block_n ?_
        refine E.KQ.then_n ?_
        refine E.W.region ?_
        refine E.WL.val (E.y_add rfl rfl (Go.IntWalk.i64_in _ (by omega))) rfl rfl rfl ?_
        refine E.WL.val (E.y_move rfl) rfl rfl rfl ?_
        refine E.WL.done ?_
        replace hb := hb.drop (List.Sublist.cons _ (List.Sublist.refl _))
        exact E.KQ.next (ι := Nat × List Value × Nat) (k + 1, _, _) (by exact .cons rfl (.cons rfl (.cons rfl (.cons rfl (.cons rfl (.nil)))))) ⟨hb, by omega, o2, o3, hch, by rw [filter_take hkl, if_neg (by rw [hwf]; decide), List.append_nil]; exact hq⟩ (by show b.tasks.length - (k + 1) < b.tasks.length - k; omega)
    · replace hc25 := of_decide_eq_false hc25
      have hke : b.tasks.take k = b.tasks := List.take_of_length_le (by omega)
      rw [hke] at hq
      refine E.W.exit ?_
      refine E.KQ.then_e ?_
      refine E.KQ.loop_e ?_
      refine E.KQ.block_e ?_
      refine E.KQ.then_n ?_
      refine E.W.seq ?_
      refine E.W.region ?_
      refine E.WL.val (E.y_assign rfl) rfl rfl rfl ?_
      refine E.WL.done ?_
      refine E.KQ.then_n ?_
      refine E.W.seq ?_
      refine E.W.label ?_
      refine E.KQ.then_n ?_
      refine E.W.seq ?_
      refine E.W.block ?_
      refine E.W.loop (ι := Q2) (fun κ => [(5, .chan (some C)), (8, κ.v)]) (fun κ w' => Bx w.heap.size w w' [] ∧ ChanAt w' C b.tasks.length κ.buf s κ.r ∧ QBuf w.heap.size w' κ.buf κ.todo ∧ OTasks w.heap.size w' κ.v κ.done κ.news ∧ κ.done ++ κ.todo = waitsP b) (fun κ => κ.buf.length) (⟨buf, waitsP b, [], 0, .slice none 0 0, []⟩) (by exact (.cons rfl (.cons rfl .nil))) ⟨hb.drop (List.nil_sublist _), hch, hq, ⟨World.ownsRow_nil _ _ _ _, Rows.nil⟩, rfl⟩ (fun κ w11 hJ => ?_)
      clear hb o2 o3 hch hq
      obtain ⟨buf, todo, done, r, v, news⟩ := κ
      obtain ⟨hb, hch, hq, o2, hsum⟩ := hJ
      simp only at hch hq o2 hsum
      refine E.W.block ?_
      refine E.W.seq ?_
      refine E.W.region ?_
      refine E.WL.val (E.y_move rfl) rfl rfl rfl ?_
      refine E.WL.done ?_
      refine E.KQ.then_n ?_
      refine E.W.seq ?_
      refine E.W.regionM ?_
      rcases hq with _ | ⟨hr9, hq'⟩
      · refine E.ML.selNone rfl rfl Tryz.zeroValue34 rfl hch rfl rfl ?_
        refine E.ML.val rfl (E.y_extract rfl rfl) rfl rfl rfl ?_
        refine E.ML.val rfl (E.y_eql rfl rfl) rfl rfl rfl ?_
        refine E.ML.done ?_
        refine E.KQ.then_n ?_
        refine E.W.block ?_
        refine E.W.cond_f rfl ?_
        refine E.W.exit ?_
        refine E.KQ.block_o rfl ?_
        refine E.KQ.block_o rfl ?_
        refine E.KQ.loop_e ?_
        refine E.KQ.block_e ?_
        refine E.KQ.then_n ?_
        refine E.W.seq ?_
        refine E.W.region ?_
        refine E.WL.val (E.y_move rfl) rfl rfl rfl ?_
        rw [List.append_nil] at hsum
        refine E.WL.call (sort_calls o2 (by have h8 := congrArg List.length hsum; have h9 := waits_le b; omega)) Tryz.call28 rfl rfl rfl ?_
        rintro _ w12 ⟨rfl, ⟨ys, news', o', hperm, hsort⟩, hBl, hKp⟩
        replace hb := hb.keeps hKp hBl (by intro p hp; cases hp)
        refine E.WL.done ?_
        refine E.KQ.then_n ?_
        refine E.W.seq ?_
        refine E.W.region ?_
        refine E.WL.val (E.y_move rfl) rfl rfl rfl ?_
        refine E.WL.val (E.y_assign rfl) rfl rfl rfl ?_
        refine E.WL.val (E.y_assign rfl) rfl rfl rfl ?_
        refine E.WL.done ?_
        refine E.KQ.then_n ?_
        refine E.W.ret ?_
        refine E.KQ.goto_r ?_
        refine E.KQ.ret2 Tryz.results10 rfl rfl ?_
        exact ⟨_, rfl, ⟨_, ys, news', by rw [if_pos h1], o', fun _ => ⟨by rw [← hsum]; exact hperm, hsort⟩⟩, hb.below⟩
      · rename_i cs x buf todo
        have hcs := hr9.one
        refine ML.recvK rfl rfl Tryz.zeroValue34 rfl hch rfl rfl ?_
        intro w9 hch9 hT9
        clear hch
        have hch := hch9
        clear hch9
        replace hb := Bx.turned hb hT9 hC
        replace o2 := OTasks.keeps o2 (hT9.keeps (fun U => U = 34 ∨ U = 45)) (by decide) (by decide)
        replace hr9 := RTask.keeps hr9 (hT9.keeps (fun U => U = 45)) rfl
        have hq := QBuf.keeps hq' (hT9.keeps (fun U => U = 45)) rfl
        clear hq'
        obtain ⟨vw, vb', rfl, _, _⟩ := id hr9
        refine E.ML.val rfl (E.y_extract rfl rfl) rfl rfl rfl ?_
        refine E.ML.val rfl (E.y_eql rfl rfl) rfl rfl rfl ?_
        refine E.ML.done ?_
        refine E.KQ.then_n ?_
        refine E.W.block ?_
        refine E.W.cond_t rfl ?_
        refine E.W.seq ?_
        refine E.W.region ?_
        refine E.WL.val (E.y_extract rfl rfl) rfl rfl rfl ?_
        have hlt := o2.row.lt
        refine E.WL.alloc hb Tryz.zeroValue34 rfl rfl rfl ?_
        clear hb; intro B9 w14 hb hX hB9
        replace o2 := OTasks.keeps o2 (Keeps.ext hX) (S := fun U => U = 34 ∨ U = 45) (by decide) (by decide)
        replace hch := ChanAt.ext hch hX
        replace hq := QBuf.keeps hq (Keeps.ext hX) (S := fun U => U = 45) rfl
        replace hr9 := RTask.keeps hr9 (Keeps.ext hX) (S := fun U => U = 45) rfl
        clear hX
        have hne : v.ownBlock ≠ some B9 := fun e => by have := (hlt _ e).2; omega
        refine E.WL.storeW hb 0 rfl rfl rfl Tryz.sizeOf34 rfl rfl rfl (hcs) rfl ?_
        have hT := hb.hasT 0 rfl
        clear hb; intro w15 hb hO
        replace o2 := OTasks.only o2 hO hT hne
        replace hch := ChanAt.only hch hO hT
        replace hq := QBuf.keeps hq (Keeps.only hO hT (by decide)) (S := fun U => U = 45) rfl
        replace hr9 := RTask.keeps hr9 (Keeps.only hO hT (by decide)) (S := fun U => U = 45) rfl
        clear hT
        clear hO
        refine E.WL.done ?_
        refine E.KQ.then_n ?_
        refine E.W.region ?_
        refine E.WL.val (E.y_move rfl) rfl rfl rfl ?_
        refine E.WL.val (E.y_load rfl (E.At.ldk Tryz.isAgg34 Tryz.sizeOf34 (hb.at0 0 rfl) rfl)) rfl rfl rfl ?_
        refine E.WL.mkslice (T := 34) (cs := [.string x.name, .int .i64 x.n0, .int .i64 x.n1, .int .i64 x.n2, vw, vb', .string x.group, .string x.apart, .int .i64 x.rank]) hb rfl (fun _ => by kernel_rfl) rfl rfl ?_
        clear hb; intro B16 w17 hb hX _
        replace o2 := OTasks.keeps o2 (Keeps.ext hX) (S := fun U => U = 34 ∨ U = 45) (by decide) (by decide)
        replace hch := ChanAt.ext hch hX
        replace hq := QBuf.keeps hq (Keeps.ext hX) (S := fun U => U = 45) rfl
        replace hr9 := RTask.keeps hr9 (Keeps.ext hX) (S := fun U => U = 45) rfl
        clear hX
        have hle := hb.le
        have hdl : done.length ≤ 31 := by have h8 := congrArg List.length hsum; have h9 := waits_le b; simp only [List.length_append, List.length_cons] at h8; omega
        refine E.WL.append Tryz.underlying23 (i := Tryz.t34) (size := 9) (bytes := 128) (by kernel_rfl) rfl rfl rfl rfl (by decide) rfl rfl o2.row (hb.at0 0 rfl) rfl hcs (by omega) (by decide) hb.le rfl rfl (fun v' w6 own6 hg6 _ => ?_)
        have hB6 : Below w.heap.size _ w6 := grown_below (Below.refl _ _) hg6 hle (fun k hk => (o2.row.lt k hk).1)
        have hK6 := Keeps.grown hg6 (ownsRow_hasT o2.row) (S := fun U => U ≠ 34) (by decide)
        replace hch := ChanAt.grown hch hg6 (ownsRow_hasT o2.row)
        replace hb := (hb.drop (List.nil_sublist _)).keeps hK6 hB6 (by intro p hp; cases hp)
        replace hr9 := RTask.keeps hr9 hK6 (by decide)
        replace hq := QBuf.keeps hq hK6 (by decide)
        have o2' : OTasks w.heap.size w6 v' (done ++ [x]) _ := ⟨by rw [List.length_append]; exact own6, (o2.rows.to fun cs x hx => RTask.keeps hx hK6 (by decide)).app (Rows.one hr9 rfl)⟩
        clear o2 own6 hg6 hB6 hK6 hle
        refine E.WL.val (E.y_assign rfl) rfl rfl rfl ?_
        refine E.WL.done ?_
        refine E.KQ.block_n ?_
        refine E.KQ.block_n ?_
        exact E.KQ.next (ι := Q2) ⟨buf, todo, done ++ [x], r + 1, v', _⟩ (by exact .cons rfl (.cons rfl (.nil))) ⟨hb, hch, hq, o2', by rw [← hsum]; simp⟩ (by show buf.length < (_ :: buf).length; simp)
end Go.Proofs.YtmnnbnajnfdncaaGreatDoor
