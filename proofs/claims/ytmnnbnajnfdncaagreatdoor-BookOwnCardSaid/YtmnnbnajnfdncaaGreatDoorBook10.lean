/- Walks: book, tenth part: orders of a task. -/
import Derived.Test.YtmnnbnajnfdncaaGreatDoorBook9
import Derived.Test.YtmnnbnajnfdncaaGreatDoorBook4
set_option linter.unusedVariables false
set_option linter.unusedSimpArgs false
namespace Go.Proofs.YtmnnbnajnfdncaaGreatDoor
open Go.RowKit E
set_option maxHeartbeats 4000000 in
theorem ofTask_calls {w : World} {base K : Nat} {b : BookD} (hbase : base ≤ w.heap.size) (hk : Kp base w K b) (hsz : small b) {co : List Value} {o : OrderD} (ho : ROrder (Lt base) w co o) :
    Calls Tryz.prog 22 #[(.pointer (some ⟨K, 0, none⟩)), (.agg co.toArray)] w (Ret fun u w' => u = .agg #[.int .i64 (ofTaskP b o).2.1, .string (ofTaskP b o).2.2] ∧ Kp base w' K (ofTaskP b o).1 ∧ Below base w w' ∧ Keeps boxS w w') := by
  obtain ⟨vn, vt, vb, nn, nt, nb, hbK, hgK, o1, o2, o3⟩ := hk.out
  obtain ⟨A1, c1, rfl, hA1⟩ := ownsRow_open o1.row
  obtain ⟨A2, c2, rfl, hA2⟩ := ownsRow_open o2.row
  obtain ⟨A3, c3, rfl, hA3⟩ := ownsRow_open o3.row
  have hkp : Keeps boxS w w := Keeps.refl w
  unfold small at hsz
  obtain ⟨cn, ct, rfl, hn, ht⟩ := ho
  obtain ⟨vl, vt', rfl, _, _⟩ := id hn
  obtain ⟨vw, vb', rfl, _, _⟩ := id ht
  have hb := Bx.one hbK hgK hbase
  refine E.enter Tryz.func22 rfl Tryz.ntmps22 [(.pointer (some ⟨K, 0, none⟩)), (.agg #[.int .u8 o.kind, .string o.node.name, .int .i64 o.node.h0, .int .i64 o.node.h1, .int .i64 o.node.h2, vl, vt', .string o.task.name, .int .i64 o.task.n0, .int .i64 o.task.n1, .int .i64 o.task.n2, vw, vb', .string o.task.group, .string o.task.apart, .int .i64 o.task.rank, .string o.name, .string o.on, .int .u64 o.fence])] rfl ?_
  refine E.W.seq ?_
  refine E.W.region ?_
  refine E.WL.box hb rfl rfl rfl rfl ?_
  clear hb; intro B3 w2 hb hX _
  replace o1 := ONodes.keeps o1 (Keeps.ext hX) (S := rowS) (by decide) (by decide)
  replace o2 := OTasks.keeps o2 (Keeps.ext hX) (S := rowS) (by decide) (by decide)
  replace o3 := OBinds.keeps o3 (Keeps.ext hX) (S := rowS) (by decide)
  replace hkp := Keeps.trans hkp (Keeps.ext hX)
  clear hX
  have hsz0 := hkp.size
  refine E.WL.alloc hb Tryz.zeroValue41 rfl rfl rfl ?_
  clear hb; intro B4 w4 hb hX hB4
  replace o1 := ONodes.keeps o1 (Keeps.ext hX) (S := rowS) (by decide) (by decide)
  replace o2 := OTasks.keeps o2 (Keeps.ext hX) (S := rowS) (by decide) (by decide)
  replace o3 := OBinds.keeps o3 (Keeps.ext hX) (S := rowS) (by decide)
  replace hkp := Keeps.trans hkp (Keeps.ext hX)
  clear hX
  have hB4' : w.heap.size ≤ B4 := by rw [hB4]; exact hsz0
  refine E.WL.done ?_
  refine E.KQ.then_n ?_
  refine E.W.seq ?_
  refine E.W.region ?_
  refine E.WL.val (E.y_move rfl) rfl rfl rfl ?_
  refine E.WL.val (E.y_fld Tryz.underlying36 rfl Tryz.sizeOf9 rfl) rfl rfl rfl ?_
  refine E.WL.val (E.y_load rfl (E.At.ld1 Tryz.isAgg9 (hb.at0 1 rfl) 16 rfl)) rfl rfl rfl ?_
  refine E.WL.call (task_calls (hb.at0 2 rfl) (ORd (by omega) o1 o2 o3) o.name) Tryz.call45 rfl rfl rfl ?_
  rintro _ w5 ⟨rfl, hX⟩
  replace hb := hb.ext hX
  replace o1 := ONodes.keeps o1 (Keeps.ext hX) (S := rowS) (by decide) (by decide)
  replace o2 := OTasks.keeps o2 (Keeps.ext hX) (S := rowS) (by decide) (by decide)
  replace o3 := OBinds.keeps o3 (Keeps.ext hX) (S := rowS) (by decide)
  replace hkp := Keeps.trans hkp (Keeps.ext hX)
  clear hX
  refine E.WL.val (E.y_move rfl) rfl rfl rfl ?_
  refine E.WL.val (E.y_extract rfl rfl) rfl rfl rfl ?_
  refine E.WL.val (E.y_extract rfl rfl) rfl rfl rfl ?_
  refine E.WL.val (E.y_assign rfl) rfl rfl rfl ?_
  refine E.WL.val (E.y_assign rfl) rfl rfl rfl ?_
  refine E.WL.done ?_
  refine E.KQ.then_n ?_
  refine E.W.seq ?_
  refine E.W.seq ?_
  refine E.W.region ?_
  refine E.WL.val (E.y_move rfl) rfl rfl rfl ?_
  refine E.WL.val (E.y_not rfl) rfl rfl rfl ?_
  refine E.WL.done ?_
  refine E.KQ.then_n ?_
  refine E.W.condT 17 rfl (fun h17 => ?_) (fun h17 => ?_)
  · replace h17 : hasB (taskNames b) o.name = false := by simpa using h17
    have hp : ofTaskP b o = (b, 6, noText) := by unfold ofTaskP; rw [if_pos h17]
    refine E.W.seq ?_
    refine E.W.region ?_
    refine E.WL.val (E.y_build (v := .agg #[.int .i64 6, .string noText]) rfl (by kernel_rfl)) rfl rfl rfl ?_
    refine E.WL.storeW hb 0 rfl rfl rfl Tryz.sizeOf41 rfl rfl rfl (E.allOne rfl) rfl ?_
    have hT := hb.hasT 0 rfl
    clear hb; intro w6 hb hO
    replace o1 := ONodes.keeps o1 (Keeps.only hO hT (by decide)) (S := rowS) (by decide) (by decide)
    replace o2 := OTasks.keeps o2 (Keeps.only hO hT (by decide)) (S := rowS) (by decide) (by decide)
    replace o3 := OBinds.keeps o3 (Keeps.only hO hT (by decide)) (S := rowS) (by decide)
    replace hkp := Keeps.stepO hkp hO hB4'
    clear hT
    clear hO
    refine E.WL.done ?_
    refine E.KQ.then_n ?_
    refine E.W.ret ?_
    refine E.KQ.then_r ?_
    refine E.KQ.retc Tryz.results22 rfl (E.At.ldk Tryz.isAgg41 Tryz.sizeOf41 (hb.at0 0 rfl) rfl) ?_
    exact ⟨_, rfl, by (rw [hp] <;> rfl), by rw [hp]; exact Kp.mk' hb 2 rfl o1 o2 o3, hb.below, hkp⟩
  · replace h17 : hasB (taskNames b) o.name = true := by simpa using h17
    have hi := taskPos_lt h17
    have h17' : ¬ hasB (taskNames b) o.name = false := by rw [h17]; decide
    have hft : (freeP b o.name).1.tasks.length = b.tasks.length := by rw [(freeP_tasks b o.name).1]
    refine E.W.skip ?_
    refine E.KQ.then_n ?_
    refine E.W.seq ?_
    refine E.W.seq ?_
    refine E.W.region ?_
    refine E.WL.val (E.y_fld Tryz.underlying36 rfl Tryz.sizeOf28 rfl) rfl rfl rfl ?_
    refine E.WL.val (E.y_load rfl (E.At.ld1 Tryz.isAgg28 (hb.at0 1 rfl) 0 rfl)) rfl rfl rfl ?_
    refine E.WL.done ?_
    refine E.KQ.then_n ?_
    refine E.W.block ?_
    refine E.W.seq ?_
    refine E.W.region ?_
    refine E.WL.val (E.y_eql rfl rfl) rfl rfl rfl ?_
    refine E.WL.val (E.y_assign rfl) rfl rfl rfl ?_
    refine E.WL.done ?_
    refine E.KQ.then_n ?_
    refine E.W.condT 21 rfl (fun k4 => ?_) (fun k4 => ?_)
    · replace k4 := of_decide_eq_true k4
      have hp : ofTaskP b o = ({ (freeP b o.name).1 with tasks := dropAt (posB (taskNames b) o.name) (freeP b o.name).1.tasks }, 0, noText) := by unfold ofTaskP; rw [if_neg h17', if_pos k4]
      refine E.W.seq ?_
      refine E.W.region ?_
      refine E.WL.val (E.y_move rfl) rfl rfl rfl ?_
      refine E.WL.val (E.y_fld Tryz.underlying36 rfl Tryz.sizeOf9 rfl) rfl rfl rfl ?_
      refine E.WL.val (E.y_load rfl (E.At.ld1 Tryz.isAgg9 (hb.at0 1 rfl) 16 rfl)) rfl rfl rfl ?_
      refine E.WL.call (free_calls hb.le (Kp.mk' hb 2 rfl o1 o2 o3) (by unfold small; omega) o.name) Tryz.call62 rfl rfl rfl ?_
      rintro _ w7 ⟨rfl, hk2, hB6, hK6⟩
      replace hkp := Keeps.trans hkp hK6
      clear o1 o2 o3
      obtain ⟨vn2, vt2, vb2, nn2, nt2, nb2, hbK2, hgK2, o1, o2, o3⟩ := hk2.out
      obtain ⟨A1', c1', rfl, hA1'⟩ := ownsRow_open o1.row
      obtain ⟨A2', c2', rfl, hA2'⟩ := ownsRow_open o2.row
      obtain ⟨A3', c3', rfl, hA3'⟩ := ownsRow_open o3.row
      replace hb := Bx.reK [(B4, _, 41), (B3, _, 36)] hb hK6 hB6 (by intro p hp; simp only [List.mem_cons, List.not_mem_nil, or_false] at hp; rcases hp with rfl | rfl <;> simp [boxS]) hbK2 hgK2
      clear hB6 hK6 hgK2
      simp only [List.cons_append, List.nil_append] at hb
      refine E.WL.done ?_
      refine E.KQ.then_n ?_
      refine E.W.region ?_
      refine E.WL.val (E.y_move rfl) rfl rfl rfl ?_
      refine E.WL.val (E.y_move rfl) rfl rfl rfl ?_
      refine E.WL.val (E.y_nilCheck rfl) rfl rfl rfl ?_
      refine E.WL.val (E.y_fld Tryz.underlying66 rfl Tryz.sizeOf27 rfl) rfl rfl rfl ?_
      refine E.WL.val (E.y_fld Tryz.underlying27 rfl Tryz.sizeOf23 rfl) rfl rfl rfl ?_
      refine E.WL.val (E.y_load rfl (E.At.ld1 Tryz.isAgg23 (hb.at0 2 rfl) 1 rfl)) rfl rfl rfl ?_
      refine E.WL.val (E.y_move rfl) rfl rfl rfl ?_
      refine E.WL.val (E.y_move rfl) rfl rfl rfl ?_
      refine E.WL.val (E.y_add rfl rfl (Go.IntWalk.i64_in _ (by omega))) rfl rfl rfl ?_
      refine E.WL.call (deleteTask_calls (i := posB (taskNames b) o.name) o2.row hb.le (o2.rows.one1 (by decide) (fun cs x hx => hx.one)) (by omega) (by omega)) Tryz.call63 rfl rfl rfl ?_
      rintro v' w8 ⟨⟨_, rfl, own'⟩, hB6, hK6⟩
      replace hb := hb.keeps hK6 hB6 (by intro p hp; simp only [List.mem_cons, List.not_mem_nil, or_false] at hp; rcases hp with rfl | rfl | rfl <;> simp)
      replace o1 := ONodes.keeps o1 hK6 (by decide) (by decide)
      replace o3 := OBinds.keeps o3 hK6 (by decide)
      replace hkp := Keeps.trans hkp (hK6.mono (by rintro U (rfl | rfl | rfl) <;> decide))
      replace o2 : OTasks base w8 v' (dropAt (posB (taskNames b) o.name) (freeP b o.name).1.tasks) _ := ⟨by rw [dropAt_len (by omega)]; exact own', (o2.rows.to fun cs x hx => RTask.keeps hx hK6 (by decide)).cutOut⟩
      obtain ⟨A', c', rfl, _⟩ := ownsRow_open own'
      clear own' hB6 hK6
      refine E.WL.val (E.y_nilCheck rfl) rfl rfl rfl ?_
      refine E.WL.val (E.y_fld Tryz.underlying66 rfl Tryz.sizeOf27 rfl) rfl rfl rfl ?_
      refine E.WL.val (E.y_fld Tryz.underlying27 rfl Tryz.sizeOf23 rfl) rfl rfl rfl ?_
      refine E.WL.store hb 2 1 rfl rfl rfl Tryz.sizeOf23 rfl rfl rfl (E.allOne rfl) rfl ?_
      have hT := hb.hasT 2 rfl
      clear hb; intro w9 hb hO
      replace o1 := ONodes.keeps o1 (Keeps.only hO hT (by decide)) (S := rowS) (by decide) (by decide)
      replace o2 := OTasks.keeps o2 (Keeps.only hO hT (by decide)) (S := rowS) (by decide) (by decide)
      replace o3 := OBinds.keeps o3 (Keeps.only hO hT (by decide)) (S := rowS) (by decide)
      replace hkp := Keeps.trans hkp (Keeps.only hO hT (by decide))
      clear hT
      clear hO
      refine E.WL.done ?_
      refine E.KQ.block_n ?_
      refine E.KQ.then_n ?_
      refine E.W.seq ?_
      refine E.W.region ?_
      refine E.WL.val (E.y_load rfl (E.At.ldk Tryz.isAgg41 Tryz.sizeOf41 (hb.at0 0 rfl) rfl)) rfl rfl rfl ?_
      refine E.WL.storeW hb 0 rfl rfl rfl Tryz.sizeOf41 rfl rfl rfl (E.allOne rfl) rfl ?_
      have hT := hb.hasT 0 rfl
      clear hb; intro w10 hb hO
      replace o1 := ONodes.keeps o1 (Keeps.only hO hT (by decide)) (S := rowS) (by decide) (by decide)
      replace o2 := OTasks.keeps o2 (Keeps.only hO hT (by decide)) (S := rowS) (by decide) (by decide)
      replace o3 := OBinds.keeps o3 (Keeps.only hO hT (by decide)) (S := rowS) (by decide)
      replace hkp := Keeps.stepO hkp hO hB4'
      clear hT
      clear hO
      refine E.WL.done ?_
      refine E.KQ.then_n ?_
      refine E.W.ret ?_
      refine E.KQ.retc Tryz.results22 rfl (E.At.ldk Tryz.isAgg41 Tryz.sizeOf41 (hb.at0 0 rfl) rfl) ?_
      exact ⟨_, rfl, by (rw [hp] <;> rfl), by rw [hp]; exact Kp.mk' hb 2 rfl o1 o2 o3, hb.below, hkp⟩
    · replace k4 := of_decide_eq_false k4
      refine E.W.seq ?_
      refine E.W.region ?_
      refine E.WL.val (E.y_eql rfl rfl) rfl rfl rfl ?_
      refine E.WL.val (E.y_assign rfl) rfl rfl rfl ?_
      refine E.WL.done ?_
      refine E.KQ.then_n ?_
      refine E.W.condT 40 rfl (fun k6 => ?_) (fun k6 => ?_)
      · replace k6 := of_decide_eq_true k6
        refine E.W.seq ?_
        refine E.W.region ?_
        refine E.WL.val (E.y_move rfl) rfl rfl rfl ?_
        refine E.WL.val (E.y_fld Tryz.underlying36 rfl Tryz.sizeOf9 rfl) rfl rfl rfl ?_
        refine E.WL.val (E.y_load rfl (E.At.ld1 Tryz.isAgg9 (hb.at0 1 rfl) 16 rfl)) rfl rfl rfl ?_
        refine E.WL.call (free_calls hb.le (Kp.mk' hb 2 rfl o1 o2 o3) (by unfold small; omega) o.name) Tryz.call62 rfl rfl rfl ?_
        rintro _ w11 ⟨rfl, hk2, hB6, hK6⟩
        replace hkp := Keeps.trans hkp hK6
        clear o1 o2 o3
        obtain ⟨vn2, vt2, vb2, nn2, nt2, nb2, hbK2, hgK2, o1, o2, o3⟩ := hk2.out
        obtain ⟨A1', c1', rfl, hA1'⟩ := ownsRow_open o1.row
        obtain ⟨A2', c2', rfl, hA2'⟩ := ownsRow_open o2.row
        obtain ⟨A3', c3', rfl, hA3'⟩ := ownsRow_open o3.row
        replace hb := Bx.reK [(B4, _, 41), (B3, _, 36)] hb hK6 hB6 (by intro p hp; simp only [List.mem_cons, List.not_mem_nil, or_false] at hp; rcases hp with rfl | rfl <;> simp [boxS]) hbK2 hgK2
        clear hB6 hK6 hgK2
        simp only [List.cons_append, List.nil_append] at hb
        refine E.WL.val (E.y_not rfl) rfl rfl rfl ?_
        refine E.WL.done ?_
        refine E.KQ.then_n ?_
        refine E.W.condT 46 rfl (fun h46 => ?_) (fun h46 => ?_)
        · replace h46 : (freeP b o.name).2 = false := by simpa using h46
          have hp : ofTaskP b o = ((freeP b o.name).1, 10, noText) := by unfold ofTaskP; rw [if_neg h17', if_neg k4, if_pos k6, if_neg (by rw [h46]; decide)]
          refine E.W.region ?_
          refine E.WL.val (E.y_fld Tryz.underlying41 rfl Tryz.sizeOf39 rfl) rfl rfl rfl ?_
          refine E.WL.store hb 0 0 rfl rfl rfl Tryz.sizeOf39 rfl rfl rfl (E.allOne rfl) rfl ?_
          have hT := hb.hasT 0 rfl
          clear hb; intro w12 hb hO
          replace o1 := ONodes.keeps o1 (Keeps.only hO hT (by decide)) (S := rowS) (by decide) (by decide)
          replace o2 := OTasks.keeps o2 (Keeps.only hO hT (by decide)) (S := rowS) (by decide) (by decide)
          replace o3 := OBinds.keeps o3 (Keeps.only hO hT (by decide)) (S := rowS) (by decide)
          replace hkp := Keeps.stepO hkp hO hB4'
          clear hT
          clear hO
          refine E.WL.done ?_
          refine E.KQ.block_n ?_
          refine E.KQ.then_n ?_
          refine E.W.seq ?_
          refine E.W.region ?_
          refine E.WL.val (E.y_load rfl (E.At.ldk Tryz.isAgg41 Tryz.sizeOf41 (hb.at0 0 rfl) rfl)) rfl rfl rfl ?_
          refine E.WL.storeW hb 0 rfl rfl rfl Tryz.sizeOf41 rfl rfl rfl (E.allOne rfl) rfl ?_
          have hT := hb.hasT 0 rfl
          clear hb; intro w13 hb hO
          replace o1 := ONodes.keeps o1 (Keeps.only hO hT (by decide)) (S := rowS) (by decide) (by decide)
          replace o2 := OTasks.keeps o2 (Keeps.only hO hT (by decide)) (S := rowS) (by decide) (by decide)
          replace o3 := OBinds.keeps o3 (Keeps.only hO hT (by decide)) (S := rowS) (by decide)
          replace hkp := Keeps.stepO hkp hO hB4'
          clear hT
          clear hO
          refine E.WL.done ?_
          refine E.KQ.then_n ?_
          refine E.W.ret ?_
          refine E.KQ.retc Tryz.results22 rfl (E.At.ldk Tryz.isAgg41 Tryz.sizeOf41 (hb.at0 0 rfl) rfl) ?_
          exact ⟨_, rfl, by (rw [hp] <;> rfl), by rw [hp]; exact Kp.mk' hb 2 rfl o1 o2 o3, hb.below, hkp⟩
        · replace h46 : (freeP b o.name).2 = true := by simpa using h46
          have hp : ofTaskP b o = ((freeP b o.name).1, 0, noText) := by unfold ofTaskP; rw [if_neg h17', if_neg k4, if_pos k6, if_pos h46]
          refine E.W.skip ?_
          refine E.KQ.block_n ?_
          refine E.KQ.then_n ?_
          refine E.W.seq ?_
          refine E.W.region ?_
          refine E.WL.val (E.y_load rfl (E.At.ldk Tryz.isAgg41 Tryz.sizeOf41 (hb.at0 0 rfl) rfl)) rfl rfl rfl ?_
          refine E.WL.storeW hb 0 rfl rfl rfl Tryz.sizeOf41 rfl rfl rfl (E.allOne rfl) rfl ?_
          have hT := hb.hasT 0 rfl
          clear hb; intro w14 hb hO
          replace o1 := ONodes.keeps o1 (Keeps.only hO hT (by decide)) (S := rowS) (by decide) (by decide)
          replace o2 := OTasks.keeps o2 (Keeps.only hO hT (by decide)) (S := rowS) (by decide) (by decide)
          replace o3 := OBinds.keeps o3 (Keeps.only hO hT (by decide)) (S := rowS) (by decide)
          replace hkp := Keeps.stepO hkp hO hB4'
          clear hT
          clear hO
          refine E.WL.done ?_
          refine E.KQ.then_n ?_
          refine E.W.ret ?_
          refine E.KQ.retc Tryz.results22 rfl (E.At.ldk Tryz.isAgg41 Tryz.sizeOf41 (hb.at0 0 rfl) rfl) ?_
          exact ⟨_, rfl, by (rw [hp] <;> rfl), by rw [hp]; exact Kp.mk' hb 2 rfl o1 o2 o3, hb.below, hkp⟩
      · replace k6 := of_decide_eq_false k6
        refine E.W.seq ?_
        refine E.W.region ?_
        refine E.WL.val (E.y_eql rfl rfl) rfl rfl rfl ?_
        refine E.WL.val (E.y_assign rfl) rfl rfl rfl ?_
        refine E.WL.done ?_
        refine E.KQ.then_n ?_
        refine E.W.condT 48 rfl (fun k7 => ?_) (fun k7 => ?_)
        · replace k7 := of_decide_eq_true k7
          refine E.W.seq ?_
          refine E.W.region ?_
          refine E.WL.val (E.y_move rfl) rfl rfl rfl ?_
          refine E.WL.val (E.y_fld Tryz.underlying36 rfl Tryz.sizeOf9 rfl) rfl rfl rfl ?_
          refine E.WL.val (E.y_load rfl (E.At.ld1 Tryz.isAgg9 (hb.at0 1 rfl) 16 rfl)) rfl rfl rfl ?_
          refine E.WL.call (bind_calls (hb.at0 2 rfl) (ORd (by omega) o1 o2 o3) o.name) Tryz.call60 rfl rfl rfl ?_
          rintro _ w15 ⟨rfl, hX⟩
          replace hb := hb.ext hX
          replace o1 := ONodes.keeps o1 (Keeps.ext hX) (S := rowS) (by decide) (by decide)
          replace o2 := OTasks.keeps o2 (Keeps.ext hX) (S := rowS) (by decide) (by decide)
          replace o3 := OBinds.keeps o3 (Keeps.ext hX) (S := rowS) (by decide)
          replace hkp := Keeps.trans hkp (Keeps.ext hX)
          clear hX
          refine E.WL.val (E.y_move rfl) rfl rfl rfl ?_
          refine E.WL.val (E.y_extract rfl rfl) rfl rfl rfl ?_
          refine E.WL.val (E.y_extract rfl rfl) rfl rfl rfl ?_
          refine E.WL.val (E.y_assign rfl) rfl rfl rfl ?_
          refine E.WL.val (E.y_assign rfl) rfl rfl rfl ?_
          refine E.WL.done ?_
          refine E.KQ.then_n ?_
          refine E.W.seq ?_
          refine E.W.region ?_
          refine E.WL.val (E.y_move rfl) rfl rfl rfl ?_
          refine E.WL.done ?_
          refine E.KQ.then_n ?_
          refine E.W.condT 57 rfl (fun h57 => ?_) (fun h57 => ?_)
          · skip
            have hbi := bindPos_lt h57
            have hp : ofTaskP b o = (b, 0, b.binds[posB (bindNames b) o.name].node) := by unfold ofTaskP; rw [if_neg h17', if_neg k4, if_neg k6, if_pos k7, if_pos h57, List.getElem?_eq_getElem hbi]
            obtain ⟨Ax, cx, hvx, _, _, hgb⟩ := (o3.rd (bytes := 32) (by omega)).open_
            injection hvx with e1 _ _
            subst e1
            obtain ⟨q, cs, hA, _, hl, hat, hr⟩ := hgb _ hbi
            subst hA
            unfold RBind at hr
            subst hr
            refine E.W.region ?_
            refine E.WL.val (E.y_move rfl) rfl rfl rfl ?_
            refine E.WL.val (E.y_nilCheck rfl) rfl rfl rfl ?_
            refine E.WL.val (E.y_fld Tryz.underlying66 rfl Tryz.sizeOf27 rfl) rfl rfl rfl ?_
            refine E.WL.val (E.y_fld Tryz.underlying27 rfl Tryz.sizeOf24 rfl) rfl rfl rfl ?_
            refine E.WL.val (E.y_load rfl (E.At.ld1 Tryz.isAgg24 (hb.at0 2 rfl) 2 rfl)) rfl rfl rfl ?_
            refine E.WL.val (E.y_move rfl) rfl rfl rfl ?_
            refine E.WL.val (E.y_idxS Tryz.underlying24 Tryz.sizeOf47 rfl rfl (by omega) (by omega)) rfl rfl rfl ?_
            refine E.WL.val (E.y_fld Tryz.underlying47 rfl Tryz.sizeOf9 rfl) rfl rfl rfl ?_
            refine E.WL.val (E.y_load rfl (E.At.ld1 Tryz.isAgg9 hat 1 rfl)) rfl rfl rfl ?_
            refine E.WL.val (E.y_fld Tryz.underlying41 rfl Tryz.sizeOf9 rfl) rfl rfl rfl ?_
            refine E.WL.store hb 0 1 rfl rfl rfl Tryz.sizeOf9 rfl rfl rfl (E.allOne rfl) rfl ?_
            have hT := hb.hasT 0 rfl
            clear hb; intro w16 hb hO
            replace o1 := ONodes.keeps o1 (Keeps.only hO hT (by decide)) (S := rowS) (by decide) (by decide)
            replace o2 := OTasks.keeps o2 (Keeps.only hO hT (by decide)) (S := rowS) (by decide) (by decide)
            replace o3 := OBinds.keeps o3 (Keeps.only hO hT (by decide)) (S := rowS) (by decide)
            replace hkp := Keeps.stepO hkp hO hB4'
            clear hT
            clear hO
            refine E.WL.done ?_
            refine E.KQ.block_n ?_
            refine E.KQ.then_n ?_
            refine E.W.seq ?_
            refine E.W.region ?_
            refine E.WL.val (E.y_load rfl (E.At.ldk Tryz.isAgg41 Tryz.sizeOf41 (hb.at0 0 rfl) rfl)) rfl rfl rfl ?_
            refine E.WL.storeW hb 0 rfl rfl rfl Tryz.sizeOf41 rfl rfl rfl (E.allOne rfl) rfl ?_
            have hT := hb.hasT 0 rfl
            clear hb; intro w17 hb hO
            replace o1 := ONodes.keeps o1 (Keeps.only hO hT (by decide)) (S := rowS) (by decide) (by decide)
            replace o2 := OTasks.keeps o2 (Keeps.only hO hT (by decide)) (S := rowS) (by decide) (by decide)
            replace o3 := OBinds.keeps o3 (Keeps.only hO hT (by decide)) (S := rowS) (by decide)
            replace hkp := Keeps.stepO hkp hO hB4'
            clear hT
            clear hO
            refine E.WL.done ?_
            refine E.KQ.then_n ?_
            refine E.W.ret ?_
            refine E.KQ.retc Tryz.results22 rfl (E.At.ldk Tryz.isAgg41 Tryz.sizeOf41 (hb.at0 0 rfl) rfl) ?_
            exact ⟨_, rfl, by (rw [hp] <;> rfl), by rw [hp]; exact Kp.mk' hb 2 rfl o1 o2 o3, hb.below, hkp⟩
          · skip
            have hp : ofTaskP b o = (b, 0, noText) := by unfold ofTaskP; rw [if_neg h17', if_neg k4, if_neg k6, if_pos k7, if_neg (by rw [h57]; decide)]
            refine E.W.skip ?_
            refine E.KQ.block_n ?_
            refine E.KQ.then_n ?_
            refine E.W.seq ?_
            refine E.W.region ?_
            refine E.WL.val (E.y_load rfl (E.At.ldk Tryz.isAgg41 Tryz.sizeOf41 (hb.at0 0 rfl) rfl)) rfl rfl rfl ?_
            refine E.WL.storeW hb 0 rfl rfl rfl Tryz.sizeOf41 rfl rfl rfl (E.allOne rfl) rfl ?_
            have hT := hb.hasT 0 rfl
            clear hb; intro w18 hb hO
            replace o1 := ONodes.keeps o1 (Keeps.only hO hT (by decide)) (S := rowS) (by decide) (by decide)
            replace o2 := OTasks.keeps o2 (Keeps.only hO hT (by decide)) (S := rowS) (by decide) (by decide)
            replace o3 := OBinds.keeps o3 (Keeps.only hO hT (by decide)) (S := rowS) (by decide)
            replace hkp := Keeps.stepO hkp hO hB4'
            clear hT
            clear hO
            refine E.WL.done ?_
            refine E.KQ.then_n ?_
            refine E.W.ret ?_
            refine E.KQ.retc Tryz.results22 rfl (E.At.ldk Tryz.isAgg41 Tryz.sizeOf41 (hb.at0 0 rfl) rfl) ?_
            exact ⟨_, rfl, by (rw [hp] <;> rfl), by rw [hp]; exact Kp.mk' hb 2 rfl o1 o2 o3, hb.below, hkp⟩
        · replace k7 := of_decide_eq_false k7
          have hp : ofTaskP b o = (b, 0, noText) := by unfold ofTaskP; rw [if_neg h17', if_neg k4, if_neg k6, if_neg k7]
          refine E.W.skip ?_
          refine E.KQ.block_n ?_
          refine E.KQ.then_n ?_
          refine E.W.seq ?_
          refine E.W.region ?_
          refine E.WL.val (E.y_load rfl (E.At.ldk Tryz.isAgg41 Tryz.sizeOf41 (hb.at0 0 rfl) rfl)) rfl rfl rfl ?_
          refine E.WL.storeW hb 0 rfl rfl rfl Tryz.sizeOf41 rfl rfl rfl (E.allOne rfl) rfl ?_
          have hT := hb.hasT 0 rfl
          clear hb; intro w19 hb hO
          replace o1 := ONodes.keeps o1 (Keeps.only hO hT (by decide)) (S := rowS) (by decide) (by decide)
          replace o2 := OTasks.keeps o2 (Keeps.only hO hT (by decide)) (S := rowS) (by decide) (by decide)
          replace o3 := OBinds.keeps o3 (Keeps.only hO hT (by decide)) (S := rowS) (by decide)
          replace hkp := Keeps.stepO hkp hO hB4'
          clear hT
          clear hO
          refine E.WL.done ?_
          refine E.KQ.then_n ?_
          refine E.W.ret ?_
          refine E.KQ.retc Tryz.results22 rfl (E.At.ldk Tryz.isAgg41 Tryz.sizeOf41 (hb.at0 0 rfl) rfl) ?_
          exact ⟨_, rfl, by (rw [hp] <;> rfl), by rw [hp]; exact Kp.mk' hb 2 rfl o1 o2 o3, hb.below, hkp⟩
end Go.Proofs.YtmnnbnajnfdncaaGreatDoor
