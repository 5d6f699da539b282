/- Walks: queue, fourth part: how full the nodes are; where a task can be. -/
import Derived.Test.YtmnnbnajnfdncaaGreatDoorD12
import Derived.Test.YtmnnbnajnfdncaaGreatDoorQueue1
import Derived.Test.YtmnnbnajnfdncaaGreatDoorBook6
set_option linter.unusedVariables false
set_option linter.unusedSimpArgs false
namespace Go.Proofs.YtmnnbnajnfdncaaGreatDoor
open Go.RowKit E
theorem RNode.load {F : FP} {w : World} {x : NodeD} {vl vt : Value} {a b c : Int} (h : RNode F w [.string x.name, .int .i64 x.h0, .int .i64 x.h1, .int .i64 x.h2, vl, vt] x) : RLoad F w [.string x.name, .int .i64 x.h0, .int .i64 x.h1, .int .i64 x.h2, vl, vt, .int .i64 a, .int .i64 b, .int .i64 c] x := by
  obtain ⟨vl2, vt2, e, p1, p2⟩ := h
  simp only [List.cons.injEq, and_true, true_and] at e
  obtain ⟨rfl, rfl⟩ := e
  exact ⟨_, _, _, _, _, rfl, p1, p2⟩
def freeAt (b : BookD) (task : ByteArray) (n : NodeD) : Bool := decide (canFull b task n.name = 0)
def freeQ (b : BookD) (task : ByteArray) : List ByteArray × Int :=
  if checkB b = false then ([], 10) else if idxBy (fun t => decide (t.name = task)) b.tasks < 0 then ([], 6) else if (b.binds.any fun x => decide (x.task = task)) = true then ([], 7)
  else ((b.nodes.filter (freeAt b task)).map NodeD.name, 0)
theorem freeQ_ok {b : BookD} {task : ByteArray} (h1 : checkB b = true) (h2 : ¬ idxBy (fun t => decide (t.name = task)) b.tasks < 0) (h3 : (b.binds.any fun x => decide (x.task = task)) = false) : freeQ b task = ((b.nodes.filter (freeAt b task)).map NodeD.name, 0) := by
  unfold freeQ; rw [if_neg (by rw [h1]; decide), if_neg h2, if_neg (by rw [h3]; decide)]
set_option maxHeartbeats 4000000 in
theorem loads_calls {F : FP} {w : World} {cs : List Value} {b : BookD} (h : RBook F w cs b) :
    Calls Tryz.prog 11 #[(.agg cs.toArray)] w (Ret fun u w' => (∃ v xs news, u = .tuple #[v, .int .i64 (if checkB b = true then 0 else 10)] ∧ OLoads w.heap.size w' v xs news ∧ (checkB b = true → xs = b.nodes)) ∧ Ext w w') := by
  obtain ⟨vn, vt, vb, rfl, hn, ht, hbi⟩ := id h
  obtain ⟨Ab, cb, rfl, hcb, hbyb, hgb⟩ := hbi.open_
  obtain ⟨At', ct, rfl, hct, hbyt, hgt⟩ := ht.open_
  obtain ⟨An, cn, rfl, hcn, hbyn, hgn⟩ := hn.open_
  have hb := E.Bx.start w (base := w.heap.size) (Nat.le_refl _)
  refine E.enter Tryz.func11 rfl Tryz.ntmps11 [(.agg #[.slice An b.nodes.length cn, .slice At' b.tasks.length ct, .slice Ab b.binds.length cb, .int .u64 b.fence])] rfl ?_
  refine E.W.seq ?_
  refine E.W.region ?_
  refine E.WL.box hb rfl rfl rfl rfl ?_
  clear hb; intro B1 w2 hb _ _
  refine E.WL.val (E.y_assign rfl) rfl rfl rfl ?_
  refine E.WL.val (E.y_assign rfl) rfl rfl rfl ?_
  refine E.WL.done ?_
  refine E.KQ.then_n ?_
  refine E.W.seq ?_
  refine E.W.seq ?_
  refine E.W.region ?_
  refine E.WL.val (E.y_load rfl (E.At.ldk Tryz.isAgg27 Tryz.sizeOf27 (hb.at0 0 rfl) rfl)) rfl rfl rfl ?_
  refine E.WL.call (check_calls (RBook.goes.stays h (Stays.ext hb.below))) Tryz.call15 rfl rfl rfl ?_
  rintro _ w3 ⟨rfl, hX⟩
  replace hb := hb.ext hX
  clear hX
  refine E.WL.val (E.y_assign rfl) rfl rfl rfl ?_
  refine E.WL.done ?_
  refine E.KQ.then_n ?_
  refine E.W.seq ?_
  refine E.W.region ?_
  refine E.WL.val (E.y_move rfl) rfl rfl rfl ?_
  refine E.WL.val (E.y_neq rfl rfl) rfl rfl rfl ?_
  refine E.WL.done ?_
  refine E.KQ.then_n ?_
  refine E.W.condT 13 rfl (fun h1 => ?_) (fun h1 => ?_)
  · replace h1 : checkB b = false := by cases hc : checkB b with | true => rw [hc] at h1; simp at h1 | false => rfl
    refine E.W.seq ?_
    refine E.W.region ?_
    refine E.WL.val (E.y_move rfl) rfl rfl rfl ?_
    refine E.WL.val (E.y_assign rfl) rfl rfl rfl ?_
    refine E.WL.val (E.y_assign rfl) rfl rfl rfl ?_
    refine E.WL.done ?_
    refine E.KQ.then_n ?_
    refine E.W.ret ?_
    refine E.KQ.then_r ?_
    refine E.KQ.ret2 Tryz.results11 rfl rfl ?_
    exact ⟨_, rfl, ⟨_, [], [], rfl, ⟨World.ownsRow_nil _ _ _ _, Rows.nil⟩, fun h => by rw [h1] at h; cases h⟩, hb.below⟩
  · replace h1 : checkB b = true := by cases hc : checkB b with | true => rfl | false => rw [hc] at h1; simp at h1
    have hbl := check_le h1
    refine E.W.skip ?_
    refine E.KQ.then_n ?_
    refine E.W.seq ?_
    refine E.W.region ?_
    refine E.WL.val (E.y_assign rfl) rfl rfl rfl ?_
    refine E.WL.done ?_
    refine E.KQ.then_n ?_
    refine E.W.seq ?_
    refine E.W.seq ?_
    refine E.W.region ?_
    refine E.WL.val (E.y_load rfl (E.At.ldk Tryz.isAgg27 Tryz.sizeOf27 (hb.at0 0 rfl) rfl)) rfl rfl rfl ?_
    refine E.WL.call (own_calls (RBook.goes.stays h (Stays.ext hb.below))) Tryz.call16 rfl rfl rfl ?_
    rintro _ w4 ⟨⟨csk, rfl, obk⟩, hX⟩
    have hle := hb.le
    replace hb := hb.ext hX
    replace obk := obk.le hle
    obtain ⟨vn, vt, vb, nn, nt, nb, rfl, o1, o2, o3⟩ := obk.out
    obtain ⟨A1, c1, rfl, hA1⟩ := ownsRow_open o1.row
    clear obk hX o2 o3 hle
    refine E.WL.val (y_field Tryz.underlying27 rfl Tryz.isAgg22 rfl rfl) rfl rfl rfl ?_
    refine E.WL.val (E.y_lenS Tryz.underlying22 rfl) rfl rfl rfl ?_
    refine E.WL.val (E.y_move rfl) rfl rfl rfl ?_
    refine E.WL.done ?_
    refine E.KQ.then_n ?_
    refine E.W.block ?_
    refine E.W.loop (ι := Nat × Value × List Value) (fun κ => [(1, .pointer (some ⟨B1, 0, none⟩)), (5, κ.2.1), (17, .slice A1 b.nodes.length c1), (18, .int .i64 b.nodes.length), (19, .int .i64 (κ.1 : Nat))]) (fun κ w' => Bx w.heap.size w w' [(B1, [.slice An b.nodes.length cn, .slice At' b.tasks.length ct, .slice Ab b.binds.length cb, .int .u64 b.fence], 27)] ∧ κ.1 ≤ b.nodes.length ∧ ONodes w.heap.size w' (.slice A1 b.nodes.length c1) b.nodes nn ∧ OLoads w.heap.size w' κ.2.1 (b.nodes.take κ.1) κ.2.2) (fun κ => b.nodes.length - κ.1) ((0, .slice none 0 0, [])) (by exact (.cons rfl (.cons rfl (.cons rfl (.cons rfl (.cons rfl .nil)))))) ⟨hb, Nat.zero_le _, o1, ⟨World.ownsRow_nil _ _ _ _, Rows.nil⟩⟩ (fun κ w5 hJ => ?_)
    clear hb o1
    obtain ⟨k, v, news⟩ := κ
    obtain ⟨hb, hk, o1, ol⟩ := hJ
    simp only at hb hk ol
    refine E.W.seq ?_
    refine E.W.region ?_
    refine E.WL.val (E.y_lss rfl rfl) rfl rfl rfl ?_
    refine E.WL.done ?_
    refine E.KQ.then_n ?_
    refine E.W.seq ?_
    refine E.W.condT 20 rfl (fun hc20 => ?_) (fun hc20 => ?_)
    · replace hc20 := of_decide_eq_true hc20
      refine E.W.skip ?_
      refine E.KQ.then_n ?_
      refine E.W.seq ?_
      refine E.W.block ?_
      refine E.W.seq ?_
      refine E.W.region ?_
      have hkl : k < b.nodes.length := by omega
      obtain ⟨q, rfl⟩ := hA1 (by omega)
      have hat := At.cut_ (ownsRow_at o1.row) 6 k
      have hr2 := o1.rows.each k _ (List.getElem?_eq_getElem hkl)
      have hone := hr2.one
      obtain ⟨vl, vt', e9, _, _⟩ := id hr2
      rw [e9] at hat hr2 hone
      refine E.WL.val (E.y_idxS Tryz.underlying22 Tryz.sizeOf32 rfl rfl (by omega) (by omega)) rfl rfl rfl ?_
      refine E.WL.val (E.y_load rfl (E.At.ldk Tryz.isAgg32 Tryz.sizeOf32 hat rfl)) rfl rfl rfl ?_
      have hlt := o1.row.lt
      refine E.WL.alloc hb Tryz.zeroValue32 rfl rfl rfl ?_
      clear hb; intro B7 w7 hb hX hB7
      replace o1 := ONodes.keeps o1 (Keeps.ext hX) (S := fun U => U = 32 ∨ U = 45) (by decide) (by decide)
      replace ol := OLoads.keeps ol (Keeps.ext hX) (S := fun U => U = 56 ∨ U = 45) (by decide) (by decide)
      replace hr2 := RNode.keeps hr2 (Keeps.ext hX) (S := fun U => U = 45) rfl
      clear hX
      have hne : (Value.slice (some ⟨q, 0, none⟩) b.nodes.length c1).ownBlock ≠ some B7 := fun e => by have := (hlt _ e).2; omega
      refine E.WL.storeW hb 0 rfl rfl rfl Tryz.sizeOf32 rfl rfl rfl (hone) rfl ?_
      have hT := hb.hasT 0 rfl
      clear hb; intro w8 hb hO
      replace o1 := ONodes.only o1 hO hT hne
      replace ol := OLoads.keeps ol (Keeps.only hO hT (by decide)) (S := fun U => U = 56 ∨ U = 45) (by decide) (by decide)
      replace hr2 := RNode.keeps hr2 (Keeps.only hO hT (by decide)) (S := fun U => U = 45) rfl
      clear hT
      clear hO
      refine E.WL.done ?_
      refine E.KQ.then_n ?_
      refine E.W.seq ?_
      refine E.W.region ?_
      refine E.WL.val (E.y_load rfl (E.At.ldk Tryz.isAgg27 Tryz.sizeOf27 (hb.at0 1 rfl) rfl)) rfl rfl rfl ?_
      refine E.WL.val (E.y_fld Tryz.underlying32 rfl Tryz.sizeOf9 rfl) rfl rfl rfl ?_
      refine E.WL.val (E.y_load rfl (E.At.ld1 Tryz.isAgg9 (hb.at0 0 rfl) 0 rfl)) rfl rfl rfl ?_
      refine E.WL.call (used_calls (RBook.goes.stays h (Stays.ext hb.below)) b.nodes[k].name) Tryz.call30 rfl rfl rfl ?_
      rintro _ w9 ⟨rfl, hX⟩
      replace hb := hb.ext hX
      replace o1 := ONodes.keeps o1 (Keeps.ext hX) (S := fun U => U = 32 ∨ U = 45) (by decide) (by decide)
      replace ol := OLoads.keeps ol (Keeps.ext hX) (S := fun U => U = 56 ∨ U = 45) (by decide) (by decide)
      replace hr2 := RNode.keeps hr2 (Keeps.ext hX) (S := fun U => U = 45) rfl
      clear hX
      refine E.WL.val (E.y_move rfl) rfl rfl rfl ?_
      refine E.WL.val (E.y_extract rfl rfl) rfl rfl rfl ?_
      refine E.WL.val (E.y_extract rfl rfl) rfl rfl rfl ?_
      refine E.WL.alloc (cs := three Sum3.zero) hb Tryz.zeroValue29 rfl rfl rfl ?_
      clear hb; intro B10 w11 hb hX _
      replace o1 := ONodes.keeps o1 (Keeps.ext hX) (S := fun U => U = 32 ∨ U = 45) (by decide) (by decide)
      replace ol := OLoads.keeps ol (Keeps.ext hX) (S := fun U => U = 56 ∨ U = 45) (by decide) (by decide)
      replace hr2 := RNode.keeps hr2 (Keeps.ext hX) (S := fun U => U = 45) rfl
      clear hX
      refine E.WL.storeW hb 0 rfl rfl rfl Tryz.sizeOf29 rfl rfl rfl (E.allOne rfl) rfl ?_
      have hT := hb.hasT 0 rfl
      clear hb; intro w12 hb hO
      replace o1 := ONodes.keeps o1 (Keeps.only hO hT (by decide)) (S := fun U => U = 32 ∨ U = 45) (by decide) (by decide)
      replace ol := OLoads.keeps ol (Keeps.only hO hT (by decide)) (S := fun U => U = 56 ∨ U = 45) (by decide) (by decide)
      replace hr2 := RNode.keeps hr2 (Keeps.only hO hT (by decide)) (S := fun U => U = 45) rfl
      clear hT
      clear hO
      refine E.WL.val (E.y_assign rfl) rfl rfl rfl ?_
      refine E.WL.done ?_
      refine E.KQ.then_n ?_
      refine E.W.region ?_
      refine E.WL.val (E.y_move rfl) rfl rfl rfl ?_
      refine E.WL.val (E.y_load rfl (E.At.ldk Tryz.isAgg32 Tryz.sizeOf32 (hb.at0 1 rfl) rfl)) rfl rfl rfl ?_
      refine E.WL.val (E.y_load rfl (E.At.ldk Tryz.isAgg29 Tryz.sizeOf29 (hb.at0 0 rfl) rfl)) rfl rfl rfl ?_
      refine E.WL.val (E.y_build (v := .agg #[.string b.nodes[k].name, .int .i64 b.nodes[k].h0, .int .i64 b.nodes[k].h1, .int .i64 b.nodes[k].h2, vl, vt', .int .i64 (usedP b b.nodes[k].name).1.a, .int .i64 (usedP b b.nodes[k].name).1.b, .int .i64 (usedP b b.nodes[k].name).1.c]) rfl (by kernel_rfl)) rfl rfl rfl ?_
      refine E.WL.mkslice (T := 56) (cs := [.string b.nodes[k].name, .int .i64 b.nodes[k].h0, .int .i64 b.nodes[k].h1, .int .i64 b.nodes[k].h2, vl, vt', .int .i64 (usedP b b.nodes[k].name).1.a, .int .i64 (usedP b b.nodes[k].name).1.b, .int .i64 (usedP b b.nodes[k].name).1.c]) hb rfl (fun _ => by kernel_rfl) rfl rfl ?_
      clear hb; intro B13 w14 hb hX _
      replace o1 := ONodes.keeps o1 (Keeps.ext hX) (S := fun U => U = 32 ∨ U = 45) (by decide) (by decide)
      replace ol := OLoads.keeps ol (Keeps.ext hX) (S := fun U => U = 56 ∨ U = 45) (by decide) (by decide)
      replace hr2 := RNode.keeps hr2 (Keeps.ext hX) (S := fun U => U = 45) rfl
      clear hX
      have hle := hb.le
      have hr9 : RLoad (Own w.heap.size _) _ [.string b.nodes[k].name, .int .i64 b.nodes[k].h0, .int .i64 b.nodes[k].h1, .int .i64 b.nodes[k].h2, vl, vt', .int .i64 (usedP b b.nodes[k].name).1.a, .int .i64 (usedP b b.nodes[k].name).1.b, .int .i64 (usedP b b.nodes[k].name).1.c] b.nodes[k] := RNode.load hr2
      refine E.WL.append Tryz.underlying52 (i := Tryz.t56) (size := 9) (bytes := 112) (by kernel_rfl) rfl rfl rfl rfl (by decide) rfl rfl ol.row (hb.at0 0 rfl) rfl hr9.one (by rw [List.length_take, Nat.min_eq_left hk]; omega) (by decide) hb.le rfl rfl (fun v' w6 own6 hg6 _ => ?_)
      have hB6 : Below w.heap.size _ w6 := grown_below (Below.refl _ _) hg6 hle (fun k hk => (ol.row.lt k hk).1)
      have hK6 := Keeps.grown hg6 (ownsRow_hasT ol.row) (S := fun U => U ≠ 56) (by decide)
      replace hb := (hb.drop (List.Sublist.cons _ (List.Sublist.cons _ (List.Sublist.cons _ (List.Sublist.refl _))))).keeps hK6 hB6 (by intro p hp; simp only [List.mem_cons, List.not_mem_nil, or_false] at hp; subst hp; simp)
      replace hr9 := RLoad.keeps hr9 hK6 (by decide)
      replace o1 := ONodes.keeps o1 hK6 (by decide) (by decide)
      have ol' : OLoads w.heap.size w6 v' (b.nodes.take (k + 1)) _ := ⟨by rw [show (b.nodes.take (k + 1)).length = (b.nodes.take k).length + 1 from by rw [List.length_take, List.length_take, Nat.min_eq_left hk, Nat.min_eq_left (by omega)]]; exact own6, by rw [List.take_add_one, List.getElem?_eq_getElem hkl]; exact (ol.rows.to fun cs x hx => RLoad.keeps hx hK6 (by decide)).app (Rows.one hr9 rfl)⟩
      clear ol own6 hg6 hB6 hK6 hle
      refine E.WL.val (E.y_assign rfl) rfl rfl rfl ?_
      refine E.WL.done ?_
      refine E.KQ.block_n ?_
      refine E.KQ.then_n ?_
      refine E.W.region ?_
      refine E.WL.val (E.y_add rfl rfl (Go.IntWalk.i64_in _ (by omega))) rfl rfl rfl ?_
      refine E.WL.val (E.y_move rfl) rfl rfl rfl ?_
      refine E.WL.done ?_
      exact E.KQ.next (ι := Nat × Value × List Value) (k + 1, _, _) (by exact .cons rfl (.cons rfl (.cons rfl (.cons rfl (.cons rfl (.nil)))))) ⟨hb, by omega, o1, ol'⟩ (by show b.nodes.length - (k + 1) < b.nodes.length - k; omega)
    · replace hc20 := of_decide_eq_false hc20
      have hke : b.nodes.take k = b.nodes := List.take_of_length_le (by omega)
      rw [hke] at ol
      refine E.W.exit ?_
      refine E.KQ.then_e ?_
      refine E.KQ.loop_e ?_
      refine E.KQ.block_e ?_
      refine E.KQ.then_n ?_
      refine E.W.seq ?_
      refine E.W.region ?_
      refine E.WL.val (E.y_move rfl) rfl rfl rfl ?_
      refine E.WL.val (E.y_assign rfl) rfl rfl rfl ?_
      refine E.WL.val (E.y_assign rfl) rfl rfl rfl ?_
      refine E.WL.done ?_
      refine E.KQ.then_n ?_
      refine E.W.ret ?_
      refine E.KQ.ret2 Tryz.results11 rfl rfl ?_
      exact ⟨_, rfl, ⟨_, _, _, by rw [if_pos h1], ol, fun _ => rfl⟩, hb.below⟩

set_option maxHeartbeats 4000000 in
theorem free_q_calls {F : FP} {w : World} {cs : List Value} {b : BookD} (h : RBook F w cs b) (task : ByteArray) :
    Calls Tryz.prog 25 #[(.agg cs.toArray), (.string task)] w (Ret fun u w' => (∃ v, u = .tuple #[v, .int .i64 (freeQ b task).2] ∧ RStrs Any w' v (freeQ b task).1) ∧ Ext w w') := by
  obtain ⟨vn, vt, vb, rfl, hn, ht, hbi⟩ := id h
  obtain ⟨Ab, cb, rfl, hcb, hbyb, hgb⟩ := hbi.open_
  obtain ⟨At', ct, rfl, hct, hbyt, hgt⟩ := ht.open_
  obtain ⟨An, cn, rfl, hcn, hbyn, hgn⟩ := hn.open_
  have hb := E.Bx.start w (base := w.heap.size) (Nat.le_refl _)
  refine E.enter Tryz.func25 rfl Tryz.ntmps25 [(.agg #[.slice An b.nodes.length cn, .slice At' b.tasks.length ct, .slice Ab b.binds.length cb, .int .u64 b.fence]), (.string task)] rfl ?_
  refine E.W.seq ?_
  refine E.W.region ?_
  refine E.WL.box hb rfl rfl rfl rfl ?_
  clear hb; intro B2 w2 hb _ hB2
  have hlt2 := hb.lt (List.mem_of_getElem? (i := 0) rfl)
  simp only at hlt2
  refine E.WL.box hb rfl rfl rfl rfl ?_
  clear hb; intro B3 w4 hb _ hB3
  refine E.WL.val (E.y_assign rfl) rfl rfl rfl ?_
  refine E.WL.val (E.y_assign rfl) rfl rfl rfl ?_
  refine E.WL.done ?_
  refine E.KQ.then_n ?_
  refine E.W.seq ?_
  refine E.W.seq ?_
  refine E.W.region ?_
  refine E.WL.val (E.y_load rfl (E.At.ldk Tryz.isAgg27 Tryz.sizeOf27 (hb.at0 1 rfl) rfl)) rfl rfl rfl ?_
  refine E.WL.call (check_calls (RBook.goes.stays h (Stays.ext hb.below))) Tryz.call15 rfl rfl rfl ?_
  rintro _ w5 ⟨rfl, hX⟩
  replace hb := hb.ext hX
  clear hX
  refine E.WL.val (E.y_assign rfl) rfl rfl rfl ?_
  refine E.WL.done ?_
  refine E.KQ.then_n ?_
  refine E.W.seq ?_
  refine E.W.region ?_
  refine E.WL.val (E.y_move rfl) rfl rfl rfl ?_
  refine E.WL.val (E.y_neq rfl rfl) rfl rfl rfl ?_
  refine E.WL.done ?_
  refine E.KQ.then_n ?_
  refine E.W.condT 14 rfl (fun h1 => ?_) (fun h1 => ?_)
  · replace h1 : checkB b = false := by cases hc : checkB b with | true => rw [hc] at h1; simp at h1 | false => rfl
    have hq : freeQ b task = ([], 10) := by unfold freeQ; rw [if_pos h1]
    refine E.W.seq ?_
    refine E.W.region ?_
    refine E.WL.val (E.y_move rfl) rfl rfl rfl ?_
    refine E.WL.val (E.y_assign rfl) rfl rfl rfl ?_
    refine E.WL.val (E.y_assign rfl) rfl rfl rfl ?_
    refine E.WL.done ?_
    refine E.KQ.then_n ?_
    refine E.W.ret ?_
    refine E.KQ.then_r ?_
    refine E.KQ.ret2 Tryz.results25 rfl rfl ?_
    exact ⟨_, rfl, ⟨_, by rw [hq, h1]; rfl, by rw [hq]; exact RdS.nil_⟩, hb.below⟩
  · replace h1 : checkB b = true := by cases hc : checkB b with | true => rfl | false => rw [hc] at h1; simp at h1
    have hbl := check_le h1
    refine E.W.skip ?_
    refine E.KQ.then_n ?_
    refine E.W.seq ?_
    refine E.W.region ?_
    refine E.WL.val (E.y_fld Tryz.underlying27 rfl Tryz.sizeOf23 rfl) rfl rfl rfl ?_
    refine E.WL.val (E.y_load rfl (E.At.ld1 Tryz.isAgg23 (hb.at0 1 rfl) 1 rfl)) rfl rfl rfl ?_
    refine E.WL.val (E.y_mkfn rfl rfl) rfl rfl rfl ?_
    refine E.WL.call (indexFuncTask_calls (ht.ext RTask.goes hb.below) (fun t => decide (t.name = task)) 66 [.pointer (some ⟨B3, 0, none⟩)] Tryz.call66 (fun w' hw i hi cs hr => freeTask_calls ((hb.at0 0 rfl).ext hw) hr)) Tryz.call65 rfl rfl rfl ?_
    rintro _ w6 ⟨rfl, hX⟩
    replace hb := hb.ext hX
    clear hX
    refine E.WL.val (E.y_assign rfl) rfl rfl rfl ?_
    refine E.WL.done ?_
    refine E.KQ.then_n ?_
    refine E.W.seq ?_
    refine E.W.block ?_
    refine E.W.seq ?_
    refine E.W.region ?_
    refine E.WL.val (E.y_move rfl) rfl rfl rfl ?_
    refine E.WL.val (E.y_lss rfl rfl) rfl rfl rfl ?_
    refine E.WL.val (E.y_assign rfl) rfl rfl rfl ?_
    refine E.WL.done ?_
    refine E.KQ.then_n ?_
    refine E.W.condT 20 rfl (fun h2 => ?_) (fun h2 => ?_)
    · replace h2 := of_decide_eq_true h2
      have hq : freeQ b task = ([], 6) := by unfold freeQ; rw [if_neg (by rw [h1]; decide), if_pos h2]
      refine E.W.seq ?_
      refine E.W.region ?_
      refine E.WL.val (E.y_assign rfl) rfl rfl rfl ?_
      refine E.WL.val (E.y_assign rfl) rfl rfl rfl ?_
      refine E.WL.done ?_
      refine E.KQ.then_n ?_
      refine E.W.ret ?_
      refine E.KQ.block_r ?_
      refine E.KQ.then_r ?_
      refine E.KQ.ret2 Tryz.results25 rfl rfl ?_
      exact ⟨_, rfl, ⟨_, by rw [hq], by rw [hq]; exact RdS.nil_⟩, hb.below⟩
    · replace h2 := of_decide_eq_false h2
      refine E.W.seq ?_
      refine E.W.region ?_
      refine E.WL.val (E.y_fld Tryz.underlying27 rfl Tryz.sizeOf24 rfl) rfl rfl rfl ?_
      refine E.WL.val (E.y_load rfl (E.At.ld1 Tryz.isAgg24 (hb.at0 1 rfl) 2 rfl)) rfl rfl rfl ?_
      refine E.WL.val (E.y_mkfn rfl rfl) rfl rfl rfl ?_
      refine E.WL.call (containsFuncBind_calls (hbi.ext RBind.goes hb.below) (fun x => decide (x.task = task)) 67 [.pointer (some ⟨B3, 0, none⟩)] Tryz.call67 (fun w' hw i hi cs hr => freeBind_calls ((hb.at0 0 rfl).ext hw) hr)) Tryz.call26 rfl rfl rfl ?_
      rintro _ w7 ⟨rfl, hX⟩
      replace hb := hb.ext hX
      clear hX
      refine E.WL.val (E.y_assign rfl) rfl rfl rfl ?_
      refine E.WL.done ?_
      refine E.KQ.then_n ?_
      refine E.W.condT 23 rfl (fun h3 => ?_) (fun h3 => ?_)
      · skip
        have hq : freeQ b task = ([], 7) := by unfold freeQ; rw [if_neg (by rw [h1]; decide), if_neg h2, if_pos h3]
        refine E.W.seq ?_
        refine E.W.region ?_
        refine E.WL.val (E.y_assign rfl) rfl rfl rfl ?_
        refine E.WL.val (E.y_assign rfl) rfl rfl rfl ?_
        refine E.WL.done ?_
        refine E.KQ.then_n ?_
        refine E.W.ret ?_
        refine E.KQ.block_r ?_
        refine E.KQ.then_r ?_
        refine E.KQ.ret2 Tryz.results25 rfl rfl ?_
        exact ⟨_, rfl, ⟨_, by rw [hq], by rw [hq]; exact RdS.nil_⟩, hb.below⟩
      · skip
        have hq := freeQ_ok h1 h2 h3
        refine E.W.skip ?_
        refine E.KQ.block_n ?_
        refine E.KQ.then_n ?_
        refine E.W.seq ?_
        refine E.W.region ?_
        refine E.WL.val (E.y_assign rfl) rfl rfl rfl ?_
        refine E.WL.done ?_
        refine E.KQ.then_n ?_
        refine E.W.seq ?_
        refine E.W.seq ?_
        refine E.W.region ?_
        refine E.WL.val (E.y_fld Tryz.underlying27 rfl Tryz.sizeOf22 rfl) rfl rfl rfl ?_
        refine E.WL.val (E.y_load rfl (E.At.ld1 Tryz.isAgg22 (hb.at0 1 rfl) 0 rfl)) rfl rfl rfl ?_
        refine E.WL.val (E.y_lenS Tryz.underlying22 rfl) rfl rfl rfl ?_
        refine E.WL.val (E.y_move rfl) rfl rfl rfl ?_
        refine E.WL.done ?_
        refine E.KQ.then_n ?_
        refine E.W.block ?_
        refine E.W.loop (ι := Nat × Value × List Value) (fun κ => [(2, .pointer (some ⟨B2, 0, none⟩)), (3, .pointer (some ⟨B3, 0, none⟩)), (8, κ.2.1), (29, .slice An b.nodes.length cn), (30, .int .i64 b.nodes.length), (31, .int .i64 (κ.1 : Nat))]) (fun κ w' => Bx w.heap.size w w' [(B3, [.string task], 9), (B2, [.slice An b.nodes.length cn, .slice At' b.tasks.length ct, .slice Ab b.binds.length cb, .int .u64 b.fence], 27)] ∧ κ.1 ≤ b.nodes.length ∧ OwnS RStr (B3 + 1) w' 9 1 κ.2.1 (((b.nodes.take κ.1).filter (freeAt b task)).map NodeD.name) κ.2.2) (fun κ => b.nodes.length - κ.1) ((0, .slice none 0 0, [])) (by exact (.cons rfl (.cons rfl (.cons rfl (.cons rfl (.cons rfl (.cons rfl .nil))))))) ⟨hb, Nat.zero_le _, ⟨World.ownsRow_nil _ _ _ _, Rows.nil⟩⟩ (fun κ w8 hJ => ?_)
        clear hb
        obtain ⟨k, v, news⟩ := κ
        obtain ⟨hb, hk, ol⟩ := hJ
        simp only at hb hk ol
        refine E.W.seq ?_
        refine E.W.region ?_
        refine E.WL.val (E.y_lss rfl rfl) rfl rfl rfl ?_
        refine E.WL.done ?_
        refine E.KQ.then_n ?_
        refine E.W.seq ?_
        refine E.W.condT 32 rfl (fun hc32 => ?_) (fun hc32 => ?_)
        · replace hc32 := of_decide_eq_true hc32
          refine E.W.skip ?_
          refine E.KQ.then_n ?_
          refine E.W.seq ?_
          refine E.W.block ?_
          refine E.W.seq ?_
          refine E.W.region ?_
          have hkl : k < b.nodes.length := by omega
          obtain ⟨q, cs', hA, _, hl, hat, hr⟩ := hgn k hkl
          subst hA
          have hone := hr.one
          obtain ⟨vl, vt', rfl, _, _⟩ := hr
          replace hat := hat.ext hb.below
          refine E.WL.val (E.y_idxS Tryz.underlying22 Tryz.sizeOf32 rfl rfl (by omega) (by omega)) rfl rfl rfl ?_
          refine E.WL.val (E.y_load rfl (E.At.ldk Tryz.isAgg32 Tryz.sizeOf32 hat rfl)) rfl rfl rfl ?_
          refine E.WL.alloc hb Tryz.zeroValue32 rfl rfl rfl ?_
          clear hb; intro B9 w10 hb hX _
          replace ol := OwnS.keeps ol (Keeps.ext hX) (S := fun U => U = 9) rfl (fun _ _ h => h)
          clear hX
          refine E.WL.storeW hb 0 rfl rfl rfl Tryz.sizeOf32 rfl rfl rfl (hone) rfl ?_
          have hT := hb.hasT 0 rfl
          clear hb; intro w11 hb hO
          replace ol := OwnS.keeps ol (Keeps.only hO hT (by decide)) (S := fun U => U = 9) rfl (fun _ _ h => h)
          clear hT
          clear hO
          refine E.WL.done ?_
          refine E.KQ.then_n ?_
          refine E.W.seq ?_
          refine E.W.region ?_
          refine E.WL.val (E.y_load rfl (E.At.ldk Tryz.isAgg27 Tryz.sizeOf27 (hb.at0 2 rfl) rfl)) rfl rfl rfl ?_
          refine E.WL.val (E.y_load rfl (E.At.ld0 Tryz.isAgg9 (hb.at0 1 rfl) rfl)) rfl rfl rfl ?_
          refine E.WL.val (E.y_fld Tryz.underlying32 rfl Tryz.sizeOf9 rfl) rfl rfl rfl ?_
          refine E.WL.val (E.y_load rfl (E.At.ld1 Tryz.isAgg9 (hb.at0 0 rfl) 0 rfl)) rfl rfl rfl ?_
          refine E.WL.call (canFull_calls (RBook.goes.stays h (Stays.ext hb.below)) task b.nodes[k].name) Tryz.call68 rfl rfl rfl ?_
          rintro _ w12 ⟨rfl, hX⟩
          replace hb := hb.ext hX
          replace ol := OwnS.keeps ol (Keeps.ext hX) (S := fun U => U = 9) rfl (fun _ _ h => h)
          clear hX
          refine E.WL.val (E.y_eql rfl rfl) rfl rfl rfl ?_
          refine E.WL.done ?_
          refine E.KQ.then_n ?_
          refine E.W.condT 40 rfl (fun hc40 => ?_) (fun hc40 => ?_)
          · replace hc40 := of_decide_eq_true hc40
            refine E.W.region ?_
            refine E.WL.val (E.y_move rfl) rfl rfl rfl ?_
            refine E.WL.val (E.y_fld Tryz.underlying32 rfl Tryz.sizeOf9 rfl) rfl rfl rfl ?_
            refine E.WL.val (E.y_load rfl (E.At.ld1 Tryz.isAgg9 (hb.at0 0 rfl) 0 rfl)) rfl rfl rfl ?_
            refine E.WL.mkslice (T := 9) (cs := [.string b.nodes[k].name]) hb rfl (fun _ => by kernel_rfl) rfl rfl ?_
            clear hb; intro B13 w14 hb hX _
            replace ol := OwnS.keeps ol (Keeps.ext hX) (S := fun U => U = 9) rfl (fun _ _ h => h)
            clear hX
            have hle := hb.le
            have hbB := (hb.cell _ (List.mem_of_getElem? (i := 2) rfl)).1
            have hltB := hb.lt (List.mem_of_getElem? (i := 2) rfl)
            simp only at hbB hltB
            refine E.WL.append Tryz.underlying74 (i := Tryz.t9) (size := 1) (bytes := 16) (by kernel_rfl) rfl rfl rfl rfl (by decide) rfl rfl ol.row (hb.at0 0 rfl) rfl (E.allOne rfl) (by have h8 := filter_take_le (p := freeAt b task) (l := b.nodes) (k := k); rw [List.length_map]; omega) (by decide) hltB rfl rfl (fun v' w6 own6 hg6 _ => ?_)
            have hB6 : Below w.heap.size _ w6 := grown_below (Below.refl _ _) hg6 hle (fun k hk => by have := (ol.row.lt k hk).1; omega)
            replace hb := Bx.grownBy (hb.drop (List.Sublist.cons _ (List.Sublist.cons _ (List.Sublist.refl _)))) hB6 hg6 (by intro p hp e; have h9 := (ol.row.lt _ e).1; simp only [List.mem_cons, List.not_mem_nil, or_false] at hp; rcases hp with rfl | rfl <;> simp only at h9 <;> omega)
            have ol' : OwnS RStr (B3 + 1) w6 9 1 v' (((b.nodes.take (k + 1)).filter (freeAt b task)).map NodeD.name) (news ++ [.string b.nodes[k].name]) := by rw [filter_take hkl, if_pos (show freeAt b task b.nodes[k] = true from by unfold freeAt; rw [hc40]; rfl), List.map_append]; exact ⟨by rw [List.length_append]; exact own6, (Rows.to (G := Own (B3 + 1) w6) (w' := w6) ol.rows fun cs x hx => hx).app (Rows.one (x := b.nodes[k].name) (show RStr _ _ [.string b.nodes[k].name] b.nodes[k].name from rfl) rfl)⟩
            clear ol own6 hg6 hB6 hle
            refine E.WL.val (E.y_assign rfl) rfl rfl rfl ?_
            refine E.WL.done ?_
            refine E.KQ.block_n ?_
            refine E.KQ.then_n ?_
            refine E.W.region ?_
            refine E.WL.val (E.y_add rfl rfl (Go.IntWalk.i64_in _ (by omega))) rfl rfl rfl ?_
            refine E.WL.val (E.y_move rfl) rfl rfl rfl ?_
            refine E.WL.done ?_
            exact E.KQ.next (ι := Nat × Value × List Value) (k + 1, _, _) (by exact .cons rfl (.cons rfl (.cons rfl (.cons rfl (.cons rfl (.cons rfl (.nil))))))) ⟨hb, by omega, ol'⟩ (by show b.nodes.length - (k + 1) < b.nodes.length - k; omega)
          · replace hc40 := of_decide_eq_false hc40
            refine E.W.skip ?_
            refine E.KQ.block_n ?_
            refine E.KQ.then_n ?_
            refine E.W.region ?_
            refine E.WL.val (E.y_add rfl rfl (Go.IntWalk.i64_in _ (by omega))) rfl rfl rfl ?_
            refine E.WL.val (E.y_move rfl) rfl rfl rfl ?_
            refine E.WL.done ?_
            replace hb := hb.drop (List.Sublist.cons _ (List.Sublist.refl _))
            exact E.KQ.next (ι := Nat × Value × List Value) (k + 1, _, _) (by exact .cons rfl (.cons rfl (.cons rfl (.cons rfl (.cons rfl (.cons rfl (.nil))))))) ⟨hb, by omega, by rw [filter_take hkl, if_neg (show ¬ freeAt b task b.nodes[k] = true from by unfold freeAt; rw [decide_eq_false hc40]; decide), List.append_nil]; exact ol⟩ (by show b.nodes.length - (k + 1) < b.nodes.length - k; omega)
        · replace hc32 := of_decide_eq_false hc32
          have hke : b.nodes.take k = b.nodes := List.take_of_length_le (by omega)
          rw [hke] at ol
          refine E.W.exit ?_
          refine E.KQ.then_e ?_
          refine E.KQ.loop_e ?_
          refine E.KQ.block_e ?_
          refine E.KQ.then_n ?_
          refine E.W.seq ?_
          refine E.W.region ?_
          refine E.WL.val (E.y_move rfl) rfl rfl rfl ?_
          refine E.WL.val (E.y_assign rfl) rfl rfl rfl ?_
          refine E.WL.val (E.y_assign rfl) rfl rfl rfl ?_
          refine E.WL.done ?_
          refine E.KQ.then_n ?_
          refine E.W.ret ?_
          refine E.KQ.ret2 Tryz.results25 rfl rfl ?_
          exact ⟨_, rfl, ⟨_, by rw [hq], by rw [hq]; exact (OwnS.rd ol (by have h8 := List.length_filter_le (freeAt b task) b.nodes; rw [List.length_map]; omega)).mono RStr.goes (fun _ _ _ => trivial)⟩, hb.below⟩
end Go.Proofs.YtmnnbnajnfdncaaGreatDoor
