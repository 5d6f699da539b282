/- Walks: the document's copies. -/
import Derived.Test.YtmnnbnajnfdncaaGreatDoorD8
import Derived.Test.YtmnnbnajnfdncaaGreatDoorBook1
set_option linter.unusedVariables false
set_option linter.unusedSimpArgs false
namespace Go.Proofs.YtmnnbnajnfdncaaGreatDoor
open Go.RowKit E
set_option maxHeartbeats 400000 in
theorem copyNode_calls {F : FP} {w : World} {cn : List Value} {n : NodeD} (h : RNode F w cn n) :
    Calls Tryz.prog 13 #[(.agg cn.toArray)] w (Ret fun u w' => (∃ cn', u = .agg cn'.toArray ∧ RNode (Own w.heap.size w') w' cn' n) ∧ Ext w w') := by
  obtain ⟨vl, vt, rfl, hl1, hl2⟩ := id h
  have hb := E.Bx.start w (base := w.heap.size) (Nat.le_refl _)
  refine E.enter Tryz.func13 rfl Tryz.ntmps13 [(.agg #[.string n.name, .int .i64 n.h0, .int .i64 n.h1, .int .i64 n.h2, vl, vt])] rfl ?_
  refine E.W.seq ?_
  refine E.W.region ?_
  refine E.WL.box hb rfl rfl rfl rfl ?_
  clear hb; intro B1 w2 hb _ _
  refine E.WL.alloc hb Tryz.zeroValue32 rfl rfl rfl ?_
  clear hb; intro B3 w4 hb _ _
  refine E.WL.done ?_
  refine E.KQ.then_n ?_
  refine E.W.seq ?_
  refine E.W.region ?_
  refine E.WL.mkslice (T := 45) (cs := []) hb rfl (fun _ => by kernel_rfl) rfl rfl ?_
  clear hb; intro B5 w6 hb hXa hBa
  refine E.WL.val (E.y_fld Tryz.underlying32 rfl Tryz.sizeOf30 rfl) rfl rfl rfl ?_
  refine E.WL.val (E.y_load rfl (E.At.ld1 Tryz.isAgg30 (hb.at0 2 rfl) 4 rfl)) rfl rfl rfl ?_
  have own0 := Bx.own0 (k := 2) hb
  have hle := hb.le
  refine WL.appendR Tryz.underlying30 (i := Tryz.t45) (size := 2) (bytes := 32) (by kernel_rfl) rfl rfl rfl rfl (by decide) rfl rfl own0 (hl1.ext RPair.goes hb.below) (fun cs x hx => hx.one) (by have := hl1.len_le; omega) (by decide) hb.le rfl rfl (fun v1 w61 news rows own hg6 => ?_)
  have hB6 : Below w.heap.size _ w61 := grown_below (Below.refl _ _) hg6 hle (fun k hk => (own0.lt k hk).1)
  have hE6 : Ext _ w61 := grown_below hXa hg6 hXa.size (fun k hk => by injection hk with hk; rw [← hk, hBa]; exact Nat.le_refl _)
  replace hb := (hb.drop (List.Sublist.cons _ (List.Sublist.refl _))).keeps (Keeps.grown hg6 (ownsRow_hasT own0) (S := fun U => U ≠ 45) (by decide)) hB6 (by intro p hp; simp only [Bxs.put, List.mem_cons, List.not_mem_nil, or_false] at hp; rcases hp with rfl | rfl <;> simp)
  rw [Nat.zero_add, List.nil_append] at own
  have p1 : RPairs (Own w.heap.size w61) w61 v1 n.labels := OwnS.rd ⟨own, rows.to fun _ _ h => h⟩ hl1.len_le
  obtain ⟨A1, c1, rfl, _, _, _⟩ := p1.open_
  clear own rows hg6 hB6 hE6 hXa hBa own0 hle
  refine E.WL.val (E.y_fld Tryz.underlying32 rfl Tryz.sizeOf30 rfl) rfl rfl rfl ?_
  refine E.WL.store hb 1 4 rfl rfl rfl Tryz.sizeOf30 rfl rfl rfl (E.allOne rfl) rfl ?_
  have hT := hb.hasT 1 rfl
  clear hb; intro w7 hb hO
  replace p1 := RPairs.keeps p1 (Keeps.only hO hT (by decide)) (S := fun U => U = 45) rfl
  clear hT
  clear hO
  refine E.WL.done ?_
  refine E.KQ.then_n ?_
  refine E.W.seq ?_
  refine E.W.region ?_
  refine E.WL.mkslice (T := 45) (cs := []) hb rfl (fun _ => by kernel_rfl) rfl rfl ?_
  clear hb; intro B8 w9 hb hXa hBa
  refine E.WL.val (E.y_fld Tryz.underlying32 rfl Tryz.sizeOf30 rfl) rfl rfl rfl ?_
  refine E.WL.val (E.y_load rfl (E.At.ld1 Tryz.isAgg30 (hb.at0 2 rfl) 5 rfl)) rfl rfl rfl ?_
  have own0 := Bx.own0 (k := 2) hb
  have hle := hb.le
  refine WL.appendR Tryz.underlying30 (i := Tryz.t45) (size := 2) (bytes := 32) (by kernel_rfl) rfl rfl rfl rfl (by decide) rfl rfl own0 (hl2.ext RPair.goes hb.below) (fun cs x hx => hx.one) (by have := hl2.len_le; omega) (by decide) hb.le rfl rfl (fun v2 w62 news rows own hg6 => ?_)
  have hB6 : Below w.heap.size _ w62 := grown_below (Below.refl _ _) hg6 hle (fun k hk => (own0.lt k hk).1)
  have hE6 : Ext _ w62 := grown_below hXa hg6 hXa.size (fun k hk => by injection hk with hk; rw [← hk, hBa]; exact Nat.le_refl _)
  replace hb := (hb.drop (List.Sublist.cons _ (List.Sublist.refl _))).keeps (Keeps.grown hg6 (ownsRow_hasT own0) (S := fun U => U ≠ 45) (by decide)) hB6 (by intro p hp; simp only [Bxs.put, List.mem_cons, List.not_mem_nil, or_false] at hp; rcases hp with rfl | rfl <;> simp)
  rw [Nat.zero_add, List.nil_append] at own
  have p2 : RPairs (Own w.heap.size w62) w62 v2 n.taints := OwnS.rd ⟨own, rows.to fun _ _ h => h⟩ hl2.len_le
  obtain ⟨A2, c2, rfl, _, _, _⟩ := p2.open_
  replace p1 := RPairs.keeps p1 (Keeps.ext hE6) (S := fun U => U = 45) rfl
  clear own rows hg6 hB6 hE6 hXa hBa own0 hle
  refine E.WL.val (E.y_fld Tryz.underlying32 rfl Tryz.sizeOf30 rfl) rfl rfl rfl ?_
  refine E.WL.store hb 1 5 rfl rfl rfl Tryz.sizeOf30 rfl rfl rfl (E.allOne rfl) rfl ?_
  have hT := hb.hasT 1 rfl
  clear hb; intro w10 hb hO
  replace p2 := RPairs.keeps p2 (Keeps.only hO hT (by decide)) (S := fun U => U = 45) rfl
  replace p1 := RPairs.keeps p1 (Keeps.only hO hT (by decide)) (S := fun U => U = 45) rfl
  clear hT
  clear hO
  refine E.WL.done ?_
  refine E.KQ.then_n ?_
  refine E.W.seq ?_
  refine E.W.region ?_
  refine E.WL.val (E.y_load rfl (E.At.ldk Tryz.isAgg32 Tryz.sizeOf32 (hb.at0 1 rfl) rfl)) rfl rfl rfl ?_
  refine E.WL.storeW hb 0 rfl rfl rfl Tryz.sizeOf32 rfl rfl rfl (E.allOne rfl) rfl ?_
  have hT := hb.hasT 0 rfl
  clear hb; intro w11 hb hO
  replace p2 := RPairs.keeps p2 (Keeps.only hO hT (by decide)) (S := fun U => U = 45) rfl
  replace p1 := RPairs.keeps p1 (Keeps.only hO hT (by decide)) (S := fun U => U = 45) rfl
  clear hT
  clear hO
  refine E.WL.done ?_
  refine E.KQ.then_n ?_
  refine E.W.ret ?_
  refine E.KQ.retc Tryz.results13 rfl (E.At.ldk Tryz.isAgg32 Tryz.sizeOf32 (hb.at0 0 rfl) rfl) ?_
  exact ⟨_, rfl, ⟨_, rfl, _, _, rfl, p1, p2⟩, hb.below⟩

set_option maxHeartbeats 400000 in
theorem copyTask_calls {F : FP} {w : World} {cn : List Value} {n : TaskD} (h : RTask F w cn n) :
    Calls Tryz.prog 14 #[(.agg cn.toArray)] w (Ret fun u w' => (∃ cn', u = .agg cn'.toArray ∧ RTask (Own w.heap.size w') w' cn' n) ∧ Ext w w') := by
  obtain ⟨vl, vt, rfl, hl1, hl2⟩ := id h
  have hb := E.Bx.start w (base := w.heap.size) (Nat.le_refl _)
  refine E.enter Tryz.func14 rfl Tryz.ntmps14 [(.agg #[.string n.name, .int .i64 n.n0, .int .i64 n.n1, .int .i64 n.n2, vl, vt, .string n.group, .string n.apart, .int .i64 n.rank])] rfl ?_
  refine E.W.seq ?_
  refine E.W.region ?_
  refine E.WL.box hb rfl rfl rfl rfl ?_
  clear hb; intro B1 w2 hb _ _
  refine E.WL.alloc hb Tryz.zeroValue34 rfl rfl rfl ?_
  clear hb; intro B3 w4 hb _ _
  refine E.WL.done ?_
  refine E.KQ.then_n ?_
  refine E.W.seq ?_
  refine E.W.region ?_
  refine E.WL.mkslice (T := 45) (cs := []) hb rfl (fun _ => by kernel_rfl) rfl rfl ?_
  clear hb; intro B5 w6 hb hXa hBa
  refine E.WL.val (E.y_fld Tryz.underlying34 rfl Tryz.sizeOf30 rfl) rfl rfl rfl ?_
  refine E.WL.val (E.y_load rfl (E.At.ld1 Tryz.isAgg30 (hb.at0 2 rfl) 4 rfl)) rfl rfl rfl ?_
  have own0 := Bx.own0 (k := 2) hb
  have hle := hb.le
  refine WL.appendR Tryz.underlying30 (i := Tryz.t45) (size := 2) (bytes := 32) (by kernel_rfl) rfl rfl rfl rfl (by decide) rfl rfl own0 (hl1.ext RPair.goes hb.below) (fun cs x hx => hx.one) (by have := hl1.len_le; omega) (by decide) hb.le rfl rfl (fun v1 w61 news rows own hg6 => ?_)
  have hB6 : Below w.heap.size _ w61 := grown_below (Below.refl _ _) hg6 hle (fun k hk => (own0.lt k hk).1)
  have hE6 : Ext _ w61 := grown_below hXa hg6 hXa.size (fun k hk => by injection hk with hk; rw [← hk, hBa]; exact Nat.le_refl _)
  replace hb := (hb.drop (List.Sublist.cons _ (List.Sublist.refl _))).keeps (Keeps.grown hg6 (ownsRow_hasT own0) (S := fun U => U ≠ 45) (by decide)) hB6 (by intro p hp; simp only [Bxs.put, List.mem_cons, List.not_mem_nil, or_false] at hp; rcases hp with rfl | rfl <;> simp)
  rw [Nat.zero_add, List.nil_append] at own
  have p1 : RPairs (Own w.heap.size w61) w61 v1 n.wants := OwnS.rd ⟨own, rows.to fun _ _ h => h⟩ hl1.len_le
  obtain ⟨A1, c1, rfl, _, _, _⟩ := p1.open_
  clear own rows hg6 hB6 hE6 hXa hBa own0 hle
  refine E.WL.val (E.y_fld Tryz.underlying34 rfl Tryz.sizeOf30 rfl) rfl rfl rfl ?_
  refine E.WL.store hb 1 4 rfl rfl rfl Tryz.sizeOf30 rfl rfl rfl (E.allOne rfl) rfl ?_
  have hT := hb.hasT 1 rfl
  clear hb; intro w7 hb hO
  replace p1 := RPairs.keeps p1 (Keeps.only hO hT (by decide)) (S := fun U => U = 45) rfl
  clear hT
  clear hO
  refine E.WL.done ?_
  refine E.KQ.then_n ?_
  refine E.W.seq ?_
  refine E.W.region ?_
  refine E.WL.mkslice (T := 45) (cs := []) hb rfl (fun _ => by kernel_rfl) rfl rfl ?_
  clear hb; intro B8 w9 hb hXa hBa
  refine E.WL.val (E.y_fld Tryz.underlying34 rfl Tryz.sizeOf30 rfl) rfl rfl rfl ?_
  refine E.WL.val (E.y_load rfl (E.At.ld1 Tryz.isAgg30 (hb.at0 2 rfl) 5 rfl)) rfl rfl rfl ?_
  have own0 := Bx.own0 (k := 2) hb
  have hle := hb.le
  refine WL.appendR Tryz.underlying30 (i := Tryz.t45) (size := 2) (bytes := 32) (by kernel_rfl) rfl rfl rfl rfl (by decide) rfl rfl own0 (hl2.ext RPair.goes hb.below) (fun cs x hx => hx.one) (by have := hl2.len_le; omega) (by decide) hb.le rfl rfl (fun v2 w62 news rows own hg6 => ?_)
  have hB6 : Below w.heap.size _ w62 := grown_below (Below.refl _ _) hg6 hle (fun k hk => (own0.lt k hk).1)
  have hE6 : Ext _ w62 := grown_below hXa hg6 hXa.size (fun k hk => by injection hk with hk; rw [← hk, hBa]; exact Nat.le_refl _)
  replace hb := (hb.drop (List.Sublist.cons _ (List.Sublist.refl _))).keeps (Keeps.grown hg6 (ownsRow_hasT own0) (S := fun U => U ≠ 45) (by decide)) hB6 (by intro p hp; simp only [Bxs.put, List.mem_cons, List.not_mem_nil, or_false] at hp; rcases hp with rfl | rfl <;> simp)
  rw [Nat.zero_add, List.nil_append] at own
  have p2 : RPairs (Own w.heap.size w62) w62 v2 n.bears := OwnS.rd ⟨own, rows.to fun _ _ h => h⟩ hl2.len_le
  obtain ⟨A2, c2, rfl, _, _, _⟩ := p2.open_
  replace p1 := RPairs.keeps p1 (Keeps.ext hE6) (S := fun U => U = 45) rfl
  clear own rows hg6 hB6 hE6 hXa hBa own0 hle
  refine E.WL.val (E.y_fld Tryz.underlying34 rfl Tryz.sizeOf30 rfl) rfl rfl rfl ?_
  refine E.WL.store hb 1 5 rfl rfl rfl Tryz.sizeOf30 rfl rfl rfl (E.allOne rfl) rfl ?_
  have hT := hb.hasT 1 rfl
  clear hb; intro w10 hb hO
  replace p2 := RPairs.keeps p2 (Keeps.only hO hT (by decide)) (S := fun U => U = 45) rfl
  replace p1 := RPairs.keeps p1 (Keeps.only hO hT (by decide)) (S := fun U => U = 45) rfl
  clear hT
  clear hO
  refine E.WL.done ?_
  refine E.KQ.then_n ?_
  refine E.W.seq ?_
  refine E.W.region ?_
  refine E.WL.val (E.y_load rfl (E.At.ldk Tryz.isAgg34 Tryz.sizeOf34 (hb.at0 1 rfl) rfl)) rfl rfl rfl ?_
  refine E.WL.storeW hb 0 rfl rfl rfl Tryz.sizeOf34 rfl rfl rfl (E.allOne rfl) rfl ?_
  have hT := hb.hasT 0 rfl
  clear hb; intro w11 hb hO
  replace p2 := RPairs.keeps p2 (Keeps.only hO hT (by decide)) (S := fun U => U = 45) rfl
  replace p1 := RPairs.keeps p1 (Keeps.only hO hT (by decide)) (S := fun U => U = 45) rfl
  clear hT
  clear hO
  refine E.WL.done ?_
  refine E.KQ.then_n ?_
  refine E.W.ret ?_
  refine E.KQ.retc Tryz.results14 rfl (E.At.ldk Tryz.isAgg34 Tryz.sizeOf34 (hb.at0 0 rfl) rfl) ?_
  exact ⟨_, rfl, ⟨_, rfl, _, _, rfl, p1, p2⟩, hb.below⟩

set_option maxHeartbeats 4000000 in
theorem copy_calls {F : FP} {w : World} {cs : List Value} {b : BookD} (h : RBook F w cs b) :
    Calls Tryz.prog 6 #[(.agg cs.toArray)] w (Ret fun u w' => (∃ cs', u = .agg cs'.toArray ∧ OBook w.heap.size w' cs' b) ∧ Ext w w') := by
  replace h := h.old
  obtain ⟨vn, vt, vb, rfl, hn0, ht0, hbi0⟩ := id h
  obtain ⟨Ab, cb0, rfl, hcb, hbyb, hgb⟩ := hbi0.open_
  obtain ⟨At', ct0, rfl, hct, hbyt, hgt⟩ := ht0.open_
  obtain ⟨An, cn0, rfl, hcn, hbyn, hgn⟩ := hn0.open_
  have hb := E.Bx.start w (base := w.heap.size) (Nat.le_refl _)
  refine E.enter Tryz.func6 rfl Tryz.ntmps6 [(.agg #[.slice An b.nodes.length cn0, .slice At' b.tasks.length ct0, .slice Ab b.binds.length cb0, .int .u64 b.fence])] rfl ?_
  refine E.W.seq ?_
  refine E.W.region ?_
  refine E.WL.box hb rfl rfl rfl rfl ?_
  clear hb; intro B1 w2 hb _ _
  refine E.WL.alloc hb Tryz.zeroValue27 rfl rfl rfl ?_
  clear hb; intro B2 w4 hb _ _
  refine E.WL.done ?_
  refine E.KQ.then_n ?_
  refine E.W.seq ?_
  refine E.W.region ?_
  refine E.WL.val (E.y_fld Tryz.underlying27 rfl Tryz.sizeOf25 rfl) rfl rfl rfl ?_
  refine E.WL.val (E.y_load rfl (E.At.ld1 Tryz.isAgg25 (hb.at0 1 rfl) 3 rfl)) rfl rfl rfl ?_
  refine E.WL.val (E.y_build (v := .agg #[.slice none 0 0, .slice none 0 0, .slice none 0 0, .int .u64 b.fence]) rfl (by kernel_rfl)) rfl rfl rfl ?_
  refine E.WL.alloc hb Tryz.zeroValue27 rfl rfl rfl ?_
  clear hb; intro B3 w6 hb _ _
  refine E.WL.storeW hb 0 rfl rfl rfl Tryz.sizeOf27 rfl rfl rfl (E.allOne rfl) rfl ?_
  clear hb; intro w7 hb _
  refine E.WL.done ?_
  refine E.KQ.then_n ?_
  refine E.W.seq ?_
  refine E.W.seq ?_
  refine E.W.region ?_
  refine E.WL.val (E.y_fld Tryz.underlying27 rfl Tryz.sizeOf22 rfl) rfl rfl rfl ?_
  refine E.WL.val (E.y_load rfl (E.At.ld1 Tryz.isAgg22 (hb.at0 2 rfl) 0 rfl)) rfl rfl rfl ?_
  refine E.WL.val (E.y_lenS Tryz.underlying22 rfl) rfl rfl rfl ?_
  refine E.WL.val (E.y_move rfl) rfl rfl rfl ?_
  refine E.WL.done ?_
  refine E.KQ.then_n ?_
  refine E.W.block ?_
  refine E.W.loop (ι := Nat × Value × List Value) (fun κ => [(1, .pointer (some ⟨B1, 0, none⟩)), (2, .pointer (some ⟨B2, 0, none⟩)), (3, .pointer (some ⟨B3, 0, none⟩)), (12, .slice An b.nodes.length cn0), (13, .int .i64 b.nodes.length), (14, .int .i64 (κ.1 : Nat))]) (fun κ w' => Bx w.heap.size w w' [(B3, [κ.2.1, .slice none 0 0, .slice none 0 0, .int .u64 b.fence], 27), (B2, [.slice none 0 0, .slice none 0 0, .slice none 0 0, .int .u64 0], 27), (B1, [.slice An b.nodes.length cn0, .slice At' b.tasks.length ct0, .slice Ab b.binds.length cb0, .int .u64 b.fence], 27)] ∧ κ.1 ≤ b.nodes.length ∧ ONodes w.heap.size w' κ.2.1 (b.nodes.take κ.1) κ.2.2) (fun κ => b.nodes.length - κ.1) ((0, .slice none 0 0, [])) (by exact (.cons rfl (.cons rfl (.cons rfl (.cons rfl (.cons rfl (.cons rfl .nil))))))) ⟨hb, Nat.zero_le _, ⟨World.ownsRow_nil _ _ _ _, Rows.nil⟩⟩ (fun κ w8 hJ => ?_)
  clear hb
  obtain ⟨k, vv, nn⟩ := κ
  obtain ⟨hb, hk, o1⟩ := hJ
  simp only at hb hk o1
  obtain ⟨A0, c0, rfl, _⟩ := ownsRow_open o1.row
  refine E.W.seq ?_
  refine E.W.region ?_
  refine E.WL.val (E.y_lss rfl rfl) rfl rfl rfl ?_
  refine E.WL.done ?_
  refine E.KQ.then_n ?_
  refine E.W.seq ?_
  refine E.W.condT 15 rfl (fun hc15 => ?_) (fun hc15 => ?_)
  · replace hc15 := of_decide_eq_true hc15
    refine E.W.skip ?_
    refine E.KQ.then_n ?_
    refine E.W.seq ?_
    refine E.W.block ?_
    refine E.W.seq ?_
    refine E.W.region ?_
    have hkl : k < b.nodes.length := by omega
    obtain ⟨q, cs', hA, _, hl, hat, hr⟩ := hgn k hkl
    subst hA
    have hone := hr.one
    have hr2 := hr
    obtain ⟨vl, vt', rfl, _, _⟩ := hr
    replace hat := hat.ext hb.below
    refine E.WL.val (E.y_idxS Tryz.underlying22 Tryz.sizeOf32 rfl rfl (by omega) (by omega)) rfl rfl rfl ?_
    refine E.WL.val (E.y_load rfl (E.At.ldk Tryz.isAgg32 Tryz.sizeOf32 hat rfl)) rfl rfl rfl ?_
    have hlt := o1.row.lt
    refine E.WL.alloc hb Tryz.zeroValue32 rfl rfl rfl ?_
    clear hb; intro BX w10 hb hX hBX
    replace o1 := ONodes.keeps o1 (Keeps.ext hX) (S := fun U => U = 32 ∨ U = 45) (by decide) (by decide)
    clear hX
    have hne : (Value.slice A0 (b.nodes.take k).length c0).ownBlock ≠ some BX := fun e => by have := (hlt _ e).2; omega
    refine E.WL.storeW hb 0 rfl rfl rfl Tryz.sizeOf32 rfl rfl rfl (hone) rfl ?_
    have hT := hb.hasT 0 rfl
    clear hb; intro w11 hb hO
    replace o1 := ONodes.only o1 hO hT hne
    clear hT
    clear hO
    refine E.WL.done ?_
    refine E.KQ.then_n ?_
    have hb0 := hb
    refine E.W.regionD (E.heads 5 []) rfl ?_
    replace hb := hb.drew
    replace o1 := ONodes.keeps o1 (Keeps.ext (E.Ext.drew _)) (S := fun U => U = 32 ∨ U = 45) (by decide) (by decide)
    have hE := E.Ext.drew w11
    refine E.DL.take 0 rfl (by kernel_rfl) (by kernel_rfl) (fun w' hw => E.y_fld Tryz.underlying27 rfl Tryz.sizeOf22 rfl) rfl rfl rfl (fun _ _ _ _ h => by obtain ⟨_, _, h, _⟩ := h; cases h) hE ?_
    refine E.DL.take 1 rfl (by kernel_rfl) (by kernel_rfl) (fun w' hw => E.y_load rfl (E.At.ld1 Tryz.isAgg22 ((hb0.ext hw).at0 1 rfl) 0 rfl)) rfl rfl rfl (fun _ _ _ _ h => by obtain ⟨_, _, h, _⟩ := h; cases h) hE ?_
    refine E.DL.take 2 rfl (by kernel_rfl) (by kernel_rfl) (fun w' hw => E.y_load rfl (E.At.ldk Tryz.isAgg32 Tryz.sizeOf32 ((hb0.ext hw).at0 0 rfl) rfl)) rfl rfl rfl (fun _ _ _ _ h => by obtain ⟨_, _, h, _⟩ := h; cases h) hE ?_
    refine E.DL.only 3 rfl (by kernel_rfl) (fun hsh => ?_)
    refine E.WL.call (copyNode_calls (RNode.goes.stays hr2 (Stays.below hb.below (fun _ _ h => h)))) Tryz.call13 rfl rfl rfl ?_
    rintro _ w12 ⟨⟨cn', rfl, hcn⟩, hX⟩
    have hle := hb.le
    replace hb := hb.ext hX
    replace o1 := ONodes.keeps o1 (Keeps.ext hX) (S := fun U => U = 32 ∨ U = 45) (by decide) (by decide)
    replace hcn := RNode.le hcn hle
    obtain ⟨vl2, vt2, rfl, _, _⟩ := id hcn
    clear hle
    refine E.WL.done ?_
    replace hE := hE.trans hX
    clear hX
    refine E.DL.next hsh (.inl hE) ?_
    clear hsh
    refine E.DL.only 4 rfl (by kernel_rfl) (fun hsh => ?_)
    refine E.WL.mkslice (T := 32) (cs := [.string b.nodes[k].name, .int .i64 b.nodes[k].h0, .int .i64 b.nodes[k].h1, .int .i64 b.nodes[k].h2, vl2, vt2]) hb rfl (fun _ => by kernel_rfl) rfl rfl ?_
    clear hb; intro B13 w14 hb hX _
    replace o1 := ONodes.keeps o1 (Keeps.ext hX) (S := fun U => U = 32 ∨ U = 45) (by decide) (by decide)
    replace hcn := RNode.keeps hcn (Keeps.ext hX) (S := fun U => U = 45) rfl
    refine E.WL.done ?_
    replace hE := hE.trans hX
    clear hX
    refine E.DL.next hsh (.inl hE) ?_
    clear hsh
    refine E.DL.only 5 rfl (by kernel_rfl) (fun hsh => ?_)
    have hle := hb.le
    refine E.WL.append Tryz.underlying22 (i := Tryz.t32) (size := 6) (bytes := 88) (by kernel_rfl) rfl rfl rfl rfl (by decide) rfl rfl o1.row (hb.at0 0 rfl) rfl hcn.one (by rw [List.length_take, Nat.min_eq_left hk]; omega) (by decide) hb.le rfl rfl (fun v' w6 own6 hg6 _ => ?_)
    have hB6 : Below w.heap.size _ w6 := grown_below (Below.refl _ _) hg6 hle (fun k hk => (o1.row.lt k hk).1)
    have hK6 := Keeps.grown hg6 (ownsRow_hasT o1.row) (S := fun U => U ≠ 32) (by decide)
    replace hb := (hb.drop (List.Sublist.cons _ (List.Sublist.cons _ (List.Sublist.refl _)))).keeps hK6 hB6 (by intro p hp; simp only [Bxs.put, List.mem_cons, List.not_mem_nil, or_false] at hp; rcases hp with rfl | rfl | rfl <;> simp)
    replace hcn := RNode.keeps hcn hK6 (by decide)
    replace o1 : ONodes w.heap.size w6 v' (b.nodes.take (k + 1)) _ := ⟨by rw [show (b.nodes.take (k + 1)).length = (b.nodes.take k).length + 1 from by rw [List.length_take, List.length_take, Nat.min_eq_left hk, Nat.min_eq_left (by omega)]]; exact own6, by rw [List.take_add_one, List.getElem?_eq_getElem hkl]; exact (o1.rows.to fun cs x hx => RNode.keeps hx hK6 (by decide)).app (Rows.one hcn rfl)⟩
    obtain ⟨A', c', rfl, _⟩ := ownsRow_open own6
    clear own6 hg6 hB6 hK6 hle hcn
    refine E.WL.done ?_
    refine E.DL.next hsh (.inr rfl) ?_
    clear hsh
    refine E.DL.takeU 6 rfl (by kernel_rfl) rfl (fun w' => E.y_fld Tryz.underlying27 rfl Tryz.sizeOf22 rfl) rfl rfl rfl (fun _ _ _ _ h => by obtain ⟨_, _, h, _⟩ := h; cases h) ?_
    refine E.DL.only 7 rfl (by kernel_rfl) (fun hsh => ?_)
    refine E.WL.store hb 0 0 rfl rfl rfl Tryz.sizeOf22 rfl rfl rfl (E.allOne rfl) rfl ?_
    have hT := hb.hasT 0 rfl
    clear hb; intro w15 hb hO
    replace o1 := ONodes.keeps o1 (Keeps.only hO hT (by decide)) (S := fun U => U = 32 ∨ U = 45) (by decide) (by decide)
    clear hT
    clear hO
    refine E.WL.done ?_
    refine E.DL.next hsh (.inr rfl) ?_
    clear hsh
    refine E.DL.done (by kernel_rfl) ?_
    clear hE hb0
    refine E.KQ.block_n ?_
    refine E.KQ.then_n ?_
    refine E.W.region ?_
    refine E.WL.val (E.y_add rfl rfl (Go.IntWalk.i64_in _ (by omega))) rfl rfl rfl ?_
    refine E.WL.val (E.y_move rfl) rfl rfl rfl ?_
    refine E.WL.done ?_
    exact E.KQ.next (ι := Nat × Value × List Value) (k + 1, _, _) (by exact .cons rfl (.cons rfl (.cons rfl (.cons rfl (.cons rfl (.cons rfl .nil)))))) ⟨hb, by omega, o1⟩ (by show b.nodes.length - (k + 1) < b.nodes.length - k; omega)
  · replace hc15 := of_decide_eq_false hc15
    have hke : b.nodes.take k = b.nodes := List.take_of_length_le (by omega)
    rw [hke] at o1 hb
    obtain ⟨A1, hA1⟩ : ∃ z, z = A0 := ⟨_, rfl⟩
    obtain ⟨c1, hc1⟩ : ∃ z, z = c0 := ⟨_, rfl⟩
    obtain ⟨nn1, hnn1⟩ : ∃ z, z = nn := ⟨_, rfl⟩
    rw [← hA1, ← hc1, ← hnn1] at o1
    rw [← hA1, ← hc1] at hb
    refine E.W.exit ?_
    refine E.KQ.then_e ?_
    refine E.KQ.loop_e ?_
    refine E.KQ.block_e ?_
    refine E.KQ.then_n ?_
    refine E.W.seq ?_
    refine E.W.seq ?_
    refine E.W.region ?_
    refine E.WL.val (E.y_fld Tryz.underlying27 rfl Tryz.sizeOf23 rfl) rfl rfl rfl ?_
    refine E.WL.val (E.y_load rfl (E.At.ld1 Tryz.isAgg23 (hb.at0 2 rfl) 1 rfl)) rfl rfl rfl ?_
    refine E.WL.val (E.y_lenS Tryz.underlying23 rfl) rfl rfl rfl ?_
    refine E.WL.val (E.y_move rfl) rfl rfl rfl ?_
    refine E.WL.done ?_
    refine E.KQ.then_n ?_
    refine E.W.block ?_
    refine E.W.loop (ι := Nat × Value × List Value) (fun κ => [(1, .pointer (some ⟨B1, 0, none⟩)), (2, .pointer (some ⟨B2, 0, none⟩)), (3, .pointer (some ⟨B3, 0, none⟩)), (27, .slice At' b.tasks.length ct0), (28, .int .i64 b.tasks.length), (29, .int .i64 (κ.1 : Nat))]) (fun κ w' => Bx w.heap.size w w' [(B3, [.slice A1 b.nodes.length c1, κ.2.1, .slice none 0 0, .int .u64 b.fence], 27), (B2, [.slice none 0 0, .slice none 0 0, .slice none 0 0, .int .u64 0], 27), (B1, [.slice An b.nodes.length cn0, .slice At' b.tasks.length ct0, .slice Ab b.binds.length cb0, .int .u64 b.fence], 27)] ∧ κ.1 ≤ b.tasks.length ∧ OTasks w.heap.size w' κ.2.1 (b.tasks.take κ.1) κ.2.2 ∧ ONodes w.heap.size w' (.slice A1 b.nodes.length c1) b.nodes nn1) (fun κ => b.tasks.length - κ.1) ((0, .slice none 0 0, [])) (by exact (.cons rfl (.cons rfl (.cons rfl (.cons rfl (.cons rfl (.cons rfl .nil))))))) ⟨hb, Nat.zero_le _, ⟨World.ownsRow_nil _ _ _ _, Rows.nil⟩, o1⟩ (fun κ w16 hJ => ?_)
    clear hb o1
    obtain ⟨k, vv, nn⟩ := κ
    obtain ⟨hb, hk, o2, o1⟩ := hJ
    simp only at hb hk o2
    obtain ⟨A0, c0, rfl, _⟩ := ownsRow_open o2.row
    refine E.W.seq ?_
    refine E.W.region ?_
    refine E.WL.val (E.y_lss rfl rfl) rfl rfl rfl ?_
    refine E.WL.done ?_
    refine E.KQ.then_n ?_
    refine E.W.seq ?_
    refine E.W.condT 30 rfl (fun hc30 => ?_) (fun hc30 => ?_)
    · replace hc30 := of_decide_eq_true hc30
      refine E.W.skip ?_
      refine E.KQ.then_n ?_
      refine E.W.seq ?_
      refine E.W.block ?_
      refine E.W.seq ?_
      refine E.W.region ?_
      have hkl : k < b.tasks.length := by omega
      obtain ⟨q, cs', hA, _, hl, hat, hr⟩ := hgt k hkl
      subst hA
      have hone := hr.one
      have hr2 := hr
      obtain ⟨vl, vt', rfl, _, _⟩ := hr
      replace hat := hat.ext hb.below
      refine E.WL.val (E.y_idxS Tryz.underlying23 Tryz.sizeOf34 rfl rfl (by omega) (by omega)) rfl rfl rfl ?_
      refine E.WL.val (E.y_load rfl (E.At.ldk Tryz.isAgg34 Tryz.sizeOf34 hat rfl)) rfl rfl rfl ?_
      have hlt := o2.row.lt
      refine E.WL.alloc hb Tryz.zeroValue34 rfl rfl rfl ?_
      clear hb; intro BX w18 hb hX hBX
      replace o1 := ONodes.keeps o1 (Keeps.ext hX) (S := fun U => U = 32 ∨ U = 45) (by decide) (by decide)
      replace o2 := OTasks.keeps o2 (Keeps.ext hX) (S := fun U => U = 34 ∨ U = 45) (by decide) (by decide)
      clear hX
      have hne : (Value.slice A0 (b.tasks.take k).length c0).ownBlock ≠ some BX := fun e => by have := (hlt _ e).2; omega
      refine E.WL.storeW hb 0 rfl rfl rfl Tryz.sizeOf34 rfl rfl rfl (hone) rfl ?_
      have hT := hb.hasT 0 rfl
      clear hb; intro w19 hb hO
      replace o1 := ONodes.keeps o1 (Keeps.only hO hT (by decide)) (S := fun U => U = 32 ∨ U = 45) (by decide) (by decide)
      replace o2 := OTasks.only o2 hO hT hne
      clear hT
      clear hO
      refine E.WL.done ?_
      refine E.KQ.then_n ?_
      have hb0 := hb
      refine E.W.regionD (E.heads 5 []) rfl ?_
      replace hb := hb.drew
      replace o1 := ONodes.keeps o1 (Keeps.ext (E.Ext.drew _)) (S := fun U => U = 32 ∨ U = 45) (by decide) (by decide)
      replace o2 := OTasks.keeps o2 (Keeps.ext (E.Ext.drew _)) (S := fun U => U = 34 ∨ U = 45) (by decide) (by decide)
      have hE := E.Ext.drew w19
      refine E.DL.take 0 rfl (by kernel_rfl) (by kernel_rfl) (fun w' hw => E.y_fld Tryz.underlying27 rfl Tryz.sizeOf23 rfl) rfl rfl rfl (fun _ _ _ _ h => by obtain ⟨_, _, h, _⟩ := h; cases h) hE ?_
      refine E.DL.take 1 rfl (by kernel_rfl) (by kernel_rfl) (fun w' hw => E.y_load rfl (E.At.ld1 Tryz.isAgg23 ((hb0.ext hw).at0 1 rfl) 1 rfl)) rfl rfl rfl (fun _ _ _ _ h => by obtain ⟨_, _, h, _⟩ := h; cases h) hE ?_
      refine E.DL.take 2 rfl (by kernel_rfl) (by kernel_rfl) (fun w' hw => E.y_load rfl (E.At.ldk Tryz.isAgg34 Tryz.sizeOf34 ((hb0.ext hw).at0 0 rfl) rfl)) rfl rfl rfl (fun _ _ _ _ h => by obtain ⟨_, _, h, _⟩ := h; cases h) hE ?_
      refine E.DL.only 3 rfl (by kernel_rfl) (fun hsh => ?_)
      refine E.WL.call (copyTask_calls (RTask.goes.stays hr2 (Stays.below hb.below (fun _ _ h => h)))) Tryz.call14 rfl rfl rfl ?_
      rintro _ w20 ⟨⟨cn', rfl, hcn⟩, hX⟩
      have hle := hb.le
      replace hb := hb.ext hX
      replace o1 := ONodes.keeps o1 (Keeps.ext hX) (S := fun U => U = 32 ∨ U = 45) (by decide) (by decide)
      replace o2 := OTasks.keeps o2 (Keeps.ext hX) (S := fun U => U = 34 ∨ U = 45) (by decide) (by decide)
      replace hcn := RTask.le hcn hle
      obtain ⟨vl2, vt2, rfl, _, _⟩ := id hcn
      clear hle
      refine E.WL.done ?_
      replace hE := hE.trans hX
      clear hX
      refine E.DL.next hsh (.inl hE) ?_
      clear hsh
      refine E.DL.only 4 rfl (by kernel_rfl) (fun hsh => ?_)
      refine E.WL.mkslice (T := 34) (cs := [.string b.tasks[k].name, .int .i64 b.tasks[k].n0, .int .i64 b.tasks[k].n1, .int .i64 b.tasks[k].n2, vl2, vt2, .string b.tasks[k].group, .string b.tasks[k].apart, .int .i64 b.tasks[k].rank]) hb rfl (fun _ => by kernel_rfl) rfl rfl ?_
      clear hb; intro B21 w22 hb hX _
      replace o1 := ONodes.keeps o1 (Keeps.ext hX) (S := fun U => U = 32 ∨ U = 45) (by decide) (by decide)
      replace o2 := OTasks.keeps o2 (Keeps.ext hX) (S := fun U => U = 34 ∨ U = 45) (by decide) (by decide)
      replace hcn := RTask.keeps hcn (Keeps.ext hX) (S := fun U => U = 45) rfl
      refine E.WL.done ?_
      replace hE := hE.trans hX
      clear hX
      refine E.DL.next hsh (.inl hE) ?_
      clear hsh
      refine E.DL.only 5 rfl (by kernel_rfl) (fun hsh => ?_)
      have hle := hb.le
      refine E.WL.append Tryz.underlying23 (i := Tryz.t34) (size := 9) (bytes := 128) (by kernel_rfl) rfl rfl rfl rfl (by decide) rfl rfl o2.row (hb.at0 0 rfl) rfl hcn.one (by rw [List.length_take, Nat.min_eq_left hk]; omega) (by decide) hb.le rfl rfl (fun v' w6 own6 hg6 _ => ?_)
      have hB6 : Below w.heap.size _ w6 := grown_below (Below.refl _ _) hg6 hle (fun k hk => (o2.row.lt k hk).1)
      have hK6 := Keeps.grown hg6 (ownsRow_hasT o2.row) (S := fun U => U ≠ 34) (by decide)
      replace hb := (hb.drop (List.Sublist.cons _ (List.Sublist.cons _ (List.Sublist.refl _)))).keeps hK6 hB6 (by intro p hp; simp only [Bxs.put, List.mem_cons, List.not_mem_nil, or_false] at hp; rcases hp with rfl | rfl | rfl <;> simp)
      replace hcn := RTask.keeps hcn hK6 (by decide)
      replace o1 := ONodes.keeps o1 hK6 (by decide) (by decide)
      replace o2 : OTasks w.heap.size w6 v' (b.tasks.take (k + 1)) _ := ⟨by rw [show (b.tasks.take (k + 1)).length = (b.tasks.take k).length + 1 from by rw [List.length_take, List.length_take, Nat.min_eq_left hk, Nat.min_eq_left (by omega)]]; exact own6, by rw [List.take_add_one, List.getElem?_eq_getElem hkl]; exact (o2.rows.to fun cs x hx => RTask.keeps hx hK6 (by decide)).app (Rows.one hcn rfl)⟩
      obtain ⟨A', c', rfl, _⟩ := ownsRow_open own6
      clear own6 hg6 hB6 hK6 hle hcn
      refine E.WL.done ?_
      refine E.DL.next hsh (.inr rfl) ?_
      clear hsh
      refine E.DL.takeU 6 rfl (by kernel_rfl) rfl (fun w' => E.y_fld Tryz.underlying27 rfl Tryz.sizeOf23 rfl) rfl rfl rfl (fun _ _ _ _ h => by obtain ⟨_, _, h, _⟩ := h; cases h) ?_
      refine E.DL.only 7 rfl (by kernel_rfl) (fun hsh => ?_)
      refine E.WL.store hb 0 1 rfl rfl rfl Tryz.sizeOf23 rfl rfl rfl (E.allOne rfl) rfl ?_
      have hT := hb.hasT 0 rfl
      clear hb; intro w23 hb hO
      replace o1 := ONodes.keeps o1 (Keeps.only hO hT (by decide)) (S := fun U => U = 32 ∨ U = 45) (by decide) (by decide)
      replace o2 := OTasks.keeps o2 (Keeps.only hO hT (by decide)) (S := fun U => U = 34 ∨ U = 45) (by decide) (by decide)
      clear hT
      clear hO
      refine E.WL.done ?_
      refine E.DL.next hsh (.inr rfl) ?_
      clear hsh
      refine E.DL.done (by kernel_rfl) ?_
      clear hE hb0
      refine E.KQ.block_n ?_
      refine E.KQ.then_n ?_
      refine E.W.region ?_
      refine E.WL.val (E.y_add rfl rfl (Go.IntWalk.i64_in _ (by omega))) rfl rfl rfl ?_
      refine E.WL.val (E.y_move rfl) rfl rfl rfl ?_
      refine E.WL.done ?_
      exact E.KQ.next (ι := Nat × Value × List Value) (k + 1, _, _) (by exact .cons rfl (.cons rfl (.cons rfl (.cons rfl (.cons rfl (.cons rfl .nil)))))) ⟨hb, by omega, o2, o1⟩ (by show b.tasks.length - (k + 1) < b.tasks.length - k; omega)
    · replace hc30 := of_decide_eq_false hc30
      have hke : b.tasks.take k = b.tasks := List.take_of_length_le (by omega)
      rw [hke] at o2 hb
      refine E.W.exit ?_
      refine E.KQ.then_e ?_
      refine E.KQ.loop_e ?_
      refine E.KQ.block_e ?_
      refine E.KQ.then_n ?_
      refine E.W.seq ?_
      refine E.W.region ?_
      refine E.WL.val (E.y_fld Tryz.underlying27 rfl Tryz.sizeOf24 rfl) rfl rfl rfl ?_
      refine E.WL.val (E.y_load rfl (E.At.ld1 Tryz.isAgg24 (hb.at0 0 rfl) 2 rfl)) rfl rfl rfl ?_
      refine E.WL.val (E.y_fld Tryz.underlying27 rfl Tryz.sizeOf24 rfl) rfl rfl rfl ?_
      refine E.WL.val (E.y_load rfl (E.At.ld1 Tryz.isAgg24 (hb.at0 2 rfl) 2 rfl)) rfl rfl rfl ?_
      have own0 := World.ownsRow_nil w16 w.heap.size 47 2
      have hle := hb.le
      refine WL.appendR Tryz.underlying24 (i := Tryz.t47) (size := 2) (bytes := 32) (by kernel_rfl) rfl rfl rfl rfl (by decide) rfl rfl own0 (RdS.stays RBind.goes hbi0 (Stays.below hb.below (fun _ _ h => h))) (fun cs x hx => hx.one) (by omega) (by decide) hb.le rfl rfl (fun v3 w6 news rows own hg6 => ?_)
      have hE6 : Ext _ w6 := grown_below (Below.refl _ _) hg6 (Nat.le_refl _) (fun k hk => by cases hk)
      replace hb := hb.ext hE6
      replace o1 := ONodes.keeps o1 (Keeps.ext hE6) (S := rowS) (by decide) (by decide)
      replace o2 := OTasks.keeps o2 (Keeps.ext hE6) (S := rowS) (by decide) (by decide)
      rw [Nat.zero_add, List.nil_append] at own
      have o3 : OBinds w.heap.size w6 v3 b.binds news := ⟨own, rows.to fun _ _ h => h⟩
      obtain ⟨A3, c3, rfl, _⟩ := ownsRow_open own
      clear own rows hg6 hE6 own0 hle
      refine E.WL.val (E.y_fld Tryz.underlying27 rfl Tryz.sizeOf24 rfl) rfl rfl rfl ?_
      refine E.WL.store hb 0 2 rfl rfl rfl Tryz.sizeOf24 rfl rfl rfl (E.allOne rfl) rfl ?_
      have hT := hb.hasT 0 rfl
      clear hb; intro w24 hb hO
      replace o1 := ONodes.keeps o1 (Keeps.only hO hT (by decide)) (S := fun U => U = 32 ∨ U = 45) (by decide) (by decide)
      replace o2 := OTasks.keeps o2 (Keeps.only hO hT (by decide)) (S := fun U => U = 34 ∨ U = 45) (by decide) (by decide)
      replace o3 := OBinds.keeps o3 (Keeps.only hO hT (by decide)) (S := fun U => U = 47) rfl
      clear hT
      clear hO
      refine E.WL.done ?_
      refine E.KQ.then_n ?_
      refine E.W.seq ?_
      refine E.W.region ?_
      refine E.WL.val (E.y_load rfl (E.At.ldk Tryz.isAgg27 Tryz.sizeOf27 (hb.at0 0 rfl) rfl)) rfl rfl rfl ?_
      refine E.WL.storeW hb 1 rfl rfl rfl Tryz.sizeOf27 rfl rfl rfl (E.allOne rfl) rfl ?_
      have hT := hb.hasT 1 rfl
      clear hb; intro w25 hb hO
      replace o1 := ONodes.keeps o1 (Keeps.only hO hT (by decide)) (S := fun U => U = 32 ∨ U = 45) (by decide) (by decide)
      replace o2 := OTasks.keeps o2 (Keeps.only hO hT (by decide)) (S := fun U => U = 34 ∨ U = 45) (by decide) (by decide)
      replace o3 := OBinds.keeps o3 (Keeps.only hO hT (by decide)) (S := fun U => U = 47) rfl
      clear hT
      clear hO
      refine E.WL.done ?_
      refine E.KQ.then_n ?_
      refine E.W.ret ?_
      refine E.KQ.retc Tryz.results6 rfl (E.At.ldk Tryz.isAgg27 Tryz.sizeOf27 (hb.at0 1 rfl) rfl) ?_
      exact ⟨_, rfl, ⟨_, rfl, ⟨_, _, _, _, _, _, rfl, o1, o2, o3⟩⟩, hb.below⟩
end Go.Proofs.YtmnnbnajnfdncaaGreatDoor
