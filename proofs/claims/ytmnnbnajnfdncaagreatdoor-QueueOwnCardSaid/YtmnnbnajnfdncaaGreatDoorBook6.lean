/- Walks: book, sixth part: a book of one's own. -/
import Derived.Test.YtmnnbnajnfdncaaGreatDoorD5
import Derived.Test.YtmnnbnajnfdncaaGreatDoorBook5
set_option linter.unusedVariables false
set_option linter.unusedSimpArgs false
namespace Go.Proofs.YtmnnbnajnfdncaaGreatDoor
open Go.RowKit E
set_option maxHeartbeats 4000000 in
theorem own_calls {F : FP} {w : World} {cs : List Value} {b : BookD} (h : RBook F w cs b) :
    Calls Tryz.prog 16 #[(.agg cs.toArray)] w (Ret fun u w' => (∃ cs', u = .agg cs'.toArray ∧ OBook w.heap.size w' cs' b) ∧ Ext w w') := by
  replace h := h.old
  obtain ⟨vn, vt, vb, rfl, hn, ht, hbi⟩ := id h
  obtain ⟨Ab, cb, rfl, hcb, hbyb, hgb⟩ := hbi.open_
  obtain ⟨At', ct, rfl, hct, hbyt, hgt⟩ := ht.open_
  obtain ⟨An, cn, rfl, hcn, hbyn, hgn⟩ := hn.open_
  have hb := E.Bx.start w (base := w.heap.size) (Nat.le_refl _)
  refine E.enter Tryz.func16 rfl Tryz.ntmps16 [(.agg #[.slice An b.nodes.length cn, .slice At' b.tasks.length ct, .slice Ab b.binds.length cb, .int .u64 b.fence])] rfl ?_
  refine E.W.seq ?_
  refine E.W.region ?_
  refine E.WL.box hb rfl rfl rfl rfl ?_
  clear hb; intro B1 w2 hb _ _
  refine E.WL.alloc hb Tryz.zeroValue27 rfl rfl rfl ?_
  clear hb; intro B2 w4 hb _ _
  refine E.WL.done ?_
  refine E.KQ.then_n ?_
  refine E.W.seq ?_
  have hb0 := hb
  refine E.W.regionD (E.heads 10 []) rfl ?_
  replace hb := hb.drew
  have hE := E.Ext.drew w4
  refine E.DL.take 0 rfl (by kernel_rfl) (by kernel_rfl) (fun w' hw => E.y_fld Tryz.underlying27 rfl Tryz.sizeOf22 rfl) rfl rfl rfl (fun _ _ _ _ h => by obtain ⟨_, _, h, _⟩ := h; cases h) hE ?_
  refine E.DL.take 1 rfl (by kernel_rfl) (by kernel_rfl) (fun w' hw => E.y_load rfl (E.At.ld1 Tryz.isAgg22 ((hb0.ext hw).at0 1 rfl) 0 rfl)) rfl rfl rfl (fun _ _ _ _ h => by obtain ⟨_, _, h, _⟩ := h; cases h) hE ?_
  refine E.DL.take 3 rfl (by kernel_rfl) (by kernel_rfl) (fun w' hw => E.y_fld Tryz.underlying27 rfl Tryz.sizeOf23 rfl) rfl rfl rfl (fun _ _ _ _ h => by obtain ⟨_, _, h, _⟩ := h; cases h) hE ?_
  refine E.DL.take 4 rfl (by kernel_rfl) (by kernel_rfl) (fun w' hw => E.y_load rfl (E.At.ld1 Tryz.isAgg23 ((hb0.ext hw).at0 1 rfl) 1 rfl)) rfl rfl rfl (fun _ _ _ _ h => by obtain ⟨_, _, h, _⟩ := h; cases h) hE ?_
  refine E.DL.take 6 rfl (by kernel_rfl) (by kernel_rfl) (fun w' hw => E.y_fld Tryz.underlying27 rfl Tryz.sizeOf24 rfl) rfl rfl rfl (fun _ _ _ _ h => by obtain ⟨_, _, h, _⟩ := h; cases h) hE ?_
  refine E.DL.take 7 rfl (by kernel_rfl) (by kernel_rfl) (fun w' hw => E.y_load rfl (E.At.ld1 Tryz.isAgg24 ((hb0.ext hw).at0 1 rfl) 2 rfl)) rfl rfl rfl (fun _ _ _ _ h => by obtain ⟨_, _, h, _⟩ := h; cases h) hE ?_
  refine E.DL.only 2 rfl (by kernel_rfl) (fun hsh => ?_)
  refine E.WL.call (cloneNode_calls (hn.ext RNode.goes hb.below)) Tryz.call48 rfl rfl rfl ?_
  rintro v' w5 ⟨⟨_, news1, rfl, own1, rows1⟩, hX⟩
  have hle := hb.le
  replace rows1 := rows1.to (fun cs x hx => RNode.goes.stays hx (Stays.back hb.below))
  replace hb := hb.ext hX
  replace own1 := ownsRow_le own1 hle
  obtain ⟨A1, c1, rfl, hA1⟩ := ownsRow_open own1
  clear hle
  refine E.WL.done ?_
  replace hE := hE.trans hX
  clear hX
  refine E.DL.next hsh (.inl hE) ?_
  clear hsh
  refine E.DL.take 9 rfl (by kernel_rfl) (by kernel_rfl) (fun w' hw => E.y_fld Tryz.underlying27 rfl Tryz.sizeOf22 rfl) rfl rfl rfl (fun _ _ _ _ h => by obtain ⟨_, _, h, _⟩ := h; cases h) hE ?_
  refine E.DL.only 5 rfl (by kernel_rfl) (fun hsh => ?_)
  refine E.WL.call (cloneTask_calls (ht.ext RTask.goes hb.below)) Tryz.call49 rfl rfl rfl ?_
  rintro v' w6 ⟨⟨_, news2, rfl, own2, rows2⟩, hX⟩
  have hle := hb.le
  replace rows2 := rows2.to (fun cs x hx => RTask.goes.stays hx (Stays.back hb.below))
  replace hb := hb.ext hX
  replace own1 := ownsRow_keeps own1 (Keeps.ext hX) (S := rowS) (by decide)
  replace own2 := ownsRow_le own2 hle
  obtain ⟨A2, c2, rfl, hA2⟩ := ownsRow_open own2
  clear hle
  refine E.WL.done ?_
  replace hE := hE.trans hX
  clear hX
  refine E.DL.next hsh (.inl hE) ?_
  clear hsh
  refine E.DL.only 8 rfl (by kernel_rfl) (fun hsh => ?_)
  refine E.WL.call (cloneBind_calls (hbi.ext RBind.goes hb.below)) Tryz.call50 rfl rfl rfl ?_
  rintro v' w7 ⟨⟨_, news3, rfl, own3, rows3⟩, hX⟩
  have hle := hb.le
  replace rows3 := rows3.to (fun cs x hx => RBind.goes.stays hx (Stays.back hb.below))
  replace hb := hb.ext hX
  replace own1 := ownsRow_keeps own1 (Keeps.ext hX) (S := rowS) (by decide)
  replace own2 := ownsRow_keeps own2 (Keeps.ext hX) (S := rowS) (by decide)
  replace own3 := ownsRow_le own3 hle
  obtain ⟨A3, c3, rfl, hA3⟩ := ownsRow_open own3
  clear hle
  refine E.WL.done ?_
  replace hE := hE.trans hX
  clear hX
  refine E.DL.next hsh (.inl hE) ?_
  clear hsh
  refine E.DL.only 10 rfl (by kernel_rfl) (fun hsh => ?_)
  refine E.WL.store hb 1 0 rfl rfl rfl Tryz.sizeOf22 rfl rfl rfl (E.allOne rfl) rfl ?_
  have hT := hb.hasT 1 rfl
  clear hb; intro w8 hb hO
  replace own1 := ownsRow_keeps own1 (Keeps.only hO hT (by decide)) (S := rowS) (by decide)
  replace own2 := ownsRow_keeps own2 (Keeps.only hO hT (by decide)) (S := rowS) (by decide)
  replace own3 := ownsRow_keeps own3 (Keeps.only hO hT (by decide)) (S := rowS) (by decide)
  clear hT
  clear hO
  refine E.WL.done ?_
  refine E.DL.next hsh (.inr rfl) ?_
  clear hsh
  refine E.DL.takeU 11 rfl (by kernel_rfl) rfl (fun w' => E.y_fld Tryz.underlying27 rfl Tryz.sizeOf23 rfl) rfl rfl rfl (fun _ _ _ _ h => by obtain ⟨_, _, h, _⟩ := h; cases h) ?_
  refine E.DL.only 12 rfl (by kernel_rfl) (fun hsh => ?_)
  refine E.WL.store hb 1 1 rfl rfl rfl Tryz.sizeOf23 rfl rfl rfl (E.allOne rfl) rfl ?_
  have hT := hb.hasT 1 rfl
  clear hb; intro w9 hb hO
  replace own1 := ownsRow_keeps own1 (Keeps.only hO hT (by decide)) (S := rowS) (by decide)
  replace own2 := ownsRow_keeps own2 (Keeps.only hO hT (by decide)) (S := rowS) (by decide)
  replace own3 := ownsRow_keeps own3 (Keeps.only hO hT (by decide)) (S := rowS) (by decide)
  clear hT
  clear hO
  refine E.WL.done ?_
  refine E.DL.next hsh (.inr rfl) ?_
  clear hsh
  refine E.DL.takeU 13 rfl (by kernel_rfl) rfl (fun w' => E.y_fld Tryz.underlying27 rfl Tryz.sizeOf24 rfl) rfl rfl rfl (fun _ _ _ _ h => by obtain ⟨_, _, h, _⟩ := h; cases h) ?_
  refine E.DL.only 14 rfl (by kernel_rfl) (fun hsh => ?_)
  refine E.WL.store hb 1 2 rfl rfl rfl Tryz.sizeOf24 rfl rfl rfl (E.allOne rfl) rfl ?_
  have hT := hb.hasT 1 rfl
  clear hb; intro w10 hb hO
  replace own1 := ownsRow_keeps own1 (Keeps.only hO hT (by decide)) (S := rowS) (by decide)
  replace own2 := ownsRow_keeps own2 (Keeps.only hO hT (by decide)) (S := rowS) (by decide)
  replace own3 := ownsRow_keeps own3 (Keeps.only hO hT (by decide)) (S := rowS) (by decide)
  clear hT
  clear hO
  refine E.WL.done ?_
  refine E.DL.next hsh (.inr rfl) ?_
  clear hsh
  refine E.DL.done (by kernel_rfl) ?_
  clear hE hb0
  refine E.KQ.then_n ?_
  refine E.W.seq ?_
  refine E.W.seq ?_
  refine E.W.region ?_
  refine E.WL.val (E.y_fld Tryz.underlying27 rfl Tryz.sizeOf22 rfl) rfl rfl rfl ?_
  refine E.WL.val (E.y_load rfl (E.At.ld1 Tryz.isAgg22 (hb.at0 1 rfl) 0 rfl)) rfl rfl rfl ?_
  refine E.WL.val (E.y_lenS Tryz.underlying22 rfl) rfl rfl rfl ?_
  refine E.WL.val (E.y_move rfl) rfl rfl rfl ?_
  refine E.WL.done ?_
  refine E.KQ.then_n ?_
  refine E.W.block ?_
  refine E.W.loop (ι := Nat × List Value) (fun κ => [(1, .pointer (some ⟨B1, 0, none⟩)), (2, .pointer (some ⟨B2, 0, none⟩)), (19, .int .i64 b.nodes.length), (20, .int .i64 (κ.1 : Nat))]) (fun κ w' => Bx w.heap.size w w' [(B2, [.slice none 0 0, .slice none 0 0, .slice none 0 0, .int .u64 0], 27), (B1, [.slice A1 b.nodes.length c1, .slice A2 b.tasks.length c2, .slice A3 b.binds.length c3, .int .u64 b.fence], 27)] ∧ κ.1 ≤ b.nodes.length ∧ w'.ownsRow w.heap.size 32 6 (.slice A1 b.nodes.length c1) b.nodes.length κ.2 ∧ (∀ j x, b.nodes[j]? = some x → j < κ.1 → RNode (Own w.heap.size w') w' (cut 6 j κ.2) x) ∧ (∀ j x, b.nodes[j]? = some x → κ.1 ≤ j → RNode (Old w) w (cut 6 j κ.2) x) ∧ w'.ownsRow w.heap.size 34 9 (.slice A2 b.tasks.length c2) b.tasks.length news2 ∧ w'.ownsRow w.heap.size 47 2 (.slice A3 b.binds.length c3) b.binds.length news3) (fun κ => b.nodes.length - κ.1) ((0, news1)) (by exact (.cons rfl (.cons rfl (.cons rfl (.cons rfl .nil))))) ⟨hb, Nat.zero_le _, own1, fun j x _ h => absurd h (Nat.not_lt_zero _), fun j x hx _ => rows1.each j x hx, own2, own3⟩ (fun κ w11 hJ => ?_)
  clear hb own1 own2 own3
  obtain ⟨k, nw1⟩ := κ
  obtain ⟨hb, hk, own1, hdone, htodo, own2, own3⟩ := hJ
  simp only at hk own1 hdone htodo
  refine E.W.seq ?_
  refine E.W.region ?_
  refine E.WL.val (E.y_lss rfl rfl) rfl rfl rfl ?_
  refine E.WL.done ?_
  refine E.KQ.then_n ?_
  refine E.W.seq ?_
  refine E.W.condT 21 rfl (fun hc21 => ?_) (fun hc21 => ?_)
  · replace hc21 := of_decide_eq_true hc21
    refine E.W.skip ?_
    refine E.KQ.then_n ?_
    refine E.W.seq ?_
    refine E.W.block ?_
    refine E.W.seq ?_
    refine E.W.region ?_
    refine E.WL.val (E.y_move rfl) rfl rfl rfl ?_
    refine E.WL.val (E.y_assign rfl) rfl rfl rfl ?_
    refine E.WL.done ?_
    refine E.KQ.then_n ?_
    have hkl : k < b.nodes.length := by omega
    obtain ⟨g, rfl⟩ := hA1 (by omega)
    have hat := At.cut_ (ownsRow_at own1) 6 k
    have hnl := own1.1
    have hcl0 := cut_len hnl hkl
    have hb0 := hb
    refine E.W.regionD (E.heads 10 []) rfl ?_
    replace hb := hb.drew
    replace own1 := ownsRow_keeps own1 (Keeps.ext (E.Ext.drew _)) (S := rowS) (by decide)
    replace own2 := ownsRow_keeps own2 (Keeps.ext (E.Ext.drew _)) (S := rowS) (by decide)
    replace own3 := ownsRow_keeps own3 (Keeps.ext (E.Ext.drew _)) (S := rowS) (by decide)
    replace hdone := fun i x hx hi => RNode.keeps (hdone i x hx hi) (Keeps.ext (E.Ext.drew _)) (S := rowS) (by decide)
    have hE := E.Ext.drew w11
    refine E.DL.take 0 rfl (by kernel_rfl) (by kernel_rfl) (fun w' hw => E.y_fld Tryz.underlying27 rfl Tryz.sizeOf22 rfl) rfl rfl rfl (fun _ _ _ _ h => by obtain ⟨_, _, h, _⟩ := h; cases h) hE ?_
    refine E.DL.take 1 rfl (by kernel_rfl) (by kernel_rfl) (fun w' hw => E.y_load rfl (E.At.ld1 Tryz.isAgg22 ((hb0.ext hw).at0 1 rfl) 0 rfl)) rfl rfl rfl (fun _ _ _ _ h => by obtain ⟨_, _, h, _⟩ := h; cases h) hE ?_
    refine E.DL.take 2 rfl (by kernel_rfl) (by kernel_rfl) (fun w' hw => E.y_move rfl) rfl rfl rfl (fun _ _ _ _ h => by obtain ⟨_, _, h, _⟩ := h; cases h) hE ?_
    refine E.DL.take 3 rfl (by kernel_rfl) (by kernel_rfl) (fun w' hw => E.y_fld Tryz.underlying27 rfl Tryz.sizeOf22 rfl) rfl rfl rfl (fun _ _ _ _ h => by obtain ⟨_, _, h, _⟩ := h; cases h) hE ?_
    refine E.DL.take 4 rfl (by kernel_rfl) (by kernel_rfl) (fun w' hw => E.y_load rfl (E.At.ld1 Tryz.isAgg22 ((hb0.ext hw).at0 1 rfl) 0 rfl)) rfl rfl rfl (fun _ _ _ _ h => by obtain ⟨_, _, h, _⟩ := h; cases h) hE ?_
    refine E.DL.take 5 rfl (by kernel_rfl) (by kernel_rfl) (fun w' hw => E.y_move rfl) rfl rfl rfl (fun _ _ _ _ h => by obtain ⟨_, _, h, _⟩ := h; cases h) hE ?_
    refine E.DL.take 6 rfl (by kernel_rfl) (by kernel_rfl) (fun w' hw => E.y_idxS Tryz.underlying22 Tryz.sizeOf32 rfl rfl (by omega) (by omega)) rfl rfl rfl (fun _ _ _ _ h => by obtain ⟨_, _, h, _⟩ := h; cases h) hE ?_
    refine E.DL.take 7 rfl (by kernel_rfl) (by kernel_rfl) (fun w' hw => E.y_load rfl (E.At.ldk Tryz.isAgg32 Tryz.sizeOf32 (hat.ext hw) hcl0)) rfl rfl rfl (fun _ _ _ _ h => by obtain ⟨_, _, h, _⟩ := h; cases h) hE ?_
    refine E.DL.only 8 rfl (by kernel_rfl) (fun hsh => ?_)
    refine E.WL.call (ownNode_calls (RNode.goes.stays (htodo k _ (List.getElem?_eq_getElem hkl) (Nat.le_refl _)) (Stays.ext hb.below))) Tryz.call51 rfl rfl rfl ?_
    rintro _ w12 ⟨⟨cn', rfl, hcn⟩, hX⟩
    have hle := hb.le
    replace hb := hb.ext hX
    replace own1 := ownsRow_keeps own1 (Keeps.ext hX) (S := rowS) (by decide)
    replace own2 := ownsRow_keeps own2 (Keeps.ext hX) (S := rowS) (by decide)
    replace own3 := ownsRow_keeps own3 (Keeps.ext hX) (S := rowS) (by decide)
    replace hdone := fun i x hx hi => RNode.keeps (hdone i x hx hi) (Keeps.ext hX) (S := rowS) (by decide)
    replace hcn := RNode.le hcn hle
    have hcl : cn'.length = 6 := by obtain ⟨_, _, rfl, _⟩ := hcn; rfl
    clear hle
    refine E.WL.done ?_
    replace hE := hE.trans hX
    clear hX
    refine E.DL.next hsh (.inl hE) ?_
    clear hsh
    refine E.DL.take 9 rfl (by kernel_rfl) (by kernel_rfl) (fun w' hw => E.y_idxS Tryz.underlying22 Tryz.sizeOf32 rfl rfl (by omega) (by omega)) rfl rfl rfl (fun _ _ _ _ h => by obtain ⟨_, _, h, _⟩ := h; cases h) hE ?_
    refine E.DL.only 10 rfl (by kernel_rfl) (fun hsh => ?_)
    refine WL.storeOwn (i := k) (k := 6) own1 hkl rfl rfl Tryz.sizeOf32 rfl hcl hcn.one rfl ?_
    clear own1
    intro w13 own1 hO hT hB
    replace hb := hb.turn hO hT hB rfl
    replace own2 := ownsRow_keeps own2 (Keeps.only hO hT (by decide)) (S := fun U => U = 34) rfl
    replace own3 := ownsRow_keeps own3 (Keeps.only hO hT (by decide)) (S := fun U => U = 47) rfl
    replace hdone := fun i x hx hi => RNode.keeps (hdone i x hx hi) (Keeps.only hO hT (by decide)) (S := fun U => U = 45) rfl
    replace hcn := RNode.keeps hcn (Keeps.only hO hT (by decide)) (S := fun U => U = 45) rfl
    clear hO hT hB
    refine E.WL.done ?_
    refine E.DL.next hsh (.inr rfl) ?_
    clear hsh
    refine E.DL.done (by kernel_rfl) ?_
    clear hE hb0
    refine E.KQ.block_n ?_
    refine E.KQ.then_n ?_
    refine E.W.region ?_
    refine E.WL.val (E.y_add rfl rfl (Go.IntWalk.i64_in _ (by omega))) rfl rfl rfl ?_
    refine E.WL.val (E.y_move rfl) rfl rfl rfl ?_
    refine E.WL.done ?_
    refine E.KQ.next (ι := Nat × List Value) (k + 1, ovw nw1 (k * 6) cn') (by exact .cons rfl (.cons rfl (.cons rfl (.cons rfl .nil)))) ⟨hb, by omega, own1, fun j x hx hj => ?_, fun j x hx hj => ?_, own2, own3⟩ (by show b.nodes.length - (k + 1) < b.nodes.length - k; omega)
    · rcases Nat.lt_or_ge j k with e | e
      · rw [cut_ovw_other hnl hcl hkl (by omega)]; exact hdone j x hx e
      · obtain rfl : j = k := by omega
        rw [cut_ovw_same hnl hcl hkl]; rw [List.getElem?_eq_getElem hkl] at hx; injection hx with hx; subst hx; exact hcn
    · rw [cut_ovw_other hnl hcl hkl (by omega)]; exact htodo j x hx (by omega)
  · replace hc21 := of_decide_eq_false hc21
    have hn1 : ∀ j x, b.nodes[j]? = some x → RNode (Own w.heap.size w11) w11 (cut 6 j nw1) x := fun j x hx => hdone j x hx (by have := (List.getElem?_eq_some_iff.1 hx).1; omega)
    refine E.W.exit ?_
    refine E.KQ.then_e ?_
    refine E.KQ.loop_e ?_
    refine E.KQ.block_e ?_
    refine E.KQ.then_n ?_
    refine E.W.seq ?_
    refine E.W.seq ?_
    refine E.W.region ?_
    refine E.WL.val (E.y_fld Tryz.underlying27 rfl Tryz.sizeOf23 rfl) rfl rfl rfl ?_
    refine E.WL.val (E.y_load rfl (E.At.ld1 Tryz.isAgg23 (hb.at0 1 rfl) 1 rfl)) rfl rfl rfl ?_
    refine E.WL.val (E.y_lenS Tryz.underlying23 rfl) rfl rfl rfl ?_
    refine E.WL.val (E.y_move rfl) rfl rfl rfl ?_
    refine E.WL.done ?_
    refine E.KQ.then_n ?_
    refine E.W.block ?_
    refine E.W.loop (ι := Nat × List Value) (fun κ => [(1, .pointer (some ⟨B1, 0, none⟩)), (2, .pointer (some ⟨B2, 0, none⟩)), (36, .int .i64 b.tasks.length), (37, .int .i64 (κ.1 : Nat))]) (fun κ w' => Bx w.heap.size w w' [(B2, [.slice none 0 0, .slice none 0 0, .slice none 0 0, .int .u64 0], 27), (B1, [.slice A1 b.nodes.length c1, .slice A2 b.tasks.length c2, .slice A3 b.binds.length c3, .int .u64 b.fence], 27)] ∧ κ.1 ≤ b.tasks.length ∧ w'.ownsRow w.heap.size 34 9 (.slice A2 b.tasks.length c2) b.tasks.length κ.2 ∧ (∀ j x, b.tasks[j]? = some x → j < κ.1 → RTask (Own w.heap.size w') w' (cut 9 j κ.2) x) ∧ (∀ j x, b.tasks[j]? = some x → κ.1 ≤ j → RTask (Old w) w (cut 9 j κ.2) x) ∧ w'.ownsRow w.heap.size 32 6 (.slice A1 b.nodes.length c1) b.nodes.length nw1 ∧ w'.ownsRow w.heap.size 47 2 (.slice A3 b.binds.length c3) b.binds.length news3 ∧ (∀ j x, b.nodes[j]? = some x → RNode (Own w.heap.size w') w' (cut 6 j nw1) x)) (fun κ => b.tasks.length - κ.1) ((0, news2)) (by exact (.cons rfl (.cons rfl (.cons rfl (.cons rfl .nil))))) ⟨hb, Nat.zero_le _, own2, fun j x _ h => absurd h (Nat.not_lt_zero _), fun j x hx _ => rows2.each j x hx, own1, own3, hn1⟩ (fun κ w14 hJ => ?_)
    clear hb own1 own2 own3 hn1
    obtain ⟨k, nw2⟩ := κ
    obtain ⟨hb, hk, own2, hdone, htodo, own1, own3, hn1⟩ := hJ
    simp only at hk own2 hdone htodo
    refine E.W.seq ?_
    refine E.W.region ?_
    refine E.WL.val (E.y_lss rfl rfl) rfl rfl rfl ?_
    refine E.WL.done ?_
    refine E.KQ.then_n ?_
    refine E.W.seq ?_
    refine E.W.condT 38 rfl (fun hc38 => ?_) (fun hc38 => ?_)
    · replace hc38 := of_decide_eq_true hc38
      refine E.W.skip ?_
      refine E.KQ.then_n ?_
      refine E.W.seq ?_
      refine E.W.block ?_
      refine E.W.seq ?_
      refine E.W.region ?_
      refine E.WL.val (E.y_move rfl) rfl rfl rfl ?_
      refine E.WL.val (E.y_assign rfl) rfl rfl rfl ?_
      refine E.WL.done ?_
      refine E.KQ.then_n ?_
      have hkl : k < b.tasks.length := by omega
      obtain ⟨g, rfl⟩ := hA2 (by omega)
      have hat := At.cut_ (ownsRow_at own2) 9 k
      have hnl := own2.1
      have hcl0 := cut_len hnl hkl
      have hb0 := hb
      refine E.W.regionD (E.heads 10 []) rfl ?_
      replace hb := hb.drew
      replace own1 := ownsRow_keeps own1 (Keeps.ext (E.Ext.drew _)) (S := rowS) (by decide)
      replace own2 := ownsRow_keeps own2 (Keeps.ext (E.Ext.drew _)) (S := rowS) (by decide)
      replace own3 := ownsRow_keeps own3 (Keeps.ext (E.Ext.drew _)) (S := rowS) (by decide)
      replace hdone := fun i x hx hi => RTask.keeps (hdone i x hx hi) (Keeps.ext (E.Ext.drew _)) (S := rowS) (by decide)
      replace hn1 := fun i x hx => RNode.keeps (hn1 i x hx) (Keeps.ext (E.Ext.drew _)) (S := rowS) (by decide)
      have hE := E.Ext.drew w14
      refine E.DL.take 0 rfl (by kernel_rfl) (by kernel_rfl) (fun w' hw => E.y_fld Tryz.underlying27 rfl Tryz.sizeOf23 rfl) rfl rfl rfl (fun _ _ _ _ h => by obtain ⟨_, _, h, _⟩ := h; cases h) hE ?_
      refine E.DL.take 1 rfl (by kernel_rfl) (by kernel_rfl) (fun w' hw => E.y_load rfl (E.At.ld1 Tryz.isAgg23 ((hb0.ext hw).at0 1 rfl) 1 rfl)) rfl rfl rfl (fun _ _ _ _ h => by obtain ⟨_, _, h, _⟩ := h; cases h) hE ?_
      refine E.DL.take 2 rfl (by kernel_rfl) (by kernel_rfl) (fun w' hw => E.y_move rfl) rfl rfl rfl (fun _ _ _ _ h => by obtain ⟨_, _, h, _⟩ := h; cases h) hE ?_
      refine E.DL.take 3 rfl (by kernel_rfl) (by kernel_rfl) (fun w' hw => E.y_fld Tryz.underlying27 rfl Tryz.sizeOf23 rfl) rfl rfl rfl (fun _ _ _ _ h => by obtain ⟨_, _, h, _⟩ := h; cases h) hE ?_
      refine E.DL.take 4 rfl (by kernel_rfl) (by kernel_rfl) (fun w' hw => E.y_load rfl (E.At.ld1 Tryz.isAgg23 ((hb0.ext hw).at0 1 rfl) 1 rfl)) rfl rfl rfl (fun _ _ _ _ h => by obtain ⟨_, _, h, _⟩ := h; cases h) hE ?_
      refine E.DL.take 5 rfl (by kernel_rfl) (by kernel_rfl) (fun w' hw => E.y_move rfl) rfl rfl rfl (fun _ _ _ _ h => by obtain ⟨_, _, h, _⟩ := h; cases h) hE ?_
      refine E.DL.take 6 rfl (by kernel_rfl) (by kernel_rfl) (fun w' hw => E.y_idxS Tryz.underlying23 Tryz.sizeOf34 rfl rfl (by omega) (by omega)) rfl rfl rfl (fun _ _ _ _ h => by obtain ⟨_, _, h, _⟩ := h; cases h) hE ?_
      refine E.DL.take 7 rfl (by kernel_rfl) (by kernel_rfl) (fun w' hw => E.y_load rfl (E.At.ldk Tryz.isAgg34 Tryz.sizeOf34 (hat.ext hw) hcl0)) rfl rfl rfl (fun _ _ _ _ h => by obtain ⟨_, _, h, _⟩ := h; cases h) hE ?_
      refine E.DL.only 8 rfl (by kernel_rfl) (fun hsh => ?_)
      refine E.WL.call (ownTask_calls (RTask.goes.stays (htodo k _ (List.getElem?_eq_getElem hkl) (Nat.le_refl _)) (Stays.ext hb.below))) Tryz.call52 rfl rfl rfl ?_
      rintro _ w15 ⟨⟨cn', rfl, hcn⟩, hX⟩
      have hle := hb.le
      replace hb := hb.ext hX
      replace own1 := ownsRow_keeps own1 (Keeps.ext hX) (S := rowS) (by decide)
      replace own2 := ownsRow_keeps own2 (Keeps.ext hX) (S := rowS) (by decide)
      replace own3 := ownsRow_keeps own3 (Keeps.ext hX) (S := rowS) (by decide)
      replace hdone := fun i x hx hi => RTask.keeps (hdone i x hx hi) (Keeps.ext hX) (S := rowS) (by decide)
      replace hn1 := fun i x hx => RNode.keeps (hn1 i x hx) (Keeps.ext hX) (S := rowS) (by decide)
      replace hcn := RTask.le hcn hle
      have hcl : cn'.length = 9 := by obtain ⟨_, _, rfl, _⟩ := hcn; rfl
      clear hle
      refine E.WL.done ?_
      replace hE := hE.trans hX
      clear hX
      refine E.DL.next hsh (.inl hE) ?_
      clear hsh
      refine E.DL.take 9 rfl (by kernel_rfl) (by kernel_rfl) (fun w' hw => E.y_idxS Tryz.underlying23 Tryz.sizeOf34 rfl rfl (by omega) (by omega)) rfl rfl rfl (fun _ _ _ _ h => by obtain ⟨_, _, h, _⟩ := h; cases h) hE ?_
      refine E.DL.only 10 rfl (by kernel_rfl) (fun hsh => ?_)
      refine WL.storeOwn (i := k) (k := 9) own2 hkl rfl rfl Tryz.sizeOf34 rfl hcl hcn.one rfl ?_
      clear own2
      intro w16 own2 hO hT hB
      replace hb := hb.turn hO hT hB rfl
      replace own1 := ownsRow_keeps own1 (Keeps.only hO hT (by decide)) (S := fun U => U = 32) rfl
      replace own3 := ownsRow_keeps own3 (Keeps.only hO hT (by decide)) (S := fun U => U = 47) rfl
      replace hdone := fun i x hx hi => RTask.keeps (hdone i x hx hi) (Keeps.only hO hT (by decide)) (S := fun U => U = 45) rfl
      replace hn1 := fun i x hx => RNode.keeps (hn1 i x hx) (Keeps.only hO hT (by decide)) (S := fun U => U = 45) rfl
      replace hcn := RTask.keeps hcn (Keeps.only hO hT (by decide)) (S := fun U => U = 45) rfl
      clear hO hT hB
      refine E.WL.done ?_
      refine E.DL.next hsh (.inr rfl) ?_
      clear hsh
      refine E.DL.done (by kernel_rfl) ?_
      clear hE hb0
      refine E.KQ.block_n ?_
      refine E.KQ.then_n ?_
      refine E.W.region ?_
      refine E.WL.val (E.y_add rfl rfl (Go.IntWalk.i64_in _ (by omega))) rfl rfl rfl ?_
      refine E.WL.val (E.y_move rfl) rfl rfl rfl ?_
      refine E.WL.done ?_
      refine E.KQ.next (ι := Nat × List Value) (k + 1, ovw nw2 (k * 9) cn') (by exact .cons rfl (.cons rfl (.cons rfl (.cons rfl .nil)))) ⟨hb, by omega, own2, fun j x hx hj => ?_, fun j x hx hj => ?_, own1, own3, hn1⟩ (by show b.tasks.length - (k + 1) < b.tasks.length - k; omega)
      · rcases Nat.lt_or_ge j k with e | e
        · rw [cut_ovw_other hnl hcl hkl (by omega)]; exact hdone j x hx e
        · obtain rfl : j = k := by omega
          rw [cut_ovw_same hnl hcl hkl]; rw [List.getElem?_eq_getElem hkl] at hx; injection hx with hx; subst hx; exact hcn
      · rw [cut_ovw_other hnl hcl hkl (by omega)]; exact htodo j x hx (by omega)
    · replace hc38 := of_decide_eq_false hc38
      have ht1 : ∀ j x, b.tasks[j]? = some x → RTask (Own w.heap.size w14) w14 (cut 9 j nw2) x := fun j x hx => hdone j x hx (by have := (List.getElem?_eq_some_iff.1 hx).1; omega)
      refine E.W.exit ?_
      refine E.KQ.then_e ?_
      refine E.KQ.loop_e ?_
      refine E.KQ.block_e ?_
      refine E.KQ.then_n ?_
      refine E.W.seq ?_
      refine E.W.region ?_
      refine E.WL.val (E.y_load rfl (E.At.ldk Tryz.isAgg27 Tryz.sizeOf27 (hb.at0 1 rfl) rfl)) rfl rfl rfl ?_
      refine E.WL.storeW hb 0 rfl rfl rfl Tryz.sizeOf27 rfl rfl rfl (E.allOne rfl) rfl ?_
      have hT := hb.hasT 0 rfl
      clear hb; intro w17 hb hO
      replace own1 := ownsRow_keeps own1 (Keeps.only hO hT (by decide)) (S := rowS) (by decide)
      replace own2 := ownsRow_keeps own2 (Keeps.only hO hT (by decide)) (S := rowS) (by decide)
      replace own3 := ownsRow_keeps own3 (Keeps.only hO hT (by decide)) (S := rowS) (by decide)
      replace hdone := fun i x hx hi => RTask.keeps (hdone i x hx hi) (Keeps.only hO hT (by decide)) (S := rowS) (by decide)
      replace hn1 := fun i x hx => RNode.keeps (hn1 i x hx) (Keeps.only hO hT (by decide)) (S := rowS) (by decide)
      replace ht1 := fun i x hx => RTask.keeps (ht1 i x hx) (Keeps.only hO hT (by decide)) (S := rowS) (by decide)
      clear hT
      clear hO
      refine E.WL.done ?_
      refine E.KQ.then_n ?_
      refine E.W.ret ?_
      refine E.KQ.retc Tryz.results16 rfl (E.At.ldk Tryz.isAgg27 Tryz.sizeOf27 (hb.at0 0 rfl) rfl) ?_
      exact ⟨_, rfl, ⟨_, rfl, ⟨_, _, _, _, _, _, rfl, ⟨own1, own1.1, hn1⟩, ⟨own2, own2.1, ht1⟩, ⟨own3, rows3.to fun _ _ h => h⟩⟩⟩, hb.below⟩
end Go.Proofs.YtmnnbnajnfdncaaGreatDoor
