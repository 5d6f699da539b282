/- Walks: a disk is changed. -/
import Derived.Test.YtmnnbnajnfdncaaDoorSnapd2
set_option linter.unusedVariables false
set_option linter.unusedSimpArgs false
namespace Go.Proofs.YtmnnbnajnfdncaaDoor
open Go.RowKit E
theorem setSync_eq {l : List FileD} {i : Nat} (h : i < l.length) : setSync l i = l.set i ⟨l[i].name, l[i].data, l[i].data.size⟩ := by
  unfold setSync; rw [List.getElem?_eq_getElem h]
theorem moved_t {l : List FileD} {i : Nat} {to : ByteArray} (h : i < l.length) (h1 : hasB (namesF (dropAt i l)) to = true) : moved l i to = (dropAt i l).set (posB (namesF (dropAt i l)) to) ⟨to, l[i].data, l[i].synced⟩ := by
  unfold moved; rw [List.getElem?_eq_getElem h]; exact if_pos h1
theorem moved_f {l : List FileD} {i : Nat} {to : ByteArray} (h : i < l.length) (h1 : hasB (namesF (dropAt i l)) to = false) : moved l i to = putAt (posB (namesF (dropAt i l)) to) ⟨to, l[i].data, l[i].synced⟩ (dropAt i l) := by
  unfold moved; rw [List.getElem?_eq_getElem h]; exact if_neg (by rw [h1]; decide)
theorem moved_len {l : List FileD} {i : Nat} (h : i < l.length) (to : ByteArray) : (moved l i to).length ≤ l.length := by
  have h1 := dropAt_len h
  cases hh : hasB (namesF (dropAt i l)) to with
  | true => rw [moved_t h hh, List.length_set]; omega
  | false => rw [moved_f h hh, putAt_len (namePos_le _ _)]; omega
theorem Bx.beside {w w' w0 : World} {base B : Nat} {bl : Bxs} {cx : List Value} {T : TypeId} (hb : Bx base w0 w ((B, cx, T) :: bl)) (hg : w'.heap[B]? = some (.cells cx.toArray T (0, 0))) (hK : Keeps (fun U => U ≠ T) w w') (hB : Below base w w') (hne : ∀ p ∈ bl, p.2.2 ≠ T) : Bx base w0 w' ((B, cx, T) :: bl) :=
  ⟨hb.below.trans hB, Nat.le_trans hb.le hB.size, fun p hp => by
    have h1 := hb.cell p hp
    rcases List.mem_cons.1 hp with rfl | hp'
    · exact ⟨h1.1, hg⟩
    · exact ⟨h1.1, (hK.block p.2.2 p.1 (hne p hp') ⟨_, h1.2⟩).trans h1.2⟩, hb.nodup⟩
theorem ne51 {bl : Bxs} {T : TypeId} (h : (bl.all fun p => !(p.2.2 == T)) = true) : ∀ p ∈ bl, p.2.2 ≠ T := fun p hp => by
  have := List.all_eq_true.1 h p hp
  simpa using this
theorem OFiles.only_ {base B : Nat} {w w' : World} {v : Value} {xs : List FileD} {nn : List Value} (h : OFiles base w v xs nn) (hO : Only B w w') (hne : v.ownBlock ≠ some B) : OFiles base w' v xs nn := by
  refine ⟨⟨h.row.1, ?_⟩, h.rows.to fun cs x hx => hx⟩
  rcases h.row.2 with hn | ⟨g, cap, cur, rfl, hb, hgg, rest⟩
  · exact .inl hn
  · exact .inr ⟨g, cap, cur, rfl, hb, (hO.block g (fun e => hne (by rw [e]; rfl))).trans hgg, rest⟩
set_option maxHeartbeats 4000000 in
theorem doneAdd_calls {F : FP} {w : World} {cs : List Value} {d : DiskD} (h : RDisk F w cs d) (hck : checkD d = true) (hdn : d.down = false) (hfz : -1 ≤ d.fuse ∧ d.fuse ≤ 9223372036854775807) (name to data : ByteArray) (size : Int) (hn : namedF name = true) (hh : hasB (namesF d.files) name = false) (hlen : d.files.length < 4096) (hds : data.size ≤ 1000000) :
    Calls Tryd.prog 21 #[(.agg cs.toArray), (.agg #[.int .u8 0, .string name, .string to, .string data, .int .i64 size])] w (Ret fun u w' => (∃ cs', u = .tuple #[.agg cs'.toArray, .int .i64 (addP d name data).2] ∧ RDisk (Tk w') w' cs' (addP d name data).1) ∧ Ext w w') := by
  obtain ⟨v, rfl, hf⟩ := id h
  obtain ⟨A, c, rfl, hc, hby, hg⟩ := hf.open_
  have hi : posB (namesF d.files) name ≤ d.files.length := namePos_le _ _
  have hb := E.Bx.start w (base := w.heap.size) (Nat.le_refl _)
  refine E.enter Tryd.func21 rfl Tryd.ntmps21 [(.agg #[.slice A d.files.length c, .bool d.down, .int .i64 d.fuse]), (.agg #[.int .u8 0, .string name, .string to, .string data, .int .i64 size])] rfl ?_
  refine E.W.seq ?_
  refine E.W.region ?_
  refine E.WL.box hb rfl rfl rfl rfl ?_
  clear hb; intro B2 w2 hb _ _
  refine E.WL.box hb rfl rfl rfl rfl ?_
  clear hb; intro B3 w4 hb _ _
  refine E.WL.alloc hb Tryd.zeroValue27 rfl rfl rfl ?_
  clear hb; intro B4 w6 hb _ _
  refine E.WL.val (E.y_assign rfl) rfl rfl rfl ?_
  refine E.WL.done ?_
  refine E.KQ.then_n ?_
  refine E.W.seq ?_
  refine E.W.seq ?_
  refine E.W.region ?_
  refine E.WL.val (E.y_load rfl (E.At.ldk Tryd.isAgg27 Tryd.sizeOf27 (hb.at0 2 rfl) rfl)) rfl rfl rfl ?_
  refine E.WL.call (check_calls (h.ext hb.below)) Tryd.call17 rfl rfl rfl ?_
  rintro _ w7 ⟨rfl, hX⟩
  replace hb := hb.ext hX
  clear hX
  refine E.WL.as 15 rfl (show _ = Value.int .i64 0 from by rw [hck]; rfl) ?_
  refine E.WL.val (E.y_assign rfl) rfl rfl rfl ?_
  refine E.WL.done ?_
  refine E.KQ.then_n ?_
  refine E.W.seq ?_
  refine E.W.region ?_
  refine E.WL.val (E.y_move rfl) rfl rfl rfl ?_
  refine E.WL.val (E.y_neq rfl rfl) rfl rfl rfl ?_
  refine E.WL.as 17 rfl (show _ = Value.bool false from congrArg Value.bool (by decide)) ?_
  refine E.WL.done ?_
  refine E.KQ.then_n ?_
  refine E.W.cond_f rfl ?_
  refine E.W.skip ?_
  refine E.KQ.then_n ?_
  refine E.W.seq ?_
  refine E.W.region ?_
  refine E.WL.val (E.y_fld Tryd.underlying27 rfl Tryd.sizeOf25 rfl) rfl rfl rfl ?_
  refine E.WL.val (E.y_load rfl (E.At.ld1 Tryd.isAgg25 (hb.at0 2 rfl) 0 rfl)) rfl rfl rfl ?_
  refine E.WL.call (cloneFile_calls (hf.ext RFile.goes hb.below)) Tryd.call18 rfl rfl rfl ?_
  rintro v1 w8 ⟨⟨_, news, rfl, own, rows⟩, hX⟩
  have hle := hb.le
  replace hb := hb.ext hX
  have o : OFiles w.heap.size w8 v1 d.files news := ⟨ownsRow_le own hle, rows.to fun cs x hx => hx⟩
  obtain ⟨A1, c1, rfl, hA1⟩ := ownsRow_open o.row
  clear own rows hX hle
  refine E.WL.val (E.y_fld Tryd.underlying27 rfl Tryd.sizeOf25 rfl) rfl rfl rfl ?_
  refine E.WL.store hb 2 0 rfl rfl rfl Tryd.sizeOf25 rfl rfl rfl (E.allOne rfl) rfl ?_
  have hT := hb.hasT 2 rfl
  clear hb; intro w9 hb hO
  replace o := OFiles.keeps o (Keeps.only hO hT (by decide)) (S := fun U => U = 51) rfl
  clear hT
  clear hO
  refine E.WL.done ?_
  refine E.KQ.then_n ?_
  refine E.W.seq ?_
  refine E.W.seq ?_
  refine E.W.region ?_
  refine E.WL.val (E.y_fld Tryd.underlying27 rfl Tryd.sizeOf4 rfl) rfl rfl rfl ?_
  refine E.WL.val (E.y_load rfl (E.At.ld1 Tryd.isAgg4 (hb.at0 2 rfl) 1 rfl)) rfl rfl rfl ?_
  refine E.WL.as 25 rfl (show _ = Value.bool false from by rw [hdn]) ?_
  refine E.WL.done ?_
  refine E.KQ.then_n ?_
  refine E.W.cond_f rfl ?_
  refine E.W.skip ?_
  refine E.KQ.then_n ?_
  refine E.W.seq ?_
  refine E.W.seq ?_
  refine E.W.region ?_
  refine E.WL.val (E.y_load rfl (E.At.ldk Tryd.isAgg59 Tryd.sizeOf59 (hb.at0 1 rfl) rfl)) rfl rfl rfl ?_
  refine E.WL.val (E.y_load rfl (E.At.ldk Tryd.isAgg27 Tryd.sizeOf27 (hb.at0 2 rfl) rfl)) rfl rfl rfl ?_
  refine E.WL.call (refusedAdd_calls (d := d) ⟨_, rfl, o.rd hby⟩ name to data size hn hh hlen) Tryd.call45 rfl rfl rfl ?_
  rintro _ w10 ⟨rfl, hX⟩
  replace hb := hb.ext hX
  replace o := OFiles.keeps o (Keeps.ext hX) (S := fun U => U = 51) rfl
  clear hX
  refine E.WL.val (E.y_assign rfl) rfl rfl rfl ?_
  refine E.WL.done ?_
  refine E.KQ.then_n ?_
  refine E.W.seq ?_
  refine E.W.region ?_
  refine E.WL.val (E.y_move rfl) rfl rfl rfl ?_
  refine E.WL.val (E.y_neq rfl rfl) rfl rfl rfl ?_
  refine E.WL.as 31 rfl (show _ = Value.bool false from congrArg Value.bool (by decide)) ?_
  refine E.WL.done ?_
  refine E.KQ.then_n ?_
  refine E.W.cond_f rfl ?_
  refine E.W.skip ?_
  refine E.KQ.then_n ?_
  refine E.W.seq ?_
  refine E.W.region ?_
  refine E.WL.val (E.y_load rfl (E.At.ldk Tryd.isAgg27 Tryd.sizeOf27 (hb.at0 2 rfl) rfl)) rfl rfl rfl ?_
  refine E.WL.val (E.y_fld Tryd.underlying59 rfl Tryd.sizeOf9 rfl) rfl rfl rfl ?_
  refine E.WL.val (E.y_load rfl (E.At.ld1 Tryd.isAgg9 (hb.at0 1 rfl) 1 rfl)) rfl rfl rfl ?_
  refine E.WL.call (place_calls (d := d) ⟨_, rfl, o.rd hby⟩ name) Tryd.call23 rfl rfl rfl ?_
  rintro _ w11 ⟨rfl, hX⟩
  replace hb := hb.ext hX
  replace o := OFiles.keeps o (Keeps.ext hX) (S := fun U => U = 51) rfl
  clear hX
  refine E.WL.val (E.y_move rfl) rfl rfl rfl ?_
  refine E.WL.val (E.y_extract rfl rfl) rfl rfl rfl ?_
  refine E.WL.val (E.y_extract rfl rfl) rfl rfl rfl ?_
  refine E.WL.val (E.y_assign rfl) rfl rfl rfl ?_
  refine E.WL.val (E.y_assign rfl) rfl rfl rfl ?_
  refine E.WL.done ?_
  refine E.KQ.then_n ?_
  refine E.W.seq ?_
  refine E.W.seq ?_
  refine E.W.region ?_
  refine E.WL.val (E.y_fld Tryd.underlying59 rfl Tryd.sizeOf57 rfl) rfl rfl rfl ?_
  refine E.WL.val (E.y_load rfl (E.At.ld1 Tryd.isAgg57 (hb.at0 1 rfl) 0 rfl)) rfl rfl rfl ?_
  refine E.WL.val (E.y_eql rfl rfl) rfl rfl rfl ?_
  refine E.WL.as 43 rfl (show _ = Value.bool true from congrArg Value.bool (decide_eq_true (by decide))) ?_
  refine E.WL.done ?_
  refine E.KQ.then_n ?_
  refine E.W.cond_t rfl ?_
  refine E.W.seq ?_
  refine E.W.seq ?_
  refine E.W.region ?_
  refine E.WL.val (E.y_move rfl) rfl rfl rfl ?_
  refine E.WL.val (E.y_not rfl) rfl rfl rfl ?_
  refine E.WL.as 45 rfl (show _ = Value.bool true from by rw [hh]; rfl) ?_
  refine E.WL.done ?_
  refine E.KQ.then_n ?_
  refine E.W.cond_t rfl ?_
  refine E.W.region ?_
  refine E.WL.val (E.y_fld Tryd.underlying27 rfl Tryd.sizeOf25 rfl) rfl rfl rfl ?_
  refine E.WL.val (E.y_load rfl (E.At.ld1 Tryd.isAgg25 (hb.at0 2 rfl) 0 rfl)) rfl rfl rfl ?_
  refine E.WL.val (E.y_move rfl) rfl rfl rfl ?_
  refine E.WL.val (E.y_fld Tryd.underlying59 rfl Tryd.sizeOf9 rfl) rfl rfl rfl ?_
  refine E.WL.val (E.y_load rfl (E.At.ld1 Tryd.isAgg9 (hb.at0 1 rfl) 1 rfl)) rfl rfl rfl ?_
  refine E.WL.val (E.y_build (v := .agg #[.string name, .string noB, .int .i64 0]) rfl (by kernel_rfl)) rfl rfl rfl ?_
  have hlt := o.row.lt
  refine E.WL.mkslice (T := 51) (cs := [.string name, .string noB, .int .i64 0]) hb rfl (fun _ => by kernel_rfl) rfl rfl ?_
  clear hb; intro B52 w13 hb hX hB52
  replace o := OFiles.keeps o (Keeps.ext hX) (S := fun U => U = 51) rfl
  clear hX
  have hgB : (Value.slice A1 d.files.length c1).ownBlock ≠ some B52 := fun e => by have := (hlt _ e).2; omega
  clear hlt
  refine E.WL.call (insertFile_calls (i := posB (namesF d.files) name) o.row hb.le (hb.at0 0 rfl) (hb.hasT 0 rfl) hgB rfl (E.allOne rfl) (o.rows.one1 (by decide) (fun cs x hx => hx.one)) hi (by omega)) Tryd.call46 rfl rfl rfl ?_
  rintro v' w14 ⟨⟨_, rfl, own'⟩, hB6, hK6⟩
  replace hb := (hb.drop (List.Sublist.cons _ (List.Sublist.refl _))).keeps hK6 hB6 (ne51 rfl)
  replace o : OFiles w.heap.size w14 v' (putAt (posB (namesF d.files) name) ⟨name, noB, 0⟩ d.files) _ := ⟨by rw [putAt_len hi]; exact own', (Rows.to (R' := RFile) (G := Own w.heap.size w14) (w' := w14) o.rows fun cs x hx => hx).putIn rfl rfl⟩
  obtain ⟨A2, c2, rfl, hA2⟩ := ownsRow_open own'
  clear own' hB6 hK6
  refine E.WL.val (E.y_fld Tryd.underlying27 rfl Tryd.sizeOf25 rfl) rfl rfl rfl ?_
  refine E.WL.store hb 2 0 rfl rfl rfl Tryd.sizeOf25 rfl rfl rfl (E.allOne rfl) rfl ?_
  have hT := hb.hasT 2 rfl
  clear hb; intro w15 hb hO
  replace o := OFiles.keeps o (Keeps.only hO hT (by decide)) (S := fun U => U = 51) rfl
  clear hT
  clear hO
  refine E.WL.done ?_
  refine E.KQ.then_n ?_
  obtain ⟨g, rfl⟩ := hA2 (by omega)
  have hpl' : posB (namesF d.files) name < d.files.length + 1 := by omega
  have hat := OFiles.at_ o (by rw [putAt_len hi]) (putAt_at hi)
  have hb0 := hb
  refine E.W.regionD (E.heads 11 []) rfl ?_
  replace hb := hb.drew
  replace o := OFiles.keeps o (Keeps.ext (E.Ext.drew _)) (S := fun U => U = 51) rfl
  have hE := E.Ext.drew w15
  refine E.DL.take 0 rfl (by kernel_rfl) (by kernel_rfl) (fun w' hw => E.y_fld Tryd.underlying27 rfl Tryd.sizeOf25 rfl) rfl rfl rfl (fun _ _ _ _ h => by obtain ⟨_, _, h, _⟩ := h; cases h) hE ?_
  refine E.DL.take 1 rfl (by kernel_rfl) (by kernel_rfl) (fun w' hw => E.y_load rfl (E.At.ld1 Tryd.isAgg25 ((hb0.ext hw).at0 2 rfl) 0 rfl)) rfl rfl rfl (fun _ _ _ _ h => by obtain ⟨_, _, h, _⟩ := h; cases h) hE ?_
  refine E.DL.take 2 rfl (by kernel_rfl) (by kernel_rfl) (fun w' hw => E.y_move rfl) rfl rfl rfl (fun _ _ _ _ h => by obtain ⟨_, _, h, _⟩ := h; cases h) hE ?_
  refine E.DL.take 3 rfl (by kernel_rfl) (by kernel_rfl) (fun w' hw => E.y_idxS Tryd.underlying25 Tryd.sizeOf51 rfl rfl (by omega) (by omega)) rfl rfl rfl (fun _ _ _ _ h => by obtain ⟨_, _, h, _⟩ := h; cases h) hE ?_
  refine E.DL.take 4 rfl (by kernel_rfl) (by kernel_rfl) (fun w' hw => E.y_fld Tryd.underlying51 rfl Tryd.sizeOf9 rfl) rfl rfl rfl (fun _ _ _ _ h => by obtain ⟨_, _, h, _⟩ := h; cases h) hE ?_
  refine E.DL.take 5 rfl (by kernel_rfl) (by kernel_rfl) (fun w' hw => E.y_load rfl (E.At.ld1 Tryd.isAgg9 (hat.ext hw) 1 rfl)) rfl rfl rfl (fun _ _ _ _ h => by obtain ⟨_, _, h, _⟩ := h; cases h) hE ?_
  refine E.DL.take 6 rfl (by kernel_rfl) (by kernel_rfl) (fun w' hw => E.y_fld Tryd.underlying59 rfl Tryd.sizeOf9 rfl) rfl rfl rfl (fun _ _ _ _ h => by obtain ⟨_, _, h, _⟩ := h; cases h) hE ?_
  refine E.DL.take 7 rfl (by kernel_rfl) (by kernel_rfl) (fun w' hw => E.y_load rfl (E.At.ld1 Tryd.isAgg9 ((hb0.ext hw).at0 1 rfl) 3 rfl)) rfl rfl rfl (fun _ _ _ _ h => by obtain ⟨_, _, h, _⟩ := h; cases h) hE ?_
  refine E.DL.take 8 rfl (by kernel_rfl) (by kernel_rfl) (fun w' hw => E.y_sadd rfl rfl (by have h00 : (⟨name, noB, 0⟩ : FileD).data.size = 0 := rfl; omega)) rfl rfl rfl (fun _ _ _ _ h => by obtain ⟨_, _, h, _⟩ := h; cases h) hE ?_
  refine E.DL.take 9 rfl (by kernel_rfl) (by kernel_rfl) (fun w' hw => E.y_idxS Tryd.underlying25 Tryd.sizeOf51 rfl rfl (by omega) (by omega)) rfl rfl rfl (fun _ _ _ _ h => by obtain ⟨_, _, h, _⟩ := h; cases h) hE ?_
  refine E.DL.take 10 rfl (by kernel_rfl) (by kernel_rfl) (fun w' hw => E.y_fld Tryd.underlying51 rfl Tryd.sizeOf9 rfl) rfl rfl rfl (fun _ _ _ _ h => by obtain ⟨_, _, h, _⟩ := h; cases h) hE ?_
  have own2 := o.row
  rw [putAt_len hi] at own2
  refine E.DL.only 11 rfl (by kernel_rfl) (fun hsh => ?_)
  refine WL.storeCell (k := 3) (o := (posB (namesF d.files) name) * 3 + 1) own2 (by have := mul_lt_le (k := 3) hpl'; omega) (show _ = some (Value.pointer (some ⟨g, (posB (namesF d.files) name) * 3 + 1, none⟩)) from congrArg (fun z => some (Value.pointer (some z))) (add2 _ _ _)) rfl Tryd.sizeOf9 rfl rfl rfl ?_
  intro w16 own3 hO hT hB
  replace hb := hb.turn hO hT hB rfl
  replace o := OFiles.set_ (j := 1) (y := ⟨name, data, 0⟩) o (putAt_at hi) (by decide) (by show [Value.string name, Value.string (noB ++ data), Value.int .i64 0] = _; rw [noB_app]) (by rw [putAt_len hi]; exact own3)
  clear own2 own3 hO hT hB hat
  refine E.WL.done ?_
  refine E.DL.next hsh (.inr rfl) ?_
  clear hsh
  rw [putAt_set hi] at o
  refine E.DL.done (by kernel_rfl) ?_
  clear hE hb0
  refine E.KQ.then_n ?_
  refine E.W.seq ?_
  refine E.W.seq ?_
  refine E.W.region ?_
  refine E.WL.val (E.y_fld Tryd.underlying27 rfl Tryd.sizeOf3 rfl) rfl rfl rfl ?_
  refine E.WL.val (E.y_load rfl (E.At.ld1 Tryd.isAgg3 (hb.at0 2 rfl) 2 rfl)) rfl rfl rfl ?_
  refine E.WL.val (E.y_eql rfl rfl) rfl rfl rfl ?_
  refine E.WL.done ?_
  refine E.KQ.then_n ?_
  refine E.W.condT 68 rfl (fun h68 => ?_) (fun h68 => ?_)
  · replace h68 := of_decide_eq_true h68
    have hq : addP d name data = (⟨putAt (posB (namesF d.files) name) ⟨name, data, 0⟩ d.files, true, d.fuse⟩, 8) := by unfold addP; rw [if_pos h68]
    refine E.W.seq ?_
    refine E.W.region ?_
    refine E.WL.val (E.y_fld Tryd.underlying27 rfl Tryd.sizeOf4 rfl) rfl rfl rfl ?_
    refine E.WL.store hb 2 1 rfl rfl rfl Tryd.sizeOf4 rfl rfl rfl (E.allOne rfl) rfl ?_
    have hT := hb.hasT 2 rfl
    clear hb; intro w17 hb hO
    replace o := OFiles.keeps o (Keeps.only hO hT (by decide)) (S := fun U => U = 51) rfl
    clear hT
    clear hO
    refine E.WL.done ?_
    refine E.KQ.then_n ?_
    refine E.W.seq ?_
    refine E.W.region ?_
    refine E.WL.val (E.y_load rfl (E.At.ldk Tryd.isAgg27 Tryd.sizeOf27 (hb.at0 2 rfl) rfl)) rfl rfl rfl ?_
    refine E.WL.storeW hb 0 rfl rfl rfl Tryd.sizeOf27 rfl rfl rfl (E.allOne rfl) rfl ?_
    have hT := hb.hasT 0 rfl
    clear hb; intro w18 hb hO
    replace o := OFiles.keeps o (Keeps.only hO hT (by decide)) (S := fun U => U = 51) rfl
    clear hT
    clear hO
    refine E.WL.val (E.y_assign rfl) rfl rfl rfl ?_
    refine E.WL.done ?_
    refine E.KQ.then_n ?_
    refine E.W.ret ?_
    refine E.KQ.then_r ?_
    refine E.KQ.retct Tryd.results21 rfl (E.At.ldk Tryd.isAgg27 Tryd.sizeOf27 (hb.at0 0 rfl) rfl) rfl ?_
    exact ⟨_, rfl, ⟨_, by rw [hq], by rw [hq]; exact ⟨_, rfl, (o.rd (by rw [putAt_len hi]; omega)).mono RFile.goes (fun _ _ hB => Own.le (Nat.zero_le _) hB)⟩⟩, hb.below⟩
  · replace h68 := of_decide_eq_false h68
    have hq : addP d name data = (⟨putAt (posB (namesF d.files) name) ⟨name, data, 0⟩ d.files, d.down, decF d.fuse⟩, 0) := by unfold addP; rw [if_neg h68]
    refine E.W.skip ?_
    refine E.KQ.then_n ?_
    refine E.W.seq ?_
    refine E.W.seq ?_
    refine E.W.region ?_
    refine E.WL.val (E.y_fld Tryd.underlying27 rfl Tryd.sizeOf3 rfl) rfl rfl rfl ?_
    refine E.WL.val (E.y_load rfl (E.At.ld1 Tryd.isAgg3 (hb.at0 2 rfl) 2 rfl)) rfl rfl rfl ?_
    refine E.WL.val (E.y_gtr rfl rfl) rfl rfl rfl ?_
    refine E.WL.done ?_
    refine E.KQ.then_n ?_
    refine E.W.condT 73 rfl (fun h73 => ?_) (fun h73 => ?_)
    · replace h73 := of_decide_eq_true h73
      have hd : decF d.fuse = d.fuse - 1 := if_pos h73
      refine E.W.region ?_
      refine E.WL.val (E.y_fld Tryd.underlying27 rfl Tryd.sizeOf3 rfl) rfl rfl rfl ?_
      refine E.WL.val (E.y_load rfl (E.At.ld1 Tryd.isAgg3 (hb.at0 2 rfl) 2 rfl)) rfl rfl rfl ?_
      refine E.WL.val (E.y_sub rfl rfl (Go.IntWalk.i64_in _ (by omega))) rfl rfl rfl ?_
      refine E.WL.val (E.y_fld Tryd.underlying27 rfl Tryd.sizeOf3 rfl) rfl rfl rfl ?_
      refine E.WL.store hb 2 2 rfl rfl rfl Tryd.sizeOf3 rfl rfl rfl (E.allOne rfl) rfl ?_
      have hT := hb.hasT 2 rfl
      clear hb; intro w19 hb hO
      replace o := OFiles.keeps o (Keeps.only hO hT (by decide)) (S := fun U => U = 51) rfl
      clear hT
      clear hO
      refine E.WL.done ?_
      refine E.KQ.then_n ?_
      refine E.W.seq ?_
      refine E.W.region ?_
      refine E.WL.val (E.y_fld Tryd.underlying27 rfl Tryd.sizeOf25 rfl) rfl rfl rfl ?_
      refine E.WL.val (E.y_load rfl (E.At.ld1 Tryd.isAgg25 (hb.at0 2 rfl) 0 rfl)) rfl rfl rfl ?_
      refine E.WL.val (E.y_move rfl) rfl rfl rfl ?_
      refine E.WL.val (E.y_idxS Tryd.underlying25 Tryd.sizeOf51 rfl rfl (by omega) (by omega)) rfl rfl rfl ?_
      refine E.WL.val (E.y_assign rfl) rfl rfl rfl ?_
      refine E.WL.done ?_
      refine E.KQ.then_n ?_
      refine E.W.seq ?_
      refine E.W.seq ?_
      refine E.W.region ?_
      refine E.WL.val (E.y_fld Tryd.underlying59 rfl Tryd.sizeOf57 rfl) rfl rfl rfl ?_
      refine E.WL.val (E.y_load rfl (E.At.ld1 Tryd.isAgg57 (hb.at0 1 rfl) 0 rfl)) rfl rfl rfl ?_
      refine E.WL.done ?_
      refine E.KQ.then_n ?_
      refine E.W.block ?_
      refine E.W.seq ?_
      refine E.W.region ?_
      refine E.WL.val (E.y_eql rfl rfl) rfl rfl rfl ?_
      refine E.WL.as 85 rfl (show _ = Value.bool false from congrArg Value.bool (decide_eq_false (by decide))) ?_
      refine E.WL.val (E.y_assign rfl) rfl rfl rfl ?_
      refine E.WL.done ?_
      refine E.KQ.then_n ?_
      refine E.W.cond_f rfl ?_
      refine E.W.seq ?_
      refine E.W.region ?_
      refine E.WL.val (E.y_eql rfl rfl) rfl rfl rfl ?_
      refine E.WL.as 95 rfl (show _ = Value.bool false from congrArg Value.bool (decide_eq_false (by decide))) ?_
      refine E.WL.val (E.y_assign rfl) rfl rfl rfl ?_
      refine E.WL.done ?_
      refine E.KQ.then_n ?_
      refine E.W.cond_f rfl ?_
      refine E.W.seq ?_
      refine E.W.region ?_
      refine E.WL.val (E.y_eql rfl rfl) rfl rfl rfl ?_
      refine E.WL.as 117 rfl (show _ = Value.bool false from congrArg Value.bool (decide_eq_false (by decide))) ?_
      refine E.WL.val (E.y_assign rfl) rfl rfl rfl ?_
      refine E.WL.done ?_
      refine E.KQ.then_n ?_
      refine E.W.cond_f rfl ?_
      refine E.W.seq ?_
      refine E.W.region ?_
      refine E.WL.val (E.y_eql rfl rfl) rfl rfl rfl ?_
      refine E.WL.as 126 rfl (show _ = Value.bool false from congrArg Value.bool (decide_eq_false (by decide))) ?_
      refine E.WL.val (E.y_assign rfl) rfl rfl rfl ?_
      refine E.WL.done ?_
      refine E.KQ.then_n ?_
      refine E.W.cond_f rfl ?_
      refine E.W.skip ?_
      refine E.KQ.block_n ?_
      refine E.KQ.then_n ?_
      refine E.W.seq ?_
      refine E.W.region ?_
      refine E.WL.val (E.y_load rfl (E.At.ldk Tryd.isAgg27 Tryd.sizeOf27 (hb.at0 2 rfl) rfl)) rfl rfl rfl ?_
      refine E.WL.storeW hb 0 rfl rfl rfl Tryd.sizeOf27 rfl rfl rfl (E.allOne rfl) rfl ?_
      have hT := hb.hasT 0 rfl
      clear hb; intro w20 hb hO
      replace o := OFiles.keeps o (Keeps.only hO hT (by decide)) (S := fun U => U = 51) rfl
      clear hT
      clear hO
      refine E.WL.val (E.y_assign rfl) rfl rfl rfl ?_
      refine E.WL.done ?_
      refine E.KQ.then_n ?_
      refine E.W.ret ?_
      refine E.KQ.retct Tryd.results21 rfl (E.At.ldk Tryd.isAgg27 Tryd.sizeOf27 (hb.at0 0 rfl) rfl) rfl ?_
      exact ⟨_, rfl, ⟨_, by rw [hq], by rw [hq, hd]; exact ⟨_, rfl, (o.rd (by rw [putAt_len hi]; omega)).mono RFile.goes (fun _ _ hB => Own.le (Nat.zero_le _) hB)⟩⟩, hb.below⟩
    · replace h73 := of_decide_eq_false h73
      have hd : decF d.fuse = d.fuse := if_neg h73
      refine E.W.skip ?_
      refine E.KQ.then_n ?_
      refine E.W.seq ?_
      refine E.W.region ?_
      refine E.WL.val (E.y_fld Tryd.underlying27 rfl Tryd.sizeOf25 rfl) rfl rfl rfl ?_
      refine E.WL.val (E.y_load rfl (E.At.ld1 Tryd.isAgg25 (hb.at0 2 rfl) 0 rfl)) rfl rfl rfl ?_
      refine E.WL.val (E.y_move rfl) rfl rfl rfl ?_
      refine E.WL.val (E.y_idxS Tryd.underlying25 Tryd.sizeOf51 rfl rfl (by omega) (by omega)) rfl rfl rfl ?_
      refine E.WL.val (E.y_assign rfl) rfl rfl rfl ?_
      refine E.WL.done ?_
      refine E.KQ.then_n ?_
      refine E.W.seq ?_
      refine E.W.seq ?_
      refine E.W.region ?_
      refine E.WL.val (E.y_fld Tryd.underlying59 rfl Tryd.sizeOf57 rfl) rfl rfl rfl ?_
      refine E.WL.val (E.y_load rfl (E.At.ld1 Tryd.isAgg57 (hb.at0 1 rfl) 0 rfl)) rfl rfl rfl ?_
      refine E.WL.done ?_
      refine E.KQ.then_n ?_
      refine E.W.block ?_
      refine E.W.seq ?_
      refine E.W.region ?_
      refine E.WL.val (E.y_eql rfl rfl) rfl rfl rfl ?_
      refine E.WL.as 85 rfl (show _ = Value.bool false from congrArg Value.bool (decide_eq_false (by decide))) ?_
      refine E.WL.val (E.y_assign rfl) rfl rfl rfl ?_
      refine E.WL.done ?_
      refine E.KQ.then_n ?_
      refine E.W.cond_f rfl ?_
      refine E.W.seq ?_
      refine E.W.region ?_
      refine E.WL.val (E.y_eql rfl rfl) rfl rfl rfl ?_
      refine E.WL.as 95 rfl (show _ = Value.bool false from congrArg Value.bool (decide_eq_false (by decide))) ?_
      refine E.WL.val (E.y_assign rfl) rfl rfl rfl ?_
      refine E.WL.done ?_
      refine E.KQ.then_n ?_
      refine E.W.cond_f rfl ?_
      refine E.W.seq ?_
      refine E.W.region ?_
      refine E.WL.val (E.y_eql rfl rfl) rfl rfl rfl ?_
      refine E.WL.as 117 rfl (show _ = Value.bool false from congrArg Value.bool (decide_eq_false (by decide))) ?_
      refine E.WL.val (E.y_assign rfl) rfl rfl rfl ?_
      refine E.WL.done ?_
      refine E.KQ.then_n ?_
      refine E.W.cond_f rfl ?_
      refine E.W.seq ?_
      refine E.W.region ?_
      refine E.WL.val (E.y_eql rfl rfl) rfl rfl rfl ?_
      refine E.WL.as 126 rfl (show _ = Value.bool false from congrArg Value.bool (decide_eq_false (by decide))) ?_
      refine E.WL.val (E.y_assign rfl) rfl rfl rfl ?_
      refine E.WL.done ?_
      refine E.KQ.then_n ?_
      refine E.W.cond_f rfl ?_
      refine E.W.skip ?_
      refine E.KQ.block_n ?_
      refine E.KQ.then_n ?_
      refine E.W.seq ?_
      refine E.W.region ?_
      refine E.WL.val (E.y_load rfl (E.At.ldk Tryd.isAgg27 Tryd.sizeOf27 (hb.at0 2 rfl) rfl)) rfl rfl rfl ?_
      refine E.WL.storeW hb 0 rfl rfl rfl Tryd.sizeOf27 rfl rfl rfl (E.allOne rfl) rfl ?_
      have hT := hb.hasT 0 rfl
      clear hb; intro w21 hb hO
      replace o := OFiles.keeps o (Keeps.only hO hT (by decide)) (S := fun U => U = 51) rfl
      clear hT
      clear hO
      refine E.WL.val (E.y_assign rfl) rfl rfl rfl ?_
      refine E.WL.done ?_
      refine E.KQ.then_n ?_
      refine E.W.ret ?_
      refine E.KQ.retct Tryd.results21 rfl (E.At.ldk Tryd.isAgg27 Tryd.sizeOf27 (hb.at0 0 rfl) rfl) rfl ?_
      exact ⟨_, rfl, ⟨_, by rw [hq], by rw [hq, hd]; exact ⟨_, rfl, (o.rd (by rw [putAt_len hi]; omega)).mono RFile.goes (fun _ _ hB => Own.le (Nat.zero_le _) hB)⟩⟩, hb.below⟩

set_option maxHeartbeats 4000000 in
theorem doneSync_calls {F : FP} {w : World} {cs : List Value} {d : DiskD} (h : RDisk F w cs d) (hck : checkD d = true) (hdn : d.down = false) (hfz : -1 ≤ d.fuse ∧ d.fuse ≤ 9223372036854775807) (name to data : ByteArray) (size : Int) (hh : hasB (namesF d.files) name = true) :
    Calls Tryd.prog 21 #[(.agg cs.toArray), (.agg #[.int .u8 1, .string name, .string to, .string data, .int .i64 size])] w (Ret fun u w' => (∃ cs', u = .tuple #[.agg cs'.toArray, .int .i64 (syncP d name).2] ∧ RDisk (Tk w') w' cs' (syncP d name).1) ∧ Ext w w') := by
  obtain ⟨v, rfl, hf⟩ := id h
  obtain ⟨A, c, rfl, hc, hby, hg⟩ := hf.open_
  have hb := E.Bx.start w (base := w.heap.size) (Nat.le_refl _)
  refine E.enter Tryd.func21 rfl Tryd.ntmps21 [(.agg #[.slice A d.files.length c, .bool d.down, .int .i64 d.fuse]), (.agg #[.int .u8 1, .string name, .string to, .string data, .int .i64 size])] rfl ?_
  refine E.W.seq ?_
  refine E.W.region ?_
  refine E.WL.box hb rfl rfl rfl rfl ?_
  clear hb; intro B2 w2 hb _ _
  refine E.WL.box hb rfl rfl rfl rfl ?_
  clear hb; intro B3 w4 hb _ _
  refine E.WL.alloc hb Tryd.zeroValue27 rfl rfl rfl ?_
  clear hb; intro B4 w6 hb _ _
  refine E.WL.val (E.y_assign rfl) rfl rfl rfl ?_
  refine E.WL.done ?_
  refine E.KQ.then_n ?_
  refine E.W.seq ?_
  refine E.W.seq ?_
  refine E.W.region ?_
  refine E.WL.val (E.y_load rfl (E.At.ldk Tryd.isAgg27 Tryd.sizeOf27 (hb.at0 2 rfl) rfl)) rfl rfl rfl ?_
  refine E.WL.call (check_calls (h.ext hb.below)) Tryd.call17 rfl rfl rfl ?_
  rintro _ w7 ⟨rfl, hX⟩
  replace hb := hb.ext hX
  clear hX
  refine E.WL.as 15 rfl (show _ = Value.int .i64 0 from by rw [hck]; rfl) ?_
  refine E.WL.val (E.y_assign rfl) rfl rfl rfl ?_
  refine E.WL.done ?_
  refine E.KQ.then_n ?_
  refine E.W.seq ?_
  refine E.W.region ?_
  refine E.WL.val (E.y_move rfl) rfl rfl rfl ?_
  refine E.WL.val (E.y_neq rfl rfl) rfl rfl rfl ?_
  refine E.WL.as 17 rfl (show _ = Value.bool false from congrArg Value.bool (by decide)) ?_
  refine E.WL.done ?_
  refine E.KQ.then_n ?_
  refine E.W.cond_f rfl ?_
  refine E.W.skip ?_
  refine E.KQ.then_n ?_
  refine E.W.seq ?_
  refine E.W.region ?_
  refine E.WL.val (E.y_fld Tryd.underlying27 rfl Tryd.sizeOf25 rfl) rfl rfl rfl ?_
  refine E.WL.val (E.y_load rfl (E.At.ld1 Tryd.isAgg25 (hb.at0 2 rfl) 0 rfl)) rfl rfl rfl ?_
  refine E.WL.call (cloneFile_calls (hf.ext RFile.goes hb.below)) Tryd.call18 rfl rfl rfl ?_
  rintro v1 w8 ⟨⟨_, news, rfl, own, rows⟩, hX⟩
  have hle := hb.le
  replace hb := hb.ext hX
  have o : OFiles w.heap.size w8 v1 d.files news := ⟨ownsRow_le own hle, rows.to fun cs x hx => hx⟩
  obtain ⟨A1, c1, rfl, hA1⟩ := ownsRow_open o.row
  clear own rows hX hle
  refine E.WL.val (E.y_fld Tryd.underlying27 rfl Tryd.sizeOf25 rfl) rfl rfl rfl ?_
  refine E.WL.store hb 2 0 rfl rfl rfl Tryd.sizeOf25 rfl rfl rfl (E.allOne rfl) rfl ?_
  have hT := hb.hasT 2 rfl
  clear hb; intro w9 hb hO
  replace o := OFiles.keeps o (Keeps.only hO hT (by decide)) (S := fun U => U = 51) rfl
  clear hT
  clear hO
  refine E.WL.done ?_
  refine E.KQ.then_n ?_
  refine E.W.seq ?_
  refine E.W.seq ?_
  refine E.W.region ?_
  refine E.WL.val (E.y_fld Tryd.underlying27 rfl Tryd.sizeOf4 rfl) rfl rfl rfl ?_
  refine E.WL.val (E.y_load rfl (E.At.ld1 Tryd.isAgg4 (hb.at0 2 rfl) 1 rfl)) rfl rfl rfl ?_
  refine E.WL.as 25 rfl (show _ = Value.bool false from by rw [hdn]) ?_
  refine E.WL.done ?_
  refine E.KQ.then_n ?_
  refine E.W.cond_f rfl ?_
  refine E.W.skip ?_
  refine E.KQ.then_n ?_
  refine E.W.seq ?_
  refine E.W.seq ?_
  refine E.W.region ?_
  refine E.WL.val (E.y_load rfl (E.At.ldk Tryd.isAgg59 Tryd.sizeOf59 (hb.at0 1 rfl) rfl)) rfl rfl rfl ?_
  refine E.WL.val (E.y_load rfl (E.At.ldk Tryd.isAgg27 Tryd.sizeOf27 (hb.at0 2 rfl) rfl)) rfl rfl rfl ?_
  refine E.WL.call (refusedSync_calls (d := d) ⟨_, rfl, o.rd hby⟩ name to data size hh) Tryd.call45 rfl rfl rfl ?_
  rintro _ w10 ⟨rfl, hX⟩
  replace hb := hb.ext hX
  replace o := OFiles.keeps o (Keeps.ext hX) (S := fun U => U = 51) rfl
  clear hX
  refine E.WL.val (E.y_assign rfl) rfl rfl rfl ?_
  refine E.WL.done ?_
  refine E.KQ.then_n ?_
  refine E.W.seq ?_
  refine E.W.region ?_
  refine E.WL.val (E.y_move rfl) rfl rfl rfl ?_
  refine E.WL.val (E.y_neq rfl rfl) rfl rfl rfl ?_
  refine E.WL.as 31 rfl (show _ = Value.bool false from congrArg Value.bool (by decide)) ?_
  refine E.WL.done ?_
  refine E.KQ.then_n ?_
  refine E.W.cond_f rfl ?_
  refine E.W.skip ?_
  refine E.KQ.then_n ?_
  refine E.W.seq ?_
  refine E.W.region ?_
  refine E.WL.val (E.y_load rfl (E.At.ldk Tryd.isAgg27 Tryd.sizeOf27 (hb.at0 2 rfl) rfl)) rfl rfl rfl ?_
  refine E.WL.val (E.y_fld Tryd.underlying59 rfl Tryd.sizeOf9 rfl) rfl rfl rfl ?_
  refine E.WL.val (E.y_load rfl (E.At.ld1 Tryd.isAgg9 (hb.at0 1 rfl) 1 rfl)) rfl rfl rfl ?_
  refine E.WL.call (place_calls (d := d) ⟨_, rfl, o.rd hby⟩ name) Tryd.call23 rfl rfl rfl ?_
  rintro _ w11 ⟨rfl, hX⟩
  replace hb := hb.ext hX
  replace o := OFiles.keeps o (Keeps.ext hX) (S := fun U => U = 51) rfl
  clear hX
  refine E.WL.val (E.y_move rfl) rfl rfl rfl ?_
  refine E.WL.val (E.y_extract rfl rfl) rfl rfl rfl ?_
  refine E.WL.val (E.y_extract rfl rfl) rfl rfl rfl ?_
  refine E.WL.val (E.y_assign rfl) rfl rfl rfl ?_
  refine E.WL.val (E.y_assign rfl) rfl rfl rfl ?_
  refine E.WL.done ?_
  refine E.KQ.then_n ?_
  refine E.W.seq ?_
  refine E.W.seq ?_
  refine E.W.region ?_
  refine E.WL.val (E.y_fld Tryd.underlying59 rfl Tryd.sizeOf57 rfl) rfl rfl rfl ?_
  refine E.WL.val (E.y_load rfl (E.At.ld1 Tryd.isAgg57 (hb.at0 1 rfl) 0 rfl)) rfl rfl rfl ?_
  refine E.WL.val (E.y_eql rfl rfl) rfl rfl rfl ?_
  refine E.WL.as 43 rfl (show _ = Value.bool false from congrArg Value.bool (decide_eq_false (by decide))) ?_
  refine E.WL.done ?_
  refine E.KQ.then_n ?_
  refine E.W.cond_f rfl ?_
  refine E.W.skip ?_
  refine E.KQ.then_n ?_
  refine E.W.seq ?_
  refine E.W.seq ?_
  refine E.W.region ?_
  refine E.WL.val (E.y_fld Tryd.underlying27 rfl Tryd.sizeOf3 rfl) rfl rfl rfl ?_
  refine E.WL.val (E.y_load rfl (E.At.ld1 Tryd.isAgg3 (hb.at0 2 rfl) 2 rfl)) rfl rfl rfl ?_
  refine E.WL.val (E.y_eql rfl rfl) rfl rfl rfl ?_
  refine E.WL.done ?_
  refine E.KQ.then_n ?_
  refine E.W.condT 68 rfl (fun h68 => ?_) (fun h68 => ?_)
  · replace h68 := of_decide_eq_true h68
    have hq : syncP d name = (⟨d.files, true, d.fuse⟩, 8) := by unfold syncP; rw [if_pos h68]
    refine E.W.seq ?_
    refine E.W.region ?_
    refine E.WL.val (E.y_fld Tryd.underlying27 rfl Tryd.sizeOf4 rfl) rfl rfl rfl ?_
    refine E.WL.store hb 2 1 rfl rfl rfl Tryd.sizeOf4 rfl rfl rfl (E.allOne rfl) rfl ?_
    have hT := hb.hasT 2 rfl
    clear hb; intro w12 hb hO
    replace o := OFiles.keeps o (Keeps.only hO hT (by decide)) (S := fun U => U = 51) rfl
    clear hT
    clear hO
    refine E.WL.done ?_
    refine E.KQ.then_n ?_
    refine E.W.seq ?_
    refine E.W.region ?_
    refine E.WL.val (E.y_load rfl (E.At.ldk Tryd.isAgg27 Tryd.sizeOf27 (hb.at0 2 rfl) rfl)) rfl rfl rfl ?_
    refine E.WL.storeW hb 0 rfl rfl rfl Tryd.sizeOf27 rfl rfl rfl (E.allOne rfl) rfl ?_
    have hT := hb.hasT 0 rfl
    clear hb; intro w13 hb hO
    replace o := OFiles.keeps o (Keeps.only hO hT (by decide)) (S := fun U => U = 51) rfl
    clear hT
    clear hO
    refine E.WL.val (E.y_assign rfl) rfl rfl rfl ?_
    refine E.WL.done ?_
    refine E.KQ.then_n ?_
    refine E.W.ret ?_
    refine E.KQ.then_r ?_
    refine E.KQ.retct Tryd.results21 rfl (E.At.ldk Tryd.isAgg27 Tryd.sizeOf27 (hb.at0 0 rfl) rfl) rfl ?_
    exact ⟨_, rfl, ⟨_, by rw [hq], by rw [hq]; exact ⟨_, rfl, (o.rd (by exact hby)).mono RFile.goes (fun _ _ hB => Own.le (Nat.zero_le _) hB)⟩⟩, hb.below⟩
  · replace h68 := of_decide_eq_false h68
    have hq : syncP d name = (⟨setSync d.files (posB (namesF d.files) name), d.down, decF d.fuse⟩, 0) := by unfold syncP; rw [if_neg h68]
    refine E.W.skip ?_
    refine E.KQ.then_n ?_
    refine E.W.seq ?_
    refine E.W.seq ?_
    refine E.W.region ?_
    refine E.WL.val (E.y_fld Tryd.underlying27 rfl Tryd.sizeOf3 rfl) rfl rfl rfl ?_
    refine E.WL.val (E.y_load rfl (E.At.ld1 Tryd.isAgg3 (hb.at0 2 rfl) 2 rfl)) rfl rfl rfl ?_
    refine E.WL.val (E.y_gtr rfl rfl) rfl rfl rfl ?_
    refine E.WL.done ?_
    refine E.KQ.then_n ?_
    refine E.W.condT 73 rfl (fun h73 => ?_) (fun h73 => ?_)
    · replace h73 := of_decide_eq_true h73
      have hd : decF d.fuse = d.fuse - 1 := if_pos h73
      refine E.W.region ?_
      refine E.WL.val (E.y_fld Tryd.underlying27 rfl Tryd.sizeOf3 rfl) rfl rfl rfl ?_
      refine E.WL.val (E.y_load rfl (E.At.ld1 Tryd.isAgg3 (hb.at0 2 rfl) 2 rfl)) rfl rfl rfl ?_
      refine E.WL.val (E.y_sub rfl rfl (Go.IntWalk.i64_in _ (by omega))) rfl rfl rfl ?_
      refine E.WL.val (E.y_fld Tryd.underlying27 rfl Tryd.sizeOf3 rfl) rfl rfl rfl ?_
      refine E.WL.store hb 2 2 rfl rfl rfl Tryd.sizeOf3 rfl rfl rfl (E.allOne rfl) rfl ?_
      have hT := hb.hasT 2 rfl
      clear hb; intro w14 hb hO
      replace o := OFiles.keeps o (Keeps.only hO hT (by decide)) (S := fun U => U = 51) rfl
      clear hT
      clear hO
      refine E.WL.done ?_
      refine E.KQ.then_n ?_
      refine E.W.seq ?_
      refine E.W.region ?_
      have hpl := namePos_lt hh
      obtain ⟨g, rfl⟩ : ∃ g, A1 = some ⟨g, 0, none⟩ := hA1 (by omega)
      have hat := OFiles.at_ o rfl (List.getElem?_eq_getElem hpl)
      refine E.WL.val (E.y_fld Tryd.underlying27 rfl Tryd.sizeOf25 rfl) rfl rfl rfl ?_
      refine E.WL.val (E.y_load rfl (E.At.ld1 Tryd.isAgg25 (hb.at0 2 rfl) 0 rfl)) rfl rfl rfl ?_
      refine E.WL.val (E.y_move rfl) rfl rfl rfl ?_
      refine E.WL.val (E.y_idxS Tryd.underlying25 Tryd.sizeOf51 rfl rfl (by omega) (by omega)) rfl rfl rfl ?_
      refine E.WL.val (E.y_assign rfl) rfl rfl rfl ?_
      refine E.WL.done ?_
      refine E.KQ.then_n ?_
      refine E.W.seq ?_
      refine E.W.seq ?_
      refine E.W.region ?_
      refine E.WL.val (E.y_fld Tryd.underlying59 rfl Tryd.sizeOf57 rfl) rfl rfl rfl ?_
      refine E.WL.val (E.y_load rfl (E.At.ld1 Tryd.isAgg57 (hb.at0 1 rfl) 0 rfl)) rfl rfl rfl ?_
      refine E.WL.done ?_
      refine E.KQ.then_n ?_
      refine E.W.block ?_
      refine E.W.seq ?_
      refine E.W.region ?_
      refine E.WL.val (E.y_eql rfl rfl) rfl rfl rfl ?_
      refine E.WL.as 85 rfl (show _ = Value.bool true from congrArg Value.bool (decide_eq_true (by decide))) ?_
      refine E.WL.val (E.y_assign rfl) rfl rfl rfl ?_
      refine E.WL.done ?_
      refine E.KQ.then_n ?_
      refine E.W.cond_t rfl ?_
      refine E.W.region ?_
      refine E.WL.val (E.y_move rfl) rfl rfl rfl ?_
      refine E.WL.val (E.y_move rfl) rfl rfl rfl ?_
      refine E.WL.val (E.y_nilCheck rfl) rfl rfl rfl ?_
      refine E.WL.val (E.y_fld Tryd.underlying51 rfl Tryd.sizeOf9 rfl) rfl rfl rfl ?_
      refine E.WL.val (E.y_load rfl (E.At.ld1 Tryd.isAgg9 hat 1 rfl)) rfl rfl rfl ?_
      refine E.WL.val (E.y_lens Tryd.underlying9 rfl) rfl rfl rfl ?_
      refine E.WL.val (E.y_nilCheck rfl) rfl rfl rfl ?_
      refine E.WL.val (E.y_fld Tryd.underlying51 rfl Tryd.sizeOf3 rfl) rfl rfl rfl ?_
      have hpl' := hpl
      have own2 := o.row
      refine WL.storeCell (k := 3) (o := (posB (namesF d.files) name) * 3 + 2) own2 (by have := mul_lt_le (k := 3) hpl'; omega) (show _ = some (Value.pointer (some ⟨g, (posB (namesF d.files) name) * 3 + 2, none⟩)) from congrArg (fun z => some (Value.pointer (some z))) (add2 _ _ _)) rfl Tryd.sizeOf3 rfl rfl rfl ?_
      intro w15 own3 hO hT hB
      replace hb := hb.turn hO hT hB rfl
      replace o := OFiles.set_ (j := 2) (y := ⟨d.files[posB (namesF d.files) name].name, d.files[posB (namesF d.files) name].data, d.files[posB (namesF d.files) name].data.size⟩) o (List.getElem?_eq_getElem hpl) (by decide) (by rfl) own3
      clear own2 own3 hO hT hB hat
      rw [← setSync_eq hpl] at o
      refine E.WL.done ?_
      refine E.KQ.block_n ?_
      refine E.KQ.then_n ?_
      refine E.W.seq ?_
      refine E.W.region ?_
      refine E.WL.val (E.y_load rfl (E.At.ldk Tryd.isAgg27 Tryd.sizeOf27 (hb.at0 2 rfl) rfl)) rfl rfl rfl ?_
      refine E.WL.storeW hb 0 rfl rfl rfl Tryd.sizeOf27 rfl rfl rfl (E.allOne rfl) rfl ?_
      have hT := hb.hasT 0 rfl
      clear hb; intro w16 hb hO
      replace o := OFiles.keeps o (Keeps.only hO hT (by decide)) (S := fun U => U = 51) rfl
      clear hT
      clear hO
      refine E.WL.val (E.y_assign rfl) rfl rfl rfl ?_
      refine E.WL.done ?_
      refine E.KQ.then_n ?_
      refine E.W.ret ?_
      refine E.KQ.retct Tryd.results21 rfl (E.At.ldk Tryd.isAgg27 Tryd.sizeOf27 (hb.at0 0 rfl) rfl) rfl ?_
      exact ⟨_, rfl, ⟨_, by rw [hq], by rw [hq, hd]; exact ⟨_, rfl, (o.rd (by rw [setSync_eq hpl, List.length_set]; exact hby)).mono RFile.goes (fun _ _ hB => Own.le (Nat.zero_le _) hB)⟩⟩, hb.below⟩
    · replace h73 := of_decide_eq_false h73
      have hd : decF d.fuse = d.fuse := if_neg h73
      refine E.W.skip ?_
      refine E.KQ.then_n ?_
      refine E.W.seq ?_
      refine E.W.region ?_
      have hpl := namePos_lt hh
      obtain ⟨g, rfl⟩ : ∃ g, A1 = some ⟨g, 0, none⟩ := hA1 (by omega)
      have hat := OFiles.at_ o rfl (List.getElem?_eq_getElem hpl)
      refine E.WL.val (E.y_fld Tryd.underlying27 rfl Tryd.sizeOf25 rfl) rfl rfl rfl ?_
      refine E.WL.val (E.y_load rfl (E.At.ld1 Tryd.isAgg25 (hb.at0 2 rfl) 0 rfl)) rfl rfl rfl ?_
      refine E.WL.val (E.y_move rfl) rfl rfl rfl ?_
      refine E.WL.val (E.y_idxS Tryd.underlying25 Tryd.sizeOf51 rfl rfl (by omega) (by omega)) rfl rfl rfl ?_
      refine E.WL.val (E.y_assign rfl) rfl rfl rfl ?_
      refine E.WL.done ?_
      refine E.KQ.then_n ?_
      refine E.W.seq ?_
      refine E.W.seq ?_
      refine E.W.region ?_
      refine E.WL.val (E.y_fld Tryd.underlying59 rfl Tryd.sizeOf57 rfl) rfl rfl rfl ?_
      refine E.WL.val (E.y_load rfl (E.At.ld1 Tryd.isAgg57 (hb.at0 1 rfl) 0 rfl)) rfl rfl rfl ?_
      refine E.WL.done ?_
      refine E.KQ.then_n ?_
      refine E.W.block ?_
      refine E.W.seq ?_
      refine E.W.region ?_
      refine E.WL.val (E.y_eql rfl rfl) rfl rfl rfl ?_
      refine E.WL.as 85 rfl (show _ = Value.bool true from congrArg Value.bool (decide_eq_true (by decide))) ?_
      refine E.WL.val (E.y_assign rfl) rfl rfl rfl ?_
      refine E.WL.done ?_
      refine E.KQ.then_n ?_
      refine E.W.cond_t rfl ?_
      refine E.W.region ?_
      refine E.WL.val (E.y_move rfl) rfl rfl rfl ?_
      refine E.WL.val (E.y_move rfl) rfl rfl rfl ?_
      refine E.WL.val (E.y_nilCheck rfl) rfl rfl rfl ?_
      refine E.WL.val (E.y_fld Tryd.underlying51 rfl Tryd.sizeOf9 rfl) rfl rfl rfl ?_
      refine E.WL.val (E.y_load rfl (E.At.ld1 Tryd.isAgg9 hat 1 rfl)) rfl rfl rfl ?_
      refine E.WL.val (E.y_lens Tryd.underlying9 rfl) rfl rfl rfl ?_
      refine E.WL.val (E.y_nilCheck rfl) rfl rfl rfl ?_
      refine E.WL.val (E.y_fld Tryd.underlying51 rfl Tryd.sizeOf3 rfl) rfl rfl rfl ?_
      have hpl' := hpl
      have own2 := o.row
      refine WL.storeCell (k := 3) (o := (posB (namesF d.files) name) * 3 + 2) own2 (by have := mul_lt_le (k := 3) hpl'; omega) (show _ = some (Value.pointer (some ⟨g, (posB (namesF d.files) name) * 3 + 2, none⟩)) from congrArg (fun z => some (Value.pointer (some z))) (add2 _ _ _)) rfl Tryd.sizeOf3 rfl rfl rfl ?_
      intro w17 own3 hO hT hB
      replace hb := hb.turn hO hT hB rfl
      replace o := OFiles.set_ (j := 2) (y := ⟨d.files[posB (namesF d.files) name].name, d.files[posB (namesF d.files) name].data, d.files[posB (namesF d.files) name].data.size⟩) o (List.getElem?_eq_getElem hpl) (by decide) (by rfl) own3
      clear own2 own3 hO hT hB hat
      rw [← setSync_eq hpl] at o
      refine E.WL.done ?_
      refine E.KQ.block_n ?_
      refine E.KQ.then_n ?_
      refine E.W.seq ?_
      refine E.W.region ?_
      refine E.WL.val (E.y_load rfl (E.At.ldk Tryd.isAgg27 Tryd.sizeOf27 (hb.at0 2 rfl) rfl)) rfl rfl rfl ?_
      refine E.WL.storeW hb 0 rfl rfl rfl Tryd.sizeOf27 rfl rfl rfl (E.allOne rfl) rfl ?_
      have hT := hb.hasT 0 rfl
      clear hb; intro w18 hb hO
      replace o := OFiles.keeps o (Keeps.only hO hT (by decide)) (S := fun U => U = 51) rfl
      clear hT
      clear hO
      refine E.WL.val (E.y_assign rfl) rfl rfl rfl ?_
      refine E.WL.done ?_
      refine E.KQ.then_n ?_
      refine E.W.ret ?_
      refine E.KQ.retct Tryd.results21 rfl (E.At.ldk Tryd.isAgg27 Tryd.sizeOf27 (hb.at0 0 rfl) rfl) rfl ?_
      exact ⟨_, rfl, ⟨_, by rw [hq], by rw [hq, hd]; exact ⟨_, rfl, (o.rd (by rw [setSync_eq hpl, List.length_set]; exact hby)).mono RFile.goes (fun _ _ hB => Own.le (Nat.zero_le _) hB)⟩⟩, hb.below⟩

set_option maxHeartbeats 4000000 in
theorem doneDrop_calls {F : FP} {w : World} {cs : List Value} {d : DiskD} (h : RDisk F w cs d) (hck : checkD d = true) (hdn : d.down = false) (hfz : -1 ≤ d.fuse ∧ d.fuse ≤ 9223372036854775807) (name to data : ByteArray) (size : Int) (hh : hasB (namesF d.files) name = true) :
    Calls Tryd.prog 21 #[(.agg cs.toArray), (.agg #[.int .u8 4, .string name, .string to, .string data, .int .i64 size])] w (Ret fun u w' => (∃ cs', u = .tuple #[.agg cs'.toArray, .int .i64 (dropP d name).2] ∧ RDisk (Tk w') w' cs' (dropP d name).1) ∧ Ext w w') := by
  obtain ⟨v, rfl, hf⟩ := id h
  obtain ⟨A, c, rfl, hc, hby, hg⟩ := hf.open_
  have hb := E.Bx.start w (base := w.heap.size) (Nat.le_refl _)
  refine E.enter Tryd.func21 rfl Tryd.ntmps21 [(.agg #[.slice A d.files.length c, .bool d.down, .int .i64 d.fuse]), (.agg #[.int .u8 4, .string name, .string to, .string data, .int .i64 size])] rfl ?_
  refine E.W.seq ?_
  refine E.W.region ?_
  refine E.WL.box hb rfl rfl rfl rfl ?_
  clear hb; intro B2 w2 hb _ _
  refine E.WL.box hb rfl rfl rfl rfl ?_
  clear hb; intro B3 w4 hb _ _
  refine E.WL.alloc hb Tryd.zeroValue27 rfl rfl rfl ?_
  clear hb; intro B4 w6 hb _ _
  refine E.WL.val (E.y_assign rfl) rfl rfl rfl ?_
  refine E.WL.done ?_
  refine E.KQ.then_n ?_
  refine E.W.seq ?_
  refine E.W.seq ?_
  refine E.W.region ?_
  refine E.WL.val (E.y_load rfl (E.At.ldk Tryd.isAgg27 Tryd.sizeOf27 (hb.at0 2 rfl) rfl)) rfl rfl rfl ?_
  refine E.WL.call (check_calls (h.ext hb.below)) Tryd.call17 rfl rfl rfl ?_
  rintro _ w7 ⟨rfl, hX⟩
  replace hb := hb.ext hX
  clear hX
  refine E.WL.as 15 rfl (show _ = Value.int .i64 0 from by rw [hck]; rfl) ?_
  refine E.WL.val (E.y_assign rfl) rfl rfl rfl ?_
  refine E.WL.done ?_
  refine E.KQ.then_n ?_
  refine E.W.seq ?_
  refine E.W.region ?_
  refine E.WL.val (E.y_move rfl) rfl rfl rfl ?_
  refine E.WL.val (E.y_neq rfl rfl) rfl rfl rfl ?_
  refine E.WL.as 17 rfl (show _ = Value.bool false from congrArg Value.bool (by decide)) ?_
  refine E.WL.done ?_
  refine E.KQ.then_n ?_
  refine E.W.cond_f rfl ?_
  refine E.W.skip ?_
  refine E.KQ.then_n ?_
  refine E.W.seq ?_
  refine E.W.region ?_
  refine E.WL.val (E.y_fld Tryd.underlying27 rfl Tryd.sizeOf25 rfl) rfl rfl rfl ?_
  refine E.WL.val (E.y_load rfl (E.At.ld1 Tryd.isAgg25 (hb.at0 2 rfl) 0 rfl)) rfl rfl rfl ?_
  refine E.WL.call (cloneFile_calls (hf.ext RFile.goes hb.below)) Tryd.call18 rfl rfl rfl ?_
  rintro v1 w8 ⟨⟨_, news, rfl, own, rows⟩, hX⟩
  have hle := hb.le
  replace hb := hb.ext hX
  have o : OFiles w.heap.size w8 v1 d.files news := ⟨ownsRow_le own hle, rows.to fun cs x hx => hx⟩
  obtain ⟨A1, c1, rfl, hA1⟩ := ownsRow_open o.row
  clear own rows hX hle
  refine E.WL.val (E.y_fld Tryd.underlying27 rfl Tryd.sizeOf25 rfl) rfl rfl rfl ?_
  refine E.WL.store hb 2 0 rfl rfl rfl Tryd.sizeOf25 rfl rfl rfl (E.allOne rfl) rfl ?_
  have hT := hb.hasT 2 rfl
  clear hb; intro w9 hb hO
  replace o := OFiles.keeps o (Keeps.only hO hT (by decide)) (S := fun U => U = 51) rfl
  clear hT
  clear hO
  refine E.WL.done ?_
  refine E.KQ.then_n ?_
  refine E.W.seq ?_
  refine E.W.seq ?_
  refine E.W.region ?_
  refine E.WL.val (E.y_fld Tryd.underlying27 rfl Tryd.sizeOf4 rfl) rfl rfl rfl ?_
  refine E.WL.val (E.y_load rfl (E.At.ld1 Tryd.isAgg4 (hb.at0 2 rfl) 1 rfl)) rfl rfl rfl ?_
  refine E.WL.as 25 rfl (show _ = Value.bool false from by rw [hdn]) ?_
  refine E.WL.done ?_
  refine E.KQ.then_n ?_
  refine E.W.cond_f rfl ?_
  refine E.W.skip ?_
  refine E.KQ.then_n ?_
  refine E.W.seq ?_
  refine E.W.seq ?_
  refine E.W.region ?_
  refine E.WL.val (E.y_load rfl (E.At.ldk Tryd.isAgg59 Tryd.sizeOf59 (hb.at0 1 rfl) rfl)) rfl rfl rfl ?_
  refine E.WL.val (E.y_load rfl (E.At.ldk Tryd.isAgg27 Tryd.sizeOf27 (hb.at0 2 rfl) rfl)) rfl rfl rfl ?_
  refine E.WL.call (refusedDrop_calls (d := d) ⟨_, rfl, o.rd hby⟩ name to data size hh) Tryd.call45 rfl rfl rfl ?_
  rintro _ w10 ⟨rfl, hX⟩
  replace hb := hb.ext hX
  replace o := OFiles.keeps o (Keeps.ext hX) (S := fun U => U = 51) rfl
  clear hX
  refine E.WL.val (E.y_assign rfl) rfl rfl rfl ?_
  refine E.WL.done ?_
  refine E.KQ.then_n ?_
  refine E.W.seq ?_
  refine E.W.region ?_
  refine E.WL.val (E.y_move rfl) rfl rfl rfl ?_
  refine E.WL.val (E.y_neq rfl rfl) rfl rfl rfl ?_
  refine E.WL.as 31 rfl (show _ = Value.bool false from congrArg Value.bool (by decide)) ?_
  refine E.WL.done ?_
  refine E.KQ.then_n ?_
  refine E.W.cond_f rfl ?_
  refine E.W.skip ?_
  refine E.KQ.then_n ?_
  refine E.W.seq ?_
  refine E.W.region ?_
  refine E.WL.val (E.y_load rfl (E.At.ldk Tryd.isAgg27 Tryd.sizeOf27 (hb.at0 2 rfl) rfl)) rfl rfl rfl ?_
  refine E.WL.val (E.y_fld Tryd.underlying59 rfl Tryd.sizeOf9 rfl) rfl rfl rfl ?_
  refine E.WL.val (E.y_load rfl (E.At.ld1 Tryd.isAgg9 (hb.at0 1 rfl) 1 rfl)) rfl rfl rfl ?_
  refine E.WL.call (place_calls (d := d) ⟨_, rfl, o.rd hby⟩ name) Tryd.call23 rfl rfl rfl ?_
  rintro _ w11 ⟨rfl, hX⟩
  replace hb := hb.ext hX
  replace o := OFiles.keeps o (Keeps.ext hX) (S := fun U => U = 51) rfl
  clear hX
  refine E.WL.val (E.y_move rfl) rfl rfl rfl ?_
  refine E.WL.val (E.y_extract rfl rfl) rfl rfl rfl ?_
  refine E.WL.val (E.y_extract rfl rfl) rfl rfl rfl ?_
  refine E.WL.val (E.y_assign rfl) rfl rfl rfl ?_
  refine E.WL.val (E.y_assign rfl) rfl rfl rfl ?_
  refine E.WL.done ?_
  refine E.KQ.then_n ?_
  refine E.W.seq ?_
  refine E.W.seq ?_
  refine E.W.region ?_
  refine E.WL.val (E.y_fld Tryd.underlying59 rfl Tryd.sizeOf57 rfl) rfl rfl rfl ?_
  refine E.WL.val (E.y_load rfl (E.At.ld1 Tryd.isAgg57 (hb.at0 1 rfl) 0 rfl)) rfl rfl rfl ?_
  refine E.WL.val (E.y_eql rfl rfl) rfl rfl rfl ?_
  refine E.WL.as 43 rfl (show _ = Value.bool false from congrArg Value.bool (decide_eq_false (by decide))) ?_
  refine E.WL.done ?_
  refine E.KQ.then_n ?_
  refine E.W.cond_f rfl ?_
  refine E.W.skip ?_
  refine E.KQ.then_n ?_
  refine E.W.seq ?_
  refine E.W.seq ?_
  refine E.W.region ?_
  refine E.WL.val (E.y_fld Tryd.underlying27 rfl Tryd.sizeOf3 rfl) rfl rfl rfl ?_
  refine E.WL.val (E.y_load rfl (E.At.ld1 Tryd.isAgg3 (hb.at0 2 rfl) 2 rfl)) rfl rfl rfl ?_
  refine E.WL.val (E.y_eql rfl rfl) rfl rfl rfl ?_
  refine E.WL.done ?_
  refine E.KQ.then_n ?_
  refine E.W.condT 68 rfl (fun h68 => ?_) (fun h68 => ?_)
  · replace h68 := of_decide_eq_true h68
    have hq : dropP d name = (⟨d.files, true, d.fuse⟩, 8) := by unfold dropP; rw [if_pos h68]
    refine E.W.seq ?_
    refine E.W.region ?_
    refine E.WL.val (E.y_fld Tryd.underlying27 rfl Tryd.sizeOf4 rfl) rfl rfl rfl ?_
    refine E.WL.store hb 2 1 rfl rfl rfl Tryd.sizeOf4 rfl rfl rfl (E.allOne rfl) rfl ?_
    have hT := hb.hasT 2 rfl
    clear hb; intro w12 hb hO
    replace o := OFiles.keeps o (Keeps.only hO hT (by decide)) (S := fun U => U = 51) rfl
    clear hT
    clear hO
    refine E.WL.done ?_
    refine E.KQ.then_n ?_
    refine E.W.seq ?_
    refine E.W.region ?_
    refine E.WL.val (E.y_load rfl (E.At.ldk Tryd.isAgg27 Tryd.sizeOf27 (hb.at0 2 rfl) rfl)) rfl rfl rfl ?_
    refine E.WL.storeW hb 0 rfl rfl rfl Tryd.sizeOf27 rfl rfl rfl (E.allOne rfl) rfl ?_
    have hT := hb.hasT 0 rfl
    clear hb; intro w13 hb hO
    replace o := OFiles.keeps o (Keeps.only hO hT (by decide)) (S := fun U => U = 51) rfl
    clear hT
    clear hO
    refine E.WL.val (E.y_assign rfl) rfl rfl rfl ?_
    refine E.WL.done ?_
    refine E.KQ.then_n ?_
    refine E.W.ret ?_
    refine E.KQ.then_r ?_
    refine E.KQ.retct Tryd.results21 rfl (E.At.ldk Tryd.isAgg27 Tryd.sizeOf27 (hb.at0 0 rfl) rfl) rfl ?_
    exact ⟨_, rfl, ⟨_, by rw [hq], by rw [hq]; exact ⟨_, rfl, (o.rd (by exact hby)).mono RFile.goes (fun _ _ hB => Own.le (Nat.zero_le _) hB)⟩⟩, hb.below⟩
  · replace h68 := of_decide_eq_false h68
    have hq : dropP d name = (⟨dropAt (posB (namesF d.files) name) d.files, d.down, decF d.fuse⟩, 0) := by unfold dropP; rw [if_neg h68]
    refine E.W.skip ?_
    refine E.KQ.then_n ?_
    refine E.W.seq ?_
    refine E.W.seq ?_
    refine E.W.region ?_
    refine E.WL.val (E.y_fld Tryd.underlying27 rfl Tryd.sizeOf3 rfl) rfl rfl rfl ?_
    refine E.WL.val (E.y_load rfl (E.At.ld1 Tryd.isAgg3 (hb.at0 2 rfl) 2 rfl)) rfl rfl rfl ?_
    refine E.WL.val (E.y_gtr rfl rfl) rfl rfl rfl ?_
    refine E.WL.done ?_
    refine E.KQ.then_n ?_
    refine E.W.condT 73 rfl (fun h73 => ?_) (fun h73 => ?_)
    · replace h73 := of_decide_eq_true h73
      have hd : decF d.fuse = d.fuse - 1 := if_pos h73
      refine E.W.region ?_
      refine E.WL.val (E.y_fld Tryd.underlying27 rfl Tryd.sizeOf3 rfl) rfl rfl rfl ?_
      refine E.WL.val (E.y_load rfl (E.At.ld1 Tryd.isAgg3 (hb.at0 2 rfl) 2 rfl)) rfl rfl rfl ?_
      refine E.WL.val (E.y_sub rfl rfl (Go.IntWalk.i64_in _ (by omega))) rfl rfl rfl ?_
      refine E.WL.val (E.y_fld Tryd.underlying27 rfl Tryd.sizeOf3 rfl) rfl rfl rfl ?_
      refine E.WL.store hb 2 2 rfl rfl rfl Tryd.sizeOf3 rfl rfl rfl (E.allOne rfl) rfl ?_
      have hT := hb.hasT 2 rfl
      clear hb; intro w14 hb hO
      replace o := OFiles.keeps o (Keeps.only hO hT (by decide)) (S := fun U => U = 51) rfl
      clear hT
      clear hO
      refine E.WL.done ?_
      refine E.KQ.then_n ?_
      refine E.W.seq ?_
      refine E.W.region ?_
      have hpl := namePos_lt hh
      obtain ⟨g, rfl⟩ : ∃ g, A1 = some ⟨g, 0, none⟩ := hA1 (by omega)
      have hat := OFiles.at_ o rfl (List.getElem?_eq_getElem hpl)
      refine E.WL.val (E.y_fld Tryd.underlying27 rfl Tryd.sizeOf25 rfl) rfl rfl rfl ?_
      refine E.WL.val (E.y_load rfl (E.At.ld1 Tryd.isAgg25 (hb.at0 2 rfl) 0 rfl)) rfl rfl rfl ?_
      refine E.WL.val (E.y_move rfl) rfl rfl rfl ?_
      refine E.WL.val (E.y_idxS Tryd.underlying25 Tryd.sizeOf51 rfl rfl (by omega) (by omega)) rfl rfl rfl ?_
      refine E.WL.val (E.y_assign rfl) rfl rfl rfl ?_
      refine E.WL.done ?_
      refine E.KQ.then_n ?_
      refine E.W.seq ?_
      refine E.W.seq ?_
      refine E.W.region ?_
      refine E.WL.val (E.y_fld Tryd.underlying59 rfl Tryd.sizeOf57 rfl) rfl rfl rfl ?_
      refine E.WL.val (E.y_load rfl (E.At.ld1 Tryd.isAgg57 (hb.at0 1 rfl) 0 rfl)) rfl rfl rfl ?_
      refine E.WL.done ?_
      refine E.KQ.then_n ?_
      refine E.W.block ?_
      refine E.W.seq ?_
      refine E.W.region ?_
      refine E.WL.val (E.y_eql rfl rfl) rfl rfl rfl ?_
      refine E.WL.as 85 rfl (show _ = Value.bool false from congrArg Value.bool (decide_eq_false (by decide))) ?_
      refine E.WL.val (E.y_assign rfl) rfl rfl rfl ?_
      refine E.WL.done ?_
      refine E.KQ.then_n ?_
      refine E.W.cond_f rfl ?_
      refine E.W.seq ?_
      refine E.W.region ?_
      refine E.WL.val (E.y_eql rfl rfl) rfl rfl rfl ?_
      refine E.WL.as 95 rfl (show _ = Value.bool false from congrArg Value.bool (decide_eq_false (by decide))) ?_
      refine E.WL.val (E.y_assign rfl) rfl rfl rfl ?_
      refine E.WL.done ?_
      refine E.KQ.then_n ?_
      refine E.W.cond_f rfl ?_
      refine E.W.seq ?_
      refine E.W.region ?_
      refine E.WL.val (E.y_eql rfl rfl) rfl rfl rfl ?_
      refine E.WL.as 117 rfl (show _ = Value.bool true from congrArg Value.bool (decide_eq_true (by decide))) ?_
      refine E.WL.val (E.y_assign rfl) rfl rfl rfl ?_
      refine E.WL.done ?_
      refine E.KQ.then_n ?_
      refine E.W.cond_t rfl ?_
      refine E.W.region ?_
      refine E.WL.val (E.y_fld Tryd.underlying27 rfl Tryd.sizeOf25 rfl) rfl rfl rfl ?_
      refine E.WL.val (E.y_load rfl (E.At.ld1 Tryd.isAgg25 (hb.at0 2 rfl) 0 rfl)) rfl rfl rfl ?_
      refine E.WL.val (E.y_move rfl) rfl rfl rfl ?_
      refine E.WL.val (E.y_move rfl) rfl rfl rfl ?_
      refine E.WL.val (E.y_add rfl rfl (Go.IntWalk.i64_in _ (by omega))) rfl rfl rfl ?_
      clear hat
      refine E.WL.call (deleteFile_calls (i := posB (namesF d.files) name) o.row hb.le (o.rows.one1 (by decide) (fun cs x hx => hx.one)) hpl (by omega)) Tryd.call47 rfl rfl rfl ?_
      rintro v' w15 ⟨⟨_, rfl, own'⟩, hB6, hK6⟩
      replace hb := hb.keeps hK6 hB6 (ne51 rfl)
      replace o : OFiles w.heap.size w15 v' (dropAt (posB (namesF d.files) name) d.files) _ := ⟨by rw [dropAt_len hpl]; exact own', (Rows.to (R' := RFile) (G := Own w.heap.size w15) (w' := w15) o.rows fun cs x hx => hx).cutOut⟩
      obtain ⟨A2, c2, rfl, hA2⟩ := ownsRow_open own'
      clear own' hB6 hK6
      refine E.WL.val (E.y_fld Tryd.underlying27 rfl Tryd.sizeOf25 rfl) rfl rfl rfl ?_
      refine E.WL.store hb 2 0 rfl rfl rfl Tryd.sizeOf25 rfl rfl rfl (E.allOne rfl) rfl ?_
      have hT := hb.hasT 2 rfl
      clear hb; intro w16 hb hO
      replace o := OFiles.keeps o (Keeps.only hO hT (by decide)) (S := fun U => U = 51) rfl
      clear hT
      clear hO
      refine E.WL.done ?_
      refine E.KQ.block_n ?_
      refine E.KQ.then_n ?_
      refine E.W.seq ?_
      refine E.W.region ?_
      refine E.WL.val (E.y_load rfl (E.At.ldk Tryd.isAgg27 Tryd.sizeOf27 (hb.at0 2 rfl) rfl)) rfl rfl rfl ?_
      refine E.WL.storeW hb 0 rfl rfl rfl Tryd.sizeOf27 rfl rfl rfl (E.allOne rfl) rfl ?_
      have hT := hb.hasT 0 rfl
      clear hb; intro w17 hb hO
      replace o := OFiles.keeps o (Keeps.only hO hT (by decide)) (S := fun U => U = 51) rfl
      clear hT
      clear hO
      refine E.WL.val (E.y_assign rfl) rfl rfl rfl ?_
      refine E.WL.done ?_
      refine E.KQ.then_n ?_
      refine E.W.ret ?_
      refine E.KQ.retct Tryd.results21 rfl (E.At.ldk Tryd.isAgg27 Tryd.sizeOf27 (hb.at0 0 rfl) rfl) rfl ?_
      exact ⟨_, rfl, ⟨_, by rw [hq], by rw [hq, hd]; exact ⟨_, rfl, (o.rd (by rw [dropAt_len hpl]; omega)).mono RFile.goes (fun _ _ hB => Own.le (Nat.zero_le _) hB)⟩⟩, hb.below⟩
    · replace h73 := of_decide_eq_false h73
      have hd : decF d.fuse = d.fuse := if_neg h73
      refine E.W.skip ?_
      refine E.KQ.then_n ?_
      refine E.W.seq ?_
      refine E.W.region ?_
      have hpl := namePos_lt hh
      obtain ⟨g, rfl⟩ : ∃ g, A1 = some ⟨g, 0, none⟩ := hA1 (by omega)
      have hat := OFiles.at_ o rfl (List.getElem?_eq_getElem hpl)
      refine E.WL.val (E.y_fld Tryd.underlying27 rfl Tryd.sizeOf25 rfl) rfl rfl rfl ?_
      refine E.WL.val (E.y_load rfl (E.At.ld1 Tryd.isAgg25 (hb.at0 2 rfl) 0 rfl)) rfl rfl rfl ?_
      refine E.WL.val (E.y_move rfl) rfl rfl rfl ?_
      refine E.WL.val (E.y_idxS Tryd.underlying25 Tryd.sizeOf51 rfl rfl (by omega) (by omega)) rfl rfl rfl ?_
      refine E.WL.val (E.y_assign rfl) rfl rfl rfl ?_
      refine E.WL.done ?_
      refine E.KQ.then_n ?_
      refine E.W.seq ?_
      refine E.W.seq ?_
      refine E.W.region ?_
      refine E.WL.val (E.y_fld Tryd.underlying59 rfl Tryd.sizeOf57 rfl) rfl rfl rfl ?_
      refine E.WL.val (E.y_load rfl (E.At.ld1 Tryd.isAgg57 (hb.at0 1 rfl) 0 rfl)) rfl rfl rfl ?_
      refine E.WL.done ?_
      refine E.KQ.then_n ?_
      refine E.W.block ?_
      refine E.W.seq ?_
      refine E.W.region ?_
      refine E.WL.val (E.y_eql rfl rfl) rfl rfl rfl ?_
      refine E.WL.as 85 rfl (show _ = Value.bool false from congrArg Value.bool (decide_eq_false (by decide))) ?_
      refine E.WL.val (E.y_assign rfl) rfl rfl rfl ?_
      refine E.WL.done ?_
      refine E.KQ.then_n ?_
      refine E.W.cond_f rfl ?_
      refine E.W.seq ?_
      refine E.W.region ?_
      refine E.WL.val (E.y_eql rfl rfl) rfl rfl rfl ?_
      refine E.WL.as 95 rfl (show _ = Value.bool false from congrArg Value.bool (decide_eq_false (by decide))) ?_
      refine E.WL.val (E.y_assign rfl) rfl rfl rfl ?_
      refine E.WL.done ?_
      refine E.KQ.then_n ?_
      refine E.W.cond_f rfl ?_
      refine E.W.seq ?_
      refine E.W.region ?_
      refine E.WL.val (E.y_eql rfl rfl) rfl rfl rfl ?_
      refine E.WL.as 117 rfl (show _ = Value.bool true from congrArg Value.bool (decide_eq_true (by decide))) ?_
      refine E.WL.val (E.y_assign rfl) rfl rfl rfl ?_
      refine E.WL.done ?_
      refine E.KQ.then_n ?_
      refine E.W.cond_t rfl ?_
      refine E.W.region ?_
      refine E.WL.val (E.y_fld Tryd.underlying27 rfl Tryd.sizeOf25 rfl) rfl rfl rfl ?_
      refine E.WL.val (E.y_load rfl (E.At.ld1 Tryd.isAgg25 (hb.at0 2 rfl) 0 rfl)) rfl rfl rfl ?_
      refine E.WL.val (E.y_move rfl) rfl rfl rfl ?_
      refine E.WL.val (E.y_move rfl) rfl rfl rfl ?_
      refine E.WL.val (E.y_add rfl rfl (Go.IntWalk.i64_in _ (by omega))) rfl rfl rfl ?_
      clear hat
      refine E.WL.call (deleteFile_calls (i := posB (namesF d.files) name) o.row hb.le (o.rows.one1 (by decide) (fun cs x hx => hx.one)) hpl (by omega)) Tryd.call47 rfl rfl rfl ?_
      rintro v' w18 ⟨⟨_, rfl, own'⟩, hB6, hK6⟩
      replace hb := hb.keeps hK6 hB6 (ne51 rfl)
      replace o : OFiles w.heap.size w18 v' (dropAt (posB (namesF d.files) name) d.files) _ := ⟨by rw [dropAt_len hpl]; exact own', (Rows.to (R' := RFile) (G := Own w.heap.size w18) (w' := w18) o.rows fun cs x hx => hx).cutOut⟩
      obtain ⟨A2, c2, rfl, hA2⟩ := ownsRow_open own'
      clear own' hB6 hK6
      refine E.WL.val (E.y_fld Tryd.underlying27 rfl Tryd.sizeOf25 rfl) rfl rfl rfl ?_
      refine E.WL.store hb 2 0 rfl rfl rfl Tryd.sizeOf25 rfl rfl rfl (E.allOne rfl) rfl ?_
      have hT := hb.hasT 2 rfl
      clear hb; intro w19 hb hO
      replace o := OFiles.keeps o (Keeps.only hO hT (by decide)) (S := fun U => U = 51) rfl
      clear hT
      clear hO
      refine E.WL.done ?_
      refine E.KQ.block_n ?_
      refine E.KQ.then_n ?_
      refine E.W.seq ?_
      refine E.W.region ?_
      refine E.WL.val (E.y_load rfl (E.At.ldk Tryd.isAgg27 Tryd.sizeOf27 (hb.at0 2 rfl) rfl)) rfl rfl rfl ?_
      refine E.WL.storeW hb 0 rfl rfl rfl Tryd.sizeOf27 rfl rfl rfl (E.allOne rfl) rfl ?_
      have hT := hb.hasT 0 rfl
      clear hb; intro w20 hb hO
      replace o := OFiles.keeps o (Keeps.only hO hT (by decide)) (S := fun U => U = 51) rfl
      clear hT
      clear hO
      refine E.WL.val (E.y_assign rfl) rfl rfl rfl ?_
      refine E.WL.done ?_
      refine E.KQ.then_n ?_
      refine E.W.ret ?_
      refine E.KQ.retct Tryd.results21 rfl (E.At.ldk Tryd.isAgg27 Tryd.sizeOf27 (hb.at0 0 rfl) rfl) rfl ?_
      exact ⟨_, rfl, ⟨_, by rw [hq], by rw [hq, hd]; exact ⟨_, rfl, (o.rd (by rw [dropAt_len hpl]; omega)).mono RFile.goes (fun _ _ hB => Own.le (Nat.zero_le _) hB)⟩⟩, hb.below⟩

set_option maxHeartbeats 4000000 in
theorem doneSwap_calls {F : FP} {w : World} {cs : List Value} {d : DiskD} (h : RDisk F w cs d) (hck : checkD d = true) (hdn : d.down = false) (hfz : -1 ≤ d.fuse ∧ d.fuse ≤ 9223372036854775807) (name to data : ByteArray) (size : Int) (hh : hasB (namesF d.files) name = true) (hn : namedF to = true) (hs : ∀ hi : posB (namesF d.files) name < d.files.length, (d.files[posB (namesF d.files) name].data.size : Int) ≤ d.files[posB (namesF d.files) name].synced) :
    Calls Tryd.prog 21 #[(.agg cs.toArray), (.agg #[.int .u8 3, .string name, .string to, .string data, .int .i64 size])] w (Ret fun u w' => (∃ cs', u = .tuple #[.agg cs'.toArray, .int .i64 (swapP d name to).2] ∧ RDisk (Tk w') w' cs' (swapP d name to).1) ∧ Ext w w') := by
  obtain ⟨v, rfl, hf⟩ := id h
  obtain ⟨A, c, rfl, hc, hby, hg⟩ := hf.open_
  have hb := E.Bx.start w (base := w.heap.size) (Nat.le_refl _)
  refine E.enter Tryd.func21 rfl Tryd.ntmps21 [(.agg #[.slice A d.files.length c, .bool d.down, .int .i64 d.fuse]), (.agg #[.int .u8 3, .string name, .string to, .string data, .int .i64 size])] rfl ?_
  refine E.W.seq ?_
  refine E.W.region ?_
  refine E.WL.box hb rfl rfl rfl rfl ?_
  clear hb; intro B2 w2 hb _ _
  refine E.WL.box hb rfl rfl rfl rfl ?_
  clear hb; intro B3 w4 hb _ _
  refine E.WL.alloc hb Tryd.zeroValue27 rfl rfl rfl ?_
  clear hb; intro B4 w6 hb _ _
  refine E.WL.val (E.y_assign rfl) rfl rfl rfl ?_
  refine E.WL.done ?_
  refine E.KQ.then_n ?_
  refine E.W.seq ?_
  refine E.W.seq ?_
  refine E.W.region ?_
  refine E.WL.val (E.y_load rfl (E.At.ldk Tryd.isAgg27 Tryd.sizeOf27 (hb.at0 2 rfl) rfl)) rfl rfl rfl ?_
  refine E.WL.call (check_calls (h.ext hb.below)) Tryd.call17 rfl rfl rfl ?_
  rintro _ w7 ⟨rfl, hX⟩
  replace hb := hb.ext hX
  clear hX
  refine E.WL.as 15 rfl (show _ = Value.int .i64 0 from by rw [hck]; rfl) ?_
  refine E.WL.val (E.y_assign rfl) rfl rfl rfl ?_
  refine E.WL.done ?_
  refine E.KQ.then_n ?_
  refine E.W.seq ?_
  refine E.W.region ?_
  refine E.WL.val (E.y_move rfl) rfl rfl rfl ?_
  refine E.WL.val (E.y_neq rfl rfl) rfl rfl rfl ?_
  refine E.WL.as 17 rfl (show _ = Value.bool false from congrArg Value.bool (by decide)) ?_
  refine E.WL.done ?_
  refine E.KQ.then_n ?_
  refine E.W.cond_f rfl ?_
  refine E.W.skip ?_
  refine E.KQ.then_n ?_
  refine E.W.seq ?_
  refine E.W.region ?_
  refine E.WL.val (E.y_fld Tryd.underlying27 rfl Tryd.sizeOf25 rfl) rfl rfl rfl ?_
  refine E.WL.val (E.y_load rfl (E.At.ld1 Tryd.isAgg25 (hb.at0 2 rfl) 0 rfl)) rfl rfl rfl ?_
  refine E.WL.call (cloneFile_calls (hf.ext RFile.goes hb.below)) Tryd.call18 rfl rfl rfl ?_
  rintro v1 w8 ⟨⟨_, news, rfl, own, rows⟩, hX⟩
  have hle := hb.le
  replace hb := hb.ext hX
  have o : OFiles w.heap.size w8 v1 d.files news := ⟨ownsRow_le own hle, rows.to fun cs x hx => hx⟩
  obtain ⟨A1, c1, rfl, hA1⟩ := ownsRow_open o.row
  clear own rows hX hle
  refine E.WL.val (E.y_fld Tryd.underlying27 rfl Tryd.sizeOf25 rfl) rfl rfl rfl ?_
  refine E.WL.store hb 2 0 rfl rfl rfl Tryd.sizeOf25 rfl rfl rfl (E.allOne rfl) rfl ?_
  have hT := hb.hasT 2 rfl
  clear hb; intro w9 hb hO
  replace o := OFiles.keeps o (Keeps.only hO hT (by decide)) (S := fun U => U = 51) rfl
  clear hT
  clear hO
  refine E.WL.done ?_
  refine E.KQ.then_n ?_
  refine E.W.seq ?_
  refine E.W.seq ?_
  refine E.W.region ?_
  refine E.WL.val (E.y_fld Tryd.underlying27 rfl Tryd.sizeOf4 rfl) rfl rfl rfl ?_
  refine E.WL.val (E.y_load rfl (E.At.ld1 Tryd.isAgg4 (hb.at0 2 rfl) 1 rfl)) rfl rfl rfl ?_
  refine E.WL.as 25 rfl (show _ = Value.bool false from by rw [hdn]) ?_
  refine E.WL.done ?_
  refine E.KQ.then_n ?_
  refine E.W.cond_f rfl ?_
  refine E.W.skip ?_
  refine E.KQ.then_n ?_
  refine E.W.seq ?_
  refine E.W.seq ?_
  refine E.W.region ?_
  refine E.WL.val (E.y_load rfl (E.At.ldk Tryd.isAgg59 Tryd.sizeOf59 (hb.at0 1 rfl) rfl)) rfl rfl rfl ?_
  refine E.WL.val (E.y_load rfl (E.At.ldk Tryd.isAgg27 Tryd.sizeOf27 (hb.at0 2 rfl) rfl)) rfl rfl rfl ?_
  refine E.WL.call (refusedSwap_calls (d := d) ⟨_, rfl, o.rd hby⟩ name to data size hh hn hs) Tryd.call45 rfl rfl rfl ?_
  rintro _ w10 ⟨rfl, hX⟩
  replace hb := hb.ext hX
  replace o := OFiles.keeps o (Keeps.ext hX) (S := fun U => U = 51) rfl
  clear hX
  refine E.WL.val (E.y_assign rfl) rfl rfl rfl ?_
  refine E.WL.done ?_
  refine E.KQ.then_n ?_
  refine E.W.seq ?_
  refine E.W.region ?_
  refine E.WL.val (E.y_move rfl) rfl rfl rfl ?_
  refine E.WL.val (E.y_neq rfl rfl) rfl rfl rfl ?_
  refine E.WL.as 31 rfl (show _ = Value.bool false from congrArg Value.bool (by decide)) ?_
  refine E.WL.done ?_
  refine E.KQ.then_n ?_
  refine E.W.cond_f rfl ?_
  refine E.W.skip ?_
  refine E.KQ.then_n ?_
  refine E.W.seq ?_
  refine E.W.region ?_
  refine E.WL.val (E.y_load rfl (E.At.ldk Tryd.isAgg27 Tryd.sizeOf27 (hb.at0 2 rfl) rfl)) rfl rfl rfl ?_
  refine E.WL.val (E.y_fld Tryd.underlying59 rfl Tryd.sizeOf9 rfl) rfl rfl rfl ?_
  refine E.WL.val (E.y_load rfl (E.At.ld1 Tryd.isAgg9 (hb.at0 1 rfl) 1 rfl)) rfl rfl rfl ?_
  refine E.WL.call (place_calls (d := d) ⟨_, rfl, o.rd hby⟩ name) Tryd.call23 rfl rfl rfl ?_
  rintro _ w11 ⟨rfl, hX⟩
  replace hb := hb.ext hX
  replace o := OFiles.keeps o (Keeps.ext hX) (S := fun U => U = 51) rfl
  clear hX
  refine E.WL.val (E.y_move rfl) rfl rfl rfl ?_
  refine E.WL.val (E.y_extract rfl rfl) rfl rfl rfl ?_
  refine E.WL.val (E.y_extract rfl rfl) rfl rfl rfl ?_
  refine E.WL.val (E.y_assign rfl) rfl rfl rfl ?_
  refine E.WL.val (E.y_assign rfl) rfl rfl rfl ?_
  refine E.WL.done ?_
  refine E.KQ.then_n ?_
  refine E.W.seq ?_
  refine E.W.seq ?_
  refine E.W.region ?_
  refine E.WL.val (E.y_fld Tryd.underlying59 rfl Tryd.sizeOf57 rfl) rfl rfl rfl ?_
  refine E.WL.val (E.y_load rfl (E.At.ld1 Tryd.isAgg57 (hb.at0 1 rfl) 0 rfl)) rfl rfl rfl ?_
  refine E.WL.val (E.y_eql rfl rfl) rfl rfl rfl ?_
  refine E.WL.as 43 rfl (show _ = Value.bool false from congrArg Value.bool (decide_eq_false (by decide))) ?_
  refine E.WL.done ?_
  refine E.KQ.then_n ?_
  refine E.W.cond_f rfl ?_
  refine E.W.skip ?_
  refine E.KQ.then_n ?_
  refine E.W.seq ?_
  refine E.W.seq ?_
  refine E.W.region ?_
  refine E.WL.val (E.y_fld Tryd.underlying27 rfl Tryd.sizeOf3 rfl) rfl rfl rfl ?_
  refine E.WL.val (E.y_load rfl (E.At.ld1 Tryd.isAgg3 (hb.at0 2 rfl) 2 rfl)) rfl rfl rfl ?_
  refine E.WL.val (E.y_eql rfl rfl) rfl rfl rfl ?_
  refine E.WL.done ?_
  refine E.KQ.then_n ?_
  refine E.W.condT 68 rfl (fun h68 => ?_) (fun h68 => ?_)
  · replace h68 := of_decide_eq_true h68
    have hq : swapP d name to = (⟨d.files, true, d.fuse⟩, 8) := by unfold swapP; rw [if_pos h68]
    refine E.W.seq ?_
    refine E.W.region ?_
    refine E.WL.val (E.y_fld Tryd.underlying27 rfl Tryd.sizeOf4 rfl) rfl rfl rfl ?_
    refine E.WL.store hb 2 1 rfl rfl rfl Tryd.sizeOf4 rfl rfl rfl (E.allOne rfl) rfl ?_
    have hT := hb.hasT 2 rfl
    clear hb; intro w12 hb hO
    replace o := OFiles.keeps o (Keeps.only hO hT (by decide)) (S := fun U => U = 51) rfl
    clear hT
    clear hO
    refine E.WL.done ?_
    refine E.KQ.then_n ?_
    refine E.W.seq ?_
    refine E.W.region ?_
    refine E.WL.val (E.y_load rfl (E.At.ldk Tryd.isAgg27 Tryd.sizeOf27 (hb.at0 2 rfl) rfl)) rfl rfl rfl ?_
    refine E.WL.storeW hb 0 rfl rfl rfl Tryd.sizeOf27 rfl rfl rfl (E.allOne rfl) rfl ?_
    have hT := hb.hasT 0 rfl
    clear hb; intro w13 hb hO
    replace o := OFiles.keeps o (Keeps.only hO hT (by decide)) (S := fun U => U = 51) rfl
    clear hT
    clear hO
    refine E.WL.val (E.y_assign rfl) rfl rfl rfl ?_
    refine E.WL.done ?_
    refine E.KQ.then_n ?_
    refine E.W.ret ?_
    refine E.KQ.then_r ?_
    refine E.KQ.retct Tryd.results21 rfl (E.At.ldk Tryd.isAgg27 Tryd.sizeOf27 (hb.at0 0 rfl) rfl) rfl ?_
    exact ⟨_, rfl, ⟨_, by rw [hq], by rw [hq]; exact ⟨_, rfl, (o.rd (by exact hby)).mono RFile.goes (fun _ _ hB => Own.le (Nat.zero_le _) hB)⟩⟩, hb.below⟩
  · replace h68 := of_decide_eq_false h68
    have hq : swapP d name to = (⟨moved d.files (posB (namesF d.files) name) to, d.down, decF d.fuse⟩, 0) := by unfold swapP; rw [if_neg h68]
    refine E.W.skip ?_
    refine E.KQ.then_n ?_
    refine E.W.seq ?_
    refine E.W.seq ?_
    refine E.W.region ?_
    refine E.WL.val (E.y_fld Tryd.underlying27 rfl Tryd.sizeOf3 rfl) rfl rfl rfl ?_
    refine E.WL.val (E.y_load rfl (E.At.ld1 Tryd.isAgg3 (hb.at0 2 rfl) 2 rfl)) rfl rfl rfl ?_
    refine E.WL.val (E.y_gtr rfl rfl) rfl rfl rfl ?_
    refine E.WL.done ?_
    refine E.KQ.then_n ?_
    refine E.W.condT 73 rfl (fun h73 => ?_) (fun h73 => ?_)
    · replace h73 := of_decide_eq_true h73
      have hd : decF d.fuse = d.fuse - 1 := if_pos h73
      refine E.W.region ?_
      refine E.WL.val (E.y_fld Tryd.underlying27 rfl Tryd.sizeOf3 rfl) rfl rfl rfl ?_
      refine E.WL.val (E.y_load rfl (E.At.ld1 Tryd.isAgg3 (hb.at0 2 rfl) 2 rfl)) rfl rfl rfl ?_
      refine E.WL.val (E.y_sub rfl rfl (Go.IntWalk.i64_in _ (by omega))) rfl rfl rfl ?_
      refine E.WL.val (E.y_fld Tryd.underlying27 rfl Tryd.sizeOf3 rfl) rfl rfl rfl ?_
      refine E.WL.store hb 2 2 rfl rfl rfl Tryd.sizeOf3 rfl rfl rfl (E.allOne rfl) rfl ?_
      have hT := hb.hasT 2 rfl
      clear hb; intro w14 hb hO
      replace o := OFiles.keeps o (Keeps.only hO hT (by decide)) (S := fun U => U = 51) rfl
      clear hT
      clear hO
      refine E.WL.done ?_
      refine E.KQ.then_n ?_
      refine E.W.seq ?_
      refine E.W.region ?_
      have hpl := namePos_lt hh
      obtain ⟨g, rfl⟩ : ∃ g, A1 = some ⟨g, 0, none⟩ := hA1 (by omega)
      have hat := OFiles.at_ o rfl (List.getElem?_eq_getElem hpl)
      refine E.WL.val (E.y_fld Tryd.underlying27 rfl Tryd.sizeOf25 rfl) rfl rfl rfl ?_
      refine E.WL.val (E.y_load rfl (E.At.ld1 Tryd.isAgg25 (hb.at0 2 rfl) 0 rfl)) rfl rfl rfl ?_
      refine E.WL.val (E.y_move rfl) rfl rfl rfl ?_
      refine E.WL.val (E.y_idxS Tryd.underlying25 Tryd.sizeOf51 rfl rfl (by omega) (by omega)) rfl rfl rfl ?_
      refine E.WL.val (E.y_assign rfl) rfl rfl rfl ?_
      refine E.WL.done ?_
      refine E.KQ.then_n ?_
      refine E.W.seq ?_
      refine E.W.seq ?_
      refine E.W.region ?_
      refine E.WL.val (E.y_fld Tryd.underlying59 rfl Tryd.sizeOf57 rfl) rfl rfl rfl ?_
      refine E.WL.val (E.y_load rfl (E.At.ld1 Tryd.isAgg57 (hb.at0 1 rfl) 0 rfl)) rfl rfl rfl ?_
      refine E.WL.done ?_
      refine E.KQ.then_n ?_
      refine E.W.block ?_
      refine E.W.seq ?_
      refine E.W.region ?_
      refine E.WL.val (E.y_eql rfl rfl) rfl rfl rfl ?_
      refine E.WL.as 85 rfl (show _ = Value.bool false from congrArg Value.bool (decide_eq_false (by decide))) ?_
      refine E.WL.val (E.y_assign rfl) rfl rfl rfl ?_
      refine E.WL.done ?_
      refine E.KQ.then_n ?_
      refine E.W.cond_f rfl ?_
      refine E.W.seq ?_
      refine E.W.region ?_
      refine E.WL.val (E.y_eql rfl rfl) rfl rfl rfl ?_
      refine E.WL.as 95 rfl (show _ = Value.bool false from congrArg Value.bool (decide_eq_false (by decide))) ?_
      refine E.WL.val (E.y_assign rfl) rfl rfl rfl ?_
      refine E.WL.done ?_
      refine E.KQ.then_n ?_
      refine E.W.cond_f rfl ?_
      refine E.W.seq ?_
      refine E.W.region ?_
      refine E.WL.val (E.y_eql rfl rfl) rfl rfl rfl ?_
      refine E.WL.as 117 rfl (show _ = Value.bool false from congrArg Value.bool (decide_eq_false (by decide))) ?_
      refine E.WL.val (E.y_assign rfl) rfl rfl rfl ?_
      refine E.WL.done ?_
      refine E.KQ.then_n ?_
      refine E.W.cond_f rfl ?_
      refine E.W.seq ?_
      refine E.W.region ?_
      refine E.WL.val (E.y_eql rfl rfl) rfl rfl rfl ?_
      refine E.WL.as 126 rfl (show _ = Value.bool true from congrArg Value.bool (decide_eq_true (by decide))) ?_
      refine E.WL.val (E.y_assign rfl) rfl rfl rfl ?_
      refine E.WL.done ?_
      refine E.KQ.then_n ?_
      refine E.W.cond_t rfl ?_
      refine E.W.seq ?_
      refine E.W.region ?_
      refine E.WL.val (E.y_move rfl) rfl rfl rfl ?_
      refine E.WL.val (E.y_nilCheck rfl) rfl rfl rfl ?_
      refine E.WL.val (E.y_load rfl (E.At.ldk Tryd.isAgg51 Tryd.sizeOf51 hat rfl)) rfl rfl rfl ?_
      have hlt := o.row.lt
      refine E.WL.alloc hb Tryd.zeroValue51 rfl rfl rfl ?_
      clear hb; intro B51 w16 hb hX hB51
      replace o := OFiles.keeps o (Keeps.ext hX) (S := fun U => U = 51) rfl
      clear hX
      have hgB : (Value.slice (some ⟨g, 0, none⟩) d.files.length c1).ownBlock ≠ some B51 := fun e => by have := (hlt _ e).2; omega
      clear hlt
      refine E.WL.storeW hb 0 rfl rfl rfl Tryd.sizeOf51 rfl rfl rfl (E.allOne rfl) rfl ?_
      have hT := hb.hasT 0 rfl
      clear hb; intro w17 hb hO
      replace o := OFiles.only_ o hO hgB
      clear hT
      clear hO
      refine E.WL.done ?_
      refine E.KQ.then_n ?_
      refine E.W.seq ?_
      refine E.W.region ?_
      refine E.WL.val (E.y_fld Tryd.underlying59 rfl Tryd.sizeOf9 rfl) rfl rfl rfl ?_
      refine E.WL.val (E.y_load rfl (E.At.ld1 Tryd.isAgg9 (hb.at0 2 rfl) 2 rfl)) rfl rfl rfl ?_
      refine E.WL.val (E.y_fld Tryd.underlying51 rfl Tryd.sizeOf9 rfl) rfl rfl rfl ?_
      refine E.WL.store hb 0 0 rfl rfl rfl Tryd.sizeOf9 rfl rfl rfl (E.allOne rfl) rfl ?_
      have hT := hb.hasT 0 rfl
      clear hb; intro w18 hb hO
      replace o := OFiles.only_ o hO hgB
      clear hT
      clear hO
      refine E.WL.done ?_
      refine E.KQ.then_n ?_
      refine E.W.seq ?_
      refine E.W.region ?_
      refine E.WL.val (E.y_fld Tryd.underlying27 rfl Tryd.sizeOf25 rfl) rfl rfl rfl ?_
      refine E.WL.val (E.y_load rfl (E.At.ld1 Tryd.isAgg25 (hb.at0 3 rfl) 0 rfl)) rfl rfl rfl ?_
      refine E.WL.val (E.y_move rfl) rfl rfl rfl ?_
      refine E.WL.val (E.y_move rfl) rfl rfl rfl ?_
      refine E.WL.val (E.y_add rfl rfl (Go.IntWalk.i64_in _ (by omega))) rfl rfl rfl ?_
      clear hat
      refine E.WL.call (deleteFileX_calls (i := posB (namesF d.files) name) o.row hb.le (o.rows.one1 (by decide) (fun cs x hx => hx.one)) hpl (hb.get (i := 0) rfl).1 (hb.get (i := 0) rfl).2 hgB (by omega)) Tryd.call47 rfl rfl rfl ?_
      rintro v' w19 ⟨⟨_, rfl, own'⟩, hgx, hB6, hK6⟩
      replace hb := Bx.beside hb hgx hK6 hB6 (ne51 rfl)
      replace o : OFiles w.heap.size w19 v' (dropAt (posB (namesF d.files) name) d.files) _ := ⟨by rw [dropAt_len hpl]; exact own', (Rows.to (R' := RFile) (G := Own w.heap.size w19) (w' := w19) o.rows fun cs x hx => hx).cutOut⟩
      obtain ⟨A2, c2, rfl, hA2⟩ := ownsRow_open own'
      clear own' hB6 hK6 hgx
      have hdl := dropAt_len hpl
      refine E.WL.val (E.y_fld Tryd.underlying27 rfl Tryd.sizeOf25 rfl) rfl rfl rfl ?_
      refine E.WL.store hb 3 0 rfl rfl rfl Tryd.sizeOf25 rfl rfl rfl (E.allOne rfl) rfl ?_
      have hT := hb.hasT 3 rfl
      clear hb; intro w20 hb hO
      replace o := OFiles.keeps o (Keeps.only hO hT (by decide)) (S := fun U => U = 51) rfl
      clear hT
      clear hO
      refine E.WL.done ?_
      refine E.KQ.then_n ?_
      refine E.W.seq ?_
      refine E.W.region ?_
      refine E.WL.val (E.y_load rfl (E.At.ldk Tryd.isAgg27 Tryd.sizeOf27 (hb.at0 3 rfl) rfl)) rfl rfl rfl ?_
      refine E.WL.val (E.y_fld Tryd.underlying59 rfl Tryd.sizeOf9 rfl) rfl rfl rfl ?_
      refine E.WL.val (E.y_load rfl (E.At.ld1 Tryd.isAgg9 (hb.at0 2 rfl) 2 rfl)) rfl rfl rfl ?_
      refine E.WL.call (place_calls (d := ⟨dropAt (posB (namesF d.files) name) d.files, d.down, decF d.fuse⟩) ⟨_, by rw [hd]; rfl, by have := o.rd (bytes := 40) (by rw [hdl]; omega); rw [hdl] at *; exact this⟩ to) Tryd.call23 rfl rfl rfl ?_
      rintro _ w21 ⟨rfl, hX⟩
      replace hb := hb.ext hX
      replace o := OFiles.keeps o (Keeps.ext hX) (S := fun U => U = 51) rfl
      clear hX
      refine E.WL.as 144 rfl (show _ = Value.tuple #[.int .i64 (posB (namesF (dropAt (posB (namesF d.files) name) d.files)) to : Nat), .bool (hasB (namesF (dropAt (posB (namesF d.files) name) d.files)) to)] from rfl) ?_
      refine E.WL.val (E.y_move rfl) rfl rfl rfl ?_
      refine E.WL.val (E.y_extract rfl rfl) rfl rfl rfl ?_
      refine E.WL.val (E.y_extract rfl rfl) rfl rfl rfl ?_
      refine E.WL.val (E.y_assign rfl) rfl rfl rfl ?_
      refine E.WL.val (E.y_assign rfl) rfl rfl rfl ?_
      refine E.WL.done ?_
      refine E.KQ.then_n ?_
      refine E.W.seq ?_
      refine E.W.region ?_
      refine E.WL.val (E.y_move rfl) rfl rfl rfl ?_
      refine E.WL.done ?_
      refine E.KQ.then_n ?_
      refine E.W.condT 147 rfl (fun h34 => ?_) (fun h34 => ?_)
      · skip
        have h34 : hasB (namesF (dropAt (posB (namesF d.files) name) d.files)) to = true := h34
        refine E.W.region ?_
        refine E.WL.val (E.y_fld Tryd.underlying27 rfl Tryd.sizeOf25 rfl) rfl rfl rfl ?_
        refine E.WL.val (E.y_load rfl (E.At.ld1 Tryd.isAgg25 (hb.at0 3 rfl) 0 rfl)) rfl rfl rfl ?_
        refine E.WL.val (E.y_move rfl) rfl rfl rfl ?_
        refine E.WL.val (E.y_load rfl (E.At.ldk Tryd.isAgg51 Tryd.sizeOf51 (hb.at0 0 rfl) rfl)) rfl rfl rfl ?_
        have hpl2 := namePos_lt h34
        have hpl3 := hpl2
        rw [hdl] at hpl3
        obtain ⟨g2, rfl⟩ : ∃ g, A2 = some ⟨g, 0, none⟩ := hA2 (by omega)
        refine E.WL.val (E.y_idxS Tryd.underlying25 Tryd.sizeOf51 rfl rfl (by omega) (by omega)) rfl rfl rfl ?_
        have own2 := o.row
        rw [hdl] at own2
        refine WL.storeElem (k := 3) (o := (posB (namesF (dropAt (posB (namesF d.files) name) d.files)) to) * 3) (cs := fcells ⟨to, d.files[posB (namesF d.files) name].data, d.files[posB (namesF d.files) name].synced⟩) own2 (by have := mul_lt_le (k := 3) hpl2; rw [hdl] at this; exact this) (show _ = some (Value.pointer (some ⟨g2, (posB (namesF (dropAt (posB (namesF d.files) name) d.files)) to) * 3, none⟩)) from congrArg (fun z => some (Value.pointer (some z))) (add_eq _ _)) rfl Tryd.sizeOf51 rfl (E.allOne rfl) rfl ?_
        intro w22 own3 hO hT hB
        replace hb := (hb.drop (List.Sublist.cons _ (List.Sublist.refl _))).turn hO hT hB rfl
        replace o := OFiles.put_ o hpl2 (by rw [hdl]; exact own3)
        rw [← moved_t hpl h34] at o
        clear own2 own3 hO hT hB
        refine E.WL.done ?_
        refine E.KQ.block_n ?_
        refine E.KQ.then_n ?_
        refine E.W.seq ?_
        refine E.W.region ?_
        refine E.WL.val (E.y_load rfl (E.At.ldk Tryd.isAgg27 Tryd.sizeOf27 (hb.at0 2 rfl) rfl)) rfl rfl rfl ?_
        refine E.WL.storeW hb 0 rfl rfl rfl Tryd.sizeOf27 rfl rfl rfl (E.allOne rfl) rfl ?_
        have hT := hb.hasT 0 rfl
        clear hb; intro w23 hb hO
        replace o := OFiles.keeps o (Keeps.only hO hT (by decide)) (S := fun U => U = 51) rfl
        clear hT
        clear hO
        refine E.WL.val (E.y_assign rfl) rfl rfl rfl ?_
        refine E.WL.done ?_
        refine E.KQ.then_n ?_
        refine E.W.ret ?_
        refine E.KQ.retct Tryd.results21 rfl (E.At.ldk Tryd.isAgg27 Tryd.sizeOf27 (hb.at0 0 rfl) rfl) rfl ?_
        exact ⟨_, rfl, ⟨_, by rw [hq], by rw [hq, hd]; exact ⟨_, rfl, (o.rd (by have hml := moved_len hpl to; omega)).mono RFile.goes (fun _ _ hB => Own.le (Nat.zero_le _) hB)⟩⟩, hb.below⟩
      · skip
        have h34 : hasB (namesF (dropAt (posB (namesF d.files) name) d.files)) to = false := h34
        have hi2 : posB (namesF (dropAt (posB (namesF d.files) name) d.files)) to ≤ (dropAt (posB (namesF d.files) name) d.files).length := namePos_le _ _
        refine E.W.region ?_
        refine E.WL.val (E.y_fld Tryd.underlying27 rfl Tryd.sizeOf25 rfl) rfl rfl rfl ?_
        refine E.WL.val (E.y_load rfl (E.At.ld1 Tryd.isAgg25 (hb.at0 3 rfl) 0 rfl)) rfl rfl rfl ?_
        refine E.WL.val (E.y_move rfl) rfl rfl rfl ?_
        refine E.WL.val (E.y_load rfl (E.At.ldk Tryd.isAgg51 Tryd.sizeOf51 (hb.at0 0 rfl) rfl)) rfl rfl rfl ?_
        have hlt := o.row.lt
        refine E.WL.mkslice (T := 51) (cs := [.string to, .string d.files[posB (namesF d.files) name].data, .int .i64 d.files[posB (namesF d.files) name].synced]) hb rfl (fun _ => by kernel_rfl) rfl rfl ?_
        clear hb; intro B52 w25 hb hX hB52
        replace o := OFiles.keeps o (Keeps.ext hX) (S := fun U => U = 51) rfl
        clear hX
        have hgB2 : (Value.slice A2 (d.files.length - 1) c2).ownBlock ≠ some B52 := fun e => by have := (hlt _ e).2; omega
        clear hlt
        refine E.WL.call (insertFile_calls (i := posB (namesF (dropAt (posB (namesF d.files) name) d.files)) to) (n := d.files.length - 1) (by have := o.row; rw [hdl] at this; exact this) hb.le (hb.at0 0 rfl) (hb.hasT 0 rfl) hgB2 rfl (E.allOne rfl) (o.rows.one1 (by decide) (fun cs x hx => hx.one)) (by rw [← hdl]; exact hi2) (by omega)) Tryd.call46 rfl rfl rfl ?_
        rintro v' w26 ⟨⟨_, rfl, own'⟩, hB6, hK6⟩
        replace hb := (hb.drop (List.Sublist.cons _ (List.Sublist.cons _ (List.Sublist.refl _)))).keeps hK6 hB6 (ne51 rfl)
        replace o : OFiles w.heap.size w26 v' (putAt (posB (namesF (dropAt (posB (namesF d.files) name) d.files)) to) ⟨to, d.files[posB (namesF d.files) name].data, d.files[posB (namesF d.files) name].synced⟩ (dropAt (posB (namesF d.files) name) d.files)) _ := ⟨by rw [putAt_len hi2, hdl]; exact own', (Rows.to (R' := RFile) (G := Own w.heap.size w26) (w' := w26) o.rows fun cs x hx => hx).putIn rfl rfl⟩
        rw [← moved_f hpl h34] at o
        obtain ⟨A3, c3, rfl, hA3⟩ := ownsRow_open own'
        clear own' hB6 hK6
        refine E.WL.val (E.y_fld Tryd.underlying27 rfl Tryd.sizeOf25 rfl) rfl rfl rfl ?_
        refine E.WL.store hb 2 0 rfl rfl rfl Tryd.sizeOf25 rfl rfl rfl (E.allOne rfl) rfl ?_
        have hT := hb.hasT 2 rfl
        clear hb; intro w27 hb hO
        replace o := OFiles.keeps o (Keeps.only hO hT (by decide)) (S := fun U => U = 51) rfl
        clear hT
        clear hO
        refine E.WL.done ?_
        refine E.KQ.block_n ?_
        refine E.KQ.then_n ?_
        refine E.W.seq ?_
        refine E.W.region ?_
        refine E.WL.val (E.y_load rfl (E.At.ldk Tryd.isAgg27 Tryd.sizeOf27 (hb.at0 2 rfl) rfl)) rfl rfl rfl ?_
        refine E.WL.storeW hb 0 rfl rfl rfl Tryd.sizeOf27 rfl rfl rfl (E.allOne rfl) rfl ?_
        have hT := hb.hasT 0 rfl
        clear hb; intro w28 hb hO
        replace o := OFiles.keeps o (Keeps.only hO hT (by decide)) (S := fun U => U = 51) rfl
        clear hT
        clear hO
        refine E.WL.val (E.y_assign rfl) rfl rfl rfl ?_
        refine E.WL.done ?_
        refine E.KQ.then_n ?_
        refine E.W.ret ?_
        refine E.KQ.retct Tryd.results21 rfl (E.At.ldk Tryd.isAgg27 Tryd.sizeOf27 (hb.at0 0 rfl) rfl) rfl ?_
        exact ⟨_, rfl, ⟨_, by rw [hq], by rw [hq, hd]; exact ⟨_, rfl, (o.rd (by have hml := moved_len hpl to; omega)).mono RFile.goes (fun _ _ hB => Own.le (Nat.zero_le _) hB)⟩⟩, hb.below⟩
    · replace h73 := of_decide_eq_false h73
      have hd : decF d.fuse = d.fuse := if_neg h73
      refine E.W.skip ?_
      refine E.KQ.then_n ?_
      refine E.W.seq ?_
      refine E.W.region ?_
      have hpl := namePos_lt hh
      obtain ⟨g, rfl⟩ : ∃ g, A1 = some ⟨g, 0, none⟩ := hA1 (by omega)
      have hat := OFiles.at_ o rfl (List.getElem?_eq_getElem hpl)
      refine E.WL.val (E.y_fld Tryd.underlying27 rfl Tryd.sizeOf25 rfl) rfl rfl rfl ?_
      refine E.WL.val (E.y_load rfl (E.At.ld1 Tryd.isAgg25 (hb.at0 2 rfl) 0 rfl)) rfl rfl rfl ?_
      refine E.WL.val (E.y_move rfl) rfl rfl rfl ?_
      refine E.WL.val (E.y_idxS Tryd.underlying25 Tryd.sizeOf51 rfl rfl (by omega) (by omega)) rfl rfl rfl ?_
      refine E.WL.val (E.y_assign rfl) rfl rfl rfl ?_
      refine E.WL.done ?_
      refine E.KQ.then_n ?_
      refine E.W.seq ?_
      refine E.W.seq ?_
      refine E.W.region ?_
      refine E.WL.val (E.y_fld Tryd.underlying59 rfl Tryd.sizeOf57 rfl) rfl rfl rfl ?_
      refine E.WL.val (E.y_load rfl (E.At.ld1 Tryd.isAgg57 (hb.at0 1 rfl) 0 rfl)) rfl rfl rfl ?_
      refine E.WL.done ?_
      refine E.KQ.then_n ?_
      refine E.W.block ?_
      refine E.W.seq ?_
      refine E.W.region ?_
      refine E.WL.val (E.y_eql rfl rfl) rfl rfl rfl ?_
      refine E.WL.as 85 rfl (show _ = Value.bool false from congrArg Value.bool (decide_eq_false (by decide))) ?_
      refine E.WL.val (E.y_assign rfl) rfl rfl rfl ?_
      refine E.WL.done ?_
      refine E.KQ.then_n ?_
      refine E.W.cond_f rfl ?_
      refine E.W.seq ?_
      refine E.W.region ?_
      refine E.WL.val (E.y_eql rfl rfl) rfl rfl rfl ?_
      refine E.WL.as 95 rfl (show _ = Value.bool false from congrArg Value.bool (decide_eq_false (by decide))) ?_
      refine E.WL.val (E.y_assign rfl) rfl rfl rfl ?_
      refine E.WL.done ?_
      refine E.KQ.then_n ?_
      refine E.W.cond_f rfl ?_
      refine E.W.seq ?_
      refine E.W.region ?_
      refine E.WL.val (E.y_eql rfl rfl) rfl rfl rfl ?_
      refine E.WL.as 117 rfl (show _ = Value.bool false from congrArg Value.bool (decide_eq_false (by decide))) ?_
      refine E.WL.val (E.y_assign rfl) rfl rfl rfl ?_
      refine E.WL.done ?_
      refine E.KQ.then_n ?_
      refine E.W.cond_f rfl ?_
      refine E.W.seq ?_
      refine E.W.region ?_
      refine E.WL.val (E.y_eql rfl rfl) rfl rfl rfl ?_
      refine E.WL.as 126 rfl (show _ = Value.bool true from congrArg Value.bool (decide_eq_true (by decide))) ?_
      refine E.WL.val (E.y_assign rfl) rfl rfl rfl ?_
      refine E.WL.done ?_
      refine E.KQ.then_n ?_
      refine E.W.cond_t rfl ?_
      refine E.W.seq ?_
      refine E.W.region ?_
      refine E.WL.val (E.y_move rfl) rfl rfl rfl ?_
      refine E.WL.val (E.y_nilCheck rfl) rfl rfl rfl ?_
      refine E.WL.val (E.y_load rfl (E.At.ldk Tryd.isAgg51 Tryd.sizeOf51 hat rfl)) rfl rfl rfl ?_
      have hlt := o.row.lt
      refine E.WL.alloc hb Tryd.zeroValue51 rfl rfl rfl ?_
      clear hb; intro B51 w30 hb hX hB51
      replace o := OFiles.keeps o (Keeps.ext hX) (S := fun U => U = 51) rfl
      clear hX
      have hgB : (Value.slice (some ⟨g, 0, none⟩) d.files.length c1).ownBlock ≠ some B51 := fun e => by have := (hlt _ e).2; omega
      clear hlt
      refine E.WL.storeW hb 0 rfl rfl rfl Tryd.sizeOf51 rfl rfl rfl (E.allOne rfl) rfl ?_
      have hT := hb.hasT 0 rfl
      clear hb; intro w31 hb hO
      replace o := OFiles.only_ o hO hgB
      clear hT
      clear hO
      refine E.WL.done ?_
      refine E.KQ.then_n ?_
      refine E.W.seq ?_
      refine E.W.region ?_
      refine E.WL.val (E.y_fld Tryd.underlying59 rfl Tryd.sizeOf9 rfl) rfl rfl rfl ?_
      refine E.WL.val (E.y_load rfl (E.At.ld1 Tryd.isAgg9 (hb.at0 2 rfl) 2 rfl)) rfl rfl rfl ?_
      refine E.WL.val (E.y_fld Tryd.underlying51 rfl Tryd.sizeOf9 rfl) rfl rfl rfl ?_
      refine E.WL.store hb 0 0 rfl rfl rfl Tryd.sizeOf9 rfl rfl rfl (E.allOne rfl) rfl ?_
      have hT := hb.hasT 0 rfl
      clear hb; intro w32 hb hO
      replace o := OFiles.only_ o hO hgB
      clear hT
      clear hO
      refine E.WL.done ?_
      refine E.KQ.then_n ?_
      refine E.W.seq ?_
      refine E.W.region ?_
      refine E.WL.val (E.y_fld Tryd.underlying27 rfl Tryd.sizeOf25 rfl) rfl rfl rfl ?_
      refine E.WL.val (E.y_load rfl (E.At.ld1 Tryd.isAgg25 (hb.at0 3 rfl) 0 rfl)) rfl rfl rfl ?_
      refine E.WL.val (E.y_move rfl) rfl rfl rfl ?_
      refine E.WL.val (E.y_move rfl) rfl rfl rfl ?_
      refine E.WL.val (E.y_add rfl rfl (Go.IntWalk.i64_in _ (by omega))) rfl rfl rfl ?_
      clear hat
      refine E.WL.call (deleteFileX_calls (i := posB (namesF d.files) name) o.row hb.le (o.rows.one1 (by decide) (fun cs x hx => hx.one)) hpl (hb.get (i := 0) rfl).1 (hb.get (i := 0) rfl).2 hgB (by omega)) Tryd.call47 rfl rfl rfl ?_
      rintro v' w33 ⟨⟨_, rfl, own'⟩, hgx, hB6, hK6⟩
      replace hb := Bx.beside hb hgx hK6 hB6 (ne51 rfl)
      replace o : OFiles w.heap.size w33 v' (dropAt (posB (namesF d.files) name) d.files) _ := ⟨by rw [dropAt_len hpl]; exact own', (Rows.to (R' := RFile) (G := Own w.heap.size w33) (w' := w33) o.rows fun cs x hx => hx).cutOut⟩
      obtain ⟨A2, c2, rfl, hA2⟩ := ownsRow_open own'
      clear own' hB6 hK6 hgx
      have hdl := dropAt_len hpl
      refine E.WL.val (E.y_fld Tryd.underlying27 rfl Tryd.sizeOf25 rfl) rfl rfl rfl ?_
      refine E.WL.store hb 3 0 rfl rfl rfl Tryd.sizeOf25 rfl rfl rfl (E.allOne rfl) rfl ?_
      have hT := hb.hasT 3 rfl
      clear hb; intro w34 hb hO
      replace o := OFiles.keeps o (Keeps.only hO hT (by decide)) (S := fun U => U = 51) rfl
      clear hT
      clear hO
      refine E.WL.done ?_
      refine E.KQ.then_n ?_
      refine E.W.seq ?_
      refine E.W.region ?_
      refine E.WL.val (E.y_load rfl (E.At.ldk Tryd.isAgg27 Tryd.sizeOf27 (hb.at0 3 rfl) rfl)) rfl rfl rfl ?_
      refine E.WL.val (E.y_fld Tryd.underlying59 rfl Tryd.sizeOf9 rfl) rfl rfl rfl ?_
      refine E.WL.val (E.y_load rfl (E.At.ld1 Tryd.isAgg9 (hb.at0 2 rfl) 2 rfl)) rfl rfl rfl ?_
      refine E.WL.call (place_calls (d := ⟨dropAt (posB (namesF d.files) name) d.files, d.down, decF d.fuse⟩) ⟨_, by rw [hd]; rfl, by have := o.rd (bytes := 40) (by rw [hdl]; omega); rw [hdl] at *; exact this⟩ to) Tryd.call23 rfl rfl rfl ?_
      rintro _ w35 ⟨rfl, hX⟩
      replace hb := hb.ext hX
      replace o := OFiles.keeps o (Keeps.ext hX) (S := fun U => U = 51) rfl
      clear hX
      refine E.WL.as 144 rfl (show _ = Value.tuple #[.int .i64 (posB (namesF (dropAt (posB (namesF d.files) name) d.files)) to : Nat), .bool (hasB (namesF (dropAt (posB (namesF d.files) name) d.files)) to)] from rfl) ?_
      refine E.WL.val (E.y_move rfl) rfl rfl rfl ?_
      refine E.WL.val (E.y_extract rfl rfl) rfl rfl rfl ?_
      refine E.WL.val (E.y_extract rfl rfl) rfl rfl rfl ?_
      refine E.WL.val (E.y_assign rfl) rfl rfl rfl ?_
      refine E.WL.val (E.y_assign rfl) rfl rfl rfl ?_
      refine E.WL.done ?_
      refine E.KQ.then_n ?_
      refine E.W.seq ?_
      refine E.W.region ?_
      refine E.WL.val (E.y_move rfl) rfl rfl rfl ?_
      refine E.WL.done ?_
      refine E.KQ.then_n ?_
      refine E.W.condT 147 rfl (fun h34 => ?_) (fun h34 => ?_)
      · skip
        have h34 : hasB (namesF (dropAt (posB (namesF d.files) name) d.files)) to = true := h34
        refine E.W.region ?_
        refine E.WL.val (E.y_fld Tryd.underlying27 rfl Tryd.sizeOf25 rfl) rfl rfl rfl ?_
        refine E.WL.val (E.y_load rfl (E.At.ld1 Tryd.isAgg25 (hb.at0 3 rfl) 0 rfl)) rfl rfl rfl ?_
        refine E.WL.val (E.y_move rfl) rfl rfl rfl ?_
        refine E.WL.val (E.y_load rfl (E.At.ldk Tryd.isAgg51 Tryd.sizeOf51 (hb.at0 0 rfl) rfl)) rfl rfl rfl ?_
        have hpl2 := namePos_lt h34
        have hpl3 := hpl2
        rw [hdl] at hpl3
        obtain ⟨g2, rfl⟩ : ∃ g, A2 = some ⟨g, 0, none⟩ := hA2 (by omega)
        refine E.WL.val (E.y_idxS Tryd.underlying25 Tryd.sizeOf51 rfl rfl (by omega) (by omega)) rfl rfl rfl ?_
        have own2 := o.row
        rw [hdl] at own2
        refine WL.storeElem (k := 3) (o := (posB (namesF (dropAt (posB (namesF d.files) name) d.files)) to) * 3) (cs := fcells ⟨to, d.files[posB (namesF d.files) name].data, d.files[posB (namesF d.files) name].synced⟩) own2 (by have := mul_lt_le (k := 3) hpl2; rw [hdl] at this; exact this) (show _ = some (Value.pointer (some ⟨g2, (posB (namesF (dropAt (posB (namesF d.files) name) d.files)) to) * 3, none⟩)) from congrArg (fun z => some (Value.pointer (some z))) (add_eq _ _)) rfl Tryd.sizeOf51 rfl (E.allOne rfl) rfl ?_
        intro w36 own3 hO hT hB
        replace hb := (hb.drop (List.Sublist.cons _ (List.Sublist.refl _))).turn hO hT hB rfl
        replace o := OFiles.put_ o hpl2 (by rw [hdl]; exact own3)
        rw [← moved_t hpl h34] at o
        clear own2 own3 hO hT hB
        refine E.WL.done ?_
        refine E.KQ.block_n ?_
        refine E.KQ.then_n ?_
        refine E.W.seq ?_
        refine E.W.region ?_
        refine E.WL.val (E.y_load rfl (E.At.ldk Tryd.isAgg27 Tryd.sizeOf27 (hb.at0 2 rfl) rfl)) rfl rfl rfl ?_
        refine E.WL.storeW hb 0 rfl rfl rfl Tryd.sizeOf27 rfl rfl rfl (E.allOne rfl) rfl ?_
        have hT := hb.hasT 0 rfl
        clear hb; intro w37 hb hO
        replace o := OFiles.keeps o (Keeps.only hO hT (by decide)) (S := fun U => U = 51) rfl
        clear hT
        clear hO
        refine E.WL.val (E.y_assign rfl) rfl rfl rfl ?_
        refine E.WL.done ?_
        refine E.KQ.then_n ?_
        refine E.W.ret ?_
        refine E.KQ.retct Tryd.results21 rfl (E.At.ldk Tryd.isAgg27 Tryd.sizeOf27 (hb.at0 0 rfl) rfl) rfl ?_
        exact ⟨_, rfl, ⟨_, by rw [hq], by rw [hq, hd]; exact ⟨_, rfl, (o.rd (by have hml := moved_len hpl to; omega)).mono RFile.goes (fun _ _ hB => Own.le (Nat.zero_le _) hB)⟩⟩, hb.below⟩
      · skip
        have h34 : hasB (namesF (dropAt (posB (namesF d.files) name) d.files)) to = false := h34
        have hi2 : posB (namesF (dropAt (posB (namesF d.files) name) d.files)) to ≤ (dropAt (posB (namesF d.files) name) d.files).length := namePos_le _ _
        refine E.W.region ?_
        refine E.WL.val (E.y_fld Tryd.underlying27 rfl Tryd.sizeOf25 rfl) rfl rfl rfl ?_
        refine E.WL.val (E.y_load rfl (E.At.ld1 Tryd.isAgg25 (hb.at0 3 rfl) 0 rfl)) rfl rfl rfl ?_
        refine E.WL.val (E.y_move rfl) rfl rfl rfl ?_
        refine E.WL.val (E.y_load rfl (E.At.ldk Tryd.isAgg51 Tryd.sizeOf51 (hb.at0 0 rfl) rfl)) rfl rfl rfl ?_
        have hlt := o.row.lt
        refine E.WL.mkslice (T := 51) (cs := [.string to, .string d.files[posB (namesF d.files) name].data, .int .i64 d.files[posB (namesF d.files) name].synced]) hb rfl (fun _ => by kernel_rfl) rfl rfl ?_
        clear hb; intro B52 w39 hb hX hB52
        replace o := OFiles.keeps o (Keeps.ext hX) (S := fun U => U = 51) rfl
        clear hX
        have hgB2 : (Value.slice A2 (d.files.length - 1) c2).ownBlock ≠ some B52 := fun e => by have := (hlt _ e).2; omega
        clear hlt
        refine E.WL.call (insertFile_calls (i := posB (namesF (dropAt (posB (namesF d.files) name) d.files)) to) (n := d.files.length - 1) (by have := o.row; rw [hdl] at this; exact this) hb.le (hb.at0 0 rfl) (hb.hasT 0 rfl) hgB2 rfl (E.allOne rfl) (o.rows.one1 (by decide) (fun cs x hx => hx.one)) (by rw [← hdl]; exact hi2) (by omega)) Tryd.call46 rfl rfl rfl ?_
        rintro v' w40 ⟨⟨_, rfl, own'⟩, hB6, hK6⟩
        replace hb := (hb.drop (List.Sublist.cons _ (List.Sublist.cons _ (List.Sublist.refl _)))).keeps hK6 hB6 (ne51 rfl)
        replace o : OFiles w.heap.size w40 v' (putAt (posB (namesF (dropAt (posB (namesF d.files) name) d.files)) to) ⟨to, d.files[posB (namesF d.files) name].data, d.files[posB (namesF d.files) name].synced⟩ (dropAt (posB (namesF d.files) name) d.files)) _ := ⟨by rw [putAt_len hi2, hdl]; exact own', (Rows.to (R' := RFile) (G := Own w.heap.size w40) (w' := w40) o.rows fun cs x hx => hx).putIn rfl rfl⟩
        rw [← moved_f hpl h34] at o
        obtain ⟨A3, c3, rfl, hA3⟩ := ownsRow_open own'
        clear own' hB6 hK6
        refine E.WL.val (E.y_fld Tryd.underlying27 rfl Tryd.sizeOf25 rfl) rfl rfl rfl ?_
        refine E.WL.store hb 2 0 rfl rfl rfl Tryd.sizeOf25 rfl rfl rfl (E.allOne rfl) rfl ?_
        have hT := hb.hasT 2 rfl
        clear hb; intro w41 hb hO
        replace o := OFiles.keeps o (Keeps.only hO hT (by decide)) (S := fun U => U = 51) rfl
        clear hT
        clear hO
        refine E.WL.done ?_
        refine E.KQ.block_n ?_
        refine E.KQ.then_n ?_
        refine E.W.seq ?_
        refine E.W.region ?_
        refine E.WL.val (E.y_load rfl (E.At.ldk Tryd.isAgg27 Tryd.sizeOf27 (hb.at0 2 rfl) rfl)) rfl rfl rfl ?_
        refine E.WL.storeW hb 0 rfl rfl rfl Tryd.sizeOf27 rfl rfl rfl (E.allOne rfl) rfl ?_
        have hT := hb.hasT 0 rfl
        clear hb; intro w42 hb hO
        replace o := OFiles.keeps o (Keeps.only hO hT (by decide)) (S := fun U => U = 51) rfl
        clear hT
        clear hO
        refine E.WL.val (E.y_assign rfl) rfl rfl rfl ?_
        refine E.WL.done ?_
        refine E.KQ.then_n ?_
        refine E.W.ret ?_
        refine E.KQ.retct Tryd.results21 rfl (E.At.ldk Tryd.isAgg27 Tryd.sizeOf27 (hb.at0 0 rfl) rfl) rfl ?_
        exact ⟨_, rfl, ⟨_, by rw [hq], by rw [hq, hd]; exact ⟨_, rfl, (o.rd (by have hml := moved_len hpl to; omega)).mono RFile.goes (fun _ _ hB => Own.le (Nat.zero_le _) hB)⟩⟩, hb.below⟩
end Go.Proofs.YtmnnbnajnfdncaaDoor
