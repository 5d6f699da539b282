/- Walks: the power fails. -/
import Derived.Test.YtmnnbnajnfdncaaDoorSnapk
set_option linter.unusedVariables false
set_option linter.unusedSimpArgs false
namespace Go.Proofs.YtmnnbnajnfdncaaDoor
open Go.RowKit E
def wetP (f : FileD) (k : Int) : Int := if (f.data.size : Int) - f.synced < k then (f.data.size : Int) - f.synced else k
def keptP (f : FileD) : Option Int → Int
  | none => f.synced
  | some k => if k ≤ 0 then f.synced else f.synced + wetP f k
def crashF (f : FileD) (k : Option Int) : FileD := ⟨f.name, f.data.extract 0 (keptP f k).toNat, keptP f k⟩
def crashL (l : List FileD) (keep : List Int) : List FileD := l.mapIdx fun i f => crashF f keep[i]?
def crashP (d : DiskD) (keep : List Int) : DiskD := ⟨crashL d.files keep, false, -1⟩
def crAt (l : List FileD) (keep : List Int) (k : Nat) : List FileD := (crashL l keep).take k ++ l.drop k
theorem crashL_len (l : List FileD) (keep : List Int) : (crashL l keep).length = l.length := by unfold crashL; simp
theorem crAt_len {l : List FileD} {keep : List Int} {k : Nat} (h : k ≤ l.length) : (crAt l keep k).length = l.length := by
  unfold crAt; rw [List.length_append, List.length_take, List.length_drop, crashL_len]; omega
theorem crAt_at {l : List FileD} {keep : List Int} {k : Nat} (h : k < l.length) : (crAt l keep k)[k]? = some l[k] := by
  unfold crAt
  rw [List.getElem?_append_right (by rw [List.length_take]; omega), List.length_take, crashL_len, Nat.min_eq_left (by omega), Nat.sub_self, List.getElem?_drop, Nat.add_zero, List.getElem?_eq_getElem h]
theorem crAt_set {l : List FileD} {keep : List Int} {k : Nat} (h : k < l.length) : (crAt l keep k).set k (crashF l[k] keep[k]?) = crAt l keep (k + 1) := by
  have hc : (crashL l keep)[k]? = some (crashF l[k] keep[k]?) := by unfold crashL; rw [List.getElem?_mapIdx, List.getElem?_eq_getElem h]; rfl
  refine List.ext_getElem? fun j => ?_
  rw [List.getElem?_set, crAt_len (by omega)]
  unfold crAt
  by_cases e : k = j
  · subst e
    rw [if_pos rfl, if_pos h, List.getElem?_append_left (by rw [List.length_take, crashL_len]; omega), List.getElem?_take, if_pos (by omega), hc]
  · rw [if_neg e]
    rcases Nat.lt_or_ge j k with hj | hj
    · rw [List.getElem?_append_left (by rw [List.length_take, crashL_len]; omega), List.getElem?_append_left (by rw [List.length_take, crashL_len]; omega), List.getElem?_take, List.getElem?_take, if_pos hj, if_pos (by omega)]
    · rw [List.getElem?_append_right (by rw [List.length_take]; omega), List.getElem?_append_right (by rw [List.length_take]; omega), List.length_take, List.length_take, crashL_len, Nat.min_eq_left (by omega), Nat.min_eq_left (by omega), List.getElem?_drop, List.getElem?_drop]
      congr 1; omega
theorem crAt_zero (l : List FileD) (keep : List Int) : crAt l keep 0 = l := by unfold crAt; simp
theorem crAt_all (l : List FileD) (keep : List Int) : crAt l keep l.length = crashL l keep := by
  unfold crAt; rw [List.drop_length, List.append_nil, List.take_of_length_le (by rw [crashL_len]; exact Nat.le_refl _)]
set_option maxHeartbeats 4000000 in
theorem crash_calls {F G : FP} {w : World} {cs : List Value} {d : DiskD} (h : RDisk F w cs d) {vk : Value} {keep : List Int} (hkp : RInts G w vk keep) (hck : checkD d = true) (hsz : ∀ f ∈ d.files, f.data.size ≤ 1000000) :
    Calls Tryd.prog 7 #[(.agg cs.toArray), vk] w (Ret fun u w' => (∃ cs', u = .tuple #[.agg cs'.toArray, .int .i64 0] ∧ RDisk (Tk w') w' cs' (crashP d keep)) ∧ Ext w w') := by
  obtain ⟨v, rfl, hf⟩ := id h
  obtain ⟨A, c, rfl, hc, hby, hg⟩ := hf.open_
  obtain ⟨Ak, ck, rfl, _, _, _⟩ := id hkp.open_
  have hf0 : RFiles (Old w) w (.slice A d.files.length c) d.files := hf.old (by decide) (fun _ _ h => h)
  have hk0 : RInts (Old w) w (.slice Ak keep.length ck) keep := hkp.old (by decide) (fun _ _ h => h)
  have hb := E.Bx.start w (base := w.heap.size) (Nat.le_refl _)
  refine E.enter Tryd.func7 rfl Tryd.ntmps7 [(.agg #[.slice A d.files.length c, .bool d.down, .int .i64 d.fuse]), (.slice Ak keep.length ck)] rfl ?_
  refine E.W.seq ?_
  refine E.W.region ?_
  refine E.WL.box hb rfl rfl rfl rfl ?_
  clear hb; intro B2 w2 hb _ _
  refine E.WL.alloc hb Tryd.zeroValue27 rfl rfl rfl ?_
  clear hb; intro B4 w4 hb _ _
  refine E.WL.val (E.y_assign rfl) rfl rfl rfl ?_
  refine E.WL.done ?_
  refine E.KQ.then_n ?_
  refine E.W.scope ?_
  refine E.W.seq ?_
  refine E.W.seq ?_
  refine E.W.region ?_
  refine E.WL.val (E.y_load rfl (E.At.ldk Tryd.isAgg27 Tryd.sizeOf27 (hb.at0 1 rfl) rfl)) rfl rfl rfl ?_
  refine E.WL.call (check_calls (h.ext hb.below)) Tryd.call17 rfl rfl rfl ?_
  rintro _ w5 ⟨rfl, hX⟩
  replace hb := hb.ext hX
  clear hX
  refine E.WL.as 12 rfl (show _ = Value.int .i64 0 from by rw [hck]; rfl) ?_
  refine E.WL.val (E.y_assign rfl) rfl rfl rfl ?_
  refine E.WL.done ?_
  refine E.KQ.then_n ?_
  refine E.W.seq ?_
  refine E.W.region ?_
  refine E.WL.val (E.y_move rfl) rfl rfl rfl ?_
  refine E.WL.val (E.y_neq rfl rfl) rfl rfl rfl ?_
  refine E.WL.as 14 rfl (show _ = Value.bool false from congrArg Value.bool (by decide)) ?_
  refine E.WL.done ?_
  refine E.KQ.then_n ?_
  refine E.W.cond_f rfl ?_
  refine E.W.skip ?_
  refine E.KQ.then_n ?_
  refine E.W.seq ?_
  refine E.W.region ?_
  refine E.WL.val (E.y_fld Tryd.underlying27 rfl Tryd.sizeOf25 rfl) rfl rfl rfl ?_
  refine E.WL.val (E.y_load rfl (E.At.ld1 Tryd.isAgg25 (hb.at0 1 rfl) 0 rfl)) rfl rfl rfl ?_
  refine E.WL.call (cloneFile_calls (hf.ext RFile.goes hb.below)) Tryd.call18 rfl rfl rfl ?_
  rintro v1 w6 ⟨⟨_, news, rfl, own, rows⟩, hX⟩
  have hle := hb.le
  replace hb := hb.ext hX
  have o : OFiles w.heap.size w6 v1 d.files news := ⟨ownsRow_le own hle, rows.to fun cs x hx => hx⟩
  obtain ⟨A1, c1, rfl, hA1⟩ := ownsRow_open o.row
  clear own rows hX hle
  refine E.WL.val (E.y_build (v := .agg #[.slice A1 d.files.length c1, .bool false, .int .i64 (-1)]) rfl (by kernel_rfl)) rfl rfl rfl ?_
  refine E.WL.alloc hb Tryd.zeroValue27 rfl rfl rfl ?_
  clear hb; intro B7 w8 hb hX _
  replace o := OFiles.keeps o (Keeps.ext hX) (S := fun U => U = 51) rfl
  clear hX
  refine E.WL.storeW hb 0 rfl rfl rfl Tryd.sizeOf27 rfl rfl rfl (E.allOne rfl) rfl ?_
  have hT := hb.hasT 0 rfl
  clear hb; intro w9 hb hO
  replace o := OFiles.keeps o (Keeps.only hO hT (by decide)) (S := fun U => U = 51) rfl
  clear hT
  clear hO
  refine E.WL.done ?_
  refine E.KQ.then_n ?_
  refine E.W.seq ?_
  refine E.W.label ?_
  refine E.KQ.then_n ?_
  refine E.W.seq ?_
  refine E.W.seq ?_
  refine E.W.region ?_
  refine E.WL.val (E.y_fld Tryd.underlying27 rfl Tryd.sizeOf25 rfl) rfl rfl rfl ?_
  refine E.WL.val (E.y_load rfl (E.At.ld1 Tryd.isAgg25 (hb.at0 0 rfl) 0 rfl)) rfl rfl rfl ?_
  refine E.WL.val (E.y_lenS Tryd.underlying25 rfl) rfl rfl rfl ?_
  refine E.WL.val (E.y_move rfl) rfl rfl rfl ?_
  refine E.WL.done ?_
  refine E.KQ.then_n ?_
  refine E.W.block ?_
  refine E.W.loop (ι := Nat) (fun k => [(1, .slice Ak keep.length ck), (2, .pointer (some ⟨B2, 0, none⟩)), (4, .pointer (some ⟨B4, 0, none⟩)), (7, .pointer (some ⟨B7, 0, none⟩)), (23, .int .i64 d.files.length), (24, .int .i64 (k : Nat))]) (fun k w' => ∃ nn, Bx w.heap.size w w' [(B7, [.slice A1 d.files.length c1, .bool false, .int .i64 (-1)], 27), (B4, [.slice none 0 0, .bool false, .int .i64 0], 27), (B2, [.slice A d.files.length c, .bool d.down, .int .i64 d.fuse], 27)] ∧ OFiles w.heap.size w' (.slice A1 d.files.length c1) (crAt d.files keep k) nn ∧ k ≤ d.files.length) (fun k => d.files.length - k) (0) (by exact (.cons rfl (.cons rfl (.cons rfl (.cons rfl (.cons rfl (.cons rfl .nil))))))) ⟨news, hb, by rw [crAt_zero]; exact o, Nat.zero_le _⟩ (fun k w10 hJ => ?_)
  clear hb o
  obtain ⟨nn, hb, o, hk⟩ := hJ
  refine E.W.seq ?_
  refine E.W.region ?_
  refine E.WL.val (E.y_lss rfl rfl) rfl rfl rfl ?_
  refine E.WL.done ?_
  refine E.KQ.then_n ?_
  refine E.W.seq ?_
  refine E.W.condT 25 rfl (fun h25 => ?_) (fun h25 => ?_)
  · replace h25 : k < d.files.length := by have := of_decide_eq_true h25; omega
    refine E.W.skip ?_
    refine E.KQ.then_n ?_
    refine E.W.seq ?_
    refine E.W.block ?_
    refine E.W.seq ?_
    refine E.W.region ?_
    have hkl := h25
    obtain ⟨g, rfl⟩ : ∃ g, A1 = some ⟨g, 0, none⟩ := hA1 (by omega)
    obtain ⟨nm, dt, sy, hfk, hs1, hs2⟩ : ∃ nm dt, ∃ sy : Nat, d.files[k] = ⟨nm, dt, (sy : Nat)⟩ ∧ sy ≤ dt.size ∧ dt.size ≤ 1000000 := by
      have h1 := checkD_at hck hkl; have h2 := hsz _ (List.getElem_mem hkl)
      obtain ⟨sy, hsy⟩ := Int.eq_ofNat_of_zero_le h1.1
      exact ⟨_, _, sy, by rw [← hsy], by omega, h2⟩
    have hx0 := crAt_at (keep := keep) hkl
    rw [hfk] at hx0
    have hat : At w10 ((⟨g, 0, none⟩ : Addr).add (k * 3)) [.string nm, .string (dt), .int .i64 ((sy : Nat) : Int)] := OFiles.at_ o (by rw [crAt_len (by omega)]) hx0
    refine E.WL.val (E.y_move rfl) rfl rfl rfl ?_
    refine E.WL.val (E.y_assign rfl) rfl rfl rfl ?_
    refine E.WL.done ?_
    refine E.KQ.then_n ?_
    refine E.W.seq ?_
    refine E.W.region ?_
    refine E.WL.val (E.y_fld Tryd.underlying27 rfl Tryd.sizeOf25 rfl) rfl rfl rfl ?_
    refine E.WL.val (E.y_load rfl (E.At.ld1 Tryd.isAgg25 (hb.at0 0 rfl) 0 rfl)) rfl rfl rfl ?_
    refine E.WL.val (E.y_move rfl) rfl rfl rfl ?_
    refine E.WL.val (E.y_idxS Tryd.underlying25 Tryd.sizeOf51 rfl rfl (by omega) (by omega)) rfl rfl rfl ?_
    refine E.WL.val (E.y_assign rfl) rfl rfl rfl ?_
    refine E.WL.done ?_
    refine E.KQ.then_n ?_
    refine E.W.seq ?_
    refine E.W.regionQ rfl (by kernel_rfl) ?_
    refine E.QL.val (fun w' hw => E.y_move rfl) rfl rfl rfl ?_
    refine E.QL.val (fun w' hw => E.y_nilCheck rfl) rfl rfl rfl ?_
    refine E.QL.val (fun w' hw => E.y_fld Tryd.underlying51 rfl Tryd.sizeOf9 rfl) rfl rfl rfl ?_
    refine E.QL.val (fun w' hw => E.y_load rfl (E.At.ld1 Tryd.isAgg9 (hat.ext hw) 1 rfl)) rfl rfl rfl ?_
    refine E.QL.val (fun w' hw => E.y_lens Tryd.underlying9 rfl) rfl rfl rfl ?_
    refine E.QL.val (fun w' hw => E.y_move rfl) rfl rfl rfl ?_
    refine E.QL.val (fun w' hw => E.y_nilCheck rfl) rfl rfl rfl ?_
    refine E.QL.val (fun w' hw => E.y_fld Tryd.underlying51 rfl Tryd.sizeOf3 rfl) rfl rfl rfl ?_
    refine E.QL.val (fun w' hw => E.y_load rfl (E.At.ld1 Tryd.isAgg3 (hat.ext hw) 2 rfl)) rfl rfl rfl ?_
    refine E.QL.val (fun w' hw => E.y_sub rfl rfl (Go.IntWalk.i64_in _ (by omega))) rfl rfl rfl ?_
    refine E.QL.val (fun w' hw => E.y_assign rfl) rfl rfl rfl ?_
    refine E.QL.end_ fun w11 hx => ?_
    replace hb := hb.ext hx
    replace o := OFiles.keeps o (Keeps.ext hx) (S := fun U => U = 51) rfl
    clear hx
    refine E.KQ.then_n ?_
    refine E.W.seq ?_
    have hat : At w11 ((⟨g, 0, none⟩ : Addr).add (k * 3)) [.string nm, .string (dt), .int .i64 ((sy : Nat) : Int)] := OFiles.at_ o (by rw [crAt_len (by omega)]) hx0
    have hb0 := hb
    refine E.W.regionD (E.heads 12 []) rfl ?_
    replace hb := hb.drew
    replace o := OFiles.keeps o (Keeps.ext (E.Ext.drew _)) (S := fun U => U = 51) rfl
    have hE := E.Ext.drew w11
    refine E.DL.take 0 rfl (by kernel_rfl) (by kernel_rfl) (fun w' hw => E.y_move rfl) rfl rfl rfl (fun _ _ _ _ h => by obtain ⟨_, _, h, _⟩ := h; cases h) hE ?_
    refine E.DL.take 1 rfl (by kernel_rfl) (by kernel_rfl) (fun w' hw => E.y_move rfl) rfl rfl rfl (fun _ _ _ _ h => by obtain ⟨_, _, h, _⟩ := h; cases h) hE ?_
    refine E.DL.take 2 rfl (by kernel_rfl) (by kernel_rfl) (fun w' hw => E.y_nilCheck rfl) rfl rfl rfl (fun _ _ _ _ h => by obtain ⟨_, _, h, _⟩ := h; cases h) hE ?_
    refine E.DL.take 3 rfl (by kernel_rfl) (by kernel_rfl) (fun w' hw => E.y_fld Tryd.underlying51 rfl Tryd.sizeOf9 rfl) rfl rfl rfl (fun _ _ _ _ h => by obtain ⟨_, _, h, _⟩ := h; cases h) hE ?_
    refine E.DL.take 4 rfl (by kernel_rfl) (by kernel_rfl) (fun w' hw => E.y_load rfl (E.At.ld1 Tryd.isAgg9 (hat.ext hw) 1 rfl)) rfl rfl rfl (fun _ _ _ _ h => by obtain ⟨_, _, h, _⟩ := h; cases h) hE ?_
    refine E.DL.take 5 rfl (by kernel_rfl) (by kernel_rfl) (fun w' hw => E.y_move rfl) rfl rfl rfl (fun _ _ _ _ h => by obtain ⟨_, _, h, _⟩ := h; cases h) hE ?_
    refine E.DL.take 6 rfl (by kernel_rfl) (by kernel_rfl) (fun w' hw => E.y_nilCheck rfl) rfl rfl rfl (fun _ _ _ _ h => by obtain ⟨_, _, h, _⟩ := h; cases h) hE ?_
    refine E.DL.take 7 rfl (by kernel_rfl) (by kernel_rfl) (fun w' hw => E.y_fld Tryd.underlying51 rfl Tryd.sizeOf3 rfl) rfl rfl rfl (fun _ _ _ _ h => by obtain ⟨_, _, h, _⟩ := h; cases h) hE ?_
    refine E.DL.take 8 rfl (by kernel_rfl) (by kernel_rfl) (fun w' hw => E.y_load rfl (E.At.ld1 Tryd.isAgg3 (hat.ext hw) 2 rfl)) rfl rfl rfl (fun _ _ _ _ h => by obtain ⟨_, _, h, _⟩ := h; cases h) hE ?_
    refine E.DL.take 9 rfl (by kernel_rfl) (by kernel_rfl) (fun w' hw => E.y_str_h Tryd.underlying9 rfl rfl hs1) rfl rfl rfl (fun _ _ _ _ h => by obtain ⟨_, _, h, _⟩ := h; cases h) hE ?_
    refine E.DL.take 10 rfl (by kernel_rfl) (by kernel_rfl) (fun w' hw => E.y_nilCheck rfl) rfl rfl rfl (fun _ _ _ _ h => by obtain ⟨_, _, h, _⟩ := h; cases h) hE ?_
    refine E.DL.take 11 rfl (by kernel_rfl) (by kernel_rfl) (fun w' hw => E.y_fld Tryd.underlying51 rfl Tryd.sizeOf9 rfl) rfl rfl rfl (fun _ _ _ _ h => by obtain ⟨_, _, h, _⟩ := h; cases h) hE ?_
    refine E.DL.only 12 rfl (by kernel_rfl) (fun hsh => ?_)
    have own2 := o.row
    rw [crAt_len (by omega)] at own2
    refine WL.storeCell (k := 3) (o := k * 3 + 1) own2 (by have := mul_lt_le (k := 3) hkl; omega) (show _ = some (Value.pointer (some ⟨g, k * 3 + 1, none⟩)) from congrArg (fun z => some (Value.pointer (some z))) (add2 _ _ _)) rfl Tryd.sizeOf9 rfl rfl rfl ?_
    intro w12 own3 hO hT hB
    replace hb := hb.turn hO hT hB rfl
    replace o := OFiles.set_ (j := 1) (y := ⟨nm, dt.extract 0 sy, (sy : Nat)⟩) o hx0 (by decide) (by rfl) (by rw [crAt_len (by omega)]; exact own3)
    clear own2 own3 hO hT hB hat
    refine E.WL.done ?_
    refine E.DL.next hsh (.inr rfl) ?_
    clear hsh
    refine E.DL.done (by kernel_rfl) ?_
    clear hE hb0
    refine E.KQ.then_n ?_
    refine E.W.seq ?_
    refine E.W.seq ?_
    refine E.W.region ?_
    refine E.WL.val (E.y_move rfl) rfl rfl rfl ?_
    refine E.WL.val (E.y_move rfl) rfl rfl rfl ?_
    refine E.WL.val (E.y_lenS Tryd.underlying23 rfl) rfl rfl rfl ?_
    refine E.WL.val (E.y_geq rfl rfl) rfl rfl rfl ?_
    refine E.WL.val (E.y_move rfl) rfl rfl rfl ?_
    refine E.WL.split 57 rfl (fun h57 => ?_) (fun h57 => ?_)
    · replace h57 : keep.length ≤ k := by have := of_decide_eq_true h57; omega
      have hcf : crashF d.files[k] keep[k]? = ⟨nm, dt.extract 0 sy, (sy : Nat)⟩ := by rw [hfk]; unfold crashF; rw [show keptP ⟨nm, dt, (sy : Nat)⟩ keep[k]? = (sy : Int) from by rw [List.getElem?_eq_none h57]; rfl]; rfl
      rw [← hcf, crAt_set hkl] at o
      refine E.WL.off rfl rfl rfl ?_
      refine E.WL.off rfl rfl rfl ?_
      refine E.WL.off rfl rfl rfl ?_
      refine E.WL.off rfl rfl rfl ?_
      refine E.WL.off rfl rfl rfl ?_
      refine E.WL.val (E.y_pick_t rfl rfl) rfl rfl rfl ?_
      refine E.WL.done ?_
      refine E.KQ.then_n ?_
      refine E.W.cond_t rfl ?_
      refine E.W.exit ?_
      refine E.KQ.then_e ?_
      refine E.KQ.block_e ?_
      refine E.KQ.then_n ?_
      refine E.W.region ?_
      refine E.WL.val (E.y_add rfl rfl (Go.IntWalk.i64_in _ (by omega))) rfl rfl rfl ?_
      refine E.WL.val (E.y_move rfl) rfl rfl rfl ?_
      refine E.WL.done ?_
      exact E.KQ.next (k + 1) (by exact .cons rfl (.cons rfl (.cons rfl (.cons rfl (.cons rfl (.cons rfl .nil)))))) ⟨_, hb, o, by omega⟩ (by show d.files.length - (k + 1) < d.files.length - k; omega)
    · replace h57 : k < keep.length := by have := of_decide_eq_false h57; omega
      have hkk := h57
      obtain ⟨Ak', ck', eqk, _, _, hgk⟩ := (hk0.stays (RInt.goes .i64) (Stays.below hb.below (fun _ _ h => h))).open_
      injection eqk with eq1 eq2 eq3
      subst eq1
      obtain ⟨qk, csk, hqk, _, hlk, hatk, hrk⟩ := hgk k hkk
      subst hqk
      have hrk' : csk = [.int .i64 keep[k]] := hrk
      subst hrk'
      refine E.WL.val (E.y_move rfl) rfl rfl rfl ?_
      refine E.WL.val (E.y_move rfl) rfl rfl rfl ?_
      refine E.WL.val (E.y_idxS Tryd.underlying23 Tryd.sizeOf3 rfl rfl (by omega) (by omega)) rfl rfl rfl ?_
      refine E.WL.val (E.y_load rfl (E.At.ld0 Tryd.isAgg3 hatk rfl)) rfl rfl rfl ?_
      refine E.WL.val (E.y_leq rfl rfl) rfl rfl rfl ?_
      refine E.WL.val (E.y_pick_f rfl rfl) rfl rfl rfl ?_
      refine E.WL.done ?_
      refine E.KQ.then_n ?_
      refine E.W.condT 63 rfl (fun h63 => ?_) (fun h63 => ?_)
      · replace h63 := of_decide_eq_true h63
        have hcf : crashF d.files[k] keep[k]? = ⟨nm, dt.extract 0 sy, (sy : Nat)⟩ := by rw [hfk]; unfold crashF; rw [show keptP ⟨nm, dt, (sy : Nat)⟩ keep[k]? = (sy : Int) from by rw [List.getElem?_eq_getElem hkk]; exact if_pos h63]; rfl
        rw [← hcf, crAt_set hkl] at o
        refine E.W.exit ?_
        refine E.KQ.then_e ?_
        refine E.KQ.block_e ?_
        refine E.KQ.then_n ?_
        refine E.W.region ?_
        refine E.WL.val (E.y_add rfl rfl (Go.IntWalk.i64_in _ (by omega))) rfl rfl rfl ?_
        refine E.WL.val (E.y_move rfl) rfl rfl rfl ?_
        refine E.WL.done ?_
        exact E.KQ.next (k + 1) (by exact .cons rfl (.cons rfl (.cons rfl (.cons rfl (.cons rfl (.cons rfl .nil)))))) ⟨_, hb, o, by omega⟩ (by show d.files.length - (k + 1) < d.files.length - k; omega)
      · replace h63 := of_decide_eq_false h63
        have hnn : 0 ≤ ((sy : Int) + (if (dt.size : Int) - (sy : Int) < keep[k] then (dt.size : Int) - (sy : Int) else keep[k])) := by split <;> omega
        obtain ⟨s2, hs3⟩ : ∃ s2 : Nat, ((sy : Int) + (if (dt.size : Int) - (sy : Int) < keep[k] then (dt.size : Int) - (sy : Int) else keep[k])) = (s2 : Nat) := Int.eq_ofNat_of_zero_le hnn
        have hs4 : s2 ≤ dt.size := by split at hs3 <;> omega
        refine E.W.skip ?_
        refine E.KQ.then_n ?_
        refine E.W.seq ?_
        have hx1 : (List.set (crAt d.files keep k) k (⟨nm, dt.extract 0 sy, (sy : Nat)⟩ : FileD))[k]? = some ⟨nm, dt.extract 0 sy, (sy : Nat)⟩ := (List.getElem?_set_self (by rw [crAt_len (by omega)]; exact hkl))
        have hat : At w12 ((⟨g, 0, none⟩ : Addr).add (k * 3)) [.string nm, .string (dt.extract 0 sy), .int .i64 ((sy : Nat) : Int)] := OFiles.at_ o (by rw [List.length_set, crAt_len (by omega)]) hx1
        have hatk' := hatk
        have hb0 := hb
        refine E.W.regionD (E.heads 13 []) rfl ?_
        replace hb := hb.drew
        replace o := OFiles.keeps o (Keeps.ext (E.Ext.drew _)) (S := fun U => U = 51) rfl
        have hE := E.Ext.drew w12
        refine E.DL.take 0 rfl (by kernel_rfl) (by kernel_rfl) (fun w' hw => E.y_move rfl) rfl rfl rfl (fun _ _ _ _ h => by obtain ⟨_, _, h, _⟩ := h; cases h) hE ?_
        refine E.DL.take 1 rfl (by kernel_rfl) (by kernel_rfl) (fun w' hw => E.y_nilCheck rfl) rfl rfl rfl (fun _ _ _ _ h => by obtain ⟨_, _, h, _⟩ := h; cases h) hE ?_
        refine E.DL.take 2 rfl (by kernel_rfl) (by kernel_rfl) (fun w' hw => E.y_fld Tryd.underlying51 rfl Tryd.sizeOf3 rfl) rfl rfl rfl (fun _ _ _ _ h => by obtain ⟨_, _, h, _⟩ := h; cases h) hE ?_
        refine E.DL.take 3 rfl (by kernel_rfl) (by kernel_rfl) (fun w' hw => E.y_load rfl (E.At.ld1 Tryd.isAgg3 (hat.ext hw) 2 rfl)) rfl rfl rfl (fun _ _ _ _ h => by obtain ⟨_, _, h, _⟩ := h; cases h) hE ?_
        refine E.DL.take 4 rfl (by kernel_rfl) (by kernel_rfl) (fun w' hw => E.y_move rfl) rfl rfl rfl (fun _ _ _ _ h => by obtain ⟨_, _, h, _⟩ := h; cases h) hE ?_
        refine E.DL.take 5 rfl (by kernel_rfl) (by kernel_rfl) (fun w' hw => E.y_move rfl) rfl rfl rfl (fun _ _ _ _ h => by obtain ⟨_, _, h, _⟩ := h; cases h) hE ?_
        refine E.DL.take 6 rfl (by kernel_rfl) (by kernel_rfl) (fun w' hw => E.y_idxS Tryd.underlying23 Tryd.sizeOf3 rfl rfl (by omega) (by omega)) rfl rfl rfl (fun _ _ _ _ h => by obtain ⟨_, _, h, _⟩ := h; cases h) hE ?_
        refine E.DL.take 7 rfl (by kernel_rfl) (by kernel_rfl) (fun w' hw => E.y_load rfl (E.At.ld0 Tryd.isAgg3 (hatk'.ext hw) rfl)) rfl rfl rfl (fun _ _ _ _ h => by obtain ⟨_, _, h, _⟩ := h; cases h) hE ?_
        refine E.DL.take 8 rfl (by kernel_rfl) (by kernel_rfl) (fun w' hw => E.y_move rfl) rfl rfl rfl (fun _ _ _ _ h => by obtain ⟨_, _, h, _⟩ := h; cases h) hE ?_
        refine E.DL.take 9 rfl (by kernel_rfl) (by kernel_rfl) (fun w' hw => E.y_min rfl rfl) rfl rfl rfl (fun _ _ _ _ h => by obtain ⟨_, _, h, _⟩ := h; cases h) hE ?_
        refine E.DL.take 10 rfl (by kernel_rfl) (by kernel_rfl) (fun w' hw => E.y_add rfl rfl (Go.IntWalk.i64_in _ (by rw [hs3]; omega))) rfl rfl rfl (fun _ _ _ _ h => by obtain ⟨_, _, h, _⟩ := h; cases h) hE ?_
        refine E.DL.take 11 rfl (by kernel_rfl) (by kernel_rfl) (fun w' hw => E.y_nilCheck rfl) rfl rfl rfl (fun _ _ _ _ h => by obtain ⟨_, _, h, _⟩ := h; cases h) hE ?_
        refine E.DL.take 12 rfl (by kernel_rfl) (by kernel_rfl) (fun w' hw => E.y_fld Tryd.underlying51 rfl Tryd.sizeOf3 rfl) rfl rfl rfl (fun _ _ _ _ h => by obtain ⟨_, _, h, _⟩ := h; cases h) hE ?_
        refine E.DL.only 13 rfl (by kernel_rfl) (fun hsh => ?_)
        have own2 := o.row
        rw [List.length_set, crAt_len (by omega)] at own2
        refine WL.storeCell (k := 3) (o := k * 3 + 2) own2 (by have := mul_lt_le (k := 3) hkl; omega) (show _ = some (Value.pointer (some ⟨g, k * 3 + 2, none⟩)) from congrArg (fun z => some (Value.pointer (some z))) (add2 _ _ _)) rfl Tryd.sizeOf3 rfl rfl rfl ?_
        intro w13 own3 hO hT hB
        replace hb := hb.turn hO hT hB rfl
        replace o := OFiles.set_ (j := 2) (u := Value.int .i64 ((sy : Int) + (if (dt.size : Int) - (sy : Int) < keep[k] then (dt.size : Int) - (sy : Int) else keep[k]))) (y := ⟨nm, dt.extract 0 sy, (s2 : Nat)⟩) o hx1 (by decide) (by show [Value.string nm, Value.string (dt.extract 0 sy), Value.int .i64 _] = _; rw [hs3]) (by rw [List.length_set, crAt_len (by omega)]; exact own3)
        clear own2 own3 hO hT hB hat
        refine E.WL.done ?_
        refine E.DL.next hsh (.inr rfl) ?_
        clear hsh
        rw [List.set_set] at o
        refine E.DL.done (by kernel_rfl) ?_
        clear hE hb0
        refine E.KQ.then_n ?_
        have hx2 : (List.set (crAt d.files keep k) k (⟨nm, dt.extract 0 sy, (s2 : Nat)⟩ : FileD))[k]? = some ⟨nm, dt.extract 0 sy, (s2 : Nat)⟩ := (List.getElem?_set_self (by rw [crAt_len (by omega)]; exact hkl))
        have hat : At w13 ((⟨g, 0, none⟩ : Addr).add (k * 3)) [.string nm, .string (dt.extract 0 sy), .int .i64 ((s2 : Nat) : Int)] := OFiles.at_ o (by rw [List.length_set, crAt_len (by omega)]) hx2
        obtain ⟨A', c', eqf, _, _, hgf⟩ := (hf0.stays RFile.goes (Stays.below hb.below (fun _ _ h => h))).open_
        injection eqf with eq1 eq2 eq3
        subst eq1
        obtain ⟨qf, csf, hqf, _, hlf, hatf, hrf⟩ := hgf k hkl
        subst hqf
        have hrf' : csf = fcells d.files[k] := hrf
        rw [hfk] at hrf'
        subst hrf'
        replace hatf : At w13 _ [.string nm, .string dt, .int .i64 ((sy : Nat) : Int)] := hatf
        have hb0 := hb
        refine E.W.regionD (E.heads 14 []) rfl ?_
        replace hb := hb.drew
        replace o := OFiles.keeps o (Keeps.ext (E.Ext.drew _)) (S := fun U => U = 51) rfl
        have hE := E.Ext.drew w13
        refine E.DL.take 0 rfl (by kernel_rfl) (by kernel_rfl) (fun w' hw => E.y_move rfl) rfl rfl rfl (fun _ _ _ _ h => by obtain ⟨_, _, h, _⟩ := h; cases h) hE ?_
        refine E.DL.take 1 rfl (by kernel_rfl) (by kernel_rfl) (fun w' hw => E.y_fld Tryd.underlying27 rfl Tryd.sizeOf25 rfl) rfl rfl rfl (fun _ _ _ _ h => by obtain ⟨_, _, h, _⟩ := h; cases h) hE ?_
        refine E.DL.take 2 rfl (by kernel_rfl) (by kernel_rfl) (fun w' hw => E.y_load rfl (E.At.ld1 Tryd.isAgg25 ((hb0.ext hw).at0 2 rfl) 0 rfl)) rfl rfl rfl (fun _ _ _ _ h => by obtain ⟨_, _, h, _⟩ := h; cases h) hE ?_
        refine E.DL.take 3 rfl (by kernel_rfl) (by kernel_rfl) (fun w' hw => E.y_move rfl) rfl rfl rfl (fun _ _ _ _ h => by obtain ⟨_, _, h, _⟩ := h; cases h) hE ?_
        refine E.DL.take 4 rfl (by kernel_rfl) (by kernel_rfl) (fun w' hw => E.y_idxS Tryd.underlying25 Tryd.sizeOf51 rfl rfl (by omega) (by omega)) rfl rfl rfl (fun _ _ _ _ h => by obtain ⟨_, _, h, _⟩ := h; cases h) hE ?_
        refine E.DL.take 5 rfl (by kernel_rfl) (by kernel_rfl) (fun w' hw => E.y_fld Tryd.underlying51 rfl Tryd.sizeOf9 rfl) rfl rfl rfl (fun _ _ _ _ h => by obtain ⟨_, _, h, _⟩ := h; cases h) hE ?_
        refine E.DL.take 6 rfl (by kernel_rfl) (by kernel_rfl) (fun w' hw => E.y_load rfl (E.At.ld1 Tryd.isAgg9 (hatf.ext hw) 1 rfl)) rfl rfl rfl (fun _ _ _ _ h => by obtain ⟨_, _, h, _⟩ := h; cases h) hE ?_
        refine E.DL.take 7 rfl (by kernel_rfl) (by kernel_rfl) (fun w' hw => E.y_move rfl) rfl rfl rfl (fun _ _ _ _ h => by obtain ⟨_, _, h, _⟩ := h; cases h) hE ?_
        refine E.DL.take 8 rfl (by kernel_rfl) (by kernel_rfl) (fun w' hw => E.y_nilCheck rfl) rfl rfl rfl (fun _ _ _ _ h => by obtain ⟨_, _, h, _⟩ := h; cases h) hE ?_
        refine E.DL.take 9 rfl (by kernel_rfl) (by kernel_rfl) (fun w' hw => E.y_fld Tryd.underlying51 rfl Tryd.sizeOf3 rfl) rfl rfl rfl (fun _ _ _ _ h => by obtain ⟨_, _, h, _⟩ := h; cases h) hE ?_
        refine E.DL.take 10 rfl (by kernel_rfl) (by kernel_rfl) (fun w' hw => E.y_load rfl (E.At.ld1 Tryd.isAgg3 (hat.ext hw) 2 rfl)) rfl rfl rfl (fun _ _ _ _ h => by obtain ⟨_, _, h, _⟩ := h; cases h) hE ?_
        refine E.DL.take 11 rfl (by kernel_rfl) (by kernel_rfl) (fun w' hw => E.y_str_h Tryd.underlying9 rfl rfl hs4) rfl rfl rfl (fun _ _ _ _ h => by obtain ⟨_, _, h, _⟩ := h; cases h) hE ?_
        refine E.DL.take 12 rfl (by kernel_rfl) (by kernel_rfl) (fun w' hw => E.y_nilCheck rfl) rfl rfl rfl (fun _ _ _ _ h => by obtain ⟨_, _, h, _⟩ := h; cases h) hE ?_
        refine E.DL.take 13 rfl (by kernel_rfl) (by kernel_rfl) (fun w' hw => E.y_fld Tryd.underlying51 rfl Tryd.sizeOf9 rfl) rfl rfl rfl (fun _ _ _ _ h => by obtain ⟨_, _, h, _⟩ := h; cases h) hE ?_
        refine E.DL.only 14 rfl (by kernel_rfl) (fun hsh => ?_)
        have own2 := o.row
        rw [List.length_set, crAt_len (by omega)] at own2
        refine WL.storeCell (k := 3) (o := k * 3 + 1) own2 (by have := mul_lt_le (k := 3) hkl; omega) (show _ = some (Value.pointer (some ⟨g, k * 3 + 1, none⟩)) from congrArg (fun z => some (Value.pointer (some z))) (add2 _ _ _)) rfl Tryd.sizeOf9 rfl rfl rfl ?_
        intro w14 own3 hO hT hB
        replace hb := hb.turn hO hT hB rfl
        replace o := OFiles.set_ (j := 1) (y := ⟨nm, dt.extract 0 s2, (s2 : Nat)⟩) o hx2 (by decide) (by rfl) (by rw [List.length_set, crAt_len (by omega)]; exact own3)
        clear own2 own3 hO hT hB hat
        refine E.WL.done ?_
        refine E.DL.next hsh (.inr rfl) ?_
        clear hsh
        rw [List.set_set] at o
        have hcf : crashF d.files[k] keep[k]? = ⟨nm, dt.extract 0 s2, (s2 : Nat)⟩ := by rw [hfk]; unfold crashF; rw [show keptP ⟨nm, dt, (sy : Nat)⟩ keep[k]? = (s2 : Int) from by rw [List.getElem?_eq_getElem hkk, ← hs3]; exact if_neg h63]; rfl
        rw [← hcf, crAt_set hkl] at o
        refine E.DL.done (by kernel_rfl) ?_
        clear hE hb0
        refine E.KQ.block_n ?_
        refine E.KQ.then_n ?_
        refine E.W.region ?_
        refine E.WL.val (E.y_add rfl rfl (Go.IntWalk.i64_in _ (by omega))) rfl rfl rfl ?_
        refine E.WL.val (E.y_move rfl) rfl rfl rfl ?_
        refine E.WL.done ?_
        exact E.KQ.next (k + 1) (by exact .cons rfl (.cons rfl (.cons rfl (.cons rfl (.cons rfl (.cons rfl .nil)))))) ⟨_, hb, o, by omega⟩ (by show d.files.length - (k + 1) < d.files.length - k; omega)
  · replace h25 : k = d.files.length := by have := of_decide_eq_false h25; omega
    subst h25
    rw [crAt_all] at o
    refine E.W.exit ?_
    refine E.KQ.then_e ?_
    refine E.KQ.loop_e ?_
    refine E.KQ.block_e ?_
    refine E.KQ.then_n ?_
    refine E.W.seq ?_
    refine E.W.region ?_
    refine E.WL.val (E.y_load rfl (E.At.ldk Tryd.isAgg27 Tryd.sizeOf27 (hb.at0 0 rfl) rfl)) rfl rfl rfl ?_
    refine E.WL.storeW hb 1 rfl rfl rfl Tryd.sizeOf27 rfl rfl rfl (E.allOne rfl) rfl ?_
    have hT := hb.hasT 1 rfl
    clear hb; intro w15 hb hO
    replace o := OFiles.keeps o (Keeps.only hO hT (by decide)) (S := fun U => U = 51) rfl
    clear hT
    clear hO
    refine E.WL.val (E.y_assign rfl) rfl rfl rfl ?_
    refine E.WL.done ?_
    refine E.KQ.then_n ?_
    refine E.W.ret ?_
    refine E.KQ.goto_r ?_
    refine E.KQ.retct Tryd.results7 rfl (E.At.ldk Tryd.isAgg27 Tryd.sizeOf27 (hb.at0 1 rfl) rfl) rfl ?_
    exact ⟨_, rfl, ⟨_, rfl, ⟨_, rfl, (OwnS.rd o (bytes := 40) (by rw [crashL_len]; exact hby)).mono RFile.goes (fun _ _ hB => Own.le (Nat.zero_le _) hB)⟩⟩, hb.below⟩
end Go.Proofs.YtmnnbnajnfdncaaDoor
