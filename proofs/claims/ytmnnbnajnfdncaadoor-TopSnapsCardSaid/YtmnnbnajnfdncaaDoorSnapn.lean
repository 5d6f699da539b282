/- Walks: TopSnaps. -/
import Derived.Test.YtmnnbnajnfdncaaDoorQ4
import Derived.Test.YtmnnbnajnfdncaaDoorSnapb
set_option linter.unusedVariables false
set_option linter.unusedSimpArgs false
namespace Go.Proofs.YtmnnbnajnfdncaaDoor
open Go.RowKit E
def RStr (_F : FP) (_w : World) (cs : List Value) (x : ByteArray) : Prop := cs = [.string x]
theorem RStr.goes : Goes RStr := ⟨fun h _ => h, fun h _ => h⟩
abbrev RStrs (F : FP) (w : World) (v : Value) (xs : List ByteArray) : Prop := RdS F w 9 1 16 RStr v xs
theorem ints3 {w : World} {B : Nat} (h : At w ⟨B, 0, none⟩ [.int .i64 1]) : RInts Any w (.slice (some ⟨B, 0, none⟩) 1 1) [1] := by
  refine ⟨_, _, rfl, Nat.le_refl _, by decide, fun i x hx => ⟨_, [.int .i64 x], rfl, trivial, rfl, fun j v hv => ?_, rfl⟩⟩
  match i, hx with
  | 0, hx =>
    simp at hx; subst hx
    match j, hv with
    | 0, hv =>
      simp at hv; subst hv
      have := h 0 (.int .i64 1) rfl
      simpa [Addr.add] using this
    | j + 1, hv => simp at hv
  | i + 1, hx => simp at hx
theorem RDisk.fused {F : FP} {w : World} {v a b : Value} {d : DiskD} (h : RDisk F w [v, a, b] d) (f : Int) : RDisk F w [v, a, .int .i64 f] ⟨d.files, d.down, f⟩ := by
  obtain ⟨v', e, hf⟩ := h
  injection e with e1 e2
  injection e2 with e2 e3
  subst e1; subst e2
  exact ⟨_, rfl, hf⟩
set_option maxHeartbeats 4000000 in
theorem topSnaps_calls {G1 G2 G3 : FP} {w : World} {v1 v2 v3 : Value} {names : List ByteArray} {fuses keep : List Int} (hn : RStrs G1 w v1 names) (hf : RInts G2 w v2 fuses) (hkp : RInts G3 w v3 keep) (hfr : ∀ x ∈ fuses, x ≤ 9223372036854775807) :
    Calls Tryd.prog 3 #[v1, v2, v3] w (Ret fun u w' => u = .bool true ∧ Ext w w') := by
  obtain ⟨An, cn, rfl, _, hbyn, _⟩ := id hn.open_
  obtain ⟨Af, cf, rfl, _, hbyf, _⟩ := id hf.open_
  obtain ⟨Ak, ck, rfl, _, hbyk, _⟩ := id hkp.open_
  have hn0 : RStrs (Old w) w (.slice An names.length cn) names := hn.old (by decide) (fun _ _ h => h)
  have hf0 : RInts (Old w) w (.slice Af fuses.length cf) fuses := hf.old (by decide) (fun _ _ h => h)
  have hk0 : RInts (Old w) w (.slice Ak keep.length ck) keep := hkp.old (by decide) (fun _ _ h => h)
  clear hn hf hkp
  have hb := E.Bx.start w (base := w.heap.size) (Nat.le_refl _)
  refine E.enter Tryd.func3 rfl Tryd.ntmps3 [(.slice An names.length cn), (.slice Af fuses.length cf), (.slice Ak keep.length ck)] rfl ?_
  refine E.W.seq ?_
  refine E.W.region ?_
  refine E.WL.val (E.y_assign rfl) rfl rfl rfl ?_
  refine E.WL.done ?_
  refine E.KQ.then_n ?_
  refine E.W.seq ?_
  refine E.W.seq ?_
  refine E.W.region ?_
  refine E.WL.call (begins_calls w) Tryd.call4 rfl rfl rfl ?_
  rintro _ w1 ⟨rfl, hX⟩
  replace hb := hb.ext hX
  clear hX
  refine E.WL.val (E.y_not rfl) rfl rfl rfl ?_
  refine E.WL.done ?_
  refine E.KQ.then_n ?_
  refine E.W.cond_f rfl ?_
  refine E.W.skip ?_
  refine E.KQ.then_n ?_
  refine E.W.seq ?_
  refine E.W.region ?_
  refine E.WL.val (E.y_build (v := .agg #[.slice none 0 0, .bool false, .int .i64 (-1)]) rfl (by kernel_rfl)) rfl rfl rfl ?_
  refine E.WL.alloc hb Tryd.zeroValue27 rfl rfl rfl ?_
  clear hb; intro B7 w3 hb _ _
  refine E.WL.storeW hb 0 rfl rfl rfl Tryd.sizeOf27 rfl rfl rfl (E.allOne rfl) rfl ?_
  clear hb; intro w4 hb _
  refine E.WL.done ?_
  refine E.KQ.then_n ?_
  refine E.W.seq ?_
  refine E.W.region ?_
  refine E.WL.val (E.y_build (v := .agg #[.int .u64 0, .int .u64 0, .slice none 0 0, .string noB]) rfl (by kernel_rfl)) rfl rfl rfl ?_
  refine E.WL.alloc hb Tryd.zeroValue30 rfl rfl rfl ?_
  clear hb; intro B8 w6 hb _ _
  refine E.WL.storeW hb 0 rfl rfl rfl Tryd.sizeOf30 rfl rfl rfl (E.allOne rfl) rfl ?_
  clear hb; intro w7 hb _
  refine E.WL.done ?_
  refine E.KQ.then_n ?_
  refine E.W.seq ?_
  refine E.W.seq ?_
  refine E.W.region ?_
  refine E.WL.val (E.y_move rfl) rfl rfl rfl ?_
  refine E.WL.val (E.y_lenS Tryd.underlying22 rfl) rfl rfl rfl ?_
  refine E.WL.val (E.y_move rfl) rfl rfl rfl ?_
  refine E.WL.done ?_
  refine E.KQ.then_n ?_
  refine E.W.block ?_
  refine E.W.loop (ι := Nat) (fun k => [(1, .slice Af fuses.length cf), (2, .slice Ak keep.length ck), (7, .pointer (some ⟨B7, 0, none⟩)), (8, .pointer (some ⟨B8, 0, none⟩)), (20, .slice An names.length cn), (21, .int .i64 names.length), (22, .int .i64 (k : Nat))]) (fun k w' => ∃ d o t last A2 c2 a1 a2 A3 m3 c3, Bx w.heap.size w w' [(B8, [.int .u64 a1, .int .u64 a2, .slice A3 m3 c3, .string last], 30), (B7, [.slice A2 (DiskD.files d).length c2, .bool (DiskD.down d), .int .i64 (DiskD.fuse d)], 27)] ∧ RDisk (Tk w') w' [.slice A2 (DiskD.files d).length c2, .bool (DiskD.down d), .int .i64 (DiskD.fuse d)] d ∧ Sh d o t ∧ Last o k last ∧ k ≤ names.length ∧ k ≤ 20) (fun k => names.length - k) (0) (by exact (.cons rfl (.cons rfl (.cons rfl (.cons rfl (.cons rfl (.cons rfl (.cons rfl .nil)))))))) ⟨dZ, none, none, noB, none, 0, 0, 0, none, 0, 0, hb, ⟨_, rfl, RdS.nil_⟩, Sh.zero, .inl ⟨rfl, rfl⟩, Nat.zero_le _, by decide⟩ (fun k w8 hJ => ?_)
  clear hb
  obtain ⟨d, o, t, last, A2, c2, a1, a2, A3, m3, c3, hb, hd1, hsh, hlast, hk, hk20⟩ := hJ
  refine E.W.seq ?_
  refine E.W.region ?_
  refine E.WL.val (E.y_lss rfl rfl) rfl rfl rfl ?_
  refine E.WL.done ?_
  refine E.KQ.then_n ?_
  refine E.W.seq ?_
  refine E.W.condT 23 rfl (fun h23 => ?_) (fun h23 => ?_)
  · replace h23 : k < names.length := by have := of_decide_eq_true h23; omega
    refine E.W.skip ?_
    refine E.KQ.then_n ?_
    refine E.W.seq ?_
    refine E.W.block ?_
    refine E.W.seq ?_
    refine E.W.region ?_
    refine E.WL.val (E.y_move rfl) rfl rfl rfl ?_
    obtain ⟨An', cn', eqn, _, _, hgn⟩ := (hn0.stays RStr.goes (Stays.below hb.below (fun _ _ h => h))).open_
    injection eqn with eq1 eq2 eq3
    subst eq1
    obtain ⟨qn, csn, hqn, _, hln, hatn, hrn⟩ := hgn k h23
    subst hqn
    have hrn' : csn = [.string names[k]] := hrn
    subst hrn'
    refine E.WL.val (E.y_idxS Tryd.underlying22 Tryd.sizeOf9 rfl rfl (by omega) (by omega)) rfl rfl rfl ?_
    refine E.WL.val (E.y_load rfl (E.At.ld0 Tryd.isAgg9 hatn rfl)) rfl rfl rfl ?_
    refine E.WL.val (E.y_assign rfl) rfl rfl rfl ?_
    refine E.WL.val (E.y_assign rfl) rfl rfl rfl ?_
    refine E.WL.done ?_
    refine E.KQ.then_n ?_
    refine E.W.seq ?_
    refine E.W.seq ?_
    refine E.W.region ?_
    refine E.WL.val (E.y_move rfl) rfl rfl rfl ?_
    refine E.WL.val (E.y_eql rfl rfl) rfl rfl rfl ?_
    refine E.WL.done ?_
    refine E.KQ.then_n ?_
    refine E.W.condT 28 rfl (fun h28 => ?_) (fun h28 => ?_)
    · skip
      refine E.W.exit ?_
      refine E.KQ.then_e ?_
      refine E.KQ.block_o rfl ?_
      refine E.KQ.then_e ?_
      refine E.KQ.loop_e ?_
      refine E.KQ.block_e ?_
      refine E.KQ.then_n ?_
      refine E.W.seq ?_
      refine E.W.region ?_
      refine E.WL.val (E.y_assign rfl) rfl rfl rfl ?_
      refine E.WL.done ?_
      refine E.KQ.then_n ?_
      refine E.W.ret ?_
      refine E.KQ.ret1 Tryd.results3 rfl ?_
      exact ⟨_, rfl, rfl, hb.below⟩
    · replace h28 : ¬ k = 20 := by have := of_decide_eq_false h28; omega
      refine E.W.skip ?_
      refine E.KQ.then_n ?_
      refine E.W.seq ?_
      refine E.W.seq ?_
      refine E.W.region ?_
      refine E.WL.val (E.y_move rfl) rfl rfl rfl ?_
      refine E.WL.call (name_calls w8 names[k]) Tryd.call5 rfl rfl rfl ?_
      rintro _ w9 ⟨rfl, hX⟩
      replace hb := hb.ext hX
      replace hd1 := RDisk.keeps hd1 (Keeps.ext hX) (S := fun U => U = 51) rfl
      clear hX
      refine E.WL.val (E.y_not rfl) rfl rfl rfl ?_
      refine E.WL.done ?_
      refine E.KQ.then_n ?_
      refine E.W.condT 31 rfl (fun h31 => ?_) (fun h31 => ?_)
      · replace h31 : nameB names[k] = false := by simpa using h31
        refine E.W.exit ?_
        refine E.KQ.then_e ?_
        refine E.KQ.block_e ?_
        refine E.KQ.then_n ?_
        refine E.W.region ?_
        refine E.WL.val (E.y_add rfl rfl (Go.IntWalk.i64_in _ (by omega))) rfl rfl rfl ?_
        refine E.WL.val (E.y_move rfl) rfl rfl rfl ?_
        refine E.WL.done ?_
        exact E.KQ.next (k + 1) (by exact .cons rfl (.cons rfl (.cons rfl (.cons rfl (.cons rfl (.cons rfl (.cons rfl (.nil)))))))) ⟨_, _, _, _, _, _, _, _, _, _, _, hb, hd1, hsh, hlast.mono (by omega), by omega, by omega⟩ (by show names.length - (k + 1) < names.length - k; omega)
      · replace h31 : nameB names[k] = true := by simpa using h31
        refine E.W.skip ?_
        refine E.KQ.then_n ?_
        refine E.W.seq ?_
        refine E.W.region ?_
        refine E.WL.val (E.y_move rfl) rfl rfl rfl ?_
        refine E.WL.val (E.y_conv (by rw [Tryd.underlying3]; rfl) Tryd.underlying28 rfl (Go.IntWalk.u64_in _ (by omega))) rfl rfl rfl ?_
        refine E.WL.val (E.y_add rfl rfl (Go.IntWalk.u64_in _ (by omega))) rfl rfl rfl ?_
        refine E.WL.as 34 rfl (show _ = Value.int .u64 ((k + 1 : Nat) : Int) from rfl) ?_
        refine E.WL.mkslice (T := 3) (cs := [.int .i64 1]) hb rfl (fun _ => by kernel_rfl) rfl rfl ?_
        clear hb; intro B35 w11 hb hX _
        replace hd1 := RDisk.keeps hd1 (Keeps.ext hX) (S := fun U => U = 51) rfl
        clear hX
        refine E.WL.val (E.y_move rfl) rfl rfl rfl ?_
        refine E.WL.val (E.y_build (v := .agg #[.int .u64 ((k + 1 : Nat) : Int), .int .u64 0, .slice (some ⟨B35, 0, none⟩) 1 1, .string names[k]]) rfl (by kernel_rfl)) rfl rfl rfl ?_
        refine E.WL.alloc hb Tryd.zeroValue30 rfl rfl rfl ?_
        clear hb; intro B11 w13 hb hX _
        replace hd1 := RDisk.keeps hd1 (Keeps.ext hX) (S := fun U => U = 51) rfl
        clear hX
        refine E.WL.storeW hb 0 rfl rfl rfl Tryd.sizeOf30 rfl rfl rfl (E.allOne rfl) rfl ?_
        have hT := hb.hasT 0 rfl
        clear hb; intro w14 hb hO
        replace hd1 := RDisk.keeps hd1 (Keeps.only hO hT (by decide)) (S := fun U => U = 51) rfl
        clear hT
        clear hO
        refine E.WL.done ?_
        refine E.KQ.then_n ?_
        refine E.W.seq ?_
        refine E.W.region ?_
        refine E.WL.val (E.y_fld Tryd.underlying27 rfl Tryd.sizeOf3 rfl) rfl rfl rfl ?_
        refine E.WL.store hb 3 2 rfl rfl rfl Tryd.sizeOf3 rfl rfl rfl (E.allOne rfl) rfl ?_
        have hT := hb.hasT 3 rfl
        clear hb; intro w15 hb hO
        replace hd1 := RDisk.keeps hd1 (Keeps.only hO hT (by decide)) (S := fun U => U = 51) rfl
        clear hT
        clear hO
        refine E.WL.done ?_
        refine E.KQ.then_n ?_
        refine E.W.seq ?_
        refine E.W.seq ?_
        refine E.W.region ?_
        refine E.WL.val (E.y_move rfl) rfl rfl rfl ?_
        refine E.WL.val (E.y_move rfl) rfl rfl rfl ?_
        refine E.WL.val (E.y_lenS Tryd.underlying23 rfl) rfl rfl rfl ?_
        refine E.WL.val (E.y_lss rfl rfl) rfl rfl rfl ?_
        refine E.WL.done ?_
        refine E.KQ.then_n ?_
        refine E.W.condT 42 rfl (fun h42 => ?_) (fun h42 => ?_)
        · replace h42 : k < fuses.length := by have := of_decide_eq_true h42; omega
          have hfx := hfr _ (List.getElem_mem h42)
          have hfb : -1 ≤ (if (-1 : Int) > fuses[k] then (-1 : Int) else fuses[k]) ∧ (if (-1 : Int) > fuses[k] then (-1 : Int) else fuses[k]) ≤ 9223372036854775807 := by split <;> omega
          obtain ⟨Af', cf', eqf, _, _, hgf⟩ := (hf0.stays (RInt.goes .i64) (Stays.below hb.below (fun _ _ h => h))).open_
          injection eqf with eq1 eq2 eq3
          subst eq1
          obtain ⟨qf, csf, hqf, _, hlf, hatf, hrf⟩ := hgf k h42
          subst hqf
          have hrf' : csf = [.int .i64 fuses[k]] := hrf
          subst hrf'
          refine E.W.region ?_
          refine E.WL.val (E.y_move rfl) rfl rfl rfl ?_
          refine E.WL.val (E.y_move rfl) rfl rfl rfl ?_
          refine E.WL.val (E.y_idxS Tryd.underlying23 Tryd.sizeOf3 rfl rfl (by omega) (by omega)) rfl rfl rfl ?_
          refine E.WL.val (E.y_load rfl (E.At.ld0 Tryd.isAgg3 hatf rfl)) rfl rfl rfl ?_
          refine E.WL.val (E.y_max rfl rfl) rfl rfl rfl ?_
          refine E.WL.val (E.y_fld Tryd.underlying27 rfl Tryd.sizeOf3 rfl) rfl rfl rfl ?_
          refine E.WL.store hb 3 2 rfl rfl rfl Tryd.sizeOf3 rfl rfl rfl (E.allOne rfl) rfl ?_
          have hT := hb.hasT 3 rfl
          clear hb; intro w16 hb hO
          replace hd1 := RDisk.keeps hd1 (Keeps.only hO hT (by decide)) (S := fun U => U = 51) rfl
          clear hT
          clear hO
          refine E.WL.done ?_
          refine E.KQ.then_n ?_
          refine E.W.seq ?_
          refine E.W.region ?_
          refine E.WL.val (E.y_load rfl (E.At.ldk Tryd.isAgg27 Tryd.sizeOf27 (hb.at0 3 rfl) rfl)) rfl rfl rfl ?_
          refine E.WL.val (E.y_load rfl (E.At.ldk Tryd.isAgg30 Tryd.sizeOf30 (hb.at0 0 rfl) rfl)) rfl rfl rfl ?_
          have hsh2 : Sh ⟨d.files, d.down, (if (-1 : Int) > fuses[k] then (-1 : Int) else fuses[k])⟩ o t := hsh.fused hfb
          obtain ⟨x, hlo, hxd, hxi⟩ := hlast.load (by omega) hsh2
          obtain ⟨hok, hput⟩ := put_steps hsh2 (data_size (k := k + 1) h31)
          have hsv := save_calls (RDisk.fused hd1 (if (-1 : Int) > fuses[k] then (-1 : Int) else fuses[k])) (ints3 (hb.at0 1 rfl)) (k + 1) (by omega) (by omega) names[k] (by have := name_size h31; omega) hlo (by omega) hok
          generalize putP ⟨d.files, d.down, (if (-1 : Int) > fuses[k] then (-1 : Int) else fuses[k])⟩ snapN (frameP (bytesP (k + 1) names[k])) = p at hsv hput
          refine E.WL.call (hsv) Tryd.call6 rfl rfl rfl ?_
          rintro _ w17 ⟨⟨cs1, rfl, hd1⟩, hX⟩
          obtain ⟨v1, rfl, hf1⟩ := id hd1
          obtain ⟨A1, c1, rfl, _, _, _⟩ := hf1.open_
          clear hf1
          replace hb := hb.ext hX
          clear hX
          refine E.WL.val (E.y_move rfl) rfl rfl rfl ?_
          refine E.WL.val (E.y_extract rfl rfl) rfl rfl rfl ?_
          refine E.WL.val (E.y_extract rfl rfl) rfl rfl rfl ?_
          refine E.WL.alloc hb Tryd.zeroValue27 rfl rfl rfl ?_
          clear hb; intro B12 w19 hb hX _
          replace hd1 := RDisk.keeps hd1 (Keeps.ext hX) (S := fun U => U = 51) rfl
          clear hX
          refine E.WL.storeW hb 0 rfl rfl rfl Tryd.sizeOf27 rfl rfl rfl (E.allOne rfl) rfl ?_
          have hT := hb.hasT 0 rfl
          clear hb; intro w20 hb hO
          replace hd1 := RDisk.keeps hd1 (Keeps.only hO hT (by decide)) (S := fun U => U = 51) rfl
          clear hT
          clear hO
          refine E.WL.val (E.y_assign rfl) rfl rfl rfl ?_
          refine E.WL.done ?_
          refine E.KQ.then_n ?_
          refine E.W.seq ?_
          refine E.W.seq ?_
          refine E.W.region ?_
          refine E.WL.val (E.y_move rfl) rfl rfl rfl ?_
          refine E.WL.val (E.y_eql rfl rfl) rfl rfl rfl ?_
          refine E.WL.done ?_
          refine E.KQ.then_n ?_
          refine E.W.condT 56 rfl (fun h56 => ?_) (fun h56 => ?_)
          · replace h56 : p.2 = 8 := of_decide_eq_true h56
            have hdead : Dead p.1 o := by
              rcases hput with ⟨e, _⟩ | ⟨_, e⟩
              · exact absurd (h56.symm.trans e) (by decide)
              · exact e
            obtain ⟨⟨hck, hszz⟩, t2, hsh3⟩ := crash_steps hdead keep
            refine E.W.region ?_
            refine E.WL.val (E.y_load rfl (E.At.ldk Tryd.isAgg27 Tryd.sizeOf27 (hb.at0 0 rfl) rfl)) rfl rfl rfl ?_
            refine E.WL.val (E.y_move rfl) rfl rfl rfl ?_
            refine E.WL.call (crash_calls hd1 (hk0.stays (RInt.goes .i64) (Stays.below hb.below (fun _ _ h => h))) hck hszz) Tryd.call7 rfl rfl rfl ?_
            rintro _ w21 ⟨⟨cs4, rfl, hd1⟩, hX⟩
            obtain ⟨v4, rfl, hf4⟩ := id hd1
            obtain ⟨A4, c4, rfl, _, _, _⟩ := hf4.open_
            clear hf4
            replace hb := hb.ext hX
            clear hX
            generalize crashP p.1 keep = e at *
            refine E.WL.val (E.y_move rfl) rfl rfl rfl ?_
            refine E.WL.val (E.y_extract rfl rfl) rfl rfl rfl ?_
            refine E.WL.val (E.y_extract rfl rfl) rfl rfl rfl ?_
            refine E.WL.storeW hb 0 rfl rfl rfl Tryd.sizeOf27 rfl rfl rfl (E.allOne rfl) rfl ?_
            have hT := hb.hasT 0 rfl
            clear hb; intro w22 hb hO
            replace hd1 := RDisk.keeps hd1 (Keeps.only hO hT (by decide)) (S := fun U => U = 51) rfl
            clear hT
            clear hO
            refine E.WL.done ?_
            refine E.KQ.then_n ?_
            refine E.W.seq ?_
            refine E.W.region ?_
            refine E.WL.val (E.y_load rfl (E.At.ldk Tryd.isAgg27 Tryd.sizeOf27 (hb.at0 0 rfl) rfl)) rfl rfl rfl ?_
            obtain ⟨x2, hlo2, hxd2, hxi2⟩ := hlast.load (by omega) hsh3
            have hnx : x2.data = noB ∨ nameB x2.data = true := by rw [hxd2]; exact hlast.named
            refine E.WL.call (load_calls hd1 hlo2) Tryd.call8 rfl rfl rfl ?_
            rintro _ w23 ⟨⟨A3', m3', c3', rfl⟩, hX⟩
            replace hb := hb.ext hX
            replace hd1 := RDisk.keeps hd1 (Keeps.ext hX) (S := fun U => U = 51) rfl
            clear hX
            refine E.WL.val (E.y_move rfl) rfl rfl rfl ?_
            refine E.WL.val (E.y_extract rfl rfl) rfl rfl rfl ?_
            refine E.WL.val (E.y_extract rfl rfl) rfl rfl rfl ?_
            refine E.WL.alloc hb Tryd.zeroValue30 rfl rfl rfl ?_
            clear hb; intro B14 w25 hb hX _
            replace hd1 := RDisk.keeps hd1 (Keeps.ext hX) (S := fun U => U = 51) rfl
            clear hX
            refine E.WL.storeW hb 0 rfl rfl rfl Tryd.sizeOf30 rfl rfl rfl (E.allOne rfl) rfl ?_
            have hT := hb.hasT 0 rfl
            clear hb; intro w26 hb hO
            replace hd1 := RDisk.keeps hd1 (Keeps.only hO hT (by decide)) (S := fun U => U = 51) rfl
            clear hT
            clear hO
            refine E.WL.val (E.y_assign rfl) rfl rfl rfl ?_
            refine E.WL.done ?_
            refine E.KQ.then_n ?_
            refine E.W.seq ?_
            refine E.W.seq ?_
            refine E.W.region ?_
            refine E.WL.val (E.y_move rfl) rfl rfl rfl ?_
            refine E.WL.val (E.y_neq rfl rfl) rfl rfl rfl ?_
            refine E.WL.as 69 rfl (show _ = Value.bool false from congrArg Value.bool (by decide)) ?_
            refine E.WL.val (E.y_move rfl) rfl rfl rfl ?_
            refine E.WL.val (E.y_move rfl) rfl rfl rfl ?_
            refine E.WL.val (E.y_neq rfl rfl) rfl rfl rfl ?_
            refine E.WL.as 72 rfl (show _ = Value.bool true from by rw [h56]; rfl) ?_
            refine E.WL.val (E.y_move rfl) rfl rfl rfl ?_
            refine E.WL.val (E.y_move rfl) rfl rfl rfl ?_
            refine E.WL.val (E.y_neq rfl rfl) rfl rfl rfl ?_
            refine E.WL.as 75 rfl (show _ = Value.bool false from by rw [h56]; rfl) ?_
            refine E.WL.val (E.y_pick_t rfl rfl) rfl rfl rfl ?_
            refine E.WL.val (E.y_pick_f rfl rfl) rfl rfl rfl ?_
            refine E.WL.done ?_
            refine E.KQ.then_n ?_
            refine E.W.cond_f rfl ?_
            refine E.W.skip ?_
            refine E.KQ.then_n ?_
            refine E.W.seq ?_
            refine E.W.seq ?_
            refine E.W.region ?_
            refine E.WL.val (E.y_fld Tryd.underlying30 rfl Tryd.sizeOf9 rfl) rfl rfl rfl ?_
            refine E.WL.val (E.y_load rfl (E.At.ld1 Tryd.isAgg9 (hb.at0 0 rfl) 3 rfl)) rfl rfl rfl ?_
            refine E.WL.val (E.y_move rfl) rfl rfl rfl ?_
            refine E.WL.val (E.y_sneq rfl rfl) rfl rfl rfl ?_
            refine E.WL.val (E.y_move rfl) rfl rfl rfl ?_
            refine E.WL.split 82 rfl (fun hg82 => ?_) (fun hg82 => ?_)
            · skip
              refine E.WL.val (E.y_move rfl) rfl rfl rfl ?_
              refine E.WL.val (E.y_eql rfl rfl) rfl rfl rfl ?_
              refine E.WL.as 84 rfl (show _ = Value.bool false from by rw [h56]; rfl) ?_
              refine E.WL.val (E.y_move rfl) rfl rfl rfl ?_
              refine E.WL.val (E.y_fld Tryd.underlying30 rfl Tryd.sizeOf9 rfl) rfl rfl rfl ?_
              refine E.WL.val (E.y_load rfl (E.At.ld1 Tryd.isAgg9 (hb.at0 0 rfl) 3 rfl)) rfl rfl rfl ?_
              refine E.WL.val (E.y_fld Tryd.underlying30 rfl Tryd.sizeOf9 rfl) rfl rfl rfl ?_
              refine E.WL.val (E.y_load rfl (E.At.ld1 Tryd.isAgg9 (hb.at0 4 rfl) 3 rfl)) rfl rfl rfl ?_
              refine E.WL.val (E.y_sneq rfl rfl) rfl rfl rfl ?_
              refine E.WL.as 90 rfl (show _ = Value.bool false from congrArg Value.bool (by rw [hxd2]; simp)) ?_
              refine E.WL.val (E.y_pick_f rfl rfl) rfl rfl rfl ?_
              refine E.WL.val (E.y_pick_t rfl rfl) rfl rfl rfl ?_
              refine E.WL.val (E.y_move rfl) rfl rfl rfl ?_
              refine E.WL.val (E.y_fld Tryd.underlying30 rfl Tryd.sizeOf9 rfl) rfl rfl rfl ?_
              refine E.WL.val (E.y_load rfl (E.At.ld1 Tryd.isAgg9 (hb.at0 0 rfl) 3 rfl)) rfl rfl rfl ?_
              refine E.WL.val (E.y_sneq rfl rfl) rfl rfl rfl ?_
              refine E.WL.val (E.y_move rfl) rfl rfl rfl ?_
              refine E.WL.split 97 rfl (fun h96 => ?_) (fun h96 => ?_)
              · skip
                have h96 : ¬ x2.data = noB := by intro e; rw [e] at h96; exact absurd h96 (by decide)
                have hnb : nameB x2.data = true := hnx.resolve_left h96
                refine E.WL.val (E.y_fld Tryd.underlying30 rfl Tryd.sizeOf9 rfl) rfl rfl rfl ?_
                refine E.WL.val (E.y_load rfl (E.At.ld1 Tryd.isAgg9 (hb.at0 0 rfl) 3 rfl)) rfl rfl rfl ?_
                refine E.WL.call (name_calls w26 x2.data) Tryd.call5 rfl rfl rfl ?_
                rintro _ w27 ⟨rfl, hX⟩
                replace hb := hb.ext hX
                replace hd1 := RDisk.keeps hd1 (Keeps.ext hX) (S := fun U => U = 51) rfl
                clear hX
                refine E.WL.as 100 rfl (show _ = Value.bool true from by rw [hnb]) ?_
                refine E.WL.val (E.y_not rfl) rfl rfl rfl ?_
                refine E.WL.val (E.y_pick_t rfl rfl) rfl rfl rfl ?_
                refine E.WL.val (E.y_pick_f rfl rfl) rfl rfl rfl ?_
                refine E.WL.done ?_
                refine E.KQ.then_n ?_
                refine E.W.cond_f rfl ?_
                refine E.W.skip ?_
                refine E.KQ.then_n ?_
                have hb0 := hb
                refine E.W.regionC (C := fun w' => At w' ⟨B12, 0, none⟩ [.slice A4 (DiskD.files e).length c4, .bool (DiskD.down e), .int .i64 (DiskD.fuse e)] ∧ At w' ⟨B14, 0, none⟩ [.int .u64 x2.index, .int .u64 x2.term, .slice A3' m3' c3', .string x2.data]) (E.heads 4 []) rfl ?_
                replace hb := hb.drew
                replace hd1 := RDisk.keeps hd1 (Keeps.ext (E.Ext.drew _)) (S := fun U => U = 51) rfl
                have hE : (fun w' => At w' ⟨B12, 0, none⟩ [.slice A4 (DiskD.files e).length c4, .bool (DiskD.down e), .int .i64 (DiskD.fuse e)] ∧ At w' ⟨B14, 0, none⟩ [.int .u64 x2.index, .int .u64 x2.term, .slice A3' m3' c3', .string x2.data]) (w27.drew) := ⟨hb.at0 1 rfl, hb.at0 0 rfl⟩
                refine E.DL.take 0 rfl (by kernel_rfl) (by kernel_rfl) (fun w' hw => E.y_load rfl (E.At.ldk Tryd.isAgg27 Tryd.sizeOf27 hw.1 rfl)) rfl rfl rfl (fun _ _ _ _ h => by obtain ⟨_, _, h, _⟩ := h; cases h) hE ?_
                refine E.DL.take 1 rfl (by kernel_rfl) (by kernel_rfl) (fun w' hw => E.y_load rfl (E.At.ldk Tryd.isAgg30 Tryd.sizeOf30 hw.2 rfl)) rfl rfl rfl (fun _ _ _ _ h => by obtain ⟨_, _, h, _⟩ := h; cases h) hE ?_
                refine E.DL.only 2 rfl (by kernel_rfl) (fun hsh => ?_)
                refine E.WL.storeW hb 5 rfl rfl rfl Tryd.sizeOf27 rfl rfl rfl (E.allOne rfl) rfl ?_
                have hT := hb.hasT 5 rfl
                clear hb; intro w28 hb hO
                replace hd1 := RDisk.keeps hd1 (Keeps.only hO hT (by decide)) (S := fun U => U = 51) rfl
                clear hT
                clear hO
                refine E.WL.done ?_
                replace hE : (fun w' => At w' ⟨B12, 0, none⟩ [.slice A4 (DiskD.files e).length c4, .bool (DiskD.down e), .int .i64 (DiskD.fuse e)] ∧ At w' ⟨B14, 0, none⟩ [.int .u64 x2.index, .int .u64 x2.term, .slice A3' m3' c3', .string x2.data]) (w28) := ⟨hb.at0 1 rfl, hb.at0 0 rfl⟩
                refine E.DL.next hsh (.inl hE) ?_
                clear hsh
                refine E.DL.only 3 rfl (by kernel_rfl) (fun hsh => ?_)
                refine E.WL.storeW hb 4 rfl rfl rfl Tryd.sizeOf30 rfl rfl rfl (E.allOne rfl) rfl ?_
                have hT := hb.hasT 4 rfl
                clear hb; intro w29 hb hO
                replace hd1 := RDisk.keeps hd1 (Keeps.only hO hT (by decide)) (S := fun U => U = 51) rfl
                clear hT
                clear hO
                refine E.WL.done ?_
                replace hE : (fun w' => At w' ⟨B12, 0, none⟩ [.slice A4 (DiskD.files e).length c4, .bool (DiskD.down e), .int .i64 (DiskD.fuse e)] ∧ At w' ⟨B14, 0, none⟩ [.int .u64 x2.index, .int .u64 x2.term, .slice A3' m3' c3', .string x2.data]) (w29) := ⟨hb.at0 1 rfl, hb.at0 0 rfl⟩
                refine E.DL.next hsh (.inl hE) ?_
                clear hsh
                refine E.DL.done (by kernel_rfl) ?_
                clear hE hb0
                refine E.KQ.block_n ?_
                refine E.KQ.then_n ?_
                refine E.W.region ?_
                refine E.WL.val (E.y_add rfl rfl (Go.IntWalk.i64_in _ (by omega))) rfl rfl rfl ?_
                refine E.WL.val (E.y_move rfl) rfl rfl rfl ?_
                refine E.WL.done ?_
                replace hb := hb.drop (List.Sublist.cons _ (List.Sublist.cons _ (List.Sublist.cons _ (List.Sublist.cons _ (List.Sublist.refl _)))))
                exact E.KQ.next (k + 1) (by exact .cons rfl (.cons rfl (.cons rfl (.cons rfl (.cons rfl (.cons rfl (.cons rfl (.nil)))))))) ⟨_, _, _, _, _, _, _, _, _, _, _, hb, hd1, hsh3, (by rw [hxd2]; exact hlast.mono (by omega)), by omega, by omega⟩ (by show names.length - (k + 1) < names.length - k; omega)
              · skip
                refine E.WL.off rfl rfl rfl ?_
                refine E.WL.off rfl rfl rfl ?_
                refine E.WL.off rfl rfl rfl ?_
                refine E.WL.off rfl rfl rfl ?_
                refine E.WL.val (E.y_pick_f rfl rfl) rfl rfl rfl ?_
                refine E.WL.val (E.y_pick_f rfl rfl) rfl rfl rfl ?_
                refine E.WL.done ?_
                refine E.KQ.then_n ?_
                refine E.W.cond_f rfl ?_
                refine E.W.skip ?_
                refine E.KQ.then_n ?_
                have hb0 := hb
                refine E.W.regionC (C := fun w' => At w' ⟨B12, 0, none⟩ [.slice A4 (DiskD.files e).length c4, .bool (DiskD.down e), .int .i64 (DiskD.fuse e)] ∧ At w' ⟨B14, 0, none⟩ [.int .u64 x2.index, .int .u64 x2.term, .slice A3' m3' c3', .string x2.data]) (E.heads 4 []) rfl ?_
                replace hb := hb.drew
                replace hd1 := RDisk.keeps hd1 (Keeps.ext (E.Ext.drew _)) (S := fun U => U = 51) rfl
                have hE : (fun w' => At w' ⟨B12, 0, none⟩ [.slice A4 (DiskD.files e).length c4, .bool (DiskD.down e), .int .i64 (DiskD.fuse e)] ∧ At w' ⟨B14, 0, none⟩ [.int .u64 x2.index, .int .u64 x2.term, .slice A3' m3' c3', .string x2.data]) (w26.drew) := ⟨hb.at0 1 rfl, hb.at0 0 rfl⟩
                refine E.DL.take 0 rfl (by kernel_rfl) (by kernel_rfl) (fun w' hw => E.y_load rfl (E.At.ldk Tryd.isAgg27 Tryd.sizeOf27 hw.1 rfl)) rfl rfl rfl (fun _ _ _ _ h => by obtain ⟨_, _, h, _⟩ := h; cases h) hE ?_
                refine E.DL.take 1 rfl (by kernel_rfl) (by kernel_rfl) (fun w' hw => E.y_load rfl (E.At.ldk Tryd.isAgg30 Tryd.sizeOf30 hw.2 rfl)) rfl rfl rfl (fun _ _ _ _ h => by obtain ⟨_, _, h, _⟩ := h; cases h) hE ?_
                refine E.DL.only 2 rfl (by kernel_rfl) (fun hsh => ?_)
                refine E.WL.storeW hb 5 rfl rfl rfl Tryd.sizeOf27 rfl rfl rfl (E.allOne rfl) rfl ?_
                have hT := hb.hasT 5 rfl
                clear hb; intro w30 hb hO
                replace hd1 := RDisk.keeps hd1 (Keeps.only hO hT (by decide)) (S := fun U => U = 51) rfl
                clear hT
                clear hO
                refine E.WL.done ?_
                replace hE : (fun w' => At w' ⟨B12, 0, none⟩ [.slice A4 (DiskD.files e).length c4, .bool (DiskD.down e), .int .i64 (DiskD.fuse e)] ∧ At w' ⟨B14, 0, none⟩ [.int .u64 x2.index, .int .u64 x2.term, .slice A3' m3' c3', .string x2.data]) (w30) := ⟨hb.at0 1 rfl, hb.at0 0 rfl⟩
                refine E.DL.next hsh (.inl hE) ?_
                clear hsh
                refine E.DL.only 3 rfl (by kernel_rfl) (fun hsh => ?_)
                refine E.WL.storeW hb 4 rfl rfl rfl Tryd.sizeOf30 rfl rfl rfl (E.allOne rfl) rfl ?_
                have hT := hb.hasT 4 rfl
                clear hb; intro w31 hb hO
                replace hd1 := RDisk.keeps hd1 (Keeps.only hO hT (by decide)) (S := fun U => U = 51) rfl
                clear hT
                clear hO
                refine E.WL.done ?_
                replace hE : (fun w' => At w' ⟨B12, 0, none⟩ [.slice A4 (DiskD.files e).length c4, .bool (DiskD.down e), .int .i64 (DiskD.fuse e)] ∧ At w' ⟨B14, 0, none⟩ [.int .u64 x2.index, .int .u64 x2.term, .slice A3' m3' c3', .string x2.data]) (w31) := ⟨hb.at0 1 rfl, hb.at0 0 rfl⟩
                refine E.DL.next hsh (.inl hE) ?_
                clear hsh
                refine E.DL.done (by kernel_rfl) ?_
                clear hE hb0
                refine E.KQ.block_n ?_
                refine E.KQ.then_n ?_
                refine E.W.region ?_
                refine E.WL.val (E.y_add rfl rfl (Go.IntWalk.i64_in _ (by omega))) rfl rfl rfl ?_
                refine E.WL.val (E.y_move rfl) rfl rfl rfl ?_
                refine E.WL.done ?_
                replace hb := hb.drop (List.Sublist.cons _ (List.Sublist.cons _ (List.Sublist.cons _ (List.Sublist.cons _ (List.Sublist.refl _)))))
                exact E.KQ.next (k + 1) (by exact .cons rfl (.cons rfl (.cons rfl (.cons rfl (.cons rfl (.cons rfl (.cons rfl (.nil)))))))) ⟨_, _, _, _, _, _, _, _, _, _, _, hb, hd1, hsh3, (by rw [hxd2]; exact hlast.mono (by omega)), by omega, by omega⟩ (by show names.length - (k + 1) < names.length - k; omega)
            · skip
              refine E.WL.off rfl rfl rfl ?_
              refine E.WL.off rfl rfl rfl ?_
              refine E.WL.off rfl rfl rfl ?_
              refine E.WL.off rfl rfl rfl ?_
              refine E.WL.off rfl rfl rfl ?_
              refine E.WL.off rfl rfl rfl ?_
              refine E.WL.off rfl rfl rfl ?_
              refine E.WL.off rfl rfl rfl ?_
              refine E.WL.off rfl rfl rfl ?_
              refine E.WL.val (E.y_pick_f rfl rfl) rfl rfl rfl ?_
              refine E.WL.val (E.y_move rfl) rfl rfl rfl ?_
              refine E.WL.val (E.y_fld Tryd.underlying30 rfl Tryd.sizeOf9 rfl) rfl rfl rfl ?_
              refine E.WL.val (E.y_load rfl (E.At.ld1 Tryd.isAgg9 (hb.at0 0 rfl) 3 rfl)) rfl rfl rfl ?_
              refine E.WL.val (E.y_sneq rfl rfl) rfl rfl rfl ?_
              refine E.WL.val (E.y_move rfl) rfl rfl rfl ?_
              refine E.WL.split 97 rfl (fun h96 => ?_) (fun h96 => ?_)
              · skip
                have h96 : ¬ x2.data = noB := by intro e; rw [e] at h96; exact absurd h96 (by decide)
                have hnb : nameB x2.data = true := hnx.resolve_left h96
                refine E.WL.val (E.y_fld Tryd.underlying30 rfl Tryd.sizeOf9 rfl) rfl rfl rfl ?_
                refine E.WL.val (E.y_load rfl (E.At.ld1 Tryd.isAgg9 (hb.at0 0 rfl) 3 rfl)) rfl rfl rfl ?_
                refine E.WL.call (name_calls w26 x2.data) Tryd.call5 rfl rfl rfl ?_
                rintro _ w32 ⟨rfl, hX⟩
                replace hb := hb.ext hX
                replace hd1 := RDisk.keeps hd1 (Keeps.ext hX) (S := fun U => U = 51) rfl
                clear hX
                refine E.WL.as 100 rfl (show _ = Value.bool true from by rw [hnb]) ?_
                refine E.WL.val (E.y_not rfl) rfl rfl rfl ?_
                refine E.WL.val (E.y_pick_t rfl rfl) rfl rfl rfl ?_
                refine E.WL.val (E.y_pick_f rfl rfl) rfl rfl rfl ?_
                refine E.WL.done ?_
                refine E.KQ.then_n ?_
                refine E.W.cond_f rfl ?_
                refine E.W.skip ?_
                refine E.KQ.then_n ?_
                have hb0 := hb
                refine E.W.regionC (C := fun w' => At w' ⟨B12, 0, none⟩ [.slice A4 (DiskD.files e).length c4, .bool (DiskD.down e), .int .i64 (DiskD.fuse e)] ∧ At w' ⟨B14, 0, none⟩ [.int .u64 x2.index, .int .u64 x2.term, .slice A3' m3' c3', .string x2.data]) (E.heads 4 []) rfl ?_
                replace hb := hb.drew
                replace hd1 := RDisk.keeps hd1 (Keeps.ext (E.Ext.drew _)) (S := fun U => U = 51) rfl
                have hE : (fun w' => At w' ⟨B12, 0, none⟩ [.slice A4 (DiskD.files e).length c4, .bool (DiskD.down e), .int .i64 (DiskD.fuse e)] ∧ At w' ⟨B14, 0, none⟩ [.int .u64 x2.index, .int .u64 x2.term, .slice A3' m3' c3', .string x2.data]) (w32.drew) := ⟨hb.at0 1 rfl, hb.at0 0 rfl⟩
                refine E.DL.take 0 rfl (by kernel_rfl) (by kernel_rfl) (fun w' hw => E.y_load rfl (E.At.ldk Tryd.isAgg27 Tryd.sizeOf27 hw.1 rfl)) rfl rfl rfl (fun _ _ _ _ h => by obtain ⟨_, _, h, _⟩ := h; cases h) hE ?_
                refine E.DL.take 1 rfl (by kernel_rfl) (by kernel_rfl) (fun w' hw => E.y_load rfl (E.At.ldk Tryd.isAgg30 Tryd.sizeOf30 hw.2 rfl)) rfl rfl rfl (fun _ _ _ _ h => by obtain ⟨_, _, h, _⟩ := h; cases h) hE ?_
                refine E.DL.only 2 rfl (by kernel_rfl) (fun hsh => ?_)
                refine E.WL.storeW hb 5 rfl rfl rfl Tryd.sizeOf27 rfl rfl rfl (E.allOne rfl) rfl ?_
                have hT := hb.hasT 5 rfl
                clear hb; intro w33 hb hO
                replace hd1 := RDisk.keeps hd1 (Keeps.only hO hT (by decide)) (S := fun U => U = 51) rfl
                clear hT
                clear hO
                refine E.WL.done ?_
                replace hE : (fun w' => At w' ⟨B12, 0, none⟩ [.slice A4 (DiskD.files e).length c4, .bool (DiskD.down e), .int .i64 (DiskD.fuse e)] ∧ At w' ⟨B14, 0, none⟩ [.int .u64 x2.index, .int .u64 x2.term, .slice A3' m3' c3', .string x2.data]) (w33) := ⟨hb.at0 1 rfl, hb.at0 0 rfl⟩
                refine E.DL.next hsh (.inl hE) ?_
                clear hsh
                refine E.DL.only 3 rfl (by kernel_rfl) (fun hsh => ?_)
                refine E.WL.storeW hb 4 rfl rfl rfl Tryd.sizeOf30 rfl rfl rfl (E.allOne rfl) rfl ?_
                have hT := hb.hasT 4 rfl
                clear hb; intro w34 hb hO
                replace hd1 := RDisk.keeps hd1 (Keeps.only hO hT (by decide)) (S := fun U => U = 51) rfl
                clear hT
                clear hO
                refine E.WL.done ?_
                replace hE : (fun w' => At w' ⟨B12, 0, none⟩ [.slice A4 (DiskD.files e).length c4, .bool (DiskD.down e), .int .i64 (DiskD.fuse e)] ∧ At w' ⟨B14, 0, none⟩ [.int .u64 x2.index, .int .u64 x2.term, .slice A3' m3' c3', .string x2.data]) (w34) := ⟨hb.at0 1 rfl, hb.at0 0 rfl⟩
                refine E.DL.next hsh (.inl hE) ?_
                clear hsh
                refine E.DL.done (by kernel_rfl) ?_
                clear hE hb0
                refine E.KQ.block_n ?_
                refine E.KQ.then_n ?_
                refine E.W.region ?_
                refine E.WL.val (E.y_add rfl rfl (Go.IntWalk.i64_in _ (by omega))) rfl rfl rfl ?_
                refine E.WL.val (E.y_move rfl) rfl rfl rfl ?_
                refine E.WL.done ?_
                replace hb := hb.drop (List.Sublist.cons _ (List.Sublist.cons _ (List.Sublist.cons _ (List.Sublist.cons _ (List.Sublist.refl _)))))
                exact E.KQ.next (k + 1) (by exact .cons rfl (.cons rfl (.cons rfl (.cons rfl (.cons rfl (.cons rfl (.cons rfl (.nil)))))))) ⟨_, _, _, _, _, _, _, _, _, _, _, hb, hd1, hsh3, (by rw [hxd2]; exact hlast.mono (by omega)), by omega, by omega⟩ (by show names.length - (k + 1) < names.length - k; omega)
              · skip
                refine E.WL.off rfl rfl rfl ?_
                refine E.WL.off rfl rfl rfl ?_
                refine E.WL.off rfl rfl rfl ?_
                refine E.WL.off rfl rfl rfl ?_
                refine E.WL.val (E.y_pick_f rfl rfl) rfl rfl rfl ?_
                refine E.WL.val (E.y_pick_f rfl rfl) rfl rfl rfl ?_
                refine E.WL.done ?_
                refine E.KQ.then_n ?_
                refine E.W.cond_f rfl ?_
                refine E.W.skip ?_
                refine E.KQ.then_n ?_
                have hb0 := hb
                refine E.W.regionC (C := fun w' => At w' ⟨B12, 0, none⟩ [.slice A4 (DiskD.files e).length c4, .bool (DiskD.down e), .int .i64 (DiskD.fuse e)] ∧ At w' ⟨B14, 0, none⟩ [.int .u64 x2.index, .int .u64 x2.term, .slice A3' m3' c3', .string x2.data]) (E.heads 4 []) rfl ?_
                replace hb := hb.drew
                replace hd1 := RDisk.keeps hd1 (Keeps.ext (E.Ext.drew _)) (S := fun U => U = 51) rfl
                have hE : (fun w' => At w' ⟨B12, 0, none⟩ [.slice A4 (DiskD.files e).length c4, .bool (DiskD.down e), .int .i64 (DiskD.fuse e)] ∧ At w' ⟨B14, 0, none⟩ [.int .u64 x2.index, .int .u64 x2.term, .slice A3' m3' c3', .string x2.data]) (w26.drew) := ⟨hb.at0 1 rfl, hb.at0 0 rfl⟩
                refine E.DL.take 0 rfl (by kernel_rfl) (by kernel_rfl) (fun w' hw => E.y_load rfl (E.At.ldk Tryd.isAgg27 Tryd.sizeOf27 hw.1 rfl)) rfl rfl rfl (fun _ _ _ _ h => by obtain ⟨_, _, h, _⟩ := h; cases h) hE ?_
                refine E.DL.take 1 rfl (by kernel_rfl) (by kernel_rfl) (fun w' hw => E.y_load rfl (E.At.ldk Tryd.isAgg30 Tryd.sizeOf30 hw.2 rfl)) rfl rfl rfl (fun _ _ _ _ h => by obtain ⟨_, _, h, _⟩ := h; cases h) hE ?_
                refine E.DL.only 2 rfl (by kernel_rfl) (fun hsh => ?_)
                refine E.WL.storeW hb 5 rfl rfl rfl Tryd.sizeOf27 rfl rfl rfl (E.allOne rfl) rfl ?_
                have hT := hb.hasT 5 rfl
                clear hb; intro w35 hb hO
                replace hd1 := RDisk.keeps hd1 (Keeps.only hO hT (by decide)) (S := fun U => U = 51) rfl
                clear hT
                clear hO
                refine E.WL.done ?_
                replace hE : (fun w' => At w' ⟨B12, 0, none⟩ [.slice A4 (DiskD.files e).length c4, .bool (DiskD.down e), .int .i64 (DiskD.fuse e)] ∧ At w' ⟨B14, 0, none⟩ [.int .u64 x2.index, .int .u64 x2.term, .slice A3' m3' c3', .string x2.data]) (w35) := ⟨hb.at0 1 rfl, hb.at0 0 rfl⟩
                refine E.DL.next hsh (.inl hE) ?_
                clear hsh
                refine E.DL.only 3 rfl (by kernel_rfl) (fun hsh => ?_)
                refine E.WL.storeW hb 4 rfl rfl rfl Tryd.sizeOf30 rfl rfl rfl (E.allOne rfl) rfl ?_
                have hT := hb.hasT 4 rfl
                clear hb; intro w36 hb hO
                replace hd1 := RDisk.keeps hd1 (Keeps.only hO hT (by decide)) (S := fun U => U = 51) rfl
                clear hT
                clear hO
                refine E.WL.done ?_
                replace hE : (fun w' => At w' ⟨B12, 0, none⟩ [.slice A4 (DiskD.files e).length c4, .bool (DiskD.down e), .int .i64 (DiskD.fuse e)] ∧ At w' ⟨B14, 0, none⟩ [.int .u64 x2.index, .int .u64 x2.term, .slice A3' m3' c3', .string x2.data]) (w36) := ⟨hb.at0 1 rfl, hb.at0 0 rfl⟩
                refine E.DL.next hsh (.inl hE) ?_
                clear hsh
                refine E.DL.done (by kernel_rfl) ?_
                clear hE hb0
                refine E.KQ.block_n ?_
                refine E.KQ.then_n ?_
                refine E.W.region ?_
                refine E.WL.val (E.y_add rfl rfl (Go.IntWalk.i64_in _ (by omega))) rfl rfl rfl ?_
                refine E.WL.val (E.y_move rfl) rfl rfl rfl ?_
                refine E.WL.done ?_
                replace hb := hb.drop (List.Sublist.cons _ (List.Sublist.cons _ (List.Sublist.cons _ (List.Sublist.cons _ (List.Sublist.refl _)))))
                exact E.KQ.next (k + 1) (by exact .cons rfl (.cons rfl (.cons rfl (.cons rfl (.cons rfl (.cons rfl (.cons rfl (.nil)))))))) ⟨_, _, _, _, _, _, _, _, _, _, _, hb, hd1, hsh3, (by rw [hxd2]; exact hlast.mono (by omega)), by omega, by omega⟩ (by show names.length - (k + 1) < names.length - k; omega)
          · replace h56 : ¬ p.2 = 8 := of_decide_eq_false h56
            obtain ⟨hp0, hsh3⟩ : p.2 = 0 ∧ Sh p.1 (some (frameP (bytesP (k + 1) names[k]))) none := by
              rcases hput with e | ⟨e, _⟩
              · exact e
              · exact absurd e h56
            refine E.W.skip ?_
            refine E.KQ.then_n ?_
            refine E.W.seq ?_
            refine E.W.region ?_
            refine E.WL.val (E.y_load rfl (E.At.ldk Tryd.isAgg27 Tryd.sizeOf27 (hb.at0 0 rfl) rfl)) rfl rfl rfl ?_
            obtain ⟨x2, hlo2, hxd2, hxi2⟩ := (Last.new (k := k) h31).load (by omega) hsh3
            have hnx : x2.data = noB ∨ nameB x2.data = true := by rw [hxd2]; exact (.inr h31)
            refine E.WL.call (load_calls hd1 hlo2) Tryd.call8 rfl rfl rfl ?_
            rintro _ w37 ⟨⟨A3', m3', c3', rfl⟩, hX⟩
            replace hb := hb.ext hX
            replace hd1 := RDisk.keeps hd1 (Keeps.ext hX) (S := fun U => U = 51) rfl
            clear hX
            refine E.WL.val (E.y_move rfl) rfl rfl rfl ?_
            refine E.WL.val (E.y_extract rfl rfl) rfl rfl rfl ?_
            refine E.WL.val (E.y_extract rfl rfl) rfl rfl rfl ?_
            refine E.WL.alloc hb Tryd.zeroValue30 rfl rfl rfl ?_
            clear hb; intro B14 w39 hb hX _
            replace hd1 := RDisk.keeps hd1 (Keeps.ext hX) (S := fun U => U = 51) rfl
            clear hX
            refine E.WL.storeW hb 0 rfl rfl rfl Tryd.sizeOf30 rfl rfl rfl (E.allOne rfl) rfl ?_
            have hT := hb.hasT 0 rfl
            clear hb; intro w40 hb hO
            replace hd1 := RDisk.keeps hd1 (Keeps.only hO hT (by decide)) (S := fun U => U = 51) rfl
            clear hT
            clear hO
            refine E.WL.val (E.y_assign rfl) rfl rfl rfl ?_
            refine E.WL.done ?_
            refine E.KQ.then_n ?_
            refine E.W.seq ?_
            refine E.W.seq ?_
            refine E.W.region ?_
            refine E.WL.val (E.y_move rfl) rfl rfl rfl ?_
            refine E.WL.val (E.y_neq rfl rfl) rfl rfl rfl ?_
            refine E.WL.as 69 rfl (show _ = Value.bool false from congrArg Value.bool (by decide)) ?_
            refine E.WL.val (E.y_move rfl) rfl rfl rfl ?_
            refine E.WL.val (E.y_move rfl) rfl rfl rfl ?_
            refine E.WL.val (E.y_neq rfl rfl) rfl rfl rfl ?_
            refine E.WL.as 72 rfl (show _ = Value.bool false from by rw [hp0]; rfl) ?_
            refine E.WL.val (E.y_move rfl) rfl rfl rfl ?_
            refine E.WL.off rfl rfl rfl ?_
            refine E.WL.off rfl rfl rfl ?_
            refine E.WL.val (E.y_pick_f rfl rfl) rfl rfl rfl ?_
            refine E.WL.val (E.y_pick_f rfl rfl) rfl rfl rfl ?_
            refine E.WL.done ?_
            refine E.KQ.then_n ?_
            refine E.W.cond_f rfl ?_
            refine E.W.skip ?_
            refine E.KQ.then_n ?_
            refine E.W.seq ?_
            refine E.W.seq ?_
            refine E.W.region ?_
            refine E.WL.val (E.y_fld Tryd.underlying30 rfl Tryd.sizeOf9 rfl) rfl rfl rfl ?_
            refine E.WL.val (E.y_load rfl (E.At.ld1 Tryd.isAgg9 (hb.at0 0 rfl) 3 rfl)) rfl rfl rfl ?_
            refine E.WL.val (E.y_move rfl) rfl rfl rfl ?_
            refine E.WL.val (E.y_sneq rfl rfl) rfl rfl rfl ?_
            refine E.WL.as 81 rfl (show _ = Value.bool false from congrArg Value.bool (by rw [hxd2]; simp)) ?_
            refine E.WL.val (E.y_move rfl) rfl rfl rfl ?_
            refine E.WL.off rfl rfl rfl ?_
            refine E.WL.off rfl rfl rfl ?_
            refine E.WL.off rfl rfl rfl ?_
            refine E.WL.off rfl rfl rfl ?_
            refine E.WL.off rfl rfl rfl ?_
            refine E.WL.off rfl rfl rfl ?_
            refine E.WL.off rfl rfl rfl ?_
            refine E.WL.off rfl rfl rfl ?_
            refine E.WL.off rfl rfl rfl ?_
            refine E.WL.val (E.y_pick_f rfl rfl) rfl rfl rfl ?_
            refine E.WL.val (E.y_move rfl) rfl rfl rfl ?_
            refine E.WL.val (E.y_fld Tryd.underlying30 rfl Tryd.sizeOf9 rfl) rfl rfl rfl ?_
            refine E.WL.val (E.y_load rfl (E.At.ld1 Tryd.isAgg9 (hb.at0 0 rfl) 3 rfl)) rfl rfl rfl ?_
            refine E.WL.val (E.y_sneq rfl rfl) rfl rfl rfl ?_
            refine E.WL.val (E.y_move rfl) rfl rfl rfl ?_
            refine E.WL.split 97 rfl (fun h96 => ?_) (fun h96 => ?_)
            · skip
              have h96 : ¬ x2.data = noB := by intro e; rw [e] at h96; exact absurd h96 (by decide)
              have hnb : nameB x2.data = true := hnx.resolve_left h96
              refine E.WL.val (E.y_fld Tryd.underlying30 rfl Tryd.sizeOf9 rfl) rfl rfl rfl ?_
              refine E.WL.val (E.y_load rfl (E.At.ld1 Tryd.isAgg9 (hb.at0 0 rfl) 3 rfl)) rfl rfl rfl ?_
              refine E.WL.call (name_calls w40 x2.data) Tryd.call5 rfl rfl rfl ?_
              rintro _ w41 ⟨rfl, hX⟩
              replace hb := hb.ext hX
              replace hd1 := RDisk.keeps hd1 (Keeps.ext hX) (S := fun U => U = 51) rfl
              clear hX
              refine E.WL.as 100 rfl (show _ = Value.bool true from by rw [hnb]) ?_
              refine E.WL.val (E.y_not rfl) rfl rfl rfl ?_
              refine E.WL.val (E.y_pick_t rfl rfl) rfl rfl rfl ?_
              refine E.WL.val (E.y_pick_f rfl rfl) rfl rfl rfl ?_
              refine E.WL.done ?_
              refine E.KQ.then_n ?_
              refine E.W.cond_f rfl ?_
              refine E.W.skip ?_
              refine E.KQ.then_n ?_
              have hb0 := hb
              refine E.W.regionC (C := fun w' => At w' ⟨B12, 0, none⟩ [.slice A1 (DiskD.files p.1).length c1, .bool (DiskD.down p.1), .int .i64 (DiskD.fuse p.1)] ∧ At w' ⟨B14, 0, none⟩ [.int .u64 x2.index, .int .u64 x2.term, .slice A3' m3' c3', .string x2.data]) (E.heads 4 []) rfl ?_
              replace hb := hb.drew
              replace hd1 := RDisk.keeps hd1 (Keeps.ext (E.Ext.drew _)) (S := fun U => U = 51) rfl
              have hE : (fun w' => At w' ⟨B12, 0, none⟩ [.slice A1 (DiskD.files p.1).length c1, .bool (DiskD.down p.1), .int .i64 (DiskD.fuse p.1)] ∧ At w' ⟨B14, 0, none⟩ [.int .u64 x2.index, .int .u64 x2.term, .slice A3' m3' c3', .string x2.data]) (w41.drew) := ⟨hb.at0 1 rfl, hb.at0 0 rfl⟩
              refine E.DL.take 0 rfl (by kernel_rfl) (by kernel_rfl) (fun w' hw => E.y_load rfl (E.At.ldk Tryd.isAgg27 Tryd.sizeOf27 hw.1 rfl)) rfl rfl rfl (fun _ _ _ _ h => by obtain ⟨_, _, h, _⟩ := h; cases h) hE ?_
              refine E.DL.take 1 rfl (by kernel_rfl) (by kernel_rfl) (fun w' hw => E.y_load rfl (E.At.ldk Tryd.isAgg30 Tryd.sizeOf30 hw.2 rfl)) rfl rfl rfl (fun _ _ _ _ h => by obtain ⟨_, _, h, _⟩ := h; cases h) hE ?_
              refine E.DL.only 2 rfl (by kernel_rfl) (fun hsh => ?_)
              refine E.WL.storeW hb 5 rfl rfl rfl Tryd.sizeOf27 rfl rfl rfl (E.allOne rfl) rfl ?_
              have hT := hb.hasT 5 rfl
              clear hb; intro w42 hb hO
              replace hd1 := RDisk.keeps hd1 (Keeps.only hO hT (by decide)) (S := fun U => U = 51) rfl
              clear hT
              clear hO
              refine E.WL.done ?_
              replace hE : (fun w' => At w' ⟨B12, 0, none⟩ [.slice A1 (DiskD.files p.1).length c1, .bool (DiskD.down p.1), .int .i64 (DiskD.fuse p.1)] ∧ At w' ⟨B14, 0, none⟩ [.int .u64 x2.index, .int .u64 x2.term, .slice A3' m3' c3', .string x2.data]) (w42) := ⟨hb.at0 1 rfl, hb.at0 0 rfl⟩
              refine E.DL.next hsh (.inl hE) ?_
              clear hsh
              refine E.DL.only 3 rfl (by kernel_rfl) (fun hsh => ?_)
              refine E.WL.storeW hb 4 rfl rfl rfl Tryd.sizeOf30 rfl rfl rfl (E.allOne rfl) rfl ?_
              have hT := hb.hasT 4 rfl
              clear hb; intro w43 hb hO
              replace hd1 := RDisk.keeps hd1 (Keeps.only hO hT (by decide)) (S := fun U => U = 51) rfl
              clear hT
              clear hO
              refine E.WL.done ?_
              replace hE : (fun w' => At w' ⟨B12, 0, none⟩ [.slice A1 (DiskD.files p.1).length c1, .bool (DiskD.down p.1), .int .i64 (DiskD.fuse p.1)] ∧ At w' ⟨B14, 0, none⟩ [.int .u64 x2.index, .int .u64 x2.term, .slice A3' m3' c3', .string x2.data]) (w43) := ⟨hb.at0 1 rfl, hb.at0 0 rfl⟩
              refine E.DL.next hsh (.inl hE) ?_
              clear hsh
              refine E.DL.done (by kernel_rfl) ?_
              clear hE hb0
              refine E.KQ.block_n ?_
              refine E.KQ.then_n ?_
              refine E.W.region ?_
              refine E.WL.val (E.y_add rfl rfl (Go.IntWalk.i64_in _ (by omega))) rfl rfl rfl ?_
              refine E.WL.val (E.y_move rfl) rfl rfl rfl ?_
              refine E.WL.done ?_
              replace hb := hb.drop (List.Sublist.cons _ (List.Sublist.cons _ (List.Sublist.cons _ (List.Sublist.cons _ (List.Sublist.refl _)))))
              exact E.KQ.next (k + 1) (by exact .cons rfl (.cons rfl (.cons rfl (.cons rfl (.cons rfl (.cons rfl (.cons rfl (.nil)))))))) ⟨_, _, _, _, _, _, _, _, _, _, _, hb, hd1, hsh3, (by rw [hxd2]; exact Last.new h31), by omega, by omega⟩ (by show names.length - (k + 1) < names.length - k; omega)
            · skip
              refine E.WL.off rfl rfl rfl ?_
              refine E.WL.off rfl rfl rfl ?_
              refine E.WL.off rfl rfl rfl ?_
              refine E.WL.off rfl rfl rfl ?_
              refine E.WL.val (E.y_pick_f rfl rfl) rfl rfl rfl ?_
              refine E.WL.val (E.y_pick_f rfl rfl) rfl rfl rfl ?_
              refine E.WL.done ?_
              refine E.KQ.then_n ?_
              refine E.W.cond_f rfl ?_
              refine E.W.skip ?_
              refine E.KQ.then_n ?_
              have hb0 := hb
              refine E.W.regionC (C := fun w' => At w' ⟨B12, 0, none⟩ [.slice A1 (DiskD.files p.1).length c1, .bool (DiskD.down p.1), .int .i64 (DiskD.fuse p.1)] ∧ At w' ⟨B14, 0, none⟩ [.int .u64 x2.index, .int .u64 x2.term, .slice A3' m3' c3', .string x2.data]) (E.heads 4 []) rfl ?_
              replace hb := hb.drew
              replace hd1 := RDisk.keeps hd1 (Keeps.ext (E.Ext.drew _)) (S := fun U => U = 51) rfl
              have hE : (fun w' => At w' ⟨B12, 0, none⟩ [.slice A1 (DiskD.files p.1).length c1, .bool (DiskD.down p.1), .int .i64 (DiskD.fuse p.1)] ∧ At w' ⟨B14, 0, none⟩ [.int .u64 x2.index, .int .u64 x2.term, .slice A3' m3' c3', .string x2.data]) (w40.drew) := ⟨hb.at0 1 rfl, hb.at0 0 rfl⟩
              refine E.DL.take 0 rfl (by kernel_rfl) (by kernel_rfl) (fun w' hw => E.y_load rfl (E.At.ldk Tryd.isAgg27 Tryd.sizeOf27 hw.1 rfl)) rfl rfl rfl (fun _ _ _ _ h => by obtain ⟨_, _, h, _⟩ := h; cases h) hE ?_
              refine E.DL.take 1 rfl (by kernel_rfl) (by kernel_rfl) (fun w' hw => E.y_load rfl (E.At.ldk Tryd.isAgg30 Tryd.sizeOf30 hw.2 rfl)) rfl rfl rfl (fun _ _ _ _ h => by obtain ⟨_, _, h, _⟩ := h; cases h) hE ?_
              refine E.DL.only 2 rfl (by kernel_rfl) (fun hsh => ?_)
              refine E.WL.storeW hb 5 rfl rfl rfl Tryd.sizeOf27 rfl rfl rfl (E.allOne rfl) rfl ?_
              have hT := hb.hasT 5 rfl
              clear hb; intro w44 hb hO
              replace hd1 := RDisk.keeps hd1 (Keeps.only hO hT (by decide)) (S := fun U => U = 51) rfl
              clear hT
              clear hO
              refine E.WL.done ?_
              replace hE : (fun w' => At w' ⟨B12, 0, none⟩ [.slice A1 (DiskD.files p.1).length c1, .bool (DiskD.down p.1), .int .i64 (DiskD.fuse p.1)] ∧ At w' ⟨B14, 0, none⟩ [.int .u64 x2.index, .int .u64 x2.term, .slice A3' m3' c3', .string x2.data]) (w44) := ⟨hb.at0 1 rfl, hb.at0 0 rfl⟩
              refine E.DL.next hsh (.inl hE) ?_
              clear hsh
              refine E.DL.only 3 rfl (by kernel_rfl) (fun hsh => ?_)
              refine E.WL.storeW hb 4 rfl rfl rfl Tryd.sizeOf30 rfl rfl rfl (E.allOne rfl) rfl ?_
              have hT := hb.hasT 4 rfl
              clear hb; intro w45 hb hO
              replace hd1 := RDisk.keeps hd1 (Keeps.only hO hT (by decide)) (S := fun U => U = 51) rfl
              clear hT
              clear hO
              refine E.WL.done ?_
              replace hE : (fun w' => At w' ⟨B12, 0, none⟩ [.slice A1 (DiskD.files p.1).length c1, .bool (DiskD.down p.1), .int .i64 (DiskD.fuse p.1)] ∧ At w' ⟨B14, 0, none⟩ [.int .u64 x2.index, .int .u64 x2.term, .slice A3' m3' c3', .string x2.data]) (w45) := ⟨hb.at0 1 rfl, hb.at0 0 rfl⟩
              refine E.DL.next hsh (.inl hE) ?_
              clear hsh
              refine E.DL.done (by kernel_rfl) ?_
              clear hE hb0
              refine E.KQ.block_n ?_
              refine E.KQ.then_n ?_
              refine E.W.region ?_
              refine E.WL.val (E.y_add rfl rfl (Go.IntWalk.i64_in _ (by omega))) rfl rfl rfl ?_
              refine E.WL.val (E.y_move rfl) rfl rfl rfl ?_
              refine E.WL.done ?_
              replace hb := hb.drop (List.Sublist.cons _ (List.Sublist.cons _ (List.Sublist.cons _ (List.Sublist.cons _ (List.Sublist.refl _)))))
              exact E.KQ.next (k + 1) (by exact .cons rfl (.cons rfl (.cons rfl (.cons rfl (.cons rfl (.cons rfl (.cons rfl (.nil)))))))) ⟨_, _, _, _, _, _, _, _, _, _, _, hb, hd1, hsh3, (by rw [hxd2]; exact Last.new h31), by omega, by omega⟩ (by show names.length - (k + 1) < names.length - k; omega)
        · skip
          have hfb : -1 ≤ (-1 : Int) ∧ (-1 : Int) ≤ 9223372036854775807 := by decide
          refine E.W.skip ?_
          refine E.KQ.then_n ?_
          refine E.W.seq ?_
          refine E.W.region ?_
          refine E.WL.val (E.y_load rfl (E.At.ldk Tryd.isAgg27 Tryd.sizeOf27 (hb.at0 3 rfl) rfl)) rfl rfl rfl ?_
          refine E.WL.val (E.y_load rfl (E.At.ldk Tryd.isAgg30 Tryd.sizeOf30 (hb.at0 0 rfl) rfl)) rfl rfl rfl ?_
          have hsh2 : Sh ⟨d.files, d.down, (-1 : Int)⟩ o t := hsh.fused hfb
          obtain ⟨x, hlo, hxd, hxi⟩ := hlast.load (by omega) hsh2
          obtain ⟨hok, hput⟩ := put_steps hsh2 (data_size (k := k + 1) h31)
          have hsv := save_calls (RDisk.fused hd1 (-1 : Int)) (ints3 (hb.at0 1 rfl)) (k + 1) (by omega) (by omega) names[k] (by have := name_size h31; omega) hlo (by omega) hok
          generalize putP ⟨d.files, d.down, (-1 : Int)⟩ snapN (frameP (bytesP (k + 1) names[k])) = p at hsv hput
          refine E.WL.call (hsv) Tryd.call6 rfl rfl rfl ?_
          rintro _ w46 ⟨⟨cs1, rfl, hd1⟩, hX⟩
          obtain ⟨v1, rfl, hf1⟩ := id hd1
          obtain ⟨A1, c1, rfl, _, _, _⟩ := hf1.open_
          clear hf1
          replace hb := hb.ext hX
          clear hX
          refine E.WL.val (E.y_move rfl) rfl rfl rfl ?_
          refine E.WL.val (E.y_extract rfl rfl) rfl rfl rfl ?_
          refine E.WL.val (E.y_extract rfl rfl) rfl rfl rfl ?_
          refine E.WL.alloc hb Tryd.zeroValue27 rfl rfl rfl ?_
          clear hb; intro B12 w48 hb hX _
          replace hd1 := RDisk.keeps hd1 (Keeps.ext hX) (S := fun U => U = 51) rfl
          clear hX
          refine E.WL.storeW hb 0 rfl rfl rfl Tryd.sizeOf27 rfl rfl rfl (E.allOne rfl) rfl ?_
          have hT := hb.hasT 0 rfl
          clear hb; intro w49 hb hO
          replace hd1 := RDisk.keeps hd1 (Keeps.only hO hT (by decide)) (S := fun U => U = 51) rfl
          clear hT
          clear hO
          refine E.WL.val (E.y_assign rfl) rfl rfl rfl ?_
          refine E.WL.done ?_
          refine E.KQ.then_n ?_
          refine E.W.seq ?_
          refine E.W.seq ?_
          refine E.W.region ?_
          refine E.WL.val (E.y_move rfl) rfl rfl rfl ?_
          refine E.WL.val (E.y_eql rfl rfl) rfl rfl rfl ?_
          refine E.WL.done ?_
          refine E.KQ.then_n ?_
          refine E.W.condT 56 rfl (fun h56 => ?_) (fun h56 => ?_)
          · replace h56 : p.2 = 8 := of_decide_eq_true h56
            have hdead : Dead p.1 o := by
              rcases hput with ⟨e, _⟩ | ⟨_, e⟩
              · exact absurd (h56.symm.trans e) (by decide)
              · exact e
            obtain ⟨⟨hck, hszz⟩, t2, hsh3⟩ := crash_steps hdead keep
            refine E.W.region ?_
            refine E.WL.val (E.y_load rfl (E.At.ldk Tryd.isAgg27 Tryd.sizeOf27 (hb.at0 0 rfl) rfl)) rfl rfl rfl ?_
            refine E.WL.val (E.y_move rfl) rfl rfl rfl ?_
            refine E.WL.call (crash_calls hd1 (hk0.stays (RInt.goes .i64) (Stays.below hb.below (fun _ _ h => h))) hck hszz) Tryd.call7 rfl rfl rfl ?_
            rintro _ w50 ⟨⟨cs4, rfl, hd1⟩, hX⟩
            obtain ⟨v4, rfl, hf4⟩ := id hd1
            obtain ⟨A4, c4, rfl, _, _, _⟩ := hf4.open_
            clear hf4
            replace hb := hb.ext hX
            clear hX
            generalize crashP p.1 keep = e at *
            refine E.WL.val (E.y_move rfl) rfl rfl rfl ?_
            refine E.WL.val (E.y_extract rfl rfl) rfl rfl rfl ?_
            refine E.WL.val (E.y_extract rfl rfl) rfl rfl rfl ?_
            refine E.WL.storeW hb 0 rfl rfl rfl Tryd.sizeOf27 rfl rfl rfl (E.allOne rfl) rfl ?_
            have hT := hb.hasT 0 rfl
            clear hb; intro w51 hb hO
            replace hd1 := RDisk.keeps hd1 (Keeps.only hO hT (by decide)) (S := fun U => U = 51) rfl
            clear hT
            clear hO
            refine E.WL.done ?_
            refine E.KQ.then_n ?_
            refine E.W.seq ?_
            refine E.W.region ?_
            refine E.WL.val (E.y_load rfl (E.At.ldk Tryd.isAgg27 Tryd.sizeOf27 (hb.at0 0 rfl) rfl)) rfl rfl rfl ?_
            obtain ⟨x2, hlo2, hxd2, hxi2⟩ := hlast.load (by omega) hsh3
            have hnx : x2.data = noB ∨ nameB x2.data = true := by rw [hxd2]; exact hlast.named
            refine E.WL.call (load_calls hd1 hlo2) Tryd.call8 rfl rfl rfl ?_
            rintro _ w52 ⟨⟨A3', m3', c3', rfl⟩, hX⟩
            replace hb := hb.ext hX
            replace hd1 := RDisk.keeps hd1 (Keeps.ext hX) (S := fun U => U = 51) rfl
            clear hX
            refine E.WL.val (E.y_move rfl) rfl rfl rfl ?_
            refine E.WL.val (E.y_extract rfl rfl) rfl rfl rfl ?_
            refine E.WL.val (E.y_extract rfl rfl) rfl rfl rfl ?_
            refine E.WL.alloc hb Tryd.zeroValue30 rfl rfl rfl ?_
            clear hb; intro B14 w54 hb hX _
            replace hd1 := RDisk.keeps hd1 (Keeps.ext hX) (S := fun U => U = 51) rfl
            clear hX
            refine E.WL.storeW hb 0 rfl rfl rfl Tryd.sizeOf30 rfl rfl rfl (E.allOne rfl) rfl ?_
            have hT := hb.hasT 0 rfl
            clear hb; intro w55 hb hO
            replace hd1 := RDisk.keeps hd1 (Keeps.only hO hT (by decide)) (S := fun U => U = 51) rfl
            clear hT
            clear hO
            refine E.WL.val (E.y_assign rfl) rfl rfl rfl ?_
            refine E.WL.done ?_
            refine E.KQ.then_n ?_
            refine E.W.seq ?_
            refine E.W.seq ?_
            refine E.W.region ?_
            refine E.WL.val (E.y_move rfl) rfl rfl rfl ?_
            refine E.WL.val (E.y_neq rfl rfl) rfl rfl rfl ?_
            refine E.WL.as 69 rfl (show _ = Value.bool false from congrArg Value.bool (by decide)) ?_
            refine E.WL.val (E.y_move rfl) rfl rfl rfl ?_
            refine E.WL.val (E.y_move rfl) rfl rfl rfl ?_
            refine E.WL.val (E.y_neq rfl rfl) rfl rfl rfl ?_
            refine E.WL.as 72 rfl (show _ = Value.bool true from by rw [h56]; rfl) ?_
            refine E.WL.val (E.y_move rfl) rfl rfl rfl ?_
            refine E.WL.val (E.y_move rfl) rfl rfl rfl ?_
            refine E.WL.val (E.y_neq rfl rfl) rfl rfl rfl ?_
            refine E.WL.as 75 rfl (show _ = Value.bool false from by rw [h56]; rfl) ?_
            refine E.WL.val (E.y_pick_t rfl rfl) rfl rfl rfl ?_
            refine E.WL.val (E.y_pick_f rfl rfl) rfl rfl rfl ?_
            refine E.WL.done ?_
            refine E.KQ.then_n ?_
            refine E.W.cond_f rfl ?_
            refine E.W.skip ?_
            refine E.KQ.then_n ?_
            refine E.W.seq ?_
            refine E.W.seq ?_
            refine E.W.region ?_
            refine E.WL.val (E.y_fld Tryd.underlying30 rfl Tryd.sizeOf9 rfl) rfl rfl rfl ?_
            refine E.WL.val (E.y_load rfl (E.At.ld1 Tryd.isAgg9 (hb.at0 0 rfl) 3 rfl)) rfl rfl rfl ?_
            refine E.WL.val (E.y_move rfl) rfl rfl rfl ?_
            refine E.WL.val (E.y_sneq rfl rfl) rfl rfl rfl ?_
            refine E.WL.val (E.y_move rfl) rfl rfl rfl ?_
            refine E.WL.split 82 rfl (fun hg82 => ?_) (fun hg82 => ?_)
            · skip
              refine E.WL.val (E.y_move rfl) rfl rfl rfl ?_
              refine E.WL.val (E.y_eql rfl rfl) rfl rfl rfl ?_
              refine E.WL.as 84 rfl (show _ = Value.bool false from by rw [h56]; rfl) ?_
              refine E.WL.val (E.y_move rfl) rfl rfl rfl ?_
              refine E.WL.val (E.y_fld Tryd.underlying30 rfl Tryd.sizeOf9 rfl) rfl rfl rfl ?_
              refine E.WL.val (E.y_load rfl (E.At.ld1 Tryd.isAgg9 (hb.at0 0 rfl) 3 rfl)) rfl rfl rfl ?_
              refine E.WL.val (E.y_fld Tryd.underlying30 rfl Tryd.sizeOf9 rfl) rfl rfl rfl ?_
              refine E.WL.val (E.y_load rfl (E.At.ld1 Tryd.isAgg9 (hb.at0 4 rfl) 3 rfl)) rfl rfl rfl ?_
              refine E.WL.val (E.y_sneq rfl rfl) rfl rfl rfl ?_
              refine E.WL.as 90 rfl (show _ = Value.bool false from congrArg Value.bool (by rw [hxd2]; simp)) ?_
              refine E.WL.val (E.y_pick_f rfl rfl) rfl rfl rfl ?_
              refine E.WL.val (E.y_pick_t rfl rfl) rfl rfl rfl ?_
              refine E.WL.val (E.y_move rfl) rfl rfl rfl ?_
              refine E.WL.val (E.y_fld Tryd.underlying30 rfl Tryd.sizeOf9 rfl) rfl rfl rfl ?_
              refine E.WL.val (E.y_load rfl (E.At.ld1 Tryd.isAgg9 (hb.at0 0 rfl) 3 rfl)) rfl rfl rfl ?_
              refine E.WL.val (E.y_sneq rfl rfl) rfl rfl rfl ?_
              refine E.WL.val (E.y_move rfl) rfl rfl rfl ?_
              refine E.WL.split 97 rfl (fun h96 => ?_) (fun h96 => ?_)
              · skip
                have h96 : ¬ x2.data = noB := by intro e; rw [e] at h96; exact absurd h96 (by decide)
                have hnb : nameB x2.data = true := hnx.resolve_left h96
                refine E.WL.val (E.y_fld Tryd.underlying30 rfl Tryd.sizeOf9 rfl) rfl rfl rfl ?_
                refine E.WL.val (E.y_load rfl (E.At.ld1 Tryd.isAgg9 (hb.at0 0 rfl) 3 rfl)) rfl rfl rfl ?_
                refine E.WL.call (name_calls w55 x2.data) Tryd.call5 rfl rfl rfl ?_
                rintro _ w56 ⟨rfl, hX⟩
                replace hb := hb.ext hX
                replace hd1 := RDisk.keeps hd1 (Keeps.ext hX) (S := fun U => U = 51) rfl
                clear hX
                refine E.WL.as 100 rfl (show _ = Value.bool true from by rw [hnb]) ?_
                refine E.WL.val (E.y_not rfl) rfl rfl rfl ?_
                refine E.WL.val (E.y_pick_t rfl rfl) rfl rfl rfl ?_
                refine E.WL.val (E.y_pick_f rfl rfl) rfl rfl rfl ?_
                refine E.WL.done ?_
                refine E.KQ.then_n ?_
                refine E.W.cond_f rfl ?_
                refine E.W.skip ?_
                refine E.KQ.then_n ?_
                have hb0 := hb
                refine E.W.regionC (C := fun w' => At w' ⟨B12, 0, none⟩ [.slice A4 (DiskD.files e).length c4, .bool (DiskD.down e), .int .i64 (DiskD.fuse e)] ∧ At w' ⟨B14, 0, none⟩ [.int .u64 x2.index, .int .u64 x2.term, .slice A3' m3' c3', .string x2.data]) (E.heads 4 []) rfl ?_
                replace hb := hb.drew
                replace hd1 := RDisk.keeps hd1 (Keeps.ext (E.Ext.drew _)) (S := fun U => U = 51) rfl
                have hE : (fun w' => At w' ⟨B12, 0, none⟩ [.slice A4 (DiskD.files e).length c4, .bool (DiskD.down e), .int .i64 (DiskD.fuse e)] ∧ At w' ⟨B14, 0, none⟩ [.int .u64 x2.index, .int .u64 x2.term, .slice A3' m3' c3', .string x2.data]) (w56.drew) := ⟨hb.at0 1 rfl, hb.at0 0 rfl⟩
                refine E.DL.take 0 rfl (by kernel_rfl) (by kernel_rfl) (fun w' hw => E.y_load rfl (E.At.ldk Tryd.isAgg27 Tryd.sizeOf27 hw.1 rfl)) rfl rfl rfl (fun _ _ _ _ h => by obtain ⟨_, _, h, _⟩ := h; cases h) hE ?_
                refine E.DL.take 1 rfl (by kernel_rfl) (by kernel_rfl) (fun w' hw => E.y_load rfl (E.At.ldk Tryd.isAgg30 Tryd.sizeOf30 hw.2 rfl)) rfl rfl rfl (fun _ _ _ _ h => by obtain ⟨_, _, h, _⟩ := h; cases h) hE ?_
                refine E.DL.only 2 rfl (by kernel_rfl) (fun hsh => ?_)
                refine E.WL.storeW hb 5 rfl rfl rfl Tryd.sizeOf27 rfl rfl rfl (E.allOne rfl) rfl ?_
                have hT := hb.hasT 5 rfl
                clear hb; intro w57 hb hO
                replace hd1 := RDisk.keeps hd1 (Keeps.only hO hT (by decide)) (S := fun U => U = 51) rfl
                clear hT
                clear hO
                refine E.WL.done ?_
                replace hE : (fun w' => At w' ⟨B12, 0, none⟩ [.slice A4 (DiskD.files e).length c4, .bool (DiskD.down e), .int .i64 (DiskD.fuse e)] ∧ At w' ⟨B14, 0, none⟩ [.int .u64 x2.index, .int .u64 x2.term, .slice A3' m3' c3', .string x2.data]) (w57) := ⟨hb.at0 1 rfl, hb.at0 0 rfl⟩
                refine E.DL.next hsh (.inl hE) ?_
                clear hsh
                refine E.DL.only 3 rfl (by kernel_rfl) (fun hsh => ?_)
                refine E.WL.storeW hb 4 rfl rfl rfl Tryd.sizeOf30 rfl rfl rfl (E.allOne rfl) rfl ?_
                have hT := hb.hasT 4 rfl
                clear hb; intro w58 hb hO
                replace hd1 := RDisk.keeps hd1 (Keeps.only hO hT (by decide)) (S := fun U => U = 51) rfl
                clear hT
                clear hO
                refine E.WL.done ?_
                replace hE : (fun w' => At w' ⟨B12, 0, none⟩ [.slice A4 (DiskD.files e).length c4, .bool (DiskD.down e), .int .i64 (DiskD.fuse e)] ∧ At w' ⟨B14, 0, none⟩ [.int .u64 x2.index, .int .u64 x2.term, .slice A3' m3' c3', .string x2.data]) (w58) := ⟨hb.at0 1 rfl, hb.at0 0 rfl⟩
                refine E.DL.next hsh (.inl hE) ?_
                clear hsh
                refine E.DL.done (by kernel_rfl) ?_
                clear hE hb0
                refine E.KQ.block_n ?_
                refine E.KQ.then_n ?_
                refine E.W.region ?_
                refine E.WL.val (E.y_add rfl rfl (Go.IntWalk.i64_in _ (by omega))) rfl rfl rfl ?_
                refine E.WL.val (E.y_move rfl) rfl rfl rfl ?_
                refine E.WL.done ?_
                replace hb := hb.drop (List.Sublist.cons _ (List.Sublist.cons _ (List.Sublist.cons _ (List.Sublist.cons _ (List.Sublist.refl _)))))
                exact E.KQ.next (k + 1) (by exact .cons rfl (.cons rfl (.cons rfl (.cons rfl (.cons rfl (.cons rfl (.cons rfl (.nil)))))))) ⟨_, _, _, _, _, _, _, _, _, _, _, hb, hd1, hsh3, (by rw [hxd2]; exact hlast.mono (by omega)), by omega, by omega⟩ (by show names.length - (k + 1) < names.length - k; omega)
              · skip
                refine E.WL.off rfl rfl rfl ?_
                refine E.WL.off rfl rfl rfl ?_
                refine E.WL.off rfl rfl rfl ?_
                refine E.WL.off rfl rfl rfl ?_
                refine E.WL.val (E.y_pick_f rfl rfl) rfl rfl rfl ?_
                refine E.WL.val (E.y_pick_f rfl rfl) rfl rfl rfl ?_
                refine E.WL.done ?_
                refine E.KQ.then_n ?_
                refine E.W.cond_f rfl ?_
                refine E.W.skip ?_
                refine E.KQ.then_n ?_
                have hb0 := hb
                refine E.W.regionC (C := fun w' => At w' ⟨B12, 0, none⟩ [.slice A4 (DiskD.files e).length c4, .bool (DiskD.down e), .int .i64 (DiskD.fuse e)] ∧ At w' ⟨B14, 0, none⟩ [.int .u64 x2.index, .int .u64 x2.term, .slice A3' m3' c3', .string x2.data]) (E.heads 4 []) rfl ?_
                replace hb := hb.drew
                replace hd1 := RDisk.keeps hd1 (Keeps.ext (E.Ext.drew _)) (S := fun U => U = 51) rfl
                have hE : (fun w' => At w' ⟨B12, 0, none⟩ [.slice A4 (DiskD.files e).length c4, .bool (DiskD.down e), .int .i64 (DiskD.fuse e)] ∧ At w' ⟨B14, 0, none⟩ [.int .u64 x2.index, .int .u64 x2.term, .slice A3' m3' c3', .string x2.data]) (w55.drew) := ⟨hb.at0 1 rfl, hb.at0 0 rfl⟩
                refine E.DL.take 0 rfl (by kernel_rfl) (by kernel_rfl) (fun w' hw => E.y_load rfl (E.At.ldk Tryd.isAgg27 Tryd.sizeOf27 hw.1 rfl)) rfl rfl rfl (fun _ _ _ _ h => by obtain ⟨_, _, h, _⟩ := h; cases h) hE ?_
                refine E.DL.take 1 rfl (by kernel_rfl) (by kernel_rfl) (fun w' hw => E.y_load rfl (E.At.ldk Tryd.isAgg30 Tryd.sizeOf30 hw.2 rfl)) rfl rfl rfl (fun _ _ _ _ h => by obtain ⟨_, _, h, _⟩ := h; cases h) hE ?_
                refine E.DL.only 2 rfl (by kernel_rfl) (fun hsh => ?_)
                refine E.WL.storeW hb 5 rfl rfl rfl Tryd.sizeOf27 rfl rfl rfl (E.allOne rfl) rfl ?_
                have hT := hb.hasT 5 rfl
                clear hb; intro w59 hb hO
                replace hd1 := RDisk.keeps hd1 (Keeps.only hO hT (by decide)) (S := fun U => U = 51) rfl
                clear hT
                clear hO
                refine E.WL.done ?_
                replace hE : (fun w' => At w' ⟨B12, 0, none⟩ [.slice A4 (DiskD.files e).length c4, .bool (DiskD.down e), .int .i64 (DiskD.fuse e)] ∧ At w' ⟨B14, 0, none⟩ [.int .u64 x2.index, .int .u64 x2.term, .slice A3' m3' c3', .string x2.data]) (w59) := ⟨hb.at0 1 rfl, hb.at0 0 rfl⟩
                refine E.DL.next hsh (.inl hE) ?_
                clear hsh
                refine E.DL.only 3 rfl (by kernel_rfl) (fun hsh => ?_)
                refine E.WL.storeW hb 4 rfl rfl rfl Tryd.sizeOf30 rfl rfl rfl (E.allOne rfl) rfl ?_
                have hT := hb.hasT 4 rfl
                clear hb; intro w60 hb hO
                replace hd1 := RDisk.keeps hd1 (Keeps.only hO hT (by decide)) (S := fun U => U = 51) rfl
                clear hT
                clear hO
                refine E.WL.done ?_
                replace hE : (fun w' => At w' ⟨B12, 0, none⟩ [.slice A4 (DiskD.files e).length c4, .bool (DiskD.down e), .int .i64 (DiskD.fuse e)] ∧ At w' ⟨B14, 0, none⟩ [.int .u64 x2.index, .int .u64 x2.term, .slice A3' m3' c3', .string x2.data]) (w60) := ⟨hb.at0 1 rfl, hb.at0 0 rfl⟩
                refine E.DL.next hsh (.inl hE) ?_
                clear hsh
                refine E.DL.done (by kernel_rfl) ?_
                clear hE hb0
                refine E.KQ.block_n ?_
                refine E.KQ.then_n ?_
                refine E.W.region ?_
                refine E.WL.val (E.y_add rfl rfl (Go.IntWalk.i64_in _ (by omega))) rfl rfl rfl ?_
                refine E.WL.val (E.y_move rfl) rfl rfl rfl ?_
                refine E.WL.done ?_
                replace hb := hb.drop (List.Sublist.cons _ (List.Sublist.cons _ (List.Sublist.cons _ (List.Sublist.cons _ (List.Sublist.refl _)))))
                exact E.KQ.next (k + 1) (by exact .cons rfl (.cons rfl (.cons rfl (.cons rfl (.cons rfl (.cons rfl (.cons rfl (.nil)))))))) ⟨_, _, _, _, _, _, _, _, _, _, _, hb, hd1, hsh3, (by rw [hxd2]; exact hlast.mono (by omega)), by omega, by omega⟩ (by show names.length - (k + 1) < names.length - k; omega)
            · skip
              refine E.WL.off rfl rfl rfl ?_
              refine E.WL.off rfl rfl rfl ?_
              refine E.WL.off rfl rfl rfl ?_
              refine E.WL.off rfl rfl rfl ?_
              refine E.WL.off rfl rfl rfl ?_
              refine E.WL.off rfl rfl rfl ?_
              refine E.WL.off rfl rfl rfl ?_
              refine E.WL.off rfl rfl rfl ?_
              refine E.WL.off rfl rfl rfl ?_
              refine E.WL.val (E.y_pick_f rfl rfl) rfl rfl rfl ?_
              refine E.WL.val (E.y_move rfl) rfl rfl rfl ?_
              refine E.WL.val (E.y_fld Tryd.underlying30 rfl Tryd.sizeOf9 rfl) rfl rfl rfl ?_
              refine E.WL.val (E.y_load rfl (E.At.ld1 Tryd.isAgg9 (hb.at0 0 rfl) 3 rfl)) rfl rfl rfl ?_
              refine E.WL.val (E.y_sneq rfl rfl) rfl rfl rfl ?_
              refine E.WL.val (E.y_move rfl) rfl rfl rfl ?_
              refine E.WL.split 97 rfl (fun h96 => ?_) (fun h96 => ?_)
              · skip
                have h96 : ¬ x2.data = noB := by intro e; rw [e] at h96; exact absurd h96 (by decide)
                have hnb : nameB x2.data = true := hnx.resolve_left h96
                refine E.WL.val (E.y_fld Tryd.underlying30 rfl Tryd.sizeOf9 rfl) rfl rfl rfl ?_
                refine E.WL.val (E.y_load rfl (E.At.ld1 Tryd.isAgg9 (hb.at0 0 rfl) 3 rfl)) rfl rfl rfl ?_
                refine E.WL.call (name_calls w55 x2.data) Tryd.call5 rfl rfl rfl ?_
                rintro _ w61 ⟨rfl, hX⟩
                replace hb := hb.ext hX
                replace hd1 := RDisk.keeps hd1 (Keeps.ext hX) (S := fun U => U = 51) rfl
                clear hX
                refine E.WL.as 100 rfl (show _ = Value.bool true from by rw [hnb]) ?_
                refine E.WL.val (E.y_not rfl) rfl rfl rfl ?_
                refine E.WL.val (E.y_pick_t rfl rfl) rfl rfl rfl ?_
                refine E.WL.val (E.y_pick_f rfl rfl) rfl rfl rfl ?_
                refine E.WL.done ?_
                refine E.KQ.then_n ?_
                refine E.W.cond_f rfl ?_
                refine E.W.skip ?_
                refine E.KQ.then_n ?_
                have hb0 := hb
                refine E.W.regionC (C := fun w' => At w' ⟨B12, 0, none⟩ [.slice A4 (DiskD.files e).length c4, .bool (DiskD.down e), .int .i64 (DiskD.fuse e)] ∧ At w' ⟨B14, 0, none⟩ [.int .u64 x2.index, .int .u64 x2.term, .slice A3' m3' c3', .string x2.data]) (E.heads 4 []) rfl ?_
                replace hb := hb.drew
                replace hd1 := RDisk.keeps hd1 (Keeps.ext (E.Ext.drew _)) (S := fun U => U = 51) rfl
                have hE : (fun w' => At w' ⟨B12, 0, none⟩ [.slice A4 (DiskD.files e).length c4, .bool (DiskD.down e), .int .i64 (DiskD.fuse e)] ∧ At w' ⟨B14, 0, none⟩ [.int .u64 x2.index, .int .u64 x2.term, .slice A3' m3' c3', .string x2.data]) (w61.drew) := ⟨hb.at0 1 rfl, hb.at0 0 rfl⟩
                refine E.DL.take 0 rfl (by kernel_rfl) (by kernel_rfl) (fun w' hw => E.y_load rfl (E.At.ldk Tryd.isAgg27 Tryd.sizeOf27 hw.1 rfl)) rfl rfl rfl (fun _ _ _ _ h => by obtain ⟨_, _, h, _⟩ := h; cases h) hE ?_
                refine E.DL.take 1 rfl (by kernel_rfl) (by kernel_rfl) (fun w' hw => E.y_load rfl (E.At.ldk Tryd.isAgg30 Tryd.sizeOf30 hw.2 rfl)) rfl rfl rfl (fun _ _ _ _ h => by obtain ⟨_, _, h, _⟩ := h; cases h) hE ?_
                refine E.DL.only 2 rfl (by kernel_rfl) (fun hsh => ?_)
                refine E.WL.storeW hb 5 rfl rfl rfl Tryd.sizeOf27 rfl rfl rfl (E.allOne rfl) rfl ?_
                have hT := hb.hasT 5 rfl
                clear hb; intro w62 hb hO
                replace hd1 := RDisk.keeps hd1 (Keeps.only hO hT (by decide)) (S := fun U => U = 51) rfl
                clear hT
                clear hO
                refine E.WL.done ?_
                replace hE : (fun w' => At w' ⟨B12, 0, none⟩ [.slice A4 (DiskD.files e).length c4, .bool (DiskD.down e), .int .i64 (DiskD.fuse e)] ∧ At w' ⟨B14, 0, none⟩ [.int .u64 x2.index, .int .u64 x2.term, .slice A3' m3' c3', .string x2.data]) (w62) := ⟨hb.at0 1 rfl, hb.at0 0 rfl⟩
                refine E.DL.next hsh (.inl hE) ?_
                clear hsh
                refine E.DL.only 3 rfl (by kernel_rfl) (fun hsh => ?_)
                refine E.WL.storeW hb 4 rfl rfl rfl Tryd.sizeOf30 rfl rfl rfl (E.allOne rfl) rfl ?_
                have hT := hb.hasT 4 rfl
                clear hb; intro w63 hb hO
                replace hd1 := RDisk.keeps hd1 (Keeps.only hO hT (by decide)) (S := fun U => U = 51) rfl
                clear hT
                clear hO
                refine E.WL.done ?_
                replace hE : (fun w' => At w' ⟨B12, 0, none⟩ [.slice A4 (DiskD.files e).length c4, .bool (DiskD.down e), .int .i64 (DiskD.fuse e)] ∧ At w' ⟨B14, 0, none⟩ [.int .u64 x2.index, .int .u64 x2.term, .slice A3' m3' c3', .string x2.data]) (w63) := ⟨hb.at0 1 rfl, hb.at0 0 rfl⟩
                refine E.DL.next hsh (.inl hE) ?_
                clear hsh
                refine E.DL.done (by kernel_rfl) ?_
                clear hE hb0
                refine E.KQ.block_n ?_
                refine E.KQ.then_n ?_
                refine E.W.region ?_
                refine E.WL.val (E.y_add rfl rfl (Go.IntWalk.i64_in _ (by omega))) rfl rfl rfl ?_
                refine E.WL.val (E.y_move rfl) rfl rfl rfl ?_
                refine E.WL.done ?_
                replace hb := hb.drop (List.Sublist.cons _ (List.Sublist.cons _ (List.Sublist.cons _ (List.Sublist.cons _ (List.Sublist.refl _)))))
                exact E.KQ.next (k + 1) (by exact .cons rfl (.cons rfl (.cons rfl (.cons rfl (.cons rfl (.cons rfl (.cons rfl (.nil)))))))) ⟨_, _, _, _, _, _, _, _, _, _, _, hb, hd1, hsh3, (by rw [hxd2]; exact hlast.mono (by omega)), by omega, by omega⟩ (by show names.length - (k + 1) < names.length - k; omega)
              · skip
                refine E.WL.off rfl rfl rfl ?_
                refine E.WL.off rfl rfl rfl ?_
                refine E.WL.off rfl rfl rfl ?_
                refine E.WL.off rfl rfl rfl ?_
                refine E.WL.val (E.y_pick_f rfl rfl) rfl rfl rfl ?_
                refine E.WL.val (E.y_pick_f rfl rfl) rfl rfl rfl ?_
                refine E.WL.done ?_
                refine E.KQ.then_n ?_
                refine E.W.cond_f rfl ?_
                refine E.W.skip ?_
                refine E.KQ.then_n ?_
                have hb0 := hb
                refine E.W.regionC (C := fun w' => At w' ⟨B12, 0, none⟩ [.slice A4 (DiskD.files e).length c4, .bool (DiskD.down e), .int .i64 (DiskD.fuse e)] ∧ At w' ⟨B14, 0, none⟩ [.int .u64 x2.index, .int .u64 x2.term, .slice A3' m3' c3', .string x2.data]) (E.heads 4 []) rfl ?_
                replace hb := hb.drew
                replace hd1 := RDisk.keeps hd1 (Keeps.ext (E.Ext.drew _)) (S := fun U => U = 51) rfl
                have hE : (fun w' => At w' ⟨B12, 0, none⟩ [.slice A4 (DiskD.files e).length c4, .bool (DiskD.down e), .int .i64 (DiskD.fuse e)] ∧ At w' ⟨B14, 0, none⟩ [.int .u64 x2.index, .int .u64 x2.term, .slice A3' m3' c3', .string x2.data]) (w55.drew) := ⟨hb.at0 1 rfl, hb.at0 0 rfl⟩
                refine E.DL.take 0 rfl (by kernel_rfl) (by kernel_rfl) (fun w' hw => E.y_load rfl (E.At.ldk Tryd.isAgg27 Tryd.sizeOf27 hw.1 rfl)) rfl rfl rfl (fun _ _ _ _ h => by obtain ⟨_, _, h, _⟩ := h; cases h) hE ?_
                refine E.DL.take 1 rfl (by kernel_rfl) (by kernel_rfl) (fun w' hw => E.y_load rfl (E.At.ldk Tryd.isAgg30 Tryd.sizeOf30 hw.2 rfl)) rfl rfl rfl (fun _ _ _ _ h => by obtain ⟨_, _, h, _⟩ := h; cases h) hE ?_
                refine E.DL.only 2 rfl (by kernel_rfl) (fun hsh => ?_)
                refine E.WL.storeW hb 5 rfl rfl rfl Tryd.sizeOf27 rfl rfl rfl (E.allOne rfl) rfl ?_
                have hT := hb.hasT 5 rfl
                clear hb; intro w64 hb hO
                replace hd1 := RDisk.keeps hd1 (Keeps.only hO hT (by decide)) (S := fun U => U = 51) rfl
                clear hT
                clear hO
                refine E.WL.done ?_
                replace hE : (fun w' => At w' ⟨B12, 0, none⟩ [.slice A4 (DiskD.files e).length c4, .bool (DiskD.down e), .int .i64 (DiskD.fuse e)] ∧ At w' ⟨B14, 0, none⟩ [.int .u64 x2.index, .int .u64 x2.term, .slice A3' m3' c3', .string x2.data]) (w64) := ⟨hb.at0 1 rfl, hb.at0 0 rfl⟩
                refine E.DL.next hsh (.inl hE) ?_
                clear hsh
                refine E.DL.only 3 rfl (by kernel_rfl) (fun hsh => ?_)
                refine E.WL.storeW hb 4 rfl rfl rfl Tryd.sizeOf30 rfl rfl rfl (E.allOne rfl) rfl ?_
                have hT := hb.hasT 4 rfl
                clear hb; intro w65 hb hO
                replace hd1 := RDisk.keeps hd1 (Keeps.only hO hT (by decide)) (S := fun U => U = 51) rfl
                clear hT
                clear hO
                refine E.WL.done ?_
                replace hE : (fun w' => At w' ⟨B12, 0, none⟩ [.slice A4 (DiskD.files e).length c4, .bool (DiskD.down e), .int .i64 (DiskD.fuse e)] ∧ At w' ⟨B14, 0, none⟩ [.int .u64 x2.index, .int .u64 x2.term, .slice A3' m3' c3', .string x2.data]) (w65) := ⟨hb.at0 1 rfl, hb.at0 0 rfl⟩
                refine E.DL.next hsh (.inl hE) ?_
                clear hsh
                refine E.DL.done (by kernel_rfl) ?_
                clear hE hb0
                refine E.KQ.block_n ?_
                refine E.KQ.then_n ?_
                refine E.W.region ?_
                refine E.WL.val (E.y_add rfl rfl (Go.IntWalk.i64_in _ (by omega))) rfl rfl rfl ?_
                refine E.WL.val (E.y_move rfl) rfl rfl rfl ?_
                refine E.WL.done ?_
                replace hb := hb.drop (List.Sublist.cons _ (List.Sublist.cons _ (List.Sublist.cons _ (List.Sublist.cons _ (List.Sublist.refl _)))))
                exact E.KQ.next (k + 1) (by exact .cons rfl (.cons rfl (.cons rfl (.cons rfl (.cons rfl (.cons rfl (.cons rfl (.nil)))))))) ⟨_, _, _, _, _, _, _, _, _, _, _, hb, hd1, hsh3, (by rw [hxd2]; exact hlast.mono (by omega)), by omega, by omega⟩ (by show names.length - (k + 1) < names.length - k; omega)
          · replace h56 : ¬ p.2 = 8 := of_decide_eq_false h56
            obtain ⟨hp0, hsh3⟩ : p.2 = 0 ∧ Sh p.1 (some (frameP (bytesP (k + 1) names[k]))) none := by
              rcases hput with e | ⟨e, _⟩
              · exact e
              · exact absurd e h56
            refine E.W.skip ?_
            refine E.KQ.then_n ?_
            refine E.W.seq ?_
            refine E.W.region ?_
            refine E.WL.val (E.y_load rfl (E.At.ldk Tryd.isAgg27 Tryd.sizeOf27 (hb.at0 0 rfl) rfl)) rfl rfl rfl ?_
            obtain ⟨x2, hlo2, hxd2, hxi2⟩ := (Last.new (k := k) h31).load (by omega) hsh3
            have hnx : x2.data = noB ∨ nameB x2.data = true := by rw [hxd2]; exact (.inr h31)
            refine E.WL.call (load_calls hd1 hlo2) Tryd.call8 rfl rfl rfl ?_
            rintro _ w66 ⟨⟨A3', m3', c3', rfl⟩, hX⟩
            replace hb := hb.ext hX
            replace hd1 := RDisk.keeps hd1 (Keeps.ext hX) (S := fun U => U = 51) rfl
            clear hX
            refine E.WL.val (E.y_move rfl) rfl rfl rfl ?_
            refine E.WL.val (E.y_extract rfl rfl) rfl rfl rfl ?_
            refine E.WL.val (E.y_extract rfl rfl) rfl rfl rfl ?_
            refine E.WL.alloc hb Tryd.zeroValue30 rfl rfl rfl ?_
            clear hb; intro B14 w68 hb hX _
            replace hd1 := RDisk.keeps hd1 (Keeps.ext hX) (S := fun U => U = 51) rfl
            clear hX
            refine E.WL.storeW hb 0 rfl rfl rfl Tryd.sizeOf30 rfl rfl rfl (E.allOne rfl) rfl ?_
            have hT := hb.hasT 0 rfl
            clear hb; intro w69 hb hO
            replace hd1 := RDisk.keeps hd1 (Keeps.only hO hT (by decide)) (S := fun U => U = 51) rfl
            clear hT
            clear hO
            refine E.WL.val (E.y_assign rfl) rfl rfl rfl ?_
            refine E.WL.done ?_
            refine E.KQ.then_n ?_
            refine E.W.seq ?_
            refine E.W.seq ?_
            refine E.W.region ?_
            refine E.WL.val (E.y_move rfl) rfl rfl rfl ?_
            refine E.WL.val (E.y_neq rfl rfl) rfl rfl rfl ?_
            refine E.WL.as 69 rfl (show _ = Value.bool false from congrArg Value.bool (by decide)) ?_
            refine E.WL.val (E.y_move rfl) rfl rfl rfl ?_
            refine E.WL.val (E.y_move rfl) rfl rfl rfl ?_
            refine E.WL.val (E.y_neq rfl rfl) rfl rfl rfl ?_
            refine E.WL.as 72 rfl (show _ = Value.bool false from by rw [hp0]; rfl) ?_
            refine E.WL.val (E.y_move rfl) rfl rfl rfl ?_
            refine E.WL.off rfl rfl rfl ?_
            refine E.WL.off rfl rfl rfl ?_
            refine E.WL.val (E.y_pick_f rfl rfl) rfl rfl rfl ?_
            refine E.WL.val (E.y_pick_f rfl rfl) rfl rfl rfl ?_
            refine E.WL.done ?_
            refine E.KQ.then_n ?_
            refine E.W.cond_f rfl ?_
            refine E.W.skip ?_
            refine E.KQ.then_n ?_
            refine E.W.seq ?_
            refine E.W.seq ?_
            refine E.W.region ?_
            refine E.WL.val (E.y_fld Tryd.underlying30 rfl Tryd.sizeOf9 rfl) rfl rfl rfl ?_
            refine E.WL.val (E.y_load rfl (E.At.ld1 Tryd.isAgg9 (hb.at0 0 rfl) 3 rfl)) rfl rfl rfl ?_
            refine E.WL.val (E.y_move rfl) rfl rfl rfl ?_
            refine E.WL.val (E.y_sneq rfl rfl) rfl rfl rfl ?_
            refine E.WL.as 81 rfl (show _ = Value.bool false from congrArg Value.bool (by rw [hxd2]; simp)) ?_
            refine E.WL.val (E.y_move rfl) rfl rfl rfl ?_
            refine E.WL.off rfl rfl rfl ?_
            refine E.WL.off rfl rfl rfl ?_
            refine E.WL.off rfl rfl rfl ?_
            refine E.WL.off rfl rfl rfl ?_
            refine E.WL.off rfl rfl rfl ?_
            refine E.WL.off rfl rfl rfl ?_
            refine E.WL.off rfl rfl rfl ?_
            refine E.WL.off rfl rfl rfl ?_
            refine E.WL.off rfl rfl rfl ?_
            refine E.WL.val (E.y_pick_f rfl rfl) rfl rfl rfl ?_
            refine E.WL.val (E.y_move rfl) rfl rfl rfl ?_
            refine E.WL.val (E.y_fld Tryd.underlying30 rfl Tryd.sizeOf9 rfl) rfl rfl rfl ?_
            refine E.WL.val (E.y_load rfl (E.At.ld1 Tryd.isAgg9 (hb.at0 0 rfl) 3 rfl)) rfl rfl rfl ?_
            refine E.WL.val (E.y_sneq rfl rfl) rfl rfl rfl ?_
            refine E.WL.val (E.y_move rfl) rfl rfl rfl ?_
            refine E.WL.split 97 rfl (fun h96 => ?_) (fun h96 => ?_)
            · skip
              have h96 : ¬ x2.data = noB := by intro e; rw [e] at h96; exact absurd h96 (by decide)
              have hnb : nameB x2.data = true := hnx.resolve_left h96
              refine E.WL.val (E.y_fld Tryd.underlying30 rfl Tryd.sizeOf9 rfl) rfl rfl rfl ?_
              refine E.WL.val (E.y_load rfl (E.At.ld1 Tryd.isAgg9 (hb.at0 0 rfl) 3 rfl)) rfl rfl rfl ?_
              refine E.WL.call (name_calls w69 x2.data) Tryd.call5 rfl rfl rfl ?_
              rintro _ w70 ⟨rfl, hX⟩
              replace hb := hb.ext hX
              replace hd1 := RDisk.keeps hd1 (Keeps.ext hX) (S := fun U => U = 51) rfl
              clear hX
              refine E.WL.as 100 rfl (show _ = Value.bool true from by rw [hnb]) ?_
              refine E.WL.val (E.y_not rfl) rfl rfl rfl ?_
              refine E.WL.val (E.y_pick_t rfl rfl) rfl rfl rfl ?_
              refine E.WL.val (E.y_pick_f rfl rfl) rfl rfl rfl ?_
              refine E.WL.done ?_
              refine E.KQ.then_n ?_
              refine E.W.cond_f rfl ?_
              refine E.W.skip ?_
              refine E.KQ.then_n ?_
              have hb0 := hb
              refine E.W.regionC (C := fun w' => At w' ⟨B12, 0, none⟩ [.slice A1 (DiskD.files p.1).length c1, .bool (DiskD.down p.1), .int .i64 (DiskD.fuse p.1)] ∧ At w' ⟨B14, 0, none⟩ [.int .u64 x2.index, .int .u64 x2.term, .slice A3' m3' c3', .string x2.data]) (E.heads 4 []) rfl ?_
              replace hb := hb.drew
              replace hd1 := RDisk.keeps hd1 (Keeps.ext (E.Ext.drew _)) (S := fun U => U = 51) rfl
              have hE : (fun w' => At w' ⟨B12, 0, none⟩ [.slice A1 (DiskD.files p.1).length c1, .bool (DiskD.down p.1), .int .i64 (DiskD.fuse p.1)] ∧ At w' ⟨B14, 0, none⟩ [.int .u64 x2.index, .int .u64 x2.term, .slice A3' m3' c3', .string x2.data]) (w70.drew) := ⟨hb.at0 1 rfl, hb.at0 0 rfl⟩
              refine E.DL.take 0 rfl (by kernel_rfl) (by kernel_rfl) (fun w' hw => E.y_load rfl (E.At.ldk Tryd.isAgg27 Tryd.sizeOf27 hw.1 rfl)) rfl rfl rfl (fun _ _ _ _ h => by obtain ⟨_, _, h, _⟩ := h; cases h) hE ?_
              refine E.DL.take 1 rfl (by kernel_rfl) (by kernel_rfl) (fun w' hw => E.y_load rfl (E.At.ldk Tryd.isAgg30 Tryd.sizeOf30 hw.2 rfl)) rfl rfl rfl (fun _ _ _ _ h => by obtain ⟨_, _, h, _⟩ := h; cases h) hE ?_
              refine E.DL.only 2 rfl (by kernel_rfl) (fun hsh => ?_)
              refine E.WL.storeW hb 5 rfl rfl rfl Tryd.sizeOf27 rfl rfl rfl (E.allOne rfl) rfl ?_
              have hT := hb.hasT 5 rfl
              clear hb; intro w71 hb hO
              replace hd1 := RDisk.keeps hd1 (Keeps.only hO hT (by decide)) (S := fun U => U = 51) rfl
              clear hT
              clear hO
              refine E.WL.done ?_
              replace hE : (fun w' => At w' ⟨B12, 0, none⟩ [.slice A1 (DiskD.files p.1).length c1, .bool (DiskD.down p.1), .int .i64 (DiskD.fuse p.1)] ∧ At w' ⟨B14, 0, none⟩ [.int .u64 x2.index, .int .u64 x2.term, .slice A3' m3' c3', .string x2.data]) (w71) := ⟨hb.at0 1 rfl, hb.at0 0 rfl⟩
              refine E.DL.next hsh (.inl hE) ?_
              clear hsh
              refine E.DL.only 3 rfl (by kernel_rfl) (fun hsh => ?_)
              refine E.WL.storeW hb 4 rfl rfl rfl Tryd.sizeOf30 rfl rfl rfl (E.allOne rfl) rfl ?_
              have hT := hb.hasT 4 rfl
              clear hb; intro w72 hb hO
              replace hd1 := RDisk.keeps hd1 (Keeps.only hO hT (by decide)) (S := fun U => U = 51) rfl
              clear hT
              clear hO
              refine E.WL.done ?_
              replace hE : (fun w' => At w' ⟨B12, 0, none⟩ [.slice A1 (DiskD.files p.1).length c1, .bool (DiskD.down p.1), .int .i64 (DiskD.fuse p.1)] ∧ At w' ⟨B14, 0, none⟩ [.int .u64 x2.index, .int .u64 x2.term, .slice A3' m3' c3', .string x2.data]) (w72) := ⟨hb.at0 1 rfl, hb.at0 0 rfl⟩
              refine E.DL.next hsh (.inl hE) ?_
              clear hsh
              refine E.DL.done (by kernel_rfl) ?_
              clear hE hb0
              refine E.KQ.block_n ?_
              refine E.KQ.then_n ?_
              refine E.W.region ?_
              refine E.WL.val (E.y_add rfl rfl (Go.IntWalk.i64_in _ (by omega))) rfl rfl rfl ?_
              refine E.WL.val (E.y_move rfl) rfl rfl rfl ?_
              refine E.WL.done ?_
              replace hb := hb.drop (List.Sublist.cons _ (List.Sublist.cons _ (List.Sublist.cons _ (List.Sublist.cons _ (List.Sublist.refl _)))))
              exact E.KQ.next (k + 1) (by exact .cons rfl (.cons rfl (.cons rfl (.cons rfl (.cons rfl (.cons rfl (.cons rfl (.nil)))))))) ⟨_, _, _, _, _, _, _, _, _, _, _, hb, hd1, hsh3, (by rw [hxd2]; exact Last.new h31), by omega, by omega⟩ (by show names.length - (k + 1) < names.length - k; omega)
            · skip
              refine E.WL.off rfl rfl rfl ?_
              refine E.WL.off rfl rfl rfl ?_
              refine E.WL.off rfl rfl rfl ?_
              refine E.WL.off rfl rfl rfl ?_
              refine E.WL.val (E.y_pick_f rfl rfl) rfl rfl rfl ?_
              refine E.WL.val (E.y_pick_f rfl rfl) rfl rfl rfl ?_
              refine E.WL.done ?_
              refine E.KQ.then_n ?_
              refine E.W.cond_f rfl ?_
              refine E.W.skip ?_
              refine E.KQ.then_n ?_
              have hb0 := hb
              refine E.W.regionC (C := fun w' => At w' ⟨B12, 0, none⟩ [.slice A1 (DiskD.files p.1).length c1, .bool (DiskD.down p.1), .int .i64 (DiskD.fuse p.1)] ∧ At w' ⟨B14, 0, none⟩ [.int .u64 x2.index, .int .u64 x2.term, .slice A3' m3' c3', .string x2.data]) (E.heads 4 []) rfl ?_
              replace hb := hb.drew
              replace hd1 := RDisk.keeps hd1 (Keeps.ext (E.Ext.drew _)) (S := fun U => U = 51) rfl
              have hE : (fun w' => At w' ⟨B12, 0, none⟩ [.slice A1 (DiskD.files p.1).length c1, .bool (DiskD.down p.1), .int .i64 (DiskD.fuse p.1)] ∧ At w' ⟨B14, 0, none⟩ [.int .u64 x2.index, .int .u64 x2.term, .slice A3' m3' c3', .string x2.data]) (w69.drew) := ⟨hb.at0 1 rfl, hb.at0 0 rfl⟩
              refine E.DL.take 0 rfl (by kernel_rfl) (by kernel_rfl) (fun w' hw => E.y_load rfl (E.At.ldk Tryd.isAgg27 Tryd.sizeOf27 hw.1 rfl)) rfl rfl rfl (fun _ _ _ _ h => by obtain ⟨_, _, h, _⟩ := h; cases h) hE ?_
              refine E.DL.take 1 rfl (by kernel_rfl) (by kernel_rfl) (fun w' hw => E.y_load rfl (E.At.ldk Tryd.isAgg30 Tryd.sizeOf30 hw.2 rfl)) rfl rfl rfl (fun _ _ _ _ h => by obtain ⟨_, _, h, _⟩ := h; cases h) hE ?_
              refine E.DL.only 2 rfl (by kernel_rfl) (fun hsh => ?_)
              refine E.WL.storeW hb 5 rfl rfl rfl Tryd.sizeOf27 rfl rfl rfl (E.allOne rfl) rfl ?_
              have hT := hb.hasT 5 rfl
              clear hb; intro w73 hb hO
              replace hd1 := RDisk.keeps hd1 (Keeps.only hO hT (by decide)) (S := fun U => U = 51) rfl
              clear hT
              clear hO
              refine E.WL.done ?_
              replace hE : (fun w' => At w' ⟨B12, 0, none⟩ [.slice A1 (DiskD.files p.1).length c1, .bool (DiskD.down p.1), .int .i64 (DiskD.fuse p.1)] ∧ At w' ⟨B14, 0, none⟩ [.int .u64 x2.index, .int .u64 x2.term, .slice A3' m3' c3', .string x2.data]) (w73) := ⟨hb.at0 1 rfl, hb.at0 0 rfl⟩
              refine E.DL.next hsh (.inl hE) ?_
              clear hsh
              refine E.DL.only 3 rfl (by kernel_rfl) (fun hsh => ?_)
              refine E.WL.storeW hb 4 rfl rfl rfl Tryd.sizeOf30 rfl rfl rfl (E.allOne rfl) rfl ?_
              have hT := hb.hasT 4 rfl
              clear hb; intro w74 hb hO
              replace hd1 := RDisk.keeps hd1 (Keeps.only hO hT (by decide)) (S := fun U => U = 51) rfl
              clear hT
              clear hO
              refine E.WL.done ?_
              replace hE : (fun w' => At w' ⟨B12, 0, none⟩ [.slice A1 (DiskD.files p.1).length c1, .bool (DiskD.down p.1), .int .i64 (DiskD.fuse p.1)] ∧ At w' ⟨B14, 0, none⟩ [.int .u64 x2.index, .int .u64 x2.term, .slice A3' m3' c3', .string x2.data]) (w74) := ⟨hb.at0 1 rfl, hb.at0 0 rfl⟩
              refine E.DL.next hsh (.inl hE) ?_
              clear hsh
              refine E.DL.done (by kernel_rfl) ?_
              clear hE hb0
              refine E.KQ.block_n ?_
              refine E.KQ.then_n ?_
              refine E.W.region ?_
              refine E.WL.val (E.y_add rfl rfl (Go.IntWalk.i64_in _ (by omega))) rfl rfl rfl ?_
              refine E.WL.val (E.y_move rfl) rfl rfl rfl ?_
              refine E.WL.done ?_
              replace hb := hb.drop (List.Sublist.cons _ (List.Sublist.cons _ (List.Sublist.cons _ (List.Sublist.cons _ (List.Sublist.refl _)))))
              exact E.KQ.next (k + 1) (by exact .cons rfl (.cons rfl (.cons rfl (.cons rfl (.cons rfl (.cons rfl (.cons rfl (.nil)))))))) ⟨_, _, _, _, _, _, _, _, _, _, _, hb, hd1, hsh3, (by rw [hxd2]; exact Last.new h31), by omega, by omega⟩ (by show names.length - (k + 1) < names.length - k; omega)
  · skip
    refine E.W.exit ?_
    refine E.KQ.then_e ?_
    refine E.KQ.loop_e ?_
    refine E.KQ.block_e ?_
    refine E.KQ.then_n ?_
    refine E.W.seq ?_
    refine E.W.region ?_
    refine E.WL.val (E.y_assign rfl) rfl rfl rfl ?_
    refine E.WL.done ?_
    refine E.KQ.then_n ?_
    refine E.W.ret ?_
    refine E.KQ.ret1 Tryd.results3 rfl ?_
    exact ⟨_, rfl, rfl, hb.below⟩
end Go.Proofs.YtmnnbnajnfdncaaDoor
