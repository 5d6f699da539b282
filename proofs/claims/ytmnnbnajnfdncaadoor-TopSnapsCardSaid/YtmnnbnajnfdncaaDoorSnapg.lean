/- Walks: what was written as bytes is taken from them. -/
import Derived.Test.YtmnnbnajnfdncaaDoorQ2
set_option linter.unusedVariables false
set_option linter.unusedSimpArgs false
namespace Go.Proofs.YtmnnbnajnfdncaaDoor
open Go.RowKit E
set_option maxHeartbeats 400000 in
theorem takeNumber_calls (w : World) (n : Nat) (hn : n < 256) (r : ByteArray) (hr : r.size ≤ 100000) :
    Calls Tryd.prog 69 #[(.string (numP n ++ r))] w (Ret fun u w' => u = .tuple #[.int .u64 (n : Nat), .string r, .int .i64 0] ∧ Ext w w') := by
  have hkc := kN_cases n
  have hts : (numT n ++ r).size = kN n + r.size := by rw [ByteArray.size_append, numT_size]
  have hss : (numP n ++ r).size = 1 + (numT n ++ r).size := by rw [numP_rest, ByteArray.size_append]; rfl
  have hb := E.Bx.start w (base := w.heap.size) (Nat.le_refl _)
  refine E.enter Tryd.func69 rfl Tryd.ntmps69 [(.string (numP n ++ r))] rfl ?_
  refine E.W.seq ?_
  refine E.W.region ?_
  refine E.WL.val (E.y_assign rfl) rfl rfl rfl ?_
  refine E.WL.val (E.y_assign rfl) rfl rfl rfl ?_
  refine E.WL.val (E.y_assign rfl) rfl rfl rfl ?_
  refine E.WL.done ?_
  refine E.KQ.then_n ?_
  refine E.W.seq ?_
  refine E.W.seq ?_
  refine E.W.region ?_
  refine E.WL.val (E.y_move rfl) rfl rfl rfl ?_
  refine E.WL.val (E.y_seql rfl rfl) rfl rfl rfl ?_
  refine E.WL.done ?_
  refine E.KQ.then_n ?_
  refine E.W.condT 7 rfl (fun hc7 => ?_) (fun hc7 => ?_)
  · replace hc7 := of_decide_eq_true hc7
    exact absurd hc7 (numP_ne n r)
  · replace hc7 := of_decide_eq_false hc7
    refine E.W.skip ?_
    refine E.KQ.then_n ?_
    refine E.W.seq ?_
    refine E.W.region ?_
    refine E.WL.val (E.y_move rfl) rfl rfl rfl ?_
    refine E.WL.val (E.y_idxs Tryd.underlying9 rfl rfl (by decide) (numP_pos n r) (show _ = ((kN n : Nat) : Int) from numP_head n r _)) rfl rfl rfl ?_
    refine E.WL.val (E.y_conv (by rw [Tryd.underlying5]; rfl) Tryd.underlying3 rfl (Go.IntWalk.i64_in _ (by omega))) rfl rfl rfl ?_
    refine E.WL.val (E.y_assign rfl) rfl rfl rfl ?_
    refine E.WL.done ?_
    refine E.KQ.then_n ?_
    refine E.W.seq ?_
    refine E.W.seq ?_
    refine E.W.region ?_
    refine E.WL.val (E.y_move rfl) rfl rfl rfl ?_
    refine E.WL.val (E.y_str_l (lo := 1) Tryd.underlying9 rfl rfl (by omega)) rfl rfl rfl ?_
    refine E.WL.as 12 rfl (show _ = Value.string (numT n ++ r) from congrArg Value.string (numP_tail n r)) ?_
    refine E.WL.val (E.y_assign rfl) rfl rfl rfl ?_
    refine E.WL.done ?_
    refine E.KQ.then_n ?_
    refine E.W.block ?_
    refine E.W.seq ?_
    refine E.W.region ?_
    refine E.WL.val (E.y_move rfl) rfl rfl rfl ?_
    refine E.WL.val (E.y_gtr rfl rfl) rfl rfl rfl ?_
    refine E.WL.val (E.y_move rfl) rfl rfl rfl ?_
    refine E.WL.split 16 rfl (fun hg16 => ?_) (fun hg16 => ?_)
    · replace hg16 := of_decide_eq_true hg16
      exact absurd hg16 (by omega)
    · skip
      refine E.WL.val (E.y_move rfl) rfl rfl rfl ?_
      refine E.WL.val (E.y_gtr rfl rfl) rfl rfl rfl ?_
      refine E.WL.val (E.y_move rfl) rfl rfl rfl ?_
      refine E.WL.split 19 rfl (fun hg19 => ?_) (fun hg19 => ?_)
      · replace hg19 := of_decide_eq_true hg19
        have hn0 : 0 < n := by omega
        refine E.WL.val (E.y_move rfl) rfl rfl rfl ?_
        refine E.WL.val (E.y_sneq rfl rfl) rfl rfl rfl ?_
        refine E.WL.val (E.y_pick_t rfl rfl) rfl rfl rfl ?_
        refine E.WL.val (E.y_move rfl) rfl rfl rfl ?_
        refine E.WL.split 23 rfl (fun hg23 => ?_) (fun hg23 => ?_)
        · skip
          refine E.WL.val (E.y_move rfl) rfl rfl rfl ?_
          refine E.WL.val (E.y_idxs Tryd.underlying9 rfl rfl (by decide) (by show 0 < _; omega) (show _ = ((n : Nat) : Int) from numT_first hn hn0 r _)) rfl rfl rfl ?_
          refine E.WL.val (E.y_eql rfl rfl) rfl rfl rfl ?_
          refine E.WL.val (E.y_pick_t rfl rfl) rfl rfl rfl ?_
          refine E.WL.val (E.y_pick_f rfl rfl) rfl rfl rfl ?_
          refine E.WL.val (E.y_assign rfl) rfl rfl rfl ?_
          refine E.WL.done ?_
          refine E.KQ.then_n ?_
          refine E.W.condT 13 rfl (fun hc13 => ?_) (fun hc13 => ?_)
          · replace hc13 := of_decide_eq_true hc13
            exact absurd hc13 (by omega)
          · skip
            refine E.W.seq ?_
            refine E.W.region ?_
            refine E.WL.val (E.y_move rfl) rfl rfl rfl ?_
            refine E.WL.val (E.y_move rfl) rfl rfl rfl ?_
            refine E.WL.val (E.y_lens Tryd.underlying9 rfl) rfl rfl rfl ?_
            refine E.WL.val (E.y_gtr rfl rfl) rfl rfl rfl ?_
            refine E.WL.val (E.y_assign rfl) rfl rfl rfl ?_
            refine E.WL.done ?_
            refine E.KQ.then_n ?_
            refine E.W.condT 29 rfl (fun hc29 => ?_) (fun hc29 => ?_)
            · replace hc29 := of_decide_eq_true hc29
              exact absurd hc29 (by omega)
            · replace hc29 := of_decide_eq_false hc29
              refine E.W.skip ?_
              refine E.KQ.block_n ?_
              refine E.KQ.then_n ?_
              refine E.W.seq ?_
              refine E.W.regionQ rfl (by kernel_rfl) ?_
              refine E.QL.val (fun w' hw => E.y_move rfl) rfl rfl rfl ?_
              refine E.QL.val (fun w' hw => E.y_move rfl) rfl rfl rfl ?_
              refine E.QL.val (fun w' hw => E.y_str_h (hi := kN n) Tryd.underlying9 rfl rfl (by omega)) rfl rfl rfl ?_
              refine E.QL.as 36 rfl (show _ = Value.string (numT n) from congrArg Value.string (numT_take n r)) ?_
              refine E.QL.call Tryd.call43 rfl (fun w' hw => E.quiet hw (value_calls w' (numT n) (by rw [numT_size]; omega))) rfl rfl ?_
              refine E.QL.as 37 rfl (show _ = Value.int .u64 (n : Nat) from by rw [numT_val hn]) ?_
              refine E.QL.val (fun w' hw => E.y_move rfl) rfl rfl rfl ?_
              refine E.QL.val (fun w' hw => E.y_move rfl) rfl rfl rfl ?_
              refine E.QL.val (fun w' hw => E.y_str_l (lo := kN n) Tryd.underlying9 rfl rfl (by omega)) rfl rfl rfl ?_
              refine E.QL.as 40 rfl (show _ = Value.string r from congrArg Value.string (numT_drop n r)) ?_
              refine E.QL.val (fun w' hw => E.y_assign rfl) rfl rfl rfl ?_
              refine E.QL.val (fun w' hw => E.y_assign rfl) rfl rfl rfl ?_
              refine E.QL.val (fun w' hw => E.y_assign rfl) rfl rfl rfl ?_
              refine E.QL.end_ fun w1 hx => ?_
              replace hb := hb.ext hx
              clear hx
              refine E.KQ.then_n ?_
              refine E.W.ret ?_
              refine E.KQ.ret3 Tryd.results69 rfl rfl rfl ?_
              exact ⟨_, rfl, rfl, hb.below⟩
        · skip
          have hte : numT n ++ r = ByteArray.mk #[] := by simpa using hg23
          rw [hte] at hts
          exact absurd hts (by show ¬ 0 = _; omega)
      · skip
        refine E.WL.off rfl rfl rfl ?_
        refine E.WL.off rfl rfl rfl ?_
        refine E.WL.val (E.y_pick_f rfl rfl) rfl rfl rfl ?_
        refine E.WL.val (E.y_move rfl) rfl rfl rfl ?_
        refine E.WL.off rfl rfl rfl ?_
        refine E.WL.off rfl rfl rfl ?_
        refine E.WL.off rfl rfl rfl ?_
        refine E.WL.val (E.y_pick_f rfl rfl) rfl rfl rfl ?_
        refine E.WL.val (E.y_pick_f rfl rfl) rfl rfl rfl ?_
        refine E.WL.val (E.y_assign rfl) rfl rfl rfl ?_
        refine E.WL.done ?_
        refine E.KQ.then_n ?_
        refine E.W.cond_f rfl ?_
        refine E.W.seq ?_
        refine E.W.region ?_
        refine E.WL.val (E.y_move rfl) rfl rfl rfl ?_
        refine E.WL.val (E.y_move rfl) rfl rfl rfl ?_
        refine E.WL.val (E.y_lens Tryd.underlying9 rfl) rfl rfl rfl ?_
        refine E.WL.val (E.y_gtr rfl rfl) rfl rfl rfl ?_
        refine E.WL.val (E.y_assign rfl) rfl rfl rfl ?_
        refine E.WL.done ?_
        refine E.KQ.then_n ?_
        refine E.W.condT 29 rfl (fun hc29 => ?_) (fun hc29 => ?_)
        · replace hc29 := of_decide_eq_true hc29
          exact absurd hc29 (by omega)
        · replace hc29 := of_decide_eq_false hc29
          refine E.W.skip ?_
          refine E.KQ.block_n ?_
          refine E.KQ.then_n ?_
          refine E.W.seq ?_
          refine E.W.regionQ rfl (by kernel_rfl) ?_
          refine E.QL.val (fun w' hw => E.y_move rfl) rfl rfl rfl ?_
          refine E.QL.val (fun w' hw => E.y_move rfl) rfl rfl rfl ?_
          refine E.QL.val (fun w' hw => E.y_str_h (hi := kN n) Tryd.underlying9 rfl rfl (by omega)) rfl rfl rfl ?_
          refine E.QL.as 36 rfl (show _ = Value.string (numT n) from congrArg Value.string (numT_take n r)) ?_
          refine E.QL.call Tryd.call43 rfl (fun w' hw => E.quiet hw (value_calls w' (numT n) (by rw [numT_size]; omega))) rfl rfl ?_
          refine E.QL.as 37 rfl (show _ = Value.int .u64 (n : Nat) from by rw [numT_val hn]) ?_
          refine E.QL.val (fun w' hw => E.y_move rfl) rfl rfl rfl ?_
          refine E.QL.val (fun w' hw => E.y_move rfl) rfl rfl rfl ?_
          refine E.QL.val (fun w' hw => E.y_str_l (lo := kN n) Tryd.underlying9 rfl rfl (by omega)) rfl rfl rfl ?_
          refine E.QL.as 40 rfl (show _ = Value.string r from congrArg Value.string (numT_drop n r)) ?_
          refine E.QL.val (fun w' hw => E.y_assign rfl) rfl rfl rfl ?_
          refine E.QL.val (fun w' hw => E.y_assign rfl) rfl rfl rfl ?_
          refine E.QL.val (fun w' hw => E.y_assign rfl) rfl rfl rfl ?_
          refine E.QL.end_ fun w2 hx => ?_
          replace hb := hb.ext hx
          clear hx
          refine E.KQ.then_n ?_
          refine E.W.ret ?_
          refine E.KQ.ret3 Tryd.results69 rfl rfl rfl ?_
          exact ⟨_, rfl, rfl, hb.below⟩

set_option maxHeartbeats 400000 in
theorem takeText_calls (w : World) (s r : ByteArray) (hs : s.size < 256) (hr : r.size ≤ 1000) :
    Calls Tryd.prog 70 #[(.string (numP s.size ++ (s ++ r)))] w (Ret fun u w' => u = .tuple #[.string s, .string r, .int .i64 0] ∧ Ext w w') := by
  have hsr : (s ++ r).size = s.size + r.size := ByteArray.size_append
  have hb := E.Bx.start w (base := w.heap.size) (Nat.le_refl _)
  refine E.enter Tryd.func70 rfl Tryd.ntmps70 [(.string (numP s.size ++ (s ++ r)))] rfl ?_
  refine E.W.seq ?_
  refine E.W.region ?_
  refine E.WL.val (E.y_assign rfl) rfl rfl rfl ?_
  refine E.WL.val (E.y_assign rfl) rfl rfl rfl ?_
  refine E.WL.val (E.y_assign rfl) rfl rfl rfl ?_
  refine E.WL.done ?_
  refine E.KQ.then_n ?_
  refine E.W.seq ?_
  refine E.W.region ?_
  refine E.WL.val (E.y_move rfl) rfl rfl rfl ?_
  refine E.WL.call (takeNumber_calls w s.size hs (s ++ r) (by omega)) Tryd.call69 rfl rfl rfl ?_
  rintro _ w1 ⟨rfl, hX⟩
  replace hb := hb.ext hX
  clear hX
  refine E.WL.val (E.y_move rfl) rfl rfl rfl ?_
  refine E.WL.val (E.y_extract rfl rfl) rfl rfl rfl ?_
  refine E.WL.val (E.y_extract rfl rfl) rfl rfl rfl ?_
  refine E.WL.val (E.y_extract rfl rfl) rfl rfl rfl ?_
  refine E.WL.val (E.y_assign rfl) rfl rfl rfl ?_
  refine E.WL.val (E.y_assign rfl) rfl rfl rfl ?_
  refine E.WL.val (E.y_assign rfl) rfl rfl rfl ?_
  refine E.WL.done ?_
  refine E.KQ.then_n ?_
  refine E.W.seq ?_
  refine E.W.block ?_
  refine E.W.seq ?_
  refine E.W.region ?_
  refine E.WL.val (E.y_move rfl) rfl rfl rfl ?_
  refine E.WL.val (E.y_neq rfl rfl) rfl rfl rfl ?_
  refine E.WL.val (E.y_assign rfl) rfl rfl rfl ?_
  refine E.WL.done ?_
  refine E.KQ.then_n ?_
  refine E.W.condT 14 rfl (fun hc14 => ?_) (fun hc14 => ?_)
  · skip
    exact absurd hc14 (by decide)
  · skip
    refine E.W.seq ?_
    refine E.W.region ?_
    refine E.WL.val (E.y_move rfl) rfl rfl rfl ?_
    refine E.WL.val (E.y_gtr rfl rfl) rfl rfl rfl ?_
    refine E.WL.val (E.y_assign rfl) rfl rfl rfl ?_
    refine E.WL.done ?_
    refine E.KQ.then_n ?_
    refine E.W.condT 18 rfl (fun hc18 => ?_) (fun hc18 => ?_)
    · replace hc18 := of_decide_eq_true hc18
      exact absurd hc18 (by omega)
    · replace hc18 := of_decide_eq_false hc18
      refine E.W.seq ?_
      refine E.W.region ?_
      refine E.WL.val (E.y_move rfl) rfl rfl rfl ?_
      refine E.WL.val (E.y_move rfl) rfl rfl rfl ?_
      refine E.WL.val (E.y_lens Tryd.underlying9 rfl) rfl rfl rfl ?_
      refine E.WL.val (E.y_conv (by rw [Tryd.underlying3]; rfl) Tryd.underlying28 rfl (Go.IntWalk.u64_in _ (by omega))) rfl rfl rfl ?_
      refine E.WL.val (E.y_gtr rfl rfl) rfl rfl rfl ?_
      refine E.WL.val (E.y_assign rfl) rfl rfl rfl ?_
      refine E.WL.done ?_
      refine E.KQ.then_n ?_
      refine E.W.condT 21 rfl (fun hc21 => ?_) (fun hc21 => ?_)
      · replace hc21 := of_decide_eq_true hc21
        exact absurd hc21 (by omega)
      · replace hc21 := of_decide_eq_false hc21
        refine E.W.skip ?_
        refine E.KQ.block_n ?_
        refine E.KQ.then_n ?_
        refine E.W.seq ?_
        refine E.W.regionQ rfl (by kernel_rfl) ?_
        refine E.QL.val (fun w' hw => E.y_move rfl) rfl rfl rfl ?_
        refine E.QL.val (fun w' hw => E.y_move rfl) rfl rfl rfl ?_
        refine E.QL.val (fun w' hw => E.y_str_h (hi := s.size) Tryd.underlying9 rfl rfl (by omega)) rfl rfl rfl ?_
        refine E.QL.as 29 rfl (show _ = Value.string s from congrArg Value.string (ba_left s r)) ?_
        refine E.QL.val (fun w' hw => E.y_move rfl) rfl rfl rfl ?_
        refine E.QL.val (fun w' hw => E.y_move rfl) rfl rfl rfl ?_
        refine E.QL.val (fun w' hw => E.y_str_l (lo := s.size) Tryd.underlying9 rfl rfl (by omega)) rfl rfl rfl ?_
        refine E.QL.as 32 rfl (show _ = Value.string r from congrArg Value.string (ba_right s r)) ?_
        refine E.QL.val (fun w' hw => E.y_assign rfl) rfl rfl rfl ?_
        refine E.QL.val (fun w' hw => E.y_assign rfl) rfl rfl rfl ?_
        refine E.QL.val (fun w' hw => E.y_assign rfl) rfl rfl rfl ?_
        refine E.QL.end_ fun w2 hx => ?_
        replace hb := hb.ext hx
        clear hx
        refine E.KQ.then_n ?_
        refine E.W.ret ?_
        refine E.KQ.ret3 Tryd.results70 rfl rfl rfl ?_
        exact ⟨_, rfl, rfl, hb.below⟩

set_option maxHeartbeats 400000 in
theorem takeFrame_calls (w : World) (p : ByteArray) (hp : p.size ≤ 60000) :
    Calls Tryd.prog 19 #[(.string (frameP p))] w (Ret fun u w' => u = .tuple #[.string p, .string noB, .int .i64 0] ∧ Ext w w') := by
  have hfs := frameP_size p
  have hb := E.Bx.start w (base := w.heap.size) (Nat.le_refl _)
  refine E.enter Tryd.func19 rfl Tryd.ntmps19 [(.string (frameP p))] rfl ?_
  refine E.W.seq ?_
  refine E.W.region ?_
  refine E.WL.val (E.y_assign rfl) rfl rfl rfl ?_
  refine E.WL.val (E.y_assign rfl) rfl rfl rfl ?_
  refine E.WL.val (E.y_assign rfl) rfl rfl rfl ?_
  refine E.WL.done ?_
  refine E.KQ.then_n ?_
  refine E.W.seq ?_
  refine E.W.seq ?_
  refine E.W.region ?_
  refine E.WL.val (E.y_move rfl) rfl rfl rfl ?_
  refine E.WL.val (E.y_lens Tryd.underlying9 rfl) rfl rfl rfl ?_
  refine E.WL.val (E.y_lss rfl rfl) rfl rfl rfl ?_
  refine E.WL.done ?_
  refine E.KQ.then_n ?_
  refine E.W.condT 11 rfl (fun hc11 => ?_) (fun hc11 => ?_)
  · replace hc11 := of_decide_eq_true hc11
    exact absurd hc11 (by omega)
  · replace hc11 := of_decide_eq_false hc11
    refine E.W.skip ?_
    refine E.KQ.then_n ?_
    refine E.W.seq ?_
    refine E.W.region ?_
    refine E.WL.val (E.y_move rfl) rfl rfl rfl ?_
    refine E.WL.val (E.y_str_h (hi := 4) Tryd.underlying9 rfl rfl (by omega)) rfl rfl rfl ?_
    refine E.WL.as 13 rfl (show _ = Value.string (fixP p.size 4) from congrArg Value.string (frame_len p)) ?_
    refine E.WL.call (value_calls w (fixP p.size 4) (by rw [fixP_size]; decide)) Tryd.call43 rfl rfl rfl ?_
    rintro _ w1 ⟨rfl, hX⟩
    replace hb := hb.ext hX
    clear hX
    refine E.WL.as 14 rfl (show _ = Value.int .u64 (p.size : Nat) from by rw [fix4_val (by omega)]) ?_
    refine E.WL.val (E.y_assign rfl) rfl rfl rfl ?_
    refine E.WL.done ?_
    refine E.KQ.then_n ?_
    refine E.W.seq ?_
    refine E.W.block ?_
    refine E.W.seq ?_
    refine E.W.region ?_
    refine E.WL.val (E.y_move rfl) rfl rfl rfl ?_
    refine E.WL.val (E.y_gtr rfl rfl) rfl rfl rfl ?_
    refine E.WL.val (E.y_assign rfl) rfl rfl rfl ?_
    refine E.WL.done ?_
    refine E.KQ.then_n ?_
    refine E.W.condT 15 rfl (fun hc15 => ?_) (fun hc15 => ?_)
    · replace hc15 := of_decide_eq_true hc15
      exact absurd hc15 (by omega)
    · replace hc15 := of_decide_eq_false hc15
      refine E.W.seq ?_
      refine E.W.region ?_
      refine E.WL.val (E.y_move rfl) rfl rfl rfl ?_
      refine E.WL.val (E.y_lens Tryd.underlying9 rfl) rfl rfl rfl ?_
      refine E.WL.val (E.y_lss rfl rfl) rfl rfl rfl ?_
      refine E.WL.val (E.y_move rfl) rfl rfl rfl ?_
      refine E.WL.split 22 rfl (fun hg22 => ?_) (fun hg22 => ?_)
      · replace hg22 := of_decide_eq_true hg22
        exact absurd hg22 (by omega)
      · skip
        refine E.WL.val (E.y_move rfl) rfl rfl rfl ?_
        refine E.WL.val (E.y_move rfl) rfl rfl rfl ?_
        refine E.WL.val (E.y_lens Tryd.underlying9 rfl) rfl rfl rfl ?_
        refine E.WL.val (E.y_sub rfl rfl (Go.IntWalk.i64_in _ (by omega))) rfl rfl rfl ?_
        refine E.WL.val (E.y_conv (by rw [Tryd.underlying3]; rfl) Tryd.underlying28 rfl (Go.IntWalk.u64_in _ (by omega))) rfl rfl rfl ?_
        refine E.WL.val (E.y_gtr rfl rfl) rfl rfl rfl ?_
        refine E.WL.val (E.y_pick_f rfl rfl) rfl rfl rfl ?_
        refine E.WL.val (E.y_assign rfl) rfl rfl rfl ?_
        refine E.WL.done ?_
        refine E.KQ.then_n ?_
        refine E.W.condT 18 rfl (fun hc18 => ?_) (fun hc18 => ?_)
        · replace hc18 := of_decide_eq_true hc18
          exact absurd hc18 (by omega)
        · replace hc18 := of_decide_eq_false hc18
          refine E.W.skip ?_
          refine E.KQ.block_n ?_
          refine E.KQ.then_n ?_
          refine E.W.seq ?_
          refine E.W.region ?_
          refine E.WL.val (E.y_move rfl) rfl rfl rfl ?_
          refine E.WL.val (E.y_conv (by rw [Tryd.underlying28]; rfl) Tryd.underlying3 rfl (Go.IntWalk.i64_in _ (by omega))) rfl rfl rfl ?_
          refine E.WL.val (E.y_add rfl rfl (Go.IntWalk.i64_in _ (by omega))) rfl rfl rfl ?_
          refine E.WL.as 32 rfl (show _ = Value.int .i64 ((6 + p.size : Nat) : Int) from congrArg (Value.int .i64) (by omega)) ?_
          refine E.WL.val (E.y_assign rfl) rfl rfl rfl ?_
          refine E.WL.done ?_
          refine E.KQ.then_n ?_
          refine E.W.seq ?_
          refine E.W.seq ?_
          refine E.W.region ?_
          refine E.WL.val (E.y_move rfl) rfl rfl rfl ?_
          refine E.WL.val (E.y_move rfl) rfl rfl rfl ?_
          refine E.WL.val (E.y_str_lh (lo := 6) (hi := 6 + p.size) Tryd.underlying9 rfl rfl rfl (by omega) (by omega)) rfl rfl rfl ?_
          refine E.WL.as 36 rfl (show _ = Value.string p from congrArg Value.string (frame_mid p)) ?_
          refine E.WL.call (frame_calls w1 p hp) Tryd.call14 rfl rfl rfl ?_
          rintro _ w2 ⟨rfl, hX⟩
          replace hb := hb.ext hX
          clear hX
          refine E.WL.val (E.y_move rfl) rfl rfl rfl ?_
          refine E.WL.val (E.y_extract rfl rfl) rfl rfl rfl ?_
          refine E.WL.val (E.y_extract rfl rfl) rfl rfl rfl ?_
          refine E.WL.val (E.y_assign rfl) rfl rfl rfl ?_
          refine E.WL.val (E.y_assign rfl) rfl rfl rfl ?_
          refine E.WL.done ?_
          refine E.KQ.then_n ?_
          refine E.W.seq ?_
          refine E.W.region ?_
          refine E.WL.val (E.y_move rfl) rfl rfl rfl ?_
          refine E.WL.val (E.y_move rfl) rfl rfl rfl ?_
          refine E.WL.val (E.y_move rfl) rfl rfl rfl ?_
          refine E.WL.val (E.y_str_h (hi := 6 + p.size) Tryd.underlying9 rfl rfl (by omega)) rfl rfl rfl ?_
          refine E.WL.as 43 rfl (show _ = Value.string (frameP p) from congrArg Value.string (frame_all p)) ?_
          refine E.WL.val (E.y_sneq rfl rfl) rfl rfl rfl ?_
          refine E.WL.done ?_
          refine E.KQ.then_n ?_
          refine E.W.condT 44 rfl (fun hc44 => ?_) (fun hc44 => ?_)
          · skip
            exact absurd hc44 (by simp)
          · skip
            refine E.W.skip ?_
            refine E.KQ.then_n ?_
            refine E.W.seq ?_
            refine E.W.regionQ rfl (by kernel_rfl) ?_
            refine E.QL.val (fun w' hw => E.y_move rfl) rfl rfl rfl ?_
            refine E.QL.val (fun w' hw => E.y_move rfl) rfl rfl rfl ?_
            refine E.QL.val (fun w' hw => E.y_str_lh (lo := 6) (hi := 6 + p.size) Tryd.underlying9 rfl rfl rfl (by omega) (by omega)) rfl rfl rfl ?_
            refine E.QL.as 47 rfl (show _ = Value.string p from congrArg Value.string (frame_mid p)) ?_
            refine E.QL.val (fun w' hw => E.y_move rfl) rfl rfl rfl ?_
            refine E.QL.val (fun w' hw => E.y_move rfl) rfl rfl rfl ?_
            refine E.QL.val (fun w' hw => E.y_str_l (lo := 6 + p.size) Tryd.underlying9 rfl rfl (by omega)) rfl rfl rfl ?_
            refine E.QL.as 50 rfl (show _ = Value.string noB from congrArg Value.string (frame_end p)) ?_
            refine E.QL.val (fun w' hw => E.y_assign rfl) rfl rfl rfl ?_
            refine E.QL.val (fun w' hw => E.y_assign rfl) rfl rfl rfl ?_
            refine E.QL.val (fun w' hw => E.y_assign rfl) rfl rfl rfl ?_
            refine E.QL.end_ fun w3 hx => ?_
            replace hb := hb.ext hx
            clear hx
            refine E.KQ.then_n ?_
            refine E.W.ret ?_
            refine E.KQ.ret3 Tryd.results19 rfl rfl rfl ?_
            exact ⟨_, rfl, rfl, hb.below⟩

set_option maxHeartbeats 400000 in
theorem tNumber_calls {w : World} {base B : Nat} (hbase : base ≤ w.heap.size) (hbg : base ≤ B) (n : Nat) (hn : n < 256) (r : ByteArray) (hr : r.size ≤ 100000) (hgg : w.heap[B]? = some (.cells [.string (numP n ++ r), .bool false].toArray 83 (0, 0))) :
    Calls Tryd.prog 58 #[(.pointer (some ⟨B, 0, none⟩))] w (Ret fun u w' => u = .int .u64 (n : Nat) ∧ w'.heap[B]? = some (.cells [.string r, .bool false].toArray 83 (0, 0)) ∧ Below base w w' ∧ Keeps (fun U => U ≠ 83) w w') := by
  have hkp : Keeps (fun U => U ≠ 83) w w := Keeps.refl w
  have hb := Bx.one (w := w) hbg hgg hbase
  refine E.enter Tryd.func58 rfl Tryd.ntmps58 [(.pointer (some ⟨B, 0, none⟩))] rfl ?_
  refine E.W.seq ?_
  refine E.W.region ?_
  refine E.WL.val (E.y_assign rfl) rfl rfl rfl ?_
  refine E.WL.done ?_
  refine E.KQ.then_n ?_
  refine E.W.seq ?_
  refine E.W.region ?_
  refine E.WL.val (E.y_move rfl) rfl rfl rfl ?_
  refine E.WL.val (E.y_nilCheck rfl) rfl rfl rfl ?_
  refine E.WL.val (E.y_fld Tryd.underlying81 rfl Tryd.sizeOf9 rfl) rfl rfl rfl ?_
  refine E.WL.val (E.y_load rfl (E.At.ld1 Tryd.isAgg9 (hb.at0 0 rfl) 0 rfl)) rfl rfl rfl ?_
  refine E.WL.call (takeNumber_calls w n hn r hr) Tryd.call69 rfl rfl rfl ?_
  rintro _ w1 ⟨rfl, hX⟩
  replace hb := hb.ext hX
  replace hkp := Keeps.trans hkp (Keeps.ext hX)
  clear hX
  refine E.WL.val (E.y_move rfl) rfl rfl rfl ?_
  refine E.WL.val (E.y_extract rfl rfl) rfl rfl rfl ?_
  refine E.WL.val (E.y_extract rfl rfl) rfl rfl rfl ?_
  refine E.WL.val (E.y_extract rfl rfl) rfl rfl rfl ?_
  refine E.WL.val (E.y_assign rfl) rfl rfl rfl ?_
  refine E.WL.val (E.y_assign rfl) rfl rfl rfl ?_
  refine E.WL.val (E.y_assign rfl) rfl rfl rfl ?_
  refine E.WL.done ?_
  refine E.KQ.then_n ?_
  refine E.W.seq ?_
  refine E.W.region ?_
  refine E.WL.val (E.y_move rfl) rfl rfl rfl ?_
  refine E.WL.val (E.y_move rfl) rfl rfl rfl ?_
  refine E.WL.val (E.y_move rfl) rfl rfl rfl ?_
  refine E.WL.val (E.y_move rfl) rfl rfl rfl ?_
  refine E.WL.val (E.y_nilCheck rfl) rfl rfl rfl ?_
  refine E.WL.val (E.y_fld Tryd.underlying81 rfl Tryd.sizeOf4 rfl) rfl rfl rfl ?_
  refine E.WL.val (E.y_load rfl (E.At.ld1 Tryd.isAgg4 (hb.at0 0 rfl) 1 rfl)) rfl rfl rfl ?_
  refine E.WL.val (E.y_move rfl) rfl rfl rfl ?_
  refine E.WL.val (E.y_move rfl) rfl rfl rfl ?_
  refine E.WL.val (E.y_neq rfl rfl) rfl rfl rfl ?_
  refine E.WL.as 24 rfl (show _ = Value.bool false from rfl) ?_
  refine E.WL.val (E.y_pick_f rfl rfl) rfl rfl rfl ?_
  refine E.WL.val (E.y_nilCheck rfl) rfl rfl rfl ?_
  refine E.WL.val (E.y_fld Tryd.underlying81 rfl Tryd.sizeOf9 rfl) rfl rfl rfl ?_
  refine E.WL.store hb 0 0 rfl rfl rfl Tryd.sizeOf9 rfl rfl rfl (E.allOne rfl) rfl ?_
  have hT := hb.hasT 0 rfl
  clear hb; intro w2 hb hO
  replace hkp := Keeps.trans hkp (Keeps.only hO hT (by decide))
  clear hT
  clear hO
  refine E.WL.val (E.y_nilCheck rfl) rfl rfl rfl ?_
  refine E.WL.val (E.y_fld Tryd.underlying81 rfl Tryd.sizeOf4 rfl) rfl rfl rfl ?_
  refine E.WL.store hb 0 1 rfl rfl rfl Tryd.sizeOf4 rfl rfl rfl (E.allOne rfl) rfl ?_
  have hT := hb.hasT 0 rfl
  clear hb; intro w3 hb hO
  replace hkp := Keeps.trans hkp (Keeps.only hO hT (by decide))
  clear hT
  clear hO
  refine E.WL.done ?_
  refine E.KQ.then_n ?_
  refine E.W.seq ?_
  refine E.W.region ?_
  refine E.WL.val (E.y_move rfl) rfl rfl rfl ?_
  refine E.WL.val (E.y_assign rfl) rfl rfl rfl ?_
  refine E.WL.done ?_
  refine E.KQ.then_n ?_
  refine E.W.ret ?_
  refine E.KQ.ret1 Tryd.results58 rfl ?_
  exact ⟨_, rfl, rfl, (hb.get (i := 0) rfl).2, hb.below, hkp⟩

set_option maxHeartbeats 400000 in
theorem tText_calls {w : World} {base B : Nat} (hbase : base ≤ w.heap.size) (hbg : base ≤ B) (s r : ByteArray) (hs : s.size < 256) (hr : r.size ≤ 1000) (hgg : w.heap[B]? = some (.cells [.string (numP s.size ++ (s ++ r)), .bool false].toArray 83 (0, 0))) :
    Calls Tryd.prog 60 #[(.pointer (some ⟨B, 0, none⟩))] w (Ret fun u w' => u = .string s ∧ w'.heap[B]? = some (.cells [.string r, .bool false].toArray 83 (0, 0)) ∧ Below base w w' ∧ Keeps (fun U => U ≠ 83) w w') := by
  have hkp : Keeps (fun U => U ≠ 83) w w := Keeps.refl w
  have hb := Bx.one (w := w) hbg hgg hbase
  refine E.enter Tryd.func60 rfl Tryd.ntmps60 [(.pointer (some ⟨B, 0, none⟩))] rfl ?_
  refine E.W.seq ?_
  refine E.W.region ?_
  refine E.WL.val (E.y_assign rfl) rfl rfl rfl ?_
  refine E.WL.done ?_
  refine E.KQ.then_n ?_
  refine E.W.seq ?_
  refine E.W.region ?_
  refine E.WL.val (E.y_move rfl) rfl rfl rfl ?_
  refine E.WL.val (E.y_nilCheck rfl) rfl rfl rfl ?_
  refine E.WL.val (E.y_fld Tryd.underlying81 rfl Tryd.sizeOf9 rfl) rfl rfl rfl ?_
  refine E.WL.val (E.y_load rfl (E.At.ld1 Tryd.isAgg9 (hb.at0 0 rfl) 0 rfl)) rfl rfl rfl ?_
  refine E.WL.call (takeText_calls w s r hs hr) Tryd.call70 rfl rfl rfl ?_
  rintro _ w1 ⟨rfl, hX⟩
  replace hb := hb.ext hX
  replace hkp := Keeps.trans hkp (Keeps.ext hX)
  clear hX
  refine E.WL.val (E.y_move rfl) rfl rfl rfl ?_
  refine E.WL.val (E.y_extract rfl rfl) rfl rfl rfl ?_
  refine E.WL.val (E.y_extract rfl rfl) rfl rfl rfl ?_
  refine E.WL.val (E.y_extract rfl rfl) rfl rfl rfl ?_
  refine E.WL.val (E.y_assign rfl) rfl rfl rfl ?_
  refine E.WL.val (E.y_assign rfl) rfl rfl rfl ?_
  refine E.WL.val (E.y_assign rfl) rfl rfl rfl ?_
  refine E.WL.done ?_
  refine E.KQ.then_n ?_
  refine E.W.seq ?_
  refine E.W.region ?_
  refine E.WL.val (E.y_move rfl) rfl rfl rfl ?_
  refine E.WL.val (E.y_move rfl) rfl rfl rfl ?_
  refine E.WL.val (E.y_move rfl) rfl rfl rfl ?_
  refine E.WL.val (E.y_move rfl) rfl rfl rfl ?_
  refine E.WL.val (E.y_nilCheck rfl) rfl rfl rfl ?_
  refine E.WL.val (E.y_fld Tryd.underlying81 rfl Tryd.sizeOf4 rfl) rfl rfl rfl ?_
  refine E.WL.val (E.y_load rfl (E.At.ld1 Tryd.isAgg4 (hb.at0 0 rfl) 1 rfl)) rfl rfl rfl ?_
  refine E.WL.val (E.y_move rfl) rfl rfl rfl ?_
  refine E.WL.val (E.y_move rfl) rfl rfl rfl ?_
  refine E.WL.val (E.y_neq rfl rfl) rfl rfl rfl ?_
  refine E.WL.as 24 rfl (show _ = Value.bool false from rfl) ?_
  refine E.WL.val (E.y_pick_f rfl rfl) rfl rfl rfl ?_
  refine E.WL.val (E.y_nilCheck rfl) rfl rfl rfl ?_
  refine E.WL.val (E.y_fld Tryd.underlying81 rfl Tryd.sizeOf9 rfl) rfl rfl rfl ?_
  refine E.WL.store hb 0 0 rfl rfl rfl Tryd.sizeOf9 rfl rfl rfl (E.allOne rfl) rfl ?_
  have hT := hb.hasT 0 rfl
  clear hb; intro w2 hb hO
  replace hkp := Keeps.trans hkp (Keeps.only hO hT (by decide))
  clear hT
  clear hO
  refine E.WL.val (E.y_nilCheck rfl) rfl rfl rfl ?_
  refine E.WL.val (E.y_fld Tryd.underlying81 rfl Tryd.sizeOf4 rfl) rfl rfl rfl ?_
  refine E.WL.store hb 0 1 rfl rfl rfl Tryd.sizeOf4 rfl rfl rfl (E.allOne rfl) rfl ?_
  have hT := hb.hasT 0 rfl
  clear hb; intro w3 hb hO
  replace hkp := Keeps.trans hkp (Keeps.only hO hT (by decide))
  clear hT
  clear hO
  refine E.WL.done ?_
  refine E.KQ.then_n ?_
  refine E.W.seq ?_
  refine E.W.region ?_
  refine E.WL.val (E.y_move rfl) rfl rfl rfl ?_
  refine E.WL.val (E.y_assign rfl) rfl rfl rfl ?_
  refine E.WL.done ?_
  refine E.KQ.then_n ?_
  refine E.W.ret ?_
  refine E.KQ.ret1 Tryd.results60 rfl ?_
  exact ⟨_, rfl, rfl, (hb.get (i := 0) rfl).2, hb.below, hkp⟩

set_option maxHeartbeats 400000 in
theorem tInts_calls {w : World} {base B : Nat} (hbase : base ≤ w.heap.size) (hbg : base ≤ B) (r : ByteArray) (hr : r.size ≤ 90000) (hgg : w.heap[B]? = some (.cells [.string (numP 1 ++ (numP 1 ++ r)), .bool false].toArray 83 (0, 0))) :
    Calls Tryd.prog 59 #[(.pointer (some ⟨B, 0, none⟩))] w (Ret fun u w' => (∃ v, u = v ∧ w'.ownsRow base 3 1 v 1 [.int .i64 1]) ∧ w'.heap[B]? = some (.cells [.string r, .bool false].toArray 83 (0, 0)) ∧ Below base w w' ∧ Keeps (fun U => U ≠ 83) w w') := by
  have hkp : Keeps (fun U => U ≠ 83) w w := Keeps.refl w
  have hnr : (numP 1 ++ r).size ≤ 100000 := by have := numP_size 1; rw [ByteArray.size_append]; omega
  have hb := Bx.one (w := w) hbg hgg hbase
  refine E.enter Tryd.func59 rfl Tryd.ntmps59 [(.pointer (some ⟨B, 0, none⟩))] rfl ?_
  refine E.W.seq ?_
  refine E.W.region ?_
  refine E.WL.val (E.y_assign rfl) rfl rfl rfl ?_
  refine E.WL.done ?_
  refine E.KQ.then_n ?_
  refine E.W.seq ?_
  refine E.W.region ?_
  refine E.WL.val (E.y_assign rfl) rfl rfl rfl ?_
  refine E.WL.done ?_
  refine E.KQ.then_n ?_
  refine E.W.seq ?_
  refine E.W.region ?_
  refine E.WL.val (E.y_move rfl) rfl rfl rfl ?_
  refine E.WL.call (tNumber_calls hb.le hbg 1 (by decide) (numP 1 ++ r) hnr (hb.get (i := 0) rfl).2) Tryd.call58 rfl rfl rfl ?_
  rintro _ w1 ⟨rfl, hg2, hBl, hK2⟩
  replace hkp := Keeps.trans hkp hK2
  replace hb : Bx base w w1 [(B, [.string (numP 1 ++ r), .bool false], 83)] := ⟨hb.below.trans hBl, Nat.le_trans hb.le hBl.size, fun p hp => by simp only [List.mem_cons, List.not_mem_nil, or_false] at hp; subst hp; exact ⟨hbg, hg2⟩, by simp⟩
  clear hBl hg2 hK2
  refine E.WL.val (E.y_assign rfl) rfl rfl rfl ?_
  refine E.WL.done ?_
  refine E.KQ.then_n ?_
  refine E.W.seq ?_
  refine E.W.region ?_
  refine E.WL.val (E.y_move rfl) rfl rfl rfl ?_
  refine E.WL.val (E.y_move rfl) rfl rfl rfl ?_
  refine E.WL.val (E.y_nilCheck rfl) rfl rfl rfl ?_
  refine E.WL.val (E.y_fld Tryd.underlying81 rfl Tryd.sizeOf4 rfl) rfl rfl rfl ?_
  refine E.WL.val (E.y_load rfl (E.At.ld1 Tryd.isAgg4 (hb.at0 0 rfl) 1 rfl)) rfl rfl rfl ?_
  refine E.WL.val (E.y_move rfl) rfl rfl rfl ?_
  refine E.WL.val (E.y_move rfl) rfl rfl rfl ?_
  refine E.WL.val (E.y_gtr rfl rfl) rfl rfl rfl ?_
  refine E.WL.as 15 rfl (show _ = Value.bool false from rfl) ?_
  refine E.WL.val (E.y_pick_f rfl rfl) rfl rfl rfl ?_
  refine E.WL.val (E.y_nilCheck rfl) rfl rfl rfl ?_
  refine E.WL.val (E.y_fld Tryd.underlying81 rfl Tryd.sizeOf4 rfl) rfl rfl rfl ?_
  refine E.WL.store hb 0 1 rfl rfl rfl Tryd.sizeOf4 rfl rfl rfl (E.allOne rfl) rfl ?_
  have hT := hb.hasT 0 rfl
  clear hb; intro w2 hb hO
  replace hkp := Keeps.trans hkp (Keeps.only hO hT (by decide))
  clear hT
  clear hO
  refine E.WL.done ?_
  refine E.KQ.then_n ?_
  refine E.W.seq ?_
  refine E.W.block ?_
  refine E.W.loop (ι := Nat × Value × List Value) (fun κ => [(0, .pointer (some ⟨B, 0, none⟩)), (3, κ.2.1), (4, .int .u64 ((1 - κ.1 : Nat) : Int))]) (fun κ w' => Keeps (fun U => U ≠ 83) w w' ∧ Bx base w w' [(B, [.string (if κ.1 = 0 then numP 1 ++ r else r), .bool false], 83)] ∧ κ.1 ≤ 1 ∧ w'.ownsRow base 3 1 κ.2.1 κ.1 κ.2.2 ∧ (κ.1 = 0 → κ.2.1 = .slice none 0 0) ∧ (κ.1 = 1 → κ.2.2 = [.int .i64 1])) (fun κ => 1 - κ.1) ((0, .slice none 0 0, [])) (by exact (.cons rfl (.cons rfl (.cons rfl .nil)))) ⟨hkp, hb, Nat.zero_le _, World.ownsRow_nil _ _ _ _, fun _ => rfl, fun h => by cases h⟩ (fun κ w3 hJ => ?_)
  clear hb hkp
  obtain ⟨k, v, xs⟩ := κ
  obtain ⟨hkp, hb, hk, own, hv0, hxs⟩ := hJ
  simp only at hb hk own hv0 hxs
  refine E.W.seq ?_
  refine E.W.seq ?_
  refine E.W.region ?_
  refine E.WL.val (E.y_move rfl) rfl rfl rfl ?_
  refine E.WL.val (E.y_gtr rfl rfl) rfl rfl rfl ?_
  refine E.WL.val (E.y_move rfl) rfl rfl rfl ?_
  refine E.WL.split 21 rfl (fun hg21 => ?_) (fun hg21 => ?_)
  · skip
    replace hg21 := of_decide_eq_true hg21
    obtain rfl : k = 0 := by simp only at hg21; omega
    obtain rfl := hv0 rfl
    refine E.WL.val (E.y_move rfl) rfl rfl rfl ?_
    refine E.WL.val (E.y_nilCheck rfl) rfl rfl rfl ?_
    refine E.WL.val (E.y_fld Tryd.underlying81 rfl Tryd.sizeOf4 rfl) rfl rfl rfl ?_
    refine E.WL.val (E.y_load rfl (E.At.ld1 Tryd.isAgg4 (hb.at0 0 rfl) 1 rfl)) rfl rfl rfl ?_
    refine E.WL.val (E.y_not rfl) rfl rfl rfl ?_
    refine E.WL.val (E.y_pick_t rfl rfl) rfl rfl rfl ?_
    refine E.WL.done ?_
    refine E.KQ.then_n ?_
    refine E.W.cond_t rfl ?_
    refine E.W.skip ?_
    refine E.KQ.then_n ?_
    refine E.W.seq ?_
    refine E.W.block ?_
    refine E.W.seq ?_
    refine E.W.region ?_
    refine E.WL.val (E.y_move rfl) rfl rfl rfl ?_
    refine E.WL.call (tNumber_calls hb.le hbg 1 (by decide) r (by omega) (hb.get (i := 0) rfl).2) Tryd.call58 rfl rfl rfl ?_
    rintro _ w4 ⟨rfl, hg2, hBl, hK2⟩
    replace hkp := Keeps.trans hkp hK2
    replace hb : Bx base w w4 [(B, [.string r, .bool false], 83)] := ⟨hb.below.trans hBl, Nat.le_trans hb.le hBl.size, fun p hp => by simp only [List.mem_cons, List.not_mem_nil, or_false] at hp; subst hp; exact ⟨hbg, hg2⟩, by simp⟩
    clear hBl hg2 hK2
    refine E.WL.val (E.y_assign rfl) rfl rfl rfl ?_
    refine E.WL.done ?_
    refine E.KQ.then_n ?_
    refine E.W.seq ?_
    refine E.W.region ?_
    refine E.WL.val (E.y_move rfl) rfl rfl rfl ?_
    refine E.WL.val (E.y_move rfl) rfl rfl rfl ?_
    refine E.WL.val (E.y_nilCheck rfl) rfl rfl rfl ?_
    refine E.WL.val (E.y_fld Tryd.underlying81 rfl Tryd.sizeOf4 rfl) rfl rfl rfl ?_
    refine E.WL.val (E.y_load rfl (E.At.ld1 Tryd.isAgg4 (hb.at0 0 rfl) 1 rfl)) rfl rfl rfl ?_
    refine E.WL.val (E.y_move rfl) rfl rfl rfl ?_
    refine E.WL.val (E.y_move rfl) rfl rfl rfl ?_
    refine E.WL.val (E.y_gtr rfl rfl) rfl rfl rfl ?_
    refine E.WL.as 39 rfl (show _ = Value.bool false from rfl) ?_
    refine E.WL.val (E.y_pick_f rfl rfl) rfl rfl rfl ?_
    refine E.WL.val (E.y_nilCheck rfl) rfl rfl rfl ?_
    refine E.WL.val (E.y_fld Tryd.underlying81 rfl Tryd.sizeOf4 rfl) rfl rfl rfl ?_
    refine E.WL.store hb 0 1 rfl rfl rfl Tryd.sizeOf4 rfl rfl rfl (E.allOne rfl) rfl ?_
    have hT := hb.hasT 0 rfl
    clear hb; intro w5 hb hO
    replace hkp := Keeps.trans hkp (Keeps.only hO hT (by decide))
    clear hT
    clear hO
    refine E.WL.done ?_
    refine E.KQ.then_n ?_
    refine E.W.region ?_
    refine E.WL.val (E.y_move rfl) rfl rfl rfl ?_
    refine E.WL.val (E.y_move rfl) rfl rfl rfl ?_
    refine E.WL.val (E.y_conv (by rw [Tryd.underlying28]; rfl) Tryd.underlying3 rfl (Go.IntWalk.i64_in _ (by decide))) rfl rfl rfl ?_
    refine E.WL.mkslice (T := 3) (cs := [.int .i64 1]) hb rfl (fun _ => by kernel_rfl) rfl rfl ?_
    clear hb; intro B6 w7 hb hX _
    replace hkp := Keeps.trans hkp (Keeps.ext hX)
    clear hX
    refine E.WL.append Tryd.underlying23 (i := Tryd.t3) (size := 1) (bytes := 8) (by kernel_rfl) rfl rfl rfl rfl (by decide) rfl rfl (World.ownsRow_nil _ base 3 1) (hb.at0 0 rfl) rfl (E.allOne rfl) (by decide) (by decide) hb.le rfl rfl (fun v2 w6 own6 hg6 _ => ?_)
    have hE6 : Ext _ w6 := grown_below (Below.refl _ _) hg6 (Nat.le_refl _) (fun k hk => by cases hk)
    replace hb := (hb.drop (List.Sublist.cons _ (List.Sublist.refl _))).ext hE6
    replace hkp := Keeps.trans hkp (Keeps.ext hE6)
    clear hE6 hg6
    refine E.WL.val (E.y_assign rfl) rfl rfl rfl ?_
    refine E.WL.done ?_
    refine E.KQ.block_n ?_
    refine E.KQ.then_n ?_
    refine E.W.region ?_
    refine E.WL.val (E.y_move rfl) rfl rfl rfl ?_
    refine E.WL.val (E.y_sub rfl rfl (Go.IntWalk.u64_in _ (by constructor <;> simp))) rfl rfl rfl ?_
    refine E.WL.val (E.y_assign rfl) rfl rfl rfl ?_
    refine E.WL.done ?_
    exact E.KQ.next (ι := Nat × Value × List Value) (1, v2, [.int .i64 1]) (by exact .cons rfl (.cons rfl (.cons rfl .nil))) ⟨hkp, hb, Nat.le_refl _, (by simpa using own6), fun h => absurd h (show ¬ 1 = 0 by decide), fun _ => rfl⟩ (by show 1 - 1 < 1 - 0; decide)
  · skip
    replace hg21 := of_decide_eq_false hg21
    obtain rfl : k = 1 := by simp only at hg21; omega
    obtain rfl := hxs rfl
    refine E.WL.off rfl rfl rfl ?_
    refine E.WL.off rfl rfl rfl ?_
    refine E.WL.off rfl rfl rfl ?_
    refine E.WL.off rfl rfl rfl ?_
    refine E.WL.off rfl rfl rfl ?_
    refine E.WL.val (E.y_pick_f rfl rfl) rfl rfl rfl ?_
    refine E.WL.done ?_
    refine E.KQ.then_n ?_
    refine E.W.cond_f rfl ?_
    refine E.W.exit ?_
    refine E.KQ.then_e ?_
    refine E.KQ.loop_e ?_
    refine E.KQ.block_e ?_
    refine E.KQ.then_n ?_
    refine E.W.seq ?_
    refine E.W.region ?_
    refine E.WL.val (E.y_move rfl) rfl rfl rfl ?_
    refine E.WL.val (E.y_assign rfl) rfl rfl rfl ?_
    refine E.WL.done ?_
    refine E.KQ.then_n ?_
    refine E.W.ret ?_
    refine E.KQ.ret1 Tryd.results59 rfl ?_
    exact ⟨_, rfl, ⟨_, rfl, own⟩, (hb.get (i := 0) rfl).2, hb.below, hkp⟩
end Go.Proofs.YtmnnbnajnfdncaaDoor
