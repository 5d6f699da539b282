/- Walks: a check of all bytes, numbers as bytes, frames. -/
import Derived.Test.YtmnnbnajnfdncaaDoorQ1
set_option linter.unusedVariables false
set_option linter.unusedSimpArgs false
namespace Go.Proofs.YtmnnbnajnfdncaaDoor
open Go.RowKit E
theorem conv_byte (n i : Nat) : IntKind.u8.wrap ((n : Int) / (2 : Int) ^ (8 * i)) = ((UInt8.ofNat (n / 256 ^ i)).toNat : Int) := by
  have e : (n : Int) / (2 : Int) ^ (8 * i) = ((n / 256 ^ i : Nat) : Int) := by
    rw [Int.natCast_ediv, Int.natCast_pow, Int.pow_mul]; rfl
  rw [e, IntKind.wrap_u8, UInt8.toNat_ofNat']
  simp
def lenF (n : Nat) : Nat := if n = 0 then 0 else Nat.log2 n + 1
def lenL : List UInt8 := (List.range 256).map fun n => UInt8.ofNat (lenF n)
theorem lenF_le {n : Nat} (h : n < 256) (h0 : 0 < n) : 1 ≤ lenF n ∧ lenF n ≤ 8 := by
  unfold lenF
  rw [if_neg (by omega)]
  have := (Nat.log2_lt (n := n) (k := 8) (by omega)).2 h
  omega
theorem lenF_lt {n : Nat} (h : n < 256) : lenF n ≤ 8 := by
  rcases Nat.eq_zero_or_pos n with h0 | h0
  · subst h0; decide
  · exact (lenF_le h h0).2
theorem lenTab_lt {s : ByteArray} (hs : s.data.toList = lenL) {n : Nat} (h : n < 256) : (n : Int).toNat < s.size := by
  have : s.size = 256 := by
    rw [← bytesOf_length]; unfold bytesOf; rw [hs]; simp [lenL]
  rw [this]; exact h
theorem lenTab_at {s : ByteArray} (hs : s.data.toList = lenL) {n : Nat} (h : n < 256) (h1 : (n : Int).toNat < s.size) : ((s[(n : Int).toNat]'h1).toNat : Int) = (lenF n : Int) := by
  have h1' : n < s.size := h1
  have e := bytesOf_get s h1'
  unfold bytesOf at e
  rw [hs] at e
  unfold lenL at e
  rw [List.getElem?_map, List.getElem?_range h] at e
  simp only [Option.map_some, Option.some.injEq] at e
  show ((s[n]'h1').toNat : Int) = _
  rw [← e, UInt8.toNat_ofNat']
  have := lenF_lt h
  rw [Nat.mod_eq_of_lt (by omega)]
def kN (n : Nat) : Nat := if n = 0 then 0 else 1
theorem kN_cases (n : Nat) : (n = 0 ∧ kN n = 0) ∨ (0 < n ∧ kN n = 1) := by
  unfold kN; split
  · exact .inl ⟨by assumption, rfl⟩
  · exact .inr ⟨by omega, rfl⟩
theorem kN_of {n : Nat} (h : n < 256) : Value.int .i64 (((lenF n : Nat) : Int) + 7 / 1 * 1 - 0 |> fun x => x / 8) = Value.int .i64 ((kN n : Nat) : Int) := by
  congr 1
  rcases kN_cases n with ⟨h0, h1⟩ | ⟨h0, h1⟩
  · subst h0; decide
  · have := lenF_le h h0
    rw [h1]; simp only; omega
def numL (n : Nat) : List UInt8 := if n = 0 then [0] else [1, UInt8.ofNat n]
theorem numP_eq (n : Nat) : numP n = ⟨(numL n).toArray⟩ := by unfold numP numL; split <;> rfl
def numCells (n k i : Nat) : List Value := .int .u8 (k : Int) :: (if i = 0 then (List.replicate k 0).map byteV else [byteV (UInt8.ofNat n)])
theorem numCells_all {n k : Nat} (h : (n = 0 ∧ k = 0) ∨ (0 < n ∧ k = 1)) : numCells n k k = (numL n).map byteV ∧ (numL n).length = k + 1 := by
  rcases h with ⟨rfl, rfl⟩ | ⟨h, rfl⟩
  · exact ⟨rfl, rfl⟩
  · unfold numCells numL
    rw [if_neg (by decide), if_neg (by omega)]
    exact ⟨rfl, rfl⟩
theorem numCells_first (n k : Nat) : ovw ((List.replicate (k + 1) 0).map byteV) 0 [.int .u8 (k : Int)] = numCells n k 0 := by
  simp [ovw, numCells, List.replicate_succ]
set_option maxHeartbeats 400000 in
theorem crc_calls (w : World) (s : ByteArray) (hs : s.size ≤ 100000) :
    Calls Tryd.prog 11 #[(.string s)] w (Ret fun u w' => u = .int .u16 (crcP s) ∧ Ext w w') := by
  have hb := E.Bx.start w (base := w.heap.size) (Nat.le_refl _)
  refine E.enter Tryd.func11 rfl Tryd.ntmps11 [(.string s)] rfl ?_
  refine E.W.seq ?_
  refine E.W.region ?_
  refine E.WL.val (E.y_assign rfl) rfl rfl rfl ?_
  refine E.WL.done ?_
  refine E.KQ.then_n ?_
  refine E.W.scope ?_
  refine E.W.seq ?_
  refine E.W.region ?_
  refine E.WL.val (E.y_assign rfl) rfl rfl rfl ?_
  refine E.WL.done ?_
  refine E.KQ.then_n ?_
  refine E.W.seq ?_
  refine E.W.label ?_
  refine E.KQ.then_n ?_
  refine E.W.seq ?_
  refine E.W.seq ?_
  refine E.W.region ?_
  refine E.WL.val (E.y_assign rfl) rfl rfl rfl ?_
  refine E.WL.done ?_
  refine E.KQ.then_n ?_
  refine E.W.block ?_
  refine E.W.loop (ι := Nat) (fun k => [(0, .string s), (3, .int .u16 (sumL ((bytesOf s).take k))), (4, .int .i64 (k : Nat))]) (fun k w' => Bx w.heap.size w w' [] ∧ k ≤ s.size) (fun k => s.size - k) (0) (by exact (.cons rfl (.cons rfl (.cons rfl .nil)))) ⟨hb, Nat.zero_le _⟩ (fun k w1 hJ => ?_)
  clear hb
  obtain ⟨hb, hk⟩ := hJ
  refine E.W.seq ?_
  refine E.W.block ?_
  refine E.W.seq ?_
  refine E.W.seq ?_
  refine E.W.region ?_
  refine E.WL.val (E.y_move rfl) rfl rfl rfl ?_
  refine E.WL.val (E.y_move rfl) rfl rfl rfl ?_
  refine E.WL.val (E.y_lens Tryd.underlying9 rfl) rfl rfl rfl ?_
  refine E.WL.val (E.y_eql rfl rfl) rfl rfl rfl ?_
  refine E.WL.done ?_
  refine E.KQ.then_n ?_
  refine E.W.condT 11 rfl (fun hc11 => ?_) (fun hc11 => ?_)
  · replace hc11 := of_decide_eq_true hc11
    have hke : k = s.size := by omega
    refine E.W.exit ?_
    refine E.KQ.then_e ?_
    refine E.KQ.block_o rfl ?_
    refine E.KQ.then_e ?_
    refine E.KQ.loop_e ?_
    refine E.KQ.block_e ?_
    refine E.KQ.then_n ?_
    refine E.W.seq ?_
    refine E.W.region ?_
    refine E.WL.val (E.y_move rfl) rfl rfl rfl ?_
    refine E.WL.val (E.y_assign rfl) rfl rfl rfl ?_
    refine E.WL.done ?_
    refine E.KQ.then_n ?_
    refine E.W.ret ?_
    refine E.KQ.goto_r ?_
    refine E.KQ.ret1 Tryd.results11 rfl ?_
    exact ⟨_, rfl, by rw [hke, List.take_of_length_le (by rw [bytesOf_length]; exact Nat.le_refl _)]; rfl, hb.below⟩
  · replace hc11 := of_decide_eq_false hc11
    have hkl : k < s.size := by omega
    refine E.W.skip ?_
    refine E.KQ.then_n ?_
    refine E.W.seq ?_
    refine E.W.region ?_
    refine E.WL.val (E.y_move rfl) rfl rfl rfl ?_
    refine E.WL.val (E.y_move rfl) rfl rfl rfl ?_
    refine E.WL.val (E.y_move rfl) rfl rfl rfl ?_
    refine E.WL.val (E.y_idxs Tryd.underlying9 rfl rfl (by omega) (by simpa using hkl) (show _ = (((s[k]'hkl).toNat : Nat) : Int) from rfl)) rfl rfl rfl ?_
    refine E.WL.val (E.y_conv (by rw [Tryd.underlying5]; rfl) Tryd.underlying42 rfl (Go.IntWalk.u16_in _ (by have := (s[k]'hkl).toNat_lt; omega))) rfl rfl rfl ?_
    refine E.WL.val (E.y_shl (m := 8) rfl rfl (by decide)) rfl rfl rfl ?_
    refine E.WL.val (E.y_xor rfl rfl) rfl rfl rfl ?_
    refine E.WL.val (E.y_assign rfl) rfl rfl rfl ?_
    refine E.WL.done ?_
    refine E.KQ.then_n ?_
    refine E.W.seq ?_
    refine E.W.region ?_
    refine E.WL.val (E.y_move rfl) rfl rfl rfl ?_
    refine E.WL.done ?_
    refine E.KQ.then_n ?_
    refine E.W.block ?_
    refine E.W.loop (ι := Nat) (fun j => [(0, .string s), (3, .int .u16 (rnds j (xorI .u16 (sumL ((bytesOf s).take k)) (IntKind.u16.wrap (((s[k]'hkl).toNat : Int) * (2 : Int) ^ 8))))), (4, .int .i64 (k : Nat)), (19, .int .i64 (j : Nat))]) (fun j w' => Bx w.heap.size w w' [] ∧ j ≤ 8) (fun j => 8 - j) (0) (by exact (.cons rfl (.cons rfl (.cons rfl (.cons rfl .nil))))) ⟨hb, Nat.zero_le _⟩ (fun j w2 hJ => ?_)
    clear hb
    obtain ⟨hb, hj⟩ := hJ
    refine E.W.seq ?_
    refine E.W.region ?_
    refine E.WL.val (E.y_lss rfl rfl) rfl rfl rfl ?_
    refine E.WL.done ?_
    refine E.KQ.then_n ?_
    refine E.W.seq ?_
    refine E.W.condT 20 rfl (fun hc20 => ?_) (fun hc20 => ?_)
    · replace hc20 := of_decide_eq_true hc20
      refine E.W.skip ?_
      refine E.KQ.then_n ?_
      refine E.W.seq ?_
      refine E.W.block ?_
      refine E.W.seq ?_
      refine E.W.region ?_
      refine E.WL.val (E.y_move rfl) rfl rfl rfl ?_
      refine E.WL.val (E.y_shr (m := 15) rfl rfl (by decide)) rfl rfl rfl ?_
      refine E.WL.val (E.y_assign rfl) rfl rfl rfl ?_
      refine E.WL.done ?_
      refine E.KQ.then_n ?_
      refine E.W.region ?_
      refine E.WL.val (E.y_move rfl) rfl rfl rfl ?_
      refine E.WL.val (E.y_shl (m := 1) rfl rfl (by decide)) rfl rfl rfl ?_
      refine E.WL.val (E.y_move rfl) rfl rfl rfl ?_
      refine E.WL.val (E.y_mulw rfl rfl) rfl rfl rfl ?_
      refine E.WL.val (E.y_xor rfl rfl) rfl rfl rfl ?_
      refine E.WL.val (E.y_assign rfl) rfl rfl rfl ?_
      refine E.WL.done ?_
      refine E.KQ.block_n ?_
      refine E.KQ.then_n ?_
      refine E.W.region ?_
      refine E.WL.val (E.y_add rfl rfl (Go.IntWalk.i64_in _ (by omega))) rfl rfl rfl ?_
      refine E.WL.val (E.y_move rfl) rfl rfl rfl ?_
      refine E.WL.done ?_
      exact E.KQ.next (j + 1) (by exact .cons rfl (.cons rfl (.cons rfl (.cons rfl .nil)))) ⟨hb, by omega⟩ (by show 8 - (j + 1) < 8 - j; omega)
    · replace hc20 := of_decide_eq_false hc20
      obtain rfl : j = 8 := by omega
      refine E.W.exit ?_
      refine E.KQ.then_e ?_
      refine E.KQ.loop_e ?_
      refine E.KQ.block_e ?_
      refine E.KQ.block_n ?_
      refine E.KQ.then_n ?_
      refine E.W.region ?_
      refine E.WL.val (E.y_move rfl) rfl rfl rfl ?_
      refine E.WL.val (E.y_add rfl rfl (Go.IntWalk.i64_in _ (by omega))) rfl rfl rfl ?_
      refine E.WL.val (E.y_assign rfl) rfl rfl rfl ?_
      refine E.WL.done ?_
      exact E.KQ.next (k + 1) (by exact .cons rfl (.cons (by rw [sumL_take hkl]; rfl) (.cons rfl .nil))) ⟨hb, by omega⟩ (by show s.size - (k + 1) < s.size - k; omega)

set_option maxHeartbeats 400000 in
theorem fixed_calls (w : World) (n k : Nat) (hk : k ≤ 8) :
    Calls Tryd.prog 32 #[(.int .u64 (n : Nat)), (.int .i64 (k : Nat))] w (Ret fun u w' => u = .string (fixP n k) ∧ Ext w w') := by
  have hb := E.Bx.start w (base := w.heap.size) (Nat.le_refl _)
  refine E.enter Tryd.func32 rfl Tryd.ntmps32 [(.int .u64 (n : Nat)), (.int .i64 (k : Nat))] rfl ?_
  refine E.W.seq ?_
  refine E.W.region ?_
  refine E.WL.val (E.y_assign rfl) rfl rfl rfl ?_
  refine E.WL.done ?_
  refine E.KQ.then_n ?_
  refine E.W.seq ?_
  refine E.W.region ?_
  refine E.WL.val (E.y_move rfl) rfl rfl rfl ?_
  refine E.WL.mkbytes (m := k) hb Tryd.underlying94 (i := Tryd.t5) (by kernel_rfl) rfl rfl rfl rfl rfl (by omega) rfl rfl ?_
  clear hb; intro B8 w1 hb _ _
  refine E.WL.val (E.y_assign rfl) rfl rfl rfl ?_
  refine E.WL.done ?_
  refine E.KQ.then_n ?_
  refine E.W.seq ?_
  refine E.W.seq ?_
  refine E.W.region ?_
  refine E.WL.val (E.y_move rfl) rfl rfl rfl ?_
  refine E.WL.val (E.y_lenS Tryd.underlying94 rfl) rfl rfl rfl ?_
  refine E.WL.val (E.y_move rfl) rfl rfl rfl ?_
  refine E.WL.done ?_
  refine E.KQ.then_n ?_
  refine E.W.block ?_
  refine E.W.loop (ι := Nat) (fun i => [(0, .int .u64 (n : Nat)), (1, .int .i64 (k : Nat)), (5, .slice (some ⟨B8, 0, none⟩) k k), (10, .int .i64 (k : Nat)), (11, .int .i64 (i : Nat))]) (fun i w' => Bx w.heap.size w w' [(B8, (fixAt n k i).map byteV, 5)] ∧ i ≤ k) (fun i => k - i) (0) (by exact (.cons rfl (.cons rfl (.cons rfl (.cons rfl (.cons rfl .nil)))))) ⟨by rw [fixAt_zero]; exact hb, Nat.zero_le _⟩ (fun i w2 hJ => ?_)
  clear hb
  obtain ⟨hb, hi⟩ := hJ
  refine E.W.seq ?_
  refine E.W.region ?_
  refine E.WL.val (E.y_lss rfl rfl) rfl rfl rfl ?_
  refine E.WL.done ?_
  refine E.KQ.then_n ?_
  refine E.W.seq ?_
  refine E.W.condT 12 rfl (fun hc12 => ?_) (fun hc12 => ?_)
  · replace hc12 := of_decide_eq_true hc12
    have hil : i < k := by omega
    refine E.W.skip ?_
    refine E.KQ.then_n ?_
    refine E.W.seq ?_
    refine E.W.block ?_
    refine E.W.seq ?_
    refine E.W.region ?_
    refine E.WL.val (E.y_move rfl) rfl rfl rfl ?_
    refine E.WL.val (E.y_assign rfl) rfl rfl rfl ?_
    refine E.WL.done ?_
    refine E.KQ.then_n ?_
    refine E.W.region ?_
    refine E.WL.val (E.y_move rfl) rfl rfl rfl ?_
    refine E.WL.val (E.y_move rfl) rfl rfl rfl ?_
    refine E.WL.val (E.y_sub rfl rfl (Go.IntWalk.i64_in _ (by omega))) rfl rfl rfl ?_
    refine E.WL.val (E.y_move rfl) rfl rfl rfl ?_
    refine E.WL.val (E.y_sub rfl rfl (Go.IntWalk.i64_in _ (by omega))) rfl rfl rfl ?_
    refine E.WL.val (E.y_move rfl) rfl rfl rfl ?_
    refine E.WL.val (E.y_move rfl) rfl rfl rfl ?_
    refine E.WL.val (E.y_mul rfl rfl (Go.IntWalk.i64_in _ (by omega))) rfl rfl rfl ?_
    refine E.WL.as 21 rfl (show _ = Value.int .i64 ((8 * i : Nat) : Int) from by simp) ?_
    refine E.WL.val (E.y_shr (m := 8 * i) rfl rfl (by show 8 * i ≤ 64; omega)) rfl rfl rfl ?_
    refine E.WL.val (E.y_conv (j := ((UInt8.ofNat (n / 256 ^ i)).toNat : Int)) (by rw [Tryd.underlying28]; rfl) Tryd.underlying5 rfl (conv_byte n i)) rfl rfl rfl ?_
    refine E.WL.val (E.y_idxS Tryd.underlying94 Tryd.sizeOf5 rfl rfl (by omega) (by omega)) rfl rfl rfl ?_
    have e9 : ((k : Int) - 1 - (i : Int)).toNat * 1 = k - 1 - i := by omega
    refine E.WL.store (vs := [byteV (UInt8.ofNat (n / 256 ^ i))]) hb 0 (((k : Int) - 1 - (i : Int)).toNat * 1) rfl rfl rfl Tryd.sizeOf5 rfl rfl (by rw [e9]; simp [fixAt_len] <;> omega) (E.allOne rfl) rfl ?_
    clear hb; intro w3 hb _
    rw [e9] at hb
    replace hb : Bx w.heap.size w w3 [(B8, (fixAt n k (i + 1)).map byteV, 5)] := by rw [← fixAt_put hil]; exact hb
    refine E.WL.done ?_
    refine E.KQ.block_n ?_
    refine E.KQ.then_n ?_
    refine E.W.region ?_
    refine E.WL.val (E.y_add rfl rfl (Go.IntWalk.i64_in _ (by omega))) rfl rfl rfl ?_
    refine E.WL.val (E.y_move rfl) rfl rfl rfl ?_
    refine E.WL.done ?_
    exact E.KQ.next (i + 1) (by exact .cons rfl (.cons rfl (.cons rfl (.cons rfl (.cons rfl .nil))))) ⟨hb, by omega⟩ (by show k - (i + 1) < k - i; omega)
  · replace hc12 := of_decide_eq_false hc12
    obtain rfl : i = k := by omega
    rw [fixAt_all] at hb
    refine E.W.exit ?_
    refine E.KQ.then_e ?_
    refine E.KQ.loop_e ?_
    refine E.KQ.block_e ?_
    refine E.KQ.then_n ?_
    refine E.W.seq ?_
    refine E.W.region ?_
    refine E.WL.val (E.y_move rfl) rfl rfl rfl ?_
    refine E.WL.val (E.y_bytes (bs := fixL n i) Tryd.underlying94 Tryd.underlying5 Tryd.underlying9 rfl (by simp [fixL]) (hb.at0 0 rfl)) rfl rfl rfl ?_
    refine E.WL.val (E.y_assign rfl) rfl rfl rfl ?_
    refine E.WL.done ?_
    refine E.KQ.then_n ?_
    refine E.W.ret ?_
    refine E.KQ.ret1 Tryd.results32 rfl ?_
    exact ⟨_, rfl, rfl, hb.below⟩

set_option maxRecDepth 100000 in
set_option maxHeartbeats 400000 in
theorem len_calls (w : World) (n : Nat) (h : n < 256) :
    Calls Tryd.prog 55 #[(.int .u64 (n : Nat))] w (Ret fun u w' => u = .int .i64 (lenF n : Nat) ∧ Ext w w') := by
  have hb := E.Bx.start w (base := w.heap.size) (Nat.le_refl _)
  refine E.enter Tryd.func55 rfl Tryd.ntmps55 [(.int .u64 (n : Nat))] rfl ?_
  refine E.W.seq ?_
  refine E.W.region ?_
  refine E.WL.val (E.y_assign rfl) rfl rfl rfl ?_
  refine E.WL.done ?_
  refine E.KQ.then_n ?_
  refine E.W.seq ?_
  refine E.W.seq ?_
  refine E.W.region ?_
  refine E.WL.val (E.y_move rfl) rfl rfl rfl ?_
  refine E.WL.val (E.y_geq rfl rfl) rfl rfl rfl ?_
  refine E.WL.done ?_
  refine E.KQ.then_n ?_
  refine E.W.condT 4 rfl (fun hc4 => ?_) (fun hc4 => ?_)
  · replace hc4 := of_decide_eq_true hc4
    exact absurd hc4 (by omega)
  · replace hc4 := of_decide_eq_false hc4
    refine E.W.skip ?_
    refine E.KQ.then_n ?_
    refine E.W.seq ?_
    refine E.W.seq ?_
    refine E.W.region ?_
    refine E.WL.val (E.y_move rfl) rfl rfl rfl ?_
    refine E.WL.val (E.y_geq rfl rfl) rfl rfl rfl ?_
    refine E.WL.done ?_
    refine E.KQ.then_n ?_
    refine E.W.condT 8 rfl (fun hc8 => ?_) (fun hc8 => ?_)
    · replace hc8 := of_decide_eq_true hc8
      exact absurd hc8 (by omega)
    · replace hc8 := of_decide_eq_false hc8
      refine E.W.skip ?_
      refine E.KQ.then_n ?_
      refine E.W.seq ?_
      refine E.W.seq ?_
      refine E.W.region ?_
      refine E.WL.val (E.y_move rfl) rfl rfl rfl ?_
      refine E.WL.val (E.y_geq rfl rfl) rfl rfl rfl ?_
      refine E.WL.done ?_
      refine E.KQ.then_n ?_
      refine E.W.condT 14 rfl (fun hc14 => ?_) (fun hc14 => ?_)
      · replace hc14 := of_decide_eq_true hc14
        exact absurd hc14 (by omega)
      · replace hc14 := of_decide_eq_false hc14
        refine E.W.skip ?_
        refine E.KQ.then_n ?_
        refine E.W.seq ?_
        refine E.W.region ?_
        refine E.WL.val (E.y_move rfl) rfl rfl rfl ?_
        refine E.WL.val (E.y_move rfl) rfl rfl rfl ?_
        refine E.WL.val (E.y_conv (by rw [Tryd.underlying28]; rfl) Tryd.underlying5 rfl (Go.IntWalk.u8_in _ (by omega))) rfl rfl rfl ?_
        refine E.WL.val (E.y_idxs Tryd.underlying9 rfl rfl (by omega) (lenTab_lt (by decide +kernel) h) (lenTab_at (by decide +kernel) h _)) rfl rfl rfl ?_
        refine E.WL.val (E.y_conv (by rw [Tryd.underlying5]; rfl) Tryd.underlying3 rfl (Go.IntWalk.i64_in _ (by have := lenF_lt h; omega))) rfl rfl rfl ?_
        refine E.WL.val (E.y_add rfl rfl (Go.IntWalk.i64_in _ (by have := lenF_lt h; omega))) rfl rfl rfl ?_
        refine E.WL.val (E.y_assign rfl) rfl rfl rfl ?_
        refine E.WL.done ?_
        refine E.KQ.then_n ?_
        refine E.W.ret ?_
        refine E.KQ.ret1 Tryd.results55 rfl ?_
        exact ⟨_, rfl, by rw [Int.zero_add], hb.below⟩

set_option maxHeartbeats 400000 in
theorem number_calls (w : World) (n : Nat) (h : n < 256) :
    Calls Tryd.prog 33 #[(.int .u64 (n : Nat))] w (Ret fun u w' => u = .string (numP n) ∧ Ext w w') := by
  have hb := E.Bx.start w (base := w.heap.size) (Nat.le_refl _)
  refine E.enter Tryd.func33 rfl Tryd.ntmps33 [(.int .u64 (n : Nat))] rfl ?_
  refine E.W.seq ?_
  refine E.W.region ?_
  refine E.WL.val (E.y_assign rfl) rfl rfl rfl ?_
  refine E.WL.done ?_
  refine E.KQ.then_n ?_
  refine E.W.seq ?_
  refine E.W.region ?_
  refine E.WL.val (E.y_move rfl) rfl rfl rfl ?_
  refine E.WL.call (len_calls w n h) Tryd.call55 rfl rfl rfl ?_
  rintro _ w1 ⟨rfl, hX⟩
  replace hb := hb.ext hX
  clear hX
  refine E.WL.val (E.y_add rfl rfl (Go.IntWalk.i64_in _ (by have := lenF_lt h; omega))) rfl rfl rfl ?_
  refine E.WL.val (E.y_quo rfl rfl (by have := lenF_lt h; omega) (by decide) (Go.IntWalk.i64_in _ (by have := lenF_lt h; omega))) rfl rfl rfl ?_
  refine E.WL.as 9 rfl (show _ = Value.int .i64 ((kN n : Nat) : Int) from kN_of h) ?_
  have hkc := kN_cases n
  generalize kN n = k at hkc
  refine E.WL.val (E.y_assign rfl) rfl rfl rfl ?_
  refine E.WL.done ?_
  refine E.KQ.then_n ?_
  refine E.W.seq ?_
  refine E.W.region ?_
  refine E.WL.val (E.y_move rfl) rfl rfl rfl ?_
  refine E.WL.val (E.y_add rfl rfl (Go.IntWalk.i64_in _ (by omega))) rfl rfl rfl ?_
  refine E.WL.as 11 rfl (show _ = Value.int .i64 ((k + 1 : Nat) : Int) from by simp) ?_
  refine E.WL.mkbytes (m := k + 1) hb Tryd.underlying94 (i := Tryd.t5) (by kernel_rfl) rfl rfl rfl rfl rfl (by omega) rfl rfl ?_
  clear hb; intro B8 w2 hb _ _
  refine E.WL.val (E.y_assign rfl) rfl rfl rfl ?_
  refine E.WL.done ?_
  refine E.KQ.then_n ?_
  refine E.W.seq ?_
  refine E.W.region ?_
  refine E.WL.val (E.y_move rfl) rfl rfl rfl ?_
  refine E.WL.val (E.y_move rfl) rfl rfl rfl ?_
  refine E.WL.val (E.y_conv (by rw [Tryd.underlying3]; rfl) Tryd.underlying5 rfl (Go.IntWalk.u8_in _ (by omega))) rfl rfl rfl ?_
  refine E.WL.val (E.y_idxS Tryd.underlying94 Tryd.sizeOf5 rfl rfl (by decide) (by omega)) rfl rfl rfl ?_
  have e9 : (0 : Int).toNat * 1 = 0 := by omega
  refine E.WL.store (vs := [.int .u8 (k : Int)]) hb 0 ((0 : Int).toNat * 1) rfl rfl rfl Tryd.sizeOf5 rfl rfl (by rw [e9]; simp [ovw] <;> omega) (E.allOne rfl) rfl ?_
  clear hb; intro w3 hb _
  rw [e9] at hb
  replace hb : Bx w.heap.size w w3 [(B8, numCells n k 0, 5)] := by rw [← numCells_first]; exact hb
  refine E.WL.done ?_
  refine E.KQ.then_n ?_
  refine E.W.seq ?_
  refine E.W.seq ?_
  refine E.W.region ?_
  refine E.WL.val (E.y_move rfl) rfl rfl rfl ?_
  refine E.WL.val (E.y_move rfl) rfl rfl rfl ?_
  refine E.WL.done ?_
  refine E.KQ.then_n ?_
  refine E.W.block ?_
  refine E.W.loop (ι := Nat) (fun i => [(0, .int .u64 (n : Nat)), (3, .int .i64 (k : Nat)), (4, .slice (some ⟨B8, 0, none⟩) (k + 1) (k + 1)), (17, .int .i64 (k : Nat)), (18, .int .i64 (i : Nat))]) (fun i w' => Bx w.heap.size w w' [(B8, numCells n k i, 5)] ∧ i ≤ k) (fun i => k - i) (0) (by exact (.cons rfl (.cons rfl (.cons rfl (.cons rfl (.cons rfl .nil)))))) ⟨hb, Nat.zero_le _⟩ (fun i w4 hJ => ?_)
  clear hb
  obtain ⟨hb, hi⟩ := hJ
  refine E.W.seq ?_
  refine E.W.region ?_
  refine E.WL.val (E.y_lss rfl rfl) rfl rfl rfl ?_
  refine E.WL.done ?_
  refine E.KQ.then_n ?_
  refine E.W.seq ?_
  refine E.W.condT 19 rfl (fun hc19 => ?_) (fun hc19 => ?_)
  · replace hc19 := of_decide_eq_true hc19
    obtain ⟨rfl, rfl⟩ : i = 0 ∧ k = 1 := by omega
    refine E.W.skip ?_
    refine E.KQ.then_n ?_
    refine E.W.seq ?_
    refine E.W.block ?_
    refine E.W.seq ?_
    refine E.W.region ?_
    refine E.WL.val (E.y_move rfl) rfl rfl rfl ?_
    refine E.WL.val (E.y_assign rfl) rfl rfl rfl ?_
    refine E.WL.done ?_
    refine E.KQ.then_n ?_
    refine E.W.region ?_
    refine E.WL.val (E.y_move rfl) rfl rfl rfl ?_
    refine E.WL.val (E.y_move rfl) rfl rfl rfl ?_
    refine E.WL.val (E.y_move rfl) rfl rfl rfl ?_
    refine E.WL.val (E.y_sub rfl rfl (Go.IntWalk.i64_in _ (by omega))) rfl rfl rfl ?_
    refine E.WL.val (E.y_move rfl) rfl rfl rfl ?_
    refine E.WL.val (E.y_move rfl) rfl rfl rfl ?_
    refine E.WL.val (E.y_mul rfl rfl (Go.IntWalk.i64_in _ (by omega))) rfl rfl rfl ?_
    refine E.WL.as 27 rfl (show _ = Value.int .i64 ((8 * 0 : Nat) : Int) from by simp) ?_
    refine E.WL.val (E.y_shr (m := 8 * 0) rfl rfl (by decide)) rfl rfl rfl ?_
    refine E.WL.val (E.y_conv (j := ((UInt8.ofNat (n / 256 ^ 0)).toNat : Int)) (by rw [Tryd.underlying28]; rfl) Tryd.underlying5 rfl (conv_byte n 0)) rfl rfl rfl ?_
    refine E.WL.val (E.y_idxS Tryd.underlying94 Tryd.sizeOf5 rfl rfl (by decide) (by decide)) rfl rfl rfl ?_
    have e9 : (((1 : Nat) : Int) - ((0 : Nat) : Int)).toNat * 1 = 1 := by omega
    refine E.WL.store (vs := [byteV (UInt8.ofNat (n / 256 ^ 0))]) hb 0 ((((1 : Nat) : Int) - ((0 : Nat) : Int)).toNat * 1) rfl rfl rfl Tryd.sizeOf5 rfl rfl (by rw [e9]; simp [numCells] <;> omega) (E.allOne rfl) rfl ?_
    clear hb; intro w5 hb _
    rw [e9] at hb
    have e8 : ovw (numCells n 1 0) 1 [byteV (UInt8.ofNat (n / 256 ^ 0))] = numCells n 1 1 := by simp [ovw, numCells]
    rw [e8] at hb
    replace hb : Bx w.heap.size w w5 [(B8, numCells n 1 1, 5)] := hb
    refine E.WL.done ?_
    refine E.KQ.block_n ?_
    refine E.KQ.then_n ?_
    refine E.W.region ?_
    refine E.WL.val (E.y_add rfl rfl (Go.IntWalk.i64_in _ (by omega))) rfl rfl rfl ?_
    refine E.WL.val (E.y_move rfl) rfl rfl rfl ?_
    refine E.WL.done ?_
    exact E.KQ.next 1 (by exact .cons rfl (.cons rfl (.cons rfl (.cons rfl (.cons rfl .nil))))) ⟨hb, Nat.le_refl _⟩ (by show 1 - 1 < 1 - 0; decide)
  · replace hc19 := of_decide_eq_false hc19
    obtain rfl : i = k := by omega
    obtain ⟨hnc, hnl⟩ := numCells_all hkc
    rw [hnc] at hb
    refine E.W.exit ?_
    refine E.KQ.then_e ?_
    refine E.KQ.loop_e ?_
    refine E.KQ.block_e ?_
    refine E.KQ.then_n ?_
    refine E.W.seq ?_
    refine E.W.region ?_
    refine E.WL.val (E.y_move rfl) rfl rfl rfl ?_
    refine E.WL.val (E.y_bytes (bs := numL n) Tryd.underlying94 Tryd.underlying5 Tryd.underlying9 rfl hnl (hb.at0 0 rfl)) rfl rfl rfl ?_
    refine E.WL.val (E.y_assign rfl) rfl rfl rfl ?_
    refine E.WL.done ?_
    refine E.KQ.then_n ?_
    refine E.W.ret ?_
    refine E.KQ.ret1 Tryd.results33 rfl ?_
    exact ⟨_, rfl, by rw [numP_eq], hb.below⟩

set_option maxHeartbeats 400000 in
theorem text_calls (w : World) (s : ByteArray) (h : s.size < 256) :
    Calls Tryd.prog 35 #[(.string s)] w (Ret fun u w' => u = .string (textP s) ∧ Ext w w') := by
  have hb := E.Bx.start w (base := w.heap.size) (Nat.le_refl _)
  refine E.enter Tryd.func35 rfl Tryd.ntmps35 [(.string s)] rfl ?_
  refine E.W.seq ?_
  refine E.W.region ?_
  refine E.WL.val (E.y_assign rfl) rfl rfl rfl ?_
  refine E.WL.done ?_
  refine E.KQ.then_n ?_
  refine E.W.seq ?_
  refine E.W.region ?_
  refine E.WL.val (E.y_move rfl) rfl rfl rfl ?_
  refine E.WL.val (E.y_lens Tryd.underlying9 rfl) rfl rfl rfl ?_
  refine E.WL.val (E.y_conv (by rw [Tryd.underlying3]; rfl) Tryd.underlying28 rfl (Go.IntWalk.u64_in _ (by omega))) rfl rfl rfl ?_
  refine E.WL.call (number_calls w s.size h) Tryd.call33 rfl rfl rfl ?_
  rintro _ w1 ⟨rfl, hX⟩
  replace hb := hb.ext hX
  clear hX
  refine E.WL.val (E.y_move rfl) rfl rfl rfl ?_
  refine E.WL.val (E.y_sadd rfl rfl (by have := numP_size s.size; omega)) rfl rfl rfl ?_
  refine E.WL.val (E.y_assign rfl) rfl rfl rfl ?_
  refine E.WL.done ?_
  refine E.KQ.then_n ?_
  refine E.W.ret ?_
  refine E.KQ.ret1 Tryd.results35 rfl ?_
  exact ⟨_, rfl, rfl, hb.below⟩

set_option maxHeartbeats 400000 in
theorem value_calls (w : World) (s : ByteArray) (hs : s.size ≤ 7) :
    Calls Tryd.prog 43 #[(.string s)] w (Ret fun u w' => u = .int .u64 (valP s : Nat) ∧ Ext w w') := by
  have hb := E.Bx.start w (base := w.heap.size) (Nat.le_refl _)
  refine E.enter Tryd.func43 rfl Tryd.ntmps43 [(.string s)] rfl ?_
  refine E.W.seq ?_
  refine E.W.region ?_
  refine E.WL.val (E.y_assign rfl) rfl rfl rfl ?_
  refine E.WL.done ?_
  refine E.KQ.then_n ?_
  refine E.W.seq ?_
  refine E.W.region ?_
  refine E.WL.val (E.y_assign rfl) rfl rfl rfl ?_
  refine E.WL.done ?_
  refine E.KQ.then_n ?_
  refine E.W.seq ?_
  refine E.W.seq ?_
  refine E.W.region ?_
  refine E.WL.val (E.y_move rfl) rfl rfl rfl ?_
  refine E.WL.val (E.y_lens Tryd.underlying9 rfl) rfl rfl rfl ?_
  refine E.WL.val (E.y_move rfl) rfl rfl rfl ?_
  refine E.WL.done ?_
  refine E.KQ.then_n ?_
  refine E.W.block ?_
  refine E.W.loop (ι := Nat) (fun k => [(0, .string s), (3, .int .u64 (valL ((bytesOf s).take k) : Nat)), (6, .int .i64 s.size), (7, .int .i64 (k : Nat))]) (fun k w' => Bx w.heap.size w w' [] ∧ k ≤ s.size) (fun k => s.size - k) (0) (by exact (.cons rfl (.cons rfl (.cons rfl (.cons rfl .nil))))) ⟨hb, Nat.zero_le _⟩ (fun k w1 hJ => ?_)
  clear hb
  obtain ⟨hb, hk⟩ := hJ
  refine E.W.seq ?_
  refine E.W.region ?_
  refine E.WL.val (E.y_lss rfl rfl) rfl rfl rfl ?_
  refine E.WL.done ?_
  refine E.KQ.then_n ?_
  refine E.W.seq ?_
  refine E.W.condT 8 rfl (fun hc8 => ?_) (fun hc8 => ?_)
  · replace hc8 := of_decide_eq_true hc8
    have hkl : k < s.size := by omega
    have hv : valL ((bytesOf s).take k) < 256 ^ 7 := Nat.lt_of_lt_of_le (valL_lt _) (Nat.pow_le_pow_right (by decide) (by rw [List.length_take]; omega))
    refine E.W.skip ?_
    refine E.KQ.then_n ?_
    refine E.W.seq ?_
    refine E.W.block ?_
    refine E.W.seq ?_
    refine E.W.region ?_
    refine E.WL.val (E.y_move rfl) rfl rfl rfl ?_
    refine E.WL.val (E.y_assign rfl) rfl rfl rfl ?_
    refine E.WL.done ?_
    refine E.KQ.then_n ?_
    refine E.W.region ?_
    refine E.WL.val (E.y_move rfl) rfl rfl rfl ?_
    refine E.WL.val (E.y_shl (m := 8) rfl rfl (by decide)) rfl rfl rfl ?_
    refine E.WL.val (E.y_move rfl) rfl rfl rfl ?_
    refine E.WL.val (E.y_move rfl) rfl rfl rfl ?_
    refine E.WL.val (E.y_idxs Tryd.underlying9 rfl rfl (by omega) (by simpa using hkl) (show _ = (((s[k]'hkl).toNat : Nat) : Int) from rfl)) rfl rfl rfl ?_
    refine E.WL.val (E.y_conv (by rw [Tryd.underlying5]; rfl) Tryd.underlying28 rfl (Go.IntWalk.u64_in _ (by have := (s[k]'hkl).toNat_lt; omega))) rfl rfl rfl ?_
    refine E.WL.val (E.y_or rfl rfl) rfl rfl rfl ?_
    refine E.WL.as 16 rfl (show _ = Value.int .u64 (valL ((bytesOf s).take (k + 1)) : Nat) from by rw [valL_take hkl]; exact congrArg (Value.int .u64) (or_byte hv)) ?_
    refine E.WL.val (E.y_assign rfl) rfl rfl rfl ?_
    refine E.WL.done ?_
    refine E.KQ.block_n ?_
    refine E.KQ.then_n ?_
    refine E.W.region ?_
    refine E.WL.val (E.y_add rfl rfl (Go.IntWalk.i64_in _ (by omega))) rfl rfl rfl ?_
    refine E.WL.val (E.y_move rfl) rfl rfl rfl ?_
    refine E.WL.done ?_
    exact E.KQ.next (k + 1) (by exact .cons rfl (.cons rfl (.cons rfl (.cons rfl .nil)))) ⟨hb, by omega⟩ (by show s.size - (k + 1) < s.size - k; omega)
  · replace hc8 := of_decide_eq_false hc8
    have hke : k = s.size := by omega
    refine E.W.exit ?_
    refine E.KQ.then_e ?_
    refine E.KQ.loop_e ?_
    refine E.KQ.block_e ?_
    refine E.KQ.then_n ?_
    refine E.W.seq ?_
    refine E.W.region ?_
    refine E.WL.val (E.y_move rfl) rfl rfl rfl ?_
    refine E.WL.val (E.y_assign rfl) rfl rfl rfl ?_
    refine E.WL.done ?_
    refine E.KQ.then_n ?_
    refine E.W.ret ?_
    refine E.KQ.ret1 Tryd.results43 rfl ?_
    exact ⟨_, rfl, by rw [hke, List.take_of_length_le (by rw [bytesOf_length]; exact Nat.le_refl _)]; rfl, hb.below⟩

set_option maxHeartbeats 400000 in
theorem frame_calls (w : World) (p : ByteArray) (hp : p.size ≤ 60000) :
    Calls Tryd.prog 14 #[(.string p)] w (Ret fun u w' => u = .tuple #[.string (frameP p), .int .i64 0] ∧ Ext w w') := by
  have hb := E.Bx.start w (base := w.heap.size) (Nat.le_refl _)
  refine E.enter Tryd.func14 rfl Tryd.ntmps14 [(.string p)] rfl ?_
  refine E.W.seq ?_
  refine E.W.region ?_
  refine E.WL.val (E.y_assign rfl) rfl rfl rfl ?_
  refine E.WL.val (E.y_assign rfl) rfl rfl rfl ?_
  refine E.WL.done ?_
  refine E.KQ.then_n ?_
  refine E.W.seq ?_
  refine E.W.seq ?_
  refine E.W.region ?_
  refine E.WL.val (E.y_move rfl) rfl rfl rfl ?_
  refine E.WL.val (E.y_lens Tryd.underlying9 rfl) rfl rfl rfl ?_
  refine E.WL.val (E.y_gtr rfl rfl) rfl rfl rfl ?_
  refine E.WL.done ?_
  refine E.KQ.then_n ?_
  refine E.W.condT 7 rfl (fun hc7 => ?_) (fun hc7 => ?_)
  · replace hc7 := of_decide_eq_true hc7
    exact absurd hc7 (by omega)
  · replace hc7 := of_decide_eq_false hc7
    refine E.W.skip ?_
    refine E.KQ.then_n ?_
    refine E.W.seq ?_
    refine E.W.region ?_
    refine E.WL.val (E.y_move rfl) rfl rfl rfl ?_
    refine E.WL.val (E.y_lens Tryd.underlying9 rfl) rfl rfl rfl ?_
    refine E.WL.val (E.y_conv (by rw [Tryd.underlying3]; rfl) Tryd.underlying28 rfl (Go.IntWalk.u64_in _ (by omega))) rfl rfl rfl ?_
    refine E.WL.call (fixed_calls w p.size 4 (by decide)) Tryd.call32 rfl rfl rfl ?_
    rintro _ w1 ⟨rfl, hX⟩
    replace hb := hb.ext hX
    clear hX
    refine E.WL.val (E.y_assign rfl) rfl rfl rfl ?_
    refine E.WL.done ?_
    refine E.KQ.then_n ?_
    refine E.W.seq ?_
    refine E.W.region ?_
    refine E.WL.val (E.y_move rfl) rfl rfl rfl ?_
    refine E.WL.val (E.y_move rfl) rfl rfl rfl ?_
    refine E.WL.val (E.y_move rfl) rfl rfl rfl ?_
    refine E.WL.val (E.y_sadd rfl rfl (by rw [fixP_size]; omega)) rfl rfl rfl ?_
    refine E.WL.call (crc_calls w1 (fixP p.size 4 ++ p) (by rw [ByteArray.size_append, fixP_size]; omega)) Tryd.call11 rfl rfl rfl ?_
    rintro _ w2 ⟨rfl, hX⟩
    replace hb := hb.ext hX
    clear hX
    refine E.WL.val (E.y_conv (by rw [Tryd.underlying42]; rfl) Tryd.underlying28 rfl (Go.IntWalk.u64_in _ (by have := sumL_in (bytesOf (fixP p.size 4 ++ p)); unfold crcP; omega))) rfl rfl rfl ?_
    refine E.WL.as 17 rfl (show _ = Value.int .u64 (((crcP (fixP p.size 4 ++ p)).toNat : Nat) : Int) from congrArg (Value.int .u64) (Int.toNat_of_nonneg (sumL_in (bytesOf (fixP p.size 4 ++ p))).1).symm) ?_
    refine E.WL.call (fixed_calls w2 (crcP (fixP p.size 4 ++ p)).toNat 2 (by decide)) Tryd.call32 rfl rfl rfl ?_
    rintro _ w3 ⟨rfl, hX⟩
    replace hb := hb.ext hX
    clear hX
    refine E.WL.val (E.y_sadd rfl rfl (by rw [fixP_size, fixP_size]; decide)) rfl rfl rfl ?_
    refine E.WL.val (E.y_move rfl) rfl rfl rfl ?_
    refine E.WL.val (E.y_sadd rfl rfl (by rw [ByteArray.size_append, fixP_size, fixP_size]; omega)) rfl rfl rfl ?_
    refine E.WL.val (E.y_assign rfl) rfl rfl rfl ?_
    refine E.WL.val (E.y_assign rfl) rfl rfl rfl ?_
    refine E.WL.done ?_
    refine E.KQ.then_n ?_
    refine E.W.ret ?_
    refine E.KQ.ret2 Tryd.results14 rfl rfl ?_
    exact ⟨_, rfl, rfl, hb.below⟩
end Go.Proofs.YtmnnbnajnfdncaaDoor
