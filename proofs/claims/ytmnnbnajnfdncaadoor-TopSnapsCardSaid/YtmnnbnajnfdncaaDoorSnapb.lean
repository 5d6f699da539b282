/- Walks: names (strings.Trim at an ASCII cutset). -/
import Derived.Test.YtmnnbnajnfdncaaDoorP2
import Derived.Test.YtmnnbnajnfdncaaDoorE5
set_option linter.unusedVariables false
set_option linter.unusedSimpArgs false
namespace Go.Proofs.YtmnnbnajnfdncaaDoor
open Go.RowKit E
theorem rtrim_size {p : UInt8 → Bool} {s r : ByteArray} (h : RTrim p s r) {m : Nat} (hs : s.size ≤ m) : r.size ≤ m := by
  obtain ⟨k, hk, rfl, _⟩ := h
  rw [ByteArray.size_extract]
  omega
theorem ext_right {s : ByteArray} {k : Nat} (hk : 0 < k) : (s.extract 0 k).extract 0 (k - 1) = s.extract 0 (k - 1) := by
  rw [ByteArray.extract_extract, show min (0 + (k - 1)) k = k - 1 by omega]
theorem ext_left {s : ByteArray} {k : Nat} (hk : k < s.size) : (s.extract k s.size).extract 1 (s.extract k s.size).size = s.extract (k + 1) s.size := by
  rw [ByteArray.extract_extract, ByteArray.size_extract, show min (k + (min s.size s.size - k)) s.size = s.size by omega]
theorem getElem_at {s : ByteArray} {i j : Nat} (hi : i < s.size) (hj : j < s.size) (e : i = j) : s[i] = s[j] := by subst e; rfl
set_option maxHeartbeats 400000 in
theorem contains_calls {w : World} {p : Addr} {cs : List Value} (hat : At w p cs) {c : Nat} (hc : c < 256) {b : Bool} (hv : cs[c]? = some (.bool b)) :
    Calls Tryd.prog 51 #[(.pointer (some p)), (.int .u8 (c : Int))] w (Ret fun v w' => v = .bool b ∧ Ext w w') := by
  have hb := E.Bx.start w (base := w.heap.size) (Nat.le_refl _)
  refine E.enter Tryd.func51 rfl Tryd.ntmps51 [(.pointer (some p)), (.int .u8 (c : Int))] rfl ?_
  refine E.W.seq ?_
  refine E.W.region ?_
  refine E.WL.val (E.y_assign rfl) rfl rfl rfl ?_
  refine E.WL.done ?_
  refine E.KQ.then_n ?_
  refine E.W.seq ?_
  refine E.W.region ?_
  refine E.WL.val (E.y_move rfl) rfl rfl rfl ?_
  refine E.WL.val (E.y_move rfl) rfl rfl rfl ?_
  refine E.WL.val (E.y_nilCheck rfl) rfl rfl rfl ?_
  refine E.WL.val (E.y_idxA Tryd.underlying65 Tryd.sizeOf4 rfl rfl (by omega) (by omega)) rfl rfl rfl ?_
  refine E.WL.val (E.y_load rfl (E.At.ld1 Tryd.isAgg4 hat _ (by rw [show ((c : Int).toNat * 1) = c by omega]; exact hv))) rfl rfl rfl ?_
  refine E.WL.val (E.y_assign rfl) rfl rfl rfl ?_
  refine E.WL.done ?_
  refine E.KQ.then_n ?_
  refine E.W.ret ?_
  refine E.KQ.ret1 Tryd.results51 rfl ?_
  exact ⟨_, rfl, rfl, hb.below⟩

set_option maxHeartbeats 400000 in
theorem makeASCIISet_calls (w : World) (cut : ByteArray) (hs : cut.size ≤ 9223372036854775806) (hcut : ∀ b ∈ bytesOf cut, b.toNat < 128) :
    Calls Tryd.prog 26 #[(.string cut)] w (Ret fun v w' => v = .tuple #[.agg (setOf (bytesOf cut)).toArray, .bool true] ∧ Ext w w') := by
  have hb := E.Bx.start w (base := w.heap.size) (Nat.le_refl _)
  refine E.enter Tryd.func26 rfl Tryd.ntmps26 [(.string cut)] rfl ?_
  refine E.W.seq ?_
  refine E.W.region ?_
  refine E.WL.alloc (cs := setOf []) hb Tryd.zeroValue65 (by rw [show (Value.agg Tryd.zeroCells65).cells = Tryd.zeroCells65 from rfl, zero65]) rfl rfl ?_
  clear hb; intro B1 w2 hb _ _
  refine E.WL.val (E.y_assign rfl) rfl rfl rfl ?_
  refine E.WL.done ?_
  refine E.KQ.then_n ?_
  refine E.W.seq ?_
  refine E.W.seq ?_
  refine E.W.region ?_
  refine E.WL.val (E.y_assign rfl) rfl rfl rfl ?_
  refine E.WL.done ?_
  refine E.KQ.then_n ?_
  refine E.W.block ?_
  refine E.W.loop (ι := Nat) (fun k => [(0, .string cut), (2, .pointer (some ⟨B1, 0, none⟩)), (4, .int .i64 (k : Nat))]) (fun k w' => Bx w.heap.size w w' [(B1, setOf ((bytesOf cut).take k), 65)] ∧ k ≤ cut.size) (fun k => cut.size - k) (0) (by exact (.cons rfl (.cons rfl (.cons rfl .nil)))) ⟨hb, Nat.zero_le _⟩ (fun k w3 hJ => ?_)
  clear hb
  obtain ⟨hb, hk⟩ := hJ
  refine E.W.seq ?_
  refine E.W.seq ?_
  refine E.W.region ?_
  refine E.WL.val (E.y_move rfl) rfl rfl rfl ?_
  refine E.WL.val (E.y_move rfl) rfl rfl rfl ?_
  refine E.WL.val (E.y_lens Tryd.underlying9 rfl) rfl rfl rfl ?_
  refine E.WL.val (E.y_lss rfl rfl) rfl rfl rfl ?_
  refine E.WL.done ?_
  refine E.KQ.then_n ?_
  refine E.W.condT 9 rfl (fun hc9 => ?_) (fun hc9 => ?_)
  · replace hc9 := of_decide_eq_true hc9
    refine E.W.skip ?_
    refine E.KQ.then_n ?_
    refine E.W.seq ?_
    refine E.W.block ?_
    refine E.W.seq ?_
    refine E.W.region ?_
    refine E.WL.val (E.y_move rfl) rfl rfl rfl ?_
    refine E.WL.val (E.y_move rfl) rfl rfl rfl ?_
    have hkl : k < cut.size := by omega
    refine E.WL.val (E.y_idxs Tryd.underlying9 rfl rfl (by omega) (by simpa using hkl) (rfl)) rfl rfl rfl ?_
    refine E.WL.val (E.y_assign rfl) rfl rfl rfl ?_
    refine E.WL.done ?_
    refine E.KQ.then_n ?_
    refine E.W.seq ?_
    refine E.W.seq ?_
    refine E.W.region ?_
    refine E.WL.val (E.y_move rfl) rfl rfl rfl ?_
    refine E.WL.val (E.y_geq rfl rfl) rfl rfl rfl ?_
    refine E.WL.done ?_
    refine E.KQ.then_n ?_
    refine E.W.condT 16 rfl (fun hc16 => ?_) (fun hc16 => ?_)
    · skip
      exfalso
      have h1 := hcut cut[k] (mem_bytes hkl)
      have h2 := of_decide_eq_true hc16
      simp at h2
      omega
    · skip
      refine E.W.skip ?_
      refine E.KQ.then_n ?_
      refine E.W.region ?_
      refine E.WL.val (E.y_move rfl) rfl rfl rfl ?_
      refine E.WL.val (E.y_idxA Tryd.underlying65 Tryd.sizeOf4 rfl rfl (by exact Int.natCast_nonneg _) (by have := (cut[k]'hkl).toNat_lt; simp; omega)) rfl rfl rfl ?_
      refine E.WL.store (vs := [.bool true]) hb 0 ((((cut[k]'hkl).toNat : Int)).toNat * 1) rfl rfl rfl Tryd.sizeOf4 rfl rfl (by have := (cut[k]'hkl).toNat_lt; rw [setOf_length]; simp; omega) (E.allOne rfl) rfl ?_
      clear hb; intro w4 hb _
      refine E.WL.done ?_
      refine E.KQ.block_n ?_
      refine E.KQ.then_n ?_
      refine E.W.region ?_
      refine E.WL.val (E.y_move rfl) rfl rfl rfl ?_
      refine E.WL.val (E.y_add rfl rfl (Go.IntWalk.i64_in _ (by omega))) rfl rfl rfl ?_
      refine E.WL.val (E.y_assign rfl) rfl rfl rfl ?_
      refine E.WL.done ?_
      refine E.KQ.next (k + 1) (by exact .cons rfl (.cons rfl (.cons rfl .nil))) ⟨?_, by omega⟩ (by show cut.size - (k + 1) < cut.size - k; omega)
      have e := setOf_put ((bytesOf cut).take k) (cut[k]'hkl)
      rw [← take_bytes hkl] at e
      rw [← e]
      have e2 : (((cut[k]'hkl).toNat : Int)).toNat * 1 = (cut[k]'hkl).toNat := by omega
      rw [e2] at hb
      exact hb
  · replace hc9 := of_decide_eq_false hc9
    refine E.W.exit ?_
    refine E.KQ.then_e ?_
    refine E.KQ.loop_e ?_
    refine E.KQ.block_e ?_
    refine E.KQ.then_n ?_
    refine E.W.seq ?_
    refine E.W.region ?_
    refine E.WL.val (E.y_load rfl (E.At.ldk Tryd.isAgg65 Tryd.sizeOf65 (hb.at0 0 rfl) (setOf_length _))) rfl rfl rfl ?_
    refine E.WL.storeW hb 0 rfl rfl rfl Tryd.sizeOf65 rfl (setOf_length _) (by first | (rw [setOf_length, setOf_length]; done) | (rw [setOf_length]; done) | (rw [zl]; rfl)) (setOf_one _) rfl ?_
    clear hb; intro w5 hb _
    refine E.WL.val (E.y_assign rfl) rfl rfl rfl ?_
    refine E.WL.done ?_
    refine E.KQ.then_n ?_
    refine E.W.ret ?_
    refine E.KQ.retct Tryd.results26 rfl (E.At.ldk Tryd.isAgg65 Tryd.sizeOf65 (hb.at0 0 rfl) (setOf_length _)) rfl ?_
    exact ⟨_, rfl, by rw [List.take_of_length_le (by rw [bytesOf_length]; omega)], hb.below⟩

set_option maxHeartbeats 400000 in
theorem trimRight_calls {w : World} {p : Addr} {cut s : ByteArray} (hs : s.size ≤ 9223372036854775806) (hat : At w p (setOf (bytesOf cut))) :
    Calls Tryd.prog 28 #[(.string s), (.pointer (some p))] w (Ret fun v w' => (∃ r, v = .string r ∧ RTrim (inSet cut) s r) ∧ Ext w w') := by
  have hb := E.Bx.start w (base := w.heap.size) (Nat.le_refl _)
  refine E.enter Tryd.func28 rfl Tryd.ntmps28 [(.string s), (.pointer (some p))] rfl ?_
  refine E.W.seq ?_
  refine E.W.region ?_
  refine E.WL.val (E.y_assign rfl) rfl rfl rfl ?_
  refine E.WL.done ?_
  refine E.KQ.then_n ?_
  refine E.W.seq ?_
  refine E.W.block ?_
  refine E.W.loop (ι := Nat) (fun k => [(0, .string (s.extract 0 k)), (1, .pointer (some p))]) (fun k w' => Bx w.heap.size w w' [] ∧ k ≤ s.size ∧ ∀ i (h : i < s.size), k ≤ i → inSet cut s[i] = true) (fun k => k) (s.size) (by exact .cons (by rw [ByteArray.extract_zero_size]; rfl) (.cons rfl .nil)) ⟨hb, Nat.le_refl _, fun i h h' => by omega⟩ (fun k w1 hJ => ?_)
  clear hb
  obtain ⟨hb, hk, hall⟩ := hJ
  have hsz : (s.extract 0 k).size = k := by rw [ByteArray.size_extract]; omega
  refine E.W.seq ?_
  refine E.W.seq ?_
  refine E.W.region ?_
  refine E.WL.val (E.y_move rfl) rfl rfl rfl ?_
  refine E.WL.val (E.y_lens Tryd.underlying9 rfl) rfl rfl rfl ?_
  refine E.WL.val (E.y_gtr rfl rfl) rfl rfl rfl ?_
  refine E.WL.done ?_
  refine E.KQ.then_n ?_
  refine E.W.condT 7 rfl (fun hc7 => ?_) (fun hc7 => ?_)
  · replace hc7 := of_decide_eq_true hc7
    refine E.W.skip ?_
    refine E.KQ.then_n ?_
    refine E.W.block ?_
    refine E.W.seq ?_
    refine E.W.seq ?_
    refine E.W.region ?_
    have hk0 : 0 < k := by omega
    have hkl : k - 1 < s.size := by omega
    refine E.WL.val (E.y_move rfl) rfl rfl rfl ?_
    refine E.WL.val (E.y_move rfl) rfl rfl rfl ?_
    refine E.WL.val (E.y_move rfl) rfl rfl rfl ?_
    refine E.WL.val (E.y_lens Tryd.underlying9 rfl) rfl rfl rfl ?_
    refine E.WL.val (E.y_sub rfl rfl (Go.IntWalk.i64_in _ (by omega))) rfl rfl rfl ?_
    refine E.WL.as 12 rfl (show _ = Value.int .i64 ((k - 1 : Nat) : Int) from by rw [hsz, show ((k : Nat) : Int) - 1 = ((k - 1 : Nat) : Int) by omega]) ?_
    refine E.WL.val (E.y_idxs Tryd.underlying9 rfl rfl (by omega) (by rw [hsz]; simp; omega) (show _ = (((s[k - 1]'hkl).toNat : Nat) : Int) from by rw [ByteArray.getElem_extract, getElem_at (j := k - 1) (by simp; omega) hkl (by simp)])) rfl rfl rfl ?_
    refine E.WL.call (contains_calls (hat.ext hb.below) (s[k - 1]'hkl).toNat_lt (setOf_in cut (s[k - 1]'hkl))) Tryd.call51 rfl rfl rfl ?_
    rintro _ w2 ⟨rfl, hX⟩
    replace hb := hb.ext hX
    clear hX
    refine E.WL.val (E.y_not rfl) rfl rfl rfl ?_
    refine E.WL.done ?_
    refine E.KQ.then_n ?_
    refine E.W.condT 15 rfl (fun hc15 => ?_) (fun hc15 => ?_)
    · have hin : inSet cut (s[k - 1]'hkl) = false := by simpa using hc15
      refine E.W.exit ?_
      refine E.KQ.then_e ?_
      refine E.KQ.block_o rfl ?_
      refine E.KQ.loop_e ?_
      refine E.KQ.block_e ?_
      refine E.KQ.then_n ?_
      refine E.W.seq ?_
      refine E.W.region ?_
      refine E.WL.val (E.y_move rfl) rfl rfl rfl ?_
      refine E.WL.val (E.y_assign rfl) rfl rfl rfl ?_
      refine E.WL.done ?_
      refine E.KQ.then_n ?_
      refine E.W.ret ?_
      refine E.KQ.ret1 Tryd.results28 rfl ?_
      exact ⟨_, rfl, ⟨_, rfl, k, hk, rfl, hall, fun _ => hin⟩, hb.below⟩
    · have hin : inSet cut (s[k - 1]'hkl) = true := by simpa using hc15
      refine E.W.skip ?_
      refine E.KQ.then_n ?_
      refine E.W.region ?_
      refine E.WL.val (E.y_move rfl) rfl rfl rfl ?_
      refine E.WL.val (E.y_move rfl) rfl rfl rfl ?_
      refine E.WL.val (E.y_lens Tryd.underlying9 rfl) rfl rfl rfl ?_
      refine E.WL.val (E.y_sub rfl rfl (Go.IntWalk.i64_in _ (by omega))) rfl rfl rfl ?_
      refine E.WL.as 19 rfl (show _ = Value.int .i64 ((k - 1 : Nat) : Int) from by rw [hsz, show ((k : Nat) : Int) - 1 = ((k - 1 : Nat) : Int) by omega]) ?_
      refine E.WL.val (E.y_str_h Tryd.underlying9 rfl rfl (by rw [hsz]; omega)) rfl rfl rfl ?_
      refine E.WL.as 20 rfl (show _ = Value.string (s.extract 0 (k - 1)) from by rw [ext_right (by omega)]) ?_
      refine E.WL.val (E.y_assign rfl) rfl rfl rfl ?_
      refine E.WL.done ?_
      refine E.KQ.block_n ?_
      refine E.KQ.next (k - 1) (by exact .cons rfl (.cons rfl .nil)) ⟨hb, by omega, fun i h h' => ?_⟩ (by show k - 1 < k; omega)
      rcases Nat.eq_or_lt_of_le h' with e | e
      · subst e; exact hin
      · exact hall i h (by omega)
  · replace hc7 := of_decide_eq_false hc7
    refine E.W.exit ?_
    refine E.KQ.then_e ?_
    refine E.KQ.loop_e ?_
    refine E.KQ.block_e ?_
    refine E.KQ.then_n ?_
    refine E.W.seq ?_
    refine E.W.region ?_
    refine E.WL.val (E.y_move rfl) rfl rfl rfl ?_
    refine E.WL.val (E.y_assign rfl) rfl rfl rfl ?_
    refine E.WL.done ?_
    refine E.KQ.then_n ?_
    refine E.W.ret ?_
    refine E.KQ.ret1 Tryd.results28 rfl ?_
    exact ⟨_, rfl, ⟨_, rfl, 0, Nat.zero_le _, by rw [show k = 0 by omega], fun i h _ => hall i h (by omega), fun h => by omega⟩, hb.below⟩

set_option maxHeartbeats 400000 in
theorem trimLeft_calls {w : World} {p : Addr} {cut s : ByteArray} (hs : s.size ≤ 9223372036854775806) (hat : At w p (setOf (bytesOf cut))) :
    Calls Tryd.prog 27 #[(.string s), (.pointer (some p))] w (Ret fun v w' => (∃ r, v = .string r ∧ LTrim (inSet cut) s r) ∧ Ext w w') := by
  have hb := E.Bx.start w (base := w.heap.size) (Nat.le_refl _)
  refine E.enter Tryd.func27 rfl Tryd.ntmps27 [(.string s), (.pointer (some p))] rfl ?_
  refine E.W.seq ?_
  refine E.W.region ?_
  refine E.WL.val (E.y_assign rfl) rfl rfl rfl ?_
  refine E.WL.done ?_
  refine E.KQ.then_n ?_
  refine E.W.seq ?_
  refine E.W.block ?_
  refine E.W.loop (ι := Nat) (fun k => [(0, .string (s.extract k s.size)), (1, .pointer (some p))]) (fun k w' => Bx w.heap.size w w' [] ∧ k ≤ s.size ∧ ∀ i (h : i < s.size), i < k → inSet cut s[i] = true) (fun k => s.size - k) (0) (by exact .cons (by rw [ByteArray.extract_zero_size]; rfl) (.cons rfl .nil)) ⟨hb, Nat.zero_le _, fun i h h' => by omega⟩ (fun k w1 hJ => ?_)
  clear hb
  obtain ⟨hb, hk, hall⟩ := hJ
  have hsz : (s.extract k s.size).size = s.size - k := by rw [ByteArray.size_extract]; omega
  refine E.W.seq ?_
  refine E.W.seq ?_
  refine E.W.region ?_
  refine E.WL.val (E.y_move rfl) rfl rfl rfl ?_
  refine E.WL.val (E.y_lens Tryd.underlying9 rfl) rfl rfl rfl ?_
  refine E.WL.val (E.y_gtr rfl rfl) rfl rfl rfl ?_
  refine E.WL.done ?_
  refine E.KQ.then_n ?_
  refine E.W.condT 7 rfl (fun hc7 => ?_) (fun hc7 => ?_)
  · replace hc7 := of_decide_eq_true hc7
    refine E.W.skip ?_
    refine E.KQ.then_n ?_
    refine E.W.block ?_
    refine E.W.seq ?_
    refine E.W.seq ?_
    refine E.W.region ?_
    have hkl : k < s.size := by omega
    refine E.WL.val (E.y_move rfl) rfl rfl rfl ?_
    refine E.WL.val (E.y_move rfl) rfl rfl rfl ?_
    refine E.WL.val (E.y_idxs Tryd.underlying9 rfl rfl (by omega) (by rw [hsz]; simp; omega) (show _ = (((s[k]'hkl).toNat : Nat) : Int) from by rw [ByteArray.getElem_extract, getElem_at (j := k) (by simp; omega) hkl (by simp)])) rfl rfl rfl ?_
    refine E.WL.call (contains_calls (hat.ext hb.below) (s[k]'hkl).toNat_lt (setOf_in cut (s[k]'hkl))) Tryd.call51 rfl rfl rfl ?_
    rintro _ w2 ⟨rfl, hX⟩
    replace hb := hb.ext hX
    clear hX
    refine E.WL.val (E.y_not rfl) rfl rfl rfl ?_
    refine E.WL.done ?_
    refine E.KQ.then_n ?_
    refine E.W.condT 12 rfl (fun hc12 => ?_) (fun hc12 => ?_)
    · have hin : inSet cut (s[k]'hkl) = false := by simpa using hc12
      refine E.W.exit ?_
      refine E.KQ.then_e ?_
      refine E.KQ.block_o rfl ?_
      refine E.KQ.loop_e ?_
      refine E.KQ.block_e ?_
      refine E.KQ.then_n ?_
      refine E.W.seq ?_
      refine E.W.region ?_
      refine E.WL.val (E.y_move rfl) rfl rfl rfl ?_
      refine E.WL.val (E.y_assign rfl) rfl rfl rfl ?_
      refine E.WL.done ?_
      refine E.KQ.then_n ?_
      refine E.W.ret ?_
      refine E.KQ.ret1 Tryd.results27 rfl ?_
      exact ⟨_, rfl, ⟨_, rfl, k, hk, rfl, hall, fun _ => hin⟩, hb.below⟩
    · have hin : inSet cut (s[k]'hkl) = true := by simpa using hc12
      refine E.W.skip ?_
      refine E.KQ.then_n ?_
      refine E.W.region ?_
      refine E.WL.val (E.y_move rfl) rfl rfl rfl ?_
      refine E.WL.val (E.y_str_l (lo := 1) Tryd.underlying9 rfl rfl (by rw [hsz]; omega)) rfl rfl rfl ?_
      refine E.WL.as 14 rfl (show _ = Value.string (s.extract (k + 1) s.size) from by rw [ext_left (by omega)]) ?_
      refine E.WL.val (E.y_assign rfl) rfl rfl rfl ?_
      refine E.WL.done ?_
      refine E.KQ.block_n ?_
      refine E.KQ.next (k + 1) (by exact .cons rfl (.cons rfl .nil)) ⟨hb, by omega, fun i h h' => ?_⟩ (by show s.size - (k + 1) < s.size - k; omega)
      rcases Nat.eq_or_lt_of_le (Nat.le_of_lt_succ h') with e | e
      · subst e; exact hin
      · exact hall i h (by omega)
  · replace hc7 := of_decide_eq_false hc7
    refine E.W.exit ?_
    refine E.KQ.then_e ?_
    refine E.KQ.loop_e ?_
    refine E.KQ.block_e ?_
    refine E.KQ.then_n ?_
    refine E.W.seq ?_
    refine E.W.region ?_
    refine E.WL.val (E.y_move rfl) rfl rfl rfl ?_
    refine E.WL.val (E.y_assign rfl) rfl rfl rfl ?_
    refine E.WL.done ?_
    refine E.KQ.then_n ?_
    refine E.W.ret ?_
    refine E.KQ.ret1 Tryd.results27 rfl ?_
    exact ⟨_, rfl, ⟨_, rfl, s.size, Nat.le_refl _, by rw [show k = s.size by omega], fun i h _ => hall i h (by omega), fun h => by omega⟩, hb.below⟩

set_option maxHeartbeats 400000 in
theorem trim_calls (w : World) (s cut : ByteArray) (hs : s.size ≤ 9223372036854775806) (hne : ¬ s = ByteArray.mk #[]) (h2 : 2 ≤ cut.size) (hcs : cut.size ≤ 9223372036854775806) (hcut : ∀ b ∈ bytesOf cut, b.toNat < 128) :
    Calls Tryd.prog 12 #[(.string s), (.string cut)] w (Ret fun v w' => (∃ r, v = .string r ∧ (r = ByteArray.mk #[] ↔ (bytesOf s).all (inSet cut) = true)) ∧ Ext w w') := by
  have hb := E.Bx.start w (base := w.heap.size) (Nat.le_refl _)
  refine E.enter Tryd.func12 rfl Tryd.ntmps12 [(.string s), (.string cut)] rfl ?_
  refine E.W.seq ?_
  refine E.W.region ?_
  refine E.WL.val (E.y_assign rfl) rfl rfl rfl ?_
  refine E.WL.done ?_
  refine E.KQ.then_n ?_
  refine E.W.seq ?_
  refine E.W.seq ?_
  refine E.W.region ?_
  refine E.WL.val (E.y_move rfl) rfl rfl rfl ?_
  refine E.WL.val (E.y_seql rfl rfl) rfl rfl rfl ?_
  refine E.WL.val (E.y_move rfl) rfl rfl rfl ?_
  refine E.WL.split 9 rfl (fun hg9 => ?_) (fun hg9 => ?_)
  · skip
    exact absurd (of_decide_eq_true hg9) hne
  · skip
    refine E.WL.val (E.y_move rfl) rfl rfl rfl ?_
    refine E.WL.val (E.y_seql rfl rfl) rfl rfl rfl ?_
    refine E.WL.val (E.y_pick_f rfl rfl) rfl rfl rfl ?_
    refine E.WL.done ?_
    refine E.KQ.then_n ?_
    refine E.W.condT 12 rfl (fun hc12 => ?_) (fun hc12 => ?_)
    · skip
      have := of_decide_eq_true hc12
      subst this
      exact absurd h2 (by decide)
    · skip
      refine E.W.skip ?_
      refine E.KQ.then_n ?_
      refine E.W.seq ?_
      refine E.W.seq ?_
      refine E.W.region ?_
      refine E.WL.val (E.y_move rfl) rfl rfl rfl ?_
      refine E.WL.val (E.y_lens Tryd.underlying9 rfl) rfl rfl rfl ?_
      refine E.WL.val (E.y_eql rfl rfl) rfl rfl rfl ?_
      refine E.WL.val (E.y_move rfl) rfl rfl rfl ?_
      refine E.WL.split 17 rfl (fun hg17 => ?_) (fun hg17 => ?_)
      · skip
        have := of_decide_eq_true hg17
        omega
      · skip
        refine E.WL.off rfl rfl rfl ?_
        refine E.WL.off rfl rfl rfl ?_
        refine E.WL.off rfl rfl rfl ?_
        refine E.WL.val (E.y_pick_f rfl rfl) rfl rfl rfl ?_
        refine E.WL.done ?_
        refine E.KQ.then_n ?_
        refine E.W.cond_f rfl ?_
        refine E.W.skip ?_
        refine E.KQ.then_n ?_
        refine E.W.seq ?_
        refine E.W.seq ?_
        refine E.W.region ?_
        refine E.WL.val (E.y_move rfl) rfl rfl rfl ?_
        refine E.WL.call (makeASCIISet_calls w cut hcs hcut) Tryd.call26 rfl rfl rfl ?_
        rintro _ w1 ⟨rfl, hX⟩
        replace hb := hb.ext hX
        clear hX
        refine E.WL.val (E.y_move rfl) rfl rfl rfl ?_
        refine E.WL.val (E.y_extract rfl rfl) rfl rfl rfl ?_
        refine E.WL.val (E.y_extract rfl rfl) rfl rfl rfl ?_
        refine E.WL.alloc (cs := setOf []) hb Tryd.zeroValue65 (by rw [show (Value.agg Tryd.zeroCells65).cells = Tryd.zeroCells65 from rfl, zero65]) rfl rfl ?_
        clear hb; intro B2 w3 hb _ _
        refine E.WL.storeW hb 0 rfl rfl rfl Tryd.sizeOf65 rfl (setOf_length _) (by first | (rw [setOf_length, setOf_length]; done) | (rw [setOf_length]; done) | (rw [zl]; rfl)) (setOf_one _) rfl ?_
        clear hb; intro w4 hb _
        refine E.WL.val (E.y_assign rfl) rfl rfl rfl ?_
        refine E.WL.done ?_
        refine E.KQ.then_n ?_
        refine E.W.seq ?_
        refine E.W.region ?_
        refine E.WL.val (E.y_move rfl) rfl rfl rfl ?_
        refine E.WL.done ?_
        refine E.KQ.then_n ?_
        refine E.W.cond_t rfl ?_
        refine E.W.seq ?_
        refine E.W.region ?_
        refine E.WL.val (E.y_move rfl) rfl rfl rfl ?_
        refine E.WL.call (trimRight_calls (cut := cut) hs (hb.at0 0 rfl)) Tryd.call28 rfl rfl rfl ?_
        rintro _ w5 ⟨⟨r1, rfl, hr1⟩, hX⟩
        have hb := hb.ext hX
        refine E.WL.call (trimLeft_calls (cut := cut) (rtrim_size hr1 hs) (hb.at0 0 rfl)) Tryd.call27 rfl rfl rfl ?_
        rintro _ w6 ⟨⟨r2, rfl, hr2⟩, hX⟩
        have hb := hb.ext hX
        refine E.WL.val (E.y_assign rfl) rfl rfl rfl ?_
        refine E.WL.done ?_
        refine E.KQ.then_n ?_
        refine E.W.ret ?_
        refine E.KQ.then_r ?_
        refine E.KQ.ret1 Tryd.results12 rfl ?_
        exact ⟨_, rfl, ⟨_, rfl, trim_empty hr1 hr2⟩, hb.below⟩

set_option maxHeartbeats 400000 in
theorem name_calls (w : World) (s : ByteArray) :
    Calls Tryd.prog 5 #[(.string s)] w (Ret fun v w' => v = .bool (nameB s) ∧ Ext w w') := by
  have hb := E.Bx.start w (base := w.heap.size) (Nat.le_refl _)
  refine E.enter Tryd.func5 rfl Tryd.ntmps5 [(.string s)] rfl ?_
  refine E.W.seq ?_
  refine E.W.region ?_
  refine E.WL.val (E.y_assign rfl) rfl rfl rfl ?_
  refine E.WL.done ?_
  refine E.KQ.then_n ?_
  refine E.W.seq ?_
  refine E.W.region ?_
  refine E.WL.val (E.y_move rfl) rfl rfl rfl ?_
  refine E.WL.val (E.y_sneq rfl rfl) rfl rfl rfl ?_
  refine E.WL.val (E.y_move rfl) rfl rfl rfl ?_
  refine E.WL.split 5 rfl (fun hg5 => ?_) (fun hg5 => ?_)
  · skip
    have hne : ¬ s = ByteArray.mk #[] := by simpa using hg5
    refine E.WL.val (E.y_move rfl) rfl rfl rfl ?_
    refine E.WL.val (E.y_lens Tryd.underlying9 rfl) rfl rfl rfl ?_
    refine E.WL.val (E.y_leq rfl rfl) rfl rfl rfl ?_
    refine E.WL.val (E.y_pick_t rfl rfl) rfl rfl rfl ?_
    refine E.WL.val (E.y_move rfl) rfl rfl rfl ?_
    refine E.WL.split 10 rfl (fun hg10 => ?_) (fun hg10 => ?_)
    · skip
      have h32 : s.size ≤ 32 := by have := of_decide_eq_true hg10; omega
      refine E.WL.val (E.y_move rfl) rfl rfl rfl ?_
      refine E.WL.call (trim_calls w s letters (by omega) hne (by decide) (by decide) (by decide)) Tryd.call12 rfl rfl rfl ?_
      rintro _ w1 ⟨⟨r, rfl, hr⟩, hX⟩
      have hb := hb.ext hX
      refine E.WL.val (E.y_seql rfl rfl) rfl rfl rfl ?_
      refine E.WL.val (E.y_pick_t rfl rfl) rfl rfl rfl ?_
      refine E.WL.val (E.y_assign rfl) rfl rfl rfl ?_
      refine E.WL.done ?_
      refine E.KQ.then_n ?_
      refine E.W.ret ?_
      refine E.KQ.ret1 Tryd.results5 rfl ?_
      exact ⟨_, rfl, by simp only [nameB, hne, h32, decide_false, decide_true, Bool.not_false, Bool.true_and]; congr 1; rw [Bool.eq_iff_iff, decide_eq_true_iff]; exact hr, hb.below⟩
    · skip
      have h32 : ¬ s.size ≤ 32 := by have := of_decide_eq_false hg10; omega
      refine E.WL.off rfl rfl rfl ?_
      refine E.WL.off rfl rfl rfl ?_
      refine E.WL.off rfl rfl rfl ?_
      refine E.WL.val (E.y_pick_f rfl rfl) rfl rfl rfl ?_
      refine E.WL.val (E.y_assign rfl) rfl rfl rfl ?_
      refine E.WL.done ?_
      refine E.KQ.then_n ?_
      refine E.W.ret ?_
      refine E.KQ.ret1 Tryd.results5 rfl ?_
      exact ⟨_, rfl, by simp [nameB, h32], hb.below⟩
  · skip
    have hne : s = ByteArray.mk #[] := by simpa using hg5
    refine E.WL.off rfl rfl rfl ?_
    refine E.WL.off rfl rfl rfl ?_
    refine E.WL.off rfl rfl rfl ?_
    refine E.WL.val (E.y_pick_f rfl rfl) rfl rfl rfl ?_
    refine E.WL.val (E.y_move rfl) rfl rfl rfl ?_
    refine E.WL.off rfl rfl rfl ?_
    refine E.WL.off rfl rfl rfl ?_
    refine E.WL.off rfl rfl rfl ?_
    refine E.WL.val (E.y_pick_f rfl rfl) rfl rfl rfl ?_
    refine E.WL.val (E.y_assign rfl) rfl rfl rfl ?_
    refine E.WL.done ?_
    refine E.KQ.then_n ?_
    refine E.W.ret ?_
    refine E.KQ.ret1 Tryd.results5 rfl ?_
    exact ⟨_, rfl, by simp [nameB, hne], hb.below⟩
end Go.Proofs.YtmnnbnajnfdncaaDoor
