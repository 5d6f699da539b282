/- Walks: book, eighth part: taken out. -/
import Derived.Test.YtmnnbnajnfdncaaGreatDoorD6
import Derived.Test.YtmnnbnajnfdncaaGreatDoorBook6
set_option linter.unusedVariables false
set_option linter.unusedSimpArgs false
namespace Go.Proofs.YtmnnbnajnfdncaaGreatDoor
open Go.RowKit E
set_option maxHeartbeats 2000000 in
theorem deleteNode_calls {w : World} {base : Nat} {v : Value} {n : Nat} {news : List Value} {i : Nat} (own : w.ownsRow base 32 6 v n news) (hbase : base ≤ w.heap.size) (hnew : ∀ u ∈ news, u.oneCell' = true) (hi : i < n) (hbig : n * 88 ≤ 140737488355328) :
    Calls Tryz.prog 58 #[v, (.int .i64 (i : Nat)), (.int .i64 ((i + 1 : Nat) : Int))] w (Ret fun u w' => (∃ v', u = v' ∧ w'.ownsRow base 32 6 v' (n - 1) (cutOut 6 i news)) ∧ Below base w w' ∧ Keeps (fun U => U ≠ 32) w w') := by
  obtain ⟨A, c, rfl, hA⟩ := ownsRow_open own
  obtain ⟨g, rfl⟩ := hA (by omega)
  obtain ⟨cur, hbg, hgg, hnc, hcm, hcs, ht⟩ := ownsRow_heap own
  have hkp : Keeps (fun U => U ≠ 32) w w := Keeps.refl w
  have hin := mul_lt_le (k := 6) hi
  have hncl : n * 6 ≤ c * 6 := Nat.mul_le_mul_right _ hnc
  have hn1 := mul_lt_le (k := 6) (show n - 1 < n by omega)
  have hDl : (news.drop ((i + 1) * 6)).length = (n - (i + 1)) * 6 := by rw [List.length_drop, own.1, Nat.sub_mul]
  have e1 : (n - 1) * 6 = i * 6 + (n - (i + 1)) * 6 := by rw [← Nat.add_mul]; congr 1; omega
  have hb := Bx.one (w := w) hbg hgg hbase
  refine E.enter Tryz.func58 rfl Tryz.ntmps58 [(.slice (some ⟨g, 0, none⟩) n c), (.int .i64 (i : Nat)), (.int .i64 ((i + 1 : Nat) : Int))] rfl ?_
  refine E.W.seq ?_
  refine E.W.region ?_
  refine E.WL.val (E.y_assign rfl) rfl rfl rfl ?_
  refine E.WL.done ?_
  refine E.KQ.then_n ?_
  refine E.W.seq ?_
  refine E.W.region ?_
  refine E.WL.val (E.y_move rfl) rfl rfl rfl ?_
  refine E.WL.val (E.y_move rfl) rfl rfl rfl ?_
  refine E.WL.val (E.y_move rfl) rfl rfl rfl ?_
  refine E.WL.val (E.y_move rfl) rfl rfl rfl ?_
  refine E.WL.val (E.y_lenS Tryz.underlying22 rfl) rfl rfl rfl ?_
  refine E.WL.val (E.y_sl_lhm (lo := i) (hi := i + 1) (mx := n) Tryz.underlying22 Tryz.sizeOf32 rfl rfl rfl rfl (by omega) (by omega) hnc) rfl rfl rfl ?_
  refine E.WL.done ?_
  refine E.KQ.then_n ?_
  refine E.W.seq ?_
  refine E.W.seq ?_
  refine E.W.region ?_
  refine E.WL.val (E.y_move rfl) rfl rfl rfl ?_
  refine E.WL.val (E.y_move rfl) rfl rfl rfl ?_
  refine E.WL.val (E.y_eql rfl rfl) rfl rfl rfl ?_
  refine E.WL.done ?_
  refine E.KQ.then_n ?_
  refine E.W.condT 16 rfl (fun h16 => ?_) (fun h16 => ?_)
  · replace h16 := of_decide_eq_true h16
    exact absurd h16 (by omega)
  · replace h16 := of_decide_eq_false h16
    refine E.W.skip ?_
    refine E.KQ.then_n ?_
    refine E.W.seq ?_
    refine E.W.region ?_
    refine E.WL.val (E.y_move rfl) rfl rfl rfl ?_
    refine E.WL.val (E.y_lenS Tryz.underlying22 rfl) rfl rfl rfl ?_
    refine E.WL.val (E.y_assign rfl) rfl rfl rfl ?_
    refine E.WL.done ?_
    refine E.KQ.then_n ?_
    refine E.W.seq ?_
    have hD : At w (if c = i + 1 then ⟨g, 0, none⟩ else (⟨g, 0, none⟩ : Addr).add ((i + 1) * 6)) (news.drop ((i + 1) * 6)) := by
      split
      · rename_i hce
        intro j u hu; rw [List.drop_eq_nil_of_le (by rw [own.1]; exact Nat.mul_le_mul_right _ (by omega))] at hu; simp at hu
      · intro j u hu; rw [List.getElem?_drop] at hu; rw [add_add]; exact ownsRow_at own _ u hu
    have hb0 := hb
    refine E.W.regionD (E.heads 6 []) rfl ?_
    replace hb := hb.drew
    replace hkp := Keeps.trans hkp (Keeps.ext (E.Ext.drew _))
    have hE := E.Ext.drew w
    refine E.DL.take 0 rfl (by kernel_rfl) (by kernel_rfl) (fun w' hw => E.y_move rfl) rfl rfl rfl (fun _ _ _ _ h => by obtain ⟨_, _, h, _⟩ := h; cases h) hE ?_
    refine E.DL.take 1 rfl (by kernel_rfl) (by kernel_rfl) (fun w' hw => E.y_move rfl) rfl rfl rfl (fun _ _ _ _ h => by obtain ⟨_, _, h, _⟩ := h; cases h) hE ?_
    refine E.DL.take 2 rfl (by kernel_rfl) (by kernel_rfl) (fun w' hw => E.y_sl_h Tryz.underlying22 Tryz.sizeOf32 rfl rfl (by omega)) rfl rfl rfl (fun _ _ _ _ h => by obtain ⟨_, _, h, _⟩ := h; cases h) hE ?_
    refine E.DL.take 3 rfl (by kernel_rfl) (by kernel_rfl) (fun w' hw => E.y_move rfl) rfl rfl rfl (fun _ _ _ _ h => by obtain ⟨_, _, h, _⟩ := h; cases h) hE ?_
    refine E.DL.take 4 rfl (by kernel_rfl) (by kernel_rfl) (fun w' hw => E.y_move rfl) rfl rfl rfl (fun _ _ _ _ h => by obtain ⟨_, _, h, _⟩ := h; cases h) hE ?_
    refine E.DL.take 5 rfl (by kernel_rfl) (by kernel_rfl) (fun w' hw => E.y_sl_ls (lo := i + 1) Tryz.underlying22 Tryz.sizeOf32 rfl rfl (by omega)) rfl rfl rfl (fun _ _ _ _ h => by obtain ⟨_, _, h, _⟩ := h; cases h) hE ?_
    refine E.DL.only 6 rfl (by kernel_rfl) (fun hsh => ?_)
    have hT := hb.hasT 0 rfl
    refine E.WL.appendB (i := Tryz.t32) (k := 6) (cs := news.drop ((i + 1) * 6)) hb 0 rfl Tryz.underlying22 (by kernel_rfl) rfl rfl rfl hDl (hD.ext (E.Ext.drew _)) (fun u hu => hnew u (List.mem_of_mem_drop hu)) (by omega) (by rw [hDl, hcs]; omega) rfl rfl ?_
    clear hb; intro w1 hb hO
    replace hkp := Keeps.trans hkp (Keeps.only hO hT (by decide))
    clear hT hO
    skip
    refine E.WL.done ?_
    refine E.DL.next hsh (.inr rfl) ?_
    clear hsh
    refine E.DL.takeU 7 rfl (by kernel_rfl) rfl (fun w' => E.y_assign rfl) rfl rfl rfl (fun _ _ _ _ h => by obtain ⟨_, _, h, _⟩ := h; cases h) ?_
    refine E.DL.done (by kernel_rfl) ?_
    clear hE hb0
    refine E.KQ.then_n ?_
    refine E.W.seq ?_
    refine E.W.region ?_
    refine E.WL.as 0 rfl (show _ = Value.slice (some ⟨g, 0, none⟩) (n - 1) c from by show Value.slice (some ⟨g, 0, none⟩) (i + (n - (i + 1))) c = _; rw [show i + (n - (i + 1)) = n - 1 by omega]) ?_
    refine E.WL.val (E.y_move rfl) rfl rfl rfl ?_
    refine E.WL.val (E.y_move rfl) rfl rfl rfl ?_
    refine E.WL.val (E.y_lenS Tryz.underlying22 rfl) rfl rfl rfl ?_
    refine E.WL.val (E.y_move rfl) rfl rfl rfl ?_
    refine E.WL.val (E.y_sl_lhn (lo := n - 1) (hi := n) Tryz.underlying22 Tryz.sizeOf32 rfl rfl rfl (by omega) hnc (by omega)) rfl rfl rfl ?_
    have hT := hb.hasT 0 rfl
    refine E.WL.clearB (k := 6) (i := Tryz.t32) (m := n - (n - 1)) hb 0 ((n - 1) * 6) rfl Tryz.underlying22 Tryz.zeroValue32 rfl (by decide) (by decide) rfl (by rw [ovw_len (by rw [hDl, hcs]; omega), hcs, show n - (n - 1) = 1 by omega]; omega) rfl ?_
    clear hb; intro w2 zs hzs hb hO
    replace hkp := Keeps.trans hkp (Keeps.only hO hT (by decide))
    clear hT hO
    rw [show n - (n - 1) = 1 by omega, Nat.one_mul] at hzs
    have hrow := Bx.row hb 0 rfl (k := 6) (n := n - 1) (cap := c) (by rw [ovw_len (by rw [ovw_len (by rw [hDl, hcs]; omega), hzs, hcs]; omega), ovw_len (by rw [hDl, hcs]; omega)]; exact hcs) (by omega) hcm
    rw [del1 (by rw [hcs]; omega) hDl hzs hi, show cur.take (i * 6) = news.take (i * 6) from by rw [← ht, List.take_take, Nat.min_eq_left (by omega)]] at hrow
    refine E.WL.done ?_
    refine E.KQ.then_n ?_
    refine E.W.seq ?_
    refine E.W.region ?_
    refine E.WL.val (E.y_move rfl) rfl rfl rfl ?_
    refine E.WL.val (E.y_assign rfl) rfl rfl rfl ?_
    refine E.WL.done ?_
    refine E.KQ.then_n ?_
    refine E.W.ret ?_
    refine E.KQ.ret1 Tryz.results58 rfl ?_
    exact ⟨_, rfl, ⟨_, rfl, hrow⟩, hb.below, hkp⟩

set_option maxHeartbeats 2000000 in
theorem deleteTask_calls {w : World} {base : Nat} {v : Value} {n : Nat} {news : List Value} {i : Nat} (own : w.ownsRow base 34 9 v n news) (hbase : base ≤ w.heap.size) (hnew : ∀ u ∈ news, u.oneCell' = true) (hi : i < n) (hbig : n * 128 ≤ 140737488355328) :
    Calls Tryz.prog 63 #[v, (.int .i64 (i : Nat)), (.int .i64 ((i + 1 : Nat) : Int))] w (Ret fun u w' => (∃ v', u = v' ∧ w'.ownsRow base 34 9 v' (n - 1) (cutOut 9 i news)) ∧ Below base w w' ∧ Keeps (fun U => U ≠ 34) w w') := by
  obtain ⟨A, c, rfl, hA⟩ := ownsRow_open own
  obtain ⟨g, rfl⟩ := hA (by omega)
  obtain ⟨cur, hbg, hgg, hnc, hcm, hcs, ht⟩ := ownsRow_heap own
  have hkp : Keeps (fun U => U ≠ 34) w w := Keeps.refl w
  have hin := mul_lt_le (k := 9) hi
  have hncl : n * 9 ≤ c * 9 := Nat.mul_le_mul_right _ hnc
  have hn1 := mul_lt_le (k := 9) (show n - 1 < n by omega)
  have hDl : (news.drop ((i + 1) * 9)).length = (n - (i + 1)) * 9 := by rw [List.length_drop, own.1, Nat.sub_mul]
  have e1 : (n - 1) * 9 = i * 9 + (n - (i + 1)) * 9 := by rw [← Nat.add_mul]; congr 1; omega
  have hb := Bx.one (w := w) hbg hgg hbase
  refine E.enter Tryz.func63 rfl Tryz.ntmps63 [(.slice (some ⟨g, 0, none⟩) n c), (.int .i64 (i : Nat)), (.int .i64 ((i + 1 : Nat) : Int))] rfl ?_
  refine E.W.seq ?_
  refine E.W.region ?_
  refine E.WL.val (E.y_assign rfl) rfl rfl rfl ?_
  refine E.WL.done ?_
  refine E.KQ.then_n ?_
  refine E.W.seq ?_
  refine E.W.region ?_
  refine E.WL.val (E.y_move rfl) rfl rfl rfl ?_
  refine E.WL.val (E.y_move rfl) rfl rfl rfl ?_
  refine E.WL.val (E.y_move rfl) rfl rfl rfl ?_
  refine E.WL.val (E.y_move rfl) rfl rfl rfl ?_
  refine E.WL.val (E.y_lenS Tryz.underlying23 rfl) rfl rfl rfl ?_
  refine E.WL.val (E.y_sl_lhm (lo := i) (hi := i + 1) (mx := n) Tryz.underlying23 Tryz.sizeOf34 rfl rfl rfl rfl (by omega) (by omega) hnc) rfl rfl rfl ?_
  refine E.WL.done ?_
  refine E.KQ.then_n ?_
  refine E.W.seq ?_
  refine E.W.seq ?_
  refine E.W.region ?_
  refine E.WL.val (E.y_move rfl) rfl rfl rfl ?_
  refine E.WL.val (E.y_move rfl) rfl rfl rfl ?_
  refine E.WL.val (E.y_eql rfl rfl) rfl rfl rfl ?_
  refine E.WL.done ?_
  refine E.KQ.then_n ?_
  refine E.W.condT 16 rfl (fun h16 => ?_) (fun h16 => ?_)
  · replace h16 := of_decide_eq_true h16
    exact absurd h16 (by omega)
  · replace h16 := of_decide_eq_false h16
    refine E.W.skip ?_
    refine E.KQ.then_n ?_
    refine E.W.seq ?_
    refine E.W.region ?_
    refine E.WL.val (E.y_move rfl) rfl rfl rfl ?_
    refine E.WL.val (E.y_lenS Tryz.underlying23 rfl) rfl rfl rfl ?_
    refine E.WL.val (E.y_assign rfl) rfl rfl rfl ?_
    refine E.WL.done ?_
    refine E.KQ.then_n ?_
    refine E.W.seq ?_
    have hD : At w (if c = i + 1 then ⟨g, 0, none⟩ else (⟨g, 0, none⟩ : Addr).add ((i + 1) * 9)) (news.drop ((i + 1) * 9)) := by
      split
      · rename_i hce
        intro j u hu; rw [List.drop_eq_nil_of_le (by rw [own.1]; exact Nat.mul_le_mul_right _ (by omega))] at hu; simp at hu
      · intro j u hu; rw [List.getElem?_drop] at hu; rw [add_add]; exact ownsRow_at own _ u hu
    have hb0 := hb
    refine E.W.regionD (E.heads 6 []) rfl ?_
    replace hb := hb.drew
    replace hkp := Keeps.trans hkp (Keeps.ext (E.Ext.drew _))
    have hE := E.Ext.drew w
    refine E.DL.take 0 rfl (by kernel_rfl) (by kernel_rfl) (fun w' hw => E.y_move rfl) rfl rfl rfl (fun _ _ _ _ h => by obtain ⟨_, _, h, _⟩ := h; cases h) hE ?_
    refine E.DL.take 1 rfl (by kernel_rfl) (by kernel_rfl) (fun w' hw => E.y_move rfl) rfl rfl rfl (fun _ _ _ _ h => by obtain ⟨_, _, h, _⟩ := h; cases h) hE ?_
    refine E.DL.take 2 rfl (by kernel_rfl) (by kernel_rfl) (fun w' hw => E.y_sl_h Tryz.underlying23 Tryz.sizeOf34 rfl rfl (by omega)) rfl rfl rfl (fun _ _ _ _ h => by obtain ⟨_, _, h, _⟩ := h; cases h) hE ?_
    refine E.DL.take 3 rfl (by kernel_rfl) (by kernel_rfl) (fun w' hw => E.y_move rfl) rfl rfl rfl (fun _ _ _ _ h => by obtain ⟨_, _, h, _⟩ := h; cases h) hE ?_
    refine E.DL.take 4 rfl (by kernel_rfl) (by kernel_rfl) (fun w' hw => E.y_move rfl) rfl rfl rfl (fun _ _ _ _ h => by obtain ⟨_, _, h, _⟩ := h; cases h) hE ?_
    refine E.DL.take 5 rfl (by kernel_rfl) (by kernel_rfl) (fun w' hw => E.y_sl_ls (lo := i + 1) Tryz.underlying23 Tryz.sizeOf34 rfl rfl (by omega)) rfl rfl rfl (fun _ _ _ _ h => by obtain ⟨_, _, h, _⟩ := h; cases h) hE ?_
    refine E.DL.only 6 rfl (by kernel_rfl) (fun hsh => ?_)
    have hT := hb.hasT 0 rfl
    refine E.WL.appendB (i := Tryz.t34) (k := 9) (cs := news.drop ((i + 1) * 9)) hb 0 rfl Tryz.underlying23 (by kernel_rfl) rfl rfl rfl hDl (hD.ext (E.Ext.drew _)) (fun u hu => hnew u (List.mem_of_mem_drop hu)) (by omega) (by rw [hDl, hcs]; omega) rfl rfl ?_
    clear hb; intro w1 hb hO
    replace hkp := Keeps.trans hkp (Keeps.only hO hT (by decide))
    clear hT hO
    skip
    refine E.WL.done ?_
    refine E.DL.next hsh (.inr rfl) ?_
    clear hsh
    refine E.DL.takeU 7 rfl (by kernel_rfl) rfl (fun w' => E.y_assign rfl) rfl rfl rfl (fun _ _ _ _ h => by obtain ⟨_, _, h, _⟩ := h; cases h) ?_
    refine E.DL.done (by kernel_rfl) ?_
    clear hE hb0
    refine E.KQ.then_n ?_
    refine E.W.seq ?_
    refine E.W.region ?_
    refine E.WL.as 0 rfl (show _ = Value.slice (some ⟨g, 0, none⟩) (n - 1) c from by show Value.slice (some ⟨g, 0, none⟩) (i + (n - (i + 1))) c = _; rw [show i + (n - (i + 1)) = n - 1 by omega]) ?_
    refine E.WL.val (E.y_move rfl) rfl rfl rfl ?_
    refine E.WL.val (E.y_move rfl) rfl rfl rfl ?_
    refine E.WL.val (E.y_lenS Tryz.underlying23 rfl) rfl rfl rfl ?_
    refine E.WL.val (E.y_move rfl) rfl rfl rfl ?_
    refine E.WL.val (E.y_sl_lhn (lo := n - 1) (hi := n) Tryz.underlying23 Tryz.sizeOf34 rfl rfl rfl (by omega) hnc (by omega)) rfl rfl rfl ?_
    have hT := hb.hasT 0 rfl
    refine E.WL.clearB (k := 9) (i := Tryz.t34) (m := n - (n - 1)) hb 0 ((n - 1) * 9) rfl Tryz.underlying23 Tryz.zeroValue34 rfl (by decide) (by decide) rfl (by rw [ovw_len (by rw [hDl, hcs]; omega), hcs, show n - (n - 1) = 1 by omega]; omega) rfl ?_
    clear hb; intro w2 zs hzs hb hO
    replace hkp := Keeps.trans hkp (Keeps.only hO hT (by decide))
    clear hT hO
    rw [show n - (n - 1) = 1 by omega, Nat.one_mul] at hzs
    have hrow := Bx.row hb 0 rfl (k := 9) (n := n - 1) (cap := c) (by rw [ovw_len (by rw [ovw_len (by rw [hDl, hcs]; omega), hzs, hcs]; omega), ovw_len (by rw [hDl, hcs]; omega)]; exact hcs) (by omega) hcm
    rw [del1 (by rw [hcs]; omega) hDl hzs hi, show cur.take (i * 9) = news.take (i * 9) from by rw [← ht, List.take_take, Nat.min_eq_left (by omega)]] at hrow
    refine E.WL.done ?_
    refine E.KQ.then_n ?_
    refine E.W.seq ?_
    refine E.W.region ?_
    refine E.WL.val (E.y_move rfl) rfl rfl rfl ?_
    refine E.WL.val (E.y_assign rfl) rfl rfl rfl ?_
    refine E.WL.done ?_
    refine E.KQ.then_n ?_
    refine E.W.ret ?_
    refine E.KQ.ret1 Tryz.results63 rfl ?_
    exact ⟨_, rfl, ⟨_, rfl, hrow⟩, hb.below, hkp⟩

set_option maxHeartbeats 2000000 in
theorem deleteBind_calls {w : World} {base : Nat} {v : Value} {n : Nat} {news : List Value} {i : Nat} (own : w.ownsRow base 47 2 v n news) (hbase : base ≤ w.heap.size) (hnew : ∀ u ∈ news, u.oneCell' = true) (hi : i < n) (hbig : n * 32 ≤ 140737488355328) :
    Calls Tryz.prog 98 #[v, (.int .i64 (i : Nat)), (.int .i64 ((i + 1 : Nat) : Int))] w (Ret fun u w' => (∃ v', u = v' ∧ w'.ownsRow base 47 2 v' (n - 1) (cutOut 2 i news)) ∧ Below base w w' ∧ Keeps (fun U => U ≠ 47) w w') := by
  obtain ⟨A, c, rfl, hA⟩ := ownsRow_open own
  obtain ⟨g, rfl⟩ := hA (by omega)
  obtain ⟨cur, hbg, hgg, hnc, hcm, hcs, ht⟩ := ownsRow_heap own
  have hkp : Keeps (fun U => U ≠ 47) w w := Keeps.refl w
  have hin := mul_lt_le (k := 2) hi
  have hncl : n * 2 ≤ c * 2 := Nat.mul_le_mul_right _ hnc
  have hn1 := mul_lt_le (k := 2) (show n - 1 < n by omega)
  have hDl : (news.drop ((i + 1) * 2)).length = (n - (i + 1)) * 2 := by rw [List.length_drop, own.1, Nat.sub_mul]
  have e1 : (n - 1) * 2 = i * 2 + (n - (i + 1)) * 2 := by rw [← Nat.add_mul]; congr 1; omega
  have hb := Bx.one (w := w) hbg hgg hbase
  refine E.enter Tryz.func98 rfl Tryz.ntmps98 [(.slice (some ⟨g, 0, none⟩) n c), (.int .i64 (i : Nat)), (.int .i64 ((i + 1 : Nat) : Int))] rfl ?_
  refine E.W.seq ?_
  refine E.W.region ?_
  refine E.WL.val (E.y_assign rfl) rfl rfl rfl ?_
  refine E.WL.done ?_
  refine E.KQ.then_n ?_
  refine E.W.seq ?_
  refine E.W.region ?_
  refine E.WL.val (E.y_move rfl) rfl rfl rfl ?_
  refine E.WL.val (E.y_move rfl) rfl rfl rfl ?_
  refine E.WL.val (E.y_move rfl) rfl rfl rfl ?_
  refine E.WL.val (E.y_move rfl) rfl rfl rfl ?_
  refine E.WL.val (E.y_lenS Tryz.underlying24 rfl) rfl rfl rfl ?_
  refine E.WL.val (E.y_sl_lhm (lo := i) (hi := i + 1) (mx := n) Tryz.underlying24 Tryz.sizeOf47 rfl rfl rfl rfl (by omega) (by omega) hnc) rfl rfl rfl ?_
  refine E.WL.done ?_
  refine E.KQ.then_n ?_
  refine E.W.seq ?_
  refine E.W.seq ?_
  refine E.W.region ?_
  refine E.WL.val (E.y_move rfl) rfl rfl rfl ?_
  refine E.WL.val (E.y_move rfl) rfl rfl rfl ?_
  refine E.WL.val (E.y_eql rfl rfl) rfl rfl rfl ?_
  refine E.WL.done ?_
  refine E.KQ.then_n ?_
  refine E.W.condT 16 rfl (fun h16 => ?_) (fun h16 => ?_)
  · replace h16 := of_decide_eq_true h16
    exact absurd h16 (by omega)
  · replace h16 := of_decide_eq_false h16
    refine E.W.skip ?_
    refine E.KQ.then_n ?_
    refine E.W.seq ?_
    refine E.W.region ?_
    refine E.WL.val (E.y_move rfl) rfl rfl rfl ?_
    refine E.WL.val (E.y_lenS Tryz.underlying24 rfl) rfl rfl rfl ?_
    refine E.WL.val (E.y_assign rfl) rfl rfl rfl ?_
    refine E.WL.done ?_
    refine E.KQ.then_n ?_
    refine E.W.seq ?_
    have hD : At w (if c = i + 1 then ⟨g, 0, none⟩ else (⟨g, 0, none⟩ : Addr).add ((i + 1) * 2)) (news.drop ((i + 1) * 2)) := by
      split
      · rename_i hce
        intro j u hu; rw [List.drop_eq_nil_of_le (by rw [own.1]; exact Nat.mul_le_mul_right _ (by omega))] at hu; simp at hu
      · intro j u hu; rw [List.getElem?_drop] at hu; rw [add_add]; exact ownsRow_at own _ u hu
    have hb0 := hb
    refine E.W.regionD (E.heads 6 []) rfl ?_
    replace hb := hb.drew
    replace hkp := Keeps.trans hkp (Keeps.ext (E.Ext.drew _))
    have hE := E.Ext.drew w
    refine E.DL.take 0 rfl (by kernel_rfl) (by kernel_rfl) (fun w' hw => E.y_move rfl) rfl rfl rfl (fun _ _ _ _ h => by obtain ⟨_, _, h, _⟩ := h; cases h) hE ?_
    refine E.DL.take 1 rfl (by kernel_rfl) (by kernel_rfl) (fun w' hw => E.y_move rfl) rfl rfl rfl (fun _ _ _ _ h => by obtain ⟨_, _, h, _⟩ := h; cases h) hE ?_
    refine E.DL.take 2 rfl (by kernel_rfl) (by kernel_rfl) (fun w' hw => E.y_sl_h Tryz.underlying24 Tryz.sizeOf47 rfl rfl (by omega)) rfl rfl rfl (fun _ _ _ _ h => by obtain ⟨_, _, h, _⟩ := h; cases h) hE ?_
    refine E.DL.take 3 rfl (by kernel_rfl) (by kernel_rfl) (fun w' hw => E.y_move rfl) rfl rfl rfl (fun _ _ _ _ h => by obtain ⟨_, _, h, _⟩ := h; cases h) hE ?_
    refine E.DL.take 4 rfl (by kernel_rfl) (by kernel_rfl) (fun w' hw => E.y_move rfl) rfl rfl rfl (fun _ _ _ _ h => by obtain ⟨_, _, h, _⟩ := h; cases h) hE ?_
    refine E.DL.take 5 rfl (by kernel_rfl) (by kernel_rfl) (fun w' hw => E.y_sl_ls (lo := i + 1) Tryz.underlying24 Tryz.sizeOf47 rfl rfl (by omega)) rfl rfl rfl (fun _ _ _ _ h => by obtain ⟨_, _, h, _⟩ := h; cases h) hE ?_
    refine E.DL.only 6 rfl (by kernel_rfl) (fun hsh => ?_)
    have hT := hb.hasT 0 rfl
    refine E.WL.appendB (i := Tryz.t47) (k := 2) (cs := news.drop ((i + 1) * 2)) hb 0 rfl Tryz.underlying24 (by kernel_rfl) rfl rfl rfl hDl (hD.ext (E.Ext.drew _)) (fun u hu => hnew u (List.mem_of_mem_drop hu)) (by omega) (by rw [hDl, hcs]; omega) rfl rfl ?_
    clear hb; intro w1 hb hO
    replace hkp := Keeps.trans hkp (Keeps.only hO hT (by decide))
    clear hT hO
    skip
    refine E.WL.done ?_
    refine E.DL.next hsh (.inr rfl) ?_
    clear hsh
    refine E.DL.takeU 7 rfl (by kernel_rfl) rfl (fun w' => E.y_assign rfl) rfl rfl rfl (fun _ _ _ _ h => by obtain ⟨_, _, h, _⟩ := h; cases h) ?_
    refine E.DL.done (by kernel_rfl) ?_
    clear hE hb0
    refine E.KQ.then_n ?_
    refine E.W.seq ?_
    refine E.W.region ?_
    refine E.WL.as 0 rfl (show _ = Value.slice (some ⟨g, 0, none⟩) (n - 1) c from by show Value.slice (some ⟨g, 0, none⟩) (i + (n - (i + 1))) c = _; rw [show i + (n - (i + 1)) = n - 1 by omega]) ?_
    refine E.WL.val (E.y_move rfl) rfl rfl rfl ?_
    refine E.WL.val (E.y_move rfl) rfl rfl rfl ?_
    refine E.WL.val (E.y_lenS Tryz.underlying24 rfl) rfl rfl rfl ?_
    refine E.WL.val (E.y_move rfl) rfl rfl rfl ?_
    refine E.WL.val (E.y_sl_lhn (lo := n - 1) (hi := n) Tryz.underlying24 Tryz.sizeOf47 rfl rfl rfl (by omega) hnc (by omega)) rfl rfl rfl ?_
    have hT := hb.hasT 0 rfl
    refine E.WL.clearB (k := 2) (i := Tryz.t47) (m := n - (n - 1)) hb 0 ((n - 1) * 2) rfl Tryz.underlying24 Tryz.zeroValue47 rfl (by decide) (by decide) rfl (by rw [ovw_len (by rw [hDl, hcs]; omega), hcs, show n - (n - 1) = 1 by omega]; omega) rfl ?_
    clear hb; intro w2 zs hzs hb hO
    replace hkp := Keeps.trans hkp (Keeps.only hO hT (by decide))
    clear hT hO
    rw [show n - (n - 1) = 1 by omega, Nat.one_mul] at hzs
    have hrow := Bx.row hb 0 rfl (k := 2) (n := n - 1) (cap := c) (by rw [ovw_len (by rw [ovw_len (by rw [hDl, hcs]; omega), hzs, hcs]; omega), ovw_len (by rw [hDl, hcs]; omega)]; exact hcs) (by omega) hcm
    rw [del1 (by rw [hcs]; omega) hDl hzs hi, show cur.take (i * 2) = news.take (i * 2) from by rw [← ht, List.take_take, Nat.min_eq_left (by omega)]] at hrow
    refine E.WL.done ?_
    refine E.KQ.then_n ?_
    refine E.W.seq ?_
    refine E.W.region ?_
    refine E.WL.val (E.y_move rfl) rfl rfl rfl ?_
    refine E.WL.val (E.y_assign rfl) rfl rfl rfl ?_
    refine E.WL.done ?_
    refine E.KQ.then_n ?_
    refine E.W.ret ?_
    refine E.KQ.ret1 Tryz.results98 rfl ?_
    exact ⟨_, rfl, ⟨_, rfl, hrow⟩, hb.below, hkp⟩
end Go.Proofs.YtmnnbnajnfdncaaGreatDoor
