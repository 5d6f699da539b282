/- Walks: a file taken out, another by its side. -/
import Derived.Test.YtmnnbnajnfdncaaDoorG3
set_option linter.unusedVariables false
set_option linter.unusedSimpArgs false
namespace Go.Proofs.YtmnnbnajnfdncaaDoor
open Go.RowKit E
set_option maxHeartbeats 2000000 in
theorem deleteFileX_calls {w : World} {base : Nat} {v : Value} {n : Nat} {news : List Value} {i : Nat} (own : w.ownsRow base 51 3 v n news) (hbase : base ≤ w.heap.size) (hnew : ∀ u ∈ news, u.oneCell' = true) (hi : i < n) {x : Nat} {cx : List Value} (hbx : base ≤ x) (hgx : w.heap[x]? = some (.cells cx.toArray 51 (0, 0))) (hnx : v.ownBlock ≠ some x) (hbig : n * 40 ≤ 140737488355328) :
    Calls Tryd.prog 47 #[v, (.int .i64 (i : Nat)), (.int .i64 ((i + 1 : Nat) : Int))] w (Ret fun u w' => (∃ v', u = v' ∧ w'.ownsRow base 51 3 v' (n - 1) (cutOut 3 i news)) ∧ w'.heap[x]? = some (.cells cx.toArray 51 (0, 0)) ∧ Below base w w' ∧ Keeps (fun U => U ≠ 51) w w') := by
  obtain ⟨A, c, rfl, hA⟩ := ownsRow_open own
  obtain ⟨g, rfl⟩ := hA (by omega)
  have hne : g ≠ x := fun e => hnx (by rw [e]; rfl)
  obtain ⟨cur, hbg, hgg, hnc, hcm, hcs, ht⟩ := ownsRow_heap own
  have hkp : Keeps (fun U => U ≠ 51) w w := Keeps.refl w
  have hin := mul_lt_le (k := 3) hi
  have hncl : n * 3 ≤ c * 3 := Nat.mul_le_mul_right _ hnc
  have hn1 := mul_lt_le (k := 3) (show n - 1 < n by omega)
  have hDl : (news.drop ((i + 1) * 3)).length = (n - (i + 1)) * 3 := by rw [List.length_drop, own.1, Nat.sub_mul]
  have e1 : (n - 1) * 3 = i * 3 + (n - (i + 1)) * 3 := by rw [← Nat.add_mul]; congr 1; omega
  have hb := Bx.two (w := w) hbg hgg hbx hgx hne hbase
  refine E.enter Tryd.func47 rfl Tryd.ntmps47 [(.slice (some ⟨g, 0, none⟩) n c), (.int .i64 (i : Nat)), (.int .i64 ((i + 1 : Nat) : Int))] rfl ?_
  refine E.W.seq ?_
  refine E.W.region ?_
  refine E.WL.val (E.y_assign rfl) rfl rfl rfl ?_
  refine E.WL.done ?_
  refine E.KQ.then_n ?_
  refine E.W.seq ?_
  refine E.W.region ?_
  refine E.WL.val (E.y_move rfl) rfl rfl rfl ?_
  refine E.WL.val (E.y_move rfl) rfl rfl rfl ?_
  refine E.WL.val (E.y_move rfl) rfl rfl rfl ?_
  refine E.WL.val (E.y_move rfl) rfl rfl rfl ?_
  refine E.WL.val (E.y_lenS Tryd.underlying25 rfl) rfl rfl rfl ?_
  refine E.WL.val (E.y_sl_lhm (lo := i) (hi := i + 1) (mx := n) Tryd.underlying25 Tryd.sizeOf51 rfl rfl rfl rfl (by omega) (by omega) hnc) rfl rfl rfl ?_
  refine E.WL.done ?_
  refine E.KQ.then_n ?_
  refine E.W.seq ?_
  refine E.W.seq ?_
  refine E.W.region ?_
  refine E.WL.val (E.y_move rfl) rfl rfl rfl ?_
  refine E.WL.val (E.y_move rfl) rfl rfl rfl ?_
  refine E.WL.val (E.y_eql rfl rfl) rfl rfl rfl ?_
  refine E.WL.done ?_
  refine E.KQ.then_n ?_
  refine E.W.condT 16 rfl (fun h16 => ?_) (fun h16 => ?_)
  · replace h16 := of_decide_eq_true h16
    exact absurd h16 (by omega)
  · replace h16 := of_decide_eq_false h16
    refine E.W.skip ?_
    refine E.KQ.then_n ?_
    refine E.W.seq ?_
    refine E.W.region ?_
    refine E.WL.val (E.y_move rfl) rfl rfl rfl ?_
    refine E.WL.val (E.y_lenS Tryd.underlying25 rfl) rfl rfl rfl ?_
    refine E.WL.val (E.y_assign rfl) rfl rfl rfl ?_
    refine E.WL.done ?_
    refine E.KQ.then_n ?_
    refine E.W.seq ?_
    have hD : At w (if c = i + 1 then ⟨g, 0, none⟩ else (⟨g, 0, none⟩ : Addr).add ((i + 1) * 3)) (news.drop ((i + 1) * 3)) := by
      split
      · rename_i hce
        intro j u hu; rw [List.drop_eq_nil_of_le (by rw [own.1]; exact Nat.mul_le_mul_right _ (by omega))] at hu; simp at hu
      · intro j u hu; rw [List.getElem?_drop] at hu; rw [add_add]; exact ownsRow_at own _ u hu
    have hb0 := hb
    refine E.W.regionD (E.heads 6 []) rfl ?_
    replace hb := hb.drew
    replace hkp := Keeps.trans hkp (Keeps.ext (E.Ext.drew _))
    have hE := E.Ext.drew w
    refine E.DL.take 0 rfl (by kernel_rfl) (by kernel_rfl) (fun w' hw => E.y_move rfl) rfl rfl rfl (fun _ _ _ _ h => by obtain ⟨_, _, h, _⟩ := h; cases h) hE ?_
    refine E.DL.take 1 rfl (by kernel_rfl) (by kernel_rfl) (fun w' hw => E.y_move rfl) rfl rfl rfl (fun _ _ _ _ h => by obtain ⟨_, _, h, _⟩ := h; cases h) hE ?_
    refine E.DL.take 2 rfl (by kernel_rfl) (by kernel_rfl) (fun w' hw => E.y_sl_h Tryd.underlying25 Tryd.sizeOf51 rfl rfl (by omega)) rfl rfl rfl (fun _ _ _ _ h => by obtain ⟨_, _, h, _⟩ := h; cases h) hE ?_
    refine E.DL.take 3 rfl (by kernel_rfl) (by kernel_rfl) (fun w' hw => E.y_move rfl) rfl rfl rfl (fun _ _ _ _ h => by obtain ⟨_, _, h, _⟩ := h; cases h) hE ?_
    refine E.DL.take 4 rfl (by kernel_rfl) (by kernel_rfl) (fun w' hw => E.y_move rfl) rfl rfl rfl (fun _ _ _ _ h => by obtain ⟨_, _, h, _⟩ := h; cases h) hE ?_
    refine E.DL.take 5 rfl (by kernel_rfl) (by kernel_rfl) (fun w' hw => E.y_sl_ls (lo := i + 1) Tryd.underlying25 Tryd.sizeOf51 rfl rfl (by omega)) rfl rfl rfl (fun _ _ _ _ h => by obtain ⟨_, _, h, _⟩ := h; cases h) hE ?_
    refine E.DL.only 6 rfl (by kernel_rfl) (fun hsh => ?_)
    have hT := hb.hasT 0 rfl
    refine E.WL.appendB (i := Tryd.t51) (k := 3) (cs := news.drop ((i + 1) * 3)) hb 0 rfl Tryd.underlying25 (by kernel_rfl) rfl rfl rfl hDl (hD.ext (E.Ext.drew _)) (fun u hu => hnew u (List.mem_of_mem_drop hu)) (by omega) (by rw [hDl, hcs]; omega) rfl rfl ?_
    clear hb; intro w1 hb hO
    replace hkp := Keeps.trans hkp (Keeps.only hO hT (by decide))
    clear hT hO
    skip
    refine E.WL.done ?_
    refine E.DL.next hsh (.inr rfl) ?_
    clear hsh
    refine E.DL.takeU 7 rfl (by kernel_rfl) rfl (fun w' => E.y_assign rfl) rfl rfl rfl (fun _ _ _ _ h => by obtain ⟨_, _, h, _⟩ := h; cases h) ?_
    refine E.DL.done (by kernel_rfl) ?_
    clear hE hb0
    refine E.KQ.then_n ?_
    refine E.W.seq ?_
    refine E.W.region ?_
    refine E.WL.as 0 rfl (show _ = Value.slice (some ⟨g, 0, none⟩) (n - 1) c from by show Value.slice (some ⟨g, 0, none⟩) (i + (n - (i + 1))) c = _; rw [show i + (n - (i + 1)) = n - 1 by omega]) ?_
    refine E.WL.val (E.y_move rfl) rfl rfl rfl ?_
    refine E.WL.val (E.y_move rfl) rfl rfl rfl ?_
    refine E.WL.val (E.y_lenS Tryd.underlying25 rfl) rfl rfl rfl ?_
    refine E.WL.val (E.y_move rfl) rfl rfl rfl ?_
    refine E.WL.val (E.y_sl_lhn (lo := n - 1) (hi := n) Tryd.underlying25 Tryd.sizeOf51 rfl rfl rfl (by omega) hnc (by omega)) rfl rfl rfl ?_
    have hT := hb.hasT 0 rfl
    refine E.WL.clearB (k := 3) (i := Tryd.t51) (m := n - (n - 1)) hb 0 ((n - 1) * 3) rfl Tryd.underlying25 Tryd.zeroValue51 rfl (by decide) (by decide) rfl (by rw [ovw_len (by rw [hDl, hcs]; omega), hcs, show n - (n - 1) = 1 by omega]; omega) rfl ?_
    clear hb; intro w2 zs hzs hb hO
    replace hkp := Keeps.trans hkp (Keeps.only hO hT (by decide))
    clear hT hO
    rw [show n - (n - 1) = 1 by omega, Nat.one_mul] at hzs
    have hrow := Bx.row hb 0 rfl (k := 3) (n := n - 1) (cap := c) (by rw [ovw_len (by rw [ovw_len (by rw [hDl, hcs]; omega), hzs, hcs]; omega), ovw_len (by rw [hDl, hcs]; omega)]; exact hcs) (by omega) hcm
    rw [del1 (by rw [hcs]; omega) hDl hzs hi, show cur.take (i * 3) = news.take (i * 3) from by rw [← ht, List.take_take, Nat.min_eq_left (by omega)]] at hrow
    refine E.WL.done ?_
    refine E.KQ.then_n ?_
    refine E.W.seq ?_
    refine E.W.region ?_
    refine E.WL.val (E.y_move rfl) rfl rfl rfl ?_
    refine E.WL.val (E.y_assign rfl) rfl rfl rfl ?_
    refine E.WL.done ?_
    refine E.KQ.then_n ?_
    refine E.W.ret ?_
    refine E.KQ.ret1 Tryd.results47 rfl ?_
    exact ⟨_, rfl, ⟨_, rfl, hrow⟩, (hb.get (i := 1) rfl).2, hb.below, hkp⟩
end Go.Proofs.YtmnnbnajnfdncaaDoor
