/- Walks: a file put in. -/
import Derived.Test.YtmnnbnajnfdncaaDoorG1
set_option linter.unusedVariables false
set_option linter.unusedSimpArgs false
namespace Go.Proofs.YtmnnbnajnfdncaaDoor
open Go.RowKit E
theorem overlapFile (w : World) (B g o lb cb : Nat) (cur : List Value) (hne : B ≠ g) (hT : HasT w 51 B) (hgg : w.heap[g]? = some (.cells cur.toArray 51 (0, 0))) (h0 : 0 < cur.length) :
    (callFunc 62 [.slice (some ⟨B, 0, none⟩) 1 1, .slice (some ((⟨g, 0, none⟩ : Addr).add (o * 3))) lb cb].toArray).run Tryd.prog w = .ok (.value (.bool false)) w := by
  obtain ⟨cs, hc⟩ := hT
  have hz := Tryd.sizeOf51
  rw [add_eq]
  rw [run_callFunc_extern Tryd.func62 (by kernel_rfl) (by kernel_rfl) (by kernel_rfl) (e := Extern.SlicesOverlaps.overlaps #[25, 25] #[4]) (by kernel_rfl)]
  rw [show ([Value.slice (some ⟨B, 0, none⟩) 1 1, Value.slice (some ⟨g, o * 3, none⟩) lb cb].toArray) = #[Value.slice (some ⟨B, 0, none⟩) 1 1, Value.slice (some ⟨g, o * 3, none⟩) lb cb] from rfl]
  rw [Lib.run_overlaps_apart w 25 4 51 Tryd.underlying25 3 hz ⟨B, 0, none⟩ ⟨g, o * 3, none⟩ 1 1 lb cb hne 51 51 cs.size cur.length (by simp [World.shape?, hc]) (by simp [World.shape?, hgg]) (by omega) (by simp [World.frozen?, hc]) (by simp [World.frozen?, hc])]
  rfl

set_option maxHeartbeats 2000000 in
theorem insertFile_calls {w : World} {base : Nat} {v : Value} {n : Nat} {news cs : List Value} {B i : Nat} (own : w.ownsRow base 51 3 v n news) (hbase : base ≤ w.heap.size) (hat : At w ⟨B, 0, none⟩ cs) (hTB : HasT w 51 B) (hgB : v.ownBlock ≠ some B) (hl : cs.length = 3) (hone : ∀ u ∈ cs, u.oneCell' = true) (hnew : ∀ u ∈ news, u.oneCell' = true) (hi : i ≤ n) (hbig : (n + 1) * 40 ≤ 140737488355328) :
    Calls Tryd.prog 46 #[v, (.int .i64 (i : Nat)), (.slice (some ⟨B, 0, none⟩) 1 1)] w (Ret fun u w' => (∃ v', u = v' ∧ w'.ownsRow base 51 3 v' (n + 1) (putIn 3 i news cs)) ∧ Below base w w' ∧ Keeps (fun U => U ≠ 51) w w') := by
  obtain ⟨A, c, rfl, hA⟩ := ownsRow_open own
  have hb := E.Bx.start w (base := base) hbase
  refine E.enter Tryd.func46 rfl Tryd.ntmps46 [(.slice A n c), (.int .i64 (i : Nat)), (.slice (some ⟨B, 0, none⟩) 1 1)] rfl ?_
  refine E.W.seq ?_
  refine E.W.region ?_
  refine E.WL.val (E.y_assign rfl) rfl rfl rfl ?_
  refine E.WL.done ?_
  refine E.KQ.then_n ?_
  refine E.W.seq ?_
  refine E.W.region ?_
  refine E.WL.val (E.y_move rfl) rfl rfl rfl ?_
  refine E.WL.val (E.y_move rfl) rfl rfl rfl ?_
  refine E.WL.val (E.y_sl_l Tryd.underlying25 Tryd.sizeOf51 rfl rfl hi) rfl rfl rfl ?_
  refine E.WL.done ?_
  refine E.KQ.then_n ?_
  refine E.W.seq ?_
  refine E.W.region ?_
  refine E.WL.val (E.y_move rfl) rfl rfl rfl ?_
  refine E.WL.val (E.y_lenS Tryd.underlying25 rfl) rfl rfl rfl ?_
  refine E.WL.val (E.y_assign rfl) rfl rfl rfl ?_
  refine E.WL.done ?_
  refine E.KQ.then_n ?_
  refine E.W.seq ?_
  refine E.W.seq ?_
  refine E.W.region ?_
  refine E.WL.val (E.y_move rfl) rfl rfl rfl ?_
  refine E.WL.val (E.y_eql rfl rfl) rfl rfl rfl ?_
  refine E.WL.done ?_
  refine E.KQ.then_n ?_
  refine E.W.condT 16 rfl (fun h16 => ?_) (fun h16 => ?_)
  · replace h16 := of_decide_eq_true h16
    exact absurd h16 (by decide)
  · replace h16 := of_decide_eq_false h16
    refine E.W.skip ?_
    refine E.KQ.then_n ?_
    refine E.W.seq ?_
    refine E.W.region ?_
    refine E.WL.val (E.y_move rfl) rfl rfl rfl ?_
    refine E.WL.val (E.y_lenS Tryd.underlying25 rfl) rfl rfl rfl ?_
    refine E.WL.val (E.y_assign rfl) rfl rfl rfl ?_
    refine E.WL.done ?_
    refine E.KQ.then_n ?_
    refine E.W.seq ?_
    refine E.W.seq ?_
    refine E.W.region ?_
    refine E.WL.val (E.y_move rfl) rfl rfl rfl ?_
    refine E.WL.val (E.y_move rfl) rfl rfl rfl ?_
    refine E.WL.val (E.y_eql rfl rfl) rfl rfl rfl ?_
    refine E.WL.done ?_
    refine E.KQ.then_n ?_
    refine E.W.condT 22 rfl (fun h22 => ?_) (fun h22 => ?_)
    · replace h22 : i = n := by have := of_decide_eq_true h22; omega
      refine E.W.seq ?_
      refine E.W.region ?_
      refine E.WL.val (E.y_move rfl) rfl rfl rfl ?_
      refine E.WL.val (E.y_move rfl) rfl rfl rfl ?_
      subst h22
      refine E.WL.append Tryd.underlying25 (i := Tryd.t51) (size := 3) (bytes := 40) (by kernel_rfl) rfl rfl rfl rfl (by decide) (v := .slice A i c) rfl rfl own hat hl hone (by omega) (by decide) hbase rfl rfl (fun v' w6 own6 hg6 _ => ?_)
      have hB6 : Below base w w6 := grown_below (Below.refl _ _) hg6 hbase (fun k hk => (own.lt k hk).1)
      have hK6 : Keeps (fun U => U ≠ 51) w w6 := Keeps.grown hg6 (ownsRow_hasT own) (by decide)
      refine E.WL.val (E.y_assign rfl) rfl rfl rfl ?_
      refine E.WL.done ?_
      refine E.KQ.then_n ?_
      refine E.W.ret ?_
      refine E.KQ.then_r ?_
      refine E.KQ.ret1 Tryd.results46 rfl ?_
      exact ⟨_, rfl, ⟨_, rfl, by have e1 : i * 3 = news.length := own.1.symm; unfold putIn; rw [e1, List.take_length, List.drop_length, List.append_nil]; exact own6⟩, hB6, hK6⟩
    · replace h22 : ¬ i = n := by have := of_decide_eq_false h22; omega
      obtain ⟨g, rfl⟩ := hA (by omega)
      obtain ⟨cur, hbg, hgg, hnc, hcm, hcs, ht⟩ := ownsRow_heap own
      clear hb
      have hb := Bx.one (w := w) hbg hgg hbase
      have hkp : Keeps (fun U => U ≠ 51) w w := Keeps.refl w
      have hgB' : B ≠ g := fun e => hgB (by rw [e]; rfl)
      have hin := mul_lt_le (k := 3) (show i < n by omega)
      have hncl : n * 3 ≤ c * 3 := Nat.mul_le_mul_right _ hnc
      have hD : At w ((⟨g, 0, none⟩ : Addr).add (i * 3)) (news.drop (i * 3)) := fun j u hu => by rw [List.getElem?_drop] at hu; rw [add_add]; exact ownsRow_at own _ u hu
      have hDl : (news.drop (i * 3)).length = (n - i) * 3 := by rw [List.length_drop, own.1, Nat.sub_mul]
      refine E.W.skip ?_
      refine E.KQ.then_n ?_
      refine E.W.seq ?_
      refine E.W.seq ?_
      refine E.W.region ?_
      refine E.WL.val (E.y_move rfl) rfl rfl rfl ?_
      refine E.WL.val (E.y_move rfl) rfl rfl rfl ?_
      refine E.WL.val (E.y_add rfl rfl (Go.IntWalk.i64_in _ (by omega))) rfl rfl rfl ?_
      refine E.WL.val (E.y_move rfl) rfl rfl rfl ?_
      refine E.WL.val (E.y_capS Tryd.underlying25 rfl) rfl rfl rfl ?_
      refine E.WL.val (E.y_gtr rfl rfl) rfl rfl rfl ?_
      refine E.WL.done ?_
      refine E.KQ.then_n ?_
      refine E.W.condT 31 rfl (fun h31 => ?_) (fun h31 => ?_)
      · replace h31 : c < n + 1 := by have := of_decide_eq_true h31; omega
        refine E.W.seq ?_
        refine E.W.region ?_
        refine E.WL.val (E.y_move rfl) rfl rfl rfl ?_
        refine E.WL.val (E.y_move rfl) rfl rfl rfl ?_
        refine E.WL.val (E.y_sl_h Tryd.underlying25 Tryd.sizeOf51 rfl rfl (by omega)) rfl rfl rfl ?_
        refine E.WL.val (E.y_move rfl) rfl rfl rfl ?_
        refine E.WL.val (E.y_move rfl) rfl rfl rfl ?_
        refine E.WL.val (E.y_add rfl rfl (Go.IntWalk.i64_in _ (by omega))) rfl rfl rfl ?_
        refine E.WL.val (E.y_move rfl) rfl rfl rfl ?_
        refine E.WL.val (E.y_sub rfl rfl (Go.IntWalk.i64_in _ (by omega))) rfl rfl rfl ?_
        refine E.WL.as 39 rfl (show _ = Value.int .i64 ((n + 1 - i : Nat) : Int) from congrArg (Value.int .i64) (by omega)) ?_
        refine E.WL.appendZ (i := Tryd.t51) (size := 3) (bytes := 40) (olds := news.take (i * 3)) (k := n + 1 - i) hb Tryd.underlying25 Tryd.underlying3 (by kernel_rfl) rfl rfl rfl rfl (by decide) (by decide) rfl rfl (by rw [List.length_take, own.1]; exact Nat.min_eq_left (Nat.mul_le_mul_right _ hi)) ?_ (by omega) (by omega) (by omega) rfl rfl (fun G w6 row cap' hrl hrt hrc hrm hb' hX hG => ?_)
        · have := ownsRow_at own; exact fun j u hu => this j u (by rw [List.getElem?_take] at hu; split at hu; exact hu; cases hu)
        replace hkp := Keeps.trans hkp (Keeps.ext hX)
        replace hat := hat.ext hX
        clear hb
        have hb := hb'
        clear hb'
        rw [show i + (n + 1 - i) = n + 1 by omega] at hrc
        refine E.WL.as 40 rfl (show _ = Value.slice (some ⟨G, 0, none⟩) (n + 1) cap' from by rw [show i + (n + 1 - i) = n + 1 by omega]) ?_
        refine E.WL.val (E.y_assign rfl) rfl rfl rfl ?_
        refine E.WL.done ?_
        refine E.KQ.then_n ?_
        refine E.W.seq ?_
        refine E.W.region ?_
        refine E.WL.val (E.y_move rfl) rfl rfl rfl ?_
        refine E.WL.val (E.y_move rfl) rfl rfl rfl ?_
        refine E.WL.val (E.y_sl_ln (lo := i) Tryd.underlying25 Tryd.sizeOf51 rfl rfl (by omega) (by omega)) rfl rfl rfl ?_
        refine E.WL.val (E.y_move rfl) rfl rfl rfl ?_
        have hT := hb.hasT 0 rfl
        refine E.WL.copyB (k := 3) (m := 1) (cs := cs) hb 0 (i * 3) rfl Tryd.underlying25 Tryd.sizeOf51 rfl rfl (by simp only [Nat.min_def]; split <;> omega) (by rw [hl]) (hat) (hone) (by rw [hl, hrl]; have := Nat.mul_le_mul_right 3 hrc; omega) rfl rfl ?_
        clear hb; intro w1 hb hO
        replace hkp := Keeps.trans hkp (Keeps.only hO hT (by decide))
        clear hT
        skip
        refine E.WL.done ?_
        refine E.KQ.then_n ?_
        refine E.W.seq ?_
        have hDE : At w1 ((⟨g, 0, none⟩ : Addr).add (i * 3)) (news.drop (i * 3)) := fun j u hu => by rw [add_add, add_eq]; rw [List.getElem?_drop, ← ht, List.getElem?_take] at hu; split at hu; exact (by have := hb.at0 1 rfl _ u hu; rw [add_eq] at this; simpa using this); cases hu
        have hb0 := hb
        refine E.W.regionD (E.heads 8 []) rfl ?_
        replace hb := hb.drew
        replace hkp := Keeps.trans hkp (Keeps.ext (E.Ext.drew _))
        have hE := E.Ext.drew w1
        refine E.DL.take 0 rfl (by kernel_rfl) (by kernel_rfl) (fun w' hw => E.y_move rfl) rfl rfl rfl (fun _ _ _ _ h => by obtain ⟨_, _, h, _⟩ := h; cases h) hE ?_
        refine E.DL.take 1 rfl (by kernel_rfl) (by kernel_rfl) (fun w' hw => E.y_move rfl) rfl rfl rfl (fun _ _ _ _ h => by obtain ⟨_, _, h, _⟩ := h; cases h) hE ?_
        refine E.DL.take 2 rfl (by kernel_rfl) (by kernel_rfl) (fun w' hw => E.y_move rfl) rfl rfl rfl (fun _ _ _ _ h => by obtain ⟨_, _, h, _⟩ := h; cases h) hE ?_
        refine E.DL.take 3 rfl (by kernel_rfl) (by kernel_rfl) (fun w' hw => E.y_add rfl rfl (Go.IntWalk.i64_in _ (by omega))) rfl rfl rfl (fun _ _ _ _ h => by obtain ⟨_, _, h, _⟩ := h; cases h) hE ?_
        refine E.DL.take 4 rfl (by kernel_rfl) (by kernel_rfl) (fun w' hw => E.y_sl_ln (lo := i + 1) Tryd.underlying25 Tryd.sizeOf51 rfl rfl (by omega) (by omega)) rfl rfl rfl (fun _ _ _ _ h => by obtain ⟨_, _, h, _⟩ := h; cases h) hE ?_
        refine E.DL.take 5 rfl (by kernel_rfl) (by kernel_rfl) (fun w' hw => E.y_move rfl) rfl rfl rfl (fun _ _ _ _ h => by obtain ⟨_, _, h, _⟩ := h; cases h) hE ?_
        refine E.DL.take 6 rfl (by kernel_rfl) (by kernel_rfl) (fun w' hw => E.y_move rfl) rfl rfl rfl (fun _ _ _ _ h => by obtain ⟨_, _, h, _⟩ := h; cases h) hE ?_
        refine E.DL.take 7 rfl (by kernel_rfl) (by kernel_rfl) (fun w' hw => E.y_sl_ln (lo := i) Tryd.underlying25 Tryd.sizeOf51 rfl rfl (by omega) (by omega)) rfl rfl rfl (fun _ _ _ _ h => by obtain ⟨_, _, h, _⟩ := h; cases h) hE ?_
        refine E.DL.only 8 rfl (by kernel_rfl) (fun hsh => ?_)
        have hT := hb.hasT 0 rfl
        refine E.WL.copyB (k := 3) (m := n - i) (cs := news.drop (i * 3)) hb 0 ((i + 1) * 3) rfl Tryd.underlying25 Tryd.sizeOf51 rfl rfl (by simp only [Nat.min_def]; split <;> omega) (hDl) (hDE.ext (E.Ext.drew _)) (fun u hu => hnew u (List.mem_of_mem_drop hu)) (by rw [ovw_len (by rw [hl, hrl]; have := Nat.mul_le_mul_right 3 hrc; omega), hDl, hrl]; have := Nat.mul_le_mul_right 3 hrc; omega) rfl rfl ?_
        clear hb; intro w2 hb hO
        replace hkp := Keeps.trans hkp (Keeps.only hO hT (by decide))
        clear hT
        have hrow := Bx.row hb 0 rfl (k := 3) (n := n + 1) (by rw [ovw_len (by rw [ovw_len (by rw [hl, hrl]; have := Nat.mul_le_mul_right 3 hrc; omega), hDl, hrl]; have := Nat.mul_le_mul_right 3 hrc; omega), ovw_len (by rw [hl, hrl]; have := Nat.mul_le_mul_right 3 hrc; omega)]; exact hrl) hrc hrm
        rw [ins1 (by rw [hrl]; exact Nat.mul_le_mul_right _ hrc) hl hDl hi, hrt] at hrow
        refine E.WL.done ?_
        refine E.DL.next hsh (.inr rfl) ?_
        clear hsh
        refine E.DL.done (by kernel_rfl) ?_
        clear hE hb0
        refine E.KQ.then_n ?_
        refine E.W.seq ?_
        refine E.W.region ?_
        refine E.WL.val (E.y_move rfl) rfl rfl rfl ?_
        refine E.WL.val (E.y_assign rfl) rfl rfl rfl ?_
        refine E.WL.done ?_
        refine E.KQ.then_n ?_
        refine E.W.ret ?_
        refine E.KQ.then_r ?_
        refine E.KQ.ret1 Tryd.results46 rfl ?_
        exact ⟨_, rfl, ⟨_, rfl, hrow⟩, hb.below, hkp⟩
      · replace h31 : n + 1 ≤ c := by have := of_decide_eq_false h31; omega
        have hncl1 : (n + 1) * 3 ≤ c * 3 := Nat.mul_le_mul_right _ h31
        refine E.W.skip ?_
        refine E.KQ.then_n ?_
        refine E.W.seq ?_
        refine E.W.region ?_
        refine E.WL.val (E.y_move rfl) rfl rfl rfl ?_
        refine E.WL.val (E.y_move rfl) rfl rfl rfl ?_
        refine E.WL.val (E.y_move rfl) rfl rfl rfl ?_
        refine E.WL.val (E.y_add rfl rfl (Go.IntWalk.i64_in _ (by omega))) rfl rfl rfl ?_
        refine E.WL.val (E.y_sl_h Tryd.underlying25 Tryd.sizeOf51 rfl rfl h31) rfl rfl rfl ?_
        refine E.WL.val (E.y_assign rfl) rfl rfl rfl ?_
        refine E.WL.done ?_
        refine E.KQ.then_n ?_
        refine E.W.seq ?_
        refine E.W.seq ?_
        refine E.W.region ?_
        refine E.WL.val (E.y_move rfl) rfl rfl rfl ?_
        refine E.WL.val (E.y_move rfl) rfl rfl rfl ?_
        refine E.WL.val (E.y_move rfl) rfl rfl rfl ?_
        refine E.WL.val (E.y_move rfl) rfl rfl rfl ?_
        refine E.WL.val (E.y_add rfl rfl (Go.IntWalk.i64_in _ (by omega))) rfl rfl rfl ?_
        refine E.WL.val (E.y_sl_ln (lo := i + 1) Tryd.underlying25 Tryd.sizeOf51 rfl rfl (by omega) (by omega)) rfl rfl rfl ?_
        refine E.WL.val (E.y_extern (vs := [.slice (some ⟨B, 0, none⟩) 1 1, .slice (some ((⟨g, 0, none⟩ : Addr).add ((i + 1) * 3))) (n + 1 - (i + 1)) (c - (i + 1))]) (overlapFile w B g (i + 1) (n + 1 - (i + 1)) (c - (i + 1)) cur hgB' hTB hgg (by rw [hcs]; omega)) rfl) rfl rfl rfl ?_
        refine E.WL.val (E.y_not rfl) rfl rfl rfl ?_
        refine E.WL.done ?_
        refine E.KQ.then_n ?_
        refine E.W.cond_t rfl ?_
        refine E.W.seq ?_
        have hb0 := hb
        refine E.W.regionD (E.heads 8 []) rfl ?_
        replace hb := hb.drew
        replace hkp := Keeps.trans hkp (Keeps.ext (E.Ext.drew _))
        have hE := E.Ext.drew w
        refine E.DL.take 0 rfl (by kernel_rfl) (by kernel_rfl) (fun w' hw => E.y_move rfl) rfl rfl rfl (fun _ _ _ _ h => by obtain ⟨_, _, h, _⟩ := h; cases h) hE ?_
        refine E.DL.take 1 rfl (by kernel_rfl) (by kernel_rfl) (fun w' hw => E.y_move rfl) rfl rfl rfl (fun _ _ _ _ h => by obtain ⟨_, _, h, _⟩ := h; cases h) hE ?_
        refine E.DL.take 2 rfl (by kernel_rfl) (by kernel_rfl) (fun w' hw => E.y_move rfl) rfl rfl rfl (fun _ _ _ _ h => by obtain ⟨_, _, h, _⟩ := h; cases h) hE ?_
        refine E.DL.take 3 rfl (by kernel_rfl) (by kernel_rfl) (fun w' hw => E.y_add rfl rfl (Go.IntWalk.i64_in _ (by omega))) rfl rfl rfl (fun _ _ _ _ h => by obtain ⟨_, _, h, _⟩ := h; cases h) hE ?_
        refine E.DL.take 4 rfl (by kernel_rfl) (by kernel_rfl) (fun w' hw => E.y_sl_ln (lo := i + 1) Tryd.underlying25 Tryd.sizeOf51 rfl rfl (by omega) (by omega)) rfl rfl rfl (fun _ _ _ _ h => by obtain ⟨_, _, h, _⟩ := h; cases h) hE ?_
        refine E.DL.take 5 rfl (by kernel_rfl) (by kernel_rfl) (fun w' hw => E.y_move rfl) rfl rfl rfl (fun _ _ _ _ h => by obtain ⟨_, _, h, _⟩ := h; cases h) hE ?_
        refine E.DL.take 6 rfl (by kernel_rfl) (by kernel_rfl) (fun w' hw => E.y_move rfl) rfl rfl rfl (fun _ _ _ _ h => by obtain ⟨_, _, h, _⟩ := h; cases h) hE ?_
        refine E.DL.take 7 rfl (by kernel_rfl) (by kernel_rfl) (fun w' hw => E.y_sl_ln (lo := i) Tryd.underlying25 Tryd.sizeOf51 rfl rfl (by omega) (by omega)) rfl rfl rfl (fun _ _ _ _ h => by obtain ⟨_, _, h, _⟩ := h; cases h) hE ?_
        refine E.DL.only 8 rfl (by kernel_rfl) (fun hsh => ?_)
        have hT := hb.hasT 0 rfl
        refine E.WL.copyB (k := 3) (m := n - i) (cs := news.drop (i * 3)) hb 0 ((i + 1) * 3) rfl Tryd.underlying25 Tryd.sizeOf51 rfl rfl (by simp only [Nat.min_def]; split <;> omega) (hDl) (hD.ext (E.Ext.drew _)) (fun u hu => hnew u (List.mem_of_mem_drop hu)) (by rw [hDl, hcs]; omega) rfl rfl ?_
        clear hb; intro w3 hb hO
        replace hkp := Keeps.trans hkp (Keeps.only hO hT (by decide))
        clear hT
        refine E.WL.done ?_
        refine E.DL.next hsh (.inr rfl) ?_
        clear hsh
        refine E.DL.done (by kernel_rfl) ?_
        clear hE hb0
        refine E.KQ.then_n ?_
        refine E.W.seq ?_
        refine E.W.region ?_
        refine E.WL.val (E.y_move rfl) rfl rfl rfl ?_
        refine E.WL.val (E.y_move rfl) rfl rfl rfl ?_
        refine E.WL.val (E.y_sl_ln (lo := i) Tryd.underlying25 Tryd.sizeOf51 rfl rfl (by omega) (by omega)) rfl rfl rfl ?_
        refine E.WL.val (E.y_move rfl) rfl rfl rfl ?_
        have hatB : At w3 ⟨B, 0, none⟩ cs := fun j u hu => (World.cell?_of_block (by rw [add_block]; exact ((hO.block B hgB').trans (E.Ext.drew w |>.block B hTB.lt)))).trans (hat j u hu)
        have hT := hb.hasT 0 rfl
        refine E.WL.copyB (k := 3) (m := 1) (cs := cs) hb 0 (i * 3) rfl Tryd.underlying25 Tryd.sizeOf51 rfl rfl (by simp only [Nat.min_def]; split <;> omega) (by rw [hl]) (hatB) (hone) (by rw [ovw_len (by rw [hDl, hcs]; omega), hl, hcs]; omega) rfl rfl ?_
        clear hb; intro w4 hb hO
        replace hkp := Keeps.trans hkp (Keeps.only hO hT (by decide))
        clear hT
        have hrow := Bx.row hb 0 rfl (k := 3) (n := n + 1) (by rw [ovw_len (by rw [ovw_len (by rw [hDl, hcs]; omega), hl, hcs]; omega), ovw_len (by rw [hDl, hcs]; omega)]; exact hcs) h31 hcm
        rw [ins2 (by rw [hcs]; omega) hl hDl hi, show cur.take (i * 3) = news.take (i * 3) from by rw [← ht, List.take_take, Nat.min_eq_left (by omega)]] at hrow
        refine E.WL.done ?_
        refine E.KQ.then_n ?_
        refine E.W.seq ?_
        refine E.W.region ?_
        refine E.WL.val (E.y_move rfl) rfl rfl rfl ?_
        refine E.WL.val (E.y_assign rfl) rfl rfl rfl ?_
        refine E.WL.done ?_
        refine E.KQ.then_n ?_
        refine E.W.ret ?_
        refine E.KQ.then_r ?_
        refine E.KQ.ret1 Tryd.results46 rfl ?_
        exact ⟨_, rfl, ⟨_, rfl, hrow⟩, hb.below, hkp⟩
end Go.Proofs.YtmnnbnajnfdncaaDoor
