/- Walks: members, a snapshot's check, its bytes (through a builder). -/
import Derived.Test.YtmnnbnajnfdncaaDoorSnape
import Derived.Laws.Pointers
set_option linter.unusedVariables false
set_option linter.unusedSimpArgs false
namespace Go.Proofs.YtmnnbnajnfdncaaDoor
open Go.RowKit E
theorem str_bytes (s : ByteArray) : Lib.strCells s = (bytesOf s).map byteV := rfl
theorem At.u8 {w : World} {p : Addr} {l : List UInt8} (h : At w p (l.map byteV)) : ∀ j x, l[j]? = some x → w.cell? (p.add j) = some (.int .u8 x.toNat) := fun j x hx => h j _ (by rw [List.getElem?_map, hx]; rfl)
section
variable {n : Nat} {l : Fr} {w : World} {dst : Option Tmp} {x : Operand} {ty : TypeId} {pos : String} {aft : Array Edge} {gd : Option (Nat × Bool)} {B : Nat} {p v : Value}
theorem shape98 (hc : w.heap[B]? = some (.cells [p, v].toArray 98 (0, 0))) : w.shape? B = some (98, 2) := by simp [World.shape?, hc]
theorem y_toUnsafe (hc : w.heap[B]? = some (.cells [p, v].toArray 98 (0, 0))) (h : l.ev x = some (.pointer (some ⟨B, 0, none⟩))) : RunV Tryd.prog n l ⟨dst, .convert 96 121 x, ty, pos, aft, gd⟩ w (.pointer (some ⟨B, 0, none⟩)) w := fun a ha => by
  have := Lib.run_to_unsafe (P := Tryd.prog) w (src := 96) (dst := 121) (t := 98) (e := 98) (j := Tryd.t98) (cells := 2) ⟨B, 0, none⟩ Tryd.underlying96 Tryd.underlying121 (by kernel_rfl) (by decide) (shape98 hc) (by show 0 < 2; decide)
  simp [execOp, ha.ev h, this]
theorem y_fromUnsafe (hc : w.heap[B]? = some (.cells [p, v].toArray 98 (0, 0))) (h : l.ev x = some (.pointer (some ⟨B, 0, none⟩))) : RunV Tryd.prog n l ⟨dst, .convert 121 96 x, ty, pos, aft, gd⟩ w (.pointer (some ⟨B, 0, none⟩)) w := fun a ha => by
  have := Lib.run_from_unsafe (P := Tryd.prog) w (src := 121) (dst := 96) (u := 98) (e := 98) (j := Tryd.t98) (cells := 2) ⟨B, 0, none⟩ Tryd.underlying121 Tryd.underlying96 (by kernel_rfl) (shape98 hc) (by kernel_rfl)
  simp [execOp, ha.ev h, this]
theorem y_sliceData {a : Addr} {m c : Nat} {t : TypeId} (h : l.ev x = some (.slice (some a) m c)) (hc : c ≠ 0) : RunV Tryd.prog n l ⟨dst, .call ⟨.builtin .unsafeSliceData, #[x], #[t]⟩, ty, pos, aft, gd⟩ w (.pointer (some a)) w := fun ac ha => by
  have := Lib.run_unsafeSliceData_row (P := Tryd.prog) w #[t] ty a m c hc
  simp [execOp, resolve, invoke, builtin, ha.ev h, this]
end
section
variable {P : Program} {n : Nat} {l : Fr} {w w' w0 : World} {Q : Exit → Act → World → Prop} {ops rest : List Oper} {ty : TypeId} {pos : String} {aft : Array Edge} {gd : Option (Nat × Bool)} {v : Value} {x y : Operand} {t t' e : TypeId} {base d : Nat}
theorem WL.appendS {i : TypeInfo} {m : Nat} {xs : List Value} {s : ByteArray} (ht : P.underlying t = some (.slice e)) (hu : P.underlying t' = some .string) (hi : P.info? e = some i) (hz : i.zero = some (.int .u8 0)) (hsz : i.size = 1) (hby : i.bytes = 1) (hs : l.ev x = some v) (hx : l.ev y = some (.string s))
    (own : w.ownsRow base e 1 v m xs) (hbs : m + s.size ≤ 140737488355328) (hbase : base ≤ w.heap.size) (hg : want ops l gd = some true) (hn : Nat.blt d n = true)
    (kk : ∀ v' w', w'.ownsRow base e 1 v' (m + s.size) (xs ++ Lib.strCells s) → w.grownBy w' v.ownBlock → WL P n ops Q rest ((d, v') :: l) w') : WL P n ops Q (⟨some d, .call ⟨.builtin .append, #[x, y], #[t, t']⟩, ty, pos, aft, gd⟩ :: rest) l w := by
  obtain ⟨v', w', hr, h2, h3, _⟩ := Lib.run_append_own_string (P := P) w base t t' ty e i ht hu hi hz hsz hby v m xs own s (by simp only [maxLen]; omega) hbs hbase
  exact WL.val (v := v') (w' := w') (fun a ha => by simp [execOp, resolve, invoke, builtin, ha.ev hs, ha.ev hx, hr]) hg rfl hn (kk v' w' h2 h3)
theorem Only.freeze (w : World) (g k : Nat) : Only g w (w.freeze ⟨g, 0, none⟩ k) := by
  unfold World.freeze
  split
  · exact ⟨rfl, fun _ _ => rfl⟩
  · exact ⟨by simp, fun j hj => by simp only [Array.getElem?_modify, if_neg (Ne.symm hj)]⟩
theorem Below.freeze_ (w : World) (g k b : Nat) (hb : b ≤ g) : Below b w (w.freeze ⟨g, 0, none⟩ k) := by
  have hO := Only.freeze w g k
  have h : (w.freeze ⟨g, 0, none⟩ k).os = w.os ∧ (w.freeze ⟨g, 0, none⟩ k).tape = w.tape ∧ (w.freeze ⟨g, 0, none⟩ k).output = w.output := by
    unfold World.freeze
    split <;> exact ⟨rfl, rfl, rfl⟩
  exact ⟨h.1, h.2.1, h.2.2, by rw [hO.size]; exact Nat.le_refl _, fun j hj => hO.block j (by omega)⟩
theorem WL.unsafeStr {pt it : TypeId} {g cells : Nat} {bs : List UInt8} (hp : P.underlying pt = some (.pointer e)) (hc : P.cellsOf e = 1) (hsh : w.shape? g = some (e, cells)) (h0 : bs ≠ []) (hn' : bs.length ≤ cells) (h63 : bs.length ≤ 9223372036854775807) (hat : At w ⟨g, 0, none⟩ (bs.map byteV))
    (hx : l.ev x = some (.pointer (some ⟨g, 0, none⟩))) (hy : l.ev y = some (.int .i64 bs.length)) (hg : want ops l gd = some true) (hn : Nat.blt d n = true)
    (kk : ∀ w', Only g w w' → (∀ b, b ≤ g → Below b w w') → WL P n ops Q rest ((d, .string ⟨bs.toArray⟩) :: l) w') : WL P n ops Q (⟨some d, .call ⟨.builtin .unsafeString, #[x, y], #[pt, it]⟩, ty, pos, aft, gd⟩ :: rest) l w := by
  have hr := Lib.run_unsafeString_row (P := P) w pt it ty e hp hc g cells hsh bs h0 hn' h63 (At.u8 hat)
  have hO := Only.freeze w g bs.length
  exact WL.val (v := .string ⟨bs.toArray⟩) (w' := w.freeze ⟨g, 0, none⟩ bs.length) (fun a ha => by simp [execOp, resolve, invoke, builtin, ha.ev hx, ha.ev hy, hr]) hg rfl hn (kk _ hO fun b hb => Below.freeze_ w g bs.length b hb)
end
set_option maxHeartbeats 400000 in
theorem members_calls {F : FP} {w : World} {v : Value} (h : RInts F w v [1]) :
    Calls Tryd.prog 31 #[v] w (Ret fun u w' => u = .bool true ∧ Ext w w') := by
  obtain ⟨A, c, rfl, hc, hby, hg⟩ := h.open_
  have hb := E.Bx.start w (base := w.heap.size) (Nat.le_refl _)
  refine E.enter Tryd.func31 rfl Tryd.ntmps31 [(.slice A 1 c)] rfl ?_
  refine E.W.seq ?_
  refine E.W.region ?_
  refine E.WL.val (E.y_assign rfl) rfl rfl rfl ?_
  refine E.WL.done ?_
  refine E.KQ.then_n ?_
  refine E.W.seq ?_
  refine E.W.region ?_
  refine E.WL.val (E.y_assign rfl) rfl rfl rfl ?_
  refine E.WL.done ?_
  refine E.KQ.then_n ?_
  refine E.W.seq ?_
  refine E.W.seq ?_
  refine E.W.region ?_
  refine E.WL.val (E.y_move rfl) rfl rfl rfl ?_
  refine E.WL.val (E.y_lenS Tryd.underlying23 rfl) rfl rfl rfl ?_
  refine E.WL.val (E.y_move rfl) rfl rfl rfl ?_
  refine E.WL.done ?_
  refine E.KQ.then_n ?_
  refine E.W.block ?_
  refine E.W.loop (ι := Nat) (fun k => [(3, .int .i64 (k : Nat)), (6, .slice A 1 c), (7, .int .i64 1), (8, .int .i64 (k : Nat))]) (fun k w' => Bx w.heap.size w w' [] ∧ k ≤ 1) (fun k => 1 - k) (0) (by exact (.cons rfl (.cons rfl (.cons rfl (.cons rfl .nil))))) ⟨hb, Nat.zero_le _⟩ (fun k w1 hJ => ?_)
  clear hb
  obtain ⟨hb, hk⟩ := hJ
  refine E.W.seq ?_
  refine E.W.region ?_
  refine E.WL.val (E.y_lss rfl rfl) rfl rfl rfl ?_
  refine E.WL.done ?_
  refine E.KQ.then_n ?_
  refine E.W.seq ?_
  refine E.W.condT 9 rfl (fun hc9 => ?_) (fun hc9 => ?_)
  · replace hc9 := of_decide_eq_true hc9
    obtain rfl : k = 0 := by omega
    obtain ⟨p, cs, hA, _, hl, hat, hr⟩ := hg 0 (by decide)
    subst hA
    have hr' : cs = [.int .i64 1] := hr
    subst hr'
    replace hat := hat.ext hb.below
    refine E.W.skip ?_
    refine E.KQ.then_n ?_
    refine E.W.seq ?_
    refine E.W.block ?_
    refine E.W.seq ?_
    refine E.W.region ?_
    refine E.WL.val (E.y_idxS Tryd.underlying23 Tryd.sizeOf3 rfl rfl (by decide) (by decide)) rfl rfl rfl ?_
    refine E.WL.val (E.y_load rfl (E.At.ld0 Tryd.isAgg3 hat rfl)) rfl rfl rfl ?_
    refine E.WL.val (E.y_assign rfl) rfl rfl rfl ?_
    refine E.WL.done ?_
    refine E.KQ.then_n ?_
    refine E.W.seq ?_
    refine E.W.seq ?_
    refine E.W.region ?_
    refine E.WL.val (E.y_move rfl) rfl rfl rfl ?_
    refine E.WL.val (E.y_move rfl) rfl rfl rfl ?_
    refine E.WL.val (E.y_leq rfl rfl) rfl rfl rfl ?_
    refine E.WL.val (E.y_move rfl) rfl rfl rfl ?_
    refine E.WL.split 15 rfl (fun hg15 => ?_) (fun hg15 => ?_)
    · replace hg15 := of_decide_eq_true hg15
      exact absurd hg15 (by decide)
    · skip
      refine E.WL.val (E.y_move rfl) rfl rfl rfl ?_
      refine E.WL.val (E.y_gtr rfl rfl) rfl rfl rfl ?_
      refine E.WL.val (E.y_pick_f rfl rfl) rfl rfl rfl ?_
      refine E.WL.done ?_
      refine E.KQ.then_n ?_
      refine E.W.condT 18 rfl (fun hc18 => ?_) (fun hc18 => ?_)
      · skip
        exact absurd (of_decide_eq_true hc18) (by decide)
      · skip
        refine E.W.skip ?_
        refine E.KQ.then_n ?_
        refine E.W.region ?_
        refine E.WL.val (E.y_move rfl) rfl rfl rfl ?_
        refine E.WL.val (E.y_assign rfl) rfl rfl rfl ?_
        refine E.WL.done ?_
        refine E.KQ.block_n ?_
        refine E.KQ.then_n ?_
        refine E.W.region ?_
        refine E.WL.val (E.y_add rfl rfl (Go.IntWalk.i64_in _ (by omega))) rfl rfl rfl ?_
        refine E.WL.val (E.y_move rfl) rfl rfl rfl ?_
        refine E.WL.done ?_
        exact E.KQ.next 1 (by exact .cons rfl (.cons rfl (.cons rfl (.cons rfl (.nil))))) ⟨hb, Nat.le_refl _⟩ (by show 1 - 1 < 1 - 0; decide)
  · replace hc9 := of_decide_eq_false hc9
    obtain rfl : k = 1 := by omega
    refine E.W.exit ?_
    refine E.KQ.then_e ?_
    refine E.KQ.loop_e ?_
    refine E.KQ.block_e ?_
    refine E.KQ.then_n ?_
    refine E.W.seq ?_
    refine E.W.region ?_
    refine E.WL.val (E.y_move rfl) rfl rfl rfl ?_
    refine E.WL.val (E.y_gtr rfl rfl) rfl rfl rfl ?_
    refine E.WL.val (E.y_assign rfl) rfl rfl rfl ?_
    refine E.WL.done ?_
    refine E.KQ.then_n ?_
    refine E.W.ret ?_
    refine E.KQ.ret1 Tryd.results31 rfl ?_
    exact ⟨_, rfl, rfl, hb.below⟩

set_option maxHeartbeats 400000 in
theorem snapCheck_calls {F : FP} {w : World} {cs : List Value} {s : SnapD} (h : RSnap F w cs s) (hm : s.members = [1]) (hi : ¬ s.index = 0) (hd : s.data.size ≤ 64512) :
    Calls Tryd.prog 13 #[(.agg cs.toArray)] w (Ret fun u w' => u = .int .i64 0 ∧ Ext w w') := by
  obtain ⟨v, rfl, hv⟩ := id h
  rw [hm] at hv
  obtain ⟨A, c, rfl, hc, hby, hg⟩ := id hv.open_
  have hb := E.Bx.start w (base := w.heap.size) (Nat.le_refl _)
  refine E.enter Tryd.func13 rfl Tryd.ntmps13 [(.agg #[.int .u64 s.index, .int .u64 s.term, .slice A 1 c, .string s.data])] rfl ?_
  refine E.W.seq ?_
  refine E.W.region ?_
  refine E.WL.box hb rfl rfl rfl rfl ?_
  clear hb; intro B1 w2 hb _ _
  refine E.WL.val (E.y_assign rfl) rfl rfl rfl ?_
  refine E.WL.done ?_
  refine E.KQ.then_n ?_
  refine E.W.seq ?_
  refine E.W.region ?_
  refine E.WL.val (E.y_fld Tryd.underlying30 rfl Tryd.sizeOf28 rfl) rfl rfl rfl ?_
  refine E.WL.val (E.y_load rfl (E.At.ld1 Tryd.isAgg28 (hb.at0 0 rfl) 0 rfl)) rfl rfl rfl ?_
  refine E.WL.val (E.y_eql rfl rfl) rfl rfl rfl ?_
  refine E.WL.val (E.y_move rfl) rfl rfl rfl ?_
  refine E.WL.split 7 rfl (fun hg7 => ?_) (fun hg7 => ?_)
  · replace hg7 := of_decide_eq_true hg7
    exact absurd hg7 hi
  · skip
    refine E.WL.off rfl rfl rfl ?_
    refine E.WL.off rfl rfl rfl ?_
    refine E.WL.off rfl rfl rfl ?_
    refine E.WL.val (E.y_pick_f rfl rfl) rfl rfl rfl ?_
    refine E.WL.val (E.y_move rfl) rfl rfl rfl ?_
    refine E.WL.off rfl rfl rfl ?_
    refine E.WL.off rfl rfl rfl ?_
    refine E.WL.off rfl rfl rfl ?_
    refine E.WL.off rfl rfl rfl ?_
    refine E.WL.val (E.y_pick_f rfl rfl) rfl rfl rfl ?_
    refine E.WL.val (E.y_move rfl) rfl rfl rfl ?_
    refine E.WL.off rfl rfl rfl ?_
    refine E.WL.off rfl rfl rfl ?_
    refine E.WL.off rfl rfl rfl ?_
    refine E.WL.val (E.y_pick_f rfl rfl) rfl rfl rfl ?_
    refine E.WL.val (E.y_assign rfl) rfl rfl rfl ?_
    refine E.WL.done ?_
    refine E.KQ.then_n ?_
    refine E.W.seq ?_
    refine E.W.seq ?_
    refine E.W.region ?_
    refine E.WL.val (E.y_move rfl) rfl rfl rfl ?_
    refine E.WL.val (E.y_not rfl) rfl rfl rfl ?_
    refine E.WL.val (E.y_move rfl) rfl rfl rfl ?_
    refine E.WL.val (E.y_fld Tryd.underlying30 rfl Tryd.sizeOf23 rfl) rfl rfl rfl ?_
    refine E.WL.val (E.y_load rfl (E.At.ld1 Tryd.isAgg23 (hb.at0 0 rfl) 2 rfl)) rfl rfl rfl ?_
    refine E.WL.call (members_calls (hv.ext (RInt.goes .i64) hb.below)) Tryd.call31 rfl rfl rfl ?_
    rintro _ w3 ⟨rfl, hX⟩
    replace hb := hb.ext hX
    clear hX
    refine E.WL.val (E.y_not rfl) rfl rfl rfl ?_
    refine E.WL.val (E.y_move rfl) rfl rfl rfl ?_
    refine E.WL.val (E.y_fld Tryd.underlying30 rfl Tryd.sizeOf9 rfl) rfl rfl rfl ?_
    refine E.WL.val (E.y_load rfl (E.At.ld1 Tryd.isAgg9 (hb.at0 0 rfl) 3 rfl)) rfl rfl rfl ?_
    refine E.WL.val (E.y_lens Tryd.underlying9 rfl) rfl rfl rfl ?_
    refine E.WL.val (E.y_gtr rfl rfl) rfl rfl rfl ?_
    refine E.WL.val (E.y_pick_f rfl rfl) rfl rfl rfl ?_
    refine E.WL.val (E.y_pick_t rfl rfl) rfl rfl rfl ?_
    refine E.WL.done ?_
    refine E.KQ.then_n ?_
    refine E.W.condT 36 rfl (fun hc36 => ?_) (fun hc36 => ?_)
    · skip
      exact absurd (of_decide_eq_true hc36) (by omega)
    · skip
      refine E.W.skip ?_
      refine E.KQ.then_n ?_
      refine E.W.seq ?_
      refine E.W.region ?_
      refine E.WL.val (E.y_assign rfl) rfl rfl rfl ?_
      refine E.WL.done ?_
      refine E.KQ.then_n ?_
      refine E.W.ret ?_
      refine E.KQ.ret1 Tryd.results13 rfl ?_
      exact ⟨_, rfl, rfl, hb.below⟩

set_option maxHeartbeats 400000 in
theorem copyFresh_calls {w : World} {base B : Nat} {v : Value} (hbase : base ≤ w.heap.size) (hbg : base ≤ B) (hgg : w.heap[B]? = some (.cells [.pointer none, v].toArray 98 (0, 0))) :
    Calls Tryd.prog 68 #[(.pointer (some ⟨B, 0, none⟩))] w (Ret fun u w' => u = .tuple #[] ∧ w'.heap[B]? = some (.cells [.pointer (some ⟨B, 0, none⟩), v].toArray 98 (0, 0)) ∧ Below base w w' ∧ Keeps (fun U => U ≠ 98) w w') := by
  have hkp : Keeps (fun U => U ≠ 98) w w := Keeps.refl w
  have hb := Bx.one (w := w) hbg hgg hbase
  refine E.enter Tryd.func68 rfl Tryd.ntmps68 [(.pointer (some ⟨B, 0, none⟩))] rfl ?_
  refine E.W.seq ?_
  refine E.W.region ?_
  refine E.WL.val (E.y_move rfl) rfl rfl rfl ?_
  refine E.WL.val (E.y_nilCheck rfl) rfl rfl rfl ?_
  refine E.WL.val (E.y_fld Tryd.underlying98 rfl Tryd.sizeOf96 rfl) rfl rfl rfl ?_
  refine E.WL.val (E.y_load rfl (E.At.ld1 Tryd.isAgg96 (hb.at0 0 rfl) 0 rfl)) rfl rfl rfl ?_
  refine E.WL.val (E.y_op2 (r := .bool true) (run_eql_pointer_nil _ 96 _ (by kernel_rfl)) (by rw [eqGuard_at_pointer]; rfl) rfl rfl) rfl rfl rfl ?_
  refine E.WL.done ?_
  refine E.KQ.then_n ?_
  refine E.W.cond_t rfl ?_
  refine E.W.region ?_
  refine E.WL.val (E.y_move rfl) rfl rfl rfl ?_
  refine E.WL.val (E.y_move rfl) rfl rfl rfl ?_
  refine E.WL.val (y_toUnsafe (hb.get (i := 0) rfl).2 rfl) rfl rfl rfl ?_
  refine E.WL.val (E.y_extern (vs := [.pointer (some ⟨B, 0, none⟩)]) (by rw [run_callFunc_extern Tryd.func76 (by kernel_rfl) (by kernel_rfl) (by kernel_rfl) (e := Extern.AbiNoEscape.same) (by kernel_rfl)]; rfl) rfl) rfl rfl rfl ?_
  refine E.WL.val (y_fromUnsafe (hb.get (i := 0) rfl).2 rfl) rfl rfl rfl ?_
  refine E.WL.val (E.y_nilCheck rfl) rfl rfl rfl ?_
  refine E.WL.val (E.y_fld Tryd.underlying98 rfl Tryd.sizeOf96 rfl) rfl rfl rfl ?_
  refine E.WL.store hb 0 0 rfl rfl rfl Tryd.sizeOf96 rfl rfl rfl (E.allOne rfl) rfl ?_
  have hT := hb.hasT 0 rfl
  clear hb; intro w1 hb hO
  replace hkp := Keeps.trans hkp (Keeps.only hO hT (by decide))
  clear hT
  clear hO
  refine E.WL.done ?_
  refine E.KQ.end0 Tryd.results68 ?_
  exact ⟨_, rfl, rfl, (hb.get (i := 0) rfl).2, hb.below, hkp⟩

set_option maxHeartbeats 400000 in
theorem copyUsed_calls {w : World} {base B : Nat} {v : Value} (hbase : base ≤ w.heap.size) (hbg : base ≤ B) (hgg : w.heap[B]? = some (.cells [.pointer (some ⟨B, 0, none⟩), v].toArray 98 (0, 0))) :
    Calls Tryd.prog 68 #[(.pointer (some ⟨B, 0, none⟩))] w (Ret fun u w' => u = .tuple #[] ∧ w'.heap[B]? = some (.cells [.pointer (some ⟨B, 0, none⟩), v].toArray 98 (0, 0)) ∧ Below base w w' ∧ Keeps (fun U => U ≠ 98) w w') := by
  have hkp : Keeps (fun U => U ≠ 98) w w := Keeps.refl w
  have hb := Bx.one (w := w) hbg hgg hbase
  refine E.enter Tryd.func68 rfl Tryd.ntmps68 [(.pointer (some ⟨B, 0, none⟩))] rfl ?_
  refine E.W.seq ?_
  refine E.W.region ?_
  refine E.WL.val (E.y_move rfl) rfl rfl rfl ?_
  refine E.WL.val (E.y_nilCheck rfl) rfl rfl rfl ?_
  refine E.WL.val (E.y_fld Tryd.underlying98 rfl Tryd.sizeOf96 rfl) rfl rfl rfl ?_
  refine E.WL.val (E.y_load rfl (E.At.ld1 Tryd.isAgg96 (hb.at0 0 rfl) 0 rfl)) rfl rfl rfl ?_
  refine E.WL.val (E.y_op2 (r := .bool false) (run_eql_pointer_nil _ 96 _ (by kernel_rfl)) (by rw [eqGuard_at_pointer]; rfl) rfl rfl) rfl rfl rfl ?_
  refine E.WL.done ?_
  refine E.KQ.then_n ?_
  refine E.W.cond_f rfl ?_
  refine E.W.seq ?_
  refine E.W.region ?_
  refine E.WL.val (E.y_move rfl) rfl rfl rfl ?_
  refine E.WL.val (E.y_nilCheck rfl) rfl rfl rfl ?_
  refine E.WL.val (E.y_fld Tryd.underlying98 rfl Tryd.sizeOf96 rfl) rfl rfl rfl ?_
  refine E.WL.val (E.y_load rfl (E.At.ld1 Tryd.isAgg96 (hb.at0 0 rfl) 0 rfl)) rfl rfl rfl ?_
  refine E.WL.val (E.y_move rfl) rfl rfl rfl ?_
  refine E.WL.val (E.y_op2 (r := .bool false) (Lib.run_neq_ptr_same _ ⟨B, 0, none⟩ Tryd.underlying96 (j := Tryd.t98) (by kernel_rfl)) (by rw [eqGuard_at_pointer]; rfl) rfl rfl) rfl rfl rfl ?_
  refine E.WL.done ?_
  refine E.KQ.then_n ?_
  refine E.W.cond_f rfl ?_
  refine E.W.skip ?_
  refine E.KQ.end0 Tryd.results68 ?_
  exact ⟨_, rfl, rfl, (hb.get (i := 0) rfl).2, hb.below, hkp⟩

theorem copyCheck_calls {w : World} {base B : Nat} {p v : Value} (hp : p = .pointer none ∨ p = .pointer (some ⟨B, 0, none⟩)) (hbase : base ≤ w.heap.size) (hbg : base ≤ B) (hgg : w.heap[B]? = some (.cells [p, v].toArray 98 (0, 0))) :
    Calls Tryd.prog 68 #[(.pointer (some ⟨B, 0, none⟩))] w (Ret fun u w' => u = .tuple #[] ∧ w'.heap[B]? = some (.cells [.pointer (some ⟨B, 0, none⟩), v].toArray 98 (0, 0)) ∧ Below base w w' ∧ Keeps (fun U => U ≠ 98) w w') := by
  rcases hp with rfl | rfl
  · exact copyFresh_calls hbase hbg hgg
  · exact copyUsed_calls hbase hbg hgg

set_option maxHeartbeats 400000 in
theorem write_calls {w : World} {base B : Nat} {p v : Value} {m : Nat} {bs : List Value} (hbase : base ≤ w.heap.size) (hbg : base ≤ B) (hp : p = .pointer none ∨ p = .pointer (some ⟨B, 0, none⟩)) (hgg : w.heap[B]? = some (.cells [p, v].toArray 98 (0, 0))) (own : w.ownsRow base 5 1 v m bs) (s : ByteArray) (hs : m + s.size ≤ 100000) :
    Calls Tryd.prog 56 #[(.pointer (some ⟨B, 0, none⟩)), (.string s)] w (Ret fun u w' => u = .tuple #[.int .i64 s.size, .nilIface] ∧ (∃ v', w'.heap[B]? = some (.cells [.pointer (some ⟨B, 0, none⟩), v'].toArray 98 (0, 0)) ∧ w'.ownsRow base 5 1 v' (m + s.size) (bs ++ Lib.strCells s)) ∧ Below base w w') := by
  have hb := Bx.one (w := w) hbg hgg hbase
  refine E.enter Tryd.func56 rfl Tryd.ntmps56 [(.pointer (some ⟨B, 0, none⟩)), (.string s)] rfl ?_
  refine E.W.seq ?_
  refine E.W.region ?_
  refine E.WL.val (E.y_assign rfl) rfl rfl rfl ?_
  refine E.WL.val (E.y_assign rfl) rfl rfl rfl ?_
  refine E.WL.done ?_
  refine E.KQ.then_n ?_
  refine E.W.seq ?_
  refine E.W.region ?_
  refine E.WL.val (E.y_move rfl) rfl rfl rfl ?_
  refine E.WL.call (copyCheck_calls hp hbase hbg hgg) Tryd.call68 rfl rfl rfl ?_
  rintro _ w1 ⟨rfl, hg2, hBl, hKp⟩
  have hown := ownsRow_keeps own hKp (by decide)
  clear hb
  have hb : Bx base w w1 [(B, [.pointer (some ⟨B, 0, none⟩), v], 98)] := ⟨hBl, Nat.le_trans hbase hBl.size, fun p hp => by simp only [List.mem_cons, List.not_mem_nil, or_false] at hp; subst hp; exact ⟨hbg, hg2⟩, by simp⟩
  refine E.WL.done ?_
  refine E.KQ.then_n ?_
  refine E.W.seq ?_
  refine E.W.region ?_
  refine E.WL.val (E.y_move rfl) rfl rfl rfl ?_
  refine E.WL.val (E.y_move rfl) rfl rfl rfl ?_
  refine E.WL.val (E.y_nilCheck rfl) rfl rfl rfl ?_
  refine E.WL.val (E.y_fld Tryd.underlying98 rfl Tryd.sizeOf94 rfl) rfl rfl rfl ?_
  refine E.WL.val (E.y_load rfl (E.At.ld1 Tryd.isAgg94 (hb.at0 0 rfl) 1 rfl)) rfl rfl rfl ?_
  refine E.WL.val (E.y_move rfl) rfl rfl rfl ?_
  refine WL.appendS Tryd.underlying94 Tryd.underlying9 (i := Tryd.t5) (by kernel_rfl) rfl rfl rfl rfl rfl hown (by omega) hb.le rfl rfl (fun v2 w6 own6 hg6 => ?_)
  have hB6 : Below base _ w6 := grown_below (Below.refl _ _) hg6 hb.le (fun k hk => (hown.lt k hk).1)
  have hK6 := Keeps.grown hg6 (ownsRow_hasT hown) (S := fun U => U ≠ 5) (by decide)
  replace hb := hb.keeps hK6 hB6 (by intro p hp; simp only [List.mem_cons, List.not_mem_nil, or_false] at hp; subst hp; simp)
  obtain ⟨A2, c2, rfl, _⟩ := ownsRow_open own6
  clear hg6 hB6 hK6 hown
  refine E.WL.val (E.y_nilCheck rfl) rfl rfl rfl ?_
  refine E.WL.val (E.y_fld Tryd.underlying98 rfl Tryd.sizeOf94 rfl) rfl rfl rfl ?_
  refine E.WL.store hb 0 1 rfl rfl rfl Tryd.sizeOf94 rfl rfl rfl (E.allOne rfl) rfl ?_
  have hT := hb.hasT 0 rfl
  clear hb; intro w2 hb hO
  replace own6 := ownsRow_keeps own6 (Keeps.only hO hT (by decide)) (S := fun U => U = 5) rfl
  clear hT
  clear hO
  refine E.WL.done ?_
  refine E.KQ.then_n ?_
  refine E.W.seq ?_
  refine E.W.region ?_
  refine E.WL.val (E.y_move rfl) rfl rfl rfl ?_
  refine E.WL.val (E.y_lens Tryd.underlying9 rfl) rfl rfl rfl ?_
  refine E.WL.val (E.y_assign rfl) rfl rfl rfl ?_
  refine E.WL.val (E.y_assign rfl) rfl rfl rfl ?_
  refine E.WL.done ?_
  refine E.KQ.then_n ?_
  refine E.W.ret ?_
  refine E.KQ.ret2 Tryd.results56 rfl rfl ?_
  exact ⟨_, rfl, rfl, ⟨_, (hb.get (i := 0) rfl).2, own6⟩, hb.below⟩

set_option maxHeartbeats 400000 in
theorem string_calls {w : World} {base B : Nat} {v : Value} {bs : List UInt8} (hbase : base ≤ w.heap.size) (hbg : base ≤ B) (hgg : w.heap[B]? = some (.cells [.pointer (some ⟨B, 0, none⟩), v].toArray 98 (0, 0))) (own : w.ownsRow base 5 1 v bs.length (bs.map byteV)) (hne : bs ≠ []) (hle : bs.length ≤ 100000) :
    Calls Tryd.prog 57 #[(.pointer (some ⟨B, 0, none⟩))] w (Ret fun u w' => u = .string ⟨bs.toArray⟩ ∧ Below base w w') := by
  obtain ⟨g, cap, cur, rfl, hgb, hgc, hnc, hcs⟩ : ∃ g cap cur, v = .slice (some ⟨g, 0, none⟩) bs.length cap ∧ base ≤ g ∧ w.heap[g]? = some (.cells cur 5 (0, 0)) ∧ bs.length ≤ cap ∧ cur.size = cap := by
    rcases own.2 with ⟨_, h0⟩ | ⟨g, cap, cur, h1, h2, h3, h4, _, h6, _⟩
    · exact absurd (List.eq_nil_of_length_eq_zero h0) hne
    · exact ⟨g, cap, cur, h1, h2, h3, h4, by simpa using h6⟩
  have hglt := (Array.getElem?_eq_some_iff.1 hgc).1
  have hat := ownsRow_at own
  have hpos : 0 < bs.length := List.length_pos_iff.2 hne
  have hb := Bx.one (w := w) hbg hgg hbase
  refine E.enter Tryd.func57 rfl Tryd.ntmps57 [(.pointer (some ⟨B, 0, none⟩))] rfl ?_
  refine E.W.seq ?_
  refine E.W.region ?_
  refine E.WL.val (E.y_assign rfl) rfl rfl rfl ?_
  refine E.WL.done ?_
  refine E.KQ.then_n ?_
  refine E.W.seq ?_
  have hb0 := hb
  refine E.W.regionD (E.heads 10 []) rfl ?_
  replace hb := hb.drew
  have hE := E.Ext.drew w
  refine E.DL.take 0 rfl (by kernel_rfl) (by kernel_rfl) (fun w' hw => E.y_move rfl) rfl rfl rfl (fun _ _ _ _ h => by obtain ⟨_, _, h, _⟩ := h; cases h) hE ?_
  refine E.DL.take 1 rfl (by kernel_rfl) (by kernel_rfl) (fun w' hw => E.y_nilCheck rfl) rfl rfl rfl (fun _ _ _ _ h => by obtain ⟨_, _, h, _⟩ := h; cases h) hE ?_
  refine E.DL.take 2 rfl (by kernel_rfl) (by kernel_rfl) (fun w' hw => E.y_fld Tryd.underlying98 rfl Tryd.sizeOf94 rfl) rfl rfl rfl (fun _ _ _ _ h => by obtain ⟨_, _, h, _⟩ := h; cases h) hE ?_
  refine E.DL.take 3 rfl (by kernel_rfl) (by kernel_rfl) (fun w' hw => E.y_load rfl (E.At.ld1 Tryd.isAgg94 ((hb0.ext hw).at0 0 rfl) 1 rfl)) rfl rfl rfl (fun _ _ _ _ h => by obtain ⟨_, _, h, _⟩ := h; cases h) hE ?_
  refine E.DL.take 4 rfl (by kernel_rfl) (by kernel_rfl) (fun w' hw => y_sliceData rfl (by omega)) rfl rfl rfl (fun _ _ _ _ h => by obtain ⟨_, _, h, _⟩ := h; cases h) hE ?_
  refine E.DL.take 5 rfl (by kernel_rfl) (by kernel_rfl) (fun w' hw => E.y_move rfl) rfl rfl rfl (fun _ _ _ _ h => by obtain ⟨_, _, h, _⟩ := h; cases h) hE ?_
  refine E.DL.take 6 rfl (by kernel_rfl) (by kernel_rfl) (fun w' hw => E.y_nilCheck rfl) rfl rfl rfl (fun _ _ _ _ h => by obtain ⟨_, _, h, _⟩ := h; cases h) hE ?_
  refine E.DL.take 7 rfl (by kernel_rfl) (by kernel_rfl) (fun w' hw => E.y_fld Tryd.underlying98 rfl Tryd.sizeOf94 rfl) rfl rfl rfl (fun _ _ _ _ h => by obtain ⟨_, _, h, _⟩ := h; cases h) hE ?_
  refine E.DL.take 8 rfl (by kernel_rfl) (by kernel_rfl) (fun w' hw => E.y_load rfl (E.At.ld1 Tryd.isAgg94 ((hb0.ext hw).at0 0 rfl) 1 rfl)) rfl rfl rfl (fun _ _ _ _ h => by obtain ⟨_, _, h, _⟩ := h; cases h) hE ?_
  refine E.DL.take 9 rfl (by kernel_rfl) (by kernel_rfl) (fun w' hw => E.y_lenS Tryd.underlying94 rfl) rfl rfl rfl (fun _ _ _ _ h => by obtain ⟨_, _, h, _⟩ := h; cases h) hE ?_
  refine E.DL.only 10 rfl (by kernel_rfl) (fun hsh => ?_)
  have hTg : HasT w.drew 5 g := ⟨_, (E.Ext.drew _).block g hglt |>.trans hgc⟩
  refine WL.unsafeStr (bs := bs) (cells := cap) (g := g) Tryd.underlying110 (by kernel_rfl) ?_ hne hnc (by omega) (At.ext hat (E.Ext.drew _)) rfl rfl rfl rfl ?_
  · have := (E.Ext.drew w).block g hglt |>.trans hgc; simp [World.shape?, this, hcs]
  intro w1 hO hBw
  replace hb := hb.turn hO hTg (hBw _ hgb) rfl
  refine E.WL.done ?_
  refine E.DL.next hsh (.inr rfl) ?_
  clear hsh
  refine E.DL.takeU 11 rfl (by kernel_rfl) rfl (fun w' => E.y_assign rfl) rfl rfl rfl (fun _ _ _ _ h => by obtain ⟨_, _, h, _⟩ := h; cases h) ?_
  refine E.DL.done (by kernel_rfl) ?_
  clear hE hb0
  refine E.KQ.then_n ?_
  refine E.W.ret ?_
  refine E.KQ.ret1 Tryd.results57 rfl ?_
  exact ⟨_, rfl, rfl, hb.below⟩

set_option maxHeartbeats 400000 in
theorem ints_calls {F : FP} {w : World} {v : Value} (h : RInts F w v [1]) :
    Calls Tryd.prog 34 #[v] w (Ret fun u w' => u = .string oneP ∧ Ext w w') := by
  obtain ⟨A, c, rfl, hc, hby, hg⟩ := h.open_
  obtain ⟨p, cs, hA, _, hl, hat, hr⟩ := hg 0 (by decide)
  subst hA
  have hr' : cs = [.int .i64 1] := hr
  subst hr'
  have hb := E.Bx.start w (base := w.heap.size) (Nat.le_refl _)
  refine E.enter Tryd.func34 rfl Tryd.ntmps34 [(.slice (some p) 1 c)] rfl ?_
  refine E.W.seq ?_
  refine E.W.region ?_
  refine E.WL.val (E.y_assign rfl) rfl rfl rfl ?_
  refine E.WL.done ?_
  refine E.KQ.then_n ?_
  refine E.W.seq ?_
  refine E.W.region ?_
  refine E.WL.alloc (cs := [.pointer none, .slice none 0 0]) hb Tryd.zeroValue98 rfl rfl rfl ?_
  clear hb; intro B3 w2 hb _ _
  have hB3 := (hb.get (i := 0) rfl).1
  refine E.WL.done ?_
  refine E.KQ.then_n ?_
  refine E.W.seq ?_
  refine E.W.region ?_
  refine E.WL.val (E.y_move rfl) rfl rfl rfl ?_
  refine E.WL.val (E.y_lenS Tryd.underlying23 rfl) rfl rfl rfl ?_
  refine E.WL.val (E.y_conv (by rw [Tryd.underlying3]; rfl) Tryd.underlying28 rfl (Go.IntWalk.u64_in _ (by decide))) rfl rfl rfl ?_
  refine E.WL.call (number_calls w2 1 (by decide)) Tryd.call33 rfl rfl rfl ?_
  rintro _ w3 ⟨rfl, hX⟩
  replace hb := hb.ext hX
  clear hX
  refine E.WL.call (write_calls hb.le hB3 (.inl rfl) (hb.get (i := 0) rfl).2 (World.ownsRow_nil _ _ _ _) (numP 1) (by decide)) Tryd.call56 rfl rfl rfl ?_
  rintro _ w4 ⟨rfl, ⟨v1, hg1, own1⟩, hBl⟩
  replace hb : Bx w.heap.size w w4 [(B3, [.pointer (some ⟨B3, 0, none⟩), v1], 98)] := ⟨hb.below.trans hBl, Nat.le_trans hb.le hBl.size, fun p hp => by simp only [List.mem_cons, List.not_mem_nil, or_false] at hp; subst hp; exact ⟨hB3, hg1⟩, by simp⟩
  clear hBl hg1
  refine E.WL.done ?_
  refine E.KQ.then_n ?_
  refine E.W.seq ?_
  refine E.W.seq ?_
  refine E.W.region ?_
  refine E.WL.val (E.y_move rfl) rfl rfl rfl ?_
  refine E.WL.val (E.y_lenS Tryd.underlying23 rfl) rfl rfl rfl ?_
  refine E.WL.val (E.y_move rfl) rfl rfl rfl ?_
  refine E.WL.done ?_
  refine E.KQ.then_n ?_
  refine E.W.block ?_
  refine E.W.loop (ι := Nat × Value) (fun κ => [(3, .pointer (some ⟨B3, 0, none⟩)), (11, .slice (some p) 1 c), (12, .int .i64 1), (13, .int .i64 (κ.1 : Nat))]) (fun κ w' => Bx w.heap.size w w' [(B3, [.pointer (some ⟨B3, 0, none⟩), κ.2], 98)] ∧ κ.1 ≤ 1 ∧ w'.ownsRow w.heap.size 5 1 κ.2 (if κ.1 = 0 then [1, 1] else [1, 1, 1, 1] : List UInt8).length ((if κ.1 = 0 then [1, 1] else [1, 1, 1, 1] : List UInt8).map byteV)) (fun κ => 1 - κ.1) ((0, v1)) (by exact (.cons rfl (.cons rfl (.cons rfl (.cons rfl .nil))))) ⟨hb, Nat.zero_le _, own1⟩ (fun κ w5 hJ => ?_)
  clear hb own1
  obtain ⟨k, v⟩ := κ
  obtain ⟨hb, hk, own⟩ := hJ
  simp only at hb hk own
  refine E.W.seq ?_
  refine E.W.region ?_
  refine E.WL.val (E.y_lss rfl rfl) rfl rfl rfl ?_
  refine E.WL.done ?_
  refine E.KQ.then_n ?_
  refine E.W.seq ?_
  refine E.W.condT 14 rfl (fun hc14 => ?_) (fun hc14 => ?_)
  · replace hc14 := of_decide_eq_true hc14
    obtain rfl : k = 0 := by omega
    replace hat := hat.ext hb.below
    refine E.W.skip ?_
    refine E.KQ.then_n ?_
    refine E.W.seq ?_
    refine E.W.block ?_
    refine E.W.seq ?_
    refine E.W.region ?_
    refine E.WL.val (E.y_idxS Tryd.underlying23 Tryd.sizeOf3 rfl rfl (by simp) (by simp)) rfl rfl rfl ?_
    refine E.WL.val (E.y_load rfl (E.At.ld0 Tryd.isAgg3 hat rfl)) rfl rfl rfl ?_
    refine E.WL.val (E.y_assign rfl) rfl rfl rfl ?_
    refine E.WL.done ?_
    refine E.KQ.then_n ?_
    refine E.W.region ?_
    refine E.WL.val (E.y_move rfl) rfl rfl rfl ?_
    refine E.WL.val (E.y_conv (by rw [Tryd.underlying3]; rfl) Tryd.underlying28 rfl (Go.IntWalk.u64_in _ (by decide))) rfl rfl rfl ?_
    refine E.WL.call (number_calls w5 1 (by decide)) Tryd.call33 rfl rfl rfl ?_
    rintro _ w6 ⟨rfl, hX⟩
    replace hb := hb.ext hX
    replace own := ownsRow_keeps own (Keeps.ext hX) (S := fun U => U = 5) rfl
    clear hX
    refine E.WL.call (write_calls hb.le hB3 (.inr rfl) (hb.get (i := 0) rfl).2 own (numP 1) (by show 2 + (numP 1).size ≤ 100000; decide)) Tryd.call56 rfl rfl rfl ?_
    rintro _ w7 ⟨rfl, ⟨v2, hg2, own2⟩, hBl⟩
    replace hb : Bx w.heap.size w w7 [(B3, [.pointer (some ⟨B3, 0, none⟩), v2], 98)] := ⟨hb.below.trans hBl, Nat.le_trans hb.le hBl.size, fun p hp => by simp only [List.mem_cons, List.not_mem_nil, or_false] at hp; subst hp; exact ⟨hB3, hg2⟩, by simp⟩
    clear hBl hg2
    refine E.WL.done ?_
    refine E.KQ.block_n ?_
    refine E.KQ.then_n ?_
    refine E.W.region ?_
    refine E.WL.val (E.y_add rfl rfl (Go.IntWalk.i64_in _ (by omega))) rfl rfl rfl ?_
    refine E.WL.val (E.y_move rfl) rfl rfl rfl ?_
    refine E.WL.done ?_
    exact E.KQ.next (ι := Nat × Value) (1, v2) (by exact .cons rfl (.cons rfl (.cons rfl (.cons rfl (.nil))))) ⟨hb, Nat.le_refl _, own2⟩ (by show 1 - 1 < 1 - 0; decide)
  · replace hc14 := of_decide_eq_false hc14
    obtain rfl : k = 1 := by omega
    refine E.W.exit ?_
    refine E.KQ.then_e ?_
    refine E.KQ.loop_e ?_
    refine E.KQ.block_e ?_
    refine E.KQ.then_n ?_
    refine E.W.seq ?_
    refine E.W.region ?_
    refine E.WL.call (string_calls (bs := [1, 1, 1, 1]) hb.le hB3 (hb.get (i := 0) rfl).2 own (by decide) (by decide)) Tryd.call57 rfl rfl rfl ?_
    rintro _ w8 ⟨rfl, hBl⟩
    refine E.WL.val (E.y_assign rfl) rfl rfl rfl ?_
    refine E.WL.done ?_
    refine E.KQ.then_n ?_
    refine E.W.ret ?_
    refine E.KQ.ret1 Tryd.results34 rfl ?_
    exact ⟨_, rfl, rfl, hb.below.trans hBl⟩

set_option maxHeartbeats 400000 in
theorem snapBytes_calls {F : FP} {w : World} {v : Value} (h : RInts F w v [1]) (i : Nat) (hi : i < 256) (d : ByteArray) (hd : d.size < 256) :
    Calls Tryd.prog 15 #[(.agg #[.int .u64 (i : Nat), .int .u64 0, v, .string d])] w (Ret fun u w' => u = .string (bytesP i d) ∧ Ext w w') := by
  have hb := E.Bx.start w (base := w.heap.size) (Nat.le_refl _)
  refine E.enter Tryd.func15 rfl Tryd.ntmps15 [(.agg #[.int .u64 (i : Nat), .int .u64 0, v, .string d])] rfl ?_
  refine E.W.seq ?_
  refine E.W.region ?_
  refine E.WL.box hb rfl rfl rfl rfl ?_
  clear hb; intro B1 w2 hb _ _
  refine E.WL.val (E.y_assign rfl) rfl rfl rfl ?_
  refine E.WL.done ?_
  refine E.KQ.then_n ?_
  refine E.W.seq ?_
  refine E.W.regionQ rfl (by kernel_rfl) ?_
  refine E.QL.val (fun w' hw => E.y_fld Tryd.underlying30 rfl Tryd.sizeOf28 rfl) rfl rfl rfl ?_
  refine E.QL.val (fun w' hw => E.y_load rfl (E.At.ld1 Tryd.isAgg28 ((hb.ext hw).at0 0 rfl) 0 rfl)) rfl rfl rfl ?_
  refine E.QL.call Tryd.call33 rfl (fun w' hw => E.quiet hw (number_calls w' i hi)) rfl rfl ?_
  refine E.QL.val (fun w' hw => E.y_fld Tryd.underlying30 rfl Tryd.sizeOf28 rfl) rfl rfl rfl ?_
  refine E.QL.val (fun w' hw => E.y_load rfl (E.At.ld1 Tryd.isAgg28 ((hb.ext hw).at0 0 rfl) 1 rfl)) rfl rfl rfl ?_
  refine E.QL.call Tryd.call33 rfl (fun w' hw => E.quiet hw (number_calls w' 0 (by decide))) rfl rfl ?_
  refine E.QL.val (fun w' hw => E.y_sadd rfl rfl (by have := numP_size i; have := numP_size 0; omega)) rfl rfl rfl ?_
  refine E.QL.val (fun w' hw => E.y_fld Tryd.underlying30 rfl Tryd.sizeOf23 rfl) rfl rfl rfl ?_
  refine E.QL.val (fun w' hw => E.y_load rfl (E.At.ld1 Tryd.isAgg23 ((hb.ext hw).at0 0 rfl) 2 rfl)) rfl rfl rfl ?_
  refine E.QL.call Tryd.call34 rfl (fun w' hw => E.quiet hw (ints_calls (h.ext (RInt.goes .i64) (E.Ext.trans hb.below hw)))) rfl rfl ?_
  refine E.QL.val (fun w' hw => E.y_sadd rfl rfl (by have := numP_size i; have := numP_size 0; rw [ByteArray.size_append]; have : oneP.size = 4 := rfl; omega)) rfl rfl rfl ?_
  refine E.QL.val (fun w' hw => E.y_fld Tryd.underlying30 rfl Tryd.sizeOf9 rfl) rfl rfl rfl ?_
  refine E.QL.val (fun w' hw => E.y_load rfl (E.At.ld1 Tryd.isAgg9 ((hb.ext hw).at0 0 rfl) 3 rfl)) rfl rfl rfl ?_
  refine E.QL.call Tryd.call35 rfl (fun w' hw => E.quiet hw (text_calls w' d hd)) rfl rfl ?_
  refine E.QL.val (fun w' hw => E.y_sadd rfl rfl (by have := numP_size i; have := numP_size 0; have := numP_size d.size; unfold textP; simp only [ByteArray.size_append]; have : oneP.size = 4 := rfl; omega)) rfl rfl rfl ?_
  refine E.QL.val (fun w' hw => E.y_assign rfl) rfl rfl rfl ?_
  refine E.QL.end_ fun w3 hx => ?_
  replace hb := hb.ext hx
  clear hx
  refine E.KQ.then_n ?_
  refine E.W.ret ?_
  refine E.KQ.ret1 Tryd.results15 rfl ?_
  exact ⟨_, rfl, rfl, hb.below⟩
end Go.Proofs.YtmnnbnajnfdncaaDoor
