/- Walks: book, fifth part: copies of one's own. -/
import Derived.Test.YtmnnbnajnfdncaaGreatDoorD4
import Derived.Test.YtmnnbnajnfdncaaGreatDoorBook4
set_option linter.unusedVariables false
set_option linter.unusedSimpArgs false
namespace Go.Proofs.YtmnnbnajnfdncaaGreatDoor
open Go.RowKit E
theorem RdS.none_ {α : Type} {R : Rd α} {F : FP} {w : World} {T k bytes m c : Nat} {xs : List α} (h : RdS F w T k bytes R (.slice none m c) xs) : xs = [] := by
  obtain ⟨A, c', e, hc, hby, hg⟩ := h
  injection e with e1 e2 e3
  subst e1
  cases xs with
  | nil => rfl
  | cons x r => obtain ⟨p, _, hp, _⟩ := hg 0 x rfl; cases hp
set_option maxHeartbeats 400000 in
theorem cloneNode_calls {F : FP} {w : World} {v : Value} {xs : List NodeD} (h : RdS F w 32 6 88 RNode v xs) :
    Calls Tryz.prog 48 #[v] w (Ret fun u w' => (∃ v' news, u = v' ∧ w'.ownsRow w.heap.size 32 6 v' xs.length news ∧ Rows RNode F w 6 news xs) ∧ Ext w w') := by
  obtain ⟨A, c, rfl, hc, hby, _⟩ := h.open_
  have hb := E.Bx.start w (base := w.heap.size) (Nat.le_refl _)
  refine E.enter Tryz.func48 rfl Tryz.ntmps48 [(.slice A xs.length c)] rfl ?_
  refine E.W.seq ?_
  refine E.W.region ?_
  refine E.WL.val (E.y_assign rfl) rfl rfl rfl ?_
  refine E.WL.done ?_
  refine E.KQ.then_n ?_
  refine E.W.seq ?_
  refine E.W.seq ?_
  refine E.W.region ?_
  refine E.WL.val (E.y_move rfl) rfl rfl rfl ?_
  refine E.WL.val (E.y_snil Tryz.underlying22 rfl rfl) rfl rfl rfl ?_
  refine E.WL.done ?_
  refine E.KQ.then_n ?_
  refine E.W.condT 4 rfl (fun h4 => ?_) (fun h4 => ?_)
  · skip
    obtain rfl : A = none := by cases A with | none => rfl | some p => cases h4
    refine E.W.seq ?_
    refine E.W.region ?_
    refine E.WL.val (E.y_assign rfl) rfl rfl rfl ?_
    refine E.WL.done ?_
    refine E.KQ.then_n ?_
    refine E.W.ret ?_
    refine E.KQ.then_r ?_
    refine E.KQ.ret1 Tryz.results48 rfl ?_
    have hxs := h.none_
    subst hxs
    exact ⟨_, rfl, ⟨_, [], rfl, World.ownsRow_nil _ _ _ _, Rows.nil⟩, hb.below⟩
  · skip
    obtain ⟨p, rfl⟩ : ∃ p, A = some p := by cases A with | none => cases h4 | some p => exact ⟨p, rfl⟩
    obtain ⟨news, rows, hat, _, _, _⟩ := h.rows (by decide)
    refine E.W.skip ?_
    refine E.KQ.then_n ?_
    refine E.W.seq ?_
    refine E.W.region ?_
    refine E.WL.mkslice (T := 32) (cs := []) hb rfl (fun _ => by kernel_rfl) rfl rfl ?_
    clear hb; intro B2 w2 hb _ _
    refine E.WL.val (E.y_move rfl) rfl rfl rfl ?_
    have own0 := Bx.own0 (k := 6) hb
    refine E.WL.append Tryz.underlying22 (i := Tryz.t32) (size := 6) (bytes := 88) (by kernel_rfl) rfl rfl rfl rfl (by decide) (v := .slice (some ⟨B2, 0, none⟩) 0 0) rfl rfl own0 (hat.ext hb.below) rows.len (rows.one1 (by decide) (fun cs x hx => hx.one)) (by omega) (by decide) hb.le rfl rfl (fun v' w6 own6 hg6 _ => ?_)
    have hE6 : E.Ext w w6 := grown_below hb.below hg6 hb.le (fun k hk => (own0.lt k hk).1)
    rw [Nat.zero_add, List.nil_append] at own6
    refine E.WL.val (E.y_assign rfl) rfl rfl rfl ?_
    refine E.WL.done ?_
    refine E.KQ.then_n ?_
    refine E.W.ret ?_
    refine E.KQ.ret1 Tryz.results48 rfl ?_
    exact ⟨_, rfl, ⟨_, _, rfl, own6, rows⟩, hE6⟩

set_option maxHeartbeats 400000 in
theorem cloneTask_calls {F : FP} {w : World} {v : Value} {xs : List TaskD} (h : RdS F w 34 9 128 RTask v xs) :
    Calls Tryz.prog 49 #[v] w (Ret fun u w' => (∃ v' news, u = v' ∧ w'.ownsRow w.heap.size 34 9 v' xs.length news ∧ Rows RTask F w 9 news xs) ∧ Ext w w') := by
  obtain ⟨A, c, rfl, hc, hby, _⟩ := h.open_
  have hb := E.Bx.start w (base := w.heap.size) (Nat.le_refl _)
  refine E.enter Tryz.func49 rfl Tryz.ntmps49 [(.slice A xs.length c)] rfl ?_
  refine E.W.seq ?_
  refine E.W.region ?_
  refine E.WL.val (E.y_assign rfl) rfl rfl rfl ?_
  refine E.WL.done ?_
  refine E.KQ.then_n ?_
  refine E.W.seq ?_
  refine E.W.seq ?_
  refine E.W.region ?_
  refine E.WL.val (E.y_move rfl) rfl rfl rfl ?_
  refine E.WL.val (E.y_snil Tryz.underlying23 rfl rfl) rfl rfl rfl ?_
  refine E.WL.done ?_
  refine E.KQ.then_n ?_
  refine E.W.condT 4 rfl (fun h4 => ?_) (fun h4 => ?_)
  · skip
    obtain rfl : A = none := by cases A with | none => rfl | some p => cases h4
    refine E.W.seq ?_
    refine E.W.region ?_
    refine E.WL.val (E.y_assign rfl) rfl rfl rfl ?_
    refine E.WL.done ?_
    refine E.KQ.then_n ?_
    refine E.W.ret ?_
    refine E.KQ.then_r ?_
    refine E.KQ.ret1 Tryz.results49 rfl ?_
    have hxs := h.none_
    subst hxs
    exact ⟨_, rfl, ⟨_, [], rfl, World.ownsRow_nil _ _ _ _, Rows.nil⟩, hb.below⟩
  · skip
    obtain ⟨p, rfl⟩ : ∃ p, A = some p := by cases A with | none => cases h4 | some p => exact ⟨p, rfl⟩
    obtain ⟨news, rows, hat, _, _, _⟩ := h.rows (by decide)
    refine E.W.skip ?_
    refine E.KQ.then_n ?_
    refine E.W.seq ?_
    refine E.W.region ?_
    refine E.WL.mkslice (T := 34) (cs := []) hb rfl (fun _ => by kernel_rfl) rfl rfl ?_
    clear hb; intro B2 w2 hb _ _
    refine E.WL.val (E.y_move rfl) rfl rfl rfl ?_
    have own0 := Bx.own0 (k := 9) hb
    refine E.WL.append Tryz.underlying23 (i := Tryz.t34) (size := 9) (bytes := 128) (by kernel_rfl) rfl rfl rfl rfl (by decide) (v := .slice (some ⟨B2, 0, none⟩) 0 0) rfl rfl own0 (hat.ext hb.below) rows.len (rows.one1 (by decide) (fun cs x hx => hx.one)) (by omega) (by decide) hb.le rfl rfl (fun v' w6 own6 hg6 _ => ?_)
    have hE6 : E.Ext w w6 := grown_below hb.below hg6 hb.le (fun k hk => (own0.lt k hk).1)
    rw [Nat.zero_add, List.nil_append] at own6
    refine E.WL.val (E.y_assign rfl) rfl rfl rfl ?_
    refine E.WL.done ?_
    refine E.KQ.then_n ?_
    refine E.W.ret ?_
    refine E.KQ.ret1 Tryz.results49 rfl ?_
    exact ⟨_, rfl, ⟨_, _, rfl, own6, rows⟩, hE6⟩

set_option maxHeartbeats 400000 in
theorem cloneBind_calls {F : FP} {w : World} {v : Value} {xs : List BindD} (h : RdS F w 47 2 32 RBind v xs) :
    Calls Tryz.prog 50 #[v] w (Ret fun u w' => (∃ v' news, u = v' ∧ w'.ownsRow w.heap.size 47 2 v' xs.length news ∧ Rows RBind F w 2 news xs) ∧ Ext w w') := by
  obtain ⟨A, c, rfl, hc, hby, _⟩ := h.open_
  have hb := E.Bx.start w (base := w.heap.size) (Nat.le_refl _)
  refine E.enter Tryz.func50 rfl Tryz.ntmps50 [(.slice A xs.length c)] rfl ?_
  refine E.W.seq ?_
  refine E.W.region ?_
  refine E.WL.val (E.y_assign rfl) rfl rfl rfl ?_
  refine E.WL.done ?_
  refine E.KQ.then_n ?_
  refine E.W.seq ?_
  refine E.W.seq ?_
  refine E.W.region ?_
  refine E.WL.val (E.y_move rfl) rfl rfl rfl ?_
  refine E.WL.val (E.y_snil Tryz.underlying24 rfl rfl) rfl rfl rfl ?_
  refine E.WL.done ?_
  refine E.KQ.then_n ?_
  refine E.W.condT 4 rfl (fun h4 => ?_) (fun h4 => ?_)
  · skip
    obtain rfl : A = none := by cases A with | none => rfl | some p => cases h4
    refine E.W.seq ?_
    refine E.W.region ?_
    refine E.WL.val (E.y_assign rfl) rfl rfl rfl ?_
    refine E.WL.done ?_
    refine E.KQ.then_n ?_
    refine E.W.ret ?_
    refine E.KQ.then_r ?_
    refine E.KQ.ret1 Tryz.results50 rfl ?_
    have hxs := h.none_
    subst hxs
    exact ⟨_, rfl, ⟨_, [], rfl, World.ownsRow_nil _ _ _ _, Rows.nil⟩, hb.below⟩
  · skip
    obtain ⟨p, rfl⟩ : ∃ p, A = some p := by cases A with | none => cases h4 | some p => exact ⟨p, rfl⟩
    obtain ⟨news, rows, hat, _, _, _⟩ := h.rows (by decide)
    refine E.W.skip ?_
    refine E.KQ.then_n ?_
    refine E.W.seq ?_
    refine E.W.region ?_
    refine E.WL.mkslice (T := 47) (cs := []) hb rfl (fun _ => by kernel_rfl) rfl rfl ?_
    clear hb; intro B2 w2 hb _ _
    refine E.WL.val (E.y_move rfl) rfl rfl rfl ?_
    have own0 := Bx.own0 (k := 2) hb
    refine E.WL.append Tryz.underlying24 (i := Tryz.t47) (size := 2) (bytes := 32) (by kernel_rfl) rfl rfl rfl rfl (by decide) (v := .slice (some ⟨B2, 0, none⟩) 0 0) rfl rfl own0 (hat.ext hb.below) rows.len (rows.one1 (by decide) (fun cs x hx => hx.one)) (by omega) (by decide) hb.le rfl rfl (fun v' w6 own6 hg6 _ => ?_)
    have hE6 : E.Ext w w6 := grown_below hb.below hg6 hb.le (fun k hk => (own0.lt k hk).1)
    rw [Nat.zero_add, List.nil_append] at own6
    refine E.WL.val (E.y_assign rfl) rfl rfl rfl ?_
    refine E.WL.done ?_
    refine E.KQ.then_n ?_
    refine E.W.ret ?_
    refine E.KQ.ret1 Tryz.results50 rfl ?_
    exact ⟨_, rfl, ⟨_, _, rfl, own6, rows⟩, hE6⟩

set_option maxHeartbeats 400000 in
theorem clonePair_calls {F : FP} {w : World} {v : Value} {xs : List PairD} (h : RdS F w 45 2 32 RPair v xs) :
    Calls Tryz.prog 89 #[v] w (Ret fun u w' => (∃ v' news, u = v' ∧ w'.ownsRow w.heap.size 45 2 v' xs.length news ∧ Rows RPair F w 2 news xs) ∧ Ext w w') := by
  obtain ⟨A, c, rfl, hc, hby, _⟩ := h.open_
  have hb := E.Bx.start w (base := w.heap.size) (Nat.le_refl _)
  refine E.enter Tryz.func89 rfl Tryz.ntmps89 [(.slice A xs.length c)] rfl ?_
  refine E.W.seq ?_
  refine E.W.region ?_
  refine E.WL.val (E.y_assign rfl) rfl rfl rfl ?_
  refine E.WL.done ?_
  refine E.KQ.then_n ?_
  refine E.W.seq ?_
  refine E.W.seq ?_
  refine E.W.region ?_
  refine E.WL.val (E.y_move rfl) rfl rfl rfl ?_
  refine E.WL.val (E.y_snil Tryz.underlying30 rfl rfl) rfl rfl rfl ?_
  refine E.WL.done ?_
  refine E.KQ.then_n ?_
  refine E.W.condT 4 rfl (fun h4 => ?_) (fun h4 => ?_)
  · skip
    obtain rfl : A = none := by cases A with | none => rfl | some p => cases h4
    refine E.W.seq ?_
    refine E.W.region ?_
    refine E.WL.val (E.y_assign rfl) rfl rfl rfl ?_
    refine E.WL.done ?_
    refine E.KQ.then_n ?_
    refine E.W.ret ?_
    refine E.KQ.then_r ?_
    refine E.KQ.ret1 Tryz.results89 rfl ?_
    have hxs := h.none_
    subst hxs
    exact ⟨_, rfl, ⟨_, [], rfl, World.ownsRow_nil _ _ _ _, Rows.nil⟩, hb.below⟩
  · skip
    obtain ⟨p, rfl⟩ : ∃ p, A = some p := by cases A with | none => cases h4 | some p => exact ⟨p, rfl⟩
    obtain ⟨news, rows, hat, _, _, _⟩ := h.rows (by decide)
    refine E.W.skip ?_
    refine E.KQ.then_n ?_
    refine E.W.seq ?_
    refine E.W.region ?_
    refine E.WL.mkslice (T := 45) (cs := []) hb rfl (fun _ => by kernel_rfl) rfl rfl ?_
    clear hb; intro B2 w2 hb _ _
    refine E.WL.val (E.y_move rfl) rfl rfl rfl ?_
    have own0 := Bx.own0 (k := 2) hb
    refine E.WL.append Tryz.underlying30 (i := Tryz.t45) (size := 2) (bytes := 32) (by kernel_rfl) rfl rfl rfl rfl (by decide) (v := .slice (some ⟨B2, 0, none⟩) 0 0) rfl rfl own0 (hat.ext hb.below) rows.len (rows.one1 (by decide) (fun cs x hx => hx.one)) (by omega) (by decide) hb.le rfl rfl (fun v' w6 own6 hg6 _ => ?_)
    have hE6 : E.Ext w w6 := grown_below hb.below hg6 hb.le (fun k hk => (own0.lt k hk).1)
    rw [Nat.zero_add, List.nil_append] at own6
    refine E.WL.val (E.y_assign rfl) rfl rfl rfl ?_
    refine E.WL.done ?_
    refine E.KQ.then_n ?_
    refine E.W.ret ?_
    refine E.KQ.ret1 Tryz.results89 rfl ?_
    exact ⟨_, rfl, ⟨_, _, rfl, own6, rows⟩, hE6⟩

set_option maxHeartbeats 400000 in
theorem ownNode_calls {F : FP} {w : World} {cn : List Value} {n : NodeD} (h : RNode F w cn n) :
    Calls Tryz.prog 51 #[(.agg cn.toArray)] w (Ret fun u w' => (∃ cn', u = .agg cn'.toArray ∧ RNode (Own w.heap.size w') w' cn' n) ∧ Ext w w') := by
  obtain ⟨vl, vt, rfl, hl1, hl2⟩ := id h
  have hb := E.Bx.start w (base := w.heap.size) (Nat.le_refl _)
  refine E.enter Tryz.func51 rfl Tryz.ntmps51 [(.agg #[.string n.name, .int .i64 n.h0, .int .i64 n.h1, .int .i64 n.h2, vl, vt])] rfl ?_
  refine E.W.seq ?_
  refine E.W.region ?_
  refine E.WL.box hb rfl rfl rfl rfl ?_
  clear hb; intro B1 w2 hb _ _
  refine E.WL.alloc hb Tryz.zeroValue32 rfl rfl rfl ?_
  clear hb; intro B3 w4 hb _ _
  refine E.WL.done ?_
  refine E.KQ.then_n ?_
  refine E.W.seq ?_
  have hb0 := hb
  refine E.W.regionD (E.heads 7 []) rfl ?_
  replace hb := hb.drew
  have hE := E.Ext.drew w4
  refine E.DL.take 0 rfl (by kernel_rfl) (by kernel_rfl) (fun w' hw => E.y_fld Tryz.underlying32 rfl Tryz.sizeOf30 rfl) rfl rfl rfl (fun _ _ _ _ h => by obtain ⟨_, _, h, _⟩ := h; cases h) hE ?_
  refine E.DL.take 1 rfl (by kernel_rfl) (by kernel_rfl) (fun w' hw => E.y_load rfl (E.At.ld1 Tryz.isAgg30 ((hb0.ext hw).at0 1 rfl) 4 rfl)) rfl rfl rfl (fun _ _ _ _ h => by obtain ⟨_, _, h, _⟩ := h; cases h) hE ?_
  refine E.DL.take 3 rfl (by kernel_rfl) (by kernel_rfl) (fun w' hw => E.y_fld Tryz.underlying32 rfl Tryz.sizeOf30 rfl) rfl rfl rfl (fun _ _ _ _ h => by obtain ⟨_, _, h, _⟩ := h; cases h) hE ?_
  refine E.DL.take 4 rfl (by kernel_rfl) (by kernel_rfl) (fun w' hw => E.y_load rfl (E.At.ld1 Tryz.isAgg30 ((hb0.ext hw).at0 1 rfl) 5 rfl)) rfl rfl rfl (fun _ _ _ _ h => by obtain ⟨_, _, h, _⟩ := h; cases h) hE ?_
  refine E.DL.only 2 rfl (by kernel_rfl) (fun hsh => ?_)
  refine E.WL.call (clonePair_calls (hl1.ext RPair.goes hb.below)) Tryz.call89 rfl rfl rfl ?_
  rintro v' w5 ⟨⟨_, news, rfl, own, rows⟩, hX⟩
  have hle := hb.le
  replace hb := hb.ext hX
  have p1 : RPairs (Own w.heap.size w5) w5 v' n.labels := RPairs.le (OwnS.rd ⟨own, rows.to fun _ _ h => h⟩ (hl1.len_le)) hle
  clear own rows hle
  obtain ⟨A1, c1, rfl, _, _, _⟩ := p1.open_
  refine E.WL.done ?_
  replace hE := hE.trans hX
  clear hX
  refine E.DL.next hsh (.inl hE) ?_
  clear hsh
  refine E.DL.take 6 rfl (by kernel_rfl) (by kernel_rfl) (fun w' hw => E.y_fld Tryz.underlying32 rfl Tryz.sizeOf30 rfl) rfl rfl rfl (fun _ _ _ _ h => by obtain ⟨_, _, h, _⟩ := h; cases h) hE ?_
  refine E.DL.only 5 rfl (by kernel_rfl) (fun hsh => ?_)
  refine E.WL.call (clonePair_calls (hl2.ext RPair.goes hb.below)) Tryz.call89 rfl rfl rfl ?_
  rintro v' w6 ⟨⟨_, news, rfl, own, rows⟩, hX⟩
  have hle := hb.le
  replace hb := hb.ext hX
  replace p1 := RPairs.keeps p1 (Keeps.ext hX) (S := fun U => U = 45) rfl
  have p2 : RPairs (Own w.heap.size w6) w6 v' n.taints := RPairs.le (OwnS.rd ⟨own, rows.to fun _ _ h => h⟩ (hl2.len_le)) hle
  clear own rows hle
  obtain ⟨A2, c2, rfl, _, _, _⟩ := p2.open_
  refine E.WL.done ?_
  replace hE := hE.trans hX
  clear hX
  refine E.DL.next hsh (.inl hE) ?_
  clear hsh
  refine E.DL.only 7 rfl (by kernel_rfl) (fun hsh => ?_)
  refine E.WL.store hb 1 4 rfl rfl rfl Tryz.sizeOf30 rfl rfl rfl (E.allOne rfl) rfl ?_
  have hT := hb.hasT 1 rfl
  clear hb; intro w7 hb hO
  replace p1 := RPairs.keeps p1 (Keeps.only hO hT (by decide)) (S := fun U => U = 45) rfl
  replace p2 := RPairs.keeps p2 (Keeps.only hO hT (by decide)) (S := fun U => U = 45) rfl
  clear hT
  clear hO
  refine E.WL.done ?_
  refine E.DL.next hsh (.inr rfl) ?_
  clear hsh
  refine E.DL.takeU 8 rfl (by kernel_rfl) rfl (fun w' => E.y_fld Tryz.underlying32 rfl Tryz.sizeOf30 rfl) rfl rfl rfl (fun _ _ _ _ h => by obtain ⟨_, _, h, _⟩ := h; cases h) ?_
  refine E.DL.only 9 rfl (by kernel_rfl) (fun hsh => ?_)
  refine E.WL.store hb 1 5 rfl rfl rfl Tryz.sizeOf30 rfl rfl rfl (E.allOne rfl) rfl ?_
  have hT := hb.hasT 1 rfl
  clear hb; intro w8 hb hO
  replace p1 := RPairs.keeps p1 (Keeps.only hO hT (by decide)) (S := fun U => U = 45) rfl
  replace p2 := RPairs.keeps p2 (Keeps.only hO hT (by decide)) (S := fun U => U = 45) rfl
  clear hT
  clear hO
  refine E.WL.done ?_
  refine E.DL.next hsh (.inr rfl) ?_
  clear hsh
  refine E.DL.done (by kernel_rfl) ?_
  clear hE hb0
  refine E.KQ.then_n ?_
  refine E.W.seq ?_
  refine E.W.region ?_
  refine E.WL.val (E.y_load rfl (E.At.ldk Tryz.isAgg32 Tryz.sizeOf32 (hb.at0 1 rfl) rfl)) rfl rfl rfl ?_
  refine E.WL.storeW hb 0 rfl rfl rfl Tryz.sizeOf32 rfl rfl rfl (E.allOne rfl) rfl ?_
  have hT := hb.hasT 0 rfl
  clear hb; intro w9 hb hO
  replace p1 := RPairs.keeps p1 (Keeps.only hO hT (by decide)) (S := fun U => U = 45) rfl
  replace p2 := RPairs.keeps p2 (Keeps.only hO hT (by decide)) (S := fun U => U = 45) rfl
  clear hT
  clear hO
  refine E.WL.done ?_
  refine E.KQ.then_n ?_
  refine E.W.ret ?_
  refine E.KQ.retc Tryz.results51 rfl (E.At.ldk Tryz.isAgg32 Tryz.sizeOf32 (hb.at0 0 rfl) rfl) ?_
  exact ⟨_, rfl, ⟨_, rfl, _, _, rfl, p1, p2⟩, hb.below⟩

set_option maxHeartbeats 400000 in
theorem ownTask_calls {F : FP} {w : World} {cn : List Value} {n : TaskD} (h : RTask F w cn n) :
    Calls Tryz.prog 52 #[(.agg cn.toArray)] w (Ret fun u w' => (∃ cn', u = .agg cn'.toArray ∧ RTask (Own w.heap.size w') w' cn' n) ∧ Ext w w') := by
  obtain ⟨vl, vt, rfl, hl1, hl2⟩ := id h
  have hb := E.Bx.start w (base := w.heap.size) (Nat.le_refl _)
  refine E.enter Tryz.func52 rfl Tryz.ntmps52 [(.agg #[.string n.name, .int .i64 n.n0, .int .i64 n.n1, .int .i64 n.n2, vl, vt, .string n.group, .string n.apart, .int .i64 n.rank])] rfl ?_
  refine E.W.seq ?_
  refine E.W.region ?_
  refine E.WL.box hb rfl rfl rfl rfl ?_
  clear hb; intro B1 w2 hb _ _
  refine E.WL.alloc hb Tryz.zeroValue34 rfl rfl rfl ?_
  clear hb; intro B3 w4 hb _ _
  refine E.WL.done ?_
  refine E.KQ.then_n ?_
  refine E.W.seq ?_
  have hb0 := hb
  refine E.W.regionD (E.heads 7 []) rfl ?_
  replace hb := hb.drew
  have hE := E.Ext.drew w4
  refine E.DL.take 0 rfl (by kernel_rfl) (by kernel_rfl) (fun w' hw => E.y_fld Tryz.underlying34 rfl Tryz.sizeOf30 rfl) rfl rfl rfl (fun _ _ _ _ h => by obtain ⟨_, _, h, _⟩ := h; cases h) hE ?_
  refine E.DL.take 1 rfl (by kernel_rfl) (by kernel_rfl) (fun w' hw => E.y_load rfl (E.At.ld1 Tryz.isAgg30 ((hb0.ext hw).at0 1 rfl) 4 rfl)) rfl rfl rfl (fun _ _ _ _ h => by obtain ⟨_, _, h, _⟩ := h; cases h) hE ?_
  refine E.DL.take 3 rfl (by kernel_rfl) (by kernel_rfl) (fun w' hw => E.y_fld Tryz.underlying34 rfl Tryz.sizeOf30 rfl) rfl rfl rfl (fun _ _ _ _ h => by obtain ⟨_, _, h, _⟩ := h; cases h) hE ?_
  refine E.DL.take 4 rfl (by kernel_rfl) (by kernel_rfl) (fun w' hw => E.y_load rfl (E.At.ld1 Tryz.isAgg30 ((hb0.ext hw).at0 1 rfl) 5 rfl)) rfl rfl rfl (fun _ _ _ _ h => by obtain ⟨_, _, h, _⟩ := h; cases h) hE ?_
  refine E.DL.only 2 rfl (by kernel_rfl) (fun hsh => ?_)
  refine E.WL.call (clonePair_calls (hl1.ext RPair.goes hb.below)) Tryz.call89 rfl rfl rfl ?_
  rintro v' w5 ⟨⟨_, news, rfl, own, rows⟩, hX⟩
  have hle := hb.le
  replace hb := hb.ext hX
  have p1 : RPairs (Own w.heap.size w5) w5 v' n.wants := RPairs.le (OwnS.rd ⟨own, rows.to fun _ _ h => h⟩ (hl1.len_le)) hle
  clear own rows hle
  obtain ⟨A1, c1, rfl, _, _, _⟩ := p1.open_
  refine E.WL.done ?_
  replace hE := hE.trans hX
  clear hX
  refine E.DL.next hsh (.inl hE) ?_
  clear hsh
  refine E.DL.take 6 rfl (by kernel_rfl) (by kernel_rfl) (fun w' hw => E.y_fld Tryz.underlying34 rfl Tryz.sizeOf30 rfl) rfl rfl rfl (fun _ _ _ _ h => by obtain ⟨_, _, h, _⟩ := h; cases h) hE ?_
  refine E.DL.only 5 rfl (by kernel_rfl) (fun hsh => ?_)
  refine E.WL.call (clonePair_calls (hl2.ext RPair.goes hb.below)) Tryz.call89 rfl rfl rfl ?_
  rintro v' w6 ⟨⟨_, news, rfl, own, rows⟩, hX⟩
  have hle := hb.le
  replace hb := hb.ext hX
  replace p1 := RPairs.keeps p1 (Keeps.ext hX) (S := fun U => U = 45) rfl
  have p2 : RPairs (Own w.heap.size w6) w6 v' n.bears := RPairs.le (OwnS.rd ⟨own, rows.to fun _ _ h => h⟩ (hl2.len_le)) hle
  clear own rows hle
  obtain ⟨A2, c2, rfl, _, _, _⟩ := p2.open_
  refine E.WL.done ?_
  replace hE := hE.trans hX
  clear hX
  refine E.DL.next hsh (.inl hE) ?_
  clear hsh
  refine E.DL.only 7 rfl (by kernel_rfl) (fun hsh => ?_)
  refine E.WL.store hb 1 4 rfl rfl rfl Tryz.sizeOf30 rfl rfl rfl (E.allOne rfl) rfl ?_
  have hT := hb.hasT 1 rfl
  clear hb; intro w7 hb hO
  replace p1 := RPairs.keeps p1 (Keeps.only hO hT (by decide)) (S := fun U => U = 45) rfl
  replace p2 := RPairs.keeps p2 (Keeps.only hO hT (by decide)) (S := fun U => U = 45) rfl
  clear hT
  clear hO
  refine E.WL.done ?_
  refine E.DL.next hsh (.inr rfl) ?_
  clear hsh
  refine E.DL.takeU 8 rfl (by kernel_rfl) rfl (fun w' => E.y_fld Tryz.underlying34 rfl Tryz.sizeOf30 rfl) rfl rfl rfl (fun _ _ _ _ h => by obtain ⟨_, _, h, _⟩ := h; cases h) ?_
  refine E.DL.only 9 rfl (by kernel_rfl) (fun hsh => ?_)
  refine E.WL.store hb 1 5 rfl rfl rfl Tryz.sizeOf30 rfl rfl rfl (E.allOne rfl) rfl ?_
  have hT := hb.hasT 1 rfl
  clear hb; intro w8 hb hO
  replace p1 := RPairs.keeps p1 (Keeps.only hO hT (by decide)) (S := fun U => U = 45) rfl
  replace p2 := RPairs.keeps p2 (Keeps.only hO hT (by decide)) (S := fun U => U = 45) rfl
  clear hT
  clear hO
  refine E.WL.done ?_
  refine E.DL.next hsh (.inr rfl) ?_
  clear hsh
  refine E.DL.done (by kernel_rfl) ?_
  clear hE hb0
  refine E.KQ.then_n ?_
  refine E.W.seq ?_
  refine E.W.region ?_
  refine E.WL.val (E.y_load rfl (E.At.ldk Tryz.isAgg34 Tryz.sizeOf34 (hb.at0 1 rfl) rfl)) rfl rfl rfl ?_
  refine E.WL.storeW hb 0 rfl rfl rfl Tryz.sizeOf34 rfl rfl rfl (E.allOne rfl) rfl ?_
  have hT := hb.hasT 0 rfl
  clear hb; intro w9 hb hO
  replace p1 := RPairs.keeps p1 (Keeps.only hO hT (by decide)) (S := fun U => U = 45) rfl
  replace p2 := RPairs.keeps p2 (Keeps.only hO hT (by decide)) (S := fun U => U = 45) rfl
  clear hT
  clear hO
  refine E.WL.done ?_
  refine E.KQ.then_n ?_
  refine E.W.ret ?_
  refine E.KQ.retc Tryz.results52 rfl (E.At.ldk Tryz.isAgg34 Tryz.sizeOf34 (hb.at0 0 rfl) rfl) ?_
  exact ⟨_, rfl, ⟨_, rfl, _, _, rfl, p1, p2⟩, hb.below⟩
end Go.Proofs.YtmnnbnajnfdncaaGreatDoor
