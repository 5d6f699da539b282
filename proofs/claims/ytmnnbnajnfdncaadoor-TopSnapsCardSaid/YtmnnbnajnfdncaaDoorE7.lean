/- The engine, seventh part: copy into a box, append of zeros, clear; calls answered by the model itself. -/
import Derived.Test.YtmnnbnajnfdncaaDoorE6
import Derived.Lib.AppendZerosOnto
import Derived.Lib.Overlaps
import Derived.Laws.Externs
set_option linter.unusedVariables false
set_option linter.unusedSimpArgs false
namespace Go.Proofs.YtmnnbnajnfdncaaDoor.E
open Go.RowKit
variable {P : Program} {n : Nat} {l : Fr} {w w' w0 : World} {Q : Exit → Act → World → Prop}
variable {ops rest : List Oper} {dst : Option Tmp} {ty : TypeId} {pos : String} {aft : Array Edge} {gd : Option (Nat × Bool)} {v : Value}
variable {x y z : Operand} {t t' T e : TypeId} {base : Nat} {bl : Bxs} {d : Nat}
theorem add_eq (B o : Nat) : (⟨B, 0, none⟩ : Addr).add o = ⟨B, o, none⟩ := by unfold Addr.add; split <;> simp_all
theorem y_extern {f : FuncId} {os : List Operand} {ts : Array TypeId} {vs : List Value} (h : (callFunc f vs.toArray).run P w = .ok (.value v) w) (ha : l.evs os = some vs) : RunV P n l ⟨dst, .call ⟨.value (.func f), os.toArray, ts⟩, ty, pos, aft, gd⟩ w v w := fun a hh => by
  have h1 := hh.evs ha
  have h2 : a.eval (.func f) = .func (.func f) #[] #[] := rfl
  simp only [execOp, resolve, h2, Deferred.ofValue, invoke, Sem.run_bind, Sem.run_pure, Result.andThen_ok, List.map_toArray, h1, h, Array.empty_append, Array.append_empty]
theorem WL.valn {o : Oper} (hr : RunV P n l o w v w') (hg : want ops l o.guard = some true) (hd : o.dst = none) (k : WL P n ops Q rest l w') : WL P n ops Q (o :: rest) l w := by
  intro a ha
  unfold wpList
  rw [if_pos (want_spec ha hg)]
  refine .inl ?_
  unfold Oper.wp
  rw [hr a ha]
  show wpList P ops.toArray Q rest (a.put o.dst v) w'
  rw [hd]
  exact k _ ha
/-- A part of a slice from lo on, lo not its capacity. -/
theorem y_sl_ln {k' : IntKind} {ad : Addr} {sz lo m c : Nat} (ht : P.underlying t = some (.slice e)) (hz : ∀ w, (sizeOf e).run P w = .ok sz w) (h : l.ev x = some (.slice (some ad) m c)) (h2 : l.ev y = some (.int k' (lo : Int))) (h4 : lo ≤ m) (hne : lo < c) :
    RunV P n l ⟨dst, .slice t x (some y) none none, ty, pos, aft, gd⟩ w (.slice (some (ad.add (lo * sz))) (m - lo) (c - lo)) w := by
  have := y_sl_l (P := P) (n := n) (w := w) (dst := dst) (ty := ty) (pos := pos) (aft := aft) (gd := gd) ht hz h h2 h4
  rwa [if_neg (by omega)] at this
/-- With a capacity of its own. -/
theorem y_sl_lhm {k k' k2 : IntKind} {u : Operand} {A : Option Addr} {sz lo hi mx m c : Nat} (ht : P.underlying t = some (.slice e)) (hz : ∀ w, (sizeOf e).run P w = .ok sz w) (h : l.ev x = some (.slice A m c)) (h1 : l.ev y = some (.int k (lo : Int))) (h2 : l.ev z = some (.int k' (hi : Int))) (h3 : l.ev u = some (.int k2 (mx : Int))) (a1 : lo ≤ hi) (a2 : hi ≤ mx) (a3 : mx ≤ c) :
    RunV P n l ⟨dst, .slice t x (some y) (some z) (some u), ty, pos, aft, gd⟩ w (.slice (if mx = lo then A else A.map (·.add (lo * sz))) (hi - lo) (mx - lo)) w := fun a ha => by
  simp [execOp, ha.ev h, ha.ev h1, ha.ev h2, ha.ev h3, Instr.sliceAt, Instr.slice, run_underlying ht, hz, Instr.sliceBounds, Instr.sliceBound, asIntOf, a1, a2, a3]
theorem y_sl_ls {k' : IntKind} {ad : Addr} {sz lo m c : Nat} (ht : P.underlying t = some (.slice e)) (hz : ∀ w, (sizeOf e).run P w = .ok sz w) (h : l.ev x = some (.slice (some ad) m c)) (h2 : l.ev y = some (.int k' (lo : Int))) (h4 : lo ≤ m) :
    RunV P n l ⟨dst, .slice t x (some y) none none, ty, pos, aft, gd⟩ w (.slice (some (if c = lo then ad else ad.add (lo * sz))) (m - lo) (c - lo)) w := by
  have := y_sl_l (P := P) (n := n) (w := w) (dst := dst) (ty := ty) (pos := pos) (aft := aft) (gd := gd) ht hz h h2 h4
  by_cases hc : c = lo
  · rw [if_pos hc] at this ⊢; exact this
  · rw [if_neg hc] at this ⊢; exact this
theorem y_sl_lhn {k k' : IntKind} {ad : Addr} {sz lo hi m c : Nat} (ht : P.underlying t = some (.slice e)) (hz : ∀ w, (sizeOf e).run P w = .ok sz w) (h : l.ev x = some (.slice (some ad) m c)) (h1 : l.ev y = some (.int k (lo : Int))) (h2 : l.ev z = some (.int k' (hi : Int))) (h3 : lo ≤ hi) (h4 : hi ≤ c) (hne : lo < c) :
    RunV P n l ⟨dst, .slice t x (some y) (some z) none, ty, pos, aft, gd⟩ w (.slice (some (ad.add (lo * sz))) (hi - lo) (c - lo)) w := by
  have := y_sl_lh (P := P) (n := n) (w := w) (dst := dst) (ty := ty) (pos := pos) (aft := aft) (gd := gd) ht hz h h1 h2 h3 h4
  rwa [if_neg (by omega)] at this
/-- append in place. -/
theorem WL.appendB {k sLen sCap m c : Nat} {i : TypeInfo} {a : Addr} {cs : List Value} {g : Nat} {cur : List Value} (hb : Bx base w0 w bl) (i0 : Nat) (hi : bl.at i0 = some (g, cur, e)) (ht : P.underlying t = some (.slice e)) (hinf : P.info? e = some i) (hk : i.size = k)
    (hx : l.ev x = some (.slice (some ⟨g, 0, none⟩) sLen sCap)) (hy : l.ev y = some (.slice (some a) m c)) (hl : cs.length = m * k) (hat : At w a cs) (h1 : ∀ u ∈ cs, u.oneCell' = true) (hroom : sLen + m ≤ sCap) (hf : sLen * k + cs.length ≤ cur.length)
    (hg : want ops l gd = some true) (hn : Nat.blt d n = true) (kk : ∀ w', Bx base w0 w' (bl.put i0 (ovw cur (sLen * k) cs)) → Only g w w' → WL P n ops Q rest ((d, .slice (some ⟨g, 0, none⟩) (sLen + m) sCap) :: l) w') :
    WL P n ops Q (⟨some d, .call ⟨.builtin .append, #[x, y], #[t, t]⟩, ty, pos, aft, gd⟩ :: rest) l w := by
  subst hk
  have hc := (hb.get hi).2
  have hr := run_append_room (P := P) w t ty e i ht hinf g sLen sCap cur.toArray hc a m c cs hl hat h1 hroom (by simpa using hf)
  exact WL.val (v := .slice (some ⟨g, 0, none⟩) (sLen + m) sCap) (w' := w.setRow g (ovw cur (sLen * i.size) cs).toArray) (fun ac ha => by
    simp [execOp, resolve, invoke, builtin, ha.ev hx, ha.ev hy, hr, ovw]) hg rfl hn (kk _ (hb.setRow hi) (Only.setRow _ _ _))
theorem WL.copyB {k sLen sCap dLen dCap m : Nat} {a : Addr} {cs : List Value} {g : Nat} {cur : List Value} (hb : Bx base w0 w bl) (i0 o : Nat) (hi : bl.at i0 = some (g, cur, T)) (ht : P.underlying t = some (.slice e)) (hz : ∀ w, (sizeOf e).run P w = .ok k w)
    (hx : l.ev x = some (.slice (some ((⟨g, 0, none⟩ : Addr).add o)) dLen dCap)) (hy : l.ev y = some (.slice (some a) sLen sCap)) (hm : Nat.min sLen dLen = m) (hl : cs.length = m * k) (hat : At w a cs) (h1 : ∀ u ∈ cs, u.oneCell' = true) (hf : o + cs.length ≤ cur.length)
    (hg : want ops l gd = some true) (hn : Nat.blt d n = true) (kk : ∀ w', Bx base w0 w' (bl.put i0 (ovw cur o cs)) → Only g w w' → WL P n ops Q rest ((d, .int .i64 m) :: l) w') :
    WL P n ops Q (⟨some d, .call ⟨.builtin .copy, #[x, y], #[t, t']⟩, ty, pos, aft, gd⟩ :: rest) l w :=
  WL.val (v := .int .i64 m) (w' := w.setRow g (ovw cur o cs).toArray) (fun ac ha => by
    have hc := (hb.get hi).2
    have hl2 : cs.length = (Nat.min sLen dLen) * k := by rw [hm]; exact hl
    have hld := run_loadCells_list (P := P) w a cs hat
    have hst := run_storeCells_at P g o T cs 0 cur.toArray w hc (by simpa using hf) h1
    simp only [Nat.add_zero] at hst
    rw [add_eq] at hx
    rw [hl] at hld
    simp [execOp, resolve, invoke, builtin, ha.ev hx, ha.ev hy, Builtin.copy_, run_underlying ht, Builtin.lenOf, hz, Builtin.firstCells, hm, hld, hst, goInt, ovw]) hg rfl hn
    (kk _ (hb.setRow hi) (Only.setRow _ _ _))
theorem WL.appendZ {i : TypeInfo} {z0 : Value} {size bytes sLen sCap k : Nat} {tn : TypeId} {kn kq : IntKind} {a : Addr} {olds : List Value} (hb : Bx base w0 w bl) (ht : P.underlying t = some (.slice e)) (htn : P.underlying tn = some (.int kn)) (hi : P.info? e = some i) (hz : i.zero = some z0) (hsize : i.size = size) (hby : i.bytes = bytes) (hzs : z0.cells.size = size) (hsz : 0 < size) (hb0 : 0 < bytes)
    (hx : l.ev x = some (.slice (some a) sLen sCap)) (hy : l.ev y = some (.int kq (k : Int))) (hlo : olds.length = sLen * size) (hat : At w a olds) (h0 : 0 < k) (hgr : sCap < sLen + k) (hbytes : (sLen + k) * bytes ≤ 140737488355328)
    (hg : want ops l gd = some true) (hn : Nat.blt d n = true)
    (kk : ∀ G w' row cap', row.length = cap' * size → row.take (sLen * size) = olds → sLen + k ≤ cap' → cap' ≤ maxLen → Bx base w0 w' ((G, row, e) :: bl) → Ext w w' → G = w.heap.size → WL P n ops Q rest ((d, .slice (some ⟨G, 0, none⟩) (sLen + k) cap') :: l) w') :
    WL P n ops Q (⟨some d, .call ⟨.builtin .append, #[x, y], #[t, tn]⟩, ty, pos, aft, gd⟩ :: rest) l w := by
  subst hsize; subst hby
  have h63 : sLen + k ≤ maxLen := by
    have := Nat.le_mul_of_pos_right (sLen + k) hb0
    simp only [maxLen]; omega
  have hsmall : ((sLen + k : Nat) : Int) ≤ 9223372036854775807 := by simp only [maxLen] at h63; omega
  have hk48 : k * i.bytes ≤ 281474976710656 := by
    have := Nat.mul_le_mul_right i.bytes (show k ≤ sLen + k by omega); omega
  have hat' : At w.drew a olds := hat.ext (Ext.drew w)
  have hold := run_firstCells_some (P := P) w.drew i.size sLen a sLen sCap olds hlo hat'
  have hr := Lib.run_append_grow_zeros (P := P) w t tn ty e i z0 kq kn ht htn hi hz (some a) sLen sCap olds hold k h0 hsz hgr hsmall hk48 (growslice_fits hgr hbytes)
  refine WL.val (v := .slice (some ⟨w.heap.size, 0, none⟩) (sLen + k) (grownCap w (sLen + k) sCap e)) (w' := w.drew.alloc (.cells (olds ++ ((Builtin.zeroCells z0.cells k).toList ++ (Builtin.zeroCells z0.cells (grownCap w (sLen + k) sCap e - (sLen + k))).toList)).toArray e)) (fun ac ha => ?_) hg rfl hn
    (kk _ _ _ _ ?_ ?_ (grownCap_ge _ _ _ _) (grownCap_le_maxLen _ _ _ _ h63) (hb.drew.alloc _ _) ((Ext.drew w).trans (Ext.alloc _ _)) rfl)
  · simp [execOp, resolve, invoke, builtin, ha.ev hx, ha.ev hy, hr]
    congr 2
    apply Array.ext'
    simp
  · have := grownCap_ge w (sLen + k) sCap e
    simp only [List.length_append, Array.length_toList, size_zeroCells, hlo, hzs, ← Nat.add_mul]
    congr 1; omega
  · rw [← hlo]; exact List.take_left
/-- clear of a part of a box. -/
theorem WL.clearB {k m c : Nat} {i : TypeInfo} {z0 : Value} {g : Nat} {cur : List Value} (hb : Bx base w0 w bl) (i0 o : Nat) (hi : bl.at i0 = some (g, cur, T)) (ht : P.underlying t = some (.slice e)) (hz0 : ∀ w, (zeroValue e).run P w = .ok z0 w) (hzs : z0.cells.size = k) (hone : ∀ u ∈ z0.cells.toList, u.oneCell' = true) (hk : 0 < k)
    (hx : l.ev x = some (.slice (some ((⟨g, 0, none⟩ : Addr).add o)) m c)) (hf : o + m * k ≤ cur.length) (hg : want ops l gd = some true)
    (kk : ∀ w' zs, zs.length = m * k → Bx base w0 w' (bl.put i0 (ovw cur o zs)) → Only g w w' → WL P n ops Q rest l w') :
    WL P n ops Q (⟨none, .call ⟨.builtin .clear, #[x], #[t]⟩, ty, pos, aft, gd⟩ :: rest) l w := by
  have hlen : (Builtin.zeroCells z0.cells m).toList.length = m * k := by rw [Array.length_toList, size_zeroCells, hzs]
  have h1 : ∀ u ∈ (Builtin.zeroCells z0.cells m).toList, u.oneCell' = true := fun u hu => by
    simp only [Builtin.zeroCells, Array.toList_map, List.mem_map] at hu
    obtain ⟨j, _, rfl⟩ := hu
    have hj : j % z0.cells.size < z0.cells.size := Nat.mod_lt _ (by omega)
    rw [getElem!_pos z0.cells _ hj]
    exact hone _ (by simp)
  have hc := (hb.get hi).2
  have hst := run_storeCells_at P g o T (Builtin.zeroCells z0.cells m).toList 0 cur.toArray w hc (by simp only [Nat.add_zero, List.size_toArray]; rw [hlen]; exact hf) h1
  simp only [Nat.add_zero] at hst
  rw [add_eq] at hx
  cases m with
  | zero =>
    have e0 : (Builtin.zeroCells z0.cells 0).toList = [] := List.eq_nil_of_length_eq_zero (by rw [hlen]; simp)
    refine WL.valn (v := .tuple #[]) (w' := w.setRow g (ovw cur o []).toArray) (fun ac ha => ?_) hg rfl (kk _ [] (by simp) (hb.setRow hi) (Only.setRow _ _ _))
    have hself : w.setRow g (ovw cur o []).toArray = w := by
      have : ovw cur o [] = cur := by simp [ovw]
      rw [this]; exact setRow_self w g _ T _ hc
    rw [hself]
    simp [execOp, resolve, invoke, builtin, ha.ev hx, Builtin.clear_, run_underlying ht]
  | succ m =>
    refine WL.valn (v := .tuple #[]) (w' := w.setRow g (ovw cur o (Builtin.zeroCells z0.cells (m + 1)).toList).toArray) (fun ac ha => ?_) hg rfl (kk _ _ hlen (hb.setRow hi) (Only.setRow _ _ _))
    simp [execOp, resolve, invoke, builtin, ha.ev hx, Builtin.clear_, run_underlying ht, hz0, hst, ovw]
end Go.Proofs.YtmnnbnajnfdncaaDoor.E
