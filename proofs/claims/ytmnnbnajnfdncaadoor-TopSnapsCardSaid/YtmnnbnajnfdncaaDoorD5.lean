/- Writing into a row of one's own. -/
import Derived.Test.YtmnnbnajnfdncaaDoorD4
set_option linter.unusedVariables false
set_option linter.unusedSimpArgs false
namespace Go.Proofs.YtmnnbnajnfdncaaDoor
open Go.RowKit E
abbrev rowS : Nat → Prop := fun U => U = 32 ∨ U = 34 ∨ U = 47 ∨ U = 45
theorem ovw_len {news vs : List Value} {o : Nat} (h : o + vs.length ≤ news.length) : (ovw news o vs).length = news.length := by
  simp only [ovw, List.length_append, List.length_take, List.length_drop]; omega
theorem mul_lt_le {i j k : Nat} (h : i < j) : i * k + k ≤ j * k := by
  have := Nat.mul_le_mul_right k (show i + 1 ≤ j from h)
  rw [Nat.add_mul, Nat.one_mul] at this; exact this
theorem cut_ovw_same {news vs : List Value} {k j n : Nat} (hl : news.length = n * k) (hv : vs.length = k) (hj : j < n) : cut k j (ovw news (j * k) vs) = vs := by
  have := mul_lt_le (k := k) hj
  unfold cut ovw
  rw [List.append_assoc, List.drop_append_of_le_length (by simp; omega), List.drop_of_length_le (by simp; omega), List.nil_append, List.take_append_of_le_length (by omega), List.take_of_length_le (by omega)]
theorem cut_ovw_other {news vs : List Value} {k i j n : Nat} (hl : news.length = n * k) (hv : vs.length = k) (hj : j < n) (hij : i ≠ j) : cut k i (ovw news (j * k) vs) = cut k i news := by
  have hjn := mul_lt_le (k := k) hj
  refine List.ext_getElem? fun m => ?_
  unfold cut
  rcases Nat.lt_or_ge m k with hm | hm
  · rw [List.getElem?_take, if_pos hm, List.getElem?_take, if_pos hm, List.getElem?_drop, List.getElem?_drop]
    unfold ovw
    rcases Nat.lt_or_gt_of_ne hij with h | h
    · have := mul_lt_le (k := k) h
      rw [List.append_assoc, List.getElem?_append_left (by simp; omega), List.getElem?_take, if_pos (by omega)]
    · have := mul_lt_le (k := k) h
      rw [List.getElem?_append_right (by simp; omega), List.getElem?_drop]
      congr 1
      simp only [List.length_append, List.length_take]; omega
  · rw [List.getElem?_take, if_neg (by omega), List.getElem?_take, if_neg (by omega)]
section
variable {P : Program} {n : Nat} {l : Fr} {w w' w0 : World} {Q : Exit → Act → World → Prop} {ops rest : List Oper} {ty : TypeId} {pos : String} {aft : Array Edge} {gd : Option (Nat × Bool)} {v : Value}
variable {x y : Operand} {t T : TypeId} {base k : Nat} {bl : Bxs}
theorem ownsRow_open {m : Nat} {xs : List Value} (h : w.ownsRow base T k v m xs) : ∃ A c, v = .slice A m c ∧ (0 < m → ∃ g, A = some ⟨g, 0, none⟩) := by
  rcases h.2 with ⟨rfl, rfl⟩ | ⟨g, cap, cur, rfl, _⟩
  · exact ⟨none, 0, rfl, fun h => absurd h (Nat.lt_irrefl _)⟩
  · exact ⟨_, _, rfl, fun _ => ⟨g, rfl⟩⟩
theorem ownsRow_at {g m c : Nat} {xs : List Value} (h : w.ownsRow base T k (.slice (some ⟨g, 0, none⟩) m c) m xs) : At w ⟨g, 0, none⟩ xs := fun j u hu => h.cells (g := g) rfl j u hu
theorem At.cut_ {p : Addr} {news : List Value} (h : At w p news) (k i : Nat) : At w (p.add (i * k)) (cut k i news) := fun j v hv => by
  unfold cut at hv
  rw [List.getElem?_take] at hv
  split at hv
  · rw [List.getElem?_drop] at hv
    rw [add_add]; exact h _ v hv
  · cases hv
/-- What was there. -/
def Old (w : World) : FP := fun _ B => B < w.heap.size
theorem Stays.back {w4 : World} (h : Below w.heap.size w w4) : Stays (Old w) w4 w := fun t b hb _ => (h.block b hb).symm
theorem RdS.old {α : Type} {R : Rd α} {F : FP} {bytes : Nat} {xs : List α} (h : RdS F w T k bytes R v xs) (hk : 0 < k) (hR : ∀ cs x, R F w cs x → R (Old w) w cs x) : RdS (Old w) w T k bytes R v xs := by
  obtain ⟨A, c, h1, h2, h3, h4⟩ := h
  refine ⟨A, c, h1, h2, h3, fun i x hx => ?_⟩
  obtain ⟨p, cs, a1, a2, a3, a4, a5⟩ := h4 i x hx
  have := World.block_lt_of_cell? w _ (a4 0 (cs[0]'(by omega)) (List.getElem?_eq_getElem (by omega)))
  rw [add_block, add_block] at this
  exact ⟨p, cs, a1, this, a3, a4, hR _ _ a5⟩
theorem RNode.old {F : FP} {cs : List Value} {x : NodeD} (h : RNode F w cs x) : RNode (Old w) w cs x := by
  obtain ⟨vl, vt, e, h1, h2⟩ := h; exact ⟨vl, vt, e, h1.old (by decide) (fun _ _ h => h), h2.old (by decide) (fun _ _ h => h)⟩
theorem RTask.old {F : FP} {cs : List Value} {x : TaskD} (h : RTask F w cs x) : RTask (Old w) w cs x := by
  obtain ⟨vl, vt, e, h1, h2⟩ := h; exact ⟨vl, vt, e, h1.old (by decide) (fun _ _ h => h), h2.old (by decide) (fun _ _ h => h)⟩
theorem ROrder.old {F : FP} {cs : List Value} {x : OrderD} (h : ROrder F w cs x) : ROrder (Old w) w cs x := by
  obtain ⟨a, b, e, h1, h2⟩ := h; exact ⟨a, b, e, h1.old, h2.old⟩
theorem RBook.old {F : FP} {cs : List Value} {x : BookD} (h : RBook F w cs x) : RBook (Old w) w cs x := by
  obtain ⟨a, b, c, e, h1, h2, h3⟩ := h; exact ⟨a, b, c, e, h1.old (by decide) (fun _ _ h => h.old), h2.old (by decide) (fun _ _ h => h.old), h3.old (by decide) (fun _ _ h => h)⟩
/-- A store over one element of a row of one's own. -/
theorem WL.storeOwn {g m cap i : Nat} {news vs : List Value} (own : w.ownsRow base T k (.slice (some ⟨g, 0, none⟩) m cap) m news) (hi : i < m) (hx : l.ev x = some (.pointer (some ((⟨g, 0, none⟩ : Addr).add (i * k))))) (hy : l.ev y = some v)
    (hz : ∀ w, (sizeOf t).run P w = .ok k w) (hv : v.cells = vs.toArray) (hk : vs.length = k) (h1 : ∀ u ∈ vs, u.oneCell' = true) (hg : want ops l gd = some true)
    (kk : ∀ w', w'.ownsRow base T k (.slice (some ⟨g, 0, none⟩) m cap) m (ovw news (i * k) vs) → Only g w w' → HasT w T g → Below base w w' → WL P n ops Q rest l w') : WL P n ops Q (⟨none, .store t x y, ty, pos, aft, gd⟩ :: rest) l w := by
  have hl := own.1
  rcases own.2 with ⟨h, _⟩ | ⟨g', cap', cur, h, hbg, hgg, hnc, hcm, hcs, ht⟩
  · cases h
  · simp only [Value.slice.injEq, Option.some.injEq, Addr.mk.injEq, and_true, true_and] at h
    obtain ⟨rfl, rfl⟩ := h
    have hin := mul_lt_le (k := k) hi
    have hmc : m * k ≤ cap * k := Nat.mul_le_mul_right k hnc
    have hcl : cur.toList.length = cap * k := by simpa using hcs
    refine WL.skip (w' := w.setRow g (ovw cur.toList (i * k) vs).toArray) (fun a ha => ?_) hg rfl (kk _ ⟨by rw [ovw_len (by omega)]; exact hl, .inr ⟨g, cap, _, rfl, hbg, setRow_heap w g _ _ T _ hgg, hnc, hcm, ?_, ?_⟩⟩ (Only.setRow _ _ _) ⟨_, hgg⟩ ?_)
    · have hgg' : w.heap[g]? = some (.cells cur.toList.toArray T (0, 0)) := by simpa using hgg
      have := run_storeAt (P := P) (w := w) (t := t) (v := v) (off := i * k) hgg' hz hv hk (by omega) h1
      simp [execOp, ha.ev hx, ha.ev hy, this]
    · have := ovw_len (news := cur.toList) (vs := vs) (o := i * k) (by omega)
      simp only [List.size_toArray]; omega
    · rw [← ht]
      unfold ovw
      simp only [List.take_append, List.length_append, List.length_take, List.take_take, List.drop_take]
      rw [List.take_of_length_le (show vs.length ≤ m * k - min (i * k) cur.toList.length by omega)]
      have hmin : min (i * k) cur.toList.length = i * k := Nat.min_eq_left (by omega)
      have hle1 : i * k ≤ m * k := by omega
      simp only [hmin, Nat.min_eq_right hle1, Nat.min_eq_left hle1]
    · exact ⟨rfl, rfl, rfl, by simp [World.setRow], fun j hj => (Only.setRow w g _).block j (by omega)⟩
/-- The list of boxes goes along where a block of another kind turns. -/
theorem _root_.Go.Proofs.YtmnnbnajnfdncaaDoor.E.Bx.turn {w1 w2 : World} {g : Nat} (hb : Bx base w0 w1 bl) (hO : Only g w1 w2) (hT : HasT w1 T g) (hB : Below base w1 w2) (hne : (bl.all fun p => !(p.2.2 == T)) = true) : Bx base w0 w2 bl :=
  ⟨hb.below.trans hB, Nat.le_trans hb.le hB.size, fun p hp => ⟨(hb.cell p hp).1, (hO.block _ (fun e => by
    have h1 := List.all_eq_true.1 hne p hp
    have h2 : HasT w1 p.2.2 g := e ▸ ⟨_, (hb.cell p hp).2⟩
    rw [h2.uniq hT] at h1
    simp at h1)).trans (hb.cell p hp).2⟩, hb.nodup⟩
/-- The same, of whatever keeps the kinds of the list. -/
theorem _root_.Go.Proofs.YtmnnbnajnfdncaaDoor.E.Bx.keeps {w1 w2 : World} {S : Nat → Prop} (hb : Bx base w0 w1 bl) (hK : Keeps S w1 w2) (hB : Below base w1 w2) (hne : ∀ p ∈ bl, S p.2.2) : Bx base w0 w2 bl :=
  ⟨hb.below.trans hB, Nat.le_trans hb.le hB.size, fun p hp => ⟨(hb.cell p hp).1, (hK.block p.2.2 p.1 (hne p hp) ⟨_, (hb.cell p hp).2⟩).trans (hb.cell p hp).2⟩, hb.nodup⟩
end
end Go.Proofs.YtmnnbnajnfdncaaDoor
