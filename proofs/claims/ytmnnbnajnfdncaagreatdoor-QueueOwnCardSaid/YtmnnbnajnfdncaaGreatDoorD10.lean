/- What is one's own, spoilt: it still reads as something. -/
import Derived.Test.YtmnnbnajnfdncaaGreatDoorD9
set_option linter.unusedVariables false
set_option linter.unusedSimpArgs false
namespace Go.Proofs.YtmnnbnajnfdncaaGreatDoor
open Go.RowKit E
theorem ovw_one {news : List Value} {o : Nat} {v : Value} (h : o < news.length) : ovw news o [v] = news.set o v := by
  unfold ovw
  rw [List.set_eq_take_append_cons_drop, if_pos h]
  simp
theorem cut_set_same {news : List Value} {k i j n : Nat} {v : Value} (hl : news.length = n * k) (hi : i < n) (hj : j < k) : cut k i (news.set (i * k + j) v) = (cut k i news).set j v := by
  have := mul_lt_le (k := k) hi
  refine List.ext_getElem? fun m => ?_
  unfold cut
  rw [List.getElem?_take, List.getElem?_set]
  rcases Nat.lt_or_ge m k with hm | hm
  · rw [if_pos hm, List.getElem?_drop, List.getElem?_set]
    by_cases h : j = m
    · subst h
      rw [if_pos rfl, if_pos rfl, if_pos (by omega), if_pos (by rw [List.length_take, List.length_drop]; omega)]
    · rw [if_neg h, if_neg (by omega), List.getElem?_take, if_pos hm, List.getElem?_drop]
  · rw [if_neg (by omega), if_neg (by omega), List.getElem?_take, if_neg (by omega)]
theorem cut_set_other {news : List Value} {k i i' j : Nat} {v : Value} (hj : j < k) (hne : i' ≠ i) : cut k i' (news.set (i * k + j) v) = cut k i' news := by
  refine List.ext_getElem? fun m => ?_
  unfold cut
  rw [List.getElem?_take, List.getElem?_take]
  rcases Nat.lt_or_ge m k with hm | hm
  · rw [if_pos hm, if_pos hm, List.getElem?_drop, List.getElem?_drop, List.getElem?_set, if_neg ?_]
    intro e
    rcases Nat.lt_or_gt_of_ne hne with h | h
    · have := mul_lt_le (k := k) h; omega
    · have := mul_lt_le (k := k) h; omega
  · rw [if_neg (by omega), if_neg (by omega)]
theorem Rows.set {α : Type} {R : Rd α} {F : FP} {w : World} {k : Nat} {news : List Value} {xs : List α} {i j : Nat} {v : Value} {x : α} (h : Rows R F w k news xs) (hi : i < xs.length) (hj : j < k) (hx : R F w ((cut k i news).set j v) x) : Rows R F w k (news.set (i * k + j) v) (xs.set i x) := by
  refine ⟨by rw [List.length_set, List.length_set]; exact h.len, fun m y hy => ?_⟩
  rw [List.getElem?_set] at hy
  by_cases e : i = m
  · subst e
    rw [if_pos rfl, if_pos hi] at hy
    injection hy with hy; subst hy
    rw [cut_set_same h.len hi hj]; exact hx
  · rw [if_neg e] at hy
    rw [cut_set_other hj (fun h' => e h'.symm)]; exact h.each m y hy
section
variable {P : Program} {n : Nat} {l : Fr} {w w' w0 : World} {Q : Exit → Act → World → Prop} {ops rest : List Oper} {ty : TypeId} {pos : String} {aft : Array Edge} {gd : Option (Nat × Bool)} {v : Value} {x y : Operand} {t T : TypeId} {base k : Nat}
/-- A store of one cell into a row of one's own. -/
theorem WL.storeCell {g m cap o : Nat} {news : List Value} (own : w.ownsRow base T k (.slice (some ⟨g, 0, none⟩) m cap) m news) (ho : o < m * k) (hx : l.ev x = some (.pointer (some ⟨g, o, none⟩))) (hy : l.ev y = some v)
    (hz : ∀ w, (sizeOf t).run P w = .ok 1 w) (hv : v.cells = [v].toArray) (h1 : v.oneCell' = true) (hg : want ops l gd = some true)
    (kk : ∀ w', w'.ownsRow base T k (.slice (some ⟨g, 0, none⟩) m cap) m (news.set o v) → Only g w w' → HasT w T g → Below base w w' → WL P n ops Q rest l w') : WL P n ops Q (⟨none, .store t x y, ty, pos, aft, gd⟩ :: rest) l w := by
  have hl := own.1
  rcases own.2 with ⟨h, _⟩ | ⟨g', cap', cur, h, hbg, hgg, hnc, hcm, hcs, ht⟩
  · cases h
  · simp only [Value.slice.injEq, Option.some.injEq, Addr.mk.injEq, and_true, true_and] at h
    obtain ⟨rfl, rfl⟩ := h
    have hmc : m * k ≤ cap * k := Nat.mul_le_mul_right k hnc
    have hcl : cur.toList.length = cap * k := by simpa using hcs
    refine WL.skip (w' := w.setRow g (ovw cur.toList o [v]).toArray) (fun a ha => ?_) hg rfl (kk _ ⟨by rw [List.length_set]; exact hl, .inr ⟨g, cap, _, rfl, hbg, setRow_heap w g _ _ T _ hgg, hnc, hcm, ?_, ?_⟩⟩ (Only.setRow _ _ _) ⟨_, hgg⟩ ?_)
    · have hgg' : w.heap[g]? = some (.cells cur.toList.toArray T (0, 0)) := by simpa using hgg
      have := run_storeAt (P := P) (w := w) (t := t) (v := v) (off := o) hgg' hz hv (by rfl) (by simp only [List.length_cons, List.length_nil]; omega) (by simpa using h1)
      rw [add_eq] at this
      simp [execOp, ha.ev hx, ha.ev hy, this]
    · have := ovw_len (news := cur.toList) (vs := [v]) (o := o) (by simp only [List.length_cons, List.length_nil]; omega)
      simp only [List.size_toArray]; omega
    · rw [ovw_one (by omega), ← ht, List.take_set]
    · exact ⟨rfl, rfl, rfl, by simp [World.setRow], fun j hj => (Only.setRow w g _).block j (by omega)⟩
/-- Some cell of some pair has become a text. -/
structure Spoilt (base : Nat) (w w' : World) : Prop where
  below : Below base w w'
  keeps : Keeps (fun U => U ≠ 45) w w'
  types : ∀ T B, HasT w T B → HasT w' T B
  cell : ∀ a u, w.cell? a = some u → w'.cell? a = some u ∨ ∃ s, w'.cell? a = some (.string s)
theorem WL.storePair {p : Addr} {m c j : Nat} {ps : List PairD} {s : ByteArray} (h : RPairs (Own base w) w (.slice (some p) m c) ps) (hj : j < m) (hx : l.ev x = some (.pointer (some (p.add (j * 2))))) (hy : l.ev y = some (.string s))
    (hz : ∀ w, (sizeOf t).run P w = .ok 1 w) (hg : want ops l gd = some true) (kk : ∀ w', Spoilt base w w' → WL P n ops Q rest l w') : WL P n ops Q (⟨none, .store t x y, ty, pos, aft, gd⟩ :: rest) l w := by
  obtain ⟨A, c', e, _, _, hgd⟩ := h
  injection e with e1 e2 e3
  subst e1
  obtain ⟨q, cs, hq, hF, hl, hat, _⟩ := hgd j _ (List.getElem?_eq_getElem (by omega))
  injection hq with hq; subst hq
  obtain ⟨hb, cur, hc⟩ := hF
  have hcell := hat 0 (cs[0]'(by omega)) (List.getElem?_eq_getElem (by omega))
  rw [add_add, Nat.add_zero] at hcell
  obtain ⟨B, o0, sp⟩ := p
  simp only at hc hb
  have ea : (⟨B, o0, sp⟩ : Addr).add (j * 2) = (⟨B, 0, none⟩ : Addr).add (o0 + j * 2) := by
    rw [add_eq]
    unfold Addr.add at hcell ⊢
    by_cases h0 : j * 2 = 0
    · rw [if_pos h0] at hcell ⊢
      cases sp with
      | none => rw [h0]; rfl
      | some z => simp [World.cell?, hc] at hcell
    · rw [if_neg h0]
  rw [ea] at hx hcell
  rw [add_eq] at hcell
  have hlt : o0 + j * 2 < cur.size := by
    simp only [World.cell?, hc] at hcell
    exact (Array.getElem?_eq_some_iff.1 hcell).1
  have hc' : w.heap[B]? = some (.cells cur.toList.toArray 45 (0, 0)) := by simpa using hc
  have hst := run_storeAt (P := P) (w := w) (t := t) (v := .string s) (off := o0 + j * 2) (vs := [.string s]) hc' hz (by rfl) (by rfl) (by simp only [List.length_cons, List.length_nil, Array.length_toList]; omega) (by intro u hu; simp at hu; subst hu; rfl)
  have hw' : (w.setRow B (ovw cur.toList (o0 + j * 2) [.string s]).toArray).heap[B]? = some (.cells (ovw cur.toList (o0 + j * 2) [.string s]).toArray 45 (0, 0)) := setRow_heap w B _ _ 45 _ hc
  have hO := Only.setRow w B (ovw cur.toList (o0 + j * 2) [Value.string s]).toArray
  refine WL.skip (w' := w.setRow B (ovw cur.toList (o0 + j * 2) [.string s]).toArray) (fun a ha => by simp [execOp, ha.ev hx, ha.ev hy, hst]) hg rfl (kk _ ⟨⟨rfl, rfl, rfl, by simp [World.setRow], fun i hi => hO.block i (by omega)⟩, Keeps.only hO ⟨_, hc⟩ (by decide), fun T B' hT => ?_, fun a u hu => ?_⟩)
  · by_cases e : B' = B
    · subst e
      rw [hT.uniq ⟨_, hc⟩]; exact ⟨_, hw'⟩
    · obtain ⟨cs', h'⟩ := hT
      exact ⟨cs', (hO.block B' e).trans h'⟩
  · by_cases e : a.block = B
    · have hu2 := hu
      simp only [World.cell?, e, hc] at hu
      simp only [World.cell?, e, hw']
      cases hsp : a.spot with
      | some z => rw [hsp] at hu; simp at hu
      | none =>
        rw [hsp] at hu
        simp only [Option.isSome_none, Bool.false_eq_true, if_false] at hu ⊢
        rw [ovw_one (by simpa using hlt)]
        simp only [List.getElem?_toArray, List.getElem?_set, Array.length_toList]
        by_cases e2 : o0 + j * 2 = a.off
        · rw [if_pos e2, if_pos hlt]; exact .inr ⟨s, rfl⟩
        · rw [if_neg e2]; left; simpa using hu
    · left
      rw [World.cell?_of_block (hO.block a.block e)]; exact hu
theorem exists_list {α : Type} (P : Nat → α → Prop) : ∀ n, (∀ i, i < n → ∃ x, P i x) → ∃ l : List α, l.length = n ∧ ∀ i x, l[i]? = some x → P i x
  | 0, _ => ⟨[], rfl, fun i x h => by simp at h⟩
  | n + 1, h => by
    obtain ⟨l, hl, hp⟩ := exists_list P n (fun i hi => h i (by omega))
    obtain ⟨x, hx⟩ := h n (by omega)
    refine ⟨l ++ [x], by simp [hl], fun i y hy => ?_⟩
    rcases Nat.lt_or_ge i n with hi | hi
    · rw [List.getElem?_append_left (by omega)] at hy; exact hp i y hy
    · rw [List.getElem?_append_right (by omega)] at hy
      have hlt := (List.getElem?_eq_some_iff.1 hy).1
      have : i = n := by simp at hlt; omega
      subst this
      rw [hl, Nat.sub_self] at hy
      simp at hy; subst hy; exact hx
theorem RPairs.spoilt {ps : List PairD} (h : RPairs (Own base w) w v ps) (hs : Spoilt base w w') : ∃ ps', ps'.length = ps.length ∧ RPairs (Own base w') w' v ps' := by
  obtain ⟨A, c, rfl, hc, hby, hgd⟩ := h
  obtain ⟨l, hl, hp⟩ := exists_list (fun i (x : PairD) => ∃ p cs, A = some p ∧ Own base w' 45 p.block ∧ cs.length = 2 ∧ At w' (p.add (i * 2)) cs ∧ RPair (Own base w') w' cs x) ps.length (fun i hi => by
    obtain ⟨p, cs, hA, hF, hlen, hat, hr⟩ := hgd i _ (List.getElem?_eq_getElem hi)
    unfold RPair at hr
    subst hr
    have a0 := hs.cell _ _ (hat 0 _ rfl)
    have a1 := hs.cell _ _ (hat 1 _ rfl)
    have b0 : ∃ s, w'.cell? ((p.add (i * 2)).add 0) = some (.string s) := by
      rcases a0 with h | h
      · exact ⟨_, h⟩
      · exact h
    have b1 : ∃ s, w'.cell? ((p.add (i * 2)).add 1) = some (.string s) := by
      rcases a1 with h | h
      · exact ⟨_, h⟩
      · exact h
    obtain ⟨s0, h0⟩ := b0
    obtain ⟨s1, h1⟩ := b1
    refine ⟨⟨s0, s1⟩, p, [.string s0, .string s1], hA, ⟨hF.1, hs.types _ _ hF.2⟩, rfl, fun j u hu => ?_, rfl⟩
    match j, hu with
    | 0, hu => simp at hu; subst hu; exact h0
    | 1, hu => simp at hu; subst hu; exact h1
    | j + 2, hu => simp at hu)
  exact ⟨l, hl, A, c, by rw [hl], by rw [hl]; exact hc, by rw [hl]; exact hby, fun i x hx => hp i x hx⟩
theorem RNode.spoilt {cs : List Value} {x : NodeD} (h : RNode (Own base w) w cs x) (hs : Spoilt base w w') : ∃ x', RNode (Own base w') w' cs x' := by
  obtain ⟨vl, vt, rfl, h1, h2⟩ := h
  obtain ⟨l1, _, p1⟩ := RPairs.spoilt h1 hs
  obtain ⟨l2, _, p2⟩ := RPairs.spoilt h2 hs
  exact ⟨⟨x.name, x.h0, x.h1, x.h2, l1, l2⟩, _, _, rfl, p1, p2⟩
theorem RTask.spoilt {cs : List Value} {x : TaskD} (h : RTask (Own base w) w cs x) (hs : Spoilt base w w') : ∃ x', RTask (Own base w') w' cs x' := by
  obtain ⟨vl, vt, rfl, h1, h2⟩ := h
  obtain ⟨l1, _, p1⟩ := RPairs.spoilt h1 hs
  obtain ⟨l2, _, p2⟩ := RPairs.spoilt h2 hs
  exact ⟨⟨x.name, x.n0, x.n1, x.n2, l1, l2, x.group, x.apart, x.rank⟩, _, _, rfl, p1, p2⟩
theorem Rows.spoilt {α : Type} {R : Rd α} {news : List Value} {xs : List α} (h : Rows R (Own base w) w k news xs) (hR : ∀ cs x, R (Own base w) w cs x → ∃ x', R (Own base w') w' cs x') : ∃ xs', xs'.length = xs.length ∧ Rows R (Own base w') w' k news xs' := by
  obtain ⟨l, hl, hp⟩ := exists_list (fun i (x : α) => R (Own base w') w' (cut k i news) x) xs.length (fun i hi => hR _ _ (h.each i _ (List.getElem?_eq_getElem hi)))
  exact ⟨l, hl, by rw [hl]; exact h.len, hp⟩
theorem ONodes.rename {xs : List NodeD} {news : List Value} {g i : Nat} {s : ByteArray} (h : ONodes base w v xs news) (hi : i < xs.length) (hO : Only g w w') (hT : HasT w 32 g) (own : w'.ownsRow base 32 6 v xs.length (news.set (i * 6 + 0) (.string s))) : ∃ xs', xs'.length = xs.length ∧ ONodes base w' v xs' (news.set (i * 6 + 0) (.string s)) := by
  have hK : Keeps (fun U => U = 45) w w' := Keeps.only hO hT (by decide)
  obtain ⟨vl, vt, e, p1, p2⟩ := h.rows.each i _ (List.getElem?_eq_getElem hi)
  have hr := (h.rows.to (R' := RNode) (G := Own base w') (w' := w') fun cs x hx => RNode.keeps hx hK rfl).set (v := .string s) (j := 0) (x := { xs[i] with name := s }) hi (by decide) (by rw [e]; exact ⟨vl, vt, rfl, RPairs.keeps p1 hK rfl, RPairs.keeps p2 hK rfl⟩)
  exact ⟨_, List.length_set .., by rw [List.length_set]; exact own, hr⟩
theorem OTasks.rerank {xs : List TaskD} {news : List Value} {g i : Nat} {r : Int} (h : OTasks base w v xs news) (hi : i < xs.length) (hO : Only g w w') (hT : HasT w 34 g) (own : w'.ownsRow base 34 9 v xs.length (news.set (i * 9 + 8) (.int .i64 r))) : ∃ xs', xs'.length = xs.length ∧ OTasks base w' v xs' (news.set (i * 9 + 8) (.int .i64 r)) := by
  have hK : Keeps (fun U => U = 45) w w' := Keeps.only hO hT (by decide)
  obtain ⟨vl, vt, e, p1, p2⟩ := h.rows.each i _ (List.getElem?_eq_getElem hi)
  have hr := (h.rows.to (R' := RTask) (G := Own base w') (w' := w') fun cs x hx => RTask.keeps hx hK rfl).set (v := .int .i64 r) (j := 8) (x := { xs[i] with rank := r }) hi (by decide) (by rw [e]; exact ⟨vl, vt, rfl, RPairs.keeps p1 hK rfl, RPairs.keeps p2 hK rfl⟩)
  exact ⟨_, List.length_set .., by rw [List.length_set]; exact own, hr⟩
theorem OBinds.renode {xs : List BindD} {news : List Value} {i : Nat} {s : ByteArray} (h : OBinds base w v xs news) (hi : i < xs.length) (own : w'.ownsRow base 47 2 v xs.length (news.set (i * 2 + 1) (.string s))) : ∃ xs', xs'.length = xs.length ∧ OBinds base w' v xs' (news.set (i * 2 + 1) (.string s)) := by
  have e : cut 2 i news = [.string xs[i].task, .string xs[i].node] := h.rows.each i _ (List.getElem?_eq_getElem hi)
  have hr := (h.rows.to (R' := RBind) (G := Own base w') (w' := w') fun cs x hx => hx).set (v := .string s) (j := 1) (x := { xs[i] with node := s }) hi (by decide) (by rw [e]; rfl)
  exact ⟨_, List.length_set .., by rw [List.length_set]; exact own, hr⟩
theorem ONodes.labels {xs : List NodeD} {news : List Value} {i m c : Nat} {A : Option Addr} {a0 a1 a2 a3 vt : Value} (h : ONodes base w v xs news) (hi : i < xs.length) (e : cut 6 i news = [a0, a1, a2, a3, .slice A m c, vt]) : ∃ ps, ps.length = m ∧ RPairs (Own base w) w (.slice A m c) ps := by
  obtain ⟨vl, vt', e', p1, p2⟩ := h.rows.each i _ (List.getElem?_eq_getElem hi)
  rw [e] at e'
  simp only [List.cons.injEq] at e'
  obtain ⟨_, _, _, _, rfl, _⟩ := e'
  obtain ⟨A', c', e2, _⟩ := id p1
  injection e2 with _ h2 _
  exact ⟨_, h2.symm, p1⟩
theorem OBook.rd2 {cs : List Value} {b : BookD} (h : OBook base w cs b) (h1 : b.nodes.length * 88 ≤ 140737488351232) (h2 : b.tasks.length * 128 ≤ 140737488351232) (h3 : b.binds.length * 32 ≤ 140737488351232) : RBook (Own base w) w cs b := by
  obtain ⟨vn, vt, vb, nn, nt, nb, rfl, o1, o2, o3⟩ := h.out
  exact ⟨vn, vt, vb, rfl, o1.rd h1, o2.rd h2, o3.rd h3⟩
theorem ownsRow_max {m : Nat} {xs : List Value} (h : w.ownsRow base T k v m xs) : m ≤ 9223372036854775807 := by
  rcases h.2 with ⟨rfl, rfl⟩ | ⟨g, cap, cur, rfl, _, _, hn, hm, _⟩
  · exact Nat.zero_le _
  · simp only [maxLen] at hm; omega
theorem add_zero' (p : Addr) : p.add 0 = p := by unfold Addr.add; rw [if_pos rfl]
theorem ONodes.spoilt {xs : List NodeD} {news : List Value} (h : ONodes base w v xs news) (hs : Spoilt base w w') : ∃ xs', xs'.length = xs.length ∧ ONodes base w' v xs' news := by
  obtain ⟨l, hl, hr⟩ := h.rows.spoilt (fun cs x hx => RNode.spoilt hx hs)
  exact ⟨l, hl, by rw [hl]; exact ownsRow_keeps h.row hs.keeps (by decide), hr⟩
theorem OTasks.spoilt {xs : List TaskD} {news : List Value} (h : OTasks base w v xs news) (hs : Spoilt base w w') : ∃ xs', xs'.length = xs.length ∧ OTasks base w' v xs' news := by
  obtain ⟨l, hl, hr⟩ := h.rows.spoilt (fun cs x hx => RTask.spoilt hx hs)
  exact ⟨l, hl, by rw [hl]; exact ownsRow_keeps h.row hs.keeps (by decide), hr⟩
end
end Go.Proofs.YtmnnbnajnfdncaaGreatDoor
