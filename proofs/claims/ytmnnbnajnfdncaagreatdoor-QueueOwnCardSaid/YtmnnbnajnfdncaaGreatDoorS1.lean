/- The sort of tasks that wait: the order is a strict weak one; what a row of one's own holds behind the sort. -/
import Derived.Test.YtmnnbnajnfdncaaGreatDoorL1
import Derived.Test.YtmnnbnajnfdncaaGreatDoorQueue2
import Derived.Test.YtmnnbnajnfdncaaGreatDoorD10
import Derived.Sort.Walk0
set_option linter.unusedVariables false
set_option linter.unusedSimpArgs false
namespace Go.Proofs.YtmnnbnajnfdncaaGreatDoor
open Go.RowKit E
/-! ### The order -/
theorem ltB_iff (a b : ByteArray) : ltB a b = true ↔ a.toList < b.toList := by
  unfold ltB
  rw [Go.Proofs.bytesLess_eq]
  simp
theorem ltB_ntrans {a b c : ByteArray} (h : ltB a b = false) (k : ltB b c = false) : ltB a c = false := by
  have h' : ¬ a.toList < b.toList := fun x => by rw [(ltB_iff _ _).2 x] at h; cases h
  have k' : ¬ b.toList < c.toList := fun x => by rw [(ltB_iff _ _).2 x] at k; cases k
  cases e : ltB a c with
  | false => rfl
  | true =>
    have e' := (ltB_iff _ _).1 e
    rw [List.not_lt] at h' k'
    exact absurd e' (List.not_lt.2 (List.le_trans k' h'))
def ltT (a b : TaskD) : Bool := decide (b.rank < a.rank) || (decide (a.rank = b.rank) && ltB a.name b.name)
theorem ahead_lt (a b : TaskD) : decide (aheadP a b < 0) = ltT a b := by
  unfold aheadP ltT cmpI
  by_cases h1 : b.rank < a.rank
  · simp [h1, orI]
  · by_cases h2 : a.rank < b.rank
    · have h3 : ¬ a.rank = b.rank := by omega
      simp [h1, h2, h3, orI]
    · have h3 : a.rank = b.rank := by omega
      have e : (if b.rank < a.rank then (-1 : Int) else if a.rank < b.rank then 1 else 0) = 0 := by rw [if_neg h1, if_neg h2]
      rw [e]
      have h4 : ¬ b.rank < b.rank := by omega
      by_cases h5 : ltB a.name b.name = true
      · simp [orI, cmpB, h3, h5]
      · have h5' : ltB a.name b.name = false := by simpa using h5
        by_cases h6 : a.name = b.name
        · rw [h6] at h5'
          simp [orI, cmpB, h3, h5', h6]
        · simp [orI, cmpB, h3, h5', h6]
theorem ltT_irrefl (a : TaskD) : ltT a a = false := by unfold ltT; rw [ltB_irrefl]; simp
theorem ltT_trans {a b c : TaskD} (h : ltT a b = true) (k : ltT b c = true) : ltT a c = true := by
  unfold ltT at *
  simp only [Bool.or_eq_true, Bool.and_eq_true, decide_eq_true_eq] at *
  rcases h with h | ⟨h1, h2⟩
  · rcases k with k | ⟨k1, k2⟩
    · exact .inl (by omega)
    · exact .inl (by omega)
  · rcases k with k | ⟨k1, k2⟩
    · exact .inl (by omega)
    · exact .inr ⟨by omega, ltB_trans h2 k2⟩
theorem ltT_ntrans {a b c : TaskD} (h : ltT a b = false) (k : ltT b c = false) : ltT a c = false := by
  unfold ltT at *
  simp only [Bool.or_eq_false_iff, Bool.and_eq_false_iff, decide_eq_false_iff_not] at *
  obtain ⟨h1, h2⟩ := h
  obtain ⟨k1, k2⟩ := k
  refine ⟨by omega, ?_⟩
  rcases h2 with h2 | h2
  · exact .inl (by omega)
  · rcases k2 with k2 | k2
    · exact .inl (by omega)
    · exact .inr (ltB_ntrans h2 k2)
/-! ### Tasks with their two slices, as the sort moves them -/
structure Tk where
  t : TaskD
  vw : Value
  vb : Value
  hw : vw.oneCell' = true
  hb : vb.oneCell' = true
instance : Inhabited Tk := ⟨⟨⟨⟨#[]⟩, 0, 0, 0, [], [], ⟨#[]⟩, ⟨#[]⟩, 0⟩, .bool false, .bool false, rfl, rfl⟩⟩
def Tk.enc (x : Tk) : List Value := [.string x.t.name, .int .i64 x.t.n0, .int .i64 x.t.n1, .int .i64 x.t.n2, x.vw, x.vb, .string x.t.group, .string x.t.apart, .int .i64 x.t.rank]
def Tk.cmp (x y : Tk) : Int := aheadP x.t y.t
theorem Tk.one (x : Tk) : ∀ v ∈ x.enc, v.oneCell' = true := by
  intro v hv
  simp only [Tk.enc, List.mem_cons, List.not_mem_nil, or_false] at hv
  rcases hv with rfl | rfl | rfl | rfl | rfl | rfl | rfl | rfl | rfl <;> first | rfl | exact x.hw | exact x.hb
theorem Tk.swo : Go.Sort.SWO (ltOf Tk.cmp) where
  irrefl x := by show decide (aheadP x.t x.t < 0) = false; rw [ahead_lt, ltT_irrefl]
  trans x y z h k := by
    have h' : decide (aheadP x.t y.t < 0) = true := h
    have k' : decide (aheadP y.t z.t < 0) = true := k
    show decide (aheadP x.t z.t < 0) = true
    rw [ahead_lt] at *
    exact ltT_trans h' k'
  ntrans x y z h k := by
    have h' : decide (aheadP x.t y.t < 0) = false := h
    have k' : decide (aheadP y.t z.t < 0) = false := k
    show decide (aheadP x.t z.t < 0) = false
    rw [ahead_lt] at *
    exact ltT_ntrans h' k'
theorem Tk.lays (blk off size : Nat) (w : World) : CmpLays Tryz.prog 29 #[] Tk.enc 9 Tk.cmp blk off size w := fun m os dk _ x y =>
  (ahead_calls _ x.t y.t x.vw x.vb y.vw y.vb).mono fun e w' ⟨v, he, hv, hX⟩ => by
    subst he; subst hv
    exact ⟨rfl, hX.form⟩
/-- What a sorted row is. -/
def SortedT (l : List TaskD) : Prop := ∀ i j (hi : i < l.length) (hj : j < l.length), i < j → ltT l[j] l[i] = false
section
variable {w w' : World} {base : Nat} {v : Value} {xs : List TaskD} {news : List Value}
theorem rows_tk {F : FP} (h : Rows RTask F w 9 news xs) : ∃ d : List Tk, d.map Tk.t = xs ∧ ∀ i x, d[i]? = some x → cut 9 i news = x.enc ∧ RTask F w x.enc x.t := by
  obtain ⟨d, hl, hp⟩ := exists_list (fun i (x : Tk) => xs[i]? = some x.t ∧ cut 9 i news = x.enc ∧ RTask F w x.enc x.t) xs.length (fun i hi => by
    have hx := List.getElem?_eq_getElem hi
    have hr := h.each i _ hx
    obtain ⟨vw, vb, e, p1, p2⟩ := id hr
    rw [e] at hr
    exact ⟨⟨xs[i], vw, vb, p1.one, p2.one⟩, hx, e, hr⟩)
  refine ⟨d, List.ext_getElem? fun i => ?_, fun i x hx => (hp i x hx).2⟩
  rw [List.getElem?_map]
  rcases Nat.lt_or_ge i d.length with hi | hi
  · rw [List.getElem?_eq_getElem hi]
    exact ((hp i _ (List.getElem?_eq_getElem hi)).1).symm
  · rw [List.getElem?_eq_none hi, List.getElem?_eq_none (by omega)]; rfl
theorem get_bang {α : Type} [Inhabited α] {d : List α} {i : Nat} (hi : i < d.length) : d.toArray[i]! = d[i] := by
  rw [getElem!_pos d.toArray i (by simpa using hi)]; simp
theorem flat_get (d : Array Tk) {t : Nat} (h : t < d.size * 9) : (Go.Sort.flatK Tk.enc 9 d).toList[t]? = ((d[t / 9]!).enc)[t % 9]? := by
  have h9 : t % 9 < (d[t / 9]!).enc.length := Nat.mod_lt _ (by decide)
  rw [Array.getElem?_toList, Array.getElem?_eq_getElem (by simpa using h), List.getElem?_eq_getElem h9]
  have := Go.Sort.get_flatK Tk.enc 9 d t h
  rw [getElem!_pos (Go.Sort.flatK Tk.enc 9 d) t (by simpa using h), getElem!_pos ((d[t / 9]!).enc) (t % 9) h9] at this
  exact congrArg some this
theorem flat_cut (d : Array Tk) {i : Nat} (h : i < d.size) : cut 9 i (Go.Sort.flatK Tk.enc 9 d).toList = (d[i]!).enc := by
  refine List.ext_getElem? fun j => ?_
  unfold cut
  rcases Nat.lt_or_ge j 9 with hj | hj
  · rw [List.getElem?_take, if_pos hj, List.getElem?_drop, flat_get d (by omega)]
    rw [show (i * 9 + j) / 9 = i by omega, show (i * 9 + j) % 9 = j by omega]
  · rw [List.getElem?_take, if_neg (by omega), List.getElem?_eq_none (by show 9 ≤ j; exact hj)]
theorem put_take (F cur : Array Value) (h : F.size ≤ cur.size) : (Go.Sort.putCells id 0 F cur).toList.take F.size = F.toList := by
  refine List.ext_getElem? fun i => ?_
  rw [List.getElem?_take]
  by_cases hi : i < F.size
  · rw [if_pos hi, Array.getElem?_toList, Array.getElem?_toList]
    unfold Go.Sort.putCells
    rw [Array.getElem?_mapIdx, Array.getElem?_eq_getElem (show i < cur.size by omega), Array.getElem?_eq_getElem hi]
    simp only [Option.map_some, Nat.zero_add, Nat.zero_le, true_and, hi, if_true, Nat.sub_zero, id]
    rw [getElem!_pos F i hi]
  · rw [if_neg hi, Array.getElem?_toList, Array.getElem?_eq_none (by omega)]
theorem sort_calls (o : OTasks base w v xs news) (hsz : xs.length ≤ 4611686018427387903) :
    Calls Tryz.prog 28 #[v, .func (.func 29) #[] #[]] w (Ret fun u w' => u = .tuple #[] ∧ (∃ ys news', OTasks base w' v ys news' ∧ ys.Perm xs ∧ SortedT ys) ∧ Below base w w' ∧ Keeps (fun U => U ≠ 34) w w') := by
  rcases o.row.2 with ⟨rfl, h0⟩ | ⟨g, cap, cur, rfl, hbg, hgg, hnc, hcm, hcs, htk⟩
  · have hxs : xs = [] := List.eq_nil_of_length_eq_zero h0
    subst hxs
    have hcon := AnyF.slices_SortFunc_none (P := Tryz.prog) (ρ := sortRen) { sortLays with } none 0 (.func (.func 29) #[] #[]) w
    refine Calls.mono hcon fun e w' ⟨he, hw⟩ => ?_
    subst hw
    exact ⟨_, he, rfl, ⟨[], news, o, List.Perm.refl _, fun i j hi => absurd hi (Nat.not_lt_zero _)⟩, Below.refl _ _, Keeps.refl _⟩
  · obtain ⟨d, hd, hp⟩ := rows_tk o.rows
    have hdl : d.length = xs.length := by rw [← hd, List.length_map]
    have hds : d.toArray.size = xs.length := by simpa using hdl
    have hlen := o.row.1
    have hmul : xs.length * 9 ≤ cap * 9 := Nat.mul_le_mul_right 9 hnc
    have hlt := (Array.getElem?_eq_some_iff.1 hgg).1
    have hH : Go.Sort.HoldsK Tk.enc 9 w g 0 d.toArray := by
      intro j hj
      rw [Go.Sort.size_flatK, hds] at hj
      have e1 : news[j]? = (Go.Sort.flatK Tk.enc 9 d.toArray).toList[j]? := by
        rw [flat_get _ (by rw [hds]; exact hj), get_bang (by omega)]
        have h1 := (hp (j / 9) _ (List.getElem?_eq_getElem (by omega))).1
        rw [← h1]
        unfold cut
        rw [List.getElem?_take, if_pos (by omega), List.getElem?_drop]
        congr 1; omega
      have e2 : (Go.Sort.flatK Tk.enc 9 d.toArray)[j]! = news[j] := by
        rw [List.getElem?_eq_getElem (by omega)] at e1
        rw [Array.getElem?_toList] at e1
        rw [getElem!_pos _ j (by rw [Go.Sort.size_flatK, hds]; exact hj)]
        rw [Array.getElem?_eq_getElem (by rw [Go.Sort.size_flatK, hds]; exact hj)] at e1
        exact (Option.some.inj e1).symm
      have e3 : cur[j]? = some news[j] := by
        have := List.getElem?_eq_getElem (show j < news.length by omega)
        rw [← this, ← htk, List.getElem?_take, if_pos hj]; simp
      refine ⟨?_, ?_⟩
      · rw [e2]; simp [World.cell?, hgg, e3]
      · simp [World.frozen?, hgg]
    have hcon := AnyQ.slices_SortFunc (P := Tryz.prog) (ρ := sortRen) { sortLays with } 9 Tryz.isAgg34 Tryz.sizeOf34 Tk.enc (fun _ => rfl) Tk.one Tk.cmp Tk.swo 29 #[] g 0 cap d.toArray w (fun args w => Tryz.call29 args w) (Tk.lays g 0 _ w) hH hlt (by rw [hds]; omega)
    rw [hds] at hcon
    refine Calls.mono hcon fun e w' ⟨he, d', m, os, hperm, hsort, hw⟩ => ?_
    have hs' : d'.size = xs.length := hperm.1.trans hds
    have hpm : d'.toList.Perm d := by
      have := hperm.2.2
      rw [← hds, ← hperm.1, Array.extract_size] at this
      rw [hperm.1] at this
      simpa using this
    have hFs : (Go.Sort.flatK Tk.enc 9 d').size = xs.length * 9 := by rw [Go.Sort.size_flatK, hs']
    have hheap : ∀ k, k < w.heap.size → w'.heap[k]? = (w.heap.modify g (Go.Sort.onCells (Go.Sort.putCells id 0 (Go.Sort.flatK Tk.enc 9 d'))))[k]? := by
      intro k hk
      rw [hw]
      show (_ ++ os)[k]? = _
      rw [Array.getElem?_append, if_pos (by simpa [Go.Sort.putRowK, Go.Sort.putRow, Go.Sort.mapBlock, Go.Sort.ahead] using hk)]
      rfl
    have hg' : w'.heap[g]? = some (.cells (Go.Sort.putCells id 0 (Go.Sort.flatK Tk.enc 9 d') cur) 34 (0, 0)) := by
      rw [hheap g hlt, Array.getElem?_modify, if_pos rfl, hgg]; rfl
    have ho : ∀ k, k < w.heap.size → k ≠ g → w'.heap[k]? = w.heap[k]? := fun k hk hne => by
      rw [hheap k hk, Array.getElem?_modify, if_neg (Ne.symm hne)]
    have hsize : w.heap.size ≤ w'.heap.size := by
      rw [hw]
      show _ ≤ (_ ++ os).size
      simp [Go.Sort.putRowK, Go.Sort.putRow, Go.Sort.mapBlock, Go.Sort.ahead]
    have hK : Keeps (fun U => U ≠ 34) w w' := ⟨hsize, fun U B hU hB => ho B hB.lt (fun e => hU (by subst e; exact hB.uniq ⟨_, hgg⟩))⟩
    have hB : Below base w w' := ⟨by rw [hw]; rfl, by rw [hw]; rfl, by rw [hw]; rfl, hsize, fun k hk => ho k (by omega) (by omega)⟩
    have hyl : (d'.toList.map Tk.t).length = xs.length := by rw [List.length_map, Array.length_toList]; exact hs'
    refine ⟨_, he, rfl, ⟨d'.toList.map Tk.t, (Go.Sort.flatK Tk.enc 9 d').toList, ⟨⟨by rw [Array.length_toList, hFs, hyl], .inr ⟨g, cap, _, by rw [hyl], hbg, hg', by rw [hyl]; exact hnc, hcm, by unfold Go.Sort.putCells; rw [Array.size_mapIdx]; exact hcs, ?_⟩⟩, ⟨by rw [Array.length_toList, hFs, hyl], fun i x hx => ?_⟩⟩, by rw [← hd]; exact hpm.map _, ?_⟩, hB, hK⟩
    · rw [hyl, ← hFs]
      exact put_take _ _ (by rw [hFs, hcs]; exact hmul)
    · rw [List.getElem?_map] at hx
      cases hy : d'.toList[i]? with
      | none => rw [hy] at hx; cases hx
      | some y =>
        rw [hy] at hx
        injection hx with hx; subst hx
        have hi : i < d'.size := by simpa using (List.getElem?_eq_some_iff.1 hy).1
        rw [flat_cut d' hi]
        have e : d'[i]! = y := by
          rw [getElem!_pos d' i hi]
          rw [Array.getElem?_toList, Array.getElem?_eq_getElem hi] at hy
          exact Option.some.inj hy
        rw [e]
        obtain ⟨j, hj⟩ := List.getElem?_of_mem (hpm.subset (List.mem_of_getElem? hy))
        exact RTask.keeps (hp j y hj).2 hK (by decide)
    · intro i j hi hj hij
      rw [List.length_map, Array.length_toList] at hi hj
      have := hsort i j (Nat.zero_le _) hij (by omega)
      rw [getElem!_pos d' i hi, getElem!_pos d' j hj] at this
      have h2 : decide (aheadP d'[j].t d'[i].t < 0) = false := this
      rw [ahead_lt] at h2
      simpa using h2
end
end Go.Proofs.YtmnnbnajnfdncaaGreatDoor
