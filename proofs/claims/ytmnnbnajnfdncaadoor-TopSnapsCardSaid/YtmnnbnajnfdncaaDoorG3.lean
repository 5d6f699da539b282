/- Rows of files of one's own: what is read and what is written. -/
import Derived.Test.YtmnnbnajnfdncaaDoorSnapi
import Derived.Test.YtmnnbnajnfdncaaDoorSnapc
import Derived.Test.YtmnnbnajnfdncaaDoorSnapd
set_option linter.unusedVariables false
set_option linter.unusedSimpArgs false
namespace Go.Proofs.YtmnnbnajnfdncaaDoor
open Go.RowKit E
theorem add2 (g a b : Nat) : ((⟨g, 0, none⟩ : Addr).add a).add b = ⟨g, a + b, none⟩ := by rw [add_add, add_eq]
theorem putAt_at {α : Type} {i : Nat} {x : α} {l : List α} (h : i ≤ l.length) : (putAt i x l)[i]? = some x := by
  unfold putAt
  rw [List.getElem?_append_right (by rw [List.length_take]; omega), List.length_take, Nat.min_eq_left h, Nat.sub_self]; rfl
theorem putAt_set {α : Type} {i : Nat} {x y : α} {l : List α} (h : i ≤ l.length) : (putAt i x l).set i y = putAt i y l := by
  unfold putAt
  rw [List.set_append, List.length_take, Nat.min_eq_left h, if_neg (by omega), Nat.sub_self]; rfl
theorem noB_app (s : ByteArray) : noB ++ s = s := by
  have : noB = ByteArray.empty := rfl
  rw [this, ByteArray.empty_append]
theorem ovw_take {l cs : List Value} {o M : Nat} (h : o + cs.length ≤ M) (h' : M ≤ l.length) : (ovw l o cs).take M = ovw (l.take M) o cs := by
  have e : (List.take o l ++ cs).length = o + cs.length := by rw [List.length_append, List.length_take]; omega
  unfold ovw
  rw [List.take_append, e, List.take_of_length_le (by rw [e]; exact h), List.take_take, Nat.min_eq_left (by omega), List.drop_take]
/-- What is read lies in blocks of the right kinds. -/
abbrev Tk (w : World) : FP := Own 0 w
theorem RFiles.keeps {w w' : World} {S : Nat → Prop} {v : Value} {xs : List FileD} (h : RFiles (Tk w) w v xs) (hk : Keeps S w w') (hS : S 51) : RFiles (Tk w') w' v xs :=
  h.to (fun B hB => hB.keeps hk hS) (fun B hB _ => hk.block 51 B hS hB.2) (fun cs x hx => hx)
theorem RDisk.keeps {w w' : World} {S : Nat → Prop} {cs : List Value} {d : DiskD} (h : RDisk (Tk w) w cs d) (hk : Keeps S w w') (hS : S 51) : RDisk (Tk w') w' cs d := by
  obtain ⟨v, rfl, hf⟩ := h
  exact ⟨v, rfl, RFiles.keeps hf hk hS⟩
theorem RDisk.old {F : FP} {w : World} {cs : List Value} {d : DiskD} (h : RDisk F w cs d) : RDisk (Old w) w cs d := by
  obtain ⟨v, e, hf⟩ := h
  exact ⟨v, e, hf.old (by decide) (fun _ _ h => h)⟩
theorem RSnap.old {F : FP} {w : World} {cs : List Value} {d : SnapD} (h : RSnap F w cs d) : RSnap (Old w) w cs d := by
  obtain ⟨v, e, hf⟩ := h
  exact ⟨v, e, hf.old (by decide) (fun _ _ h => h)⟩
abbrev fcells (x : FileD) : List Value := [.string x.name, .string x.data, .int .i64 x.synced]
section
variable {w w' w0 : World} {base T k g n m c i : Nat} {xs : List FileD} {news cs : List Value} {v : Value} {x : FileD}
theorem OFiles.at_ (h : OFiles base w (.slice (some ⟨g, 0, none⟩) m c) xs news) (hm : m = xs.length) (hx : xs[i]? = some x) : At w ((⟨g, 0, none⟩ : Addr).add (i * 3)) (fcells x) := by
  subst hm
  have h1 := At.cut_ (ownsRow_at h.row) 3 i
  have h2 : cut 3 i news = fcells x := h.rows.each i x hx
  rw [h2] at h1; exact h1
theorem OFiles.set_ {j : Nat} {u : Value} (h : OFiles base w v xs news) (hx : xs[i]? = some x) {y : FileD} (hj : j < 3) (hy : (fcells x).set j u = fcells y) (own : w'.ownsRow base 51 3 v xs.length (news.set (i * 3 + j) u)) : OFiles base w' v (xs.set i y) (news.set (i * 3 + j) u) := by
  have hi : i < xs.length := (List.getElem?_eq_some_iff.1 hx).1
  have h2 : cut 3 i news = fcells x := h.rows.each i x hx
  refine ⟨by rw [List.length_set]; exact own, Rows.set (Rows.to (R' := RFile) (G := Own base w') (w' := w') h.rows fun cs x hx => hx) hi hj ?_⟩
  show _ = _
  rw [h2, hy]
theorem Bx.two {w : World} {x : Nat} {cur cx : List Value} (hb : base ≤ g) (hg : w.heap[g]? = some (.cells cur.toArray T (0, 0))) (hbx : base ≤ x) {U : Nat} (hx : w.heap[x]? = some (.cells cx.toArray U (0, 0))) (hne : g ≠ x) (hbase : base ≤ w.heap.size) : Bx base w w [(g, cur, T), (x, cx, U)] :=
  ⟨Below.refl _ _, hbase, fun p hp => by simp at hp; rcases hp with rfl | rfl <;> first | exact ⟨hb, hg⟩ | exact ⟨hbx, hx⟩, by simp [hne]⟩
theorem OFiles.put_ {y : FileD} (h : OFiles base w v xs news) (hi : i < xs.length) (own : w'.ownsRow base 51 3 v xs.length (ovw news (i * 3) (fcells y))) : OFiles base w' v (xs.set i y) (ovw news (i * 3) (fcells y)) := by
  refine ⟨by rw [List.length_set]; exact own, by rw [List.length_set]; exact own.1, fun j z hz => ?_⟩
  rw [List.getElem?_set] at hz
  by_cases e : i = j
  · subst e
    rw [if_pos rfl, if_pos hi] at hz
    injection hz with hz; subst hz
    exact cut_ovw_same h.row.1 rfl hi
  · rw [if_neg e] at hz
    show _ = _
    rw [cut_ovw_other h.row.1 rfl hi (fun h' => e h'.symm)]
    exact h.rows.each j z hz
variable {P : Program} {l : Fr} {Q : Exit → Act → World → Prop} {ops rest : List Oper} {ty : TypeId} {pos : String} {aft : Array Edge} {gd : Option (Nat × Bool)} {xx y : Operand} {t : TypeId}
/-- A store of one whole element into a row of one's own. -/
theorem WL.storeElem {cap o : Nat} (own : w.ownsRow base T k (.slice (some ⟨g, 0, none⟩) m cap) m news) (ho : o + cs.length ≤ m * k) (hx : l.ev xx = some (.pointer (some ⟨g, o, none⟩))) (hy : l.ev y = some v)
    (hz : ∀ w, (sizeOf t).run P w = .ok cs.length w) (hv : v.cells = cs.toArray) (h1 : ∀ u ∈ cs, u.oneCell' = true) (hg : want ops l gd = some true)
    (kk : ∀ w', w'.ownsRow base T k (.slice (some ⟨g, 0, none⟩) m cap) m (ovw news o cs) → Only g w w' → HasT w T g → Below base w w' → WL P n ops Q rest l w') : WL P n ops Q (⟨none, .store t xx y, ty, pos, aft, gd⟩ :: rest) l w := by
  have hl := own.1
  rcases own.2 with ⟨h, _⟩ | ⟨g', cap', cur, h, hbg, hgg, hnc, hcm, hcs, ht⟩
  · cases h
  · simp only [Value.slice.injEq, Option.some.injEq, Addr.mk.injEq, and_true, true_and] at h
    obtain ⟨rfl, rfl⟩ := h
    have hmc : m * k ≤ cap * k := Nat.mul_le_mul_right k hnc
    have hcl : cur.toList.length = cap * k := by simpa using hcs
    have hol : (ovw news o cs).length = news.length := ovw_len (by omega)
    refine WL.skip (w' := w.setRow g (ovw cur.toList o cs).toArray) (fun a ha => ?_) hg rfl (kk _ ⟨by rw [hol]; exact hl, .inr ⟨g, cap, _, rfl, hbg, setRow_heap w g _ _ T _ hgg, hnc, hcm, ?_, ?_⟩⟩ (Only.setRow _ _ _) ⟨_, hgg⟩ ?_)
    · have hgg' : w.heap[g]? = some (.cells cur.toList.toArray T (0, 0)) := by simpa using hgg
      have := run_storeAt (P := P) (w := w) (t := t) (v := v) (off := o) hgg' hz hv rfl (by omega) h1
      rw [add_eq] at this
      simp [execOp, ha.ev hx, ha.ev hy, this]
    · have := ovw_len (news := cur.toList) (vs := cs) (o := o) (by omega)
      simp only [List.size_toArray]; omega
    · rw [← ht]
      exact ovw_take (by omega) (by omega)
    · exact ⟨rfl, rfl, rfl, by simp [World.setRow], fun j hj => (Only.setRow w g _).block j (by omega)⟩
end
end Go.Proofs.YtmnnbnajnfdncaaDoor
