/- From the form's reading of an argument to plain data: texts and whole numbers in rows. -/
import Derived.Test.YtmnnbnajnfdncaaDoorSnapn
import Derived.Test.YtmnnbnajnfdncaaDoorProg
import Derived.ProofKit
import Derived.SizedLaws
import Derived.ChangeArms
set_option linter.unusedVariables false
set_option linter.unusedSimpArgs false
set_option maxRecDepth 100000
namespace Go.Proofs.YtmnnbnajnfdncaaDoor
open Go.RowKit E
section
variable {H : Type} {enc : TypeId × Value → H} {w : World} {t e : TypeId} {cs : List Value}
def Tr (enc : TypeId × Value → H) (w : World) (t : TypeId) (cs : List Value) : Prop :=
  ∃ fuel sp held x, DataW.trod enc Tryd.prog w 0 sp held fuel t cs = some x ∧ ∀ n ∈ x.1.weights Tryd.prog t, n ≤ reachBytes
theorem Tr.int {k : IntKind} (h : Tr enc w t cs) (ht : Tryd.prog.underlying t = some (.int k)) : ∃ n, cs = [.int k n] := by
  obtain ⟨fuel, sp, held, x, h, _⟩ := h
  obtain ⟨n, h1, _⟩ := DataW.trod_int ht h
  exact ⟨n, h1⟩
theorem Tr.str (h : Tr enc w t cs) (ht : Tryd.prog.underlying t = some .string) : ∃ s : ByteArray, cs = [.string s] ∧ s.size ≤ 140737488351232 := by
  obtain ⟨fuel, sp, held, x, h, hw⟩ := h
  obtain ⟨s, h1, h2, _⟩ := DataW.trod_string ht h
  subst h2
  refine ⟨s, h1, ?_⟩
  have := hw s.data.toList.length (by simp [DataW.weights])
  simpa [reachBytes] using this
theorem Tr.struct {fs : Array Field} (h : Tr enc w t cs) (ht : Tryd.prog.underlying t = some (.struct fs)) : cs.length = Tryd.prog.cellsOf t ∧ ∀ (i : Nat) (f : Field), fs[i]? = some f → Tr enc w f.type ((cs.drop f.offset).take (Tryd.prog.cellsOf f.type)) := by
  obtain ⟨fuel, sp, held, x, h, hw⟩ := h
  obtain ⟨xs, n, _, rfl, hl, hlen, hf⟩ := DataW.trod_struct ht h
  refine ⟨hl, fun i f hif => ?_⟩
  have hlt : i < xs.length := by rw [hlen]; exact (Array.getElem?_eq_some_iff.1 hif).1
  refine ⟨n, sp, held, xs[i], by rw [hf i f hif, List.getElem?_eq_getElem hlt], fun m hm => hw m ?_⟩
  simp only [DataW.weights, ht]
  exact DataW.weights_mem_each (j := i) (t := f.type) (d := (xs[i]).1) (by simp [hif]) (by simp [List.getElem?_eq_getElem hlt]) m hm
theorem Tr.slice (h : Tr enc w t cs) (ht : Tryd.prog.underlying t = some (.slice e)) : cs = [.slice none 0 0] ∨ ∃ a len cap, cs = [.slice (some a) len cap] ∧ len ≤ cap ∧ len * Tryd.prog.bytesOf e ≤ 140737488351232 ∧
    ∀ i, i < len → ∃ cs', cs'.length = Tryd.prog.cellsOf e ∧ At w (a.add (i * Tryd.prog.cellsOf e)) cs' ∧ Tr enc w e cs' := by
  obtain ⟨fuel, sp, held, x, h, hw⟩ := h
  rcases DataW.trod_slice ht h with ⟨h1, _⟩ | ⟨a, len, cap, elems, rest, n, _, rfl, rfl, _, hlc, _, hel, hf, _, _⟩
  · exact .inl h1
  · refine .inr ⟨a, len, cap, rfl, hlc, ?_, fun i hi => ?_⟩
    · have := hw ((elems.length + rest.length) * Tryd.prog.bytesOf e) (by simp [DataW.weights, ht])
      have h2 : len * Tryd.prog.bytesOf e ≤ (elems.length + rest.length) * Tryd.prog.bytesOf e := Nat.mul_le_mul_right _ (by omega)
      simp only [reachBytes] at this
      omega
    · have h1 := hf i hi
      have hie : i < elems.length := by omega
      rw [List.getElem?_eq_getElem hie] at h1
      obtain ⟨cs', hc, htr⟩ := Option.bind_eq_some_iff.1 h1
      unfold World.cells? at hc
      rw [if_pos (Nat.zero_le _)] at hc
      have hlen := mapM_some_length hc
      rw [List.length_range] at hlen
      refine ⟨cs', hlen, fun j v hv => ?_, n, sp, held, elems[i], htr, fun m hm => hw m ?_⟩
      · have hj : j < Tryd.prog.cellsOf e := by rw [← hlen]; exact (List.getElem?_eq_some_iff.1 hv).1
        have := mapM_some_get hc j j (by simp [hj])
        rw [this]; exact hv
      · simp only [DataW.weights, ht, List.mem_cons, List.mem_append]
        refine .inr (.inl ?_)
        have key : ∀ (l : List (DataW H)) (i : Nat) (d : DataW H), l[i]? = some d → ∀ m ∈ d.weights Tryd.prog e, m ∈ DataW.weightsAll Tryd.prog e l := by
          intro l
          induction l with
          | nil => intro i d h; simp at h
          | cons d0 r ih =>
            intro i d h m hm
            simp only [DataW.weightsAll, List.mem_append]
            cases i with
            | zero => simp at h; subst h; exact .inl hm
            | succ i => exact .inr (ih i d (by simpa using h) m hm)
        exact key _ i _ (by simp [List.getElem?_eq_getElem hie]) m hm
theorem Tr.rdS {α : Type} {R : Rd α} {T k bytes : Nat} {v : Value} (h : Tr enc w t [v]) (ht : Tryd.prog.underlying t = some (.slice e)) (hc : Tryd.prog.cellsOf e = k) (hby : Tryd.prog.bytesOf e = bytes) (hR : ∀ cs, Tr enc w e cs → ∃ x, R Any w cs x) : ∃ xs, RdS Any w T k bytes R v xs := by
  rcases h.slice ht with h1 | ⟨a, len, cap, h1, hlc, hb, hg⟩
  · injection h1 with h1 _
    subst h1; exact ⟨[], RdS.nil_⟩
  · injection h1 with h1 _
    subst h1
    rw [hc] at hg
    rw [hby] at hb
    obtain ⟨l, hl, hp⟩ := exists_list (fun i (x : α) => ∃ p cs, some a = some p ∧ Any T p.block ∧ cs.length = k ∧ At w (p.add (i * k)) cs ∧ R Any w cs x) len (fun i hi => by
      obtain ⟨cs', h1, h2, h3⟩ := hg i hi
      obtain ⟨x, hx⟩ := hR cs' h3
      exact ⟨x, a, cs', rfl, trivial, h1, h2, hx⟩)
    exact ⟨l, some a, cap, by rw [hl], by rw [hl]; exact hlc, by rw [hl]; exact hb, hp⟩
theorem k3 : Tryd.prog.cellsOf 3 = 1 := by kernel_rfl
theorem k9 : Tryd.prog.cellsOf 9 = 1 := by kernel_rfl
theorem y3 : Tryd.prog.bytesOf 3 = 8 := by kernel_rfl
theorem y9 : Tryd.prog.bytesOf 9 = 16 := by kernel_rfl
def RIntB (_F : FP) (_w : World) (cs : List Value) (x : Int) : Prop := cs = [.int .i64 x] ∧ x ≤ 9223372036854775807
theorem Tr.int64 (h : Tr enc w t cs) (ht : Tryd.prog.underlying t = some (.int .i64)) : ∃ n, cs = [.int .i64 n] ∧ n ≤ 9223372036854775807 := by
  obtain ⟨fuel, sp, held, x, h, _⟩ := h
  obtain ⟨n, h1, _, h3⟩ := DataW.trod_int ht h
  refine ⟨n, h1, ?_⟩
  simp only [Lit.wf, Bool.and_eq_true, decide_eq_true_eq] at h3
  exact h3.2
theorem Tr.strs {v : Value} (h : Tr enc w 22 [v]) : ∃ xs, RStrs Any w v xs :=
  h.rdS Tryd.underlying22 k9 y9 (fun cs h => by obtain ⟨s, e, _⟩ := h.str Tryd.underlying9; exact ⟨s, e⟩)
theorem Tr.ints {v : Value} (h : Tr enc w 23 [v]) : ∃ xs, RInts Any w v xs ∧ ∀ x ∈ xs, x ≤ 9223372036854775807 := by
  obtain ⟨xs, hx⟩ : ∃ xs, RdS Any w 3 1 8 RIntB v xs := h.rdS Tryd.underlying23 k3 y3 (fun cs h => by obtain ⟨s, e⟩ := h.int64 Tryd.underlying3; exact ⟨s, e⟩)
  refine ⟨xs, hx.to (fun _ h => h) (fun _ _ _ => rfl) (fun cs x h => h.1), fun x hm => ?_⟩
  obtain ⟨i, hi⟩ := List.getElem?_of_mem hm
  obtain ⟨A, c, _, _, _, hg⟩ := hx
  obtain ⟨p, cs, _, _, _, _, hr⟩ := hg i x hi
  exact hr.2
end
end Go.Proofs.YtmnnbnajnfdncaaDoor
