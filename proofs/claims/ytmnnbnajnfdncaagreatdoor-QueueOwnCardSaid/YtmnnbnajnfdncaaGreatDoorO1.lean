/- From the form's reading of an argument to plain data. -/
import Derived.Test.YtmnnbnajnfdncaaGreatDoorD10
import Derived.Test.YtmnnbnajnfdncaaGreatDoorProg
import Derived.ProofKit
import Derived.SizedLaws
import Derived.ChangeArms
set_option linter.unusedVariables false
set_option linter.unusedSimpArgs false
namespace Go.Proofs.YtmnnbnajnfdncaaGreatDoor
open Go.RowKit E
section
variable {H : Type} {enc : TypeId × Value → H} {w : World} {t e : TypeId} {cs : List Value}
def Tr (enc : TypeId × Value → H) (w : World) (t : TypeId) (cs : List Value) : Prop :=
  ∃ fuel sp held x, DataW.trod enc Tryz.prog w 0 sp held fuel t cs = some x ∧ ∀ n ∈ x.1.weights Tryz.prog t, n ≤ reachBytes
theorem Tr.int {k : IntKind} (h : Tr enc w t cs) (ht : Tryz.prog.underlying t = some (.int k)) : ∃ n, cs = [.int k n] := by
  obtain ⟨fuel, sp, held, x, h, _⟩ := h
  obtain ⟨n, h1, _⟩ := DataW.trod_int ht h
  exact ⟨n, h1⟩
theorem Tr.str (h : Tr enc w t cs) (ht : Tryz.prog.underlying t = some .string) : ∃ s : ByteArray, cs = [.string s] ∧ s.size ≤ 140737488351232 := by
  obtain ⟨fuel, sp, held, x, h, hw⟩ := h
  obtain ⟨s, h1, h2, _⟩ := DataW.trod_string ht h
  subst h2
  refine ⟨s, h1, ?_⟩
  have := hw s.data.toList.length (by simp [DataW.weights])
  simpa [reachBytes] using this
theorem Tr.struct {fs : Array Field} (h : Tr enc w t cs) (ht : Tryz.prog.underlying t = some (.struct fs)) : cs.length = Tryz.prog.cellsOf t ∧ ∀ (i : Nat) (f : Field), fs[i]? = some f → Tr enc w f.type ((cs.drop f.offset).take (Tryz.prog.cellsOf f.type)) := by
  obtain ⟨fuel, sp, held, x, h, hw⟩ := h
  obtain ⟨xs, n, _, rfl, hl, hlen, hf⟩ := DataW.trod_struct ht h
  refine ⟨hl, fun i f hif => ?_⟩
  have hlt : i < xs.length := by rw [hlen]; exact (Array.getElem?_eq_some_iff.1 hif).1
  refine ⟨n, sp, held, xs[i], by rw [hf i f hif, List.getElem?_eq_getElem hlt], fun m hm => hw m ?_⟩
  simp only [DataW.weights, ht]
  exact DataW.weights_mem_each (j := i) (t := f.type) (d := (xs[i]).1) (by simp [hif]) (by simp [List.getElem?_eq_getElem hlt]) m hm
theorem Tr.slice (h : Tr enc w t cs) (ht : Tryz.prog.underlying t = some (.slice e)) : cs = [.slice none 0 0] ∨ ∃ a len cap, cs = [.slice (some a) len cap] ∧ len ≤ cap ∧ len * Tryz.prog.bytesOf e ≤ 140737488351232 ∧
    ∀ i, i < len → ∃ cs', cs'.length = Tryz.prog.cellsOf e ∧ At w (a.add (i * Tryz.prog.cellsOf e)) cs' ∧ Tr enc w e cs' := by
  obtain ⟨fuel, sp, held, x, h, hw⟩ := h
  rcases DataW.trod_slice ht h with ⟨h1, _⟩ | ⟨a, len, cap, elems, rest, n, _, rfl, rfl, _, hlc, _, hel, hf, _, _⟩
  · exact .inl h1
  · refine .inr ⟨a, len, cap, rfl, hlc, ?_, fun i hi => ?_⟩
    · have := hw ((elems.length + rest.length) * Tryz.prog.bytesOf e) (by simp [DataW.weights, ht])
      have h2 : len * Tryz.prog.bytesOf e ≤ (elems.length + rest.length) * Tryz.prog.bytesOf e := Nat.mul_le_mul_right _ (by omega)
      simp only [reachBytes] at this
      omega
    · have h1 := hf i hi
      have hie : i < elems.length := by omega
      rw [List.getElem?_eq_getElem hie] at h1
      obtain ⟨cs', hc, htr⟩ := Option.bind_eq_some_iff.1 h1
      unfold World.cells? at hc
      rw [if_pos (Nat.zero_le _)] at hc
      have hlen := mapM_some_length hc
      rw [List.length_range] at hlen
      refine ⟨cs', hlen, fun j v hv => ?_, n, sp, held, elems[i], htr, fun m hm => hw m ?_⟩
      · have hj : j < Tryz.prog.cellsOf e := by rw [← hlen]; exact (List.getElem?_eq_some_iff.1 hv).1
        have := mapM_some_get hc j j (by simp [hj])
        rw [this]; exact hv
      · simp only [DataW.weights, ht, List.mem_cons, List.mem_append]
        refine .inr (.inl ?_)
        have key : ∀ (l : List (DataW H)) (i : Nat) (d : DataW H), l[i]? = some d → ∀ m ∈ d.weights Tryz.prog e, m ∈ DataW.weightsAll Tryz.prog e l := by
          intro l
          induction l with
          | nil => intro i d h; simp at h
          | cons d0 r ih =>
            intro i d h m hm
            simp only [DataW.weightsAll, List.mem_append]
            cases i with
            | zero => simp at h; subst h; exact .inl hm
            | succ i => exact .inr (ih i d (by simpa using h) m hm)
        exact key _ i _ (by simp [List.getElem?_eq_getElem hie]) m hm
theorem Tr.rdS {α : Type} {R : Rd α} {T k bytes : Nat} {v : Value} (h : Tr enc w t [v]) (ht : Tryz.prog.underlying t = some (.slice e)) (hc : Tryz.prog.cellsOf e = k) (hby : Tryz.prog.bytesOf e = bytes) (hR : ∀ cs, Tr enc w e cs → ∃ x, R Any w cs x) : ∃ xs, RdS Any w T k bytes R v xs := by
  rcases h.slice ht with h1 | ⟨a, len, cap, h1, hlc, hb, hg⟩
  · injection h1 with h1 _
    subst h1; exact ⟨[], RdS.nil_⟩
  · injection h1 with h1 _
    subst h1
    rw [hc] at hg
    rw [hby] at hb
    obtain ⟨l, hl, hp⟩ := exists_list (fun i (x : α) => ∃ p cs, some a = some p ∧ Any T p.block ∧ cs.length = k ∧ At w (p.add (i * k)) cs ∧ R Any w cs x) len (fun i hi => by
      obtain ⟨cs', h1, h2, h3⟩ := hg i hi
      obtain ⟨x, hx⟩ := hR cs' h3
      exact ⟨x, a, cs', rfl, trivial, h1, h2, hx⟩)
    exact ⟨l, some a, cap, by rw [hl], by rw [hl]; exact hlc, by rw [hl]; exact hb, hp⟩
theorem list1 {l : List Value} (h : l.length = 1) : ∃ a, l = [a] := by
  match l, h with
  | [a], _ => exact ⟨a, rfl⟩
theorem trod_arr {P : Program} {base n fuel : Nat} {sp : Nat → Bool} {held : Bool} {x : DataW H × List MemPlace} (ht : P.underlying t = some (.array n e)) (h : DataW.trod enc P w base sp held fuel t cs = some x) :
    cs.length = P.cellsOf t ∧ ∀ i, i < n → ∃ m y, DataW.trod enc P w base sp held m e ((cs.drop (i * P.cellsOf e)).take (P.cellsOf e)) = some y := by
  cases fuel with
  | zero => simp [DataW.trod] at h
  | succ m =>
    unfold DataW.trod at h
    rw [ht] at h
    split at h <;> simp_all
    obtain ⟨hl, xs, hp, _⟩ := h
    intro i hi
    have hlen := mapM_some_length hp
    rw [List.length_range] at hlen
    have := mapM_some_get hp i i (by simp [hi])
    rw [List.getElem?_eq_getElem (by omega)] at this
    exact ⟨m, _, _, this⟩
theorem Tr.three (h : Tr enc w 29 cs) : ∃ a b c, cs = [.int .i64 a, .int .i64 b, .int .i64 c] := by
  obtain ⟨fuel, sp, held, x, h, _⟩ := h
  obtain ⟨hl, hg⟩ := trod_arr Tryz.underlying29 h
  have c29 : Tryz.prog.cellsOf 29 = 3 := by kernel_rfl
  have c2 : Tryz.prog.cellsOf 2 = 1 := by kernel_rfl
  rw [c29] at hl
  rw [c2] at hg
  match cs, hl with
  | [x0, x1, x2], _ =>
    obtain ⟨_, _, g0⟩ := hg 0 (by decide)
    obtain ⟨_, _, g1⟩ := hg 1 (by decide)
    obtain ⟨_, _, g2⟩ := hg 2 (by decide)
    obtain ⟨a, ha, _⟩ := DataW.trod_int Tryz.underlying2 g0
    obtain ⟨b, hb, _⟩ := DataW.trod_int Tryz.underlying2 g1
    obtain ⟨c, hc, _⟩ := DataW.trod_int Tryz.underlying2 g2
    simp at ha hb hc
    exact ⟨a, b, c, by rw [ha, hb, hc]⟩
end
end Go.Proofs.YtmnnbnajnfdncaaGreatDoor
