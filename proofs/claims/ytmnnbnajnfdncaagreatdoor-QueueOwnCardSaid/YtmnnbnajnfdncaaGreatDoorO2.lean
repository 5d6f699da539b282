/- From the form's reading of an argument to plain data: pairs, nodes, tasks, binds, books, orders. -/
import Derived.Test.YtmnnbnajnfdncaaGreatDoorO1
import Derived.Test.YtmnnbnajnfdncaaGreatDoorBook4
set_option linter.unusedVariables false
set_option linter.unusedSimpArgs false
set_option maxRecDepth 100000
namespace Go.Proofs.YtmnnbnajnfdncaaGreatDoor
open Go.RowKit E
theorem k2 : Tryz.prog.cellsOf 2 = 1 := by kernel_rfl
theorem k3 : Tryz.prog.cellsOf 3 = 1 := by kernel_rfl
theorem k9 : Tryz.prog.cellsOf 9 = 1 := by kernel_rfl
theorem k22 : Tryz.prog.cellsOf 22 = 1 := by kernel_rfl
theorem k23 : Tryz.prog.cellsOf 23 = 1 := by kernel_rfl
theorem k24 : Tryz.prog.cellsOf 24 = 1 := by kernel_rfl
theorem k25 : Tryz.prog.cellsOf 25 = 1 := by kernel_rfl
theorem k28 : Tryz.prog.cellsOf 28 = 1 := by kernel_rfl
theorem k29 : Tryz.prog.cellsOf 29 = 3 := by kernel_rfl
theorem k30 : Tryz.prog.cellsOf 30 = 1 := by kernel_rfl
theorem k32 : Tryz.prog.cellsOf 32 = 6 := by kernel_rfl
theorem k34 : Tryz.prog.cellsOf 34 = 9 := by kernel_rfl
theorem k36 : Tryz.prog.cellsOf 36 = 19 := by kernel_rfl
theorem k27 : Tryz.prog.cellsOf 27 = 4 := by kernel_rfl
theorem k45 : Tryz.prog.cellsOf 45 = 2 := by kernel_rfl
theorem k47 : Tryz.prog.cellsOf 47 = 2 := by kernel_rfl
theorem y32 : Tryz.prog.bytesOf 32 = 88 := by kernel_rfl
theorem y34 : Tryz.prog.bytesOf 34 = 128 := by kernel_rfl
theorem y45 : Tryz.prog.bytesOf 45 = 32 := by kernel_rfl
theorem y47 : Tryz.prog.bytesOf 47 = 32 := by kernel_rfl
section
variable {H : Type} {enc : TypeId × Value → H} {w : World} {cs : List Value}
theorem fld {fs : Array Field} (hf : ∀ (i : Nat) (f : Field), fs[i]? = some f → Tr enc w f.type ((cs.drop f.offset).take (Tryz.prog.cellsOf f.type))) (i T o k : Nat) {f : Field} (hif : fs[i]? = some f) (hT : f.type = T) (ho : f.offset = o) (hc : Tryz.prog.cellsOf T = k) : Tr enc w T ((cs.drop o).take k) := by
  subst hT; subst ho; rw [← hc]; exact hf i f hif
theorem Tr.pair (h : Tr enc w 45 cs) : ∃ x, RPair Any w cs x := by
  obtain ⟨hl, hf⟩ := h.struct Tryz.underlying45
  rw [k45] at hl
  match cs, hl with
  | [a0, a1], _ =>
    have f0 : Tr enc w 9 [a0] := fld hf 0 9 0 1 rfl rfl rfl k9
    have f1 : Tr enc w 9 [a1] := fld hf 1 9 1 1 rfl rfl rfl k9
    obtain ⟨s0, e0, _⟩ := f0.str Tryz.underlying9
    obtain ⟨s1, e1, _⟩ := f1.str Tryz.underlying9
    injection e0 with e0; injection e1 with e1
    exact ⟨⟨s0, s1⟩, by rw [e0, e1]; rfl⟩
theorem Tr.bind (h : Tr enc w 47 cs) : ∃ x, RBind Any w cs x := by
  obtain ⟨hl, hf⟩ := h.struct Tryz.underlying47
  rw [k47] at hl
  match cs, hl with
  | [a0, a1], _ =>
    have f0 : Tr enc w 9 [a0] := fld hf 0 9 0 1 rfl rfl rfl k9
    have f1 : Tr enc w 9 [a1] := fld hf 1 9 1 1 rfl rfl rfl k9
    obtain ⟨s0, e0, _⟩ := f0.str Tryz.underlying9
    obtain ⟨s1, e1, _⟩ := f1.str Tryz.underlying9
    injection e0 with e0; injection e1 with e1
    exact ⟨⟨s0, s1⟩, by rw [e0, e1]; rfl⟩
theorem Tr.pairs {v : Value} (h : Tr enc w 30 [v]) : ∃ xs, RPairs Any w v xs := h.rdS Tryz.underlying30 k45 y45 (fun cs h => h.pair)
theorem Tr.node (h : Tr enc w 32 cs) : ∃ x, RNode Any w cs x := by
  obtain ⟨hl, hf⟩ := h.struct Tryz.underlying32
  rw [k32] at hl
  match cs, hl with
  | [a0, a1, a2, a3, a4, a5], _ =>
    have f0 : Tr enc w 9 [a0] := fld hf 0 9 0 1 rfl rfl rfl k9
    have f1 : Tr enc w 29 [a1, a2, a3] := fld hf 1 29 1 3 rfl rfl rfl k29
    have f2 : Tr enc w 30 [a4] := fld hf 2 30 4 1 rfl rfl rfl k30
    have f3 : Tr enc w 30 [a5] := fld hf 3 30 5 1 rfl rfl rfl k30
    obtain ⟨s0, e0, _⟩ := f0.str Tryz.underlying9
    obtain ⟨x, y, z, e1⟩ := f1.three
    obtain ⟨l, hl⟩ := f2.pairs
    obtain ⟨m, hm⟩ := f3.pairs
    injection e0 with e0
    simp only [List.cons.injEq, and_true] at e1
    exact ⟨⟨s0, x, y, z, l, m⟩, a4, a5, by rw [e0, e1.1, e1.2.1, e1.2.2], hl, hm⟩
theorem Tr.task (h : Tr enc w 34 cs) : ∃ x, RTask Any w cs x ∧ taskFits x := by
  obtain ⟨hl, hf⟩ := h.struct Tryz.underlying34
  rw [k34] at hl
  match cs, hl with
  | [a0, a1, a2, a3, a4, a5, a6, a7, a8], _ =>
    have f0 : Tr enc w 9 [a0] := fld hf 0 9 0 1 rfl rfl rfl k9
    have f1 : Tr enc w 29 [a1, a2, a3] := fld hf 1 29 1 3 rfl rfl rfl k29
    have f2 : Tr enc w 30 [a4] := fld hf 2 30 4 1 rfl rfl rfl k30
    have f3 : Tr enc w 30 [a5] := fld hf 3 30 5 1 rfl rfl rfl k30
    have f4 : Tr enc w 9 [a6] := fld hf 4 9 6 1 rfl rfl rfl k9
    have f5 : Tr enc w 9 [a7] := fld hf 5 9 7 1 rfl rfl rfl k9
    have f6 : Tr enc w 3 [a8] := fld hf 6 3 8 1 rfl rfl rfl k3
    obtain ⟨s0, e0, b0⟩ := f0.str Tryz.underlying9
    obtain ⟨x, y, z, e1⟩ := f1.three
    obtain ⟨l, hl⟩ := f2.pairs
    obtain ⟨m, hm⟩ := f3.pairs
    obtain ⟨s4, e4, b4⟩ := f4.str Tryz.underlying9
    obtain ⟨s5, e5, b5⟩ := f5.str Tryz.underlying9
    obtain ⟨r, e6⟩ := f6.int Tryz.underlying3
    injection e0 with e0; injection e4 with e4; injection e5 with e5; injection e6 with e6
    simp only [List.cons.injEq, and_true] at e1
    refine ⟨⟨s0, x, y, z, l, m, s4, s5, r⟩, ⟨a4, a5, by rw [e0, e1.1, e1.2.1, e1.2.2, e4, e5, e6], hl, hm⟩, ?_⟩
    unfold taskFits
    simp only
    omega
theorem Tr.book (h : Tr enc w 27 cs) : ∃ x, RBook Any w cs x := by
  obtain ⟨hl, hf⟩ := h.struct Tryz.underlying27
  rw [k27] at hl
  match cs, hl with
  | [a0, a1, a2, a3], _ =>
    have f0 : Tr enc w 22 [a0] := fld hf 0 22 0 1 rfl rfl rfl k22
    have f1 : Tr enc w 23 [a1] := fld hf 1 23 1 1 rfl rfl rfl k23
    have f2 : Tr enc w 24 [a2] := fld hf 2 24 2 1 rfl rfl rfl k24
    have f3 : Tr enc w 25 [a3] := fld hf 3 25 3 1 rfl rfl rfl k25
    obtain ⟨l, hl⟩ := f0.rdS (R := RNode) (T := 32) Tryz.underlying22 k32 y32 (fun cs h => h.node)
    obtain ⟨m, hm⟩ := f1.rdS (R := RTask) (T := 34) Tryz.underlying23 k34 y34 (fun cs h => by obtain ⟨x, hx, _⟩ := h.task; exact ⟨x, hx⟩)
    obtain ⟨b, hb⟩ := f2.rdS (R := RBind) (T := 47) Tryz.underlying24 k47 y47 (fun cs h => h.bind)
    obtain ⟨r, e3⟩ := f3.int Tryz.underlying25
    injection e3 with e3
    exact ⟨⟨l, m, b, r⟩, a0, a1, a2, by rw [e3], hl, hm, hb⟩
theorem Tr.order (h : Tr enc w 36 cs) : ∃ x, ROrder Any w cs x ∧ orderFits x := by
  obtain ⟨hl, hf⟩ := h.struct Tryz.underlying36
  rw [k36] at hl
  match cs, hl with
  | [a0, a1, a2, a3, a4, a5, a6, a7, a8, a9, b0, b1, b2, b3, b4, b5, b6, b7, b8], _ =>
    have f0 : Tr enc w 28 [a0] := fld hf 0 28 0 1 rfl rfl rfl k28
    have f1 : Tr enc w 32 [a1, a2, a3, a4, a5, a6] := fld hf 1 32 1 6 rfl rfl rfl k32
    have f2 : Tr enc w 34 [a7, a8, a9, b0, b1, b2, b3, b4, b5] := fld hf 2 34 7 9 rfl rfl rfl k34
    have f3 : Tr enc w 9 [b6] := fld hf 3 9 16 1 rfl rfl rfl k9
    have f4 : Tr enc w 9 [b7] := fld hf 4 9 17 1 rfl rfl rfl k9
    have f5 : Tr enc w 25 [b8] := fld hf 5 25 18 1 rfl rfl rfl k25
    obtain ⟨kd, e0⟩ := f0.int Tryz.underlying28
    obtain ⟨nd, hn⟩ := f1.node
    obtain ⟨tk, ht, hs⟩ := f2.task
    obtain ⟨s3, e3, c3⟩ := f3.str Tryz.underlying9
    obtain ⟨s4, e4, c4⟩ := f4.str Tryz.underlying9
    obtain ⟨r, e5⟩ := f5.int Tryz.underlying25
    injection e0 with e0; injection e3 with e3; injection e4 with e4; injection e5 with e5
    refine ⟨⟨kd, nd, tk, s3, s4, r⟩, ⟨_, _, by rw [e0, e3, e4, e5]; rfl, hn, ht⟩, hs, ?_⟩
    simp only
    omega
end
end Go.Proofs.YtmnnbnajnfdncaaGreatDoor
