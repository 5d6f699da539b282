/- Equality of pairs and of three numbers. -/
import Derived.Test.YtmnnbnajnfdncaaGreatDoorP3
import Derived.Laws.StructEq
set_option linter.unusedSimpArgs false
namespace Go.Proofs.YtmnnbnajnfdncaaGreatDoor
open Go.RowKit E
theorem run_eq_pair (x y : PairD) (w : World) : (binOp .eql 45 (.agg #[.string x.key, .string x.val]) (.agg #[.string y.key, .string y.val])).run Tryz.prog w = .ok (.bool (decide (x = y))) w := by
  have hf : Tryz.prog.fieldsOf 45 = #[{ name := "Key", type := 9, offset := 0, embedded := false, tag := "", pkgPath := "", byteOffset := 0 },
        { name := "Value", type := 9, offset := 1, embedded := false, tag := "", pkgPath := "", byteOffset := 16 }] := by simp [Program.fieldsOf, Tryz.underlying45]
  have hi := Tryz.isAgg9
  have hs : ∀ (a b : ByteArray) w, (Op.equalIn 9999 9 (.string a) (.string b)).run Tryz.prog w = .ok (a.toList == b.toList) w := fun a b w => run_equalIn_string w 9998 9 a b Tryz.underlying9
  rw [run_eql_struct, show (10000 : Nat) = 9999 + 1 from rfl, run_equalIn_struct _ _ _ _ _ (by rw [hf]; exact Tryz.underlying45) Tryz.stoodInHeld45, hf]
  have e : decide (x = y) = (decide (x.key = y.key) && decide (x.val = y.val)) := by
    obtain ⟨a, b⟩ := x; obtain ⟨c, d⟩ := y
    simp [PairD.mk.injEq]
  rw [e]
  by_cases h1 : x.key = y.key <;> by_cases h2 : x.val = y.val <;> simp [Op.eqFields, part, hi, hs, E.beq_bytes, h1, h2]

theorem run_neq_pair (x y : PairD) (w : World) : (binOp .neq 45 (.agg #[.string x.key, .string x.val]) (.agg #[.string y.key, .string y.val])).run Tryz.prog w = .ok (.bool (!decide (x = y))) w := by
  have h := run_eq_pair x y w
  rw [run_eql_struct] at h
  rw [run_neq_struct]
  cases hr : (Op.equalIn 10000 45 (.agg #[.string x.key, .string x.val]) (.agg #[.string y.key, .string y.val])).run Tryz.prog w with
  | ok b w' => rw [hr] at h; simp only [Result.andThen_ok, Result.ok.injEq, Value.bool.injEq] at h ⊢; exact ⟨by rw [h.1], h.2⟩
  | halt a b => rw [hr] at h; cases h
theorem run_neq_bind (x y : BindD) (w : World) : (binOp .neq 47 (.agg #[.string x.task, .string x.node]) (.agg #[.string y.task, .string y.node])).run Tryz.prog w = .ok (.bool (!decide (x = y))) w := by
  have hf : Tryz.prog.fieldsOf 47 = #[{ name := "Task", type := 9, offset := 0, embedded := false, tag := "", pkgPath := "", byteOffset := 0 },
        { name := "Node", type := 9, offset := 1, embedded := false, tag := "", pkgPath := "", byteOffset := 16 }] := by simp [Program.fieldsOf, Tryz.underlying47]
  have hi := Tryz.isAgg9
  have hs : ∀ (a b : ByteArray) w, (Op.equalIn 9999 9 (.string a) (.string b)).run Tryz.prog w = .ok (a.toList == b.toList) w := fun a b w => run_equalIn_string w 9998 9 a b Tryz.underlying9
  rw [run_neq_struct, show (10000 : Nat) = 9999 + 1 from rfl, run_equalIn_struct _ _ _ _ _ (by rw [hf]; exact Tryz.underlying47) Tryz.stoodInHeld47, hf]
  have e : decide (x = y) = (decide (x.task = y.task) && decide (x.node = y.node)) := by
    obtain ⟨a, b⟩ := x; obtain ⟨c, d⟩ := y
    simp [BindD.mk.injEq]
  rw [e]
  by_cases h1 : x.task = y.task <;> by_cases h2 : x.node = y.node <;> simp [Op.eqFields, part, hi, hs, E.beq_bytes, h1, h2]
theorem run_equalIn_three (n : Nat) (a b c d e f : Int) (w : World) : (Op.equalIn (n + 2) 29 (.agg #[.int .i64 a, .int .i64 b, .int .i64 c]) (.agg #[.int .i64 d, .int .i64 e, .int .i64 f])).run Tryz.prog w = .ok (decide (a = d) && (decide (b = e) && decide (c = f))) w := by
  have hi := Tryz.isAgg2
  have hz := Tryz.sizeOf2
  have hs : ∀ (a b : Int) w, (Op.equalIn (n + 1) 2 (.int .i64 a) (.int .i64 b)).run Tryz.prog w = .ok (a == b) w := fun a b w => run_equalIn_int w n 2 .i64 .i64 a b Tryz.underlying2
  rw [show n + 2 = (n + 1) + 1 from rfl]
  generalize n + 1 = m at hs
  simp only [Op.equalIn, Sem.run_bind, run_underlying Tryz.underlying29, hz, Result.andThen_ok]
  simp [part, hi, hs, Std.Legacy.Range.forIn_eq_forIn_range', List.range', Std.Legacy.Range.size]
  by_cases h1 : a = d <;> by_cases h2 : b = e <;> by_cases h3 : c = f <;> simp [hs, hi, hz, h1, h2, h3]
theorem run_eq_three (a b c d e f : Int) (w : World) : (binOp .eql 29 (.agg #[.int .i64 a, .int .i64 b, .int .i64 c]) (.agg #[.int .i64 d, .int .i64 e, .int .i64 f])).run Tryz.prog w = .ok (.bool (decide (a = d) && (decide (b = e) && decide (c = f)))) w := by
  rw [run_eql_struct, show (10000 : Nat) = 9998 + 2 from rfl, run_equalIn_three]
  rfl
end Go.Proofs.YtmnnbnajnfdncaaGreatDoor
