/- The engine, second part: the operations that leave memory alone. -/
import Derived.Test.YtmnnbnajnfdncaaDoorE1
set_option linter.unusedVariables false
set_option linter.unusedSimpArgs false
namespace Go.Proofs.YtmnnbnajnfdncaaDoor.E
open Go.RowKit
variable {P : Program} {n : Nat} {l : Fr} {w w' : World} {Q : Exit → Act → World → Prop}
variable {ops rest : List Oper} {dst : Option Tmp} {ty : TypeId} {pos : String} {aft : Array Edge} {gd : Option (Nat × Bool)} {v : Value}
variable {x y z : Operand}

theorem y_move (h : l.ev x = some v) : RunV P n l ⟨dst, .move x, ty, pos, aft, gd⟩ w v w := fun a ha => by
  simp [execOp, ha.ev h]
theorem y_assign (h : l.ev x = some v) : RunV P n l ⟨dst, .assign x, ty, pos, aft, gd⟩ w v w := fun a ha => by
  simp [execOp, ha.ev h]
theorem y_pick_t (h : l.ev x = some (.bool true)) (h1 : l.ev y = some v) : RunV P n l ⟨dst, .pick x y z, ty, pos, aft, gd⟩ w v w := fun a ha => by
  simp [execOp, ha.ev h, ha.ev h1, asBool]
theorem y_pick_f (h : l.ev x = some (.bool false)) (h1 : l.ev z = some v) : RunV P n l ⟨dst, .pick x y z, ty, pos, aft, gd⟩ w v w := fun a ha => by
  simp [execOp, ha.ev h, ha.ev h1, asBool]
theorem y_not {b : Bool} {t : TypeId} (h : l.ev x = some (.bool b)) : RunV P n l ⟨dst, .unOp .not t x, ty, pos, aft, gd⟩ w (.bool !b) w := fun a ha => by
  simp [execOp, ha.ev h, Op.unary]
theorem y_extract {vs : Array Value} {i : Nat} (h : l.ev x = some (.tuple vs)) (hi : vs[i]? = some v) : RunV P n l ⟨dst, .extract x i, ty, pos, aft, gd⟩ w v w := fun a ha => by
  simp [execOp, ha.ev h, Instr.extract, hi]
theorem y_nilCheck {p : Addr} (h : l.ev x = some (.pointer (some p))) : RunV P n l ⟨dst, .nilCheck x, ty, pos, aft, gd⟩ w (.pointer (some p)) w := fun a ha => by
  simp [execOp, ha.ev h]
theorem y_nilCheckF {f : FuncId} {c d : Array Value} (h : l.ev x = some (.func (.func f) c d)) : RunV P n l ⟨dst, .nilCheck x, ty, pos, aft, gd⟩ w (.func (.func f) c d) w := fun a ha => by
  simp [execOp, ha.ev h]
section
variable {t t' : TypeId} {k : IntKind} {p q : Int}
theorem y_arith {op : BinOp} {r : Int} (ho : (binOp op t (.int k p) (.int k q)).run P w = .ok (.int k r) w) (hg : ∀ u u', eqGuard op t x y u u' = pure ()) (h : l.ev x = some (.int k p)) (h' : l.ev y = some (.int k q)) :
    RunV P n l ⟨dst, .binOp op t x y t', ty, pos, aft, gd⟩ w (.int k r) w := fun a ha => by
  simp [execOp, ha.ev h, ha.ev h', hg, ho]
theorem y_add (h : l.ev x = some (.int k p)) (h' : l.ev y = some (.int k q)) (hr : k.wrap (p + q) = p + q) : RunV P n l ⟨dst, .binOp .add t x y t', ty, pos, aft, gd⟩ w (.int k (p + q)) w :=
  y_arith (by simp [binOp, Op.intArith, hr]) (fun _ _ => rfl) h h'
theorem y_sub (h : l.ev x = some (.int k p)) (h' : l.ev y = some (.int k q)) (hr : k.wrap (p - q) = p - q) : RunV P n l ⟨dst, .binOp .sub t x y t', ty, pos, aft, gd⟩ w (.int k (p - q)) w :=
  y_arith (by simp [binOp, Op.intArith, hr]) (fun _ _ => rfl) h h'
theorem y_mul (h : l.ev x = some (.int k p)) (h' : l.ev y = some (.int k q)) (hr : k.wrap (p * q) = p * q) : RunV P n l ⟨dst, .binOp .mul t x y t', ty, pos, aft, gd⟩ w (.int k (p * q)) w :=
  y_arith (by simp [binOp, Op.intArith, hr]) (fun _ _ => rfl) h h'
theorem y_addw (h : l.ev x = some (.int k p)) (h' : l.ev y = some (.int k q)) : RunV P n l ⟨dst, .binOp .add t x y t', ty, pos, aft, gd⟩ w (.int k (k.wrap (p + q))) w :=
  y_arith (by simp [binOp, Op.intArith]) (fun _ _ => rfl) h h'
theorem y_subw (h : l.ev x = some (.int k p)) (h' : l.ev y = some (.int k q)) : RunV P n l ⟨dst, .binOp .sub t x y t', ty, pos, aft, gd⟩ w (.int k (k.wrap (p - q))) w :=
  y_arith (by simp [binOp, Op.intArith]) (fun _ _ => rfl) h h'
theorem y_quo (h : l.ev x = some (.int k p)) (h' : l.ev y = some (.int k q)) (h0 : 0 ≤ p) (h1 : 0 < q) (hr : k.wrap (p / q) = p / q) : RunV P n l ⟨dst, .binOp .quo t x y t', ty, pos, aft, gd⟩ w (.int k (p / q)) w :=
  y_arith (by simp [binOp, Op.intDiv, show ¬ q = 0 by omega, Int.tdiv_eq_ediv_of_nonneg h0, hr]) (fun _ _ => rfl) h h'
theorem y_rem (h : l.ev x = some (.int k p)) (h' : l.ev y = some (.int k q)) (h0 : 0 ≤ p) (h1 : 0 < q) : RunV P n l ⟨dst, .binOp .rem t x y t', ty, pos, aft, gd⟩ w (.int k (p % q)) w :=
  y_arith (by simp [binOp, Op.intDiv, show ¬ q = 0 by omega, Int.tmod_eq_emod_of_nonneg h0]) (fun _ _ => rfl) h h'
theorem y_shr {k' : IntKind} {m : Nat} (h : l.ev x = some (.int k p)) (h' : l.ev y = some (.int k' (m : Int))) (hm : m ≤ k.bits) : RunV P n l ⟨dst, .binOp .shr t x y t', ty, pos, aft, gd⟩ w (.int k (p / (2 : Int) ^ m)) w := fun a ha => by
  have e : p.fdiv (2 ^ m) = p / (2 : Int) ^ m := Int.fdiv_eq_ediv_of_nonneg _ (by exact Int.le_of_lt (Int.pow_pos (by decide)))
  have hg : ∀ u u', eqGuard .shr t x y u u' = pure () := fun _ _ => rfl
  simp [execOp, ha.ev h, ha.ev h', hg, binOp, Op.shift, Nat.min_eq_left hm, e, show ¬ (m : Int) < 0 by omega]
theorem y_shl {k' : IntKind} {m : Nat} (h : l.ev x = some (.int k p)) (h' : l.ev y = some (.int k' (m : Int))) (hm : m ≤ k.bits) : RunV P n l ⟨dst, .binOp .shl t x y t', ty, pos, aft, gd⟩ w (.int k (k.wrap (p * (2 : Int) ^ m))) w := fun a ha => by
  have hg : ∀ u u', eqGuard .shl t x y u u' = pure () := fun _ _ => rfl
  simp [execOp, ha.ev h, ha.ev h', hg, binOp, Op.shift, Nat.min_eq_left hm, show ¬ (m : Int) < 0 by omega]
theorem y_cmp {op : BinOp} {b : Bool} (ho : (binOp op t (.int k p) (.int k q)).run P w = .ok (.bool b) w) (hg : ∀ a : Act, Has n l a → (eqGuard op t x y (.int k p) (.int k q)).run P w = .ok () w) (h : l.ev x = some (.int k p)) (h' : l.ev y = some (.int k q)) :
    RunV P n l ⟨dst, .binOp op t x y t', ty, pos, aft, gd⟩ w (.bool b) w := fun a ha => by
  simp [execOp, ha.ev h, ha.ev h', hg a ha, ho]
theorem y_lss (h : l.ev x = some (.int k p)) (h' : l.ev y = some (.int k q)) : RunV P n l ⟨dst, .binOp .lss t x y t', ty, pos, aft, gd⟩ w (.bool (decide (p < q))) w :=
  y_cmp (by simp [binOp, Op.intCmp]) (fun _ _ => rfl) h h'
theorem y_leq (h : l.ev x = some (.int k p)) (h' : l.ev y = some (.int k q)) : RunV P n l ⟨dst, .binOp .leq t x y t', ty, pos, aft, gd⟩ w (.bool (decide (p ≤ q))) w :=
  y_cmp (by simp [binOp, Op.intCmp]) (fun _ _ => rfl) h h'
theorem y_gtr (h : l.ev x = some (.int k p)) (h' : l.ev y = some (.int k q)) : RunV P n l ⟨dst, .binOp .gtr t x y t', ty, pos, aft, gd⟩ w (.bool (decide (q < p))) w :=
  y_cmp (by simp [binOp, Op.intCmp]) (fun _ _ => rfl) h h'
theorem y_geq (h : l.ev x = some (.int k p)) (h' : l.ev y = some (.int k q)) : RunV P n l ⟨dst, .binOp .geq t x y t', ty, pos, aft, gd⟩ w (.bool (decide (q ≤ p))) w :=
  y_cmp (by simp [binOp, Op.intCmp]) (fun _ _ => rfl) h h'
end
section
variable {t t' : TypeId} {k k' : IntKind} {p q : Int}
theorem beq_dec (p q : Int) : (p == q) = decide (p = q) := by
  by_cases h : p = q <;> simp [h]
theorem y_eql (h : l.ev x = some (.int k p)) (h' : l.ev y = some (.int k q)) : RunV P n l ⟨dst, .binOp .eql t x y t', ty, pos, aft, gd⟩ w (.bool (decide (p = q))) w :=
  y_cmp (by simp [binOp, Op.intCmp, beq_dec]) (fun _ _ => by rw [eqGuard_at_int]; rfl) h h'
theorem y_neq (h : l.ev x = some (.int k p)) (h' : l.ev y = some (.int k q)) : RunV P n l ⟨dst, .binOp .neq t x y t', ty, pos, aft, gd⟩ w (.bool (!decide (p = q))) w :=
  y_cmp (by simp [binOp, Op.intCmp, bne, beq_dec]) (fun _ _ => by rw [eqGuard_at_int]; rfl) h h'
theorem y_op2 {op : BinOp} {u u' r : Value} (ho : (binOp op t u u').run P w = .ok r w) (hg : (eqGuard op t x y u u').run P w = .ok () w) (h : l.ev x = some u) (h' : l.ev y = some u') :
    RunV P n l ⟨dst, .binOp op t x y t', ty, pos, aft, gd⟩ w r w := fun a ha => by
  simp [execOp, ha.ev h, ha.ev h', hg, ho]
theorem beq_bytes (a b : ByteArray) : (a.toList == b.toList) = decide (a = b) := by
  by_cases h : a = b
  · subst h; simp
  · rw [decide_eq_false h, beq_eq_false_iff_ne]
    intro e
    apply h
    rw [ByteArray.toList_eq, ByteArray.toList_eq] at e
    obtain ⟨⟨x⟩⟩ := a
    obtain ⟨⟨y⟩⟩ := b
    simp at e
    rw [e]
variable {a b : ByteArray}
theorem y_seql (h : l.ev x = some (.string a)) (h' : l.ev y = some (.string b)) : RunV P n l ⟨dst, .binOp .eql t x y t', ty, pos, aft, gd⟩ w (.bool (decide (a = b))) w :=
  y_op2 (by simp [binOp, Op.stringOp, beq_bytes]) (by rw [eqGuard_at_string]; rfl) h h'
theorem y_sneq (h : l.ev x = some (.string a)) (h' : l.ev y = some (.string b)) : RunV P n l ⟨dst, .binOp .neq t x y t', ty, pos, aft, gd⟩ w (.bool (!decide (a = b))) w :=
  y_op2 (by simp [binOp, Op.stringOp, beq_bytes]) (by rw [eqGuard_at_string]; rfl) h h'
theorem y_slss (h : l.ev x = some (.string a)) (h' : l.ev y = some (.string b)) : RunV P n l ⟨dst, .binOp .lss t x y t', ty, pos, aft, gd⟩ w (.bool (Op.bytesLess a.toList b.toList)) w :=
  y_op2 (by simp [binOp, Op.stringOp]) (by rw [eqGuard_at_string]; rfl) h h'
theorem y_sgtr (h : l.ev x = some (.string a)) (h' : l.ev y = some (.string b)) : RunV P n l ⟨dst, .binOp .gtr t x y t', ty, pos, aft, gd⟩ w (.bool (!(Op.bytesLess a.toList b.toList || decide (a = b)))) w :=
  y_op2 (by simp [binOp, Op.stringOp, beq_bytes]) (by rw [eqGuard_at_string]; rfl) h h'
theorem y_sgeq (h : l.ev x = some (.string a)) (h' : l.ev y = some (.string b)) : RunV P n l ⟨dst, .binOp .geq t x y t', ty, pos, aft, gd⟩ w (.bool (!Op.bytesLess a.toList b.toList)) w :=
  y_op2 (by simp [binOp, Op.stringOp]) (by rw [eqGuard_at_string]; rfl) h h'
theorem y_sadd (h : l.ev x = some (.string a)) (h' : l.ev y = some (.string b)) (hs : a.size + b.size ≤ 9223372036854775807) : RunV P n l ⟨dst, .binOp .add t x y t', ty, pos, aft, gd⟩ w (.string (a ++ b)) w :=
  y_op2 (by simp only [binOp]; exact run_string_add_sum w a b hs) (by rw [eqGuard_at_string]; rfl) h h'
end
section
variable {t e : TypeId} {A : Option Addr} {m c : Nat} {s : ByteArray} {k k' : IntKind} {i j : Int} {ad : Addr}
theorem y_lenS (ht : P.underlying t = some (.slice e)) (h : l.ev x = some (.slice A m c)) : RunV P n l ⟨dst, .call ⟨.builtin .len, #[x], #[t]⟩, ty, pos, aft, gd⟩ w (.int .i64 m) w := fun a ha => by
  simp [execOp, resolve, invoke, builtin, Builtin.len_, ha.ev h, run_underlying ht, goInt]
theorem y_capS (ht : P.underlying t = some (.slice e)) (h : l.ev x = some (.slice A m c)) : RunV P n l ⟨dst, .call ⟨.builtin .cap, #[x], #[t]⟩, ty, pos, aft, gd⟩ w (.int .i64 c) w := fun a ha => by
  simp [execOp, resolve, invoke, builtin, Builtin.cap_, ha.ev h, run_underlying ht, goInt]
theorem y_lens (ht : P.underlying t = some .string) (h : l.ev x = some (.string s)) : RunV P n l ⟨dst, .call ⟨.builtin .len, #[x], #[t]⟩, ty, pos, aft, gd⟩ w (.int .i64 s.size) w := fun a ha => by
  simp [execOp, resolve, invoke, builtin, Builtin.len_, ha.ev h, run_underlying ht, goInt]
theorem y_min {t2 : Array TypeId} (h : l.ev x = some (.int k i)) (h' : l.ev y = some (.int k' j)) : RunV P n l ⟨dst, .call ⟨.builtin .min, #[x, y], t2⟩, ty, pos, aft, gd⟩ w (.int k (if j < i then j else i)) w := fun a ha => by
  simp [execOp, resolve, invoke, builtin, ha.ev h, ha.ev h', run_min_int2]
theorem y_max {t2 : Array TypeId} (h : l.ev x = some (.int k i)) (h' : l.ev y = some (.int k' j)) : RunV P n l ⟨dst, .call ⟨.builtin .max, #[x, y], t2⟩, ty, pos, aft, gd⟩ w (.int k (if j > i then j else i)) w := fun a ha => by
  simp [execOp, resolve, invoke, builtin, ha.ev h, ha.ev h', run_max_int2]
theorem y_conv {t2 : TypeId} (hs : (P.underlying t).isSome = true) (hd : P.underlying t2 = some (.int k')) (h : l.ev x = some (.int k i)) (hr : k'.wrap i = j) : RunV P n l ⟨dst, .convert t t2 x, ty, pos, aft, gd⟩ w (.int k' j) w := fun a ha => by
  obtain ⟨d, hd'⟩ := Option.isSome_iff_exists.1 hs
  simp [execOp, ha.ev h, convert, run_underlying hd', run_underlying hd, Conv.intToInt, hr]
/-- The address of an element. -/
theorem y_idxS {sz : Nat} (ht : P.underlying t = some (.slice e)) (hz : ∀ w, (sizeOf e).run P w = .ok sz w) (h : l.ev x = some (.slice (some ad) m c)) (h' : l.ev y = some (.int k i)) (h0 : 0 ≤ i) (h1 : i < (m : Int)) :
    RunV P n l ⟨dst, .indexAddr t x y, ty, pos, aft, gd⟩ w (.pointer (some (ad.add (i.toNat * sz)))) w := fun a ha => by
  simp [execOp, ha.ev h, ha.ev h', Instr.indexAt, asIntOf, run_underlying ht, hz, h0, h1]
theorem y_idxA {sz len : Nat} (ht : P.underlying t = some (.array len e)) (hz : ∀ w, (sizeOf e).run P w = .ok sz w) (h : l.ev x = some (.pointer (some ad))) (h' : l.ev y = some (.int k i)) (h0 : 0 ≤ i) (h1 : i < (len : Int)) :
    RunV P n l ⟨dst, .indexAddr t x y, ty, pos, aft, gd⟩ w (.pointer (some (ad.add (i.toNat * sz)))) w := fun a ha => by
  simp [execOp, ha.ev h, ha.ev h', Instr.indexAt, Instr.sureAddr, asIntOf, run_underlying ht, hz, h0, h1]
theorem y_idxs {q : Int} (ht : P.underlying t = some .string) (h : l.ev x = some (.string s)) (h' : l.ev y = some (.int k i)) (h0 : 0 ≤ i) (h1 : i.toNat < s.size) (hq : ((s[i.toNat]'h1).toNat : Int) = q) :
    RunV P n l ⟨dst, .index t x y, ty, pos, aft, gd⟩ w (.int .u8 q) w := fun a ha => by
  simp [execOp, ha.ev h, ha.ev h', Instr.index, asIntOf, run_underlying ht, h0, getElem?_pos s i.toNat h1, hq]
/-- The address of a field. -/
theorem y_fld {fs : Array Field} {f : Field} {j sz : Nat} (ht : P.underlying t = some (.struct fs)) (hf : fs[j]? = some f) (hz : ∀ w, (sizeOf f.type).run P w = .ok (sz + 1) w) (h : l.ev x = some (.pointer (some ad))) :
    RunV P n l ⟨dst, .fieldAddr t x j, ty, pos, aft, gd⟩ w (.pointer (some (ad.add f.offset))) w := fun a ha => by
  simp [execOp, ha.ev h, Instr.fieldAt, Instr.sureAddr, fieldPlace, run_underlying ht, hf, hz]
theorem y_mkfn {fn : Fn} {fs cs : List Operand} {us vs : List Value} (h : l.evs fs = some us) (h' : l.evs cs = some vs) : RunV P n l ⟨dst, .makeFunc fn fs.toArray cs.toArray, ty, pos, aft, gd⟩ w (.func fn us.toArray vs.toArray) w := fun a ha => by
  simp [execOp, Instr.makeFunc, ha.evs h, ha.evs h']
theorem y_build {ps : List (Nat × Operand)} {us : List (Nat × Value)} (h : l.evp ps = some us) (hb : (Instr.build t us.toArray).run P w = .ok v w) : RunV P n l ⟨dst, .build t ps.toArray, ty, pos, aft, gd⟩ w v w := fun a ha => by
  have := ha.evp h
  simp [execOp, this, hb]
/-- A part of a slice; lo, hi as numbers. -/
theorem y_sl_lh {sz lo hi : Nat} (ht : P.underlying t = some (.slice e)) (hz : ∀ w, (sizeOf e).run P w = .ok sz w) (h : l.ev x = some (.slice A m c)) (h1 : l.ev y = some (.int k (lo : Int))) (h2 : l.ev z = some (.int k' (hi : Int))) (h3 : lo ≤ hi) (h4 : hi ≤ c) :
    RunV P n l ⟨dst, .slice t x (some y) (some z) none, ty, pos, aft, gd⟩ w (.slice (if c = lo then A else A.map (·.add (lo * sz))) (hi - lo) (c - lo)) w := fun a ha => by
  simp [execOp, ha.ev h, ha.ev h1, ha.ev h2, Instr.sliceAt, Instr.slice, run_underlying ht, hz, Instr.sliceBounds, Instr.sliceBound, asIntOf, h3, h4]
theorem y_sl_h {sz hi : Nat} (ht : P.underlying t = some (.slice e)) (hz : ∀ w, (sizeOf e).run P w = .ok sz w) (h : l.ev x = some (.slice A m c)) (h2 : l.ev z = some (.int k' (hi : Int))) (h4 : hi ≤ c) :
    RunV P n l ⟨dst, .slice t x none (some z) none, ty, pos, aft, gd⟩ w (.slice A hi c) w := fun a ha => by
  simp [execOp, ha.ev h, ha.ev h2, Instr.sliceAt, Instr.slice, run_underlying ht, hz, Instr.sliceBounds, Instr.sliceBound, asIntOf, h4]
  intro _; cases A <;> simp [Addr.add]
theorem y_sl_l {sz lo : Nat} (ht : P.underlying t = some (.slice e)) (hz : ∀ w, (sizeOf e).run P w = .ok sz w) (h : l.ev x = some (.slice A m c)) (h2 : l.ev y = some (.int k' (lo : Int))) (h4 : lo ≤ m) :
    RunV P n l ⟨dst, .slice t x (some y) none none, ty, pos, aft, gd⟩ w (.slice (if c = lo then A else A.map (·.add (lo * sz))) (m - lo) (c - lo)) w := fun a ha => by
  simp [execOp, ha.ev h, ha.ev h2, Instr.sliceAt, Instr.slice, run_underlying ht, hz, Instr.sliceBounds, Instr.sliceBound, asIntOf, h4]
/-- A whole array as a slice. -/
theorem y_sl_arr {sz len : Nat} (ht : P.underlying t = some (.array len e)) (hz : ∀ w, (sizeOf e).run P w = .ok sz w) (h : l.ev x = some (.pointer (some ad))) :
    RunV P n l ⟨dst, .slice t x none none none, ty, pos, aft, gd⟩ w (.slice (some ad) len len) w := fun a ha => by
  simp [execOp, ha.ev h, Instr.sliceAt, Instr.sureAddr, run_underlying ht, hz, Instr.sliceBounds, Instr.sliceBound]
  intro _; simp [Addr.add]
/-- A part of a string. -/
theorem y_str_lh {lo hi : Nat} (ht : P.underlying t = some .string) (h : l.ev x = some (.string s)) (h1 : l.ev y = some (.int k (lo : Int))) (h2 : l.ev z = some (.int k' (hi : Int))) (h3 : lo ≤ hi) (h4 : hi ≤ s.size) :
    RunV P n l ⟨dst, .slice t x (some y) (some z) none, ty, pos, aft, gd⟩ w (.string (s.extract lo hi)) w := fun a ha => by
  simp [execOp, ha.ev h, ha.ev h1, ha.ev h2, Instr.sliceAt, Instr.slice, run_underlying ht, Instr.sliceBounds, Instr.sliceBound, asIntOf, h3, h4]
theorem y_str_h {hi : Nat} (ht : P.underlying t = some .string) (h : l.ev x = some (.string s)) (h2 : l.ev z = some (.int k' (hi : Int))) (h4 : hi ≤ s.size) :
    RunV P n l ⟨dst, .slice t x none (some z) none, ty, pos, aft, gd⟩ w (.string (s.extract 0 hi)) w := fun a ha => by
  simp [execOp, ha.ev h, ha.ev h2, Instr.sliceAt, Instr.slice, run_underlying ht, Instr.sliceBounds, Instr.sliceBound, asIntOf, h4]
theorem y_str_l {lo : Nat} (ht : P.underlying t = some .string) (h : l.ev x = some (.string s)) (h2 : l.ev y = some (.int k' (lo : Int))) (h4 : lo ≤ s.size) :
    RunV P n l ⟨dst, .slice t x (some y) none none, ty, pos, aft, gd⟩ w (.string (s.extract lo s.size)) w := fun a ha => by
  simp [execOp, ha.ev h, ha.ev h2, Instr.sliceAt, Instr.slice, run_underlying ht, Instr.sliceBounds, Instr.sliceBound, asIntOf, h4]
end
end Go.Proofs.YtmnnbnajnfdncaaDoor.E
