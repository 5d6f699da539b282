/- The engine, ninth part: bits; rows of bytes made, and turned to text. -/
import Derived.Test.YtmnnbnajnfdncaaDoorG1
import Derived.Laws.MakeOwn
import Derived.Laws.IdiomStrings
import Derived.Lib.Builder
import Derived.Lib.AppendStr
import Derived.Lib.UnsafeStr
set_option linter.unusedVariables false
set_option linter.unusedSimpArgs false
namespace Go.Proofs.YtmnnbnajnfdncaaDoor.E
open Go.RowKit
variable {P : Program} {n : Nat} {l : Fr} {w w' w0 : World} {Q : Exit → Act → World → Prop}
variable {ops rest : List Oper} {dst : Option Tmp} {ty : TypeId} {pos : String} {aft : Array Edge} {gd : Option (Nat × Bool)} {v : Value}
variable {x y z : Operand} {t t' T e : TypeId} {base : Nat} {bl : Bxs} {d : Nat} {k k' : IntKind} {p q : Int}
def xorI (k : IntKind) (p q : Int) : Int := k.wrap (BitVec.ofInt k.bits p ^^^ BitVec.ofInt k.bits q).toNat
def orB (k : IntKind) (p q : Int) : Int := k.wrap (BitVec.ofInt k.bits p ||| BitVec.ofInt k.bits q).toNat
theorem y_xor (h : l.ev x = some (.int k p)) (h' : l.ev y = some (.int k q)) : RunV P n l ⟨dst, .binOp .xor t x y t', ty, pos, aft, gd⟩ w (.int k (xorI k p q)) w :=
  y_arith (by simp [binOp, Op.intBits, xorI]) (fun _ _ => rfl) h h'
theorem y_or (h : l.ev x = some (.int k p)) (h' : l.ev y = some (.int k q)) : RunV P n l ⟨dst, .binOp .or t x y t', ty, pos, aft, gd⟩ w (.int k (orB k p q)) w :=
  y_arith (by simp [binOp, Op.intBits, orB]) (fun _ _ => rfl) h h'
theorem y_mulw (h : l.ev x = some (.int k p)) (h' : l.ev y = some (.int k q)) : RunV P n l ⟨dst, .binOp .mul t x y t', ty, pos, aft, gd⟩ w (.int k (k.wrap (p * q))) w :=
  y_arith (by simp [binOp, Op.intArith]) (fun _ _ => rfl) h h'
def byteV (b : UInt8) : Value := .int .u8 (b.toNat : Int)
theorem bytes_one (l : List UInt8) : ∀ u ∈ l.map byteV, u.oneCell' = true := by
  intro u hu
  obtain ⟨b, _, rfl⟩ := List.mem_map.1 hu
  rfl
/-- Bytes made: all zero. -/
theorem WL.mkbytes {i : TypeInfo} {kl kc : IntKind} {m : Nat} (hb : Bx base w0 w bl) (ht : P.underlying t = some (.slice e)) (hi : P.info? e = some i) (hz : i.zero = some (.int .u8 0)) (hsz : i.size = 1) (hby : i.bytes = 1) (hx : l.ev x = some (.int kl (m : Int))) (hy : l.ev y = some (.int kc (m : Int))) (hm : m ≤ 1024) (hg : want ops l gd = some true) (hn : Nat.blt d n = true)
    (kk : ∀ B w', Bx base w0 w' ((B, (List.replicate m 0).map byteV, e) :: bl) → Ext w w' → B = w.heap.size → WL P n ops Q rest ((d, .slice (some ⟨B, 0, none⟩) m m) :: l) w') : WL P n ops Q (⟨some d, .makeSlice t x y, ty, pos, aft, gd⟩ :: rest) l w := by
  have hr := run_make (P := P) w t e i (.int .u8 0) ht hi hz kl kc m m (by omega) (by omega) (by rw [hby]; omega) (by omega)
  rw [hsz, Int.toNat_natCast, Nat.mul_one] at hr
  have e1 : madeCells (Value.int .u8 0).cells m = ((List.replicate m 0).map byteV).toArray := by
    apply Array.ext'
    rw [show (Value.int .u8 0).cells = #[.int .u8 0] from rfl, toList_madeCells_one]
    simp [byteV]
  rw [e1] at hr
  exact WL.val (v := .slice (some ⟨w.heap.size, 0, none⟩) m m) (w' := w.alloc (.cells ((List.replicate m 0).map byteV).toArray e)) (fun a ha => by simp [execOp, ha.ev hx, ha.ev hy, hr]) hg rfl hn (kk _ _ (hb.alloc _ e) (Ext.alloc w _) rfl)
/-- Bytes as a text. -/
theorem y_bytes {a : Addr} {c m : Nat} {bs : List UInt8} (hs : P.underlying t = some (.slice e)) (he : P.underlying e = some (.int .u8)) (hd : P.underlying t' = some .string) (hx : l.ev x = some (.slice (some a) m c)) (hm : bs.length = m) (hat : At w a (bs.map byteV)) :
    RunV P n l ⟨dst, .convert t t' x, ty, pos, aft, gd⟩ w (.string ⟨bs.toArray⟩) w := fun ac ha => by
  subst hm
  have hr := run_convert_bytes_back (P := P) w t t' e a c bs hs he hd (fun j hj => hat j _ (by rw [List.getElem?_map, List.getElem?_eq_getElem hj]; rfl))
  simp [execOp, ha.ev hx, hr]
/-- Either of two may come up. -/
theorem DL.two {C : World → Prop} {N : Nat → Bool} {o o' : Oper} {fuel : Nat} {listed : Array Bool} (i j : Nat) (hi : nth ops i = some o) (hj : nth ops j = some o') (hr : Region.ready .any ops.toArray listed = [i, j])
    (h : Shut ops.toArray (listed.setIfInBounds i true) → WL P n ops (Exit.then (DK P n ops Q C N fuel listed i) Q) [o] l w)
    (h' : Shut ops.toArray (listed.setIfInBounds j true) → WL P n ops (Exit.then (DK P n ops Q C N fuel listed j) Q) [o'] l w) : DL P n ops Q C N (fuel + 1) listed l w := by
  intro hsh a ha
  have hi' : ops.toArray[i]? = some o := by rw [← nth_eq]; exact hi
  have hj' : ops.toArray[j]? = some o' := by rw [← nth_eq]; exact hj
  refine ⟨fun h0 => (by rw [hr] at h0; cases h0), fun k hk => ?_⟩
  have hk2 := hk
  rw [hr] at hk
  simp only [List.mem_cons, List.not_mem_nil, or_false] at hk
  rcases hk with rfl | rfl
  · exact wpOp_of_list hi' (h (hsh.set hk2) a ha)
  · exact wpOp_of_list hj' (h' (hsh.set hk2) a ha)
theorem KQ.ret3 {fn : Func} {R : Ending → World → Prop} {t u s : Nat} {v x z : Value} (hr : fn.results = #[.tmp t, .tmp u, .tmp s]) (hv : l.get t = some v) (hx : l.get u = some x) (hz : l.get s = some z) (h : R (.returned (.tuple #[v, x, z])) w) : KQ n (bodyPost P fn R) .ret l w := by
  intro a ha
  refine ⟨ha.defers, _, ?_, h⟩
  simp [results, hr, Array.getD_eq_getD_getElem?, ha.get t v hv, ha.get u x hx, ha.get s z hz]
end Go.Proofs.YtmnnbnajnfdncaaDoor.E
