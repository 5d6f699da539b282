/- The engine, sixth part: slices that are of one's own: append, copy, clear; a slice against nil. -/
import Derived.Test.YtmnnbnajnfdncaaDoorE5
import Derived.Laws.AppendOwn
import Derived.Laws.OwnMore
import Derived.Lib.Overlaps
set_option linter.unusedVariables false
set_option linter.unusedSimpArgs false
namespace Go.Proofs.YtmnnbnajnfdncaaDoor.E
open Go.RowKit
variable {P : Program} {n : Nat} {l : Fr} {w w' w0 : World} {Q : Exit → Act → World → Prop}
variable {ops rest : List Oper} {dst : Option Tmp} {ty : TypeId} {pos : String} {aft : Array Edge} {gd : Option (Nat × Bool)} {v : Value}
variable {x y z : Operand} {t t' T e : TypeId} {base : Nat} {bl : Bxs} {d : Nat}
theorem ownsRow_ext {B : Nat} {k : Nat} {m : Nat} {xs : List Value} (h : w.ownsRow B e k v m xs) (hb : Ext w w') : w'.ownsRow B e k v m xs :=
  h.kept (row := none) ⟨hb.os, hb.tape, hb.output, hb.size, fun i hi _ => hb.block i hi⟩ (by cases v.ownBlock <;> simp)
theorem grown_below {B : Nat} {row : Option Nat} (h : Below B w0 w) (hg : w.grownBy w' row) (hs : B ≤ w.heap.size) (hr : ∀ k, row = some k → B ≤ k) : Below B w0 w' :=
  h.trans ⟨hg.os, hg.tape, hg.output, hg.size, fun i hi => hg.block i (by omega) (fun e => by have := hr i e.symm; omega)⟩
theorem y_snil {t' : TypeId} {A : Option Addr} {m c m' c' : Nat} (ht : P.underlying t = some (.slice e)) (h : l.ev x = some (.slice A m c)) (h' : l.ev y = some (.slice none m' c')) : RunV P n l ⟨dst, .binOp .eql t x y t', ty, pos, aft, gd⟩ w (.bool A.isNone) w :=
  y_op2 (by simp only [binOp]; simp [Op.equal, Op.maxDepth, Lib.run_equalIn_slice_nil w 9999 t e A m c m' c' ht]) (by rw [eqGuard_at_slice]; rfl) h h'
/-- append to a slice of one's own. -/
theorem WL.append {i : TypeInfo} {z0 : Value} {size bytes : Nat} (ht : P.underlying t = some (.slice e)) (hi : P.info? e = some i) (hz : i.zero = some z0) (hsize : i.size = size) (hby : i.bytes = bytes) (hzs : z0.cells.size = size) (hsz : 0 < size)
    {m c k : Nat} {xs news : List Value} {ad : Addr} (hs : l.ev x = some v) (hx : l.ev y = some (.slice (some ad) m c)) (own : w.ownsRow base e size v k xs) (hnews : At w ad news) (hl : news.length = m * size) (h1 : ∀ u ∈ news, u.oneCell' = true)
    (hbytes : (k + m) * bytes ≤ 140737488355328) (hb0 : 0 < bytes) (hbase : base ≤ w.heap.size) (hg : want ops l gd = some true) (hn : Nat.blt d n = true)
    (kk : ∀ v' w', w'.ownsRow base e size v' (k + m) (xs ++ news) → w.grownBy w' v.ownBlock → (v' = .slice none 0 0 ↔ v = .slice none 0 0 ∧ m = 0) → WL P n ops Q rest ((d, v') :: l) w') :
    WL P n ops Q (⟨some d, .call ⟨.builtin .append, #[x, y], #[t, t]⟩, ty, pos, aft, gd⟩ :: rest) l w := by
  have h63 : k + m ≤ maxLen := by
    have := Nat.le_mul_of_pos_right (k + m) hb0
    simp only [maxLen]; omega
  obtain ⟨v', w', hr, h2, h3, h4⟩ := run_append_own (P := P) w base t ty e i z0 size bytes ht hi hz hsize hby hzs hsz v k xs own ad m c news hl hnews h1 h63 hbytes hbase
  exact WL.val (v := v') (w' := w') (fun a ha => by
    simp [execOp, resolve, invoke, builtin, ha.ev hs, ha.ev hx, hr]) hg rfl hn (kk v' w' h2 h3 h4)
end Go.Proofs.YtmnnbnajnfdncaaDoor.E
