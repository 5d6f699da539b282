/- Plain functions: what is put away, step by step. -/
import Derived.Test.YtmnnbnajnfdncaaDoorSnapj
set_option linter.unusedVariables false
set_option linter.unusedSimpArgs false
namespace Go.Proofs.YtmnnbnajnfdncaaDoor
open Go.RowKit E
def okD (d : DiskD) : Prop := checkD d = true ∧ d.down = false ∧ (-1 ≤ d.fuse ∧ d.fuse ≤ 9223372036854775807)
def okAdd (name data : ByteArray) (d : DiskD) : Prop := okD d ∧ namedF name = true ∧ hasB (namesF d.files) name = false ∧ d.files.length < 4096 ∧ data.size ≤ 1000000
def okSync (name : ByteArray) (d : DiskD) : Prop := okD d ∧ hasB (namesF d.files) name = true
def okSwap (name to : ByteArray) (d : DiskD) : Prop := okD d ∧ hasB (namesF d.files) name = true ∧ namedF to = true ∧ ∀ hi : posB (namesF d.files) name < d.files.length, (d.files[posB (namesF d.files) name].data.size : Int) ≤ d.files[posB (namesF d.files) name].synced
/-- A step: which function, what it holds, what it makes of a disk, and when. -/
structure StepD where
  f : Nat
  cap : List Value
  run : DiskD → DiskD × Int
  pre : DiskD → Prop
def StepD.val (s : StepD) : Value := .func (.func s.f) #[] s.cap.toArray
def allP : List StepD → DiskD → DiskD × Int
  | [], d => (d, 0)
  | s :: r, d => if (s.run d).2 = 0 then allP r (s.run d).1 else s.run d
def allOk : List StepD → DiskD → Prop
  | [], _ => True
  | s :: r, d => s.pre d ∧ ((s.run d).2 = 0 → allOk r (s.run d).1)
/-- What a call that gives a disk and a number answers. -/
def RetD (x : DiskD × Int) (w : World) : Ending → World → Prop := Ret fun u w' => (∃ cs', u = .tuple #[.agg cs'.toArray, .int .i64 x.2] ∧ RDisk (Tk w') w' cs' x.1) ∧ Ext w w'
def StepD.good (w : World) (s : StepD) : Prop :=
  (∀ (args : Array Value) (w : World), (callFunc s.f args).run Tryd.prog w = .ok (.enter s.f args) w) ∧
  ∀ {F : FP} {w' : World} {cs : List Value} {d : DiskD}, Ext w w' → RDisk F w' cs d → s.pre d → Calls Tryd.prog s.f ([Value.agg cs.toArray] ++ s.cap).toArray w' (RetD (s.run d) w')
theorem drop_cons {α : Type} {l : List α} {k : Nat} (h : k < l.length) : l.drop k = l[k] :: l.drop (k + 1) := List.drop_eq_getElem_cons h
def dotTmp : ByteArray := ⟨#[46, 116, 109, 112]⟩
def snapN : ByteArray := ⟨#[115, 110, 97, 112]⟩
def putSteps (B8 B5 B4 : Nat) (tmp name data : ByteArray) : List StepD :=
  [⟨38, [.pointer (some ⟨B8, 0, none⟩), .pointer (some ⟨B5, 0, none⟩)], fun d => addP d tmp data, okAdd tmp data⟩,
   ⟨39, [.pointer (some ⟨B8, 0, none⟩)], fun d => syncP d tmp, okSync tmp⟩,
   ⟨41, [.pointer (some ⟨B8, 0, none⟩), .pointer (some ⟨B4, 0, none⟩)], fun d => swapP d tmp name, okSwap tmp name⟩]
def put3 (tmp name data : ByteArray) (d : DiskD) : DiskD × Int := allP (putSteps 0 0 0 tmp name data) d
def ok3 (tmp name data : ByteArray) (d : DiskD) : Prop := allOk (putSteps 0 0 0 tmp name data) d
def putP (d : DiskD) (name data : ByteArray) : DiskD × Int :=
  if (readP d (name ++ dotTmp)).2 = 0 then (if (dropP d (name ++ dotTmp)).2 = 0 then put3 (name ++ dotTmp) name data (dropP d (name ++ dotTmp)).1 else dropP d (name ++ dotTmp)) else put3 (name ++ dotTmp) name data d
def okPut (d : DiskD) (name data : ByteArray) : Prop :=
  ((readP d (name ++ dotTmp)).2 = 0 → okSync (name ++ dotTmp) d ∧ ((dropP d (name ++ dotTmp)).2 = 0 → ok3 (name ++ dotTmp) name data (dropP d (name ++ dotTmp)).1)) ∧ (¬ (readP d (name ++ dotTmp)).2 = 0 → ok3 (name ++ dotTmp) name data d)
theorem put3_eq (B8 B5 B4 : Nat) (tmp name data : ByteArray) (d : DiskD) : allP (putSteps B8 B5 B4 tmp name data) d = put3 tmp name data d := rfl
theorem ok3_eq (B8 B5 B4 : Nat) (tmp name data : ByteArray) (d : DiskD) : allOk (putSteps B8 B5 B4 tmp name data) d = ok3 tmp name data d := rfl
theorem of_readP {d : DiskD} {name : ByteArray} (h : (readP d name).2 = 0) : checkD d = true ∧ d.down = false ∧ hasB (namesF d.files) name = true := by
  unfold readP at h
  cases h1 : checkD d with
  | false => rw [if_pos h1] at h; exact absurd h (by decide)
  | true =>
    rw [if_neg (by rw [h1]; decide)] at h
    cases h2 : d.down with
    | true => rw [if_pos h2] at h; exact absurd h (by decide)
    | false =>
      rw [if_neg (by rw [h2]; decide)] at h
      cases h3 : hasB (namesF d.files) name with
      | true => exact ⟨rfl, rfl, rfl⟩
      | false => rw [if_pos h3] at h; exact absurd h (by decide)
end Go.Proofs.YtmnnbnajnfdncaaDoor
