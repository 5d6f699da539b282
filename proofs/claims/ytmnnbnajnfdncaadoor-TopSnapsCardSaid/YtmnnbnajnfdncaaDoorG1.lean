/- Plain data of the disk, and what it is that a value in memory reads as it. -/
import Derived.Test.YtmnnbnajnfdncaaDoorD6
import Derived.Test.YtmnnbnajnfdncaaDoorP6
set_option linter.unusedVariables false
set_option linter.unusedSimpArgs false
namespace Go.Proofs.YtmnnbnajnfdncaaDoor
open Go.RowKit E
structure FileD where
  name : ByteArray
  data : ByteArray
  synced : Int
  deriving DecidableEq
structure DiskD where
  files : List FileD
  down : Bool
  fuse : Int
  deriving DecidableEq
structure ChgD where
  kind : Int
  name : ByteArray
  to : ByteArray
  data : ByteArray
  size : Int
structure SnapD where
  index : Int
  term : Int
  members : List Int
  data : ByteArray
  deriving DecidableEq
def RFile (_F : FP) (_w : World) (cs : List Value) (x : FileD) : Prop := cs = [.string x.name, .string x.data, .int .i64 x.synced]
theorem RFile.goes : Goes RFile := ⟨fun h _ => h, fun h _ => h⟩
theorem RFile.one {F : FP} {w : World} {cs : List Value} {x : FileD} (h : RFile F w cs x) : ∀ u ∈ cs, u.oneCell' = true := by
  unfold RFile at h; subst h; exact allOne rfl
abbrev RFiles (F : FP) (w : World) (v : Value) (xs : List FileD) : Prop := RdS F w 51 3 40 RFile v xs
abbrev RInts (F : FP) (w : World) (v : Value) (xs : List Int) : Prop := RdS F w 3 1 8 (RInt .i64) v xs
def RDisk (F : FP) (w : World) (cs : List Value) (d : DiskD) : Prop := ∃ v, cs = [v, .bool d.down, .int .i64 d.fuse] ∧ RFiles F w v d.files
def RSnap (F : FP) (w : World) (cs : List Value) (s : SnapD) : Prop := ∃ v, cs = [.int .u64 s.index, .int .u64 s.term, v, .string s.data] ∧ RInts F w v s.members
theorem RDisk.goes : Goes RDisk := ⟨fun ⟨v, h1, h2⟩ hs => ⟨v, h1, h2.stays RFile.goes hs⟩, fun ⟨v, h1, h2⟩ hs => ⟨v, h1, h2.mono RFile.goes hs⟩⟩
theorem RSnap.goes : Goes RSnap := ⟨fun ⟨v, h1, h2⟩ hs => ⟨v, h1, h2.stays (RInt.goes .i64) hs⟩, fun ⟨v, h1, h2⟩ hs => ⟨v, h1, h2.mono (RInt.goes .i64) hs⟩⟩
theorem RDisk.ext {F : FP} {w w' : World} {cs : List Value} {d : DiskD} (h : RDisk F w cs d) (hX : Ext w w') : RDisk F w' cs d := RDisk.goes.stays h (Stays.ext hX)
theorem RSnap.ext {F : FP} {w w' : World} {cs : List Value} {d : SnapD} (h : RSnap F w cs d) (hX : Ext w w') : RSnap F w' cs d := RSnap.goes.stays h (Stays.ext hX)
theorem RDisk.any {F : FP} {w : World} {cs : List Value} {d : DiskD} (h : RDisk F w cs d) : RDisk Any w cs d := RDisk.goes.mono h (fun _ _ _ => trivial)
abbrev OFiles (base : Nat) (w : World) (v : Value) (xs : List FileD) (news : List Value) : Prop := OwnS RFile base w 51 3 v xs news
theorem OFiles.keeps {base : Nat} {w w' : World} {S : Nat → Prop} {v : Value} {xs : List FileD} {nn : List Value} (h : OFiles base w v xs nn) (hk : Keeps S w w') (h1 : S 51) : OFiles base w' v xs nn := OwnS.keeps h hk h1 fun cs x hx => hx
abbrev namesF (l : List FileD) : List ByteArray := l.map FileD.name
end Go.Proofs.YtmnnbnajnfdncaaDoor
