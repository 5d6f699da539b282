/- Plain functions: a disk of files. -/
import Derived.Test.YtmnnbnajnfdncaaDoorG2
set_option linter.unusedVariables false
set_option linter.unusedSimpArgs false
namespace Go.Proofs.YtmnnbnajnfdncaaDoor
open Go.RowKit E
def fileOk (l : List FileD) (i : Nat) : Bool := match l[i]? with
  | none => true
  | some f => (match i with
    | 0 => true
    | j + 1 => match l[j]? with
      | some g => ltB g.name f.name
      | none => true) && (decide (0 ≤ f.synced) && decide (f.synced ≤ f.data.size))
def checkL (l : List FileD) (k : Nat) : Bool := (List.range k).all (fileOk l)
def checkD (d : DiskD) : Bool := checkL d.files d.files.length && decide (d.files.length ≤ 4096)
theorem checkL_succ (l : List FileD) (k : Nat) : checkL l (k + 1) = (checkL l k && fileOk l k) := by
  unfold checkL
  rw [List.range_succ, List.all_append]; simp
theorem fileOk_zero {l : List FileD} (h : 0 < l.length) : fileOk l 0 = (decide (0 ≤ l[0].synced) && decide (l[0].synced ≤ l[0].data.size)) := by
  unfold fileOk; rw [List.getElem?_eq_getElem h]; simp
theorem fileOk_pos {l : List FileD} {k : Nat} (h0 : ¬ k = 0) (h : k < l.length) (h1 : k - 1 < l.length) : fileOk l k = (ltB l[k - 1].name l[k].name && (decide (0 ≤ l[k].synced) && decide (l[k].synced ≤ l[k].data.size))) := by
  obtain ⟨j, rfl⟩ : ∃ j, k = j + 1 := ⟨k - 1, by omega⟩
  unfold fileOk; rw [List.getElem?_eq_getElem h]
  simp only [List.getElem?_eq_getElem (show j < l.length by omega)]
  rfl
theorem checkD_len {d : DiskD} (h : checkD d = true) : d.files.length ≤ 4096 := by
  unfold checkD at h; simp only [Bool.and_eq_true, decide_eq_true_eq] at h; exact h.2
theorem checkD_at {d : DiskD} (h : checkD d = true) {i : Nat} (hi : i < d.files.length) : 0 ≤ d.files[i].synced ∧ d.files[i].synced ≤ d.files[i].data.size := by
  unfold checkD checkL at h
  simp only [Bool.and_eq_true] at h
  have := List.all_eq_true.1 h.1 i (List.mem_range.2 hi)
  rcases Nat.eq_zero_or_pos i with h0 | h0
  · subst h0
    rw [fileOk_zero hi] at this
    simpa using this
  · rw [fileOk_pos (by omega) hi (by omega)] at this
    simp only [Bool.and_eq_true, decide_eq_true_eq] at this
    exact this.2
def readP (d : DiskD) (name : ByteArray) : ByteArray × Int :=
  if checkD d = false then (noB, 10) else if d.down = true then (noB, 8) else if hasB (namesF d.files) name = false then (noB, 6)
  else (match d.files[posB (namesF d.files) name]? with | some f => f.data | none => noB, 0)
def namedF (s : ByteArray) : Bool := !decide (s = noB) && decide (s.size ≤ 32)
def decF (f : Int) : Int := if 0 < f then f - 1 else f
theorem namePos_lt {l : List FileD} {s : ByteArray} (h : hasB (namesF l) s = true) : posB (namesF l) s < l.length := by
  have := hasB_lt h; simpa using this
theorem namePos_le (l : List FileD) (s : ByteArray) : posB (namesF l) s ≤ l.length := by
  have := posB_le (namesF l) s; simpa using this
/-- What a change makes of a disk that is right, is not down, and may be changed so. -/
def addP (d : DiskD) (name data : ByteArray) : DiskD × Int :=
  let fs := putAt (posB (namesF d.files) name) ⟨name, data, 0⟩ d.files
  if d.fuse = 0 then (⟨fs, true, d.fuse⟩, 8) else (⟨fs, d.down, decF d.fuse⟩, 0)
def setSync (l : List FileD) (i : Nat) : List FileD := match l[i]? with | some f => l.set i ⟨f.name, f.data, f.data.size⟩ | none => l
def syncP (d : DiskD) (name : ByteArray) : DiskD × Int :=
  if d.fuse = 0 then (⟨d.files, true, d.fuse⟩, 8) else (⟨setSync d.files (posB (namesF d.files) name), d.down, decF d.fuse⟩, 0)
def dropP (d : DiskD) (name : ByteArray) : DiskD × Int :=
  if d.fuse = 0 then (⟨d.files, true, d.fuse⟩, 8) else (⟨dropAt (posB (namesF d.files) name) d.files, d.down, decF d.fuse⟩, 0)
def moved (l : List FileD) (i : Nat) (to : ByteArray) : List FileD := match l[i]? with
  | some f => if hasB (namesF (dropAt i l)) to = true then (dropAt i l).set (posB (namesF (dropAt i l)) to) ⟨to, f.data, f.synced⟩ else putAt (posB (namesF (dropAt i l)) to) ⟨to, f.data, f.synced⟩ (dropAt i l)
  | none => l
def swapP (d : DiskD) (name to : ByteArray) : DiskD × Int :=
  if d.fuse = 0 then (⟨d.files, true, d.fuse⟩, 8) else (⟨moved d.files (posB (namesF d.files) name) to, d.down, decF d.fuse⟩, 0)
end Go.Proofs.YtmnnbnajnfdncaaDoor
