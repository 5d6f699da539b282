/- What 'lives' of the queue's law asks: a small book, in memory, and the answers. -/
import Derived.Test.YtmnnbnajnfdncaaGreatDoorQueue4
import Derived.Test.YtmnnbnajnfdncaaGreatDoorQueue3
set_option linter.unusedVariables false
set_option linter.unusedSimpArgs false
namespace Go.Proofs.YtmnnbnajnfdncaaGreatDoor
open Go.RowKit E
def qX : ByteArray := ⟨#[120]⟩
def qO : ByteArray := ⟨#[111]⟩
def qC : ByteArray := ⟨#[99]⟩
def qZ : ByteArray := ⟨#[122]⟩
def qA : TaskD := ⟨bA, 0, 0, 0, [], [], noText, noText, 5⟩
def qB : TaskD := ⟨bB, 0, 0, 0, [], [], noText, noText, 5⟩
def qCt : TaskD := ⟨qC, 0, 0, 0, [], [], noText, noText, 1⟩
def bQ : BookD := ⟨[⟨bN, 0, 0, 0, [], []⟩, ⟨qO, 0, 0, 0, [], [⟨qX, noText⟩]⟩], [qA, qB, qCt], [], 0⟩
theorem bQ_check : checkB bQ = true := by decide +kernel
theorem bQ_waits : waitsP bQ = [qA, qB, qCt] := by decide +kernel
theorem bQ_free : freeQ bQ bA = ([bN], 0) := by decide +kernel
theorem bQ_none : (freeQ bQ qZ).2 = 6 := by decide +kernel
theorem sorted_one {xs : List TaskD} (hp : xs.Perm [qA, qB, qCt]) (hs : SortedT xs) : xs = [qA, qB, qCt] := by
  have hl : xs.length = 3 := hp.length_eq
  have hlt : ∀ i j (hi : i < xs.length) (hj : j < xs.length), i < j → ltT xs[j] xs[i] = false := hs
  match xs, hl, hlt, hp with
  | [x, y, z], _, hlt, hp =>
    have h01 : ltT y x = false := hlt 0 1 (by simp) (by simp) (by decide)
    have h02 : ltT z x = false := hlt 0 2 (by simp) (by simp) (by decide)
    have h12 : ltT z y = false := hlt 1 2 (by simp) (by simp) (by decide)
    have hx : x = qA ∨ x = qB ∨ x = qCt := by simpa using hp.subset (show x ∈ [x, y, z] by simp)
    have hy : y = qA ∨ y = qB ∨ y = qCt := by simpa using hp.subset (show y ∈ [x, y, z] by simp)
    have hz : z = qA ∨ z = qB ∨ z = qCt := by simpa using hp.subset (show z ∈ [x, y, z] by simp)
    rcases hx with rfl | rfl | rfl <;> rcases hy with rfl | rfl | rfl <;> rcases hz with rfl | rfl | rfl <;>
      first
        | rfl
        | exact absurd h01 (by decide +kernel)
        | exact absurd h02 (by decide +kernel)
        | exact absurd h12 (by decide +kernel)
        | exact absurd hp (by decide +kernel)
section
variable {w : World} {b12 b14 b18 : Nat}
def qN0 : List Value := [.string bN, .int .i64 0, .int .i64 0, .int .i64 0, nilS, nilS]
def qN1 (B : Nat) : List Value := [.string qO, .int .i64 0, .int .i64 0, .int .i64 0, nilS, .slice (some ⟨B, 0, none⟩) 1 1]
def qTc (s : ByteArray) (r : Int) : List Value := [.string s, .int .i64 0, .int .i64 0, .int .i64 0, nilS, nilS, .string noText, .string noText, .int .i64 r]
theorem qT_rd (s : ByteArray) (r : Int) : RTask Any w (qTc s r) ⟨s, 0, 0, 0, [], [], noText, noText, r⟩ := ⟨_, _, rfl, RdS.nil_, RdS.nil_⟩
theorem bQ_rd (h12 : At w ⟨b12, 0, none⟩ [.string qX, .string noText]) (h14 : At w ⟨b14, 0, none⟩ (qN0 ++ qN1 b12)) (h18 : At w ⟨b18, 0, none⟩ (qTc bA 5 ++ (qTc bB 5 ++ qTc qC 1))) :
    RBook Any w [.slice (some ⟨b14, 0, none⟩) 2 2, .slice (some ⟨b18, 0, none⟩) 3 3, .slice none 0 0, .int .u64 0] bQ := by
  have p1 : RPairs Any w (.slice (some ⟨b12, 0, none⟩) 1 1) [⟨qX, noText⟩] :=
    Rows.rdS (xs := [(⟨qX, noText⟩ : PairD)]) (Rows.one (show RPair Any w [.string qX, .string noText] ⟨qX, noText⟩ from rfl) rfl) h12 trivial (Nat.le_refl _) (by decide)
  have n0 : RNode Any w qN0 ⟨bN, 0, 0, 0, [], []⟩ := ⟨_, _, rfl, RdS.nil_, RdS.nil_⟩
  have n1 : RNode Any w (qN1 b12) ⟨qO, 0, 0, 0, [], [⟨qX, noText⟩]⟩ := ⟨_, _, rfl, RdS.nil_, p1⟩
  refine ⟨_, _, _, rfl, ?_, ?_, RdS.nil_⟩
  · exact Rows.rdS (xs := bQ.nodes) ((Rows.one n0 rfl).app (Rows.one n1 rfl)) h14 trivial (Nat.le_refl _) (by decide)
  · exact Rows.rdS (xs := bQ.tasks) ((Rows.one (qT_rd bA 5) rfl).app ((Rows.one (qT_rd bB 5) rfl).app (Rows.one (qT_rd qC 1) rfl))) h18 trivial (Nat.le_refl _) (by decide)
end
theorem RStrs.first {F : FP} {w : World} {A : Option Addr} {m c : Nat} {x : ByteArray} {xs : List ByteArray} (h : RStrs F w (.slice A m c) (x :: xs)) : ∃ p, A = some p ∧ At w (p.add (0 * 1)) [.string x] := by
  obtain ⟨A', c', e, _, _, hg⟩ := h
  injection e with e1 e2 e3
  subst e1
  obtain ⟨p, cs, hA, _, _, hat, hr⟩ := hg 0 x rfl
  have hr' : cs = [.string x] := hr
  subst hr'
  exact ⟨p, hA, hat⟩
end Go.Proofs.YtmnnbnajnfdncaaGreatDoor
