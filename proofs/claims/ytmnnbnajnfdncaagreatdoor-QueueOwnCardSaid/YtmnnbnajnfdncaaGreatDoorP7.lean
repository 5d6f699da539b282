/- Plain law: the answers that 'lives' asks for. -/
import Derived.Test.YtmnnbnajnfdncaaGreatDoorP6
set_option linter.unusedVariables false
namespace Go.Proofs.YtmnnbnajnfdncaaGreatDoor
open Go.RowKit E
def bN : ByteArray := ⟨#[110]⟩
def bA : ByteArray := ⟨#[97]⟩
def bB : ByteArray := ⟨#[98]⟩
def noNodeD : NodeD := ⟨noText, 0, 0, 0, [], []⟩
def noTaskD : TaskD := ⟨noText, 0, 0, 0, [], [], noText, noText, 0⟩
def ord : Nat → OrderD
  | 0 => ⟨1, ⟨bN, 5, 0, 0, [], []⟩, noTaskD, noText, noText, 0⟩
  | 1 => ⟨3, noNodeD, ⟨bA, 3, 0, 0, [], [], noText, noText, 0⟩, noText, noText, 0⟩
  | 2 => ⟨3, noNodeD, ⟨bB, 3, 0, 0, [], [], noText, noText, 0⟩, noText, noText, 0⟩
  | 3 => ⟨5, noNodeD, noTaskD, bA, bN, 0⟩
  | 4 => ⟨5, noNodeD, noTaskD, bB, bN, 0⟩
  | 5 => ⟨7, noNodeD, noTaskD, bA, noText, 0⟩
  | _ => ⟨5, noNodeD, noTaskD, bB, bN, 2⟩
def bk : Nat → BookD
  | 0 => noBook
  | k + 1 => (doP (bk k) (ord k)).1
theorem bk_why : ∀ k, k < 4 → (doP (bk k) (ord k)).2.1 = 0
  | 0, _ => by decide +kernel
  | 1, _ => by decide +kernel
  | 2, _ => by decide +kernel
  | 3, _ => by decide +kernel
theorem bk_full : (doP (bk 4) (ord 4)).2.1 = 13 := by decide +kernel
theorem bk_look : (doP (bk 4) (ord 5)).2.1 = 0 ∧ (doP (bk 4) (ord 5)).2.2 = bN := by decide +kernel
theorem bk_lead : (leadP (bk 4) 3).2 = 0 := by decide +kernel
theorem bk_fence : (doP (leadP (bk 4) 3).1 (ord 6)).2.1 = 14 := by decide +kernel
theorem bk_two : (bk 4).tasks.length = 2 := by decide +kernel
end Go.Proofs.YtmnnbnajnfdncaaGreatDoor
