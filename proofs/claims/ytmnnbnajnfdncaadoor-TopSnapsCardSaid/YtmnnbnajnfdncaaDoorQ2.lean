/- Plain law: what was written as bytes is taken from them. -/
import Derived.Test.YtmnnbnajnfdncaaDoorSnapf
set_option linter.unusedVariables false
set_option linter.unusedSimpArgs false
namespace Go.Proofs.YtmnnbnajnfdncaaDoor
open Go.RowKit E
theorem ba_left (a b : ByteArray) : (a ++ b).extract 0 a.size = a := by
  apply ByteArray.ext
  simp
theorem ba_right (a b : ByteArray) : (a ++ b).extract a.size (a ++ b).size = b := by
  apply ByteArray.ext
  simp [ByteArray.size_append]
  have h1 : a.data.extract a.size (a.size + b.size) = #[] := Array.eq_empty_of_size_eq_zero (by rw [Array.size_extract]; show min (a.size + b.size) a.size - a.size = 0; omega)
  have h2 : b.data.extract 0 b.size = b.data := Array.extract_size
  rw [h1, h2]; simp
theorem ba_get_left {a b : ByteArray} {i : Nat} (h : i < a.size) (h' : i < (a ++ b).size) : (a ++ b)[i] = a[i] := by
  rw [ByteArray.getElem_append_left h]
def noB : ByteArray := ByteArray.mk #[]
/-- A small number's bytes behind the first. -/
def numT (n : Nat) : ByteArray := if n = 0 then noB else ⟨#[UInt8.ofNat n]⟩
theorem numT_size (n : Nat) : (numT n).size = kN n := by unfold numT kN; split <;> rfl
theorem numP_cons (n : Nat) : numP n = (⟨#[UInt8.ofNat (kN n)]⟩ : ByteArray) ++ numT n := by
  unfold numP numT kN; split <;> rfl
theorem numP_rest (n : Nat) (r : ByteArray) : numP n ++ r = (⟨#[UInt8.ofNat (kN n)]⟩ : ByteArray) ++ (numT n ++ r) := by rw [numP_cons, ByteArray.append_assoc]
theorem numP_pos (n : Nat) (r : ByteArray) : 0 < (numP n ++ r).size := by
  rw [numP_rest, ByteArray.size_append]
  show 0 < 1 + _
  omega
theorem numP_ne (n : Nat) (r : ByteArray) : ¬ numP n ++ r = ByteArray.mk #[] := fun e => by
  have := numP_pos n r
  rw [e] at this
  exact absurd this (by decide)
theorem numP_head (n : Nat) (r : ByteArray) (h : 0 < (numP n ++ r).size) : (((numP n ++ r)[0]'h).toNat : Int) = ((kN n : Nat) : Int) := by
  have e : (numP n ++ r)[0]'h = UInt8.ofNat (kN n) := by
    have key : ∀ (x y : ByteArray) (hx : 0 < x.size) (hy : 0 < y.size), x = y → x[0] = y[0] := fun x y hx hy e => by subst e; rfl
    rw [key _ _ h (by rw [← numP_rest]; exact h) (numP_rest n r), ba_get_left (by show 0 < 1; decide)]
    rfl
  rw [e, UInt8.toNat_ofNat']
  rcases kN_cases n with ⟨_, h1⟩ | ⟨_, h1⟩ <;> rw [h1] <;> rfl
theorem numP_tail (n : Nat) (r : ByteArray) : (numP n ++ r).extract 1 (numP n ++ r).size = numT n ++ r := by
  rw [numP_rest]
  exact ba_right ⟨#[UInt8.ofNat (kN n)]⟩ (numT n ++ r)
theorem numT_take (n : Nat) (r : ByteArray) : (numT n ++ r).extract 0 (kN n) = numT n := by
  rw [← numT_size]; exact ba_left _ _
theorem numT_drop (n : Nat) (r : ByteArray) : (numT n ++ r).extract (kN n) (numT n ++ r).size = r := by
  rw [← numT_size]; exact ba_right _ _
theorem numT_val {n : Nat} (h : n < 256) : valP (numT n) = n := by
  unfold numT
  split
  · rename_i h0; subst h0; rfl
  · show (0 * 256 + (UInt8.ofNat n).toNat) = n
    rw [UInt8.toNat_ofNat']
    omega
theorem numT_first {n : Nat} (h : n < 256) (h0 : 0 < n) (r : ByteArray) (h1 : 0 < (numT n ++ r).size) : (((numT n ++ r)[0]'h1).toNat : Int) = ((n : Nat) : Int) := by
  have hs : 0 < (numT n).size := by rw [numT_size]; rcases kN_cases n with ⟨h2, _⟩ | ⟨_, h2⟩ <;> omega
  rw [ba_get_left hs]
  have e : (numT n)[0] = UInt8.ofNat n := by
    have key : ∀ (x y : ByteArray) (hx : 0 < x.size) (hy : 0 < y.size), x = y → x[0] = y[0] := fun x y hx hy e => by subst e; rfl
    have e1 : numT n = ⟨#[UInt8.ofNat n]⟩ := by unfold numT; rw [if_neg (by omega)]
    rw [key _ _ hs (by show 0 < 1; decide) e1]; rfl
  rw [e, UInt8.toNat_ofNat']
  omega
theorem fix4_val {n : Nat} (h : n < 4294967296) : valP (fixP n 4) = n := by
  show (((0 * 256 + (UInt8.ofNat (n / 256 ^ 3)).toNat) * 256 + (UInt8.ofNat (n / 256 ^ 2)).toNat) * 256 + (UInt8.ofNat (n / 256 ^ 1)).toNat) * 256 + (UInt8.ofNat (n / 256 ^ 0)).toNat = n
  simp only [UInt8.toNat_ofNat']
  omega
theorem frame_len (p : ByteArray) : (frameP p).extract 0 4 = fixP p.size 4 := by
  unfold frameP
  rw [ByteArray.append_assoc]
  have := ba_left (fixP p.size 4) (fixP (crcP (fixP p.size 4 ++ p)).toNat 2 ++ p)
  rw [fixP_size] at this
  exact this
theorem frame_mid (p : ByteArray) : (frameP p).extract 6 (6 + p.size) = p := by
  unfold frameP
  have h1 : (fixP p.size 4 ++ fixP (crcP (fixP p.size 4 ++ p)).toNat 2).size = 6 := by rw [ByteArray.size_append, fixP_size, fixP_size]
  have := ba_right (fixP p.size 4 ++ fixP (crcP (fixP p.size 4 ++ p)).toNat 2) p
  have h2 : (fixP p.size 4 ++ fixP (crcP (fixP p.size 4 ++ p)).toNat 2 ++ p).size = 6 + p.size := by rw [ByteArray.size_append, h1]
  rw [h2, h1] at this
  exact this
theorem frame_all (p : ByteArray) : (frameP p).extract 0 (6 + p.size) = frameP p := by
  rw [← frameP_size]; exact ByteArray.extract_zero_size
theorem frame_end (p : ByteArray) : (frameP p).extract (6 + p.size) (frameP p).size = noB := by
  rw [frameP_size]
  show _ = ByteArray.empty
  rw [ByteArray.extract_eq_empty_iff]
  omega
theorem oneP_eq : oneP = numP 1 ++ numP 1 := by decide +kernel
theorem bytesP_eq (i : Nat) (s : ByteArray) : bytesP i s = numP i ++ (numP 0 ++ (numP 1 ++ (numP 1 ++ (numP s.size ++ (s ++ noB))))) := by
  have e : s ++ noB = s := by
    show s ++ ByteArray.empty = s
    simp
  unfold bytesP textP
  rw [oneP_eq, e]
  simp only [ByteArray.append_assoc]
end Go.Proofs.YtmnnbnajnfdncaaDoor
