/- Plain functions: numbers, texts and frames as bytes. -/
import Derived.Test.YtmnnbnajnfdncaaDoorE9
set_option linter.unusedVariables false
set_option linter.unusedSimpArgs false
namespace Go.Proofs.YtmnnbnajnfdncaaDoor
open Go.RowKit E
/-! ### One check of all bytes -/
def rnd (c : Int) : Int := xorI .u16 (IntKind.u16.wrap (c * (2 : Int) ^ 1)) (IntKind.u16.wrap (4129 * (c / (2 : Int) ^ 15)))
def rnds : Nat → Int → Int
  | 0, c => c
  | j + 1, c => rnd (rnds j c)
def byteStep (c : Int) (b : UInt8) : Int := rnds 8 (xorI .u16 c (IntKind.u16.wrap ((b.toNat : Int) * (2 : Int) ^ 8)))
def sumL (l : List UInt8) : Int := l.foldl byteStep 65535
def crcP (s : ByteArray) : Int := sumL (bytesOf s)
theorem wrap16 (x : Int) : 0 ≤ IntKind.u16.wrap x ∧ IntKind.u16.wrap x ≤ 65535 := by
  simp [IntKind.wrap, IntKind.bits, IntKind.signed]; omega
theorem rnd_in (c : Int) : 0 ≤ rnd c ∧ rnd c ≤ 65535 := wrap16 _
theorem byteStep_in (c : Int) (b : UInt8) : 0 ≤ byteStep c b ∧ byteStep c b ≤ 65535 := rnd_in _
theorem sumL_in (l : List UInt8) : 0 ≤ sumL l ∧ sumL l ≤ 65535 := by
  unfold sumL
  have key : ∀ (l : List UInt8) (c : Int), (0 ≤ c ∧ c ≤ 65535) → 0 ≤ l.foldl byteStep c ∧ l.foldl byteStep c ≤ 65535 := by
    intro l
    induction l with
    | nil => exact fun c h => h
    | cons b r ih => exact fun c _ => ih _ (byteStep_in c b)
  exact key l 65535 ⟨by decide, by decide⟩
theorem sumL_take {s : ByteArray} {k : Nat} (hk : k < s.size) : sumL ((bytesOf s).take (k + 1)) = byteStep (sumL ((bytesOf s).take k)) s[k] := by
  unfold sumL
  rw [take_bytes hk, List.foldl_append]; rfl
theorem sum_nine : crcP ⟨#[49, 50, 51, 52, 53, 54, 55, 56, 57]⟩ = 10673 := by decide +kernel
/-! ### So many bytes of a number -/
def fixL (n k : Nat) : List UInt8 := (List.range k).map fun j => UInt8.ofNat (n / 256 ^ (k - 1 - j))
def fixP (n k : Nat) : ByteArray := ⟨(fixL n k).toArray⟩
/-- The last i of them are laid. -/
def fixAt (n k i : Nat) : List UInt8 := (List.range k).map fun j => if k ≤ j + i then UInt8.ofNat (n / 256 ^ (k - 1 - j)) else 0
theorem fixAt_zero (n k : Nat) : fixAt n k 0 = List.replicate k 0 := by
  refine List.ext_getElem? fun j => ?_
  unfold fixAt
  rw [List.getElem?_map, List.getElem?_replicate]
  rcases Nat.lt_or_ge j k with h | h
  · rw [List.getElem?_range h, if_pos h]; simp only [Option.map_some]; rw [if_neg (by omega)]
  · rw [List.getElem?_eq_none (by simpa using h), if_neg (by omega)]; rfl
theorem fixAt_all (n k : Nat) : fixAt n k k = fixL n k := by
  refine List.ext_getElem? fun j => ?_
  unfold fixAt fixL
  rw [List.getElem?_map, List.getElem?_map]
  rcases Nat.lt_or_ge j k with h | h
  · rw [List.getElem?_range h]; simp only [Option.map_some]; rw [if_pos (by omega)]
  · rw [List.getElem?_eq_none (by simpa using h)]; rfl
theorem fixAt_len (n k i : Nat) : (fixAt n k i).length = k := by simp [fixAt]
theorem fixAt_put {n k i : Nat} (hi : i < k) : ovw ((fixAt n k i).map byteV) (k - 1 - i) [byteV (UInt8.ofNat (n / 256 ^ i))] = (fixAt n k (i + 1)).map byteV := by
  refine List.ext_getElem? fun j => ?_
  unfold ovw
  have hl : ((fixAt n k i).map byteV).length = k := by rw [List.length_map, fixAt_len]
  have get : ∀ m j, j < k → ((fixAt n k m).map byteV)[j]? = some (byteV (if k ≤ j + m then UInt8.ofNat (n / 256 ^ (k - 1 - j)) else 0)) := fun m j hj => by
    unfold fixAt; rw [List.getElem?_map, List.getElem?_map, List.getElem?_range hj]; rfl
  rcases Nat.lt_or_ge j k with hj | hj
  · rw [get (i + 1) j hj]
    rcases Nat.lt_trichotomy j (k - 1 - i) with h | h | h
    · rw [List.append_assoc, List.getElem?_append_left (by rw [List.length_take, hl]; omega), List.getElem?_take_of_lt h, get i j hj, if_neg (by omega), if_neg (by omega)]
    · rw [List.append_assoc, List.getElem?_append_right (by rw [List.length_take, hl]; omega), List.length_take, hl, if_pos (by omega)]
      have e0 : j - min (k - 1 - i) k = 0 := by omega
      rw [e0, show k - 1 - j = i by omega]; rfl
    · rw [List.getElem?_append_right (by simp only [List.length_append, List.length_take, hl, List.length_cons, List.length_nil]; omega), List.getElem?_drop]
      simp only [List.length_append, List.length_take, hl, List.length_cons, List.length_nil]
      rw [show k - 1 - i + (0 + 1) + (j - (min (k - 1 - i) k + (0 + 1))) = j by omega, get i j hj, if_pos (by omega), if_pos (by omega)]
  · rw [List.getElem?_eq_none (by simp only [List.length_append, List.length_take, List.length_drop, hl, List.length_cons, List.length_nil]; omega), List.getElem?_eq_none (by rw [List.length_map, fixAt_len]; exact hj)]
theorem fixP_size (n k : Nat) : (fixP n k).size = k := by simp [fixP, fixL, ByteArray.size]
/-! ### Small numbers -/
def numP (n : Nat) : ByteArray := if n = 0 then ⟨#[0]⟩ else ⟨#[1, UInt8.ofNat n]⟩
theorem numP_size (n : Nat) : (numP n).size ≤ 2 := by
  unfold numP; split
  · decide
  · exact Nat.le_refl 2
def textP (s : ByteArray) : ByteArray := numP s.size ++ s
def oneP : ByteArray := ⟨#[1, 1, 1, 1]⟩
def bytesP (i : Nat) (s : ByteArray) : ByteArray := numP i ++ numP 0 ++ oneP ++ textP s
def frameP (p : ByteArray) : ByteArray := fixP p.size 4 ++ fixP (crcP (fixP p.size 4 ++ p)).toNat 2 ++ p
theorem bytesP_size {i : Nat} {s : ByteArray} : (bytesP i s).size ≤ 10 + s.size := by
  unfold bytesP textP
  have h1 := numP_size i; have h2 := numP_size 0; have h3 := numP_size s.size
  simp only [ByteArray.size_append]
  have : oneP.size = 4 := rfl
  omega
theorem frameP_size (p : ByteArray) : (frameP p).size = 6 + p.size := by
  unfold frameP
  simp only [ByteArray.size_append, fixP_size]
/-! ### A number of bytes -/
def valL (l : List UInt8) : Nat := l.foldl (fun n b => n * 256 + b.toNat) 0
def valP (s : ByteArray) : Nat := valL (bytesOf s)
theorem valL_take {s : ByteArray} {k : Nat} (hk : k < s.size) : valL ((bytesOf s).take (k + 1)) = valL ((bytesOf s).take k) * 256 + s[k].toNat := by
  unfold valL
  rw [take_bytes hk, List.foldl_append]; rfl
theorem valL_lt (l : List UInt8) : valL l < 256 ^ l.length := by
  have key : ∀ (l : List UInt8) (n m : Nat), n < 256 ^ m → l.foldl (fun n b => n * 256 + b.toNat) n < 256 ^ (m + l.length) := by
    intro l
    induction l with
    | nil => exact fun n m h => h
    | cons b r ih =>
      intro n m h
      have hb := b.toNat_lt
      have := ih (n * 256 + b.toNat) (m + 1) (by rw [Nat.pow_succ]; omega)
      simp only [List.foldl_cons, List.length_cons]
      rw [show m + (r.length + 1) = m + 1 + r.length by omega]; exact this
  have := key l 0 0 (by decide)
  simpa [valL] using this
theorem or_byte {p : Nat} {b : UInt8} (hp : p < 256 ^ 7) : orB .u64 (IntKind.u64.wrap ((p : Int) * (2 : Int) ^ 8)) (b.toNat : Int) = ((p * 256 + b.toNat : Nat) : Int) := by
  have hb := b.toNat_lt
  have hp' : p * 256 < 18446744073709551616 := by have : (256 : Nat) ^ 7 = 72057594037927936 := by decide
                                                  omega
  have e1 : IntKind.u64.wrap ((p : Int) * (2 : Int) ^ 8) = ((p * 256 : Nat) : Int) := by
    rw [show (2 : Int) ^ 8 = 256 from rfl, show (p : Int) * 256 = ((p * 256 : Nat) : Int) by simp]
    exact Go.IntWalk.u64_in _ (by omega)
  rw [e1]
  unfold orB
  have e2 : (BitVec.ofInt IntKind.u64.bits ((p * 256 : Nat) : Int) ||| BitVec.ofInt IntKind.u64.bits (b.toNat : Int)).toNat = p * 256 + b.toNat := by
    rw [BitVec.toNat_or]
    simp only [BitVec.ofInt_natCast, BitVec.toNat_ofNat, IntKind.bits]
    rw [Nat.mod_eq_of_lt (by omega), Nat.mod_eq_of_lt (by omega)]
    have := Nat.shiftLeft_add_eq_or_of_lt (i := 8) (b := b.toNat) (by omega) p
    rw [Nat.shiftLeft_eq] at this
    exact this.symm
  rw [e2]
  exact Go.IntWalk.u64_in _ (by omega)
end Go.Proofs.YtmnnbnajnfdncaaDoor
