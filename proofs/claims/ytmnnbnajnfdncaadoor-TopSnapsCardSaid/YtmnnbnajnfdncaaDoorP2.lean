/- Plain functions: sets of bytes, names. -/
import Derived.Test.YtmnnbnajnfdncaaDoorP1
set_option linter.unusedVariables false
namespace Go.Proofs.YtmnnbnajnfdncaaDoor
open Go.RowKit E
/-- 256 Bools: which bytes are in l. -/
def setOf (l : List UInt8) : List Value := (List.range 256).map fun c => .bool (l.any fun b => b.toNat == c)
theorem setOf_length (l : List UInt8) : (setOf l).length = 256 := by simp [setOf]
theorem setOf_get (l : List UInt8) {c : Nat} (hc : c < 256) : (setOf l)[c]? = some (.bool (l.any fun b => b.toNat == c)) := by
  simp [setOf, hc]
theorem setOf_one (l : List UInt8) : ∀ u ∈ setOf l, u.oneCell' = true := by
  intro u hu
  obtain ⟨c, _, rfl⟩ := List.mem_map.1 hu
  rfl
theorem setOf_put (l : List UInt8) (b : UInt8) : E.ovw (setOf l) b.toNat [.bool true] = setOf (l ++ [b]) := by
  have hb : b.toNat < 256 := b.toNat_lt
  apply List.ext_getElem?
  intro i
  unfold E.ovw
  rcases Nat.lt_or_ge i 256 with h | h
  · rw [setOf_get _ h]
    rcases Nat.lt_trichotomy i b.toNat with h1 | h1 | h1
    · rw [List.append_assoc, List.getElem?_append_left (by simp [setOf_length]; omega), List.getElem?_take_of_lt h1, setOf_get _ h]
      have : (b.toNat == i) = false := by simp; omega
      simp [this]
    · subst h1
      rw [List.append_assoc, List.getElem?_append_right (by simp [setOf_length]; omega)]
      simp [setOf_length, show min b.toNat 256 = b.toNat by omega]
    · rw [List.getElem?_append_right (by simp [setOf_length]; omega), List.getElem?_drop]
      simp only [List.length_append, List.length_take, setOf_length, List.length_cons, List.length_nil]
      rw [show b.toNat + (0 + 1) + (i - (min b.toNat 256 + (0 + 1))) = i by omega, setOf_get _ h]
      have : (b.toNat == i) = false := by simp; omega
      simp [this]
  · rw [List.getElem?_eq_none (by simp [setOf_length]; omega), List.getElem?_eq_none (by simp [setOf_length]; omega)]
theorem zero65 : Tryd.zeroCells65 = (setOf []).toArray := by kernel_rfl
def bytesOf (s : ByteArray) : List UInt8 := s.data.toList
theorem bytesOf_length (s : ByteArray) : (bytesOf s).length = s.size := by simp [bytesOf]
theorem bytesOf_get (s : ByteArray) {i : Nat} (h : i < s.size) : (bytesOf s)[i]? = some s[i] := by
  have h' : i < s.data.size := h
  have e : s[i] = s.data[i] := rfl
  rw [e]
  simp [bytesOf]
theorem take_bytes {s : ByteArray} {k : Nat} (h : k < s.size) : (bytesOf s).take (k + 1) = (bytesOf s).take k ++ [s[k]] := by
  rw [List.take_add_one, bytesOf_get s h]
  rfl
theorem mem_bytes {s : ByteArray} {k : Nat} (h : k < s.size) : s[k] ∈ bytesOf s := List.mem_of_getElem? (bytesOf_get s h)
def inSet (cut : ByteArray) (b : UInt8) : Bool := (bytesOf cut).contains b
theorem setOf_in (cut : ByteArray) (b : UInt8) : (setOf (bytesOf cut))[b.toNat]? = some (.bool (inSet cut b)) := by
  rw [setOf_get _ b.toNat_lt]
  congr 2
  unfold inSet
  rw [List.contains_eq_any_beq]
  congr 1
  funext x
  rw [Bool.eq_iff_iff, beq_iff_eq, beq_iff_eq, UInt8.toNat_inj]
  exact eq_comm
def letters : ByteArray := ⟨#[97, 98, 99, 100, 101, 102, 103, 104, 105, 106, 107, 108, 109, 110, 111, 112, 113, 114, 115, 116, 117, 118, 119, 120, 121, 122, 48, 49, 50, 51, 52, 53, 54, 55, 56, 57, 45]⟩
def nameB (s : ByteArray) : Bool := !decide (s = ByteArray.mk #[]) && (decide (s.size ≤ 32) && (bytesOf s).all (inSet letters))
def namedB (s : ByteArray) : Bool := decide (s = ByteArray.mk #[]) || nameB s
/-- What is left on the right and on the left. -/
def RTrim (p : UInt8 → Bool) (s r : ByteArray) : Prop := ∃ m, ∃ _ : m ≤ s.size, r = s.extract 0 m ∧ (∀ i (h : i < s.size), m ≤ i → p s[i] = true) ∧ (∀ h : 0 < m, p (s[m - 1]'(by omega)) = false)
def LTrim (p : UInt8 → Bool) (s r : ByteArray) : Prop := ∃ m, ∃ _ : m ≤ s.size, r = s.extract m s.size ∧ (∀ i (h : i < s.size), i < m → p s[i] = true) ∧ (∀ h : m < s.size, p s[m] = false)
theorem trim_empty {p : UInt8 → Bool} {s r q : ByteArray} (h1 : RTrim p s r) (h2 : LTrim p r q) : q = ByteArray.mk #[] ↔ (bytesOf s).all p = true := by
  obtain ⟨m, hm, rfl, ha, hb⟩ := h1
  obtain ⟨k, hk, rfl, hc, hd⟩ := h2
  have hs : (s.extract 0 m).size = m := by rw [ByteArray.size_extract]; omega
  rw [hs] at hk
  have e : ((s.extract 0 m).extract k (s.extract 0 m).size = ByteArray.mk #[]) ↔ m ≤ k := by
    show _ = ByteArray.empty ↔ _
    rw [ByteArray.extract_eq_empty_iff, hs]
    omega
  rw [e, List.all_eq_true]
  constructor
  · intro h x hx
    have hmk : m = k := by omega
    subst hmk
    obtain ⟨i, hi, rfl⟩ := List.mem_iff_getElem.1 hx
    rw [bytesOf_length] at hi
    have hget : ∀ h', (bytesOf s)[i]'h' = s[i] := fun h' => Option.some.inj ((List.getElem?_eq_getElem h').symm.trans (bytesOf_get s hi))
    rw [hget]
    rcases Nat.lt_or_ge i m with h' | h'
    · have := hc i (by rw [hs]; exact h') h'
      rw [ByteArray.getElem_extract] at this
      have e0 : ∀ (j : Nat) (hj : j < s.size), j = i → s[j] = s[i] := fun j hj e => by subst e; rfl
      rw [e0 (0 + i) (by omega) (Nat.zero_add i)] at this
      exact this
    · exact ha i hi h'
  · intro h
    rcases Nat.lt_or_ge k m with h' | h'
    · exfalso
      have h3 := hb (by omega)
      have h4 := h s[m - 1] (List.mem_of_getElem? (bytesOf_get s (by omega)))
      rw [h3] at h4
      cases h4
    · exact h'
end Go.Proofs.YtmnnbnajnfdncaaDoor
