/- Rows with one element put in, or taken out. -/
import Derived.Test.YtmnnbnajnfdncaaDoorD5
import Derived.Test.YtmnnbnajnfdncaaDoorE7
set_option linter.unusedVariables false
set_option linter.unusedSimpArgs false
namespace Go.Proofs.YtmnnbnajnfdncaaDoor
open Go.RowKit E
def putIn (k i : Nat) (news cs : List Value) : List Value := news.take (i * k) ++ (cs ++ news.drop (i * k))
def cutOut (k i : Nat) (news : List Value) : List Value := news.take (i * k) ++ news.drop ((i + 1) * k)
section
variable {R C D news : List Value} {k i n : Nat}
theorem ins1 (hR : (n + 1) * k ≤ R.length) (hC : C.length = k) (hD : D.length = (n - i) * k) (hi : i ≤ n) : (ovw (ovw R (i * k) C) ((i + 1) * k) D).take ((n + 1) * k) = R.take (i * k) ++ (C ++ D) := by
  have e1 : (i + 1) * k = i * k + k := by rw [Nat.add_mul, Nat.one_mul]
  have e2 : (n + 1) * k = i * k + k + (n - i) * k := by rw [← e1, ← Nat.add_mul]; congr 1; omega
  have ht : (R.take (i * k)).length = i * k := by rw [List.length_take]; omega
  have e3 : (ovw R (i * k) C).take ((i + 1) * k) = R.take (i * k) ++ C := by
    unfold ovw
    exact List.take_left' (by rw [List.length_append, ht, hC, e1])
  unfold ovw at e3 ⊢
  rw [e3]
  have := List.take_left' (l₁ := R.take (i * k) ++ C ++ D) (l₂ := List.drop ((i + 1) * k + D.length) (R.take (i * k) ++ C ++ R.drop (i * k + C.length))) (i := (n + 1) * k) (by rw [List.length_append, List.length_append, ht, hC, hD, e2])
  rw [this, List.append_assoc]
theorem ins2 (hR : (n + 1) * k ≤ R.length) (hC : C.length = k) (hD : D.length = (n - i) * k) (hi : i ≤ n) : (ovw (ovw R ((i + 1) * k) D) (i * k) C).take ((n + 1) * k) = R.take (i * k) ++ (C ++ D) := by
  have e1 : (i + 1) * k = i * k + k := by rw [Nat.add_mul, Nat.one_mul]
  have e2 : (n + 1) * k = i * k + k + (n - i) * k := by rw [← e1, ← Nat.add_mul]; congr 1; omega
  have ht : (R.take (i * k)).length = i * k := by rw [List.length_take]; omega
  have ht1 : (R.take ((i + 1) * k)).length = (i + 1) * k := by rw [List.length_take]; omega
  have e3 : (ovw R ((i + 1) * k) D).take (i * k) = R.take (i * k) := by
    unfold ovw
    rw [List.append_assoc, List.take_append_of_le_length (by rw [ht1]; omega), List.take_take, Nat.min_eq_left (by omega)]
  have e4 : (ovw R ((i + 1) * k) D).drop (i * k + C.length) = D ++ R.drop ((i + 1) * k + D.length) := by
    unfold ovw
    rw [List.append_assoc]
    exact List.drop_left' (by rw [ht1, hC, e1])
  show (List.take (i * k) (ovw R ((i + 1) * k) D) ++ C ++ List.drop (i * k + C.length) (ovw R ((i + 1) * k) D)).take ((n + 1) * k) = _
  rw [e3, e4]
  have := List.take_left' (l₁ := R.take (i * k) ++ C ++ D) (l₂ := R.drop ((i + 1) * k + D.length)) (i := (n + 1) * k) (by rw [List.length_append, List.length_append, ht, hC, hD, e2])
  rw [← List.append_assoc _ D, this, List.append_assoc]
end
theorem del1 {R D zs : List Value} {k i n : Nat} (hR : n * k ≤ R.length) (hD : D.length = (n - (i + 1)) * k) (hz : zs.length = k) (hi : i < n) : (ovw (ovw R (i * k) D) ((n - 1) * k) zs).take ((n - 1) * k) = R.take (i * k) ++ D := by
  have e1 : (n - 1) * k = i * k + (n - (i + 1)) * k := by rw [← Nat.add_mul]; congr 1; omega
  have hik := mul_lt_le (k := k) hi
  have hn1 := mul_lt_le (k := k) (show n - 1 < n by omega)
  have ht : (R.take (i * k)).length = i * k := by rw [List.length_take]; omega
  have hl : (ovw R (i * k) D).length = R.length := ovw_len (by omega)
  unfold ovw at hl ⊢
  rw [List.append_assoc, List.take_append_of_le_length (by rw [List.length_take, hl]; omega), List.take_take, Nat.min_self]
  exact List.take_left' (by rw [List.length_append, ht, hD, e1])
theorem cutOut_len {k i n : Nat} {news : List Value} (hl : news.length = n * k) (hi : i < n) : (cutOut k i news).length = (n - 1) * k := by
  have e1 : (n - 1) * k = i * k + (n - (i + 1)) * k := by rw [← Nat.add_mul]; congr 1; omega
  have hik := mul_lt_le (k := k) hi
  unfold cutOut
  rw [List.length_append, List.length_take, List.length_drop, hl, ← Nat.sub_mul, e1]
  omega
theorem putIn_len {k i n : Nat} {news cs : List Value} (hl : news.length = n * k) (hc : cs.length = k) : (putIn k i news cs).length = (n + 1) * k := by
  unfold putIn
  rw [List.length_append, List.length_append, List.length_take, List.length_drop, hl, hc, Nat.add_mul, Nat.one_mul]
  omega
section
variable {w w' w0 : World} {base T k : Nat}
theorem Bx.one {g : Nat} {cur : List Value} (hb : base ≤ g) (hg : w.heap[g]? = some (.cells cur.toArray T (0, 0))) (hbase : base ≤ w.heap.size) : Bx base w w [(g, cur, T)] :=
  ⟨Below.refl _ _, hbase, fun p hp => by simp at hp; subst hp; exact ⟨hb, hg⟩, by simp⟩
/-- A box that is a row. -/
theorem Bx.row {bl : Bxs} {g n cap : Nat} {cur : List Value} (hb : Bx base w0 w bl) (i0 : Nat) (hi : bl.at i0 = some (g, cur, T)) (hc : cur.length = cap * k) (hn : n ≤ cap) (hm : cap ≤ maxLen) : w.ownsRow base T k (.slice (some ⟨g, 0, none⟩) n cap) n (cur.take (n * k)) :=
  ⟨by rw [List.length_take, hc]; exact Nat.min_eq_left (Nat.mul_le_mul_right k hn), .inr ⟨g, cap, _, rfl, (hb.get hi).1, (hb.get hi).2, hn, hm, by simpa using hc, rfl⟩⟩
theorem Rows.putIn {α : Type} {R : Rd α} {F : FP} {news cs : List Value} {xs : List α} {x : α} {i : Nat} (h : Rows R F w k news xs) (hx : R F w cs x) (hl : cs.length = k) : Rows R F w k (putIn k i news cs) (xs.take i ++ x :: xs.drop i) :=
  (h.take i).app ((Rows.one hx hl).app (h.drop i))
theorem Rows.cutOut {α : Type} {R : Rd α} {F : FP} {news : List Value} {xs : List α} {i : Nat} (h : Rows R F w k news xs) : Rows R F w k (cutOut k i news) (xs.take i ++ xs.drop (i + 1)) :=
  (h.take i).app (h.drop (i + 1))
theorem ownsRow_heap {g n c : Nat} {news : List Value} (h : w.ownsRow base T k (.slice (some ⟨g, 0, none⟩) n c) n news) : ∃ cur : List Value, base ≤ g ∧ w.heap[g]? = some (.cells cur.toArray T (0, 0)) ∧ n ≤ c ∧ c ≤ maxLen ∧ cur.length = c * k ∧ cur.take (n * k) = news := by
  rcases h.2 with ⟨h', _⟩ | ⟨g', cap, cur, h', hb, hg, hn, hm, hs, ht⟩
  · cases h'
  · simp only [Value.slice.injEq, Option.some.injEq, Addr.mk.injEq, and_true, true_and] at h'
    obtain ⟨rfl, rfl⟩ := h'
    exact ⟨cur.toList, hb, by simpa using hg, hn, hm, by simpa using hs, ht⟩
end
end Go.Proofs.YtmnnbnajnfdncaaDoor
