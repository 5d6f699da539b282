/- Walks: a snapshot is taken from its bytes. -/
import Derived.Test.YtmnnbnajnfdncaaDoorSnapg
set_option linter.unusedVariables false
set_option linter.unusedSimpArgs false
namespace Go.Proofs.YtmnnbnajnfdncaaDoor
open Go.RowKit E
/-- All boxes of a list but number i are of other kinds. -/
def Bxs.oth : Bxs → Nat → TypeId → Bool
  | [], _, _ => true
  | _ :: r, 0, T => r.all fun p => !(p.2.2 == T)
  | p :: r, k + 1, T => !(p.2.2 == T) && Bxs.oth r k T
theorem Bxs.oth_ne {T : TypeId} : ∀ {bl : Bxs} {i : Nat}, Bxs.oth bl i T = true → ∀ {j : Nat} {p}, bl.at j = some p → j ≠ i → p.2.2 ≠ T
  | [], _, _, _, _, hj, _ => by simp [Bxs.at] at hj
  | q :: r, 0, h, 0, p, hj, hne => absurd rfl hne
  | q :: r, 0, h, j + 1, p, hj, _ => by
    simp [Bxs.at] at hj
    have := List.all_eq_true.1 h p (Bxs.at_mem hj)
    simpa using this
  | q :: r, k + 1, h, 0, p, hj, _ => by
    simp [Bxs.at] at hj
    subst hj
    simp only [Bxs.oth, Bool.and_eq_true] at h
    simpa using h.1
  | q :: r, k + 1, h, j + 1, p, hj, hne => by
    simp [Bxs.at] at hj
    simp only [Bxs.oth, Bool.and_eq_true] at h
    exact Bxs.oth_ne h.2 hj (by omega)
/-- A call has turned box number i, the only one of its kind. -/
theorem Bx.re {w w' w0 : World} {base B : Nat} {bl : Bxs} {c c' : List Value} {T : TypeId} (hb : Bx base w0 w bl) (i : Nat) (hi : bl.at i = some (B, c, T)) (hK : Keeps (fun U => U ≠ T) w w') (hB : Below base w w') (hg : w'.heap[B]? = some (.cells c'.toArray T (0, 0))) (ho : Bxs.oth bl i T = true) : Bx base w0 w' (bl.put i c') :=
  ⟨hb.below.trans hB, Nat.le_trans hb.le hB.size, fun p hp => by
    rcases Bxs.put_mem hi hp with rfl | ⟨j, hj, hp'⟩
    · exact ⟨(hb.get hi).1, hg⟩
    · have h1 := hb.cell p (Bxs.at_mem hp')
      exact ⟨h1.1, (hK.block p.2.2 p.1 (Bxs.oth_ne ho hp' hj) ⟨_, h1.2⟩).trans h1.2⟩, by rw [Bxs.put_ids]; exact hb.nodup⟩
theorem Keeps.stepO {S : Nat → Prop} {w w' w2 : World} {B : Nat} (h : Keeps S w w') (hO : Only B w' w2) (hB : w.heap.size ≤ B) : Keeps S w w2 :=
  ⟨by rw [hO.size]; exact h.size, fun U B' hU hB' => (hO.block B' (by have := hB'.lt; omega)).trans (h.block U B' hU hB')⟩
theorem ints_rd {w : World} {base : Nat} {v : Value} (own : w.ownsRow base 3 1 v 1 [.int .i64 1]) : RInts Any w v [1] :=
  ownsRow_rdS own (Rows.one (x := (1 : Int)) (show RInt .i64 Any _ [.int .i64 1] 1 from rfl) rfl) (fun _ _ _ _ _ => trivial) (by decide)
set_option maxHeartbeats 2000000 in
theorem tSnap_calls {w : World} {base B : Nat} (hbase : base ≤ w.heap.size) (hbg : base ≤ B) (i : Nat) (hi : i < 256) (hi0 : 0 < i) (s : ByteArray) (hs : s.size < 256) (hgg : w.heap[B]? = some (.cells [.string (bytesP i s), .bool false].toArray 83 (0, 0))) :
    Calls Tryd.prog 44 #[(.pointer (some ⟨B, 0, none⟩))] w (Ret fun u w' => (∃ v, u = .agg #[.int .u64 (i : Nat), .int .u64 (0 : Nat), v, .string s] ∧ w'.ownsRow base 3 1 v 1 [.int .i64 1]) ∧ w'.heap[B]? = some (.cells [.string noB, .bool false].toArray 83 (0, 0)) ∧ Below base w w' ∧ Keeps (fun U => U ≠ 83) w w') := by
  rw [bytesP_eq] at hgg
  have hkp : Keeps (fun U => U ≠ 83) w w := Keeps.refl w
  have hb := Bx.one (w := w) hbg hgg hbase
  refine E.enter Tryd.func44 rfl Tryd.ntmps44 [(.pointer (some ⟨B, 0, none⟩))] rfl ?_
  refine E.W.seq ?_
  refine E.W.region ?_
  have hsz2 := hkp.size
  refine E.WL.alloc hb Tryd.zeroValue30 rfl rfl rfl ?_
  clear hb; intro B2 w2 hb hX hB2e
  replace hkp := Keeps.trans hkp (Keeps.ext hX)
  clear hX
  have hB2 : w.heap.size ≤ B2 := by rw [hB2e]; exact hsz2
  refine E.WL.done ?_
  refine E.KQ.then_n ?_
  refine E.W.seq ?_
  have hb0 := hb
  refine E.W.regionD (E.heads 0 []) rfl ?_
  replace hb := hb.drew
  replace hkp := Keeps.trans hkp (Keeps.ext (E.Ext.drew _))
  have hE := E.Ext.drew w2
  refine E.DL.takeU 0 rfl (by kernel_rfl) rfl (fun w' => E.y_move rfl) rfl rfl rfl (fun _ _ _ _ h => by obtain ⟨_, _, h, _⟩ := h; cases h) ?_
  refine E.DL.takeU 1 rfl (by kernel_rfl) rfl (fun w' => E.y_nilCheck rfl) rfl rfl rfl (fun _ _ _ _ h => by obtain ⟨_, _, h, _⟩ := h; cases h) ?_
  refine E.DL.takeU 2 rfl (by kernel_rfl) rfl (fun w' => E.y_fld Tryd.underlying83 rfl Tryd.sizeOf81 rfl) rfl rfl rfl (fun _ _ _ _ h => by obtain ⟨_, _, h, _⟩ := h; cases h) ?_
  refine E.DL.takeU 4 rfl (by kernel_rfl) rfl (fun w' => E.y_move rfl) rfl rfl rfl (fun _ _ _ _ h => by obtain ⟨_, _, h, _⟩ := h; cases h) ?_
  refine E.DL.takeU 5 rfl (by kernel_rfl) rfl (fun w' => E.y_nilCheck rfl) rfl rfl rfl (fun _ _ _ _ h => by obtain ⟨_, _, h, _⟩ := h; cases h) ?_
  refine E.DL.takeU 6 rfl (by kernel_rfl) rfl (fun w' => E.y_fld Tryd.underlying83 rfl Tryd.sizeOf81 rfl) rfl rfl rfl (fun _ _ _ _ h => by obtain ⟨_, _, h, _⟩ := h; cases h) ?_
  refine E.DL.takeU 8 rfl (by kernel_rfl) rfl (fun w' => E.y_move rfl) rfl rfl rfl (fun _ _ _ _ h => by obtain ⟨_, _, h, _⟩ := h; cases h) ?_
  refine E.DL.takeU 9 rfl (by kernel_rfl) rfl (fun w' => E.y_nilCheck rfl) rfl rfl rfl (fun _ _ _ _ h => by obtain ⟨_, _, h, _⟩ := h; cases h) ?_
  refine E.DL.takeU 10 rfl (by kernel_rfl) rfl (fun w' => E.y_fld Tryd.underlying83 rfl Tryd.sizeOf81 rfl) rfl rfl rfl (fun _ _ _ _ h => by obtain ⟨_, _, h, _⟩ := h; cases h) ?_
  refine E.DL.takeU 12 rfl (by kernel_rfl) rfl (fun w' => E.y_move rfl) rfl rfl rfl (fun _ _ _ _ h => by obtain ⟨_, _, h, _⟩ := h; cases h) ?_
  refine E.DL.takeU 13 rfl (by kernel_rfl) rfl (fun w' => E.y_nilCheck rfl) rfl rfl rfl (fun _ _ _ _ h => by obtain ⟨_, _, h, _⟩ := h; cases h) ?_
  refine E.DL.takeU 14 rfl (by kernel_rfl) rfl (fun w' => E.y_fld Tryd.underlying83 rfl Tryd.sizeOf81 rfl) rfl rfl rfl (fun _ _ _ _ h => by obtain ⟨_, _, h, _⟩ := h; cases h) ?_
  refine E.DL.two 3 17 rfl rfl (by kernel_rfl) (fun hsh => ?_) (fun hsh => ?_)
  · skip
    refine E.WL.call (tNumber_calls hb.le (hb.get (i := 1) rfl).1 i hi (numP 0 ++ (numP 1 ++ (numP 1 ++ (numP s.size ++ (s ++ noB))))) (by have := numP_size 0; have := numP_size 1; have := numP_size s.size; have h0 : noB.size = 0 := rfl; simp only [ByteArray.size_append]; omega) (hb.get (i := 1) rfl).2) Tryd.call58 rfl rfl rfl ?_
    rintro _ w3 ⟨rfl, hg2, hBl, hK2⟩
    replace hkp := Keeps.trans hkp hK2
    replace hb := Bx.re hb 1 rfl hK2 hBl hg2 rfl
    clear hBl hg2 hK2
    refine E.WL.done ?_
    refine E.DL.next hsh (.inr rfl) ?_
    clear hsh
    refine E.DL.two 7 17 rfl rfl (by kernel_rfl) (fun hsh => ?_) (fun hsh => ?_)
    · skip
      refine E.WL.call (tNumber_calls hb.le (hb.get (i := 1) rfl).1 0 (by decide) (numP 1 ++ (numP 1 ++ (numP s.size ++ (s ++ noB)))) (by have := numP_size 0; have := numP_size 1; have := numP_size s.size; have h0 : noB.size = 0 := rfl; simp only [ByteArray.size_append]; omega) (hb.get (i := 1) rfl).2) Tryd.call58 rfl rfl rfl ?_
      rintro _ w4 ⟨rfl, hg2, hBl, hK2⟩
      replace hkp := Keeps.trans hkp hK2
      replace hb := Bx.re hb 1 rfl hK2 hBl hg2 rfl
      clear hBl hg2 hK2
      refine E.WL.done ?_
      refine E.DL.next hsh (.inr rfl) ?_
      clear hsh
      refine E.DL.two 11 17 rfl rfl (by kernel_rfl) (fun hsh => ?_) (fun hsh => ?_)
      · skip
        refine E.WL.call (tInts_calls hb.le (hb.get (i := 1) rfl).1 (numP s.size ++ (s ++ noB)) (by have := numP_size 0; have := numP_size 1; have := numP_size s.size; have h0 : noB.size = 0 := rfl; simp only [ByteArray.size_append]; omega) (hb.get (i := 1) rfl).2) Tryd.call59 rfl rfl rfl ?_
        rintro _ w5 ⟨⟨v, rfl, ownv⟩, hg2, hBl, hK2⟩
        replace hkp := Keeps.trans hkp hK2
        replace hb := Bx.re hb 1 rfl hK2 hBl hg2 rfl
        obtain ⟨A, c, rfl, _⟩ := ownsRow_open ownv
        clear hBl hg2 hK2
        refine E.WL.done ?_
        refine E.DL.next hsh (.inr rfl) ?_
        clear hsh
        refine E.DL.two 15 17 rfl rfl (by kernel_rfl) (fun hsh => ?_) (fun hsh => ?_)
        · skip
          refine E.WL.call (tText_calls hb.le (hb.get (i := 1) rfl).1 s noB hs (by decide) (hb.get (i := 1) rfl).2) Tryd.call60 rfl rfl rfl ?_
          rintro _ w6 ⟨rfl, hg2, hBl, hK2⟩
          replace hkp := Keeps.trans hkp hK2
          replace hb := Bx.re hb 1 rfl hK2 hBl hg2 rfl
          replace ownv := ownsRow_keeps ownv hK2 (by decide)
          clear hBl hg2 hK2
          refine E.WL.done ?_
          refine E.DL.next hsh (.inr rfl) ?_
          clear hsh
          refine E.DL.two 16 17 rfl rfl (by kernel_rfl) (fun hsh => ?_) (fun hsh => ?_)
          · skip
            refine E.WL.val (E.y_build (v := .agg #[.int .u64 (i : Nat), .int .u64 (0 : Nat), .slice A 1 c, .string s]) rfl (by kernel_rfl)) rfl rfl rfl ?_
            refine E.WL.done ?_
            refine E.DL.next hsh (.inr rfl) ?_
            clear hsh
            have hsz3 := hkp.size
            refine E.DL.only 17 rfl (by kernel_rfl) (fun hsh => ?_)
            refine E.WL.alloc hb Tryd.zeroValue30 rfl rfl rfl ?_
            clear hb; intro B3 w8 hb hX hB3e
            replace hkp := Keeps.trans hkp (Keeps.ext hX)
            replace ownv := ownsRow_keeps ownv (Keeps.ext hX) (S := fun U => U = 3) rfl
            refine E.WL.done ?_
            refine E.DL.next hsh (.inr rfl) ?_
            clear hsh
            have hB3 : w.heap.size ≤ B3 := by rw [hB3e]; exact hsz3
            refine E.DL.only 18 rfl (by kernel_rfl) (fun hsh => ?_)
            refine E.WL.storeW hb 0 rfl rfl rfl Tryd.sizeOf30 rfl rfl rfl (E.allOne rfl) rfl ?_
            have hT := hb.hasT 0 rfl
            clear hb; intro w9 hb hO
            replace hkp := Keeps.stepO hkp hO hB3
            replace ownv := ownsRow_keeps ownv (Keeps.only hO hT (by decide)) (S := fun U => U = 3) rfl
            clear hT
            clear hO
            refine E.WL.done ?_
            refine E.DL.next hsh (.inr rfl) ?_
            clear hsh
            refine E.DL.done (by kernel_rfl) ?_
            clear hE hb0
            refine E.KQ.then_n ?_
            refine E.W.seq ?_
            refine E.W.region ?_
            refine E.WL.val (E.y_move rfl) rfl rfl rfl ?_
            refine E.WL.val (E.y_move rfl) rfl rfl rfl ?_
            refine E.WL.val (E.y_nilCheck rfl) rfl rfl rfl ?_
            refine E.WL.val (E.y_fld Tryd.underlying83 rfl Tryd.sizeOf81 rfl) rfl rfl rfl ?_
            refine E.WL.val (E.y_fld Tryd.underlying81 rfl Tryd.sizeOf4 rfl) rfl rfl rfl ?_
            refine E.WL.val (E.y_load rfl (E.At.ld1 Tryd.isAgg4 (hb.at0 2 rfl) 1 rfl)) rfl rfl rfl ?_
            refine E.WL.val (E.y_move rfl) rfl rfl rfl ?_
            refine E.WL.val (E.y_load rfl (E.At.ldk Tryd.isAgg30 Tryd.sizeOf30 (hb.at0 0 rfl) rfl)) rfl rfl rfl ?_
            refine E.WL.call (snapCheck_calls (F := Any) (s := ⟨(i : Nat), (0 : Nat), [1], s⟩) ⟨_, rfl, ints_rd ownv⟩ rfl (by show ¬ ((i : Nat) : Int) = 0; omega) (by show s.size ≤ 64512; omega)) Tryd.call13 rfl rfl rfl ?_
            rintro _ w10 ⟨rfl, hX⟩
            replace hb := hb.ext hX
            replace hkp := Keeps.trans hkp (Keeps.ext hX)
            replace ownv := ownsRow_keeps ownv (Keeps.ext hX) (S := fun U => U = 3) rfl
            clear hX
            refine E.WL.val (E.y_neq rfl rfl) rfl rfl rfl ?_
            refine E.WL.as 30 rfl (show _ = Value.bool false from rfl) ?_
            refine E.WL.val (E.y_pick_f rfl rfl) rfl rfl rfl ?_
            refine E.WL.val (E.y_nilCheck rfl) rfl rfl rfl ?_
            refine E.WL.val (E.y_fld Tryd.underlying83 rfl Tryd.sizeOf81 rfl) rfl rfl rfl ?_
            refine E.WL.val (E.y_fld Tryd.underlying81 rfl Tryd.sizeOf4 rfl) rfl rfl rfl ?_
            refine E.WL.store hb 2 1 rfl rfl rfl Tryd.sizeOf4 rfl rfl rfl (E.allOne rfl) rfl ?_
            have hT := hb.hasT 2 rfl
            clear hb; intro w11 hb hO
            replace hkp := Keeps.trans hkp (Keeps.only hO hT (by decide))
            replace ownv := ownsRow_keeps ownv (Keeps.only hO hT (by decide)) (S := fun U => U = 3) rfl
            clear hT
            clear hO
            refine E.WL.done ?_
            refine E.KQ.then_n ?_
            refine E.W.seq ?_
            refine E.W.region ?_
            refine E.WL.val (E.y_load rfl (E.At.ldk Tryd.isAgg30 Tryd.sizeOf30 (hb.at0 0 rfl) rfl)) rfl rfl rfl ?_
            refine E.WL.storeW hb 1 rfl rfl rfl Tryd.sizeOf30 rfl rfl rfl (E.allOne rfl) rfl ?_
            have hT := hb.hasT 1 rfl
            clear hb; intro w12 hb hO
            replace hkp := Keeps.stepO hkp hO hB2
            replace ownv := ownsRow_keeps ownv (Keeps.only hO hT (by decide)) (S := fun U => U = 3) rfl
            clear hT
            clear hO
            refine E.WL.done ?_
            refine E.KQ.then_n ?_
            refine E.W.ret ?_
            refine E.KQ.retc Tryd.results44 rfl (E.At.ldk Tryd.isAgg30 Tryd.sizeOf30 (hb.at0 1 rfl) rfl) ?_
            exact ⟨_, rfl, ⟨_, rfl, ownv⟩, (hb.get (i := 2) rfl).2, hb.below, hkp⟩
          · skip
            have hsz3 := hkp.size
            refine E.WL.alloc hb Tryd.zeroValue30 rfl rfl rfl ?_
            clear hb; intro B3 w14 hb hX hB3e
            replace hkp := Keeps.trans hkp (Keeps.ext hX)
            replace ownv := ownsRow_keeps ownv (Keeps.ext hX) (S := fun U => U = 3) rfl
            refine E.WL.done ?_
            refine E.DL.next hsh (.inr rfl) ?_
            clear hsh
            have hB3 : w.heap.size ≤ B3 := by rw [hB3e]; exact hsz3
            refine E.DL.only 16 rfl (by kernel_rfl) (fun hsh => ?_)
            refine E.WL.val (E.y_build (v := .agg #[.int .u64 (i : Nat), .int .u64 (0 : Nat), .slice A 1 c, .string s]) rfl (by kernel_rfl)) rfl rfl rfl ?_
            refine E.WL.done ?_
            refine E.DL.next hsh (.inr rfl) ?_
            clear hsh
            refine E.DL.only 18 rfl (by kernel_rfl) (fun hsh => ?_)
            refine E.WL.storeW hb 0 rfl rfl rfl Tryd.sizeOf30 rfl rfl rfl (E.allOne rfl) rfl ?_
            have hT := hb.hasT 0 rfl
            clear hb; intro w15 hb hO
            replace hkp := Keeps.stepO hkp hO hB3
            replace ownv := ownsRow_keeps ownv (Keeps.only hO hT (by decide)) (S := fun U => U = 3) rfl
            clear hT
            clear hO
            refine E.WL.done ?_
            refine E.DL.next hsh (.inr rfl) ?_
            clear hsh
            refine E.DL.done (by kernel_rfl) ?_
            clear hE hb0
            refine E.KQ.then_n ?_
            refine E.W.seq ?_
            refine E.W.region ?_
            refine E.WL.val (E.y_move rfl) rfl rfl rfl ?_
            refine E.WL.val (E.y_move rfl) rfl rfl rfl ?_
            refine E.WL.val (E.y_nilCheck rfl) rfl rfl rfl ?_
            refine E.WL.val (E.y_fld Tryd.underlying83 rfl Tryd.sizeOf81 rfl) rfl rfl rfl ?_
            refine E.WL.val (E.y_fld Tryd.underlying81 rfl Tryd.sizeOf4 rfl) rfl rfl rfl ?_
            refine E.WL.val (E.y_load rfl (E.At.ld1 Tryd.isAgg4 (hb.at0 2 rfl) 1 rfl)) rfl rfl rfl ?_
            refine E.WL.val (E.y_move rfl) rfl rfl rfl ?_
            refine E.WL.val (E.y_load rfl (E.At.ldk Tryd.isAgg30 Tryd.sizeOf30 (hb.at0 0 rfl) rfl)) rfl rfl rfl ?_
            refine E.WL.call (snapCheck_calls (F := Any) (s := ⟨(i : Nat), (0 : Nat), [1], s⟩) ⟨_, rfl, ints_rd ownv⟩ rfl (by show ¬ ((i : Nat) : Int) = 0; omega) (by show s.size ≤ 64512; omega)) Tryd.call13 rfl rfl rfl ?_
            rintro _ w16 ⟨rfl, hX⟩
            replace hb := hb.ext hX
            replace hkp := Keeps.trans hkp (Keeps.ext hX)
            replace ownv := ownsRow_keeps ownv (Keeps.ext hX) (S := fun U => U = 3) rfl
            clear hX
            refine E.WL.val (E.y_neq rfl rfl) rfl rfl rfl ?_
            refine E.WL.as 30 rfl (show _ = Value.bool false from rfl) ?_
            refine E.WL.val (E.y_pick_f rfl rfl) rfl rfl rfl ?_
            refine E.WL.val (E.y_nilCheck rfl) rfl rfl rfl ?_
            refine E.WL.val (E.y_fld Tryd.underlying83 rfl Tryd.sizeOf81 rfl) rfl rfl rfl ?_
            refine E.WL.val (E.y_fld Tryd.underlying81 rfl Tryd.sizeOf4 rfl) rfl rfl rfl ?_
            refine E.WL.store hb 2 1 rfl rfl rfl Tryd.sizeOf4 rfl rfl rfl (E.allOne rfl) rfl ?_
            have hT := hb.hasT 2 rfl
            clear hb; intro w17 hb hO
            replace hkp := Keeps.trans hkp (Keeps.only hO hT (by decide))
            replace ownv := ownsRow_keeps ownv (Keeps.only hO hT (by decide)) (S := fun U => U = 3) rfl
            clear hT
            clear hO
            refine E.WL.done ?_
            refine E.KQ.then_n ?_
            refine E.W.seq ?_
            refine E.W.region ?_
            refine E.WL.val (E.y_load rfl (E.At.ldk Tryd.isAgg30 Tryd.sizeOf30 (hb.at0 0 rfl) rfl)) rfl rfl rfl ?_
            refine E.WL.storeW hb 1 rfl rfl rfl Tryd.sizeOf30 rfl rfl rfl (E.allOne rfl) rfl ?_
            have hT := hb.hasT 1 rfl
            clear hb; intro w18 hb hO
            replace hkp := Keeps.stepO hkp hO hB2
            replace ownv := ownsRow_keeps ownv (Keeps.only hO hT (by decide)) (S := fun U => U = 3) rfl
            clear hT
            clear hO
            refine E.WL.done ?_
            refine E.KQ.then_n ?_
            refine E.W.ret ?_
            refine E.KQ.retc Tryd.results44 rfl (E.At.ldk Tryd.isAgg30 Tryd.sizeOf30 (hb.at0 1 rfl) rfl) ?_
            exact ⟨_, rfl, ⟨_, rfl, ownv⟩, (hb.get (i := 2) rfl).2, hb.below, hkp⟩
        · skip
          have hsz3 := hkp.size
          refine E.WL.alloc hb Tryd.zeroValue30 rfl rfl rfl ?_
          clear hb; intro B3 w20 hb hX hB3e
          replace hkp := Keeps.trans hkp (Keeps.ext hX)
          replace ownv := ownsRow_keeps ownv (Keeps.ext hX) (S := fun U => U = 3) rfl
          refine E.WL.done ?_
          refine E.DL.next hsh (.inr rfl) ?_
          clear hsh
          have hB3 : w.heap.size ≤ B3 := by rw [hB3e]; exact hsz3
          refine E.DL.only 15 rfl (by kernel_rfl) (fun hsh => ?_)
          refine E.WL.call (tText_calls hb.le (hb.get (i := 2) rfl).1 s noB hs (by decide) (hb.get (i := 2) rfl).2) Tryd.call60 rfl rfl rfl ?_
          rintro _ w21 ⟨rfl, hg2, hBl, hK2⟩
          replace hkp := Keeps.trans hkp hK2
          replace hb := Bx.re hb 2 rfl hK2 hBl hg2 rfl
          replace ownv := ownsRow_keeps ownv hK2 (by decide)
          clear hBl hg2 hK2
          refine E.WL.done ?_
          refine E.DL.next hsh (.inr rfl) ?_
          clear hsh
          refine E.DL.only 16 rfl (by kernel_rfl) (fun hsh => ?_)
          refine E.WL.val (E.y_build (v := .agg #[.int .u64 (i : Nat), .int .u64 (0 : Nat), .slice A 1 c, .string s]) rfl (by kernel_rfl)) rfl rfl rfl ?_
          refine E.WL.done ?_
          refine E.DL.next hsh (.inr rfl) ?_
          clear hsh
          refine E.DL.only 18 rfl (by kernel_rfl) (fun hsh => ?_)
          refine E.WL.storeW hb 0 rfl rfl rfl Tryd.sizeOf30 rfl rfl rfl (E.allOne rfl) rfl ?_
          have hT := hb.hasT 0 rfl
          clear hb; intro w22 hb hO
          replace hkp := Keeps.stepO hkp hO hB3
          replace ownv := ownsRow_keeps ownv (Keeps.only hO hT (by decide)) (S := fun U => U = 3) rfl
          clear hT
          clear hO
          refine E.WL.done ?_
          refine E.DL.next hsh (.inr rfl) ?_
          clear hsh
          refine E.DL.done (by kernel_rfl) ?_
          clear hE hb0
          refine E.KQ.then_n ?_
          refine E.W.seq ?_
          refine E.W.region ?_
          refine E.WL.val (E.y_move rfl) rfl rfl rfl ?_
          refine E.WL.val (E.y_move rfl) rfl rfl rfl ?_
          refine E.WL.val (E.y_nilCheck rfl) rfl rfl rfl ?_
          refine E.WL.val (E.y_fld Tryd.underlying83 rfl Tryd.sizeOf81 rfl) rfl rfl rfl ?_
          refine E.WL.val (E.y_fld Tryd.underlying81 rfl Tryd.sizeOf4 rfl) rfl rfl rfl ?_
          refine E.WL.val (E.y_load rfl (E.At.ld1 Tryd.isAgg4 (hb.at0 2 rfl) 1 rfl)) rfl rfl rfl ?_
          refine E.WL.val (E.y_move rfl) rfl rfl rfl ?_
          refine E.WL.val (E.y_load rfl (E.At.ldk Tryd.isAgg30 Tryd.sizeOf30 (hb.at0 0 rfl) rfl)) rfl rfl rfl ?_
          refine E.WL.call (snapCheck_calls (F := Any) (s := ⟨(i : Nat), (0 : Nat), [1], s⟩) ⟨_, rfl, ints_rd ownv⟩ rfl (by show ¬ ((i : Nat) : Int) = 0; omega) (by show s.size ≤ 64512; omega)) Tryd.call13 rfl rfl rfl ?_
          rintro _ w23 ⟨rfl, hX⟩
          replace hb := hb.ext hX
          replace hkp := Keeps.trans hkp (Keeps.ext hX)
          replace ownv := ownsRow_keeps ownv (Keeps.ext hX) (S := fun U => U = 3) rfl
          clear hX
          refine E.WL.val (E.y_neq rfl rfl) rfl rfl rfl ?_
          refine E.WL.as 30 rfl (show _ = Value.bool false from rfl) ?_
          refine E.WL.val (E.y_pick_f rfl rfl) rfl rfl rfl ?_
          refine E.WL.val (E.y_nilCheck rfl) rfl rfl rfl ?_
          refine E.WL.val (E.y_fld Tryd.underlying83 rfl Tryd.sizeOf81 rfl) rfl rfl rfl ?_
          refine E.WL.val (E.y_fld Tryd.underlying81 rfl Tryd.sizeOf4 rfl) rfl rfl rfl ?_
          refine E.WL.store hb 2 1 rfl rfl rfl Tryd.sizeOf4 rfl rfl rfl (E.allOne rfl) rfl ?_
          have hT := hb.hasT 2 rfl
          clear hb; intro w24 hb hO
          replace hkp := Keeps.trans hkp (Keeps.only hO hT (by decide))
          replace ownv := ownsRow_keeps ownv (Keeps.only hO hT (by decide)) (S := fun U => U = 3) rfl
          clear hT
          clear hO
          refine E.WL.done ?_
          refine E.KQ.then_n ?_
          refine E.W.seq ?_
          refine E.W.region ?_
          refine E.WL.val (E.y_load rfl (E.At.ldk Tryd.isAgg30 Tryd.sizeOf30 (hb.at0 0 rfl) rfl)) rfl rfl rfl ?_
          refine E.WL.storeW hb 1 rfl rfl rfl Tryd.sizeOf30 rfl rfl rfl (E.allOne rfl) rfl ?_
          have hT := hb.hasT 1 rfl
          clear hb; intro w25 hb hO
          replace hkp := Keeps.stepO hkp hO hB2
          replace ownv := ownsRow_keeps ownv (Keeps.only hO hT (by decide)) (S := fun U => U = 3) rfl
          clear hT
          clear hO
          refine E.WL.done ?_
          refine E.KQ.then_n ?_
          refine E.W.ret ?_
          refine E.KQ.retc Tryd.results44 rfl (E.At.ldk Tryd.isAgg30 Tryd.sizeOf30 (hb.at0 1 rfl) rfl) ?_
          exact ⟨_, rfl, ⟨_, rfl, ownv⟩, (hb.get (i := 2) rfl).2, hb.below, hkp⟩
      · skip
        have hsz3 := hkp.size
        refine E.WL.alloc hb Tryd.zeroValue30 rfl rfl rfl ?_
        clear hb; intro B3 w27 hb hX hB3e
        replace hkp := Keeps.trans hkp (Keeps.ext hX)
        refine E.WL.done ?_
        refine E.DL.next hsh (.inr rfl) ?_
        clear hsh
        have hB3 : w.heap.size ≤ B3 := by rw [hB3e]; exact hsz3
        refine E.DL.only 11 rfl (by kernel_rfl) (fun hsh => ?_)
        refine E.WL.call (tInts_calls hb.le (hb.get (i := 2) rfl).1 (numP s.size ++ (s ++ noB)) (by have := numP_size 0; have := numP_size 1; have := numP_size s.size; have h0 : noB.size = 0 := rfl; simp only [ByteArray.size_append]; omega) (hb.get (i := 2) rfl).2) Tryd.call59 rfl rfl rfl ?_
        rintro _ w28 ⟨⟨v, rfl, ownv⟩, hg2, hBl, hK2⟩
        replace hkp := Keeps.trans hkp hK2
        replace hb := Bx.re hb 2 rfl hK2 hBl hg2 rfl
        obtain ⟨A, c, rfl, _⟩ := ownsRow_open ownv
        clear hBl hg2 hK2
        refine E.WL.done ?_
        refine E.DL.next hsh (.inr rfl) ?_
        clear hsh
        refine E.DL.only 15 rfl (by kernel_rfl) (fun hsh => ?_)
        refine E.WL.call (tText_calls hb.le (hb.get (i := 2) rfl).1 s noB hs (by decide) (hb.get (i := 2) rfl).2) Tryd.call60 rfl rfl rfl ?_
        rintro _ w29 ⟨rfl, hg2, hBl, hK2⟩
        replace hkp := Keeps.trans hkp hK2
        replace hb := Bx.re hb 2 rfl hK2 hBl hg2 rfl
        replace ownv := ownsRow_keeps ownv hK2 (by decide)
        clear hBl hg2 hK2
        refine E.WL.done ?_
        refine E.DL.next hsh (.inr rfl) ?_
        clear hsh
        refine E.DL.only 16 rfl (by kernel_rfl) (fun hsh => ?_)
        refine E.WL.val (E.y_build (v := .agg #[.int .u64 (i : Nat), .int .u64 (0 : Nat), .slice A 1 c, .string s]) rfl (by kernel_rfl)) rfl rfl rfl ?_
        refine E.WL.done ?_
        refine E.DL.next hsh (.inr rfl) ?_
        clear hsh
        refine E.DL.only 18 rfl (by kernel_rfl) (fun hsh => ?_)
        refine E.WL.storeW hb 0 rfl rfl rfl Tryd.sizeOf30 rfl rfl rfl (E.allOne rfl) rfl ?_
        have hT := hb.hasT 0 rfl
        clear hb; intro w30 hb hO
        replace hkp := Keeps.stepO hkp hO hB3
        replace ownv := ownsRow_keeps ownv (Keeps.only hO hT (by decide)) (S := fun U => U = 3) rfl
        clear hT
        clear hO
        refine E.WL.done ?_
        refine E.DL.next hsh (.inr rfl) ?_
        clear hsh
        refine E.DL.done (by kernel_rfl) ?_
        clear hE hb0
        refine E.KQ.then_n ?_
        refine E.W.seq ?_
        refine E.W.region ?_
        refine E.WL.val (E.y_move rfl) rfl rfl rfl ?_
        refine E.WL.val (E.y_move rfl) rfl rfl rfl ?_
        refine E.WL.val (E.y_nilCheck rfl) rfl rfl rfl ?_
        refine E.WL.val (E.y_fld Tryd.underlying83 rfl Tryd.sizeOf81 rfl) rfl rfl rfl ?_
        refine E.WL.val (E.y_fld Tryd.underlying81 rfl Tryd.sizeOf4 rfl) rfl rfl rfl ?_
        refine E.WL.val (E.y_load rfl (E.At.ld1 Tryd.isAgg4 (hb.at0 2 rfl) 1 rfl)) rfl rfl rfl ?_
        refine E.WL.val (E.y_move rfl) rfl rfl rfl ?_
        refine E.WL.val (E.y_load rfl (E.At.ldk Tryd.isAgg30 Tryd.sizeOf30 (hb.at0 0 rfl) rfl)) rfl rfl rfl ?_
        refine E.WL.call (snapCheck_calls (F := Any) (s := ⟨(i : Nat), (0 : Nat), [1], s⟩) ⟨_, rfl, ints_rd ownv⟩ rfl (by show ¬ ((i : Nat) : Int) = 0; omega) (by show s.size ≤ 64512; omega)) Tryd.call13 rfl rfl rfl ?_
        rintro _ w31 ⟨rfl, hX⟩
        replace hb := hb.ext hX
        replace hkp := Keeps.trans hkp (Keeps.ext hX)
        replace ownv := ownsRow_keeps ownv (Keeps.ext hX) (S := fun U => U = 3) rfl
        clear hX
        refine E.WL.val (E.y_neq rfl rfl) rfl rfl rfl ?_
        refine E.WL.as 30 rfl (show _ = Value.bool false from rfl) ?_
        refine E.WL.val (E.y_pick_f rfl rfl) rfl rfl rfl ?_
        refine E.WL.val (E.y_nilCheck rfl) rfl rfl rfl ?_
        refine E.WL.val (E.y_fld Tryd.underlying83 rfl Tryd.sizeOf81 rfl) rfl rfl rfl ?_
        refine E.WL.val (E.y_fld Tryd.underlying81 rfl Tryd.sizeOf4 rfl) rfl rfl rfl ?_
        refine E.WL.store hb 2 1 rfl rfl rfl Tryd.sizeOf4 rfl rfl rfl (E.allOne rfl) rfl ?_
        have hT := hb.hasT 2 rfl
        clear hb; intro w32 hb hO
        replace hkp := Keeps.trans hkp (Keeps.only hO hT (by decide))
        replace ownv := ownsRow_keeps ownv (Keeps.only hO hT (by decide)) (S := fun U => U = 3) rfl
        clear hT
        clear hO
        refine E.WL.done ?_
        refine E.KQ.then_n ?_
        refine E.W.seq ?_
        refine E.W.region ?_
        refine E.WL.val (E.y_load rfl (E.At.ldk Tryd.isAgg30 Tryd.sizeOf30 (hb.at0 0 rfl) rfl)) rfl rfl rfl ?_
        refine E.WL.storeW hb 1 rfl rfl rfl Tryd.sizeOf30 rfl rfl rfl (E.allOne rfl) rfl ?_
        have hT := hb.hasT 1 rfl
        clear hb; intro w33 hb hO
        replace hkp := Keeps.stepO hkp hO hB2
        replace ownv := ownsRow_keeps ownv (Keeps.only hO hT (by decide)) (S := fun U => U = 3) rfl
        clear hT
        clear hO
        refine E.WL.done ?_
        refine E.KQ.then_n ?_
        refine E.W.ret ?_
        refine E.KQ.retc Tryd.results44 rfl (E.At.ldk Tryd.isAgg30 Tryd.sizeOf30 (hb.at0 1 rfl) rfl) ?_
        exact ⟨_, rfl, ⟨_, rfl, ownv⟩, (hb.get (i := 2) rfl).2, hb.below, hkp⟩
    · skip
      have hsz3 := hkp.size
      refine E.WL.alloc hb Tryd.zeroValue30 rfl rfl rfl ?_
      clear hb; intro B3 w35 hb hX hB3e
      replace hkp := Keeps.trans hkp (Keeps.ext hX)
      refine E.WL.done ?_
      refine E.DL.next hsh (.inr rfl) ?_
      clear hsh
      have hB3 : w.heap.size ≤ B3 := by rw [hB3e]; exact hsz3
      refine E.DL.only 7 rfl (by kernel_rfl) (fun hsh => ?_)
      refine E.WL.call (tNumber_calls hb.le (hb.get (i := 2) rfl).1 0 (by decide) (numP 1 ++ (numP 1 ++ (numP s.size ++ (s ++ noB)))) (by have := numP_size 0; have := numP_size 1; have := numP_size s.size; have h0 : noB.size = 0 := rfl; simp only [ByteArray.size_append]; omega) (hb.get (i := 2) rfl).2) Tryd.call58 rfl rfl rfl ?_
      rintro _ w36 ⟨rfl, hg2, hBl, hK2⟩
      replace hkp := Keeps.trans hkp hK2
      replace hb := Bx.re hb 2 rfl hK2 hBl hg2 rfl
      clear hBl hg2 hK2
      refine E.WL.done ?_
      refine E.DL.next hsh (.inr rfl) ?_
      clear hsh
      refine E.DL.only 11 rfl (by kernel_rfl) (fun hsh => ?_)
      refine E.WL.call (tInts_calls hb.le (hb.get (i := 2) rfl).1 (numP s.size ++ (s ++ noB)) (by have := numP_size 0; have := numP_size 1; have := numP_size s.size; have h0 : noB.size = 0 := rfl; simp only [ByteArray.size_append]; omega) (hb.get (i := 2) rfl).2) Tryd.call59 rfl rfl rfl ?_
      rintro _ w37 ⟨⟨v, rfl, ownv⟩, hg2, hBl, hK2⟩
      replace hkp := Keeps.trans hkp hK2
      replace hb := Bx.re hb 2 rfl hK2 hBl hg2 rfl
      obtain ⟨A, c, rfl, _⟩ := ownsRow_open ownv
      clear hBl hg2 hK2
      refine E.WL.done ?_
      refine E.DL.next hsh (.inr rfl) ?_
      clear hsh
      refine E.DL.only 15 rfl (by kernel_rfl) (fun hsh => ?_)
      refine E.WL.call (tText_calls hb.le (hb.get (i := 2) rfl).1 s noB hs (by decide) (hb.get (i := 2) rfl).2) Tryd.call60 rfl rfl rfl ?_
      rintro _ w38 ⟨rfl, hg2, hBl, hK2⟩
      replace hkp := Keeps.trans hkp hK2
      replace hb := Bx.re hb 2 rfl hK2 hBl hg2 rfl
      replace ownv := ownsRow_keeps ownv hK2 (by decide)
      clear hBl hg2 hK2
      refine E.WL.done ?_
      refine E.DL.next hsh (.inr rfl) ?_
      clear hsh
      refine E.DL.only 16 rfl (by kernel_rfl) (fun hsh => ?_)
      refine E.WL.val (E.y_build (v := .agg #[.int .u64 (i : Nat), .int .u64 (0 : Nat), .slice A 1 c, .string s]) rfl (by kernel_rfl)) rfl rfl rfl ?_
      refine E.WL.done ?_
      refine E.DL.next hsh (.inr rfl) ?_
      clear hsh
      refine E.DL.only 18 rfl (by kernel_rfl) (fun hsh => ?_)
      refine E.WL.storeW hb 0 rfl rfl rfl Tryd.sizeOf30 rfl rfl rfl (E.allOne rfl) rfl ?_
      have hT := hb.hasT 0 rfl
      clear hb; intro w39 hb hO
      replace hkp := Keeps.stepO hkp hO hB3
      replace ownv := ownsRow_keeps ownv (Keeps.only hO hT (by decide)) (S := fun U => U = 3) rfl
      clear hT
      clear hO
      refine E.WL.done ?_
      refine E.DL.next hsh (.inr rfl) ?_
      clear hsh
      refine E.DL.done (by kernel_rfl) ?_
      clear hE hb0
      refine E.KQ.then_n ?_
      refine E.W.seq ?_
      refine E.W.region ?_
      refine E.WL.val (E.y_move rfl) rfl rfl rfl ?_
      refine E.WL.val (E.y_move rfl) rfl rfl rfl ?_
      refine E.WL.val (E.y_nilCheck rfl) rfl rfl rfl ?_
      refine E.WL.val (E.y_fld Tryd.underlying83 rfl Tryd.sizeOf81 rfl) rfl rfl rfl ?_
      refine E.WL.val (E.y_fld Tryd.underlying81 rfl Tryd.sizeOf4 rfl) rfl rfl rfl ?_
      refine E.WL.val (E.y_load rfl (E.At.ld1 Tryd.isAgg4 (hb.at0 2 rfl) 1 rfl)) rfl rfl rfl ?_
      refine E.WL.val (E.y_move rfl) rfl rfl rfl ?_
      refine E.WL.val (E.y_load rfl (E.At.ldk Tryd.isAgg30 Tryd.sizeOf30 (hb.at0 0 rfl) rfl)) rfl rfl rfl ?_
      refine E.WL.call (snapCheck_calls (F := Any) (s := ⟨(i : Nat), (0 : Nat), [1], s⟩) ⟨_, rfl, ints_rd ownv⟩ rfl (by show ¬ ((i : Nat) : Int) = 0; omega) (by show s.size ≤ 64512; omega)) Tryd.call13 rfl rfl rfl ?_
      rintro _ w40 ⟨rfl, hX⟩
      replace hb := hb.ext hX
      replace hkp := Keeps.trans hkp (Keeps.ext hX)
      replace ownv := ownsRow_keeps ownv (Keeps.ext hX) (S := fun U => U = 3) rfl
      clear hX
      refine E.WL.val (E.y_neq rfl rfl) rfl rfl rfl ?_
      refine E.WL.as 30 rfl (show _ = Value.bool false from rfl) ?_
      refine E.WL.val (E.y_pick_f rfl rfl) rfl rfl rfl ?_
      refine E.WL.val (E.y_nilCheck rfl) rfl rfl rfl ?_
      refine E.WL.val (E.y_fld Tryd.underlying83 rfl Tryd.sizeOf81 rfl) rfl rfl rfl ?_
      refine E.WL.val (E.y_fld Tryd.underlying81 rfl Tryd.sizeOf4 rfl) rfl rfl rfl ?_
      refine E.WL.store hb 2 1 rfl rfl rfl Tryd.sizeOf4 rfl rfl rfl (E.allOne rfl) rfl ?_
      have hT := hb.hasT 2 rfl
      clear hb; intro w41 hb hO
      replace hkp := Keeps.trans hkp (Keeps.only hO hT (by decide))
      replace ownv := ownsRow_keeps ownv (Keeps.only hO hT (by decide)) (S := fun U => U = 3) rfl
      clear hT
      clear hO
      refine E.WL.done ?_
      refine E.KQ.then_n ?_
      refine E.W.seq ?_
      refine E.W.region ?_
      refine E.WL.val (E.y_load rfl (E.At.ldk Tryd.isAgg30 Tryd.sizeOf30 (hb.at0 0 rfl) rfl)) rfl rfl rfl ?_
      refine E.WL.storeW hb 1 rfl rfl rfl Tryd.sizeOf30 rfl rfl rfl (E.allOne rfl) rfl ?_
      have hT := hb.hasT 1 rfl
      clear hb; intro w42 hb hO
      replace hkp := Keeps.stepO hkp hO hB2
      replace ownv := ownsRow_keeps ownv (Keeps.only hO hT (by decide)) (S := fun U => U = 3) rfl
      clear hT
      clear hO
      refine E.WL.done ?_
      refine E.KQ.then_n ?_
      refine E.W.ret ?_
      refine E.KQ.retc Tryd.results44 rfl (E.At.ldk Tryd.isAgg30 Tryd.sizeOf30 (hb.at0 1 rfl) rfl) ?_
      exact ⟨_, rfl, ⟨_, rfl, ownv⟩, (hb.get (i := 2) rfl).2, hb.below, hkp⟩
  · skip
    have hsz3 := hkp.size
    refine E.WL.alloc hb Tryd.zeroValue30 rfl rfl rfl ?_
    clear hb; intro B3 w44 hb hX hB3e
    replace hkp := Keeps.trans hkp (Keeps.ext hX)
    refine E.WL.done ?_
    refine E.DL.next hsh (.inr rfl) ?_
    clear hsh
    have hB3 : w.heap.size ≤ B3 := by rw [hB3e]; exact hsz3
    refine E.DL.only 3 rfl (by kernel_rfl) (fun hsh => ?_)
    refine E.WL.call (tNumber_calls hb.le (hb.get (i := 2) rfl).1 i hi (numP 0 ++ (numP 1 ++ (numP 1 ++ (numP s.size ++ (s ++ noB))))) (by have := numP_size 0; have := numP_size 1; have := numP_size s.size; have h0 : noB.size = 0 := rfl; simp only [ByteArray.size_append]; omega) (hb.get (i := 2) rfl).2) Tryd.call58 rfl rfl rfl ?_
    rintro _ w45 ⟨rfl, hg2, hBl, hK2⟩
    replace hkp := Keeps.trans hkp hK2
    replace hb := Bx.re hb 2 rfl hK2 hBl hg2 rfl
    clear hBl hg2 hK2
    refine E.WL.done ?_
    refine E.DL.next hsh (.inr rfl) ?_
    clear hsh
    refine E.DL.only 7 rfl (by kernel_rfl) (fun hsh => ?_)
    refine E.WL.call (tNumber_calls hb.le (hb.get (i := 2) rfl).1 0 (by decide) (numP 1 ++ (numP 1 ++ (numP s.size ++ (s ++ noB)))) (by have := numP_size 0; have := numP_size 1; have := numP_size s.size; have h0 : noB.size = 0 := rfl; simp only [ByteArray.size_append]; omega) (hb.get (i := 2) rfl).2) Tryd.call58 rfl rfl rfl ?_
    rintro _ w46 ⟨rfl, hg2, hBl, hK2⟩
    replace hkp := Keeps.trans hkp hK2
    replace hb := Bx.re hb 2 rfl hK2 hBl hg2 rfl
    clear hBl hg2 hK2
    refine E.WL.done ?_
    refine E.DL.next hsh (.inr rfl) ?_
    clear hsh
    refine E.DL.only 11 rfl (by kernel_rfl) (fun hsh => ?_)
    refine E.WL.call (tInts_calls hb.le (hb.get (i := 2) rfl).1 (numP s.size ++ (s ++ noB)) (by have := numP_size 0; have := numP_size 1; have := numP_size s.size; have h0 : noB.size = 0 := rfl; simp only [ByteArray.size_append]; omega) (hb.get (i := 2) rfl).2) Tryd.call59 rfl rfl rfl ?_
    rintro _ w47 ⟨⟨v, rfl, ownv⟩, hg2, hBl, hK2⟩
    replace hkp := Keeps.trans hkp hK2
    replace hb := Bx.re hb 2 rfl hK2 hBl hg2 rfl
    obtain ⟨A, c, rfl, _⟩ := ownsRow_open ownv
    clear hBl hg2 hK2
    refine E.WL.done ?_
    refine E.DL.next hsh (.inr rfl) ?_
    clear hsh
    refine E.DL.only 15 rfl (by kernel_rfl) (fun hsh => ?_)
    refine E.WL.call (tText_calls hb.le (hb.get (i := 2) rfl).1 s noB hs (by decide) (hb.get (i := 2) rfl).2) Tryd.call60 rfl rfl rfl ?_
    rintro _ w48 ⟨rfl, hg2, hBl, hK2⟩
    replace hkp := Keeps.trans hkp hK2
    replace hb := Bx.re hb 2 rfl hK2 hBl hg2 rfl
    replace ownv := ownsRow_keeps ownv hK2 (by decide)
    clear hBl hg2 hK2
    refine E.WL.done ?_
    refine E.DL.next hsh (.inr rfl) ?_
    clear hsh
    refine E.DL.only 16 rfl (by kernel_rfl) (fun hsh => ?_)
    refine E.WL.val (E.y_build (v := .agg #[.int .u64 (i : Nat), .int .u64 (0 : Nat), .slice A 1 c, .string s]) rfl (by kernel_rfl)) rfl rfl rfl ?_
    refine E.WL.done ?_
    refine E.DL.next hsh (.inr rfl) ?_
    clear hsh
    refine E.DL.only 18 rfl (by kernel_rfl) (fun hsh => ?_)
    refine E.WL.storeW hb 0 rfl rfl rfl Tryd.sizeOf30 rfl rfl rfl (E.allOne rfl) rfl ?_
    have hT := hb.hasT 0 rfl
    clear hb; intro w49 hb hO
    replace hkp := Keeps.stepO hkp hO hB3
    replace ownv := ownsRow_keeps ownv (Keeps.only hO hT (by decide)) (S := fun U => U = 3) rfl
    clear hT
    clear hO
    refine E.WL.done ?_
    refine E.DL.next hsh (.inr rfl) ?_
    clear hsh
    refine E.DL.done (by kernel_rfl) ?_
    clear hE hb0
    refine E.KQ.then_n ?_
    refine E.W.seq ?_
    refine E.W.region ?_
    refine E.WL.val (E.y_move rfl) rfl rfl rfl ?_
    refine E.WL.val (E.y_move rfl) rfl rfl rfl ?_
    refine E.WL.val (E.y_nilCheck rfl) rfl rfl rfl ?_
    refine E.WL.val (E.y_fld Tryd.underlying83 rfl Tryd.sizeOf81 rfl) rfl rfl rfl ?_
    refine E.WL.val (E.y_fld Tryd.underlying81 rfl Tryd.sizeOf4 rfl) rfl rfl rfl ?_
    refine E.WL.val (E.y_load rfl (E.At.ld1 Tryd.isAgg4 (hb.at0 2 rfl) 1 rfl)) rfl rfl rfl ?_
    refine E.WL.val (E.y_move rfl) rfl rfl rfl ?_
    refine E.WL.val (E.y_load rfl (E.At.ldk Tryd.isAgg30 Tryd.sizeOf30 (hb.at0 0 rfl) rfl)) rfl rfl rfl ?_
    refine E.WL.call (snapCheck_calls (F := Any) (s := ⟨(i : Nat), (0 : Nat), [1], s⟩) ⟨_, rfl, ints_rd ownv⟩ rfl (by show ¬ ((i : Nat) : Int) = 0; omega) (by show s.size ≤ 64512; omega)) Tryd.call13 rfl rfl rfl ?_
    rintro _ w50 ⟨rfl, hX⟩
    replace hb := hb.ext hX
    replace hkp := Keeps.trans hkp (Keeps.ext hX)
    replace ownv := ownsRow_keeps ownv (Keeps.ext hX) (S := fun U => U = 3) rfl
    clear hX
    refine E.WL.val (E.y_neq rfl rfl) rfl rfl rfl ?_
    refine E.WL.as 30 rfl (show _ = Value.bool false from rfl) ?_
    refine E.WL.val (E.y_pick_f rfl rfl) rfl rfl rfl ?_
    refine E.WL.val (E.y_nilCheck rfl) rfl rfl rfl ?_
    refine E.WL.val (E.y_fld Tryd.underlying83 rfl Tryd.sizeOf81 rfl) rfl rfl rfl ?_
    refine E.WL.val (E.y_fld Tryd.underlying81 rfl Tryd.sizeOf4 rfl) rfl rfl rfl ?_
    refine E.WL.store hb 2 1 rfl rfl rfl Tryd.sizeOf4 rfl rfl rfl (E.allOne rfl) rfl ?_
    have hT := hb.hasT 2 rfl
    clear hb; intro w51 hb hO
    replace hkp := Keeps.trans hkp (Keeps.only hO hT (by decide))
    replace ownv := ownsRow_keeps ownv (Keeps.only hO hT (by decide)) (S := fun U => U = 3) rfl
    clear hT
    clear hO
    refine E.WL.done ?_
    refine E.KQ.then_n ?_
    refine E.W.seq ?_
    refine E.W.region ?_
    refine E.WL.val (E.y_load rfl (E.At.ldk Tryd.isAgg30 Tryd.sizeOf30 (hb.at0 0 rfl) rfl)) rfl rfl rfl ?_
    refine E.WL.storeW hb 1 rfl rfl rfl Tryd.sizeOf30 rfl rfl rfl (E.allOne rfl) rfl ?_
    have hT := hb.hasT 1 rfl
    clear hb; intro w52 hb hO
    replace hkp := Keeps.stepO hkp hO hB2
    replace ownv := ownsRow_keeps ownv (Keeps.only hO hT (by decide)) (S := fun U => U = 3) rfl
    clear hT
    clear hO
    refine E.WL.done ?_
    refine E.KQ.then_n ?_
    refine E.W.ret ?_
    refine E.KQ.retc Tryd.results44 rfl (E.At.ldk Tryd.isAgg30 Tryd.sizeOf30 (hb.at0 1 rfl) rfl) ?_
    exact ⟨_, rfl, ⟨_, rfl, ownv⟩, (hb.get (i := 2) rfl).2, hb.below, hkp⟩

set_option maxHeartbeats 400000 in
theorem decode_calls (w : World) (i : Nat) (hi : i < 256) (hi0 : 0 < i) (s : ByteArray) (hs : s.size < 256) :
    Calls Tryd.prog 20 #[(.string (bytesP i s))] w (Ret fun u w' => (∃ v, u = .tuple #[.agg #[.int .u64 (i : Nat), .int .u64 (0 : Nat), v, .string s], .int .i64 0] ∧ RInts Any w' v [1]) ∧ Ext w w') := by
  have hb := E.Bx.start w (base := w.heap.size) (Nat.le_refl _)
  refine E.enter Tryd.func20 rfl Tryd.ntmps20 [(.string (bytesP i s))] rfl ?_
  refine E.W.seq ?_
  refine E.W.region ?_
  refine E.WL.alloc hb Tryd.zeroValue30 rfl rfl rfl ?_
  clear hb; intro B2 w2 hb _ _
  refine E.WL.val (E.y_assign rfl) rfl rfl rfl ?_
  refine E.WL.done ?_
  refine E.KQ.then_n ?_
  refine E.W.seq ?_
  refine E.W.region ?_
  refine E.WL.val (E.y_move rfl) rfl rfl rfl ?_
  refine E.WL.val (E.y_build (v := .agg #[.string (bytesP i s), .bool false]) rfl (by kernel_rfl)) rfl rfl rfl ?_
  refine E.WL.val (E.y_build (v := .agg #[.string (bytesP i s), .bool false]) rfl (by kernel_rfl)) rfl rfl rfl ?_
  refine E.WL.box hb rfl rfl rfl rfl ?_
  clear hb; intro B4 w4 hb _ _
  refine E.WL.val (E.y_assign rfl) rfl rfl rfl ?_
  refine E.WL.done ?_
  refine E.KQ.then_n ?_
  refine E.W.seq ?_
  refine E.W.region ?_
  refine E.WL.val (E.y_move rfl) rfl rfl rfl ?_
  refine E.WL.call (tSnap_calls hb.le (hb.get (i := 0) rfl).1 i hi hi0 s hs (hb.get (i := 0) rfl).2) Tryd.call44 rfl rfl rfl ?_
  rintro _ w5 ⟨⟨v, rfl, ownv⟩, hg2, hBl, hK2⟩
  replace hb := Bx.re hb 0 rfl hK2 hBl hg2 rfl
  obtain ⟨A, c, rfl, _⟩ := ownsRow_open ownv
  clear hBl hg2 hK2
  refine E.WL.alloc hb Tryd.zeroValue30 rfl rfl rfl ?_
  clear hb; intro B6 w7 hb hX _
  replace ownv := ownsRow_keeps ownv (Keeps.ext hX) (S := fun U => U = 3) rfl
  clear hX
  refine E.WL.storeW hb 0 rfl rfl rfl Tryd.sizeOf30 rfl rfl rfl (E.allOne rfl) rfl ?_
  have hT := hb.hasT 0 rfl
  clear hb; intro w8 hb hO
  replace ownv := ownsRow_keeps ownv (Keeps.only hO hT (by decide)) (S := fun U => U = 3) rfl
  clear hT
  clear hO
  refine E.WL.done ?_
  refine E.KQ.then_n ?_
  refine E.W.seq ?_
  refine E.W.seq ?_
  refine E.W.region ?_
  refine E.WL.val (E.y_move rfl) rfl rfl rfl ?_
  refine E.WL.val (E.y_nilCheck rfl) rfl rfl rfl ?_
  refine E.WL.val (E.y_fld Tryd.underlying83 rfl Tryd.sizeOf81 rfl) rfl rfl rfl ?_
  refine E.WL.val (E.y_fld Tryd.underlying81 rfl Tryd.sizeOf4 rfl) rfl rfl rfl ?_
  refine E.WL.val (E.y_load rfl (E.At.ld1 Tryd.isAgg4 (hb.at0 1 rfl) 1 rfl)) rfl rfl rfl ?_
  refine E.WL.val (E.y_move rfl) rfl rfl rfl ?_
  refine E.WL.val (E.y_move rfl) rfl rfl rfl ?_
  refine E.WL.val (E.y_nilCheck rfl) rfl rfl rfl ?_
  refine E.WL.val (E.y_fld Tryd.underlying83 rfl Tryd.sizeOf81 rfl) rfl rfl rfl ?_
  refine E.WL.val (E.y_fld Tryd.underlying81 rfl Tryd.sizeOf9 rfl) rfl rfl rfl ?_
  refine E.WL.val (E.y_load rfl (E.At.ld1 Tryd.isAgg9 (hb.at0 1 rfl) 0 rfl)) rfl rfl rfl ?_
  refine E.WL.val (E.y_sneq rfl rfl) rfl rfl rfl ?_
  refine E.WL.as 23 rfl (show _ = Value.bool false from by simp [noB]) ?_
  refine E.WL.val (E.y_pick_f rfl rfl) rfl rfl rfl ?_
  refine E.WL.done ?_
  refine E.KQ.then_n ?_
  refine E.W.cond_f rfl ?_
  refine E.W.skip ?_
  refine E.KQ.then_n ?_
  refine E.W.seq ?_
  refine E.W.region ?_
  refine E.WL.val (E.y_load rfl (E.At.ldk Tryd.isAgg30 Tryd.sizeOf30 (hb.at0 0 rfl) rfl)) rfl rfl rfl ?_
  refine E.WL.storeW hb 2 rfl rfl rfl Tryd.sizeOf30 rfl rfl rfl (E.allOne rfl) rfl ?_
  have hT := hb.hasT 2 rfl
  clear hb; intro w9 hb hO
  replace ownv := ownsRow_keeps ownv (Keeps.only hO hT (by decide)) (S := fun U => U = 3) rfl
  clear hT
  clear hO
  refine E.WL.val (E.y_assign rfl) rfl rfl rfl ?_
  refine E.WL.done ?_
  refine E.KQ.then_n ?_
  refine E.W.ret ?_
  refine E.KQ.retct Tryd.results20 rfl (E.At.ldk Tryd.isAgg30 Tryd.sizeOf30 (hb.at0 2 rfl) rfl) rfl ?_
  exact ⟨_, rfl, ⟨_, rfl, ints_rd ownv⟩, hb.below⟩
end Go.Proofs.YtmnnbnajnfdncaaDoor
