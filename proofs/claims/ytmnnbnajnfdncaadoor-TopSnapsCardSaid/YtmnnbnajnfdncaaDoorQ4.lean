/- The plain law: the disk holds the last snapshot, whatever fails. -/
import Derived.Test.YtmnnbnajnfdncaaDoorSnapl
import Derived.Test.YtmnnbnajnfdncaaDoorSnapm
set_option linter.unusedVariables false
set_option linter.unusedSimpArgs false
namespace Go.Proofs.YtmnnbnajnfdncaaDoor
open Go.RowKit E
def tmpN : ByteArray := ⟨#[115, 110, 97, 112, 46, 116, 109, 112]⟩
theorem tmp_eq : snapN ++ dotTmp = tmpN := by decide +kernel
def filesOf (o : Option ByteArray) (t : Option (ByteArray × Nat)) : List FileD :=
  (match o with | some D => [⟨snapN, D, (D.size : Nat)⟩] | none => []) ++ (match t with | some x => [⟨tmpN, x.1, (x.2 : Nat)⟩] | none => [])
def posT (o : Option ByteArray) : Nat := match o with | some _ => 1 | none => 0
theorem pos_tmp (o t) : posB (namesF (filesOf o t)) tmpN = posT o := by
  cases o with
  | none => cases t with
    | none => rfl
    | some x => show posB [tmpN] tmpN = 0; decide +kernel
  | some D => cases t with
    | none => show posB [snapN] tmpN = 1; decide +kernel
    | some x => show posB [snapN, tmpN] tmpN = 1; decide +kernel
theorem pos_snap (o t) : posB (namesF (filesOf o t)) snapN = 0 := by
  cases o with
  | none => cases t with
    | none => rfl
    | some x => show posB [tmpN] snapN = 0; decide +kernel
  | some D => cases t with
    | none => show posB [snapN] snapN = 0; decide +kernel
    | some x => show posB [snapN, tmpN] snapN = 0; decide +kernel
theorem has_tmp (o t) : hasB (namesF (filesOf o t)) tmpN = t.isSome := by
  cases o with
  | none => cases t with
    | none => rfl
    | some x => show hasB [tmpN] tmpN = true; decide +kernel
  | some D => cases t with
    | none => show hasB [snapN] tmpN = false; decide +kernel
    | some x => show hasB [snapN, tmpN] tmpN = true; decide +kernel
theorem has_snap (o t) : hasB (namesF (filesOf o t)) snapN = o.isSome := by
  cases o with
  | none => cases t with
    | none => rfl
    | some x => show hasB [tmpN] snapN = false; decide +kernel
  | some D => cases t with
    | none => show hasB [snapN] snapN = true; decide +kernel
    | some x => show hasB [snapN, tmpN] snapN = true; decide +kernel
theorem lt_names : ltB snapN tmpN = true := by decide +kernel
theorem named_tmp : namedF tmpN = true := by decide +kernel
theorem named_snap : namedF snapN = true := by decide +kernel
/-- The bounds of what lies there. -/
def Fits (o : Option ByteArray) (t : Option (ByteArray × Nat)) : Prop := (∀ D, o = some D → D.size ≤ 100000) ∧ ∀ x, t = some x → x.2 ≤ x.1.size ∧ x.1.size ≤ 100000
theorem filesOf_len (o t) : (filesOf o t).length ≤ 2 := by cases o <;> cases t <;> simp [filesOf]
theorem check_of {d : DiskD} {o t} (h : d.files = filesOf o t) (hF : Fits o t) : checkD d = true := by
  unfold checkD
  rw [h, Bool.and_eq_true]
  refine ⟨?_, decide_eq_true (by have := filesOf_len o t; omega)⟩
  unfold checkL
  rw [List.all_eq_true]
  intro i hi
  have hi := List.mem_range.1 hi
  rcases o with _ | D
  · rcases t with _ | x
    · exact absurd hi (Nat.not_lt_zero _)
    · have hx := hF.2 x rfl
      have h0 : i = 0 := by have : i < 1 := hi; omega
      subst h0
      show (true && (decide ((0 : Int) ≤ (x.2 : Nat)) && decide (((x.2 : Nat) : Int) ≤ x.1.size))) = true
      rw [decide_eq_true (by omega), decide_eq_true (by omega)]; rfl
  · have hs : (true && (decide ((0 : Int) ≤ (D.size : Nat)) && decide (((D.size : Nat) : Int) ≤ D.size))) = true := by rw [decide_eq_true (by omega), decide_eq_true (by omega)]; rfl
    rcases t with _ | x
    · have h0 : i = 0 := by have : i < 1 := hi; omega
      subst h0
      exact hs
    · have hx := hF.2 x rfl
      have h0 : i = 0 ∨ i = 1 := by have : i < 2 := hi; omega
      rcases h0 with rfl | rfl
      · exact hs
      · show (ltB snapN tmpN && (decide ((0 : Int) ≤ (x.2 : Nat)) && decide (((x.2 : Nat) : Int) ≤ x.1.size))) = true
        rw [lt_names, decide_eq_true (by omega), decide_eq_true (by omega)]; rfl
/-- A disk that lives; a disk whose power is gone. -/
structure Sh (d : DiskD) (o : Option ByteArray) (t : Option (ByteArray × Nat)) : Prop where
  files : d.files = filesOf o t
  fits : Fits o t
  down : d.down = false
  fuse : -1 ≤ d.fuse ∧ d.fuse ≤ 9223372036854775807
def Dead (d : DiskD) (o : Option ByteArray) : Prop := d.down = true ∧ ∃ t, d.files = filesOf o t ∧ Fits o t
theorem Sh.ok {d o t} (h : Sh d o t) : okD d := ⟨check_of h.files h.fits, h.down, h.fuse⟩
theorem decF_in {f : Int} (h : -1 ≤ f ∧ f ≤ 9223372036854775807) : -1 ≤ decF f ∧ decF f ≤ 9223372036854775807 := by
  unfold decF; split <;> omega
theorem Sh.hasT {d o t} (h : Sh d o t) : hasB (namesF d.files) tmpN = t.isSome := by rw [h.files]; exact has_tmp o t
theorem Sh.read_snap {d o t} (h : Sh d o t) : readP d snapN = match o with | some D => (D, 0) | none => (noB, 6) := by
  unfold readP
  rw [if_neg (by rw [h.ok.1]; decide), if_neg (by rw [h.down]; decide), h.files, has_snap, pos_snap]
  rcases o with _ | D
  · rfl
  · rfl
theorem Sh.read_tmp {d o t} (h : Sh d o t) : (readP d tmpN).2 = 0 ↔ t.isSome = true := by
  unfold readP
  rw [if_neg (by rw [h.ok.1]; decide), if_neg (by rw [h.down]; decide), h.files, has_tmp]
  rcases t with _ | x
  · simp
  · simp
theorem Fits.none_ {o t} (h : Fits o t) : Fits o none := ⟨h.1, fun x hx => by cases hx⟩
theorem drop_files (o x) : dropAt (posT o) (filesOf o (some x)) = filesOf o none := by cases o <;> rfl
theorem put_files (o data) : putAt (posT o) ⟨tmpN, data, 0⟩ (filesOf o none) = filesOf o (some (data, 0)) := by cases o <;> rfl
theorem sync_files (o x) : setSync (filesOf o (some x)) (posT o) = filesOf o (some (x.1, x.1.size)) := by cases o <;> rfl
theorem move_files (o) (T : ByteArray) : moved (filesOf o (some (T, T.size))) (posT o) snapN = filesOf (some T) none := by
  have hi : posT o < (filesOf o (some (T, T.size))).length := by cases o <;> exact Nat.lt_succ_self _
  have hf : (filesOf o (some (T, T.size)))[posT o] = ⟨tmpN, T, (T.size : Nat)⟩ := by cases o <;> rfl
  have hd := drop_files o (T, T.size)
  cases hb : hasB (namesF (dropAt (posT o) (filesOf o (some (T, T.size))))) snapN with
  | true =>
    rw [moved_t hi hb, hf, hd, pos_snap]
    rw [hd, has_snap] at hb
    cases o with
    | none => cases hb
    | some D => rfl
  | false =>
    rw [moved_f hi hb, hf, hd, pos_snap]
    rw [hd, has_snap] at hb
    cases o with
    | none => rfl
    | some D => cases hb
theorem step_drop {d o x} (h : Sh d o (some x)) : okSync tmpN d ∧ (((dropP d tmpN).2 = 0 ∧ Sh (dropP d tmpN).1 o none) ∨ ((dropP d tmpN).2 = 8 ∧ Dead (dropP d tmpN).1 o)) := by
  refine ⟨⟨h.ok, h.hasT⟩, ?_⟩
  unfold dropP
  by_cases hf : d.fuse = 0
  · rw [if_pos hf]; exact .inr ⟨rfl, rfl, _, h.files, h.fits⟩
  · rw [if_neg hf]; exact .inl ⟨rfl, ⟨by show dropAt _ d.files = _; rw [h.files, pos_tmp, drop_files], h.fits.none_, h.down, decF_in h.fuse⟩⟩
theorem step_add {d o data} (h : Sh d o none) (hd : data.size ≤ 100000) : okAdd tmpN data d ∧ (((addP d tmpN data).2 = 0 ∧ Sh (addP d tmpN data).1 o (some (data, 0))) ∨ ((addP d tmpN data).2 = 8 ∧ Dead (addP d tmpN data).1 o)) := by
  have hF : Fits o (some (data, 0)) := ⟨h.fits.1, fun x hx => by cases hx; exact ⟨Nat.zero_le _, hd⟩⟩
  have hp : putAt (posB (namesF d.files) tmpN) ⟨tmpN, data, 0⟩ d.files = filesOf o (some (data, 0)) := by rw [h.files, pos_tmp, put_files]
  refine ⟨⟨h.ok, named_tmp, h.hasT, by have := filesOf_len o none; rw [h.files]; omega, by omega⟩, ?_⟩
  unfold addP
  by_cases hf : d.fuse = 0
  · rw [if_pos hf]; exact .inr ⟨rfl, rfl, _, hp, hF⟩
  · rw [if_neg hf]; exact .inl ⟨rfl, ⟨hp, hF, h.down, decF_in h.fuse⟩⟩
theorem step_sync {d o x} (h : Sh d o (some x)) : okSync tmpN d ∧ (((syncP d tmpN).2 = 0 ∧ Sh (syncP d tmpN).1 o (some (x.1, x.1.size))) ∨ ((syncP d tmpN).2 = 8 ∧ Dead (syncP d tmpN).1 o)) := by
  have hF : Fits o (some (x.1, x.1.size)) := ⟨h.fits.1, fun y hy => by cases hy; exact ⟨Nat.le_refl _, (h.fits.2 x rfl).2⟩⟩
  refine ⟨⟨h.ok, h.hasT⟩, ?_⟩
  unfold syncP
  by_cases hf : d.fuse = 0
  · rw [if_pos hf]; exact .inr ⟨rfl, rfl, _, h.files, h.fits⟩
  · rw [if_neg hf]; exact .inl ⟨rfl, ⟨by show setSync d.files _ = _; rw [h.files, pos_tmp, sync_files], hF, h.down, decF_in h.fuse⟩⟩
theorem step_swap {d o T} (h : Sh d o (some (T, T.size))) : okSwap tmpN snapN d ∧ (((swapP d tmpN snapN).2 = 0 ∧ Sh (swapP d tmpN snapN).1 (some T) none) ∨ ((swapP d tmpN snapN).2 = 8 ∧ Dead (swapP d tmpN snapN).1 o)) := by
  have hF : Fits (some T) none := ⟨fun D hD => by cases hD; exact (h.fits.2 _ rfl).2, fun x hx => by cases hx⟩
  have hg : d.files[posB (namesF d.files) tmpN]? = some ⟨tmpN, T, (T.size : Nat)⟩ := by rw [h.files, pos_tmp]; cases o <;> rfl
  refine ⟨⟨h.ok, h.hasT, named_snap, fun hi => by rw [List.getElem?_eq_getElem hi] at hg; injection hg with hg; rw [hg]; exact Int.le_refl _⟩, ?_⟩
  unfold swapP
  by_cases hf : d.fuse = 0
  · rw [if_pos hf]; exact .inr ⟨rfl, rfl, _, h.files, h.fits⟩
  · rw [if_neg hf]; exact .inl ⟨rfl, ⟨by show moved d.files _ snapN = _; rw [h.files, pos_tmp, move_files], hF, h.down, decF_in h.fuse⟩⟩
theorem three_steps {d o data} (h : Sh d o none) (hd : data.size ≤ 100000) : ok3 tmpN snapN data d ∧ (((put3 tmpN snapN data d).2 = 0 ∧ Sh (put3 tmpN snapN data d).1 (some data) none) ∨ ((put3 tmpN snapN data d).2 = 8 ∧ Dead (put3 tmpN snapN data d).1 o)) := by
  obtain ⟨a1, a2⟩ := step_add h hd
  have e1 : put3 tmpN snapN data d = if (addP d tmpN data).2 = 0 then (if (syncP (addP d tmpN data).1 tmpN).2 = 0 then (if (swapP (syncP (addP d tmpN data).1 tmpN).1 tmpN snapN).2 = 0 then ((swapP (syncP (addP d tmpN data).1 tmpN).1 tmpN snapN).1, 0) else swapP (syncP (addP d tmpN data).1 tmpN).1 tmpN snapN) else syncP (addP d tmpN data).1 tmpN) else addP d tmpN data := rfl
  rcases a2 with ⟨a2, a3⟩ | ⟨a2, a3⟩
  · obtain ⟨b1, b2⟩ := step_sync a3
    rcases b2 with ⟨b2, b3⟩ | ⟨b2, b3⟩
    · obtain ⟨c1, c2⟩ := step_swap b3
      refine ⟨⟨a1, fun _ => ⟨b1, fun _ => ⟨c1, fun _ => trivial⟩⟩⟩, ?_⟩
      rw [e1, if_pos a2, if_pos b2]
      rcases c2 with ⟨c2, c3⟩ | ⟨c2, c3⟩
      · rw [if_pos c2]; exact .inl ⟨rfl, c3⟩
      · rw [if_neg (by rw [c2]; decide)]; exact .inr ⟨c2, c3⟩
    · refine ⟨⟨a1, fun _ => ⟨b1, fun h0 => absurd (b2.symm.trans h0) (by decide)⟩⟩, ?_⟩
      rw [e1, if_pos a2, if_neg (by rw [b2]; decide)]; exact .inr ⟨b2, b3⟩
  · refine ⟨⟨a1, fun h0 => absurd (a2.symm.trans h0) (by decide)⟩, ?_⟩
    rw [e1, if_neg (by rw [a2]; decide)]; exact .inr ⟨a2, a3⟩
theorem put_steps {d o t data} (h : Sh d o t) (hd : data.size ≤ 100000) : okPut d snapN data ∧ (((putP d snapN data).2 = 0 ∧ Sh (putP d snapN data).1 (some data) none) ∨ ((putP d snapN data).2 = 8 ∧ Dead (putP d snapN data).1 o)) := by
  unfold okPut putP
  rw [tmp_eq]
  rcases t with _ | x
  · have hr : ¬ (readP d tmpN).2 = 0 := fun e => by have := h.read_tmp.1 e; cases this
    obtain ⟨a1, a2⟩ := three_steps h hd
    refine ⟨⟨fun e => absurd e hr, fun _ => a1⟩, ?_⟩
    rw [if_neg hr]; exact a2
  · have hr : (readP d tmpN).2 = 0 := h.read_tmp.2 rfl
    obtain ⟨a1, a2⟩ := step_drop h
    rcases a2 with ⟨a2, a3⟩ | ⟨a2, a3⟩
    · obtain ⟨b1, b2⟩ := three_steps a3 hd
      refine ⟨⟨fun _ => ⟨a1, fun _ => b1⟩, fun e => absurd hr e⟩, ?_⟩
      rw [if_pos hr, if_pos a2]; exact b2
    · refine ⟨⟨fun _ => ⟨a1, fun h0 => absurd (a2.symm.trans h0) (by decide)⟩, fun e => absurd hr e⟩, ?_⟩
      rw [if_pos hr, if_neg (by rw [a2]; decide)]; exact .inr ⟨a2, a3⟩
/-! ### The power fails -/
theorem kept_in {f : FileD} (h : 0 ≤ f.synced ∧ f.synced ≤ f.data.size) (k : Option Int) : f.synced ≤ keptP f k ∧ keptP f k ≤ f.data.size := by
  unfold keptP wetP
  split
  · exact ⟨Int.le_refl _, h.2⟩
  · split
    · exact ⟨Int.le_refl _, h.2⟩
    · split <;> omega
theorem extract_all (D : ByteArray) : D.extract 0 D.size = D := ByteArray.extract_zero_size
theorem crashF_whole (nm D : ByteArray) (k : Option Int) : crashF ⟨nm, D, (D.size : Nat)⟩ k = ⟨nm, D, (D.size : Nat)⟩ := by
  have h := kept_in (f := ⟨nm, D, (D.size : Nat)⟩) ⟨Int.natCast_nonneg _, Int.le_refl _⟩ k
  have e : keptP ⟨nm, D, (D.size : Nat)⟩ k = (D.size : Nat) := Int.le_antisymm h.2 h.1
  unfold crashF
  rw [e]
  show FileD.mk nm (D.extract 0 D.size) _ = _
  rw [extract_all]
theorem crashF_part (nm T : ByteArray) (s : Nat) (hs : s ≤ T.size) (k : Option Int) : ∃ T' : ByteArray, T'.size ≤ T.size ∧ crashF ⟨nm, T, (s : Nat)⟩ k = ⟨nm, T', (T'.size : Nat)⟩ := by
  have h := kept_in (f := ⟨nm, T, (s : Nat)⟩) ⟨Int.natCast_nonneg _, by show ((s : Nat) : Int) ≤ (T.size : Nat); omega⟩ k
  obtain ⟨m, hm⟩ := Int.eq_ofNat_of_zero_le (show 0 ≤ keptP ⟨nm, T, (s : Nat)⟩ k by have : ((s : Nat) : Int) ≤ _ := h.1; omega)
  have hm2 : m ≤ T.size := by have : keptP ⟨nm, T, (s : Nat)⟩ k ≤ (T.size : Nat) := h.2; omega
  have hsz : (T.extract 0 m).size = m := by rw [ByteArray.size_extract]; omega
  refine ⟨T.extract 0 m, by omega, ?_⟩
  unfold crashF
  rw [hm]
  show FileD.mk nm (T.extract 0 m) (m : Nat) = _
  rw [hsz]
theorem crash_steps {d o} (h : Dead d o) (keep : List Int) : (checkD d = true ∧ ∀ f ∈ d.files, f.data.size ≤ 1000000) ∧ ∃ t, Sh (crashP d keep) o t := by
  obtain ⟨_, t, hf, hF⟩ := h
  refine ⟨⟨check_of hf hF, fun f hm => ?_⟩, ?_⟩
  · rw [hf] at hm
    rcases o with _ | D <;> rcases t with _ | x <;> simp [filesOf] at hm
    · subst hm; have := (hF.2 x rfl).2; show x.1.size ≤ _; omega
    · subst hm; have := hF.1 D rfl; show D.size ≤ _; omega
    · rcases hm with rfl | rfl
      · have := hF.1 D rfl; show D.size ≤ _; omega
      · have := (hF.2 x rfl).2; show x.1.size ≤ _; omega
  · have key : ∃ t', crashL (filesOf o t) keep = filesOf o t' ∧ Fits o t' := by
      rcases o with _ | D <;> rcases t with _ | x
      · exact ⟨none, rfl, hF⟩
      · obtain ⟨T', h1, h2⟩ := crashF_part tmpN x.1 x.2 (hF.2 x rfl).1 keep[0]?
        refine ⟨some (T', T'.size), ?_, hF.1, fun y hy => by cases hy; exact ⟨Nat.le_refl _, by have := (hF.2 x rfl).2; show T'.size ≤ _; omega⟩⟩
        show [crashF ⟨tmpN, x.1, (x.2 : Nat)⟩ keep[0]?] = _
        rw [h2]; rfl
      · refine ⟨none, ?_, hF⟩
        show [crashF ⟨snapN, D, (D.size : Nat)⟩ keep[0]?] = _
        rw [crashF_whole]; rfl
      · obtain ⟨T', h1, h2⟩ := crashF_part tmpN x.1 x.2 (hF.2 x rfl).1 keep[1]?
        refine ⟨some (T', T'.size), ?_, hF.1, fun y hy => by cases hy; exact ⟨Nat.le_refl _, by have := (hF.2 x rfl).2; show T'.size ≤ _; omega⟩⟩
        show [crashF ⟨snapN, D, (D.size : Nat)⟩ keep[0]?, crashF ⟨tmpN, x.1, (x.2 : Nat)⟩ keep[1]?] = _
        rw [crashF_whole, h2]; rfl
    obtain ⟨t', h1, h2⟩ := key
    exact ⟨t', ⟨by show crashL d.files keep = _; rw [hf]; exact h1, h2, rfl, by show (-1 : Int) ≤ -1 ∧ (-1 : Int) ≤ 9223372036854775807; decide⟩⟩
/-! ### What the law holds on to -/
theorem name_size {n : ByteArray} (h : nameB n = true) : n.size ≤ 32 := by
  unfold nameB at h
  simp only [Bool.and_eq_true, decide_eq_true_eq] at h
  exact h.2.1
/-- The last snapshot: none yet, or the number j and the name n. -/
def Last (o : Option ByteArray) (k : Nat) (last : ByteArray) : Prop := (o = none ∧ last = noB) ∨ ∃ j, 0 < j ∧ j ≤ k ∧ nameB last = true ∧ o = some (frameP (bytesP j last))
def lastS (o : Option ByteArray) (j : Nat) (last : ByteArray) : SnapD := match o with | none => ⟨0, 0, [], noB⟩ | some _ => ⟨(j : Nat), 0, [1], last⟩
theorem Last.load {o k last d t} (h : Last o k last) (hk : k < 256) (hd : Sh d o t) : ∃ x, LoadOk d x ∧ x.data = last ∧ x.index ≤ (k : Nat) := by
  rcases h with ⟨rfl, rfl⟩ | ⟨j, h1, h2, h3, rfl⟩
  · exact ⟨_, .inl ⟨hd.read_snap, rfl⟩, rfl, by show (0 : Int) ≤ _; omega⟩
  · exact ⟨_, .inr ⟨j, last, h1, by omega, by have := name_size h3; omega, hd.read_snap, rfl⟩, rfl, by show ((j : Nat) : Int) ≤ _; omega⟩
theorem Last.named {o k last} (h : Last o k last) : last = noB ∨ nameB last = true := by
  rcases h with ⟨_, h⟩ | ⟨j, _, _, h, _⟩
  · exact .inl h
  · exact .inr h
theorem Last.mono {o k k' last} (h : Last o k last) (hk : k ≤ k') : Last o k' last := by
  rcases h with h | ⟨j, h1, h2, h3, h4⟩
  · exact .inl h
  · exact .inr ⟨j, h1, by omega, h3, h4⟩
theorem Last.new {k n} (h : nameB n = true) : Last (some (frameP (bytesP (k + 1) n))) (k + 1) n := .inr ⟨k + 1, by omega, Nat.le_refl _, h, rfl⟩
theorem data_size {k : Nat} {n : ByteArray} (h : nameB n = true) : (frameP (bytesP k n)).size ≤ 100000 := by
  have := name_size h
  have := bytesP_size (i := k) (s := n)
  rw [frameP_size]; omega
theorem Sh.zero : Sh dZ none none := ⟨rfl, ⟨fun _ (h : none = some _) => (nomatch h), fun _ (h : none = some _) => (nomatch h)⟩, rfl, by show (-1 : Int) ≤ -1 ∧ (-1 : Int) ≤ 9223372036854775807; decide⟩
theorem Sh.fused {d o t} (h : Sh d o t) {f : Int} (hf : -1 ≤ f ∧ f ≤ 9223372036854775807) : Sh ⟨d.files, d.down, f⟩ o t := ⟨h.files, h.fits, h.down, hf⟩
end Go.Proofs.YtmnnbnajnfdncaaDoor
