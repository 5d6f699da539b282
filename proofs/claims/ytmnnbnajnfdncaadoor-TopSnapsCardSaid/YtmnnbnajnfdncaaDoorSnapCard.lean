/- Proved here: the tied card of TopSnaps: for every input the law returns true, and the three arguments read behind the call as they read before.
   Conditions, by the row's own cells: the two tables of unicode/utf8 are laid when the call begins (the card ties them to the program's text); the arguments may share memory; sizes are such as the form lets in. -/
import Derived.Test.YtmnnbnajnfdncaaDoorSnapRow
namespace Go.Proofs.YtmnnbnajnfdncaaDoor
open Go
theorem topSnaps_card : Rows.TopSnapsCardSaid :=
  Claim7.holds_tied_plain_at .later [] [.data, .pinned] true (true, "a9b95a2337a2f8702c1ccd22b3d317d62eced0bd3318a887eb5d316ebe04e76c") false
    topSnaps_holds (fun _ h => by cases h) (by kernel_rfl) (fun _ h => by cases h) topSnaps_row_tie rfl ⟨rfl, rfl⟩ (by kernel_rfl) rfl
    (fun f fn hf hfn => by
      obtain rfl : f = 3 := Option.some.inj ((show Tryd.prog.funcNamed Rows.topSnapsRow.func = some 3 by kernel_rfl).symm.trans hf) |>.symm
      obtain rfl : fn = Tryd.f3 := (Option.some.inj (Tryd.func3.symm.trans hfn)).symm
      exact ⟨by kernel_rfl, fun j t ht => by
        rw [Tryd.params3] at ht
        have h3 : t = 22 ∨ t = 23 := by
          rcases j with _ | _ | _ | j
          · exact .inl (by simpa using ht.symm)
          · exact .inr (by simpa using ht.symm)
          · exact .inr (by simpa using ht.symm)
          · simp at ht
        rcases h3 with rfl | rfl
        · exact (show Tryd.prog.wantsStandIn 22 = false by kernel_rfl)
        · exact (show Tryd.prog.wantsStandIn 23 = false by kernel_rfl)⟩)
    (by kernel_rfl)
end Go.Proofs.YtmnnbnajnfdncaaDoor
