/- Proved here: the tied card of BookOwn: for every input the law returns true, and the two arguments read behind the call as they read before.
   Conditions, by the row's own cells: the two tables of unicode/utf8 are laid when the call begins (the card ties them to the program's text); the arguments may share memory; sizes are such as the form lets in. -/
import Derived.Test.YtmnnbnajnfdncaaGreatDoorBookRow
namespace Go.Proofs.YtmnnbnajnfdncaaGreatDoor
open Go
theorem bookOwn_card : Rows.BookOwnCardSaid :=
  Claim7.holds_tied_plain_at .later [] [.data, .pinned] true (true, "5637b40adfa2d9fb05d428c68344a95db36caa04c2b0399110372864593dac65") false
    bookOwn_holds (fun _ h => by cases h) (by kernel_rfl) (fun _ h => by cases h) bookOwn_row_tie rfl ⟨rfl, rfl⟩ (by kernel_rfl) rfl
    (fun f fn hf hfn => by
      obtain rfl : f = 3 := Option.some.inj ((show Tryz.prog.funcNamed Rows.bookOwnRow.func = some 3 by kernel_rfl).symm.trans hf) |>.symm
      obtain rfl : fn = Tryz.f3 := (Option.some.inj (Tryz.func3.symm.trans hfn)).symm
      exact ⟨by kernel_rfl, fun j t ht => by
        rw [Tryz.params3] at ht
        have h3 : t = 27 ∨ t = 36 := by
          rcases j with _ | _ | j
          · exact .inl (by simpa using ht.symm)
          · exact .inr (by simpa using ht.symm)
          · simp at ht
        rcases h3 with rfl | rfl
        · exact (show Tryz.prog.wantsStandIn 27 = false by kernel_rfl)
        · exact (show Tryz.prog.wantsStandIn 36 = false by kernel_rfl)⟩)
    (by kernel_rfl)
end Go.Proofs.YtmnnbnajnfdncaaGreatDoor
