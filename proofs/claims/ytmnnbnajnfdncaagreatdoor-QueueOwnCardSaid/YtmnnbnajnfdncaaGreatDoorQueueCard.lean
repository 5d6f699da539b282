/- Proved here: the tied card of QueueOwn: for every input the law returns true, and the argument reads behind the call as it read before.
   Conditions, by the row's own cells: the two tables of unicode/utf8 are laid when the call begins (the card ties them to the program's text); the argument's parts may share memory; sizes are such as the form lets in. -/
import Derived.Test.YtmnnbnajnfdncaaGreatDoorQueueRow
namespace Go.Proofs.YtmnnbnajnfdncaaGreatDoor
open Go
theorem queueOwn_card : Rows.QueueOwnCardSaid :=
  Claim7.holds_tied_plain_at .later [] [.data, .pinned] true (true, "5637b40adfa2d9fb05d428c68344a95db36caa04c2b0399110372864593dac65") false
    queueOwn_holds (fun _ h => by cases h) (by kernel_rfl) (fun _ h => by cases h) queueOwn_row_tie rfl ⟨rfl, rfl⟩ (by kernel_rfl) rfl
    (fun f fn hf hfn => by
      obtain rfl : f = 4 := Option.some.inj ((show Tryz.prog.funcNamed Rows.queueOwnRow.func = some 4 by kernel_rfl).symm.trans hf) |>.symm
      obtain rfl : fn = Tryz.f4 := (Option.some.inj (Tryz.func4.symm.trans hfn)).symm
      exact ⟨by kernel_rfl, fun j t ht => by
        rw [Tryz.params4] at ht
        have h3 : t = 27 := by
          rcases j with _ | j
          · simpa using ht.symm
          · simp at ht
        subst h3
        exact (show Tryz.prog.wantsStandIn 27 = false by kernel_rfl)⟩)
    (by kernel_rfl)
end Go.Proofs.YtmnnbnajnfdncaaGreatDoor
