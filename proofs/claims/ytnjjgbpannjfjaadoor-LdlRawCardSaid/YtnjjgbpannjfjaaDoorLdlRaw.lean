/- The tied card of LdlRaw: whatever the input, the law returns true and its arguments read behind the call as they read before; the one condition is that the variable errors.errorType starts as the text lays it, and the card ties that to the text. The cards tie the listed variable to the pruned copy of the project. -/
import Derived.Test.YtnjjgbpannjfjaaDoorRow
import Derived.Test.YtnjjgbpannjfjaaDoorTie
import Derived.Test.YtnjjgbpannjfjaaDoorCards
import Derived.SevenTiedAt
section
set_option linter.all false
set_option linter.unusedSimpArgs false
set_option linter.unusedVariables false
namespace Go.Proofs.YtnjjgbpannjfjaaDoor
open Go
set_option maxRecDepth 100000

theorem raw_card_holds : Rows.LdlRawCardSaid :=
  Claim7.holds_tied_plain_at .later [] [.handle] true (true, "39a32f1b23f0b00f05c6b89dad3deb968eccbbb74ac769646159dd44c742a65c") true
    raw_holds (fun _ h => by cases h) (by kernel_rfl) (fun _ h => by cases h) ldlRaw_row_tie rfl ⟨rfl, rfl⟩ (by kernel_rfl) rfl
    (fun f fn hf hfn => by
      obtain rfl : f = 3 := Option.some.inj ((show Tryd.prog.funcNamed "radome/radomelaw09.LdlRaw" = some 3 by kernel_rfl).symm.trans hf) |>.symm
      obtain rfl : fn = Tryd.f3 := (Option.some.inj (Tryd.func3.symm.trans hfn)).symm
      exact ⟨by kernel_rfl, fun j t ht => by
        rw [Tryd.params3] at ht
        have h3 : t = 3 ∨ t = 22 := by
          rcases j with _ | _ | _ | j
          · left; simpa using ht.symm
          · right; simpa using ht.symm
          · right; simpa using ht.symm
          · simp at ht
        rcases h3 with rfl | rfl
        · exact (show Tryd.prog.wantsStandIn 3 = false by kernel_rfl)
        · exact (show Tryd.prog.wantsStandIn 22 = false by kernel_rfl)⟩)
    (by kernel_rfl)
#print axioms raw_card_holds
end Go.Proofs.YtnjjgbpannjfjaaDoor
end
