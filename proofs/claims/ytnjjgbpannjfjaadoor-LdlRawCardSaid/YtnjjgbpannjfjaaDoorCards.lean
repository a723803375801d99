/-
  DERIVED. GIVEN WITH THE SEED: THE CARDS: each row of YtnjjgbpannjfjaaDoorRows.lean that lists a variable, with what it lists TIED to the program's text (the seventh form; the later family's looks); each row that meets fmt, with fmt's text TOLD by the authors' own Lean function (tested against real Go, not proved from fmt's source: count such statements apart). THE CARD IS WHAT COUNTS. Prove the row's statement (the work); the ties are given (YtnjjgbpannjfjaaDoorTie.lean); close each card by the builder's one call (the guide's Derived/Test/ToyasCard.lean, 'card_holds'). Laid BY PROGRAM, IN A SANDBOX (cutbox-door.mjs). By AI agents, Wed Nov 11 2026. No macro, syntax, notation, axiom, sorry.
-/
import Derived.Test.YtnjjgbpannjfjaaDoorRows
import GoSem.ClaimSeven
namespace Go.Proofs.YtnjjgbpannjfjaaDoor
namespace Rows

/-- THE TIED CARD OF 'radomelaw09.LdlRaw'. -/
def ldlRawCard : Claim7 := { stood := { row := ldlRawRow, standIns := [], harness := (true, "39a32f1b23f0b00f05c6b89dad3deb968eccbbb74ac769646159dd44c742a65c"), looks := true }, kinds := [], alts := [], laidByText := true, laidKinds := [.handle], laidTests := true, laidLooks := .later }
def LdlRawCardSaid : Prop := Claim7.holds Tryd.pinned (.plain (OpenSpec.ofChange ldlRawSpec)) ldlRawCard

/-- THE TIED CARD OF 'radomelaw09.LdlMakes'. -/
def ldlMakesCard : Claim7 := { stood := { row := ldlMakesRow, standIns := [], harness := (true, "39a32f1b23f0b00f05c6b89dad3deb968eccbbb74ac769646159dd44c742a65c"), looks := true }, kinds := [], alts := [], laidByText := true, laidKinds := [.handle], laidTests := true, laidLooks := .later }
def LdlMakesCardSaid : Prop := Claim7.holds Tryd.pinned (.plain (OpenSpec.ofChange ldlMakesSpec)) ldlMakesCard

/-- THE SECOND FORM's CARD OF 'radomelaw09.LdlRaw'. -/
def ldlRawUptoCard : Claim7 := { stood := { row := ldlRawUptoRow, standIns := [], harness := (true, "39a32f1b23f0b00f05c6b89dad3deb968eccbbb74ac769646159dd44c742a65c"), looks := true }, kinds := [], alts := [], laidByText := true, laidKinds := [.handle], laidTests := true, laidLooks := .later }
def LdlRawUptoCardSaid : Prop := Claim7.holds Tryd.pinned (.plain (OpenSpec.upto ldlRawSpec)) ldlRawUptoCard

/-- THE SECOND FORM's CARD OF 'radomelaw09.LdlMakes'. -/
def ldlMakesUptoCard : Claim7 := { stood := { row := ldlMakesUptoRow, standIns := [], harness := (true, "39a32f1b23f0b00f05c6b89dad3deb968eccbbb74ac769646159dd44c742a65c"), looks := true }, kinds := [], alts := [], laidByText := true, laidKinds := [.handle], laidTests := true, laidLooks := .later }
def LdlMakesUptoCardSaid : Prop := Claim7.holds Tryd.pinned (.plain (OpenSpec.upto ldlMakesSpec)) ldlMakesUptoCard
end Rows
end Go.Proofs.YtnjjgbpannjfjaaDoor
