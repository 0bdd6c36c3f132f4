/-
  DERIVED. GIVEN WITH THE SEED: THE CARDS: each row of YtmlloonbommkhaaGreatDoorRows.lean that lists a variable, with what it lists TIED to the program's text (the seventh form; the later family's looks); each row that meets fmt, with fmt's text TOLD by the authors' own Lean function (tested against real Go, not proved from fmt's source: count such statements apart). THE CARD IS WHAT COUNTS. Prove the row's statement (the work); the ties are given (YtmlloonbommkhaaGreatDoorTie.lean); close each card by the builder's one call (the guide's Derived/Test/ToyasCard.lean, 'card_holds'). Laid BY PROGRAM, IN A SANDBOX (cutbox-door.mjs). By AI agents, Wed Nov 11 2026. No macro, syntax, notation, axiom, sorry.
-/
import Derived.Test.YtmlloonbommkhaaGreatDoorRows
import GoSem.ClaimSeven
namespace Go.Proofs.YtmlloonbommkhaaGreatDoor
namespace Rows

/-- THE TIED CARD OF 'spoondriftlaw05.TextTokens'. -/
def textTokensCard : Claim7 := { stood := { row := textTokensRow, standIns := [], harness := (true, "fc1d7efc78188f771f7d271d2df359c228683f3c39ae1c732dd35b391c49d366"), looks := true }, kinds := [], alts := [], laidByText := true, laidKinds := [.data, .data, .data, .sentinel, .sentinel], laidTests := true, laidLooks := .later }
def TextTokensCardSaid : Prop := Claim7.holds Tryz.pinned (.plain (OpenSpec.ofChange textTokensSpec)) textTokensCard

/-- THE TIED CARD OF 'spoondriftlaw05.TextChanges'. -/
def textChangesCard : Claim7 := { stood := { row := textChangesRow, standIns := [], harness := (true, "fc1d7efc78188f771f7d271d2df359c228683f3c39ae1c732dd35b391c49d366"), looks := true }, kinds := [], alts := [], laidByText := true, laidKinds := [.data, .data, .data, .sentinel, .sentinel], laidTests := true, laidLooks := .later }
def TextChangesCardSaid : Prop := Claim7.holds Tryz.pinned (.plain (OpenSpec.ofChange textChangesSpec)) textChangesCard

/-- THE TIED CARD OF 'spoondriftlaw05.TextParses'. -/
def textParsesCard : Claim7 := { stood := { row := textParsesRow, standIns := [], harness := (true, "fc1d7efc78188f771f7d271d2df359c228683f3c39ae1c732dd35b391c49d366"), looks := true }, kinds := [], alts := [], laidByText := true, laidKinds := [.data, .data, .data, .sentinel, .sentinel], laidTests := true, laidLooks := .later }
def TextParsesCardSaid : Prop := Claim7.holds Tryz.pinned (.plain (OpenSpec.ofChange textParsesSpec)) textParsesCard

/-- THE TIED CARD OF 'spoondriftlaw05.TextPrints'. -/
def textPrintsCard : Claim7 := { stood := { row := textPrintsRow, standIns := [], harness := (true, "fc1d7efc78188f771f7d271d2df359c228683f3c39ae1c732dd35b391c49d366"), looks := true }, kinds := [], alts := [], laidByText := true, laidKinds := [.data, .data, .data, .sentinel, .sentinel], laidTests := true, laidLooks := .later }
def TextPrintsCardSaid : Prop := Claim7.holds Tryz.pinned (.plain (OpenSpec.ofChange textPrintsSpec)) textPrintsCard

/-- THE SECOND FORM's CARD OF 'spoondriftlaw05.TextTokens'. -/
def textTokensUptoCard : Claim7 := { stood := { row := textTokensUptoRow, standIns := [], harness := (true, "fc1d7efc78188f771f7d271d2df359c228683f3c39ae1c732dd35b391c49d366"), looks := true }, kinds := [], alts := [], laidByText := true, laidKinds := [.data, .data, .data, .sentinel, .sentinel], laidTests := true, laidLooks := .later }
def TextTokensUptoCardSaid : Prop := Claim7.holds Tryz.pinned (.plain (OpenSpec.upto textTokensSpec)) textTokensUptoCard

/-- THE SECOND FORM's CARD OF 'spoondriftlaw05.TextChanges'. -/
def textChangesUptoCard : Claim7 := { stood := { row := textChangesUptoRow, standIns := [], harness := (true, "fc1d7efc78188f771f7d271d2df359c228683f3c39ae1c732dd35b391c49d366"), looks := true }, kinds := [], alts := [], laidByText := true, laidKinds := [.data, .data, .data, .sentinel, .sentinel], laidTests := true, laidLooks := .later }
def TextChangesUptoCardSaid : Prop := Claim7.holds Tryz.pinned (.plain (OpenSpec.upto textChangesSpec)) textChangesUptoCard

/-- THE SECOND FORM's CARD OF 'spoondriftlaw05.TextParses'. -/
def textParsesUptoCard : Claim7 := { stood := { row := textParsesUptoRow, standIns := [], harness := (true, "fc1d7efc78188f771f7d271d2df359c228683f3c39ae1c732dd35b391c49d366"), looks := true }, kinds := [], alts := [], laidByText := true, laidKinds := [.data, .data, .data, .sentinel, .sentinel], laidTests := true, laidLooks := .later }
def TextParsesUptoCardSaid : Prop := Claim7.holds Tryz.pinned (.plain (OpenSpec.upto textParsesSpec)) textParsesUptoCard

/-- THE SECOND FORM's CARD OF 'spoondriftlaw05.TextPrints'. -/
def textPrintsUptoCard : Claim7 := { stood := { row := textPrintsUptoRow, standIns := [], harness := (true, "fc1d7efc78188f771f7d271d2df359c228683f3c39ae1c732dd35b391c49d366"), looks := true }, kinds := [], alts := [], laidByText := true, laidKinds := [.data, .data, .data, .sentinel, .sentinel], laidTests := true, laidLooks := .later }
def TextPrintsUptoCardSaid : Prop := Claim7.holds Tryz.pinned (.plain (OpenSpec.upto textPrintsSpec)) textPrintsUptoCard
end Rows
end Go.Proofs.YtmlloonbommkhaaGreatDoor
