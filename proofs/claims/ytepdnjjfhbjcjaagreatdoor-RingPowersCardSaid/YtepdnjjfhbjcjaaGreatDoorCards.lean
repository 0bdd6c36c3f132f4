/-
  DERIVED. GIVEN WITH THE SEED: THE CARDS: each row of YtepdnjjfhbjcjaaGreatDoorRows.lean that lists a variable, with what it lists TIED to the program's text (the seventh form; the later family's looks); each row that meets fmt, with fmt's text TOLD by the authors' own Lean function (tested against real Go, not proved from fmt's source: count such statements apart). THE CARD IS WHAT COUNTS. Prove the row's statement (the work); the ties are given (YtepdnjjfhbjcjaaGreatDoorTie.lean); close each card by the builder's one call (the guide's Derived/Test/ToyasCard.lean, 'card_holds'). Laid BY PROGRAM, IN A SANDBOX (cutbox-door.mjs). By AI agents, Wed Nov 11 2026. No macro, syntax, notation, axiom, sorry.
-/
import Derived.Test.YtepdnjjfhbjcjaaGreatDoorRows
import GoSem.ClaimSeven
namespace Go.Proofs.YtepdnjjfhbjcjaaGreatDoor
namespace Rows

/-- THE TIED CARD OF 'spoondriftlaw01.RingPowers'. -/
def ringPowersCard : Claim7 := { stood := { row := ringPowersRow, standIns := [], harness := (true, "f89a50cc01fa16e05a4eef44f9b51dc0e7e50830e3869b8af33e44b76c7013bd"), looks := true }, kinds := [], alts := [], laidByText := true, laidKinds := [.data, .data, .data, .sentinel, .sentinel], laidTests := true, laidLooks := .later }
def RingPowersCardSaid : Prop := Claim7.holds Tryz.pinned (.plain (OpenSpec.ofChange ringPowersSpec)) ringPowersCard

/-- THE TIED CARD OF 'spoondriftlaw01.RingSmall'. -/
def ringSmallCard : Claim7 := { stood := { row := ringSmallRow, standIns := [], harness := (true, "f89a50cc01fa16e05a4eef44f9b51dc0e7e50830e3869b8af33e44b76c7013bd"), looks := true }, kinds := [], alts := [], laidByText := true, laidKinds := [.data, .data, .data, .sentinel, .sentinel], laidTests := true, laidLooks := .later }
def RingSmallCardSaid : Prop := Claim7.holds Tryz.pinned (.plain (OpenSpec.ofChange ringSmallSpec)) ringSmallCard

/-- THE SECOND FORM's CARD OF 'spoondriftlaw01.RingPowers'. -/
def ringPowersUptoCard : Claim7 := { stood := { row := ringPowersUptoRow, standIns := [], harness := (true, "f89a50cc01fa16e05a4eef44f9b51dc0e7e50830e3869b8af33e44b76c7013bd"), looks := true }, kinds := [], alts := [], laidByText := true, laidKinds := [.data, .data, .data, .sentinel, .sentinel], laidTests := true, laidLooks := .later }
def RingPowersUptoCardSaid : Prop := Claim7.holds Tryz.pinned (.plain (OpenSpec.upto ringPowersSpec)) ringPowersUptoCard

/-- THE SECOND FORM's CARD OF 'spoondriftlaw01.RingSmall'. -/
def ringSmallUptoCard : Claim7 := { stood := { row := ringSmallUptoRow, standIns := [], harness := (true, "f89a50cc01fa16e05a4eef44f9b51dc0e7e50830e3869b8af33e44b76c7013bd"), looks := true }, kinds := [], alts := [], laidByText := true, laidKinds := [.data, .data, .data, .sentinel, .sentinel], laidTests := true, laidLooks := .later }
def RingSmallUptoCardSaid : Prop := Claim7.holds Tryz.pinned (.plain (OpenSpec.upto ringSmallSpec)) ringSmallUptoCard
end Rows
end Go.Proofs.YtepdnjjfhbjcjaaGreatDoor
