/-
  DERIVED. GIVEN WITH THE SEED: THE CARDS: each row of YtonnegkpjmhomaaGreatDoorRows.lean that lists a variable, with what it lists TIED to the program's text (the seventh form; the later family's looks); each row that meets fmt, with fmt's text TOLD by the authors' own Lean function (tested against real Go, not proved from fmt's source: count such statements apart). THE CARD IS WHAT COUNTS. Prove the row's statement (the work); the ties are given (YtonnegkpjmhomaaGreatDoorTie.lean); close each card by the builder's one call (the guide's Derived/Test/ToyasCard.lean, 'card_holds'). Laid BY PROGRAM, IN A SANDBOX (cutbox-door.mjs). By AI agents, Wed Nov 11 2026. No macro, syntax, notation, axiom, sorry.
-/
import Derived.Test.YtonnegkpjmhomaaGreatDoorRows
import GoSem.ClaimSeven
namespace Go.Proofs.YtonnegkpjmhomaaGreatDoor
namespace Rows

/-- THE TIED CARD OF 'spoondriftlaw05.TextBegun'. -/
def textBegunCard : Claim7 := { stood := { row := textBegunRow, standIns := [], harness := (true, "a8207a1700aaeb2ab3434026f18b219caa9c1c210855924d7359dc4f14c6f8b5"), looks := true }, kinds := [], alts := [], laidByText := true, laidKinds := [.data, .data, .data, .widerDeep, .sentinel, .sentinel], laidTests := true, laidLooks := .later }
def TextBegunCardSaid : Prop := Claim7.holds Tryz.pinned (.plain (OpenSpec.ofChange textBegunSpec)) textBegunCard

/-- THE TIED CARD OF 'spoondriftlaw05.TextPlaced'. -/
def textPlacedCard : Claim7 := { stood := { row := textPlacedRow, standIns := [], harness := (true, "a8207a1700aaeb2ab3434026f18b219caa9c1c210855924d7359dc4f14c6f8b5"), looks := true }, kinds := [], alts := [], laidByText := true, laidKinds := [.data, .data, .data, .widerDeep, .sentinel, .sentinel], laidTests := true, laidLooks := .later }
def TextPlacedCardSaid : Prop := Claim7.holds Tryz.pinned (.plain (OpenSpec.ofChange textPlacedSpec)) textPlacedCard

/-- THE TIED CARD OF 'spoondriftlaw05.TextLaid'. -/
def textLaidCard : Claim7 := { stood := { row := textLaidRow, standIns := [], harness := (true, "a8207a1700aaeb2ab3434026f18b219caa9c1c210855924d7359dc4f14c6f8b5"), looks := true }, kinds := [], alts := [], laidByText := true, laidKinds := [.data, .data, .data, .widerDeep, .sentinel, .sentinel], laidTests := true, laidLooks := .later }
def TextLaidCardSaid : Prop := Claim7.holds Tryz.pinned (.plain (OpenSpec.ofChange textLaidSpec)) textLaidCard

/-- THE TIED CARD OF 'spoondriftlaw05.TextSmall'. -/
def textSmallCard : Claim7 := { stood := { row := textSmallRow, standIns := [], harness := (true, "a8207a1700aaeb2ab3434026f18b219caa9c1c210855924d7359dc4f14c6f8b5"), looks := true }, kinds := [], alts := [], laidByText := true, laidKinds := [.data, .data, .data, .sentinel, .sentinel], laidTests := true, laidLooks := .later }
def TextSmallCardSaid : Prop := Claim7.holds Tryz.pinned (.plain (OpenSpec.ofChange textSmallSpec)) textSmallCard

/-- THE TIED CARD OF 'spoondriftlaw05.TextPut'. -/
def textPutCard : Claim7 := { stood := { row := textPutRow, standIns := [], harness := (true, "a8207a1700aaeb2ab3434026f18b219caa9c1c210855924d7359dc4f14c6f8b5"), looks := true }, kinds := [], alts := [], laidByText := true, laidKinds := [.data, .data, .data, .widerDeep, .sentinel, .sentinel], laidTests := true, laidLooks := .later }
def TextPutCardSaid : Prop := Claim7.holds Tryz.pinned (.plain (OpenSpec.ofChange textPutSpec)) textPutCard

/-- THE TIED CARD OF 'spoondriftlaw05.TextTold'. -/
def textToldCard : Claim7 := { stood := { row := textToldRow, standIns := [], harness := (true, "a8207a1700aaeb2ab3434026f18b219caa9c1c210855924d7359dc4f14c6f8b5"), looks := true }, kinds := [], alts := [], laidByText := true, laidKinds := [.data, .data, .data, .data, .widerDeep, .sentinel, .sentinel, .pinned], laidTests := true, laidLooks := .later }
def TextToldCardSaid : Prop := Claim7.holds Tryz.pinned (.plain (OpenSpec.ofChange textToldSpec)) textToldCard

/-- THE SECOND FORM's CARD OF 'spoondriftlaw05.TextBegun'. -/
def textBegunUptoCard : Claim7 := { stood := { row := textBegunUptoRow, standIns := [], harness := (true, "a8207a1700aaeb2ab3434026f18b219caa9c1c210855924d7359dc4f14c6f8b5"), looks := true }, kinds := [], alts := [], laidByText := true, laidKinds := [.data, .data, .data, .widerDeep, .sentinel, .sentinel], laidTests := true, laidLooks := .later }
def TextBegunUptoCardSaid : Prop := Claim7.holds Tryz.pinned (.plain (OpenSpec.upto textBegunSpec)) textBegunUptoCard

/-- THE SECOND FORM's CARD OF 'spoondriftlaw05.TextPlaced'. -/
def textPlacedUptoCard : Claim7 := { stood := { row := textPlacedUptoRow, standIns := [], harness := (true, "a8207a1700aaeb2ab3434026f18b219caa9c1c210855924d7359dc4f14c6f8b5"), looks := true }, kinds := [], alts := [], laidByText := true, laidKinds := [.data, .data, .data, .widerDeep, .sentinel, .sentinel], laidTests := true, laidLooks := .later }
def TextPlacedUptoCardSaid : Prop := Claim7.holds Tryz.pinned (.plain (OpenSpec.upto textPlacedSpec)) textPlacedUptoCard

/-- THE SECOND FORM's CARD OF 'spoondriftlaw05.TextLaid'. -/
def textLaidUptoCard : Claim7 := { stood := { row := textLaidUptoRow, standIns := [], harness := (true, "a8207a1700aaeb2ab3434026f18b219caa9c1c210855924d7359dc4f14c6f8b5"), looks := true }, kinds := [], alts := [], laidByText := true, laidKinds := [.data, .data, .data, .widerDeep, .sentinel, .sentinel], laidTests := true, laidLooks := .later }
def TextLaidUptoCardSaid : Prop := Claim7.holds Tryz.pinned (.plain (OpenSpec.upto textLaidSpec)) textLaidUptoCard

/-- THE SECOND FORM's CARD OF 'spoondriftlaw05.TextSmall'. -/
def textSmallUptoCard : Claim7 := { stood := { row := textSmallUptoRow, standIns := [], harness := (true, "a8207a1700aaeb2ab3434026f18b219caa9c1c210855924d7359dc4f14c6f8b5"), looks := true }, kinds := [], alts := [], laidByText := true, laidKinds := [.data, .data, .data, .sentinel, .sentinel], laidTests := true, laidLooks := .later }
def TextSmallUptoCardSaid : Prop := Claim7.holds Tryz.pinned (.plain (OpenSpec.upto textSmallSpec)) textSmallUptoCard

/-- THE SECOND FORM's CARD OF 'spoondriftlaw05.TextPut'. -/
def textPutUptoCard : Claim7 := { stood := { row := textPutUptoRow, standIns := [], harness := (true, "a8207a1700aaeb2ab3434026f18b219caa9c1c210855924d7359dc4f14c6f8b5"), looks := true }, kinds := [], alts := [], laidByText := true, laidKinds := [.data, .data, .data, .widerDeep, .sentinel, .sentinel], laidTests := true, laidLooks := .later }
def TextPutUptoCardSaid : Prop := Claim7.holds Tryz.pinned (.plain (OpenSpec.upto textPutSpec)) textPutUptoCard

/-- THE SECOND FORM's CARD OF 'spoondriftlaw05.TextTold'. -/
def textToldUptoCard : Claim7 := { stood := { row := textToldUptoRow, standIns := [], harness := (true, "a8207a1700aaeb2ab3434026f18b219caa9c1c210855924d7359dc4f14c6f8b5"), looks := true }, kinds := [], alts := [], laidByText := true, laidKinds := [.data, .data, .data, .data, .widerDeep, .sentinel, .sentinel, .pinned], laidTests := true, laidLooks := .later }
def TextToldUptoCardSaid : Prop := Claim7.holds Tryz.pinned (.plain (OpenSpec.upto textToldSpec)) textToldUptoCard
end Rows
end Go.Proofs.YtonnegkpjmhomaaGreatDoor
