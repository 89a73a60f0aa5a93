/-
  DERIVED. GIVEN WITH THE SEED: THE CARDS: each row of YtgpcaaknpfopgaaDoorRows.lean that lists a variable, with what it lists TIED to the program's text (the seventh form; the later family's looks); each row that meets fmt, with fmt's text TOLD by the authors' own Lean function (tested against real Go, not proved from fmt's source: count such statements apart). THE CARD IS WHAT COUNTS. Prove the row's statement (the work); the ties are given (YtgpcaaknpfopgaaDoorTie.lean); close each card by the builder's one call (the guide's Derived/Test/ToyasCard.lean, 'card_holds'). Laid BY PROGRAM, IN A SANDBOX (cutbox-door.mjs). By AI agents, Wed Nov 11 2026. No macro, syntax, notation, axiom, sorry.
-/
import Derived.Test.YtgpcaaknpfopgaaDoorRows
import GoSem.ClaimSeven
namespace Go.Proofs.YtgpcaaknpfopgaaDoor
namespace Rows

/-- THE TIED CARD OF 'almadrabalaw02.AnchorsWind'. -/
def anchorsWindCard : Claim7 := { stood := { row := anchorsWindRow, standIns := [], harness := (true, "e1e92b29fcc31e03562ee532f60f6afad23791d02c5047d1637e41f4c1e65c75"), looks := false }, kinds := [], alts := [], laidByText := true, laidKinds := [.data, .data], laidTests := true, laidLooks := .later }
def AnchorsWindCardSaid : Prop := Claim7.holds Tryd.pinned (.plain (OpenSpec.ofChange anchorsWindSpec)) anchorsWindCard

/-- THE TIED CARD OF 'almadrabalaw02.AnchorsCalmer'. -/
def anchorsCalmerCard : Claim7 := { stood := { row := anchorsCalmerRow, standIns := [], harness := (true, "e1e92b29fcc31e03562ee532f60f6afad23791d02c5047d1637e41f4c1e65c75"), looks := false }, kinds := [], alts := [], laidByText := true, laidKinds := [.data, .data], laidTests := true, laidLooks := .later }
def AnchorsCalmerCardSaid : Prop := Claim7.holds Tryd.pinned (.plain (OpenSpec.ofChange anchorsCalmerSpec)) anchorsCalmerCard

/-- THE TIED CARD OF 'almadrabalaw02.AnchorsApart'. -/
def anchorsApartCard : Claim7 := { stood := { row := anchorsApartRow, standIns := [], harness := (true, "e1e92b29fcc31e03562ee532f60f6afad23791d02c5047d1637e41f4c1e65c75"), looks := false }, kinds := [], alts := [], laidByText := true, laidKinds := [.data, .data], laidTests := true, laidLooks := .later }
def AnchorsApartCardSaid : Prop := Claim7.holds Tryd.pinned (.plain (OpenSpec.ofChange anchorsApartSpec)) anchorsApartCard

/-- THE TIED CARD OF 'almadrabalaw02.AnchorsHeavier'. -/
def anchorsHeavierCard : Claim7 := { stood := { row := anchorsHeavierRow, standIns := [], harness := (true, "e1e92b29fcc31e03562ee532f60f6afad23791d02c5047d1637e41f4c1e65c75"), looks := false }, kinds := [], alts := [], laidByText := true, laidKinds := [.data, .data], laidTests := true, laidLooks := .later }
def AnchorsHeavierCardSaid : Prop := Claim7.holds Tryd.pinned (.plain (OpenSpec.ofChange anchorsHeavierSpec)) anchorsHeavierCard

/-- THE TIED CARD OF 'almadrabalaw02.AnchorsBack'. -/
def anchorsBackCard : Claim7 := { stood := { row := anchorsBackRow, standIns := [], harness := (true, "e1e92b29fcc31e03562ee532f60f6afad23791d02c5047d1637e41f4c1e65c75"), looks := false }, kinds := [], alts := [], laidByText := true, laidKinds := [.data, .data], laidTests := true, laidLooks := .later }
def AnchorsBackCardSaid : Prop := Claim7.holds Tryd.pinned (.plain (OpenSpec.ofChange anchorsBackSpec)) anchorsBackCard

/-- THE TIED CARD OF 'almadrabalaw02.AnchorsNeed'. -/
def anchorsNeedCard : Claim7 := { stood := { row := anchorsNeedRow, standIns := [], harness := (true, "e1e92b29fcc31e03562ee532f60f6afad23791d02c5047d1637e41f4c1e65c75"), looks := false }, kinds := [], alts := [], laidByText := true, laidKinds := [.data, .data], laidTests := true, laidLooks := .later }
def AnchorsNeedCardSaid : Prop := Claim7.holds Tryd.pinned (.plain (OpenSpec.ofChange anchorsNeedSpec)) anchorsNeedCard

/-- THE TIED CARD OF 'almadrabalaw02.AnchorsLoad'. -/
def anchorsLoadCard : Claim7 := { stood := { row := anchorsLoadRow, standIns := [], harness := (true, "e1e92b29fcc31e03562ee532f60f6afad23791d02c5047d1637e41f4c1e65c75"), looks := false }, kinds := [], alts := [], laidByText := true, laidKinds := [.data, .data], laidTests := true, laidLooks := .later }
def AnchorsLoadCardSaid : Prop := Claim7.holds Tryd.pinned (.plain (OpenSpec.ofChange anchorsLoadSpec)) anchorsLoadCard

/-- THE TIED CARD OF 'almadrabalaw02.AnchorsKnown'. -/
def anchorsKnownCard : Claim7 := { stood := { row := anchorsKnownRow, standIns := [], harness := (true, "e1e92b29fcc31e03562ee532f60f6afad23791d02c5047d1637e41f4c1e65c75"), looks := false }, kinds := [], alts := [], laidByText := true, laidKinds := [.data, .data], laidTests := true, laidLooks := .later }
def AnchorsKnownCardSaid : Prop := Claim7.holds Tryd.pinned (.plain (OpenSpec.ofChange anchorsKnownSpec)) anchorsKnownCard

/-- THE TIED CARD OF 'almadrabalaw02.AnchorsHelp'. -/
def anchorsHelpCard : Claim7 := { stood := { row := anchorsHelpRow, standIns := [], harness := (true, "e1e92b29fcc31e03562ee532f60f6afad23791d02c5047d1637e41f4c1e65c75"), looks := false }, kinds := [], alts := [], laidByText := true, laidKinds := [.data, .data], laidTests := true, laidLooks := .later }
def AnchorsHelpCardSaid : Prop := Claim7.holds Tryd.pinned (.plain (OpenSpec.ofChange anchorsHelpSpec)) anchorsHelpCard

/-- THE TIED CARD OF 'almadrabalaw02.AnchorsEach'. -/
def anchorsEachCard : Claim7 := { stood := { row := anchorsEachRow, standIns := [], harness := (true, "e1e92b29fcc31e03562ee532f60f6afad23791d02c5047d1637e41f4c1e65c75"), looks := false }, kinds := [], alts := [], laidByText := true, laidKinds := [.data, .data], laidTests := true, laidLooks := .later }
def AnchorsEachCardSaid : Prop := Claim7.holds Tryd.pinned (.plain (OpenSpec.ofChange anchorsEachSpec)) anchorsEachCard

/-- THE TIED CARD OF 'almadrabalaw02.AnchorsPulled'. -/
def anchorsPulledCard : Claim7 := { stood := { row := anchorsPulledRow, standIns := [], harness := (true, "e1e92b29fcc31e03562ee532f60f6afad23791d02c5047d1637e41f4c1e65c75"), looks := false }, kinds := [], alts := [], laidByText := true, laidKinds := [.data, .data], laidTests := true, laidLooks := .later }
def AnchorsPulledCardSaid : Prop := Claim7.holds Tryd.pinned (.plain (OpenSpec.ofChange anchorsPulledSpec)) anchorsPulledCard

/-- THE TIED CARD OF 'almadrabalaw02.AnchorsDrags'. -/
def anchorsDragsCard : Claim7 := { stood := { row := anchorsDragsRow, standIns := [], harness := (true, "e1e92b29fcc31e03562ee532f60f6afad23791d02c5047d1637e41f4c1e65c75"), looks := false }, kinds := [], alts := [], laidByText := true, laidKinds := [.data, .data], laidTests := true, laidLooks := .later }
def AnchorsDragsCardSaid : Prop := Claim7.holds Tryd.pinned (.plain (OpenSpec.ofChange anchorsDragsSpec)) anchorsDragsCard

/-- THE SECOND FORM's CARD OF 'almadrabalaw02.AnchorsWind'. -/
def anchorsWindUptoCard : Claim7 := { stood := { row := anchorsWindUptoRow, standIns := [], harness := (true, "e1e92b29fcc31e03562ee532f60f6afad23791d02c5047d1637e41f4c1e65c75"), looks := false }, kinds := [], alts := [], laidByText := true, laidKinds := [.data, .data], laidTests := true, laidLooks := .later }
def AnchorsWindUptoCardSaid : Prop := Claim7.holds Tryd.pinned (.plain (OpenSpec.upto anchorsWindSpec)) anchorsWindUptoCard

/-- THE SECOND FORM's CARD OF 'almadrabalaw02.AnchorsCalmer'. -/
def anchorsCalmerUptoCard : Claim7 := { stood := { row := anchorsCalmerUptoRow, standIns := [], harness := (true, "e1e92b29fcc31e03562ee532f60f6afad23791d02c5047d1637e41f4c1e65c75"), looks := false }, kinds := [], alts := [], laidByText := true, laidKinds := [.data, .data], laidTests := true, laidLooks := .later }
def AnchorsCalmerUptoCardSaid : Prop := Claim7.holds Tryd.pinned (.plain (OpenSpec.upto anchorsCalmerSpec)) anchorsCalmerUptoCard

/-- THE SECOND FORM's CARD OF 'almadrabalaw02.AnchorsApart'. -/
def anchorsApartUptoCard : Claim7 := { stood := { row := anchorsApartUptoRow, standIns := [], harness := (true, "e1e92b29fcc31e03562ee532f60f6afad23791d02c5047d1637e41f4c1e65c75"), looks := false }, kinds := [], alts := [], laidByText := true, laidKinds := [.data, .data], laidTests := true, laidLooks := .later }
def AnchorsApartUptoCardSaid : Prop := Claim7.holds Tryd.pinned (.plain (OpenSpec.upto anchorsApartSpec)) anchorsApartUptoCard

/-- THE SECOND FORM's CARD OF 'almadrabalaw02.AnchorsHeavier'. -/
def anchorsHeavierUptoCard : Claim7 := { stood := { row := anchorsHeavierUptoRow, standIns := [], harness := (true, "e1e92b29fcc31e03562ee532f60f6afad23791d02c5047d1637e41f4c1e65c75"), looks := false }, kinds := [], alts := [], laidByText := true, laidKinds := [.data, .data], laidTests := true, laidLooks := .later }
def AnchorsHeavierUptoCardSaid : Prop := Claim7.holds Tryd.pinned (.plain (OpenSpec.upto anchorsHeavierSpec)) anchorsHeavierUptoCard

/-- THE SECOND FORM's CARD OF 'almadrabalaw02.AnchorsBack'. -/
def anchorsBackUptoCard : Claim7 := { stood := { row := anchorsBackUptoRow, standIns := [], harness := (true, "e1e92b29fcc31e03562ee532f60f6afad23791d02c5047d1637e41f4c1e65c75"), looks := false }, kinds := [], alts := [], laidByText := true, laidKinds := [.data, .data], laidTests := true, laidLooks := .later }
def AnchorsBackUptoCardSaid : Prop := Claim7.holds Tryd.pinned (.plain (OpenSpec.upto anchorsBackSpec)) anchorsBackUptoCard

/-- THE SECOND FORM's CARD OF 'almadrabalaw02.AnchorsNeed'. -/
def anchorsNeedUptoCard : Claim7 := { stood := { row := anchorsNeedUptoRow, standIns := [], harness := (true, "e1e92b29fcc31e03562ee532f60f6afad23791d02c5047d1637e41f4c1e65c75"), looks := false }, kinds := [], alts := [], laidByText := true, laidKinds := [.data, .data], laidTests := true, laidLooks := .later }
def AnchorsNeedUptoCardSaid : Prop := Claim7.holds Tryd.pinned (.plain (OpenSpec.upto anchorsNeedSpec)) anchorsNeedUptoCard

/-- THE SECOND FORM's CARD OF 'almadrabalaw02.AnchorsLoad'. -/
def anchorsLoadUptoCard : Claim7 := { stood := { row := anchorsLoadUptoRow, standIns := [], harness := (true, "e1e92b29fcc31e03562ee532f60f6afad23791d02c5047d1637e41f4c1e65c75"), looks := false }, kinds := [], alts := [], laidByText := true, laidKinds := [.data, .data], laidTests := true, laidLooks := .later }
def AnchorsLoadUptoCardSaid : Prop := Claim7.holds Tryd.pinned (.plain (OpenSpec.upto anchorsLoadSpec)) anchorsLoadUptoCard

/-- THE SECOND FORM's CARD OF 'almadrabalaw02.AnchorsKnown'. -/
def anchorsKnownUptoCard : Claim7 := { stood := { row := anchorsKnownUptoRow, standIns := [], harness := (true, "e1e92b29fcc31e03562ee532f60f6afad23791d02c5047d1637e41f4c1e65c75"), looks := false }, kinds := [], alts := [], laidByText := true, laidKinds := [.data, .data], laidTests := true, laidLooks := .later }
def AnchorsKnownUptoCardSaid : Prop := Claim7.holds Tryd.pinned (.plain (OpenSpec.upto anchorsKnownSpec)) anchorsKnownUptoCard

/-- THE SECOND FORM's CARD OF 'almadrabalaw02.AnchorsHelp'. -/
def anchorsHelpUptoCard : Claim7 := { stood := { row := anchorsHelpUptoRow, standIns := [], harness := (true, "e1e92b29fcc31e03562ee532f60f6afad23791d02c5047d1637e41f4c1e65c75"), looks := false }, kinds := [], alts := [], laidByText := true, laidKinds := [.data, .data], laidTests := true, laidLooks := .later }
def AnchorsHelpUptoCardSaid : Prop := Claim7.holds Tryd.pinned (.plain (OpenSpec.upto anchorsHelpSpec)) anchorsHelpUptoCard

/-- THE SECOND FORM's CARD OF 'almadrabalaw02.AnchorsEach'. -/
def anchorsEachUptoCard : Claim7 := { stood := { row := anchorsEachUptoRow, standIns := [], harness := (true, "e1e92b29fcc31e03562ee532f60f6afad23791d02c5047d1637e41f4c1e65c75"), looks := false }, kinds := [], alts := [], laidByText := true, laidKinds := [.data, .data], laidTests := true, laidLooks := .later }
def AnchorsEachUptoCardSaid : Prop := Claim7.holds Tryd.pinned (.plain (OpenSpec.upto anchorsEachSpec)) anchorsEachUptoCard

/-- THE SECOND FORM's CARD OF 'almadrabalaw02.AnchorsPulled'. -/
def anchorsPulledUptoCard : Claim7 := { stood := { row := anchorsPulledUptoRow, standIns := [], harness := (true, "e1e92b29fcc31e03562ee532f60f6afad23791d02c5047d1637e41f4c1e65c75"), looks := false }, kinds := [], alts := [], laidByText := true, laidKinds := [.data, .data], laidTests := true, laidLooks := .later }
def AnchorsPulledUptoCardSaid : Prop := Claim7.holds Tryd.pinned (.plain (OpenSpec.upto anchorsPulledSpec)) anchorsPulledUptoCard

/-- THE SECOND FORM's CARD OF 'almadrabalaw02.AnchorsDrags'. -/
def anchorsDragsUptoCard : Claim7 := { stood := { row := anchorsDragsUptoRow, standIns := [], harness := (true, "e1e92b29fcc31e03562ee532f60f6afad23791d02c5047d1637e41f4c1e65c75"), looks := false }, kinds := [], alts := [], laidByText := true, laidKinds := [.data, .data], laidTests := true, laidLooks := .later }
def AnchorsDragsUptoCardSaid : Prop := Claim7.holds Tryd.pinned (.plain (OpenSpec.upto anchorsDragsSpec)) anchorsDragsUptoCard
end Rows
end Go.Proofs.YtgpcaaknpfopgaaDoor
