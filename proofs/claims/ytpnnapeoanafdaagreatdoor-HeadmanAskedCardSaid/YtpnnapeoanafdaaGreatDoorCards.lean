/-
  DERIVED. GIVEN WITH THE SEED: THE CARDS: each row of YtpnnapeoanafdaaGreatDoorRows.lean that lists a variable, with what it lists TIED to the program's text (the seventh form; the later family's looks); each row that meets fmt, with fmt's text TOLD by the authors' own Lean function (tested against real Go, not proved from fmt's source: count such statements apart). THE CARD IS WHAT COUNTS. Prove the row's statement (the work); the ties are given (YtpnnapeoanafdaaGreatDoorTie.lean); close each card by the builder's one call (the guide's Derived/Test/ToyasCard.lean, 'card_holds'). Laid BY PROGRAM, IN A SANDBOX (cutbox-door.mjs). By AI agents, Wed Nov 11 2026. No macro, syntax, notation, axiom, sorry.
-/
import Derived.Test.YtpnnapeoanafdaaGreatDoorRows
import GoSem.ClaimSeven
namespace Go.Proofs.YtpnnapeoanafdaaGreatDoor
namespace Rows

/-- THE TIED CARD OF 'almadrabalaw12.HeadmanHalves'. -/
def headmanHalvesCard : Claim7 := { stood := { row := headmanHalvesRow, standIns := [], harness := (true, "feb794b36c9bb9b832ccbb6f33d8b113086c31e674a799c6ae85503cb71ddb55"), looks := true }, kinds := [], alts := [], laidByText := true, laidKinds := [.data, .data, .data, .data, .sentinel, .sentinel, .pinned], laidTests := true, laidLooks := .later }
def HeadmanHalvesCardSaid : Prop := Claim7.holds Tryz.pinned (.plain (OpenSpec.ofChange headmanHalvesSpec)) headmanHalvesCard

/-- THE TIED CARD OF 'almadrabalaw12.HeadmanNothing'. -/
def headmanNothingCard : Claim7 := { stood := { row := headmanNothingRow, standIns := [], harness := (true, "feb794b36c9bb9b832ccbb6f33d8b113086c31e674a799c6ae85503cb71ddb55"), looks := true }, kinds := [], alts := [], laidByText := true, laidKinds := [.data, .data, .data, .data, .sentinel, .sentinel, .pinned], laidTests := true, laidLooks := .later }
def HeadmanNothingCardSaid : Prop := Claim7.holds Tryz.pinned (.plain (OpenSpec.ofChange headmanNothingSpec)) headmanNothingCard

/-- THE TIED CARD OF 'almadrabalaw12.HeadmanOnce'. -/
def headmanOnceCard : Claim7 := { stood := { row := headmanOnceRow, standIns := [], harness := (true, "feb794b36c9bb9b832ccbb6f33d8b113086c31e674a799c6ae85503cb71ddb55"), looks := true }, kinds := [], alts := [], laidByText := true, laidKinds := [.data, .data, .data, .data, .sentinel, .sentinel, .pinned], laidTests := true, laidLooks := .later }
def HeadmanOnceCardSaid : Prop := Claim7.holds Tryz.pinned (.plain (OpenSpec.ofChange headmanOnceSpec)) headmanOnceCard

/-- THE TIED CARD OF 'almadrabalaw12.HeadmanAsked'. -/
def headmanAskedCard : Claim7 := { stood := { row := headmanAskedRow, standIns := [], harness := (true, "feb794b36c9bb9b832ccbb6f33d8b113086c31e674a799c6ae85503cb71ddb55"), looks := true }, kinds := [], alts := [], laidByText := true, laidKinds := [.data, .data, .data, .data, .sentinel, .sentinel, .pinned], laidTests := true, laidLooks := .later }
def HeadmanAskedCardSaid : Prop := Claim7.holds Tryz.pinned (.plain (OpenSpec.ofChange headmanAskedSpec)) headmanAskedCard

/-- THE TIED CARD OF 'almadrabalaw12.HeadmanBeside'. -/
def headmanBesideCard : Claim7 := { stood := { row := headmanBesideRow, standIns := [], harness := (true, "feb794b36c9bb9b832ccbb6f33d8b113086c31e674a799c6ae85503cb71ddb55"), looks := true }, kinds := [], alts := [], laidByText := true, laidKinds := [.data, .data, .data, .data, .sentinel, .sentinel, .pinned], laidTests := true, laidLooks := .later }
def HeadmanBesideCardSaid : Prop := Claim7.holds Tryz.pinned (.plain (OpenSpec.ofChange headmanBesideSpec)) headmanBesideCard

/-- THE TIED CARD OF 'almadrabalaw12.HeadmanMended'. -/
def headmanMendedCard : Claim7 := { stood := { row := headmanMendedRow, standIns := [], harness := (true, "feb794b36c9bb9b832ccbb6f33d8b113086c31e674a799c6ae85503cb71ddb55"), looks := true }, kinds := [], alts := [], laidByText := true, laidKinds := [.data, .data, .data, .data, .sentinel, .sentinel, .pinned], laidTests := true, laidLooks := .later }
def HeadmanMendedCardSaid : Prop := Claim7.holds Tryz.pinned (.plain (OpenSpec.ofChange headmanMendedSpec)) headmanMendedCard

/-- THE TIED CARD OF 'almadrabalaw12.HeadmanForm'. -/
def headmanFormCard : Claim7 := { stood := { row := headmanFormRow, standIns := [], harness := (true, "feb794b36c9bb9b832ccbb6f33d8b113086c31e674a799c6ae85503cb71ddb55"), looks := true }, kinds := [], alts := [], laidByText := true, laidKinds := [.data, .data, .data, .data, .sentinel, .sentinel, .pinned], laidTests := true, laidLooks := .later }
def HeadmanFormCardSaid : Prop := Claim7.holds Tryz.pinned (.plain (OpenSpec.ofChange headmanFormSpec)) headmanFormCard

/-- THE SECOND FORM's CARD OF 'almadrabalaw12.HeadmanHalves'. -/
def headmanHalvesUptoCard : Claim7 := { stood := { row := headmanHalvesUptoRow, standIns := [], harness := (true, "feb794b36c9bb9b832ccbb6f33d8b113086c31e674a799c6ae85503cb71ddb55"), looks := true }, kinds := [], alts := [], laidByText := true, laidKinds := [.data, .data, .data, .data, .sentinel, .sentinel, .pinned], laidTests := true, laidLooks := .later }
def HeadmanHalvesUptoCardSaid : Prop := Claim7.holds Tryz.pinned (.plain (OpenSpec.upto headmanHalvesSpec)) headmanHalvesUptoCard

/-- THE SECOND FORM's CARD OF 'almadrabalaw12.HeadmanNothing'. -/
def headmanNothingUptoCard : Claim7 := { stood := { row := headmanNothingUptoRow, standIns := [], harness := (true, "feb794b36c9bb9b832ccbb6f33d8b113086c31e674a799c6ae85503cb71ddb55"), looks := true }, kinds := [], alts := [], laidByText := true, laidKinds := [.data, .data, .data, .data, .sentinel, .sentinel, .pinned], laidTests := true, laidLooks := .later }
def HeadmanNothingUptoCardSaid : Prop := Claim7.holds Tryz.pinned (.plain (OpenSpec.upto headmanNothingSpec)) headmanNothingUptoCard

/-- THE SECOND FORM's CARD OF 'almadrabalaw12.HeadmanOnce'. -/
def headmanOnceUptoCard : Claim7 := { stood := { row := headmanOnceUptoRow, standIns := [], harness := (true, "feb794b36c9bb9b832ccbb6f33d8b113086c31e674a799c6ae85503cb71ddb55"), looks := true }, kinds := [], alts := [], laidByText := true, laidKinds := [.data, .data, .data, .data, .sentinel, .sentinel, .pinned], laidTests := true, laidLooks := .later }
def HeadmanOnceUptoCardSaid : Prop := Claim7.holds Tryz.pinned (.plain (OpenSpec.upto headmanOnceSpec)) headmanOnceUptoCard

/-- THE SECOND FORM's CARD OF 'almadrabalaw12.HeadmanAsked'. -/
def headmanAskedUptoCard : Claim7 := { stood := { row := headmanAskedUptoRow, standIns := [], harness := (true, "feb794b36c9bb9b832ccbb6f33d8b113086c31e674a799c6ae85503cb71ddb55"), looks := true }, kinds := [], alts := [], laidByText := true, laidKinds := [.data, .data, .data, .data, .sentinel, .sentinel, .pinned], laidTests := true, laidLooks := .later }
def HeadmanAskedUptoCardSaid : Prop := Claim7.holds Tryz.pinned (.plain (OpenSpec.upto headmanAskedSpec)) headmanAskedUptoCard

/-- THE SECOND FORM's CARD OF 'almadrabalaw12.HeadmanBeside'. -/
def headmanBesideUptoCard : Claim7 := { stood := { row := headmanBesideUptoRow, standIns := [], harness := (true, "feb794b36c9bb9b832ccbb6f33d8b113086c31e674a799c6ae85503cb71ddb55"), looks := true }, kinds := [], alts := [], laidByText := true, laidKinds := [.data, .data, .data, .data, .sentinel, .sentinel, .pinned], laidTests := true, laidLooks := .later }
def HeadmanBesideUptoCardSaid : Prop := Claim7.holds Tryz.pinned (.plain (OpenSpec.upto headmanBesideSpec)) headmanBesideUptoCard

/-- THE SECOND FORM's CARD OF 'almadrabalaw12.HeadmanMended'. -/
def headmanMendedUptoCard : Claim7 := { stood := { row := headmanMendedUptoRow, standIns := [], harness := (true, "feb794b36c9bb9b832ccbb6f33d8b113086c31e674a799c6ae85503cb71ddb55"), looks := true }, kinds := [], alts := [], laidByText := true, laidKinds := [.data, .data, .data, .data, .sentinel, .sentinel, .pinned], laidTests := true, laidLooks := .later }
def HeadmanMendedUptoCardSaid : Prop := Claim7.holds Tryz.pinned (.plain (OpenSpec.upto headmanMendedSpec)) headmanMendedUptoCard

/-- THE SECOND FORM's CARD OF 'almadrabalaw12.HeadmanForm'. -/
def headmanFormUptoCard : Claim7 := { stood := { row := headmanFormUptoRow, standIns := [], harness := (true, "feb794b36c9bb9b832ccbb6f33d8b113086c31e674a799c6ae85503cb71ddb55"), looks := true }, kinds := [], alts := [], laidByText := true, laidKinds := [.data, .data, .data, .data, .sentinel, .sentinel, .pinned], laidTests := true, laidLooks := .later }
def HeadmanFormUptoCardSaid : Prop := Claim7.holds Tryz.pinned (.plain (OpenSpec.upto headmanFormSpec)) headmanFormUptoCard
end Rows
end Go.Proofs.YtpnnapeoanafdaaGreatDoor
