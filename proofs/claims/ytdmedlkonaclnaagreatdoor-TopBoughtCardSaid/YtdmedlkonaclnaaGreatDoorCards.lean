/-
  DERIVED. GIVEN WITH THE SEED: THE CARDS: each row of YtdmedlkonaclnaaGreatDoorRows.lean that lists a variable, with what it lists TIED to the program's text (the seventh form; the later family's looks); each row that meets fmt, with fmt's text TOLD by the authors' own Lean function (tested against real Go, not proved from fmt's source: count such statements apart). THE CARD IS WHAT COUNTS. Prove the row's statement (the work); the ties are given (YtdmedlkonaclnaaGreatDoorTie.lean); close each card by the builder's one call (the guide's Derived/Test/ToyasCard.lean, 'card_holds'). Laid BY PROGRAM, IN A SANDBOX (cutbox-door.mjs). By AI agents, Wed Nov 11 2026. No macro, syntax, notation, axiom, sorry.
-/
import Derived.Test.YtdmedlkonaclnaaGreatDoorRows
import GoSem.ClaimSeven
namespace Go.Proofs.YtdmedlkonaclnaaGreatDoor
namespace Rows

/-- THE TIED CARD OF 'almadrabatop.TopWritten'. -/
def topWrittenCard : Claim7 := { stood := { row := topWrittenRow, standIns := [], harness := (true, "ef5e96bebb614ba120923d8dc0fa37978fc061b3d9ed06084c34179698472157"), looks := true }, kinds := [], alts := [], laidByText := true, laidKinds := [.data, .data, .data, .data, .sentinel, .sentinel, .pinned], laidTests := true, laidLooks := .later }
def TopWrittenCardSaid : Prop := Claim7.holds Tryz.pinned (.plain (OpenSpec.ofChange topWrittenSpec)) topWrittenCard

/-- THE TIED CARD OF 'almadrabalaw12.HeadmanAtOnce'. -/
def headmanAtOnceCard : Claim7 := { stood := { row := headmanAtOnceRow, standIns := [], harness := (true, "ef5e96bebb614ba120923d8dc0fa37978fc061b3d9ed06084c34179698472157"), looks := true }, kinds := [], alts := [], laidByText := true, laidKinds := [.data, .data, .data, .data, .sentinel, .sentinel, .pinned], laidTests := true, laidLooks := .later }
def HeadmanAtOnceCardSaid : Prop := Claim7.holds Tryz.pinned (.plain (OpenSpec.ofChange headmanAtOnceSpec)) headmanAtOnceCard

/-- THE TIED CARD OF 'almadrabalaw12.HeadmanForgotten'. -/
def headmanForgottenCard : Claim7 := { stood := { row := headmanForgottenRow, standIns := [], harness := (true, "ef5e96bebb614ba120923d8dc0fa37978fc061b3d9ed06084c34179698472157"), looks := true }, kinds := [], alts := [], laidByText := true, laidKinds := [.data, .data, .data, .data, .sentinel, .sentinel, .pinned], laidTests := true, laidLooks := .later }
def HeadmanForgottenCardSaid : Prop := Claim7.holds Tryz.pinned (.plain (OpenSpec.ofChange headmanForgottenSpec)) headmanForgottenCard

/-- THE TIED CARD OF 'almadrabalaw12.HeadmanWaits'. -/
def headmanWaitsCard : Claim7 := { stood := { row := headmanWaitsRow, standIns := [], harness := (true, "ef5e96bebb614ba120923d8dc0fa37978fc061b3d9ed06084c34179698472157"), looks := true }, kinds := [], alts := [], laidByText := true, laidKinds := [.data, .data, .data, .data, .sentinel, .sentinel, .pinned], laidTests := true, laidLooks := .later }
def HeadmanWaitsCardSaid : Prop := Claim7.holds Tryz.pinned (.plain (OpenSpec.ofChange headmanWaitsSpec)) headmanWaitsCard

/-- THE TIED CARD OF 'almadrabatop.TopBought'. -/
def topBoughtCard : Claim7 := { stood := { row := topBoughtRow, standIns := [], harness := (true, "ef5e96bebb614ba120923d8dc0fa37978fc061b3d9ed06084c34179698472157"), looks := true }, kinds := [], alts := [], laidByText := true, laidKinds := [.data, .data, .data, .data, .sentinel, .sentinel, .pinned], laidTests := true, laidLooks := .later }
def TopBoughtCardSaid : Prop := Claim7.holds Tryz.pinned (.plain (OpenSpec.ofChange topBoughtSpec)) topBoughtCard

/-- THE SECOND FORM's CARD OF 'almadrabatop.TopWritten'. -/
def topWrittenUptoCard : Claim7 := { stood := { row := topWrittenUptoRow, standIns := [], harness := (true, "ef5e96bebb614ba120923d8dc0fa37978fc061b3d9ed06084c34179698472157"), looks := true }, kinds := [], alts := [], laidByText := true, laidKinds := [.data, .data, .data, .data, .sentinel, .sentinel, .pinned], laidTests := true, laidLooks := .later }
def TopWrittenUptoCardSaid : Prop := Claim7.holds Tryz.pinned (.plain (OpenSpec.upto topWrittenSpec)) topWrittenUptoCard

/-- THE SECOND FORM's CARD OF 'almadrabalaw12.HeadmanAtOnce'. -/
def headmanAtOnceUptoCard : Claim7 := { stood := { row := headmanAtOnceUptoRow, standIns := [], harness := (true, "ef5e96bebb614ba120923d8dc0fa37978fc061b3d9ed06084c34179698472157"), looks := true }, kinds := [], alts := [], laidByText := true, laidKinds := [.data, .data, .data, .data, .sentinel, .sentinel, .pinned], laidTests := true, laidLooks := .later }
def HeadmanAtOnceUptoCardSaid : Prop := Claim7.holds Tryz.pinned (.plain (OpenSpec.upto headmanAtOnceSpec)) headmanAtOnceUptoCard

/-- THE SECOND FORM's CARD OF 'almadrabalaw12.HeadmanForgotten'. -/
def headmanForgottenUptoCard : Claim7 := { stood := { row := headmanForgottenUptoRow, standIns := [], harness := (true, "ef5e96bebb614ba120923d8dc0fa37978fc061b3d9ed06084c34179698472157"), looks := true }, kinds := [], alts := [], laidByText := true, laidKinds := [.data, .data, .data, .data, .sentinel, .sentinel, .pinned], laidTests := true, laidLooks := .later }
def HeadmanForgottenUptoCardSaid : Prop := Claim7.holds Tryz.pinned (.plain (OpenSpec.upto headmanForgottenSpec)) headmanForgottenUptoCard

/-- THE SECOND FORM's CARD OF 'almadrabalaw12.HeadmanWaits'. -/
def headmanWaitsUptoCard : Claim7 := { stood := { row := headmanWaitsUptoRow, standIns := [], harness := (true, "ef5e96bebb614ba120923d8dc0fa37978fc061b3d9ed06084c34179698472157"), looks := true }, kinds := [], alts := [], laidByText := true, laidKinds := [.data, .data, .data, .data, .sentinel, .sentinel, .pinned], laidTests := true, laidLooks := .later }
def HeadmanWaitsUptoCardSaid : Prop := Claim7.holds Tryz.pinned (.plain (OpenSpec.upto headmanWaitsSpec)) headmanWaitsUptoCard

/-- THE SECOND FORM's CARD OF 'almadrabatop.TopBought'. -/
def topBoughtUptoCard : Claim7 := { stood := { row := topBoughtUptoRow, standIns := [], harness := (true, "ef5e96bebb614ba120923d8dc0fa37978fc061b3d9ed06084c34179698472157"), looks := true }, kinds := [], alts := [], laidByText := true, laidKinds := [.data, .data, .data, .data, .sentinel, .sentinel, .pinned], laidTests := true, laidLooks := .later }
def TopBoughtUptoCardSaid : Prop := Claim7.holds Tryz.pinned (.plain (OpenSpec.upto topBoughtSpec)) topBoughtUptoCard
end Rows
end Go.Proofs.YtdmedlkonaclnaaGreatDoor
