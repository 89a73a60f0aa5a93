/-
  DERIVED. GIVEN WITH THE SEED: THE CARDS: each row of YtcjjlikhlmfedaaGreatDoorRows.lean that lists a variable, with what it lists TIED to the program's text (the seventh form; the later family's looks); each row that meets fmt, with fmt's text TOLD by the authors' own Lean function (tested against real Go, not proved from fmt's source: count such statements apart). THE CARD IS WHAT COUNTS. Prove the row's statement (the work); the ties are given (YtcjjlikhlmfedaaGreatDoorTie.lean); close each card by the builder's one call (the guide's Derived/Test/ToyasCard.lean, 'card_holds'). Laid BY PROGRAM, IN A SANDBOX (cutbox-door.mjs). By AI agents, Wed Nov 11 2026. No macro, syntax, notation, axiom, sorry.
-/
import Derived.Test.YtcjjlikhlmfedaaGreatDoorRows
import GoSem.ClaimSeven
namespace Go.Proofs.YtcjjlikhlmfedaaGreatDoor
namespace Rows

/-- THE TIED CARD OF 'almadrabalaw12.HeadmanRun'. -/
def headmanRunCard : Claim7 := { stood := { row := headmanRunRow, standIns := [], harness := (true, "075148fe45683faf4f2c64e63d9931dc4be8b7e512a84ee4d015d2b754fc1468"), looks := true }, kinds := [], alts := [], laidByText := true, laidKinds := [.data, .data, .data, .data, .sentinel, .sentinel, .pinned], laidTests := true, laidLooks := .later }
def HeadmanRunCardSaid : Prop := Claim7.holds Tryz.pinned (.plain (OpenSpec.ofChange headmanRunSpec)) headmanRunCard

/-- THE SECOND FORM's CARD OF 'almadrabalaw12.HeadmanRun'. -/
def headmanRunUptoCard : Claim7 := { stood := { row := headmanRunUptoRow, standIns := [], harness := (true, "075148fe45683faf4f2c64e63d9931dc4be8b7e512a84ee4d015d2b754fc1468"), looks := true }, kinds := [], alts := [], laidByText := true, laidKinds := [.data, .data, .data, .data, .sentinel, .sentinel, .pinned], laidTests := true, laidLooks := .later }
def HeadmanRunUptoCardSaid : Prop := Claim7.holds Tryz.pinned (.plain (OpenSpec.upto headmanRunSpec)) headmanRunUptoCard
end Rows
end Go.Proofs.YtcjjlikhlmfedaaGreatDoor
