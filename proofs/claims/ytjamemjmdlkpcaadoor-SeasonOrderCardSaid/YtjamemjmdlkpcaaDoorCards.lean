/-
  DERIVED. GIVEN WITH THE SEED: THE CARDS: each row of YtjamemjmdlkpcaaDoorRows.lean that lists a variable, with what it lists TIED to the program's text (the seventh form; the later family's looks); each row that meets fmt, with fmt's text TOLD by the authors' own Lean function (tested against real Go, not proved from fmt's source: count such statements apart). THE CARD IS WHAT COUNTS. Prove the row's statement (the work); the ties are given (YtjamemjmdlkpcaaDoorTie.lean); close each card by the builder's one call (the guide's Derived/Test/ToyasCard.lean, 'card_holds'). Laid BY PROGRAM, IN A SANDBOX (cutbox-door.mjs). By AI agents, Wed Nov 11 2026. No macro, syntax, notation, axiom, sorry.
-/
import Derived.Test.YtjamemjmdlkpcaaDoorRows
import GoSem.ClaimSeven
namespace Go.Proofs.YtjamemjmdlkpcaaDoor
namespace Rows

/-- THE TIED CARD OF 'almadrabalaw14.SeasonRowed'. -/
def seasonRowedCard : Claim7 := { stood := { row := seasonRowedRow, standIns := [], harness := (true, "e890075cb154df08cbfd902b10904a842f5a996aab9930a95ada0fd4a0848bd5"), looks := false }, kinds := [], alts := [], laidByText := true, laidKinds := [.data, .data, .data, .data, .pinned], laidTests := true, laidLooks := .later }
def SeasonRowedCardSaid : Prop := Claim7.holds Tryd.pinned (.plain (OpenSpec.ofChange seasonRowedSpec)) seasonRowedCard

/-- THE TIED CARD OF 'almadrabalaw14.SeasonBack'. -/
def seasonBackCard : Claim7 := { stood := { row := seasonBackRow, standIns := [], harness := (true, "e890075cb154df08cbfd902b10904a842f5a996aab9930a95ada0fd4a0848bd5"), looks := false }, kinds := [], alts := [], laidByText := true, laidKinds := [.data, .data, .data, .data, .pinned], laidTests := true, laidLooks := .later }
def SeasonBackCardSaid : Prop := Claim7.holds Tryd.pinned (.plain (OpenSpec.ofChange seasonBackSpec)) seasonBackCard

/-- THE TIED CARD OF 'almadrabalaw14.SeasonRows'. -/
def seasonRowsCard : Claim7 := { stood := { row := seasonRowsRow, standIns := [], harness := (true, "e890075cb154df08cbfd902b10904a842f5a996aab9930a95ada0fd4a0848bd5"), looks := false }, kinds := [], alts := [], laidByText := true, laidKinds := [.data, .data, .data, .data, .pinned], laidTests := true, laidLooks := .later }
def SeasonRowsCardSaid : Prop := Claim7.holds Tryd.pinned (.plain (OpenSpec.ofChange seasonRowsSpec)) seasonRowsCard

/-- THE TIED CARD OF 'almadrabalaw14.SeasonByte'. -/
def seasonByteCard : Claim7 := { stood := { row := seasonByteRow, standIns := [], harness := (true, "e890075cb154df08cbfd902b10904a842f5a996aab9930a95ada0fd4a0848bd5"), looks := false }, kinds := [], alts := [], laidByText := true, laidKinds := [.data, .data, .data, .data, .pinned], laidTests := true, laidLooks := .later }
def SeasonByteCardSaid : Prop := Claim7.holds Tryd.pinned (.plain (OpenSpec.ofChange seasonByteSpec)) seasonByteCard

/-- THE TIED CARD OF 'almadrabalaw14.SeasonOrder'. -/
def seasonOrderCard : Claim7 := { stood := { row := seasonOrderRow, standIns := [], harness := (true, "e890075cb154df08cbfd902b10904a842f5a996aab9930a95ada0fd4a0848bd5"), looks := false }, kinds := [], alts := [], laidByText := true, laidKinds := [.data, .data, .data, .data, .pinned], laidTests := true, laidLooks := .later }
def SeasonOrderCardSaid : Prop := Claim7.holds Tryd.pinned (.plain (OpenSpec.ofChange seasonOrderSpec)) seasonOrderCard

/-- THE TIED CARD OF 'almadrabalaw14.SeasonAdds'. -/
def seasonAddsCard : Claim7 := { stood := { row := seasonAddsRow, standIns := [], harness := (true, "e890075cb154df08cbfd902b10904a842f5a996aab9930a95ada0fd4a0848bd5"), looks := false }, kinds := [], alts := [], laidByText := true, laidKinds := [.data, .data, .data, .data, .pinned], laidTests := true, laidLooks := .later }
def SeasonAddsCardSaid : Prop := Claim7.holds Tryd.pinned (.plain (OpenSpec.ofChange seasonAddsSpec)) seasonAddsCard

/-- THE TIED CARD OF 'almadrabalaw14.SeasonBegins'. -/
def seasonBeginsCard : Claim7 := { stood := { row := seasonBeginsRow, standIns := [], harness := (true, "e890075cb154df08cbfd902b10904a842f5a996aab9930a95ada0fd4a0848bd5"), looks := false }, kinds := [], alts := [], laidByText := true, laidKinds := [.data, .data, .data, .data, .pinned], laidTests := true, laidLooks := .later }
def SeasonBeginsCardSaid : Prop := Claim7.holds Tryd.pinned (.plain (OpenSpec.ofChange seasonBeginsSpec)) seasonBeginsCard

/-- THE TIED CARD OF 'almadrabalaw14.SeasonMore'. -/
def seasonMoreCard : Claim7 := { stood := { row := seasonMoreRow, standIns := [], harness := (true, "e890075cb154df08cbfd902b10904a842f5a996aab9930a95ada0fd4a0848bd5"), looks := false }, kinds := [], alts := [], laidByText := true, laidKinds := [.data, .data, .data, .data, .pinned], laidTests := true, laidLooks := .later }
def SeasonMoreCardSaid : Prop := Claim7.holds Tryd.pinned (.plain (OpenSpec.ofChange seasonMoreSpec)) seasonMoreCard

/-- THE TIED CARD OF 'almadrabalaw14.SeasonWrites'. -/
def seasonWritesCard : Claim7 := { stood := { row := seasonWritesRow, standIns := [], harness := (true, "e890075cb154df08cbfd902b10904a842f5a996aab9930a95ada0fd4a0848bd5"), looks := false }, kinds := [], alts := [], laidByText := true, laidKinds := [.data, .data, .data, .data, .pinned], laidTests := true, laidLooks := .later }
def SeasonWritesCardSaid : Prop := Claim7.holds Tryd.pinned (.plain (OpenSpec.ofChange seasonWritesSpec)) seasonWritesCard

/-- THE TIED CARD OF 'almadrabalaw14.SeasonLong'. -/
def seasonLongCard : Claim7 := { stood := { row := seasonLongRow, standIns := [], harness := (true, "e890075cb154df08cbfd902b10904a842f5a996aab9930a95ada0fd4a0848bd5"), looks := false }, kinds := [], alts := [], laidByText := true, laidKinds := [.data, .data, .data, .data, .pinned], laidTests := true, laidLooks := .later }
def SeasonLongCardSaid : Prop := Claim7.holds Tryd.pinned (.plain (OpenSpec.ofChange seasonLongSpec)) seasonLongCard

/-- THE TIED CARD OF 'almadrabalaw14.SeasonReads'. -/
def seasonReadsCard : Claim7 := { stood := { row := seasonReadsRow, standIns := [], harness := (true, "e890075cb154df08cbfd902b10904a842f5a996aab9930a95ada0fd4a0848bd5"), looks := false }, kinds := [], alts := [], laidByText := true, laidKinds := [.data, .data, .data, .data, .pinned], laidTests := true, laidLooks := .later }
def SeasonReadsCardSaid : Prop := Claim7.holds Tryd.pinned (.plain (OpenSpec.ofChange seasonReadsSpec)) seasonReadsCard

/-- THE TIED CARD OF 'almadrabalaw14.SeasonForm'. -/
def seasonFormCard : Claim7 := { stood := { row := seasonFormRow, standIns := [], harness := (true, "e890075cb154df08cbfd902b10904a842f5a996aab9930a95ada0fd4a0848bd5"), looks := false }, kinds := [], alts := [], laidByText := true, laidKinds := [.data, .data, .data, .data, .pinned], laidTests := true, laidLooks := .later }
def SeasonFormCardSaid : Prop := Claim7.holds Tryd.pinned (.plain (OpenSpec.ofChange seasonFormSpec)) seasonFormCard

/-- THE SECOND FORM's CARD OF 'almadrabalaw14.SeasonRowed'. -/
def seasonRowedUptoCard : Claim7 := { stood := { row := seasonRowedUptoRow, standIns := [], harness := (true, "e890075cb154df08cbfd902b10904a842f5a996aab9930a95ada0fd4a0848bd5"), looks := false }, kinds := [], alts := [], laidByText := true, laidKinds := [.data, .data, .data, .data, .pinned], laidTests := true, laidLooks := .later }
def SeasonRowedUptoCardSaid : Prop := Claim7.holds Tryd.pinned (.plain (OpenSpec.upto seasonRowedSpec)) seasonRowedUptoCard

/-- THE SECOND FORM's CARD OF 'almadrabalaw14.SeasonBack'. -/
def seasonBackUptoCard : Claim7 := { stood := { row := seasonBackUptoRow, standIns := [], harness := (true, "e890075cb154df08cbfd902b10904a842f5a996aab9930a95ada0fd4a0848bd5"), looks := false }, kinds := [], alts := [], laidByText := true, laidKinds := [.data, .data, .data, .data, .pinned], laidTests := true, laidLooks := .later }
def SeasonBackUptoCardSaid : Prop := Claim7.holds Tryd.pinned (.plain (OpenSpec.upto seasonBackSpec)) seasonBackUptoCard

/-- THE SECOND FORM's CARD OF 'almadrabalaw14.SeasonRows'. -/
def seasonRowsUptoCard : Claim7 := { stood := { row := seasonRowsUptoRow, standIns := [], harness := (true, "e890075cb154df08cbfd902b10904a842f5a996aab9930a95ada0fd4a0848bd5"), looks := false }, kinds := [], alts := [], laidByText := true, laidKinds := [.data, .data, .data, .data, .pinned], laidTests := true, laidLooks := .later }
def SeasonRowsUptoCardSaid : Prop := Claim7.holds Tryd.pinned (.plain (OpenSpec.upto seasonRowsSpec)) seasonRowsUptoCard

/-- THE SECOND FORM's CARD OF 'almadrabalaw14.SeasonByte'. -/
def seasonByteUptoCard : Claim7 := { stood := { row := seasonByteUptoRow, standIns := [], harness := (true, "e890075cb154df08cbfd902b10904a842f5a996aab9930a95ada0fd4a0848bd5"), looks := false }, kinds := [], alts := [], laidByText := true, laidKinds := [.data, .data, .data, .data, .pinned], laidTests := true, laidLooks := .later }
def SeasonByteUptoCardSaid : Prop := Claim7.holds Tryd.pinned (.plain (OpenSpec.upto seasonByteSpec)) seasonByteUptoCard

/-- THE SECOND FORM's CARD OF 'almadrabalaw14.SeasonOrder'. -/
def seasonOrderUptoCard : Claim7 := { stood := { row := seasonOrderUptoRow, standIns := [], harness := (true, "e890075cb154df08cbfd902b10904a842f5a996aab9930a95ada0fd4a0848bd5"), looks := false }, kinds := [], alts := [], laidByText := true, laidKinds := [.data, .data, .data, .data, .pinned], laidTests := true, laidLooks := .later }
def SeasonOrderUptoCardSaid : Prop := Claim7.holds Tryd.pinned (.plain (OpenSpec.upto seasonOrderSpec)) seasonOrderUptoCard

/-- THE SECOND FORM's CARD OF 'almadrabalaw14.SeasonAdds'. -/
def seasonAddsUptoCard : Claim7 := { stood := { row := seasonAddsUptoRow, standIns := [], harness := (true, "e890075cb154df08cbfd902b10904a842f5a996aab9930a95ada0fd4a0848bd5"), looks := false }, kinds := [], alts := [], laidByText := true, laidKinds := [.data, .data, .data, .data, .pinned], laidTests := true, laidLooks := .later }
def SeasonAddsUptoCardSaid : Prop := Claim7.holds Tryd.pinned (.plain (OpenSpec.upto seasonAddsSpec)) seasonAddsUptoCard

/-- THE SECOND FORM's CARD OF 'almadrabalaw14.SeasonBegins'. -/
def seasonBeginsUptoCard : Claim7 := { stood := { row := seasonBeginsUptoRow, standIns := [], harness := (true, "e890075cb154df08cbfd902b10904a842f5a996aab9930a95ada0fd4a0848bd5"), looks := false }, kinds := [], alts := [], laidByText := true, laidKinds := [.data, .data, .data, .data, .pinned], laidTests := true, laidLooks := .later }
def SeasonBeginsUptoCardSaid : Prop := Claim7.holds Tryd.pinned (.plain (OpenSpec.upto seasonBeginsSpec)) seasonBeginsUptoCard

/-- THE SECOND FORM's CARD OF 'almadrabalaw14.SeasonMore'. -/
def seasonMoreUptoCard : Claim7 := { stood := { row := seasonMoreUptoRow, standIns := [], harness := (true, "e890075cb154df08cbfd902b10904a842f5a996aab9930a95ada0fd4a0848bd5"), looks := false }, kinds := [], alts := [], laidByText := true, laidKinds := [.data, .data, .data, .data, .pinned], laidTests := true, laidLooks := .later }
def SeasonMoreUptoCardSaid : Prop := Claim7.holds Tryd.pinned (.plain (OpenSpec.upto seasonMoreSpec)) seasonMoreUptoCard

/-- THE SECOND FORM's CARD OF 'almadrabalaw14.SeasonWrites'. -/
def seasonWritesUptoCard : Claim7 := { stood := { row := seasonWritesUptoRow, standIns := [], harness := (true, "e890075cb154df08cbfd902b10904a842f5a996aab9930a95ada0fd4a0848bd5"), looks := false }, kinds := [], alts := [], laidByText := true, laidKinds := [.data, .data, .data, .data, .pinned], laidTests := true, laidLooks := .later }
def SeasonWritesUptoCardSaid : Prop := Claim7.holds Tryd.pinned (.plain (OpenSpec.upto seasonWritesSpec)) seasonWritesUptoCard

/-- THE SECOND FORM's CARD OF 'almadrabalaw14.SeasonLong'. -/
def seasonLongUptoCard : Claim7 := { stood := { row := seasonLongUptoRow, standIns := [], harness := (true, "e890075cb154df08cbfd902b10904a842f5a996aab9930a95ada0fd4a0848bd5"), looks := false }, kinds := [], alts := [], laidByText := true, laidKinds := [.data, .data, .data, .data, .pinned], laidTests := true, laidLooks := .later }
def SeasonLongUptoCardSaid : Prop := Claim7.holds Tryd.pinned (.plain (OpenSpec.upto seasonLongSpec)) seasonLongUptoCard

/-- THE SECOND FORM's CARD OF 'almadrabalaw14.SeasonReads'. -/
def seasonReadsUptoCard : Claim7 := { stood := { row := seasonReadsUptoRow, standIns := [], harness := (true, "e890075cb154df08cbfd902b10904a842f5a996aab9930a95ada0fd4a0848bd5"), looks := false }, kinds := [], alts := [], laidByText := true, laidKinds := [.data, .data, .data, .data, .pinned], laidTests := true, laidLooks := .later }
def SeasonReadsUptoCardSaid : Prop := Claim7.holds Tryd.pinned (.plain (OpenSpec.upto seasonReadsSpec)) seasonReadsUptoCard

/-- THE SECOND FORM's CARD OF 'almadrabalaw14.SeasonForm'. -/
def seasonFormUptoCard : Claim7 := { stood := { row := seasonFormUptoRow, standIns := [], harness := (true, "e890075cb154df08cbfd902b10904a842f5a996aab9930a95ada0fd4a0848bd5"), looks := false }, kinds := [], alts := [], laidByText := true, laidKinds := [.data, .data, .data, .data, .pinned], laidTests := true, laidLooks := .later }
def SeasonFormUptoCardSaid : Prop := Claim7.holds Tryd.pinned (.plain (OpenSpec.upto seasonFormSpec)) seasonFormUptoCard
end Rows
end Go.Proofs.YtjamemjmdlkpcaaDoor
