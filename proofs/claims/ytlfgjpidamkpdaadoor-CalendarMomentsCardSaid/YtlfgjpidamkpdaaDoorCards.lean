/-
  DERIVED. GIVEN WITH THE SEED: THE CARDS: each row of YtlfgjpidamkpdaaDoorRows.lean that lists a variable, with what it lists TIED to the program's text (the seventh form; the later family's looks); each row that meets fmt, with fmt's text TOLD by the authors' own Lean function (tested against real Go, not proved from fmt's source: count such statements apart). THE CARD IS WHAT COUNTS. Prove the row's statement (the work); the ties are given (YtlfgjpidamkpdaaDoorTie.lean); close each card by the builder's one call (the guide's Derived/Test/ToyasCard.lean, 'card_holds'). Laid BY PROGRAM, IN A SANDBOX (cutbox-door.mjs). By AI agents, Wed Nov 11 2026. No macro, syntax, notation, axiom, sorry.
-/
import Derived.Test.YtlfgjpidamkpdaaDoorRows
import GoSem.ClaimSeven
namespace Go.Proofs.YtlfgjpidamkpdaaDoor
namespace Rows

/-- THE TIED CARD OF 'dioramalaw08.CalendarDays'. -/
def calendarDaysCard : Claim7 := { stood := { row := calendarDaysRow, standIns := [], harness := (true, "3df516a6150c8e0c146c0b367f868622f8797f462f4b535d24b61cef1fcd50d3"), looks := true }, kinds := [], alts := [], laidByText := true, laidKinds := [.data, .data, .data, .sentinel, .sentinel], laidTests := true, laidLooks := .later }
def CalendarDaysCardSaid : Prop := Claim7.holds Tryd.pinned (.plain (OpenSpec.ofChange calendarDaysSpec)) calendarDaysCard

/-- THE TIED CARD OF 'dioramalaw08.CalendarReads'. -/
def calendarReadsCard : Claim7 := { stood := { row := calendarReadsRow, standIns := [], harness := (true, "3df516a6150c8e0c146c0b367f868622f8797f462f4b535d24b61cef1fcd50d3"), looks := true }, kinds := [], alts := [], laidByText := true, laidKinds := [.data, .data, .data, .sentinel, .sentinel], laidTests := true, laidLooks := .later }
def CalendarReadsCardSaid : Prop := Claim7.holds Tryd.pinned (.plain (OpenSpec.ofChange calendarReadsSpec)) calendarReadsCard

/-- THE TIED CARD OF 'dioramalaw08.CalendarLocal'. -/
def calendarLocalCard : Claim7 := { stood := { row := calendarLocalRow, standIns := [], harness := (true, "3df516a6150c8e0c146c0b367f868622f8797f462f4b535d24b61cef1fcd50d3"), looks := true }, kinds := [], alts := [], laidByText := true, laidKinds := [.data, .data, .data, .sentinel, .sentinel], laidTests := true, laidLooks := .later }
def CalendarLocalCardSaid : Prop := Claim7.holds Tryd.pinned (.plain (OpenSpec.ofChange calendarLocalSpec)) calendarLocalCard

/-- THE TIED CARD OF 'dioramalaw08.CalendarWork'. -/
def calendarWorkCard : Claim7 := { stood := { row := calendarWorkRow, standIns := [], harness := (true, "3df516a6150c8e0c146c0b367f868622f8797f462f4b535d24b61cef1fcd50d3"), looks := true }, kinds := [], alts := [], laidByText := true, laidKinds := [.data, .data, .data, .sentinel, .sentinel], laidTests := true, laidLooks := .later }
def CalendarWorkCardSaid : Prop := Claim7.holds Tryd.pinned (.plain (OpenSpec.ofChange calendarWorkSpec)) calendarWorkCard

/-- THE TIED CARD OF 'dioramalaw08.CalendarNext'. -/
def calendarNextCard : Claim7 := { stood := { row := calendarNextRow, standIns := [], harness := (true, "3df516a6150c8e0c146c0b367f868622f8797f462f4b535d24b61cef1fcd50d3"), looks := true }, kinds := [], alts := [], laidByText := true, laidKinds := [.data, .data, .data, .sentinel, .sentinel], laidTests := true, laidLooks := .later }
def CalendarNextCardSaid : Prop := Claim7.holds Tryd.pinned (.plain (OpenSpec.ofChange calendarNextSpec)) calendarNextCard

/-- THE TIED CARD OF 'dioramalaw08.CalendarMoments'. -/
def calendarMomentsCard : Claim7 := { stood := { row := calendarMomentsRow, standIns := [], harness := (true, "3df516a6150c8e0c146c0b367f868622f8797f462f4b535d24b61cef1fcd50d3"), looks := true }, kinds := [], alts := [], laidByText := true, laidKinds := [.data, .data, .data, .sentinel, .sentinel], laidTests := true, laidLooks := .later }
def CalendarMomentsCardSaid : Prop := Claim7.holds Tryd.pinned (.plain (OpenSpec.ofChange calendarMomentsSpec)) calendarMomentsCard

/-- THE TIED CARD OF 'dioramalaw08.CalendarAgain'. -/
def calendarAgainCard : Claim7 := { stood := { row := calendarAgainRow, standIns := [], harness := (true, "3df516a6150c8e0c146c0b367f868622f8797f462f4b535d24b61cef1fcd50d3"), looks := true }, kinds := [], alts := [], laidByText := true, laidKinds := [.data, .data, .data, .sentinel, .sentinel], laidTests := true, laidLooks := .later }
def CalendarAgainCardSaid : Prop := Claim7.holds Tryd.pinned (.plain (OpenSpec.ofChange calendarAgainSpec)) calendarAgainCard

/-- THE SECOND FORM's CARD OF 'dioramalaw08.CalendarDays'. -/
def calendarDaysUptoCard : Claim7 := { stood := { row := calendarDaysUptoRow, standIns := [], harness := (true, "3df516a6150c8e0c146c0b367f868622f8797f462f4b535d24b61cef1fcd50d3"), looks := true }, kinds := [], alts := [], laidByText := true, laidKinds := [.data, .data, .data, .sentinel, .sentinel], laidTests := true, laidLooks := .later }
def CalendarDaysUptoCardSaid : Prop := Claim7.holds Tryd.pinned (.plain (OpenSpec.upto calendarDaysSpec)) calendarDaysUptoCard

/-- THE SECOND FORM's CARD OF 'dioramalaw08.CalendarReads'. -/
def calendarReadsUptoCard : Claim7 := { stood := { row := calendarReadsUptoRow, standIns := [], harness := (true, "3df516a6150c8e0c146c0b367f868622f8797f462f4b535d24b61cef1fcd50d3"), looks := true }, kinds := [], alts := [], laidByText := true, laidKinds := [.data, .data, .data, .sentinel, .sentinel], laidTests := true, laidLooks := .later }
def CalendarReadsUptoCardSaid : Prop := Claim7.holds Tryd.pinned (.plain (OpenSpec.upto calendarReadsSpec)) calendarReadsUptoCard

/-- THE SECOND FORM's CARD OF 'dioramalaw08.CalendarLocal'. -/
def calendarLocalUptoCard : Claim7 := { stood := { row := calendarLocalUptoRow, standIns := [], harness := (true, "3df516a6150c8e0c146c0b367f868622f8797f462f4b535d24b61cef1fcd50d3"), looks := true }, kinds := [], alts := [], laidByText := true, laidKinds := [.data, .data, .data, .sentinel, .sentinel], laidTests := true, laidLooks := .later }
def CalendarLocalUptoCardSaid : Prop := Claim7.holds Tryd.pinned (.plain (OpenSpec.upto calendarLocalSpec)) calendarLocalUptoCard

/-- THE SECOND FORM's CARD OF 'dioramalaw08.CalendarWork'. -/
def calendarWorkUptoCard : Claim7 := { stood := { row := calendarWorkUptoRow, standIns := [], harness := (true, "3df516a6150c8e0c146c0b367f868622f8797f462f4b535d24b61cef1fcd50d3"), looks := true }, kinds := [], alts := [], laidByText := true, laidKinds := [.data, .data, .data, .sentinel, .sentinel], laidTests := true, laidLooks := .later }
def CalendarWorkUptoCardSaid : Prop := Claim7.holds Tryd.pinned (.plain (OpenSpec.upto calendarWorkSpec)) calendarWorkUptoCard

/-- THE SECOND FORM's CARD OF 'dioramalaw08.CalendarNext'. -/
def calendarNextUptoCard : Claim7 := { stood := { row := calendarNextUptoRow, standIns := [], harness := (true, "3df516a6150c8e0c146c0b367f868622f8797f462f4b535d24b61cef1fcd50d3"), looks := true }, kinds := [], alts := [], laidByText := true, laidKinds := [.data, .data, .data, .sentinel, .sentinel], laidTests := true, laidLooks := .later }
def CalendarNextUptoCardSaid : Prop := Claim7.holds Tryd.pinned (.plain (OpenSpec.upto calendarNextSpec)) calendarNextUptoCard

/-- THE SECOND FORM's CARD OF 'dioramalaw08.CalendarMoments'. -/
def calendarMomentsUptoCard : Claim7 := { stood := { row := calendarMomentsUptoRow, standIns := [], harness := (true, "3df516a6150c8e0c146c0b367f868622f8797f462f4b535d24b61cef1fcd50d3"), looks := true }, kinds := [], alts := [], laidByText := true, laidKinds := [.data, .data, .data, .sentinel, .sentinel], laidTests := true, laidLooks := .later }
def CalendarMomentsUptoCardSaid : Prop := Claim7.holds Tryd.pinned (.plain (OpenSpec.upto calendarMomentsSpec)) calendarMomentsUptoCard

/-- THE SECOND FORM's CARD OF 'dioramalaw08.CalendarAgain'. -/
def calendarAgainUptoCard : Claim7 := { stood := { row := calendarAgainUptoRow, standIns := [], harness := (true, "3df516a6150c8e0c146c0b367f868622f8797f462f4b535d24b61cef1fcd50d3"), looks := true }, kinds := [], alts := [], laidByText := true, laidKinds := [.data, .data, .data, .sentinel, .sentinel], laidTests := true, laidLooks := .later }
def CalendarAgainUptoCardSaid : Prop := Claim7.holds Tryd.pinned (.plain (OpenSpec.upto calendarAgainSpec)) calendarAgainUptoCard
end Rows
end Go.Proofs.YtlfgjpidamkpdaaDoor
