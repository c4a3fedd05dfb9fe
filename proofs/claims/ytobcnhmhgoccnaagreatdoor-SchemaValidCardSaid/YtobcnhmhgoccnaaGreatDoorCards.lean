/-
  DERIVED. GIVEN WITH THE SEED: THE CARDS: each row of YtobcnhmhgoccnaaGreatDoorRows.lean that lists a variable, with what it lists TIED to the program's text (the seventh form; the later family's looks); each row that meets fmt, with fmt's text TOLD by the authors' own Lean function (tested against real Go, not proved from fmt's source: count such statements apart). THE CARD IS WHAT COUNTS. Prove the row's statement (the work); the ties are given (YtobcnhmhgoccnaaGreatDoorTie.lean); close each card by the builder's one call (the guide's Derived/Test/ToyasCard.lean, 'card_holds'). Laid BY PROGRAM, IN A SANDBOX (cutbox-door.mjs). By AI agents, Wed Nov 11 2026. No macro, syntax, notation, axiom, sorry.
-/
import Derived.Test.YtobcnhmhgoccnaaGreatDoorRows
import GoSem.ClaimSeven
namespace Go.Proofs.YtobcnhmhgoccnaaGreatDoor
namespace Rows

/-- THE TIED CARD OF 'dioramalaw09.SchemaValid'. -/
def schemaValidCard : Claim7 := { stood := { row := schemaValidRow, standIns := [], harness := (true, "2d6c4807028ad29df8cbbb00bba762a301b55e8e96eb583c93663ac615725df8"), looks := true }, kinds := [], alts := [], laidByText := true, laidKinds := [.data, .data, .data, .data, .data, .data, .sentinel, .sentinel, .widerDeep, .pinned], laidTests := true, laidLooks := .later }
def SchemaValidCardSaid : Prop := Claim7.holds Tryz.pinned (.plain (OpenSpec.ofChange schemaValidSpec)) schemaValidCard

/-- THE TIED CARD OF 'dioramalaw09.SchemaEqual'. -/
def schemaEqualCard : Claim7 := { stood := { row := schemaEqualRow, standIns := [], harness := (true, "2d6c4807028ad29df8cbbb00bba762a301b55e8e96eb583c93663ac615725df8"), looks := true }, kinds := [], alts := [], laidByText := true, laidKinds := [.data, .data, .data, .data, .data, .sentinel, .sentinel, .widerDeep, .pinned], laidTests := true, laidLooks := .later }
def SchemaEqualCardSaid : Prop := Claim7.holds Tryz.pinned (.plain (OpenSpec.ofChange schemaEqualSpec)) schemaEqualCard

/-- THE SECOND FORM's CARD OF 'dioramalaw09.SchemaValid'. -/
def schemaValidUptoCard : Claim7 := { stood := { row := schemaValidUptoRow, standIns := [], harness := (true, "2d6c4807028ad29df8cbbb00bba762a301b55e8e96eb583c93663ac615725df8"), looks := true }, kinds := [], alts := [], laidByText := true, laidKinds := [.data, .data, .data, .data, .data, .data, .sentinel, .sentinel, .widerDeep, .pinned], laidTests := true, laidLooks := .later }
def SchemaValidUptoCardSaid : Prop := Claim7.holds Tryz.pinned (.plain (OpenSpec.upto schemaValidSpec)) schemaValidUptoCard

/-- THE SECOND FORM's CARD OF 'dioramalaw09.SchemaEqual'. -/
def schemaEqualUptoCard : Claim7 := { stood := { row := schemaEqualUptoRow, standIns := [], harness := (true, "2d6c4807028ad29df8cbbb00bba762a301b55e8e96eb583c93663ac615725df8"), looks := true }, kinds := [], alts := [], laidByText := true, laidKinds := [.data, .data, .data, .data, .data, .sentinel, .sentinel, .widerDeep, .pinned], laidTests := true, laidLooks := .later }
def SchemaEqualUptoCardSaid : Prop := Claim7.holds Tryz.pinned (.plain (OpenSpec.upto schemaEqualSpec)) schemaEqualUptoCard
end Rows
end Go.Proofs.YtobcnhmhgoccnaaGreatDoor
