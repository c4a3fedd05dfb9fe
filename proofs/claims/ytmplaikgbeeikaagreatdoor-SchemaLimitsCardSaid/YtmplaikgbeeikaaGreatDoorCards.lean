/-
  DERIVED. GIVEN WITH THE SEED: THE CARDS: each row of YtmplaikgbeeikaaGreatDoorRows.lean that lists a variable, with what it lists TIED to the program's text (the seventh form; the later family's looks); each row that meets fmt, with fmt's text TOLD by the authors' own Lean function (tested against real Go, not proved from fmt's source: count such statements apart). THE CARD IS WHAT COUNTS. Prove the row's statement (the work); the ties are given (YtmplaikgbeeikaaGreatDoorTie.lean); close each card by the builder's one call (the guide's Derived/Test/ToyasCard.lean, 'card_holds'). Laid BY PROGRAM, IN A SANDBOX (cutbox-door.mjs). By AI agents, Wed Nov 11 2026. No macro, syntax, notation, axiom, sorry.
-/
import Derived.Test.YtmplaikgbeeikaaGreatDoorRows
import GoSem.ClaimSeven
namespace Go.Proofs.YtmplaikgbeeikaaGreatDoor
namespace Rows

/-- THE TIED CARD OF 'dioramalaw09.SchemaParses'. -/
def schemaParsesCard : Claim7 := { stood := { row := schemaParsesRow, standIns := [], harness := (true, "d9b304c7c25961b331e69a1826f725861ab75aad1a53648a45769680d7087fe7"), looks := true }, kinds := [], alts := [], laidByText := true, laidKinds := [.data, .data, .data, .data, .sentinel, .sentinel, .widerDeep, .pinned], laidTests := true, laidLooks := .later }
def SchemaParsesCardSaid : Prop := Claim7.holds Tryz.pinned (.plain (OpenSpec.ofChange schemaParsesSpec)) schemaParsesCard

/-- THE TIED CARD OF 'dioramalaw09.SchemaLimits'. -/
def schemaLimitsCard : Claim7 := { stood := { row := schemaLimitsRow, standIns := [], harness := (true, "d9b304c7c25961b331e69a1826f725861ab75aad1a53648a45769680d7087fe7"), looks := true }, kinds := [], alts := [], laidByText := true, laidKinds := [.data, .data, .data, .data, .sentinel, .sentinel, .widerDeep, .pinned], laidTests := true, laidLooks := .later }
def SchemaLimitsCardSaid : Prop := Claim7.holds Tryz.pinned (.plain (OpenSpec.ofChange schemaLimitsSpec)) schemaLimitsCard

/-- THE TIED CARD OF 'dioramalaw09.SchemaAgain'. -/
def schemaAgainCard : Claim7 := { stood := { row := schemaAgainRow, standIns := [], harness := (true, "d9b304c7c25961b331e69a1826f725861ab75aad1a53648a45769680d7087fe7"), looks := true }, kinds := [], alts := [], laidByText := true, laidKinds := [.data, .data, .data, .data, .sentinel, .sentinel, .widerDeep, .pinned], laidTests := true, laidLooks := .later }
def SchemaAgainCardSaid : Prop := Claim7.holds Tryz.pinned (.plain (OpenSpec.ofChange schemaAgainSpec)) schemaAgainCard

/-- THE TIED CARD OF 'dioramalaw09.SchemaBeginnings'. -/
def schemaBeginningsCard : Claim7 := { stood := { row := schemaBeginningsRow, standIns := [], harness := (true, "d9b304c7c25961b331e69a1826f725861ab75aad1a53648a45769680d7087fe7"), looks := true }, kinds := [], alts := [], laidByText := true, laidKinds := [.data, .data, .data, .data, .sentinel, .sentinel, .widerDeep, .pinned], laidTests := true, laidLooks := .later }
def SchemaBeginningsCardSaid : Prop := Claim7.holds Tryz.pinned (.plain (OpenSpec.ofChange schemaBeginningsSpec)) schemaBeginningsCard

/-- THE TIED CARD OF 'dioramalaw09.SchemaBlanks'. -/
def schemaBlanksCard : Claim7 := { stood := { row := schemaBlanksRow, standIns := [], harness := (true, "d9b304c7c25961b331e69a1826f725861ab75aad1a53648a45769680d7087fe7"), looks := true }, kinds := [], alts := [], laidByText := true, laidKinds := [.data, .data, .data, .data, .sentinel, .sentinel, .widerDeep, .pinned], laidTests := true, laidLooks := .later }
def SchemaBlanksCardSaid : Prop := Claim7.holds Tryz.pinned (.plain (OpenSpec.ofChange schemaBlanksSpec)) schemaBlanksCard

/-- THE SECOND FORM's CARD OF 'dioramalaw09.SchemaParses'. -/
def schemaParsesUptoCard : Claim7 := { stood := { row := schemaParsesUptoRow, standIns := [], harness := (true, "d9b304c7c25961b331e69a1826f725861ab75aad1a53648a45769680d7087fe7"), looks := true }, kinds := [], alts := [], laidByText := true, laidKinds := [.data, .data, .data, .data, .sentinel, .sentinel, .widerDeep, .pinned], laidTests := true, laidLooks := .later }
def SchemaParsesUptoCardSaid : Prop := Claim7.holds Tryz.pinned (.plain (OpenSpec.upto schemaParsesSpec)) schemaParsesUptoCard

/-- THE SECOND FORM's CARD OF 'dioramalaw09.SchemaLimits'. -/
def schemaLimitsUptoCard : Claim7 := { stood := { row := schemaLimitsUptoRow, standIns := [], harness := (true, "d9b304c7c25961b331e69a1826f725861ab75aad1a53648a45769680d7087fe7"), looks := true }, kinds := [], alts := [], laidByText := true, laidKinds := [.data, .data, .data, .data, .sentinel, .sentinel, .widerDeep, .pinned], laidTests := true, laidLooks := .later }
def SchemaLimitsUptoCardSaid : Prop := Claim7.holds Tryz.pinned (.plain (OpenSpec.upto schemaLimitsSpec)) schemaLimitsUptoCard

/-- THE SECOND FORM's CARD OF 'dioramalaw09.SchemaAgain'. -/
def schemaAgainUptoCard : Claim7 := { stood := { row := schemaAgainUptoRow, standIns := [], harness := (true, "d9b304c7c25961b331e69a1826f725861ab75aad1a53648a45769680d7087fe7"), looks := true }, kinds := [], alts := [], laidByText := true, laidKinds := [.data, .data, .data, .data, .sentinel, .sentinel, .widerDeep, .pinned], laidTests := true, laidLooks := .later }
def SchemaAgainUptoCardSaid : Prop := Claim7.holds Tryz.pinned (.plain (OpenSpec.upto schemaAgainSpec)) schemaAgainUptoCard

/-- THE SECOND FORM's CARD OF 'dioramalaw09.SchemaBeginnings'. -/
def schemaBeginningsUptoCard : Claim7 := { stood := { row := schemaBeginningsUptoRow, standIns := [], harness := (true, "d9b304c7c25961b331e69a1826f725861ab75aad1a53648a45769680d7087fe7"), looks := true }, kinds := [], alts := [], laidByText := true, laidKinds := [.data, .data, .data, .data, .sentinel, .sentinel, .widerDeep, .pinned], laidTests := true, laidLooks := .later }
def SchemaBeginningsUptoCardSaid : Prop := Claim7.holds Tryz.pinned (.plain (OpenSpec.upto schemaBeginningsSpec)) schemaBeginningsUptoCard

/-- THE SECOND FORM's CARD OF 'dioramalaw09.SchemaBlanks'. -/
def schemaBlanksUptoCard : Claim7 := { stood := { row := schemaBlanksUptoRow, standIns := [], harness := (true, "d9b304c7c25961b331e69a1826f725861ab75aad1a53648a45769680d7087fe7"), looks := true }, kinds := [], alts := [], laidByText := true, laidKinds := [.data, .data, .data, .data, .sentinel, .sentinel, .widerDeep, .pinned], laidTests := true, laidLooks := .later }
def SchemaBlanksUptoCardSaid : Prop := Claim7.holds Tryz.pinned (.plain (OpenSpec.upto schemaBlanksSpec)) schemaBlanksUptoCard
end Rows
end Go.Proofs.YtmplaikgbeeikaaGreatDoor
