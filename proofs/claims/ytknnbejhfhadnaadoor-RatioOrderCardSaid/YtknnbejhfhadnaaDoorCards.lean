/-
  DERIVED. GIVEN WITH THE SEED: THE CARDS: each row of YtknnbejhfhadnaaDoorRows.lean that lists a variable, with what it lists TIED to the program's text (the seventh form; the later family's looks); each row that meets fmt, with fmt's text TOLD by the authors' own Lean function (tested against real Go, not proved from fmt's source: count such statements apart). THE CARD IS WHAT COUNTS. Prove the row's statement (the work); the ties are given (YtknnbejhfhadnaaDoorTie.lean); close each card by the builder's one call (the guide's Derived/Test/ToyasCard.lean, 'card_holds'). Laid BY PROGRAM, IN A SANDBOX (cutbox-door.mjs). By AI agents, Wed Nov 11 2026. No macro, syntax, notation, axiom, sorry.
-/
import Derived.Test.YtknnbejhfhadnaaDoorRows
import GoSem.ClaimSeven
namespace Go.Proofs.YtknnbejhfhadnaaDoor
namespace Rows

/-- THE TIED CARD OF 'dioramalaw04.RatioMakes'. -/
def ratioMakesCard : Claim7 := { stood := { row := ratioMakesRow, standIns := [], harness := (true, "a3a9ec8e53018f5744f01bf0cb75f931c201ec8854a5f986bf120c06b3273089"), looks := true }, kinds := [], alts := [], laidByText := true, laidKinds := [.data, .data, .data, .sentinel, .sentinel], laidTests := true, laidLooks := .later }
def RatioMakesCardSaid : Prop := Claim7.holds Tryd.pinned (.plain (OpenSpec.ofChange ratioMakesSpec)) ratioMakesCard

/-- THE TIED CARD OF 'dioramalaw04.RatioReads'. -/
def ratioReadsCard : Claim7 := { stood := { row := ratioReadsRow, standIns := [], harness := (true, "a3a9ec8e53018f5744f01bf0cb75f931c201ec8854a5f986bf120c06b3273089"), looks := true }, kinds := [], alts := [], laidByText := true, laidKinds := [.data, .data, .data, .sentinel, .sentinel], laidTests := true, laidLooks := .later }
def RatioReadsCardSaid : Prop := Claim7.holds Tryd.pinned (.plain (OpenSpec.ofChange ratioReadsSpec)) ratioReadsCard

/-- THE TIED CARD OF 'dioramalaw04.RatioTerms'. -/
def ratioTermsCard : Claim7 := { stood := { row := ratioTermsRow, standIns := [], harness := (true, "a3a9ec8e53018f5744f01bf0cb75f931c201ec8854a5f986bf120c06b3273089"), looks := true }, kinds := [], alts := [], laidByText := true, laidKinds := [.data, .data, .data, .sentinel, .sentinel], laidTests := true, laidLooks := .later }
def RatioTermsCardSaid : Prop := Claim7.holds Tryd.pinned (.plain (OpenSpec.ofChange ratioTermsSpec)) ratioTermsCard

/-- THE TIED CARD OF 'dioramalaw04.RatioWritten'. -/
def ratioWrittenCard : Claim7 := { stood := { row := ratioWrittenRow, standIns := [], harness := (true, "a3a9ec8e53018f5744f01bf0cb75f931c201ec8854a5f986bf120c06b3273089"), looks := true }, kinds := [], alts := [], laidByText := true, laidKinds := [.data, .data, .data, .sentinel, .sentinel], laidTests := true, laidLooks := .later }
def RatioWrittenCardSaid : Prop := Claim7.holds Tryd.pinned (.plain (OpenSpec.ofChange ratioWrittenSpec)) ratioWrittenCard

/-- THE TIED CARD OF 'dioramalaw04.RatioWorks'. -/
def ratioWorksCard : Claim7 := { stood := { row := ratioWorksRow, standIns := [], harness := (true, "a3a9ec8e53018f5744f01bf0cb75f931c201ec8854a5f986bf120c06b3273089"), looks := true }, kinds := [], alts := [], laidByText := true, laidKinds := [.data, .data, .data, .sentinel, .sentinel], laidTests := true, laidLooks := .later }
def RatioWorksCardSaid : Prop := Claim7.holds Tryd.pinned (.plain (OpenSpec.ofChange ratioWorksSpec)) ratioWorksCard

/-- THE TIED CARD OF 'dioramalaw04.RatioLaws'. -/
def ratioLawsCard : Claim7 := { stood := { row := ratioLawsRow, standIns := [], harness := (true, "a3a9ec8e53018f5744f01bf0cb75f931c201ec8854a5f986bf120c06b3273089"), looks := true }, kinds := [], alts := [], laidByText := true, laidKinds := [.data, .data, .data, .sentinel, .sentinel], laidTests := true, laidLooks := .later }
def RatioLawsCardSaid : Prop := Claim7.holds Tryd.pinned (.plain (OpenSpec.ofChange ratioLawsSpec)) ratioLawsCard

/-- THE TIED CARD OF 'dioramalaw04.RatioOrder'. -/
def ratioOrderCard : Claim7 := { stood := { row := ratioOrderRow, standIns := [], harness := (true, "a3a9ec8e53018f5744f01bf0cb75f931c201ec8854a5f986bf120c06b3273089"), looks := true }, kinds := [], alts := [], laidByText := true, laidKinds := [.data, .data, .data, .sentinel, .sentinel], laidTests := true, laidLooks := .later }
def RatioOrderCardSaid : Prop := Claim7.holds Tryd.pinned (.plain (OpenSpec.ofChange ratioOrderSpec)) ratioOrderCard

/-- THE SECOND FORM's CARD OF 'dioramalaw04.RatioMakes'. -/
def ratioMakesUptoCard : Claim7 := { stood := { row := ratioMakesUptoRow, standIns := [], harness := (true, "a3a9ec8e53018f5744f01bf0cb75f931c201ec8854a5f986bf120c06b3273089"), looks := true }, kinds := [], alts := [], laidByText := true, laidKinds := [.data, .data, .data, .sentinel, .sentinel], laidTests := true, laidLooks := .later }
def RatioMakesUptoCardSaid : Prop := Claim7.holds Tryd.pinned (.plain (OpenSpec.upto ratioMakesSpec)) ratioMakesUptoCard

/-- THE SECOND FORM's CARD OF 'dioramalaw04.RatioReads'. -/
def ratioReadsUptoCard : Claim7 := { stood := { row := ratioReadsUptoRow, standIns := [], harness := (true, "a3a9ec8e53018f5744f01bf0cb75f931c201ec8854a5f986bf120c06b3273089"), looks := true }, kinds := [], alts := [], laidByText := true, laidKinds := [.data, .data, .data, .sentinel, .sentinel], laidTests := true, laidLooks := .later }
def RatioReadsUptoCardSaid : Prop := Claim7.holds Tryd.pinned (.plain (OpenSpec.upto ratioReadsSpec)) ratioReadsUptoCard

/-- THE SECOND FORM's CARD OF 'dioramalaw04.RatioTerms'. -/
def ratioTermsUptoCard : Claim7 := { stood := { row := ratioTermsUptoRow, standIns := [], harness := (true, "a3a9ec8e53018f5744f01bf0cb75f931c201ec8854a5f986bf120c06b3273089"), looks := true }, kinds := [], alts := [], laidByText := true, laidKinds := [.data, .data, .data, .sentinel, .sentinel], laidTests := true, laidLooks := .later }
def RatioTermsUptoCardSaid : Prop := Claim7.holds Tryd.pinned (.plain (OpenSpec.upto ratioTermsSpec)) ratioTermsUptoCard

/-- THE SECOND FORM's CARD OF 'dioramalaw04.RatioWritten'. -/
def ratioWrittenUptoCard : Claim7 := { stood := { row := ratioWrittenUptoRow, standIns := [], harness := (true, "a3a9ec8e53018f5744f01bf0cb75f931c201ec8854a5f986bf120c06b3273089"), looks := true }, kinds := [], alts := [], laidByText := true, laidKinds := [.data, .data, .data, .sentinel, .sentinel], laidTests := true, laidLooks := .later }
def RatioWrittenUptoCardSaid : Prop := Claim7.holds Tryd.pinned (.plain (OpenSpec.upto ratioWrittenSpec)) ratioWrittenUptoCard

/-- THE SECOND FORM's CARD OF 'dioramalaw04.RatioWorks'. -/
def ratioWorksUptoCard : Claim7 := { stood := { row := ratioWorksUptoRow, standIns := [], harness := (true, "a3a9ec8e53018f5744f01bf0cb75f931c201ec8854a5f986bf120c06b3273089"), looks := true }, kinds := [], alts := [], laidByText := true, laidKinds := [.data, .data, .data, .sentinel, .sentinel], laidTests := true, laidLooks := .later }
def RatioWorksUptoCardSaid : Prop := Claim7.holds Tryd.pinned (.plain (OpenSpec.upto ratioWorksSpec)) ratioWorksUptoCard

/-- THE SECOND FORM's CARD OF 'dioramalaw04.RatioLaws'. -/
def ratioLawsUptoCard : Claim7 := { stood := { row := ratioLawsUptoRow, standIns := [], harness := (true, "a3a9ec8e53018f5744f01bf0cb75f931c201ec8854a5f986bf120c06b3273089"), looks := true }, kinds := [], alts := [], laidByText := true, laidKinds := [.data, .data, .data, .sentinel, .sentinel], laidTests := true, laidLooks := .later }
def RatioLawsUptoCardSaid : Prop := Claim7.holds Tryd.pinned (.plain (OpenSpec.upto ratioLawsSpec)) ratioLawsUptoCard

/-- THE SECOND FORM's CARD OF 'dioramalaw04.RatioOrder'. -/
def ratioOrderUptoCard : Claim7 := { stood := { row := ratioOrderUptoRow, standIns := [], harness := (true, "a3a9ec8e53018f5744f01bf0cb75f931c201ec8854a5f986bf120c06b3273089"), looks := true }, kinds := [], alts := [], laidByText := true, laidKinds := [.data, .data, .data, .sentinel, .sentinel], laidTests := true, laidLooks := .later }
def RatioOrderUptoCardSaid : Prop := Claim7.holds Tryd.pinned (.plain (OpenSpec.upto ratioOrderSpec)) ratioOrderUptoCard
end Rows
end Go.Proofs.YtknnbejhfhadnaaDoor
