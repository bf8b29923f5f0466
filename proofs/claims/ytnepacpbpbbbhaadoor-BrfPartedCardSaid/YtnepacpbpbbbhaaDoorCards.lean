/-
  DERIVED. GIVEN WITH THE SEED: THE CARDS: each row of YtnepacpbpbbbhaaDoorRows.lean that lists a variable, with what it lists TIED to the program's text (the seventh form; the later family's looks); each row that meets fmt, with fmt's text TOLD by the authors' own Lean function (tested against real Go, not proved from fmt's source: count such statements apart). THE CARD IS WHAT COUNTS. Prove the row's statement (the work); the ties are given (YtnepacpbpbbbhaaDoorTie.lean); close each card by the builder's one call (the guide's Derived/Test/ToyasCard.lean, 'card_holds'). Laid BY PROGRAM, IN A SANDBOX (cutbox-door.mjs). By AI agents, Wed Nov 11 2026. No macro, syntax, notation, axiom, sorry.
-/
import Derived.Test.YtnepacpbpbbbhaaDoorRows
import GoSem.ClaimSeven
namespace Go.Proofs.YtnepacpbpbbbhaaDoor
namespace Rows

/-- THE TIED CARD OF 'styluslaw02.CellOf'. -/
def cellOfCard : Claim7 := { stood := { row := cellOfRow, standIns := [], harness := (true, "3bdc1b961607a751992e5255d0a0afcd1e86ef8dc20a95ac31ba758f2cd6a366"), looks := false }, kinds := [], alts := [], laidByText := true, laidKinds := [.data, .pinned], laidTests := true, laidLooks := .later }
def CellOfCardSaid : Prop := Claim7.holds Tryd.pinned (.plain (OpenSpec.ofChange cellOfSpec)) cellOfCard

/-- THE TIED CARD OF 'styluslaw02.CellApart'. -/
def cellApartCard : Claim7 := { stood := { row := cellApartRow, standIns := [], harness := (true, "3bdc1b961607a751992e5255d0a0afcd1e86ef8dc20a95ac31ba758f2cd6a366"), looks := false }, kinds := [], alts := [], laidByText := true, laidKinds := [.data, .pinned], laidTests := true, laidLooks := .later }
def CellApartCardSaid : Prop := Claim7.holds Tryd.pinned (.plain (OpenSpec.ofChange cellApartSpec)) cellApartCard

/-- THE TIED CARD OF 'styluslaw02.CellTexts'. -/
def cellTextsCard : Claim7 := { stood := { row := cellTextsRow, standIns := [], harness := (true, "3bdc1b961607a751992e5255d0a0afcd1e86ef8dc20a95ac31ba758f2cd6a366"), looks := false }, kinds := [], alts := [], laidByText := true, laidKinds := [.data, .pinned], laidTests := true, laidLooks := .later }
def CellTextsCardSaid : Prop := Claim7.holds Tryd.pinned (.plain (OpenSpec.ofChange cellTextsSpec)) cellTextsCard

/-- THE TIED CARD OF 'styluslaw02.CellBack'. -/
def cellBackCard : Claim7 := { stood := { row := cellBackRow, standIns := [], harness := (true, "3bdc1b961607a751992e5255d0a0afcd1e86ef8dc20a95ac31ba758f2cd6a366"), looks := false }, kinds := [], alts := [], laidByText := true, laidKinds := [.data, .pinned], laidTests := true, laidLooks := .later }
def CellBackCardSaid : Prop := Claim7.holds Tryd.pinned (.plain (OpenSpec.ofChange cellBackSpec)) cellBackCard

/-- THE TIED CARD OF 'styluslaw27.BrfWrites'. -/
def brfWritesCard : Claim7 := { stood := { row := brfWritesRow, standIns := [], harness := (true, "3bdc1b961607a751992e5255d0a0afcd1e86ef8dc20a95ac31ba758f2cd6a366"), looks := false }, kinds := [], alts := [], laidByText := true, laidKinds := [.data, .pinned], laidTests := true, laidLooks := .later }
def BrfWritesCardSaid : Prop := Claim7.holds Tryd.pinned (.plain (OpenSpec.ofChange brfWritesSpec)) brfWritesCard

/-- THE TIED CARD OF 'styluslaw27.BrfReads'. -/
def brfReadsCard : Claim7 := { stood := { row := brfReadsRow, standIns := [], harness := (true, "3bdc1b961607a751992e5255d0a0afcd1e86ef8dc20a95ac31ba758f2cd6a366"), looks := false }, kinds := [], alts := [], laidByText := true, laidKinds := [.data, .pinned], laidTests := true, laidLooks := .later }
def BrfReadsCardSaid : Prop := Claim7.holds Tryd.pinned (.plain (OpenSpec.ofChange brfReadsSpec)) brfReadsCard

/-- THE TIED CARD OF 'styluslaw27.BrfBack'. -/
def brfBackCard : Claim7 := { stood := { row := brfBackRow, standIns := [], harness := (true, "3bdc1b961607a751992e5255d0a0afcd1e86ef8dc20a95ac31ba758f2cd6a366"), looks := false }, kinds := [], alts := [], laidByText := true, laidKinds := [.data, .pinned], laidTests := true, laidLooks := .later }
def BrfBackCardSaid : Prop := Claim7.holds Tryd.pinned (.plain (OpenSpec.ofChange brfBackSpec)) brfBackCard

/-- THE TIED CARD OF 'styluslaw27.BrfParted'. -/
def brfPartedCard : Claim7 := { stood := { row := brfPartedRow, standIns := [], harness := (true, "3bdc1b961607a751992e5255d0a0afcd1e86ef8dc20a95ac31ba758f2cd6a366"), looks := false }, kinds := [], alts := [], laidByText := true, laidKinds := [.data, .pinned], laidTests := true, laidLooks := .later }
def BrfPartedCardSaid : Prop := Claim7.holds Tryd.pinned (.plain (OpenSpec.ofChange brfPartedSpec)) brfPartedCard

/-- THE SECOND FORM's CARD OF 'styluslaw02.CellOf'. -/
def cellOfUptoCard : Claim7 := { stood := { row := cellOfUptoRow, standIns := [], harness := (true, "3bdc1b961607a751992e5255d0a0afcd1e86ef8dc20a95ac31ba758f2cd6a366"), looks := false }, kinds := [], alts := [], laidByText := true, laidKinds := [.data, .pinned], laidTests := true, laidLooks := .later }
def CellOfUptoCardSaid : Prop := Claim7.holds Tryd.pinned (.plain (OpenSpec.upto cellOfSpec)) cellOfUptoCard

/-- THE SECOND FORM's CARD OF 'styluslaw02.CellApart'. -/
def cellApartUptoCard : Claim7 := { stood := { row := cellApartUptoRow, standIns := [], harness := (true, "3bdc1b961607a751992e5255d0a0afcd1e86ef8dc20a95ac31ba758f2cd6a366"), looks := false }, kinds := [], alts := [], laidByText := true, laidKinds := [.data, .pinned], laidTests := true, laidLooks := .later }
def CellApartUptoCardSaid : Prop := Claim7.holds Tryd.pinned (.plain (OpenSpec.upto cellApartSpec)) cellApartUptoCard

/-- THE SECOND FORM's CARD OF 'styluslaw02.CellTexts'. -/
def cellTextsUptoCard : Claim7 := { stood := { row := cellTextsUptoRow, standIns := [], harness := (true, "3bdc1b961607a751992e5255d0a0afcd1e86ef8dc20a95ac31ba758f2cd6a366"), looks := false }, kinds := [], alts := [], laidByText := true, laidKinds := [.data, .pinned], laidTests := true, laidLooks := .later }
def CellTextsUptoCardSaid : Prop := Claim7.holds Tryd.pinned (.plain (OpenSpec.upto cellTextsSpec)) cellTextsUptoCard

/-- THE SECOND FORM's CARD OF 'styluslaw02.CellBack'. -/
def cellBackUptoCard : Claim7 := { stood := { row := cellBackUptoRow, standIns := [], harness := (true, "3bdc1b961607a751992e5255d0a0afcd1e86ef8dc20a95ac31ba758f2cd6a366"), looks := false }, kinds := [], alts := [], laidByText := true, laidKinds := [.data, .pinned], laidTests := true, laidLooks := .later }
def CellBackUptoCardSaid : Prop := Claim7.holds Tryd.pinned (.plain (OpenSpec.upto cellBackSpec)) cellBackUptoCard

/-- THE SECOND FORM's CARD OF 'styluslaw27.BrfWrites'. -/
def brfWritesUptoCard : Claim7 := { stood := { row := brfWritesUptoRow, standIns := [], harness := (true, "3bdc1b961607a751992e5255d0a0afcd1e86ef8dc20a95ac31ba758f2cd6a366"), looks := false }, kinds := [], alts := [], laidByText := true, laidKinds := [.data, .pinned], laidTests := true, laidLooks := .later }
def BrfWritesUptoCardSaid : Prop := Claim7.holds Tryd.pinned (.plain (OpenSpec.upto brfWritesSpec)) brfWritesUptoCard

/-- THE SECOND FORM's CARD OF 'styluslaw27.BrfReads'. -/
def brfReadsUptoCard : Claim7 := { stood := { row := brfReadsUptoRow, standIns := [], harness := (true, "3bdc1b961607a751992e5255d0a0afcd1e86ef8dc20a95ac31ba758f2cd6a366"), looks := false }, kinds := [], alts := [], laidByText := true, laidKinds := [.data, .pinned], laidTests := true, laidLooks := .later }
def BrfReadsUptoCardSaid : Prop := Claim7.holds Tryd.pinned (.plain (OpenSpec.upto brfReadsSpec)) brfReadsUptoCard

/-- THE SECOND FORM's CARD OF 'styluslaw27.BrfBack'. -/
def brfBackUptoCard : Claim7 := { stood := { row := brfBackUptoRow, standIns := [], harness := (true, "3bdc1b961607a751992e5255d0a0afcd1e86ef8dc20a95ac31ba758f2cd6a366"), looks := false }, kinds := [], alts := [], laidByText := true, laidKinds := [.data, .pinned], laidTests := true, laidLooks := .later }
def BrfBackUptoCardSaid : Prop := Claim7.holds Tryd.pinned (.plain (OpenSpec.upto brfBackSpec)) brfBackUptoCard

/-- THE SECOND FORM's CARD OF 'styluslaw27.BrfParted'. -/
def brfPartedUptoCard : Claim7 := { stood := { row := brfPartedUptoRow, standIns := [], harness := (true, "3bdc1b961607a751992e5255d0a0afcd1e86ef8dc20a95ac31ba758f2cd6a366"), looks := false }, kinds := [], alts := [], laidByText := true, laidKinds := [.data, .pinned], laidTests := true, laidLooks := .later }
def BrfPartedUptoCardSaid : Prop := Claim7.holds Tryd.pinned (.plain (OpenSpec.upto brfPartedSpec)) brfPartedUptoCard
end Rows
end Go.Proofs.YtnepacpbpbbbhaaDoor
