/-
  DERIVED. GIVEN WITH THE SEED: THE CARDS: each row of YtplpcamcnppibaaGreatDoorRows.lean that lists a variable, with what it lists TIED to the program's text (the seventh form; the later family's looks); each row that meets fmt, with fmt's text TOLD by the authors' own Lean function (tested against real Go, not proved from fmt's source: count such statements apart). THE CARD IS WHAT COUNTS. Prove the row's statement (the work); the ties are given (YtplpcamcnppibaaGreatDoorTie.lean); close each card by the builder's one call (the guide's Derived/Test/ToyasCard.lean, 'card_holds'). Laid BY PROGRAM, IN A SANDBOX (cutbox-door.mjs). By AI agents, Wed Nov 11 2026. No macro, syntax, notation, axiom, sorry.
-/
import Derived.Test.YtplpcamcnppibaaGreatDoorRows
import GoSem.ClaimSeven
namespace Go.Proofs.YtplpcamcnppibaaGreatDoor
namespace Rows

/-- THE TIED CARD OF 'contangolaw02.TapeReads'. -/
def tapeReadsCard : Claim7 := { stood := { row := tapeReadsRow, standIns := [], harness := (true, "98d68ab6086a03caf112c8a41dc414f7efd8a6fef08516f9d5276302d0756a3a"), looks := true }, kinds := [], alts := [], laidByText := true, laidKinds := [.data, .data, .data, .sentinel, .sentinel], laidTests := true, laidLooks := .later }
def TapeReadsCardSaid : Prop := Claim7.holds Tryz.pinned (.plain (OpenSpec.ofChange tapeReadsSpec)) tapeReadsCard

/-- THE TIED CARD OF 'contangolaw02.TapeMinutes'. -/
def tapeMinutesCard : Claim7 := { stood := { row := tapeMinutesRow, standIns := [], harness := (true, "98d68ab6086a03caf112c8a41dc414f7efd8a6fef08516f9d5276302d0756a3a"), looks := true }, kinds := [], alts := [], laidByText := true, laidKinds := [.data, .data, .data, .sentinel, .sentinel], laidTests := true, laidLooks := .later }
def TapeMinutesCardSaid : Prop := Claim7.holds Tryz.pinned (.plain (OpenSpec.ofChange tapeMinutesSpec)) tapeMinutesCard

/-- THE TIED CARD OF 'contangolaw02.TapeFinds'. -/
def tapeFindsCard : Claim7 := { stood := { row := tapeFindsRow, standIns := [], harness := (true, "98d68ab6086a03caf112c8a41dc414f7efd8a6fef08516f9d5276302d0756a3a"), looks := true }, kinds := [], alts := [], laidByText := true, laidKinds := [.data, .data, .data, .sentinel, .sentinel], laidTests := true, laidLooks := .later }
def TapeFindsCardSaid : Prop := Claim7.holds Tryz.pinned (.plain (OpenSpec.ofChange tapeFindsSpec)) tapeFindsCard

/-- THE TIED CARD OF 'contangolaw02.TapeMisprints'. -/
def tapeMisprintsCard : Claim7 := { stood := { row := tapeMisprintsRow, standIns := [], harness := (true, "98d68ab6086a03caf112c8a41dc414f7efd8a6fef08516f9d5276302d0756a3a"), looks := true }, kinds := [], alts := [], laidByText := true, laidKinds := [.data, .data, .data, .sentinel, .sentinel], laidTests := true, laidLooks := .later }
def TapeMisprintsCardSaid : Prop := Claim7.holds Tryz.pinned (.plain (OpenSpec.ofChange tapeMisprintsSpec)) tapeMisprintsCard

/-- THE TIED CARD OF 'contangolaw02.TapeWrites'. -/
def tapeWritesCard : Claim7 := { stood := { row := tapeWritesRow, standIns := [], harness := (true, "98d68ab6086a03caf112c8a41dc414f7efd8a6fef08516f9d5276302d0756a3a"), looks := true }, kinds := [], alts := [], laidByText := true, laidKinds := [.data, .data, .data, .sentinel, .sentinel], laidTests := true, laidLooks := .later }
def TapeWritesCardSaid : Prop := Claim7.holds Tryz.pinned (.plain (OpenSpec.ofChange tapeWritesSpec)) tapeWritesCard

/-- THE TIED CARD OF 'contangolaw02.TapeProves'. -/
def tapeProvesCard : Claim7 := { stood := { row := tapeProvesRow, standIns := [], harness := (true, "98d68ab6086a03caf112c8a41dc414f7efd8a6fef08516f9d5276302d0756a3a"), looks := true }, kinds := [], alts := [], laidByText := true, laidKinds := [.data, .data, .data, .sentinel, .sentinel], laidTests := true, laidLooks := .later }
def TapeProvesCardSaid : Prop := Claim7.holds Tryz.pinned (.plain (OpenSpec.ofChange tapeProvesSpec)) tapeProvesCard

/-- THE TIED CARD OF 'contangolaw02.TapeTruth'. -/
def tapeTruthCard : Claim7 := { stood := { row := tapeTruthRow, standIns := [], harness := (true, "98d68ab6086a03caf112c8a41dc414f7efd8a6fef08516f9d5276302d0756a3a"), looks := true }, kinds := [], alts := [], laidByText := true, laidKinds := [.data, .data, .data, .sentinel, .sentinel], laidTests := true, laidLooks := .later }
def TapeTruthCardSaid : Prop := Claim7.holds Tryz.pinned (.plain (OpenSpec.ofChange tapeTruthSpec)) tapeTruthCard

/-- THE TIED CARD OF 'contangolaw02.TapeMore'. -/
def tapeMoreCard : Claim7 := { stood := { row := tapeMoreRow, standIns := [], harness := (true, "98d68ab6086a03caf112c8a41dc414f7efd8a6fef08516f9d5276302d0756a3a"), looks := true }, kinds := [], alts := [], laidByText := true, laidKinds := [.data, .data, .data, .sentinel, .sentinel], laidTests := true, laidLooks := .later }
def TapeMoreCardSaid : Prop := Claim7.holds Tryz.pinned (.plain (OpenSpec.ofChange tapeMoreSpec)) tapeMoreCard

/-- THE TIED CARD OF 'contangolaw02.TapeLater'. -/
def tapeLaterCard : Claim7 := { stood := { row := tapeLaterRow, standIns := [], harness := (true, "98d68ab6086a03caf112c8a41dc414f7efd8a6fef08516f9d5276302d0756a3a"), looks := true }, kinds := [], alts := [], laidByText := true, laidKinds := [.data, .data, .data, .sentinel, .sentinel], laidTests := true, laidLooks := .later }
def TapeLaterCardSaid : Prop := Claim7.holds Tryz.pinned (.plain (OpenSpec.ofChange tapeLaterSpec)) tapeLaterCard

/-- THE TIED CARD OF 'contangolaw02.TapeLeft'. -/
def tapeLeftCard : Claim7 := { stood := { row := tapeLeftRow, standIns := [], harness := (true, "98d68ab6086a03caf112c8a41dc414f7efd8a6fef08516f9d5276302d0756a3a"), looks := true }, kinds := [], alts := [], laidByText := true, laidKinds := [.data, .data, .data, .sentinel, .sentinel], laidTests := true, laidLooks := .later }
def TapeLeftCardSaid : Prop := Claim7.holds Tryz.pinned (.plain (OpenSpec.ofChange tapeLeftSpec)) tapeLeftCard

/-- THE TIED CARD OF 'contangolaw02.TapePrices'. -/
def tapePricesCard : Claim7 := { stood := { row := tapePricesRow, standIns := [], harness := (true, "98d68ab6086a03caf112c8a41dc414f7efd8a6fef08516f9d5276302d0756a3a"), looks := true }, kinds := [], alts := [], laidByText := true, laidKinds := [.data, .data, .data, .sentinel, .sentinel], laidTests := true, laidLooks := .later }
def TapePricesCardSaid : Prop := Claim7.holds Tryz.pinned (.plain (OpenSpec.ofChange tapePricesSpec)) tapePricesCard

/-- THE TIED CARD OF 'contangolaw02.TapeNames'. -/
def tapeNamesCard : Claim7 := { stood := { row := tapeNamesRow, standIns := [], harness := (true, "98d68ab6086a03caf112c8a41dc414f7efd8a6fef08516f9d5276302d0756a3a"), looks := true }, kinds := [], alts := [], laidByText := true, laidKinds := [.data, .data, .data, .sentinel, .sentinel], laidTests := true, laidLooks := .later }
def TapeNamesCardSaid : Prop := Claim7.holds Tryz.pinned (.plain (OpenSpec.ofChange tapeNamesSpec)) tapeNamesCard

/-- THE TIED CARD OF 'contangolaw02.TapeEnds'. -/
def tapeEndsCard : Claim7 := { stood := { row := tapeEndsRow, standIns := [], harness := (true, "98d68ab6086a03caf112c8a41dc414f7efd8a6fef08516f9d5276302d0756a3a"), looks := true }, kinds := [], alts := [], laidByText := true, laidKinds := [.data, .data, .data, .sentinel, .sentinel], laidTests := true, laidLooks := .later }
def TapeEndsCardSaid : Prop := Claim7.holds Tryz.pinned (.plain (OpenSpec.ofChange tapeEndsSpec)) tapeEndsCard

/-- THE SECOND FORM's CARD OF 'contangolaw02.TapeReads'. -/
def tapeReadsUptoCard : Claim7 := { stood := { row := tapeReadsUptoRow, standIns := [], harness := (true, "98d68ab6086a03caf112c8a41dc414f7efd8a6fef08516f9d5276302d0756a3a"), looks := true }, kinds := [], alts := [], laidByText := true, laidKinds := [.data, .data, .data, .sentinel, .sentinel], laidTests := true, laidLooks := .later }
def TapeReadsUptoCardSaid : Prop := Claim7.holds Tryz.pinned (.plain (OpenSpec.upto tapeReadsSpec)) tapeReadsUptoCard

/-- THE SECOND FORM's CARD OF 'contangolaw02.TapeMinutes'. -/
def tapeMinutesUptoCard : Claim7 := { stood := { row := tapeMinutesUptoRow, standIns := [], harness := (true, "98d68ab6086a03caf112c8a41dc414f7efd8a6fef08516f9d5276302d0756a3a"), looks := true }, kinds := [], alts := [], laidByText := true, laidKinds := [.data, .data, .data, .sentinel, .sentinel], laidTests := true, laidLooks := .later }
def TapeMinutesUptoCardSaid : Prop := Claim7.holds Tryz.pinned (.plain (OpenSpec.upto tapeMinutesSpec)) tapeMinutesUptoCard

/-- THE SECOND FORM's CARD OF 'contangolaw02.TapeFinds'. -/
def tapeFindsUptoCard : Claim7 := { stood := { row := tapeFindsUptoRow, standIns := [], harness := (true, "98d68ab6086a03caf112c8a41dc414f7efd8a6fef08516f9d5276302d0756a3a"), looks := true }, kinds := [], alts := [], laidByText := true, laidKinds := [.data, .data, .data, .sentinel, .sentinel], laidTests := true, laidLooks := .later }
def TapeFindsUptoCardSaid : Prop := Claim7.holds Tryz.pinned (.plain (OpenSpec.upto tapeFindsSpec)) tapeFindsUptoCard

/-- THE SECOND FORM's CARD OF 'contangolaw02.TapeMisprints'. -/
def tapeMisprintsUptoCard : Claim7 := { stood := { row := tapeMisprintsUptoRow, standIns := [], harness := (true, "98d68ab6086a03caf112c8a41dc414f7efd8a6fef08516f9d5276302d0756a3a"), looks := true }, kinds := [], alts := [], laidByText := true, laidKinds := [.data, .data, .data, .sentinel, .sentinel], laidTests := true, laidLooks := .later }
def TapeMisprintsUptoCardSaid : Prop := Claim7.holds Tryz.pinned (.plain (OpenSpec.upto tapeMisprintsSpec)) tapeMisprintsUptoCard

/-- THE SECOND FORM's CARD OF 'contangolaw02.TapeWrites'. -/
def tapeWritesUptoCard : Claim7 := { stood := { row := tapeWritesUptoRow, standIns := [], harness := (true, "98d68ab6086a03caf112c8a41dc414f7efd8a6fef08516f9d5276302d0756a3a"), looks := true }, kinds := [], alts := [], laidByText := true, laidKinds := [.data, .data, .data, .sentinel, .sentinel], laidTests := true, laidLooks := .later }
def TapeWritesUptoCardSaid : Prop := Claim7.holds Tryz.pinned (.plain (OpenSpec.upto tapeWritesSpec)) tapeWritesUptoCard

/-- THE SECOND FORM's CARD OF 'contangolaw02.TapeProves'. -/
def tapeProvesUptoCard : Claim7 := { stood := { row := tapeProvesUptoRow, standIns := [], harness := (true, "98d68ab6086a03caf112c8a41dc414f7efd8a6fef08516f9d5276302d0756a3a"), looks := true }, kinds := [], alts := [], laidByText := true, laidKinds := [.data, .data, .data, .sentinel, .sentinel], laidTests := true, laidLooks := .later }
def TapeProvesUptoCardSaid : Prop := Claim7.holds Tryz.pinned (.plain (OpenSpec.upto tapeProvesSpec)) tapeProvesUptoCard

/-- THE SECOND FORM's CARD OF 'contangolaw02.TapeTruth'. -/
def tapeTruthUptoCard : Claim7 := { stood := { row := tapeTruthUptoRow, standIns := [], harness := (true, "98d68ab6086a03caf112c8a41dc414f7efd8a6fef08516f9d5276302d0756a3a"), looks := true }, kinds := [], alts := [], laidByText := true, laidKinds := [.data, .data, .data, .sentinel, .sentinel], laidTests := true, laidLooks := .later }
def TapeTruthUptoCardSaid : Prop := Claim7.holds Tryz.pinned (.plain (OpenSpec.upto tapeTruthSpec)) tapeTruthUptoCard

/-- THE SECOND FORM's CARD OF 'contangolaw02.TapeMore'. -/
def tapeMoreUptoCard : Claim7 := { stood := { row := tapeMoreUptoRow, standIns := [], harness := (true, "98d68ab6086a03caf112c8a41dc414f7efd8a6fef08516f9d5276302d0756a3a"), looks := true }, kinds := [], alts := [], laidByText := true, laidKinds := [.data, .data, .data, .sentinel, .sentinel], laidTests := true, laidLooks := .later }
def TapeMoreUptoCardSaid : Prop := Claim7.holds Tryz.pinned (.plain (OpenSpec.upto tapeMoreSpec)) tapeMoreUptoCard

/-- THE SECOND FORM's CARD OF 'contangolaw02.TapeLater'. -/
def tapeLaterUptoCard : Claim7 := { stood := { row := tapeLaterUptoRow, standIns := [], harness := (true, "98d68ab6086a03caf112c8a41dc414f7efd8a6fef08516f9d5276302d0756a3a"), looks := true }, kinds := [], alts := [], laidByText := true, laidKinds := [.data, .data, .data, .sentinel, .sentinel], laidTests := true, laidLooks := .later }
def TapeLaterUptoCardSaid : Prop := Claim7.holds Tryz.pinned (.plain (OpenSpec.upto tapeLaterSpec)) tapeLaterUptoCard

/-- THE SECOND FORM's CARD OF 'contangolaw02.TapeLeft'. -/
def tapeLeftUptoCard : Claim7 := { stood := { row := tapeLeftUptoRow, standIns := [], harness := (true, "98d68ab6086a03caf112c8a41dc414f7efd8a6fef08516f9d5276302d0756a3a"), looks := true }, kinds := [], alts := [], laidByText := true, laidKinds := [.data, .data, .data, .sentinel, .sentinel], laidTests := true, laidLooks := .later }
def TapeLeftUptoCardSaid : Prop := Claim7.holds Tryz.pinned (.plain (OpenSpec.upto tapeLeftSpec)) tapeLeftUptoCard

/-- THE SECOND FORM's CARD OF 'contangolaw02.TapePrices'. -/
def tapePricesUptoCard : Claim7 := { stood := { row := tapePricesUptoRow, standIns := [], harness := (true, "98d68ab6086a03caf112c8a41dc414f7efd8a6fef08516f9d5276302d0756a3a"), looks := true }, kinds := [], alts := [], laidByText := true, laidKinds := [.data, .data, .data, .sentinel, .sentinel], laidTests := true, laidLooks := .later }
def TapePricesUptoCardSaid : Prop := Claim7.holds Tryz.pinned (.plain (OpenSpec.upto tapePricesSpec)) tapePricesUptoCard

/-- THE SECOND FORM's CARD OF 'contangolaw02.TapeNames'. -/
def tapeNamesUptoCard : Claim7 := { stood := { row := tapeNamesUptoRow, standIns := [], harness := (true, "98d68ab6086a03caf112c8a41dc414f7efd8a6fef08516f9d5276302d0756a3a"), looks := true }, kinds := [], alts := [], laidByText := true, laidKinds := [.data, .data, .data, .sentinel, .sentinel], laidTests := true, laidLooks := .later }
def TapeNamesUptoCardSaid : Prop := Claim7.holds Tryz.pinned (.plain (OpenSpec.upto tapeNamesSpec)) tapeNamesUptoCard

/-- THE SECOND FORM's CARD OF 'contangolaw02.TapeEnds'. -/
def tapeEndsUptoCard : Claim7 := { stood := { row := tapeEndsUptoRow, standIns := [], harness := (true, "98d68ab6086a03caf112c8a41dc414f7efd8a6fef08516f9d5276302d0756a3a"), looks := true }, kinds := [], alts := [], laidByText := true, laidKinds := [.data, .data, .data, .sentinel, .sentinel], laidTests := true, laidLooks := .later }
def TapeEndsUptoCardSaid : Prop := Claim7.holds Tryz.pinned (.plain (OpenSpec.upto tapeEndsSpec)) tapeEndsUptoCard
end Rows
end Go.Proofs.YtplpcamcnppibaaGreatDoor
