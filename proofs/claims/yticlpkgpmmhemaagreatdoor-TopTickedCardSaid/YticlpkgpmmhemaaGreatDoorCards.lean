/-
  DERIVED. GIVEN WITH THE SEED: THE CARDS: each row of YticlpkgpmmhemaaGreatDoorRows.lean that lists a variable, with what it lists TIED to the program's text (the seventh form; the later family's looks); each row that meets fmt, with fmt's text TOLD by the authors' own Lean function (tested against real Go, not proved from fmt's source: count such statements apart). THE CARD IS WHAT COUNTS. Prove the row's statement (the work); the ties are given (YticlpkgpmmhemaaGreatDoorTie.lean); close each card by the builder's one call (the guide's Derived/Test/ToyasCard.lean, 'card_holds'). Laid BY PROGRAM, IN A SANDBOX (cutbox-door.mjs). By AI agents, Wed Nov 11 2026. No macro, syntax, notation, axiom, sorry.
-/
import Derived.Test.YticlpkgpmmhemaaGreatDoorRows
import GoSem.ClaimSeven
namespace Go.Proofs.YticlpkgpmmhemaaGreatDoor
namespace Rows

/-- THE TIED CARD OF 'contangotop.TopShown'. -/
def topShownCard : Claim7 := { stood := { row := topShownRow, standIns := [], harness := (true, "13d6838d773188036e6e556810f3f13620426094f1cc565bb7c6eb075301a94f"), looks := true }, kinds := [], alts := [], laidByText := true, laidKinds := [.data, .data, .data, .sentinel, .sentinel], laidTests := true, laidLooks := .later }
def TopShownCardSaid : Prop := Claim7.holds Tryz.pinned (.plain (OpenSpec.ofChange topShownSpec)) topShownCard

/-- THE TIED CARD OF 'contangotop.TopTicked'. -/
def topTickedCard : Claim7 := { stood := { row := topTickedRow, standIns := [], harness := (true, "13d6838d773188036e6e556810f3f13620426094f1cc565bb7c6eb075301a94f"), looks := true }, kinds := [], alts := [], laidByText := true, laidKinds := [.data, .data, .data, .sentinel, .sentinel], laidTests := true, laidLooks := .later }
def TopTickedCardSaid : Prop := Claim7.holds Tryz.pinned (.plain (OpenSpec.ofChange topTickedSpec)) topTickedCard

/-- THE TIED CARD OF 'contangolaw04.OddSales'. -/
def oddSalesCard : Claim7 := { stood := { row := oddSalesRow, standIns := [], harness := (true, "13d6838d773188036e6e556810f3f13620426094f1cc565bb7c6eb075301a94f"), looks := true }, kinds := [], alts := [], laidByText := true, laidKinds := [.data, .data, .data, .sentinel, .sentinel], laidTests := true, laidLooks := .later }
def OddSalesCardSaid : Prop := Claim7.holds Tryz.pinned (.plain (OpenSpec.ofChange oddSalesSpec)) oddSalesCard

/-- THE TIED CARD OF 'contangolaw04.OddBounds'. -/
def oddBoundsCard : Claim7 := { stood := { row := oddBoundsRow, standIns := [], harness := (true, "13d6838d773188036e6e556810f3f13620426094f1cc565bb7c6eb075301a94f"), looks := true }, kinds := [], alts := [], laidByText := true, laidKinds := [.data, .data, .data, .sentinel, .sentinel], laidTests := true, laidLooks := .later }
def OddBoundsCardSaid : Prop := Claim7.holds Tryz.pinned (.plain (OpenSpec.ofChange oddBoundsSpec)) oddBoundsCard

/-- THE TIED CARD OF 'contangolaw04.OddTruth'. -/
def oddTruthCard : Claim7 := { stood := { row := oddTruthRow, standIns := [], harness := (true, "13d6838d773188036e6e556810f3f13620426094f1cc565bb7c6eb075301a94f"), looks := true }, kinds := [], alts := [], laidByText := true, laidKinds := [.data, .data, .data, .sentinel, .sentinel], laidTests := true, laidLooks := .later }
def OddTruthCardSaid : Prop := Claim7.holds Tryz.pinned (.plain (OpenSpec.ofChange oddTruthSpec)) oddTruthCard

/-- THE TIED CARD OF 'contangolaw04.OddEnds'. -/
def oddEndsCard : Claim7 := { stood := { row := oddEndsRow, standIns := [], harness := (true, "13d6838d773188036e6e556810f3f13620426094f1cc565bb7c6eb075301a94f"), looks := true }, kinds := [], alts := [], laidByText := true, laidKinds := [.data, .data, .data, .sentinel, .sentinel], laidTests := true, laidLooks := .later }
def OddEndsCardSaid : Prop := Claim7.holds Tryz.pinned (.plain (OpenSpec.ofChange oddEndsSpec)) oddEndsCard

/-- THE TIED CARD OF 'contangolaw04.OddFee'. -/
def oddFeeCard : Claim7 := { stood := { row := oddFeeRow, standIns := [], harness := (true, "13d6838d773188036e6e556810f3f13620426094f1cc565bb7c6eb075301a94f"), looks := true }, kinds := [], alts := [], laidByText := true, laidKinds := [.data, .data, .data, .sentinel, .sentinel], laidTests := true, laidLooks := .later }
def OddFeeCardSaid : Prop := Claim7.holds Tryz.pinned (.plain (OpenSpec.ofChange oddFeeSpec)) oddFeeCard

/-- THE TIED CARD OF 'contangolaw04.OddLimit'. -/
def oddLimitCard : Claim7 := { stood := { row := oddLimitRow, standIns := [], harness := (true, "13d6838d773188036e6e556810f3f13620426094f1cc565bb7c6eb075301a94f"), looks := true }, kinds := [], alts := [], laidByText := true, laidKinds := [.data, .data, .data, .sentinel, .sentinel], laidTests := true, laidLooks := .later }
def OddLimitCardSaid : Prop := Claim7.holds Tryz.pinned (.plain (OpenSpec.ofChange oddLimitSpec)) oddLimitCard

/-- THE TIED CARD OF 'contangolaw04.OddMore'. -/
def oddMoreCard : Claim7 := { stood := { row := oddMoreRow, standIns := [], harness := (true, "13d6838d773188036e6e556810f3f13620426094f1cc565bb7c6eb075301a94f"), looks := true }, kinds := [], alts := [], laidByText := true, laidKinds := [.data, .data, .data, .sentinel, .sentinel], laidTests := true, laidLooks := .later }
def OddMoreCardSaid : Prop := Claim7.holds Tryz.pinned (.plain (OpenSpec.ofChange oddMoreSpec)) oddMoreCard

/-- THE TIED CARD OF 'contangolaw04.OddPair'. -/
def oddPairCard : Claim7 := { stood := { row := oddPairRow, standIns := [], harness := (true, "13d6838d773188036e6e556810f3f13620426094f1cc565bb7c6eb075301a94f"), looks := true }, kinds := [], alts := [], laidByText := true, laidKinds := [.data, .data, .data, .sentinel, .sentinel], laidTests := true, laidLooks := .later }
def OddPairCardSaid : Prop := Claim7.holds Tryz.pinned (.plain (OpenSpec.ofChange oddPairSpec)) oddPairCard

/-- THE TIED CARD OF 'contangolaw04.OddWider'. -/
def oddWiderCard : Claim7 := { stood := { row := oddWiderRow, standIns := [], harness := (true, "13d6838d773188036e6e556810f3f13620426094f1cc565bb7c6eb075301a94f"), looks := true }, kinds := [], alts := [], laidByText := true, laidKinds := [.data, .data, .data, .sentinel, .sentinel], laidTests := true, laidLooks := .later }
def OddWiderCardSaid : Prop := Claim7.holds Tryz.pinned (.plain (OpenSpec.ofChange oddWiderSpec)) oddWiderCard

/-- THE TIED CARD OF 'contangolaw04.OddSum'. -/
def oddSumCard : Claim7 := { stood := { row := oddSumRow, standIns := [], harness := (true, "13d6838d773188036e6e556810f3f13620426094f1cc565bb7c6eb075301a94f"), looks := true }, kinds := [], alts := [], laidByText := true, laidKinds := [.data, .data, .data, .sentinel, .sentinel], laidTests := true, laidLooks := .later }
def OddSumCardSaid : Prop := Claim7.holds Tryz.pinned (.plain (OpenSpec.ofChange oddSumSpec)) oddSumCard

/-- THE TIED CARD OF 'contangolaw04.OddPlays'. -/
def oddPlaysCard : Claim7 := { stood := { row := oddPlaysRow, standIns := [], harness := (true, "13d6838d773188036e6e556810f3f13620426094f1cc565bb7c6eb075301a94f"), looks := true }, kinds := [], alts := [], laidByText := true, laidKinds := [.data, .data, .data, .sentinel, .sentinel], laidTests := true, laidLooks := .later }
def OddPlaysCardSaid : Prop := Claim7.holds Tryz.pinned (.plain (OpenSpec.ofChange oddPlaysSpec)) oddPlaysCard

/-- THE TIED CARD OF 'contangolaw04.OddNames'. -/
def oddNamesCard : Claim7 := { stood := { row := oddNamesRow, standIns := [], harness := (true, "13d6838d773188036e6e556810f3f13620426094f1cc565bb7c6eb075301a94f"), looks := true }, kinds := [], alts := [], laidByText := true, laidKinds := [.data, .data, .data, .sentinel, .sentinel], laidTests := true, laidLooks := .later }
def OddNamesCardSaid : Prop := Claim7.holds Tryz.pinned (.plain (OpenSpec.ofChange oddNamesSpec)) oddNamesCard

/-- THE SECOND FORM's CARD OF 'contangotop.TopShown'. -/
def topShownUptoCard : Claim7 := { stood := { row := topShownUptoRow, standIns := [], harness := (true, "13d6838d773188036e6e556810f3f13620426094f1cc565bb7c6eb075301a94f"), looks := true }, kinds := [], alts := [], laidByText := true, laidKinds := [.data, .data, .data, .sentinel, .sentinel], laidTests := true, laidLooks := .later }
def TopShownUptoCardSaid : Prop := Claim7.holds Tryz.pinned (.plain (OpenSpec.upto topShownSpec)) topShownUptoCard

/-- THE SECOND FORM's CARD OF 'contangotop.TopTicked'. -/
def topTickedUptoCard : Claim7 := { stood := { row := topTickedUptoRow, standIns := [], harness := (true, "13d6838d773188036e6e556810f3f13620426094f1cc565bb7c6eb075301a94f"), looks := true }, kinds := [], alts := [], laidByText := true, laidKinds := [.data, .data, .data, .sentinel, .sentinel], laidTests := true, laidLooks := .later }
def TopTickedUptoCardSaid : Prop := Claim7.holds Tryz.pinned (.plain (OpenSpec.upto topTickedSpec)) topTickedUptoCard

/-- THE SECOND FORM's CARD OF 'contangolaw04.OddSales'. -/
def oddSalesUptoCard : Claim7 := { stood := { row := oddSalesUptoRow, standIns := [], harness := (true, "13d6838d773188036e6e556810f3f13620426094f1cc565bb7c6eb075301a94f"), looks := true }, kinds := [], alts := [], laidByText := true, laidKinds := [.data, .data, .data, .sentinel, .sentinel], laidTests := true, laidLooks := .later }
def OddSalesUptoCardSaid : Prop := Claim7.holds Tryz.pinned (.plain (OpenSpec.upto oddSalesSpec)) oddSalesUptoCard

/-- THE SECOND FORM's CARD OF 'contangolaw04.OddBounds'. -/
def oddBoundsUptoCard : Claim7 := { stood := { row := oddBoundsUptoRow, standIns := [], harness := (true, "13d6838d773188036e6e556810f3f13620426094f1cc565bb7c6eb075301a94f"), looks := true }, kinds := [], alts := [], laidByText := true, laidKinds := [.data, .data, .data, .sentinel, .sentinel], laidTests := true, laidLooks := .later }
def OddBoundsUptoCardSaid : Prop := Claim7.holds Tryz.pinned (.plain (OpenSpec.upto oddBoundsSpec)) oddBoundsUptoCard

/-- THE SECOND FORM's CARD OF 'contangolaw04.OddTruth'. -/
def oddTruthUptoCard : Claim7 := { stood := { row := oddTruthUptoRow, standIns := [], harness := (true, "13d6838d773188036e6e556810f3f13620426094f1cc565bb7c6eb075301a94f"), looks := true }, kinds := [], alts := [], laidByText := true, laidKinds := [.data, .data, .data, .sentinel, .sentinel], laidTests := true, laidLooks := .later }
def OddTruthUptoCardSaid : Prop := Claim7.holds Tryz.pinned (.plain (OpenSpec.upto oddTruthSpec)) oddTruthUptoCard

/-- THE SECOND FORM's CARD OF 'contangolaw04.OddEnds'. -/
def oddEndsUptoCard : Claim7 := { stood := { row := oddEndsUptoRow, standIns := [], harness := (true, "13d6838d773188036e6e556810f3f13620426094f1cc565bb7c6eb075301a94f"), looks := true }, kinds := [], alts := [], laidByText := true, laidKinds := [.data, .data, .data, .sentinel, .sentinel], laidTests := true, laidLooks := .later }
def OddEndsUptoCardSaid : Prop := Claim7.holds Tryz.pinned (.plain (OpenSpec.upto oddEndsSpec)) oddEndsUptoCard

/-- THE SECOND FORM's CARD OF 'contangolaw04.OddFee'. -/
def oddFeeUptoCard : Claim7 := { stood := { row := oddFeeUptoRow, standIns := [], harness := (true, "13d6838d773188036e6e556810f3f13620426094f1cc565bb7c6eb075301a94f"), looks := true }, kinds := [], alts := [], laidByText := true, laidKinds := [.data, .data, .data, .sentinel, .sentinel], laidTests := true, laidLooks := .later }
def OddFeeUptoCardSaid : Prop := Claim7.holds Tryz.pinned (.plain (OpenSpec.upto oddFeeSpec)) oddFeeUptoCard

/-- THE SECOND FORM's CARD OF 'contangolaw04.OddLimit'. -/
def oddLimitUptoCard : Claim7 := { stood := { row := oddLimitUptoRow, standIns := [], harness := (true, "13d6838d773188036e6e556810f3f13620426094f1cc565bb7c6eb075301a94f"), looks := true }, kinds := [], alts := [], laidByText := true, laidKinds := [.data, .data, .data, .sentinel, .sentinel], laidTests := true, laidLooks := .later }
def OddLimitUptoCardSaid : Prop := Claim7.holds Tryz.pinned (.plain (OpenSpec.upto oddLimitSpec)) oddLimitUptoCard

/-- THE SECOND FORM's CARD OF 'contangolaw04.OddMore'. -/
def oddMoreUptoCard : Claim7 := { stood := { row := oddMoreUptoRow, standIns := [], harness := (true, "13d6838d773188036e6e556810f3f13620426094f1cc565bb7c6eb075301a94f"), looks := true }, kinds := [], alts := [], laidByText := true, laidKinds := [.data, .data, .data, .sentinel, .sentinel], laidTests := true, laidLooks := .later }
def OddMoreUptoCardSaid : Prop := Claim7.holds Tryz.pinned (.plain (OpenSpec.upto oddMoreSpec)) oddMoreUptoCard

/-- THE SECOND FORM's CARD OF 'contangolaw04.OddPair'. -/
def oddPairUptoCard : Claim7 := { stood := { row := oddPairUptoRow, standIns := [], harness := (true, "13d6838d773188036e6e556810f3f13620426094f1cc565bb7c6eb075301a94f"), looks := true }, kinds := [], alts := [], laidByText := true, laidKinds := [.data, .data, .data, .sentinel, .sentinel], laidTests := true, laidLooks := .later }
def OddPairUptoCardSaid : Prop := Claim7.holds Tryz.pinned (.plain (OpenSpec.upto oddPairSpec)) oddPairUptoCard

/-- THE SECOND FORM's CARD OF 'contangolaw04.OddWider'. -/
def oddWiderUptoCard : Claim7 := { stood := { row := oddWiderUptoRow, standIns := [], harness := (true, "13d6838d773188036e6e556810f3f13620426094f1cc565bb7c6eb075301a94f"), looks := true }, kinds := [], alts := [], laidByText := true, laidKinds := [.data, .data, .data, .sentinel, .sentinel], laidTests := true, laidLooks := .later }
def OddWiderUptoCardSaid : Prop := Claim7.holds Tryz.pinned (.plain (OpenSpec.upto oddWiderSpec)) oddWiderUptoCard

/-- THE SECOND FORM's CARD OF 'contangolaw04.OddSum'. -/
def oddSumUptoCard : Claim7 := { stood := { row := oddSumUptoRow, standIns := [], harness := (true, "13d6838d773188036e6e556810f3f13620426094f1cc565bb7c6eb075301a94f"), looks := true }, kinds := [], alts := [], laidByText := true, laidKinds := [.data, .data, .data, .sentinel, .sentinel], laidTests := true, laidLooks := .later }
def OddSumUptoCardSaid : Prop := Claim7.holds Tryz.pinned (.plain (OpenSpec.upto oddSumSpec)) oddSumUptoCard

/-- THE SECOND FORM's CARD OF 'contangolaw04.OddPlays'. -/
def oddPlaysUptoCard : Claim7 := { stood := { row := oddPlaysUptoRow, standIns := [], harness := (true, "13d6838d773188036e6e556810f3f13620426094f1cc565bb7c6eb075301a94f"), looks := true }, kinds := [], alts := [], laidByText := true, laidKinds := [.data, .data, .data, .sentinel, .sentinel], laidTests := true, laidLooks := .later }
def OddPlaysUptoCardSaid : Prop := Claim7.holds Tryz.pinned (.plain (OpenSpec.upto oddPlaysSpec)) oddPlaysUptoCard

/-- THE SECOND FORM's CARD OF 'contangolaw04.OddNames'. -/
def oddNamesUptoCard : Claim7 := { stood := { row := oddNamesUptoRow, standIns := [], harness := (true, "13d6838d773188036e6e556810f3f13620426094f1cc565bb7c6eb075301a94f"), looks := true }, kinds := [], alts := [], laidByText := true, laidKinds := [.data, .data, .data, .sentinel, .sentinel], laidTests := true, laidLooks := .later }
def OddNamesUptoCardSaid : Prop := Claim7.holds Tryz.pinned (.plain (OpenSpec.upto oddNamesSpec)) oddNamesUptoCard
end Rows
end Go.Proofs.YticlpkgpmmhemaaGreatDoor
