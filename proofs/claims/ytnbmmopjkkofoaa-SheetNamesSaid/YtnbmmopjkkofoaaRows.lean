/-
  No cell of these rows narrows 'for every input' (looked for: loops, veiled, ifaces, maps, wideKeys, modest, calm, conditions, laid).
  DERIVED. THE GIVEN ROWS OF THIS SEAT. 11 by the template 'for every input the law returns true; each argument reads behind the call as it read before'; 0 by the template 'total and deterministic' (their statements: YtnbmmopjkkofoaaTotals.lean).
  GIVEN WITH THE SEED: the statements are not yours to turn. If you find one false, say at which input.
  Laid BY PROGRAM, IN A SANDBOX (cutbox-rows.mjs): the forced cells as the released guide's own fill.sh prints them over the translation 40f8098b3345babe… (all of the seat's roots in one cut). By AI agents, Wed Nov 11 2026. No macro, syntax, notation, axiom, sorry.
-/
import Derived.Test.YtnbmmopjkkofoaaChecked
import GoSem.Claim
import GoSem.ClaimJoined
import GoSem.ClaimMapViews
import Derived.JoinedTies
import Derived.KernelRfl
namespace Go.Proofs.Ytnbmmopjkkofoaa
/- THE CELL 'sum', in the pinned program and in every row, IS THE sha256 OF THE DUMP (.gsa) THAT YtnbmmopjkkofoaaProg.lean LOADS. Nothing in Lean hashes anything: it is a label: what it is worth is what the hold of that sum in a sandbox is worth. -/
noncomputable def Try.pinned : Pinned := { name := "ytnbmmopjkkofoaa", sum := "40f8098b3345babea4022197e16ff50b9c75db27f877a98db956e8919e739f8e", checked := Try.checked }
namespace Rows
def none {H : Type} : Left H := { results := [], args := [] }

/-- 'contangolaw05.SheetHolds': WHATEVER THE INPUT: true; the input reads as it did. -/
def sheetHoldsSpec : ChangeSpec := { name := "sheetHolds", fn := fun _ => fun
  | [d1, d2, d3, d4] => { results := [.lit (.bool true)], args := [d1, d2, d3, d4] }
  | _ => none }
def sheetHoldsRow : OpenClaim := { program := "ytnbmmopjkkofoaa", sum := "40f8098b3345babea4022197e16ff50b9c75db27f877a98db956e8919e739f8e", func := "contango/contangolaw05.SheetHolds", spec := "sheetHolds", unfollowed := true, recurses := true, plainKeys := false, apart := false }
def SheetHoldsSaid : Prop := sheetHoldsRow.holds Try.pinned (OpenSpec.ofChange sheetHoldsSpec)

/-- ITS FALSE NEIGHBOUR: 'it returns false'. Refute it at one input. -/
def sheetHoldsWrong : ChangeSpec := { name := "sheetHolds", fn := fun _ => fun
  | [d1, d2, d3, d4] => { results := [.lit (.bool false)], args := [d1, d2, d3, d4] }
  | _ => none }
def SheetHoldsWrongFalsely : Prop := sheetHoldsRow.holds Try.pinned (OpenSpec.ofChange sheetHoldsWrong)

/-- 'contangolaw05.SheetCounts': WHATEVER THE INPUT: true; the input reads as it did. -/
def sheetCountsSpec : ChangeSpec := { name := "sheetCounts", fn := fun _ => fun
  | [d1, d2, d3, d4] => { results := [.lit (.bool true)], args := [d1, d2, d3, d4] }
  | _ => none }
def sheetCountsRow : OpenClaim := { program := "ytnbmmopjkkofoaa", sum := "40f8098b3345babea4022197e16ff50b9c75db27f877a98db956e8919e739f8e", func := "contango/contangolaw05.SheetCounts", spec := "sheetCounts", unfollowed := true, recurses := true, plainKeys := false, apart := false }
def SheetCountsSaid : Prop := sheetCountsRow.holds Try.pinned (OpenSpec.ofChange sheetCountsSpec)

/-- ITS FALSE NEIGHBOUR: 'it returns false'. Refute it at one input. -/
def sheetCountsWrong : ChangeSpec := { name := "sheetCounts", fn := fun _ => fun
  | [d1, d2, d3, d4] => { results := [.lit (.bool false)], args := [d1, d2, d3, d4] }
  | _ => none }
def SheetCountsWrongFalsely : Prop := sheetCountsRow.holds Try.pinned (OpenSpec.ofChange sheetCountsWrong)

/-- 'contangolaw05.SheetEnds': WHATEVER THE INPUT: true; the input reads as it did. -/
def sheetEndsSpec : ChangeSpec := { name := "sheetEnds", fn := fun _ => fun
  | [d1, d2, d3, d4, d5, d6, d7] => { results := [.lit (.bool true)], args := [d1, d2, d3, d4, d5, d6, d7] }
  | _ => none }
def sheetEndsRow : OpenClaim := { program := "ytnbmmopjkkofoaa", sum := "40f8098b3345babea4022197e16ff50b9c75db27f877a98db956e8919e739f8e", func := "contango/contangolaw05.SheetEnds", spec := "sheetEnds", unfollowed := true, recurses := true, plainKeys := false, apart := false }
def SheetEndsSaid : Prop := sheetEndsRow.holds Try.pinned (OpenSpec.ofChange sheetEndsSpec)

/-- ITS FALSE NEIGHBOUR: 'it returns false'. Refute it at one input. -/
def sheetEndsWrong : ChangeSpec := { name := "sheetEnds", fn := fun _ => fun
  | [d1, d2, d3, d4, d5, d6, d7] => { results := [.lit (.bool false)], args := [d1, d2, d3, d4, d5, d6, d7] }
  | _ => none }
def SheetEndsWrongFalsely : Prop := sheetEndsRow.holds Try.pinned (OpenSpec.ofChange sheetEndsWrong)

/-- 'contangolaw05.SheetMore': WHATEVER THE INPUT: true; the input reads as it did. -/
def sheetMoreSpec : ChangeSpec := { name := "sheetMore", fn := fun _ => fun
  | [d1, d2, d3, d4, d5] => { results := [.lit (.bool true)], args := [d1, d2, d3, d4, d5] }
  | _ => none }
def sheetMoreRow : OpenClaim := { program := "ytnbmmopjkkofoaa", sum := "40f8098b3345babea4022197e16ff50b9c75db27f877a98db956e8919e739f8e", func := "contango/contangolaw05.SheetMore", spec := "sheetMore", unfollowed := true, recurses := true, plainKeys := false, apart := false }
def SheetMoreSaid : Prop := sheetMoreRow.holds Try.pinned (OpenSpec.ofChange sheetMoreSpec)

/-- ITS FALSE NEIGHBOUR: 'it returns false'. Refute it at one input. -/
def sheetMoreWrong : ChangeSpec := { name := "sheetMore", fn := fun _ => fun
  | [d1, d2, d3, d4, d5] => { results := [.lit (.bool false)], args := [d1, d2, d3, d4, d5] }
  | _ => none }
def SheetMoreWrongFalsely : Prop := sheetMoreRow.holds Try.pinned (OpenSpec.ofChange sheetMoreWrong)

/-- 'contangolaw05.SheetWider': WHATEVER THE INPUT: true; the input reads as it did. -/
def sheetWiderSpec : ChangeSpec := { name := "sheetWider", fn := fun _ => fun
  | [d1, d2, d3, d4, d5, d6] => { results := [.lit (.bool true)], args := [d1, d2, d3, d4, d5, d6] }
  | _ => none }
def sheetWiderRow : OpenClaim := { program := "ytnbmmopjkkofoaa", sum := "40f8098b3345babea4022197e16ff50b9c75db27f877a98db956e8919e739f8e", func := "contango/contangolaw05.SheetWider", spec := "sheetWider", unfollowed := true, recurses := true, plainKeys := false, apart := false }
def SheetWiderSaid : Prop := sheetWiderRow.holds Try.pinned (OpenSpec.ofChange sheetWiderSpec)

/-- ITS FALSE NEIGHBOUR: 'it returns false'. Refute it at one input. -/
def sheetWiderWrong : ChangeSpec := { name := "sheetWider", fn := fun _ => fun
  | [d1, d2, d3, d4, d5, d6] => { results := [.lit (.bool false)], args := [d1, d2, d3, d4, d5, d6] }
  | _ => none }
def SheetWiderWrongFalsely : Prop := sheetWiderRow.holds Try.pinned (OpenSpec.ofChange sheetWiderWrong)

/-- 'contangolaw05.SheetFirst': WHATEVER THE INPUT: true; the input reads as it did. -/
def sheetFirstSpec : ChangeSpec := { name := "sheetFirst", fn := fun _ => fun
  | [d] => { results := [.lit (.bool true)], args := [d] }
  | _ => none }
def sheetFirstRow : OpenClaim := { program := "ytnbmmopjkkofoaa", sum := "40f8098b3345babea4022197e16ff50b9c75db27f877a98db956e8919e739f8e", func := "contango/contangolaw05.SheetFirst", spec := "sheetFirst", unfollowed := true, recurses := true, plainKeys := false, apart := false }
def SheetFirstSaid : Prop := sheetFirstRow.holds Try.pinned (OpenSpec.ofChange sheetFirstSpec)

/-- ITS FALSE NEIGHBOUR: 'it returns false'. Refute it at one input. -/
def sheetFirstWrong : ChangeSpec := { name := "sheetFirst", fn := fun _ => fun
  | [d] => { results := [.lit (.bool false)], args := [d] }
  | _ => none }
def SheetFirstWrongFalsely : Prop := sheetFirstRow.holds Try.pinned (OpenSpec.ofChange sheetFirstWrong)

/-- 'contangolaw05.SheetLeft': WHATEVER THE INPUT: true; the input reads as it did. -/
def sheetLeftSpec : ChangeSpec := { name := "sheetLeft", fn := fun _ => fun
  | [d1, d2] => { results := [.lit (.bool true)], args := [d1, d2] }
  | _ => none }
def sheetLeftRow : OpenClaim := { program := "ytnbmmopjkkofoaa", sum := "40f8098b3345babea4022197e16ff50b9c75db27f877a98db956e8919e739f8e", func := "contango/contangolaw05.SheetLeft", spec := "sheetLeft", unfollowed := true, recurses := true, plainKeys := false, apart := false }
def SheetLeftSaid : Prop := sheetLeftRow.holds Try.pinned (OpenSpec.ofChange sheetLeftSpec)

/-- ITS FALSE NEIGHBOUR: 'it returns false'. Refute it at one input. -/
def sheetLeftWrong : ChangeSpec := { name := "sheetLeft", fn := fun _ => fun
  | [d1, d2] => { results := [.lit (.bool false)], args := [d1, d2] }
  | _ => none }
def SheetLeftWrongFalsely : Prop := sheetLeftRow.holds Try.pinned (OpenSpec.ofChange sheetLeftWrong)

/-- 'contangolaw05.SheetRenamed': WHATEVER THE INPUT: true; the input reads as it did. -/
def sheetRenamedSpec : ChangeSpec := { name := "sheetRenamed", fn := fun _ => fun
  | [d1, d2, d3, d4, d5] => { results := [.lit (.bool true)], args := [d1, d2, d3, d4, d5] }
  | _ => none }
def sheetRenamedRow : OpenClaim := { program := "ytnbmmopjkkofoaa", sum := "40f8098b3345babea4022197e16ff50b9c75db27f877a98db956e8919e739f8e", func := "contango/contangolaw05.SheetRenamed", spec := "sheetRenamed", unfollowed := true, recurses := true, plainKeys := false, apart := false }
def SheetRenamedSaid : Prop := sheetRenamedRow.holds Try.pinned (OpenSpec.ofChange sheetRenamedSpec)

/-- ITS FALSE NEIGHBOUR: 'it returns false'. Refute it at one input. -/
def sheetRenamedWrong : ChangeSpec := { name := "sheetRenamed", fn := fun _ => fun
  | [d1, d2, d3, d4, d5] => { results := [.lit (.bool false)], args := [d1, d2, d3, d4, d5] }
  | _ => none }
def SheetRenamedWrongFalsely : Prop := sheetRenamedRow.holds Try.pinned (OpenSpec.ofChange sheetRenamedWrong)

/-- 'contangolaw05.SheetPlays': WHATEVER THE INPUT: true; the input reads as it did. -/
def sheetPlaysSpec : ChangeSpec := { name := "sheetPlays", fn := fun _ => fun
  | [d1, d2] => { results := [.lit (.bool true)], args := [d1, d2] }
  | _ => none }
def sheetPlaysRow : OpenClaim := { program := "ytnbmmopjkkofoaa", sum := "40f8098b3345babea4022197e16ff50b9c75db27f877a98db956e8919e739f8e", func := "contango/contangolaw05.SheetPlays", spec := "sheetPlays", unfollowed := true, recurses := true, plainKeys := false, apart := false }
def SheetPlaysSaid : Prop := sheetPlaysRow.holds Try.pinned (OpenSpec.ofChange sheetPlaysSpec)

/-- ITS FALSE NEIGHBOUR: 'it returns false'. Refute it at one input. -/
def sheetPlaysWrong : ChangeSpec := { name := "sheetPlays", fn := fun _ => fun
  | [d1, d2] => { results := [.lit (.bool false)], args := [d1, d2] }
  | _ => none }
def SheetPlaysWrongFalsely : Prop := sheetPlaysRow.holds Try.pinned (OpenSpec.ofChange sheetPlaysWrong)

/-- 'contangolaw05.SheetNames': WHATEVER THE INPUT: true; the input reads as it did. -/
def sheetNamesSpec : ChangeSpec := { name := "sheetNames", fn := fun _ => fun
  | [] => { results := [.lit (.bool true)], args := [] }
  | _ => none }
def sheetNamesRow : OpenClaim := { program := "ytnbmmopjkkofoaa", sum := "40f8098b3345babea4022197e16ff50b9c75db27f877a98db956e8919e739f8e", func := "contango/contangolaw05.SheetNames", spec := "sheetNames", unfollowed := true, recurses := true, plainKeys := false, apart := false }
def SheetNamesSaid : Prop := sheetNamesRow.holds Try.pinned (OpenSpec.ofChange sheetNamesSpec)

/-- ITS FALSE NEIGHBOUR: 'it returns false'. Refute it at one input. -/
def sheetNamesWrong : ChangeSpec := { name := "sheetNames", fn := fun _ => fun
  | [] => { results := [.lit (.bool false)], args := [] }
  | _ => none }
def SheetNamesWrongFalsely : Prop := sheetNamesRow.holds Try.pinned (OpenSpec.ofChange sheetNamesWrong)

/-- 'contangolaw05.SheetTruth': WHATEVER THE INPUT: true; the input reads as it did. -/
def sheetTruthSpec : ChangeSpec := { name := "sheetTruth", fn := fun _ => fun
  | [d1, d2, d3, d4, d5] => { results := [.lit (.bool true)], args := [d1, d2, d3, d4, d5] }
  | _ => none }
def sheetTruthRow : OpenClaim := { program := "ytnbmmopjkkofoaa", sum := "40f8098b3345babea4022197e16ff50b9c75db27f877a98db956e8919e739f8e", func := "contango/contangolaw05.SheetTruth", spec := "sheetTruth", unfollowed := true, recurses := true, plainKeys := false, apart := false }
def SheetTruthSaid : Prop := sheetTruthRow.holds Try.pinned (OpenSpec.ofChange sheetTruthSpec)

/-- ITS FALSE NEIGHBOUR: 'it returns false'. Refute it at one input. -/
def sheetTruthWrong : ChangeSpec := { name := "sheetTruth", fn := fun _ => fun
  | [d1, d2, d3, d4, d5] => { results := [.lit (.bool false)], args := [d1, d2, d3, d4, d5] }
  | _ => none }
def SheetTruthWrongFalsely : Prop := sheetTruthRow.holds Try.pinned (OpenSpec.ofChange sheetTruthWrong)

/- THE SECOND FORM. 'bulk': how many values and letters a reading holds, each counted each time it is reached (what is shared counts as often as it is met; a slice's spare places count too). A statement '..UptoSaid' is the law's where the arguments, and the package variables that the reading takes, are together of bulk at most 1048576: NARROWER than '..Said'. Prove '..Said' where nothing that the law and all that it calls make is longer than what came in: it says more and counts as full. Else prove '..UptoSaid'. A law counts once. -/
mutual
def uptoBulk {H : Type} : DataW H → Nat
  | .lit (.string bytes) => bytes.length + 1
  | .lit _ => 1
  | .nil => 1
  | .ptr d => uptoBulk d + 1
  | .slice elems spare => uptoBulkAll elems + uptoBulkAll spare + 1
  | .agg parts => uptoBulkAll parts + 1
  | .iface _ d => uptoBulk d + 1
  | .map entries => uptoBulkEntries entries + 1
  | .held _ => 1
def uptoBulkAll {H : Type} : List (DataW H) → Nat
  | [] => 0
  | d :: r => uptoBulk d + uptoBulkAll r
def uptoBulkEntries {H : Type} : List (Lit × DataW H) → Nat
  | [] => 0
  | x :: r => uptoBulkEntry x + uptoBulkEntries r
def uptoBulkEntry {H : Type} : Lit × DataW H → Nat
  | (.string bytes, d) => bytes.length + uptoBulk d + 1
  | (_, d) => uptoBulk d + 1
 end
def uptoSmall : (H : Type) → List (DataW H) → Bool := fun _ ds => decide (uptoBulkAll ds ≤ 1048576)
def OpenSpec.upto (s : _root_.Go.ChangeSpec) : _root_.Go.OpenSpec := { _root_.Go.OpenSpec.ofChange s with cond := some uptoSmall }

/-- 'contangolaw05.SheetHolds', WHERE WHAT IT READS IS OF BULK AT MOST 1048576: true; the input reads as it did. -/
def sheetHoldsUptoRow : OpenClaim := { program := "ytnbmmopjkkofoaa", sum := "40f8098b3345babea4022197e16ff50b9c75db27f877a98db956e8919e739f8e", func := "contango/contangolaw05.SheetHolds", spec := "sheetHolds", unfollowed := true, recurses := true, plainKeys := false, apart := false, narrowed := true }
def SheetHoldsUptoSaid : Prop := sheetHoldsUptoRow.holds Try.pinned (OpenSpec.upto sheetHoldsSpec)

/-- 'contangolaw05.SheetCounts', WHERE WHAT IT READS IS OF BULK AT MOST 1048576: true; the input reads as it did. -/
def sheetCountsUptoRow : OpenClaim := { program := "ytnbmmopjkkofoaa", sum := "40f8098b3345babea4022197e16ff50b9c75db27f877a98db956e8919e739f8e", func := "contango/contangolaw05.SheetCounts", spec := "sheetCounts", unfollowed := true, recurses := true, plainKeys := false, apart := false, narrowed := true }
def SheetCountsUptoSaid : Prop := sheetCountsUptoRow.holds Try.pinned (OpenSpec.upto sheetCountsSpec)

/-- 'contangolaw05.SheetEnds', WHERE WHAT IT READS IS OF BULK AT MOST 1048576: true; the input reads as it did. -/
def sheetEndsUptoRow : OpenClaim := { program := "ytnbmmopjkkofoaa", sum := "40f8098b3345babea4022197e16ff50b9c75db27f877a98db956e8919e739f8e", func := "contango/contangolaw05.SheetEnds", spec := "sheetEnds", unfollowed := true, recurses := true, plainKeys := false, apart := false, narrowed := true }
def SheetEndsUptoSaid : Prop := sheetEndsUptoRow.holds Try.pinned (OpenSpec.upto sheetEndsSpec)

/-- 'contangolaw05.SheetMore', WHERE WHAT IT READS IS OF BULK AT MOST 1048576: true; the input reads as it did. -/
def sheetMoreUptoRow : OpenClaim := { program := "ytnbmmopjkkofoaa", sum := "40f8098b3345babea4022197e16ff50b9c75db27f877a98db956e8919e739f8e", func := "contango/contangolaw05.SheetMore", spec := "sheetMore", unfollowed := true, recurses := true, plainKeys := false, apart := false, narrowed := true }
def SheetMoreUptoSaid : Prop := sheetMoreUptoRow.holds Try.pinned (OpenSpec.upto sheetMoreSpec)

/-- 'contangolaw05.SheetWider', WHERE WHAT IT READS IS OF BULK AT MOST 1048576: true; the input reads as it did. -/
def sheetWiderUptoRow : OpenClaim := { program := "ytnbmmopjkkofoaa", sum := "40f8098b3345babea4022197e16ff50b9c75db27f877a98db956e8919e739f8e", func := "contango/contangolaw05.SheetWider", spec := "sheetWider", unfollowed := true, recurses := true, plainKeys := false, apart := false, narrowed := true }
def SheetWiderUptoSaid : Prop := sheetWiderUptoRow.holds Try.pinned (OpenSpec.upto sheetWiderSpec)

/-- 'contangolaw05.SheetFirst', WHERE WHAT IT READS IS OF BULK AT MOST 1048576: true; the input reads as it did. -/
def sheetFirstUptoRow : OpenClaim := { program := "ytnbmmopjkkofoaa", sum := "40f8098b3345babea4022197e16ff50b9c75db27f877a98db956e8919e739f8e", func := "contango/contangolaw05.SheetFirst", spec := "sheetFirst", unfollowed := true, recurses := true, plainKeys := false, apart := false, narrowed := true }
def SheetFirstUptoSaid : Prop := sheetFirstUptoRow.holds Try.pinned (OpenSpec.upto sheetFirstSpec)

/-- 'contangolaw05.SheetLeft', WHERE WHAT IT READS IS OF BULK AT MOST 1048576: true; the input reads as it did. -/
def sheetLeftUptoRow : OpenClaim := { program := "ytnbmmopjkkofoaa", sum := "40f8098b3345babea4022197e16ff50b9c75db27f877a98db956e8919e739f8e", func := "contango/contangolaw05.SheetLeft", spec := "sheetLeft", unfollowed := true, recurses := true, plainKeys := false, apart := false, narrowed := true }
def SheetLeftUptoSaid : Prop := sheetLeftUptoRow.holds Try.pinned (OpenSpec.upto sheetLeftSpec)

/-- 'contangolaw05.SheetRenamed', WHERE WHAT IT READS IS OF BULK AT MOST 1048576: true; the input reads as it did. -/
def sheetRenamedUptoRow : OpenClaim := { program := "ytnbmmopjkkofoaa", sum := "40f8098b3345babea4022197e16ff50b9c75db27f877a98db956e8919e739f8e", func := "contango/contangolaw05.SheetRenamed", spec := "sheetRenamed", unfollowed := true, recurses := true, plainKeys := false, apart := false, narrowed := true }
def SheetRenamedUptoSaid : Prop := sheetRenamedUptoRow.holds Try.pinned (OpenSpec.upto sheetRenamedSpec)

/-- 'contangolaw05.SheetPlays', WHERE WHAT IT READS IS OF BULK AT MOST 1048576: true; the input reads as it did. -/
def sheetPlaysUptoRow : OpenClaim := { program := "ytnbmmopjkkofoaa", sum := "40f8098b3345babea4022197e16ff50b9c75db27f877a98db956e8919e739f8e", func := "contango/contangolaw05.SheetPlays", spec := "sheetPlays", unfollowed := true, recurses := true, plainKeys := false, apart := false, narrowed := true }
def SheetPlaysUptoSaid : Prop := sheetPlaysUptoRow.holds Try.pinned (OpenSpec.upto sheetPlaysSpec)

/-- 'contangolaw05.SheetNames', WHERE WHAT IT READS IS OF BULK AT MOST 1048576: true; the input reads as it did. -/
def sheetNamesUptoRow : OpenClaim := { program := "ytnbmmopjkkofoaa", sum := "40f8098b3345babea4022197e16ff50b9c75db27f877a98db956e8919e739f8e", func := "contango/contangolaw05.SheetNames", spec := "sheetNames", unfollowed := true, recurses := true, plainKeys := false, apart := false, narrowed := true }
def SheetNamesUptoSaid : Prop := sheetNamesUptoRow.holds Try.pinned (OpenSpec.upto sheetNamesSpec)

/-- 'contangolaw05.SheetTruth', WHERE WHAT IT READS IS OF BULK AT MOST 1048576: true; the input reads as it did. -/
def sheetTruthUptoRow : OpenClaim := { program := "ytnbmmopjkkofoaa", sum := "40f8098b3345babea4022197e16ff50b9c75db27f877a98db956e8919e739f8e", func := "contango/contangolaw05.SheetTruth", spec := "sheetTruth", unfollowed := true, recurses := true, plainKeys := false, apart := false, narrowed := true }
def SheetTruthUptoSaid : Prop := sheetTruthUptoRow.holds Try.pinned (OpenSpec.upto sheetTruthSpec)

end Rows
end Go.Proofs.Ytnbmmopjkkofoaa
