/-
  No cell of these rows narrows 'for every input' (looked for: loops, veiled, ifaces, maps, wideKeys, modest, calm, conditions, laid).
  DERIVED. THE GIVEN ROWS OF THIS SEAT. 13 by the template 'for every input the law returns true; each argument reads behind the call as it read before'; 0 by the template 'total and deterministic' (their statements: YtaokpncjemkhcaaGreatTotals.lean).
  GIVEN WITH THE SEED: the statements are not yours to turn. If you find one false, say at which input.
  Laid BY PROGRAM, IN A SANDBOX (cutbox-rows.mjs): the forced cells as the released guide's own fill.sh prints them over the translation 798a74f3be18f269… (all of the seat's roots in one cut). By AI agents, Wed Nov 11 2026. No macro, syntax, notation, axiom, sorry.
-/
import Derived.Test.YtaokpncjemkhcaaGreatChecked
import GoSem.Claim
import GoSem.ClaimJoined
import GoSem.ClaimMapViews
import Derived.JoinedTies
import Derived.KernelRfl
namespace Go.Proofs.YtaokpncjemkhcaaGreat
/- THE CELL 'sum', in the pinned program and in every row, IS THE sha256 OF THE DUMP (.gsa) THAT YtaokpncjemkhcaaGreatProg.lean LOADS. Nothing in Lean hashes anything: it is a label: what it is worth is what the hold of that sum in a sandbox is worth. -/
noncomputable def Tryz.pinned : Pinned := { name := "ytaokpncjemkhcaagreat", sum := "798a74f3be18f2699534913fb77af3ce092857b46e5d5ada880958d948ee2dd2", checked := Tryz.checked }
namespace Rows
def none {H : Type} : Left H := { results := [], args := [] }

/-- 'contangotop.TopHanded': WHATEVER THE INPUT: true; the input reads as it did. -/
def topHandedSpec : ChangeSpec := { name := "topHanded", fn := fun _ => fun
  | [d1, d2, d3, d4, d5] => { results := [.lit (.bool true)], args := [d1, d2, d3, d4, d5] }
  | _ => none }
def topHandedRow : OpenClaim := { program := "ytaokpncjemkhcaagreat", sum := "798a74f3be18f2699534913fb77af3ce092857b46e5d5ada880958d948ee2dd2", func := "contango/contangotop.TopHanded", spec := "topHanded", unfollowed := true, recurses := true, plainKeys := false, apart := false }
def TopHandedSaid : Prop := topHandedRow.holds Tryz.pinned (OpenSpec.ofChange topHandedSpec)

/-- ITS FALSE NEIGHBOUR: 'it returns false'. Refute it at one input. -/
def topHandedWrong : ChangeSpec := { name := "topHanded", fn := fun _ => fun
  | [d1, d2, d3, d4, d5] => { results := [.lit (.bool false)], args := [d1, d2, d3, d4, d5] }
  | _ => none }
def TopHandedWrongFalsely : Prop := topHandedRow.holds Tryz.pinned (OpenSpec.ofChange topHandedWrong)

/-- 'contangolaw08.ShortHands': WHATEVER THE INPUT: true; the input reads as it did. -/
def shortHandsSpec : ChangeSpec := { name := "shortHands", fn := fun _ => fun
  | [d] => { results := [.lit (.bool true)], args := [d] }
  | _ => none }
def shortHandsRow : OpenClaim := { program := "ytaokpncjemkhcaagreat", sum := "798a74f3be18f2699534913fb77af3ce092857b46e5d5ada880958d948ee2dd2", func := "contango/contangolaw08.ShortHands", spec := "shortHands", unfollowed := true, recurses := true, plainKeys := false, apart := false }
def ShortHandsSaid : Prop := shortHandsRow.holds Tryz.pinned (OpenSpec.ofChange shortHandsSpec)

/-- ITS FALSE NEIGHBOUR: 'it returns false'. Refute it at one input. -/
def shortHandsWrong : ChangeSpec := { name := "shortHands", fn := fun _ => fun
  | [d] => { results := [.lit (.bool false)], args := [d] }
  | _ => none }
def ShortHandsWrongFalsely : Prop := shortHandsRow.holds Tryz.pinned (OpenSpec.ofChange shortHandsWrong)

/-- 'contangolaw08.ShortBuyIns': WHATEVER THE INPUT: true; the input reads as it did. -/
def shortBuyInsSpec : ChangeSpec := { name := "shortBuyIns", fn := fun _ => fun
  | [d] => { results := [.lit (.bool true)], args := [d] }
  | _ => none }
def shortBuyInsRow : OpenClaim := { program := "ytaokpncjemkhcaagreat", sum := "798a74f3be18f2699534913fb77af3ce092857b46e5d5ada880958d948ee2dd2", func := "contango/contangolaw08.ShortBuyIns", spec := "shortBuyIns", unfollowed := true, recurses := true, plainKeys := false, apart := false }
def ShortBuyInsSaid : Prop := shortBuyInsRow.holds Tryz.pinned (OpenSpec.ofChange shortBuyInsSpec)

/-- ITS FALSE NEIGHBOUR: 'it returns false'. Refute it at one input. -/
def shortBuyInsWrong : ChangeSpec := { name := "shortBuyIns", fn := fun _ => fun
  | [d] => { results := [.lit (.bool false)], args := [d] }
  | _ => none }
def ShortBuyInsWrongFalsely : Prop := shortBuyInsRow.holds Tryz.pinned (OpenSpec.ofChange shortBuyInsWrong)

/-- 'contangolaw08.ShortEnough': WHATEVER THE INPUT: true; the input reads as it did. -/
def shortEnoughSpec : ChangeSpec := { name := "shortEnough", fn := fun _ => fun
  | [d] => { results := [.lit (.bool true)], args := [d] }
  | _ => none }
def shortEnoughRow : OpenClaim := { program := "ytaokpncjemkhcaagreat", sum := "798a74f3be18f2699534913fb77af3ce092857b46e5d5ada880958d948ee2dd2", func := "contango/contangolaw08.ShortEnough", spec := "shortEnough", unfollowed := true, recurses := true, plainKeys := false, apart := false }
def ShortEnoughSaid : Prop := shortEnoughRow.holds Tryz.pinned (OpenSpec.ofChange shortEnoughSpec)

/-- ITS FALSE NEIGHBOUR: 'it returns false'. Refute it at one input. -/
def shortEnoughWrong : ChangeSpec := { name := "shortEnough", fn := fun _ => fun
  | [d] => { results := [.lit (.bool false)], args := [d] }
  | _ => none }
def ShortEnoughWrongFalsely : Prop := shortEnoughRow.holds Tryz.pinned (OpenSpec.ofChange shortEnoughWrong)

/-- 'contangolaw08.ShortMore': WHATEVER THE INPUT: true; the input reads as it did. -/
def shortMoreSpec : ChangeSpec := { name := "shortMore", fn := fun _ => fun
  | [d1, d2, d3, d4] => { results := [.lit (.bool true)], args := [d1, d2, d3, d4] }
  | _ => none }
def shortMoreRow : OpenClaim := { program := "ytaokpncjemkhcaagreat", sum := "798a74f3be18f2699534913fb77af3ce092857b46e5d5ada880958d948ee2dd2", func := "contango/contangolaw08.ShortMore", spec := "shortMore", unfollowed := true, recurses := true, plainKeys := false, apart := false }
def ShortMoreSaid : Prop := shortMoreRow.holds Tryz.pinned (OpenSpec.ofChange shortMoreSpec)

/-- ITS FALSE NEIGHBOUR: 'it returns false'. Refute it at one input. -/
def shortMoreWrong : ChangeSpec := { name := "shortMore", fn := fun _ => fun
  | [d1, d2, d3, d4] => { results := [.lit (.bool false)], args := [d1, d2, d3, d4] }
  | _ => none }
def ShortMoreWrongFalsely : Prop := shortMoreRow.holds Tryz.pinned (OpenSpec.ofChange shortMoreWrong)

/-- 'contangolaw08.ShortRings': WHATEVER THE INPUT: true; the input reads as it did. -/
def shortRingsSpec : ChangeSpec := { name := "shortRings", fn := fun _ => fun
  | [d1, d2, d3] => { results := [.lit (.bool true)], args := [d1, d2, d3] }
  | _ => none }
def shortRingsRow : OpenClaim := { program := "ytaokpncjemkhcaagreat", sum := "798a74f3be18f2699534913fb77af3ce092857b46e5d5ada880958d948ee2dd2", func := "contango/contangolaw08.ShortRings", spec := "shortRings", unfollowed := true, recurses := true, plainKeys := false, apart := false }
def ShortRingsSaid : Prop := shortRingsRow.holds Tryz.pinned (OpenSpec.ofChange shortRingsSpec)

/-- ITS FALSE NEIGHBOUR: 'it returns false'. Refute it at one input. -/
def shortRingsWrong : ChangeSpec := { name := "shortRings", fn := fun _ => fun
  | [d1, d2, d3] => { results := [.lit (.bool false)], args := [d1, d2, d3] }
  | _ => none }
def ShortRingsWrongFalsely : Prop := shortRingsRow.holds Tryz.pinned (OpenSpec.ofChange shortRingsWrong)

/-- 'contangolaw08.ShortVerdicts': WHATEVER THE INPUT: true; the input reads as it did. -/
def shortVerdictsSpec : ChangeSpec := { name := "shortVerdicts", fn := fun _ => fun
  | [d] => { results := [.lit (.bool true)], args := [d] }
  | _ => none }
def shortVerdictsRow : OpenClaim := { program := "ytaokpncjemkhcaagreat", sum := "798a74f3be18f2699534913fb77af3ce092857b46e5d5ada880958d948ee2dd2", func := "contango/contangolaw08.ShortVerdicts", spec := "shortVerdicts", unfollowed := true, recurses := true, plainKeys := false, apart := false }
def ShortVerdictsSaid : Prop := shortVerdictsRow.holds Tryz.pinned (OpenSpec.ofChange shortVerdictsSpec)

/-- ITS FALSE NEIGHBOUR: 'it returns false'. Refute it at one input. -/
def shortVerdictsWrong : ChangeSpec := { name := "shortVerdicts", fn := fun _ => fun
  | [d] => { results := [.lit (.bool false)], args := [d] }
  | _ => none }
def ShortVerdictsWrongFalsely : Prop := shortVerdictsRow.holds Tryz.pinned (OpenSpec.ofChange shortVerdictsWrong)

/-- 'contangolaw08.ShortLeast': WHATEVER THE INPUT: true; the input reads as it did. -/
def shortLeastSpec : ChangeSpec := { name := "shortLeast", fn := fun _ => fun
  | [d1, d2] => { results := [.lit (.bool true)], args := [d1, d2] }
  | _ => none }
def shortLeastRow : OpenClaim := { program := "ytaokpncjemkhcaagreat", sum := "798a74f3be18f2699534913fb77af3ce092857b46e5d5ada880958d948ee2dd2", func := "contango/contangolaw08.ShortLeast", spec := "shortLeast", unfollowed := true, recurses := true, plainKeys := false, apart := false }
def ShortLeastSaid : Prop := shortLeastRow.holds Tryz.pinned (OpenSpec.ofChange shortLeastSpec)

/-- ITS FALSE NEIGHBOUR: 'it returns false'. Refute it at one input. -/
def shortLeastWrong : ChangeSpec := { name := "shortLeast", fn := fun _ => fun
  | [d1, d2] => { results := [.lit (.bool false)], args := [d1, d2] }
  | _ => none }
def ShortLeastWrongFalsely : Prop := shortLeastRow.holds Tryz.pinned (OpenSpec.ofChange shortLeastWrong)

/-- 'contangolaw08.ShortMerged': WHATEVER THE INPUT: true; the input reads as it did. -/
def shortMergedSpec : ChangeSpec := { name := "shortMerged", fn := fun _ => fun
  | [d1, d2, d3, d4] => { results := [.lit (.bool true)], args := [d1, d2, d3, d4] }
  | _ => none }
def shortMergedRow : OpenClaim := { program := "ytaokpncjemkhcaagreat", sum := "798a74f3be18f2699534913fb77af3ce092857b46e5d5ada880958d948ee2dd2", func := "contango/contangolaw08.ShortMerged", spec := "shortMerged", unfollowed := true, recurses := true, plainKeys := false, apart := false }
def ShortMergedSaid : Prop := shortMergedRow.holds Tryz.pinned (OpenSpec.ofChange shortMergedSpec)

/-- ITS FALSE NEIGHBOUR: 'it returns false'. Refute it at one input. -/
def shortMergedWrong : ChangeSpec := { name := "shortMerged", fn := fun _ => fun
  | [d1, d2, d3, d4] => { results := [.lit (.bool false)], args := [d1, d2, d3, d4] }
  | _ => none }
def ShortMergedWrongFalsely : Prop := shortMergedRow.holds Tryz.pinned (OpenSpec.ofChange shortMergedWrong)

/-- 'contangolaw08.ShortBest': WHATEVER THE INPUT: true; the input reads as it did. -/
def shortBestSpec : ChangeSpec := { name := "shortBest", fn := fun _ => fun
  | [d1, d2, d3, d4] => { results := [.lit (.bool true)], args := [d1, d2, d3, d4] }
  | _ => none }
def shortBestRow : OpenClaim := { program := "ytaokpncjemkhcaagreat", sum := "798a74f3be18f2699534913fb77af3ce092857b46e5d5ada880958d948ee2dd2", func := "contango/contangolaw08.ShortBest", spec := "shortBest", unfollowed := true, recurses := true, plainKeys := false, apart := false }
def ShortBestSaid : Prop := shortBestRow.holds Tryz.pinned (OpenSpec.ofChange shortBestSpec)

/-- ITS FALSE NEIGHBOUR: 'it returns false'. Refute it at one input. -/
def shortBestWrong : ChangeSpec := { name := "shortBest", fn := fun _ => fun
  | [d1, d2, d3, d4] => { results := [.lit (.bool false)], args := [d1, d2, d3, d4] }
  | _ => none }
def ShortBestWrongFalsely : Prop := shortBestRow.holds Tryz.pinned (OpenSpec.ofChange shortBestWrong)

/-- 'contangolaw08.ShortNames': WHATEVER THE INPUT: true; the input reads as it did. -/
def shortNamesSpec : ChangeSpec := { name := "shortNames", fn := fun _ => fun
  | [] => { results := [.lit (.bool true)], args := [] }
  | _ => none }
def shortNamesRow : OpenClaim := { program := "ytaokpncjemkhcaagreat", sum := "798a74f3be18f2699534913fb77af3ce092857b46e5d5ada880958d948ee2dd2", func := "contango/contangolaw08.ShortNames", spec := "shortNames", unfollowed := true, recurses := true, plainKeys := false, apart := false }
def ShortNamesSaid : Prop := shortNamesRow.holds Tryz.pinned (OpenSpec.ofChange shortNamesSpec)

/-- ITS FALSE NEIGHBOUR: 'it returns false'. Refute it at one input. -/
def shortNamesWrong : ChangeSpec := { name := "shortNames", fn := fun _ => fun
  | [] => { results := [.lit (.bool false)], args := [] }
  | _ => none }
def ShortNamesWrongFalsely : Prop := shortNamesRow.holds Tryz.pinned (OpenSpec.ofChange shortNamesWrong)

/-- 'contangolaw08.ShortNone': WHATEVER THE INPUT: true; the input reads as it did. -/
def shortNoneSpec : ChangeSpec := { name := "shortNone", fn := fun _ => fun
  | [d1, d2, d3] => { results := [.lit (.bool true)], args := [d1, d2, d3] }
  | _ => none }
def shortNoneRow : OpenClaim := { program := "ytaokpncjemkhcaagreat", sum := "798a74f3be18f2699534913fb77af3ce092857b46e5d5ada880958d948ee2dd2", func := "contango/contangolaw08.ShortNone", spec := "shortNone", unfollowed := true, recurses := true, plainKeys := false, apart := false }
def ShortNoneSaid : Prop := shortNoneRow.holds Tryz.pinned (OpenSpec.ofChange shortNoneSpec)

/-- ITS FALSE NEIGHBOUR: 'it returns false'. Refute it at one input. -/
def shortNoneWrong : ChangeSpec := { name := "shortNone", fn := fun _ => fun
  | [d1, d2, d3] => { results := [.lit (.bool false)], args := [d1, d2, d3] }
  | _ => none }
def ShortNoneWrongFalsely : Prop := shortNoneRow.holds Tryz.pinned (OpenSpec.ofChange shortNoneWrong)

/-- 'contangolaw08.ShortTruth': WHATEVER THE INPUT: true; the input reads as it did. -/
def shortTruthSpec : ChangeSpec := { name := "shortTruth", fn := fun _ => fun
  | [d1, d2, d3] => { results := [.lit (.bool true)], args := [d1, d2, d3] }
  | _ => none }
def shortTruthRow : OpenClaim := { program := "ytaokpncjemkhcaagreat", sum := "798a74f3be18f2699534913fb77af3ce092857b46e5d5ada880958d948ee2dd2", func := "contango/contangolaw08.ShortTruth", spec := "shortTruth", unfollowed := true, recurses := true, plainKeys := false, apart := false }
def ShortTruthSaid : Prop := shortTruthRow.holds Tryz.pinned (OpenSpec.ofChange shortTruthSpec)

/-- ITS FALSE NEIGHBOUR: 'it returns false'. Refute it at one input. -/
def shortTruthWrong : ChangeSpec := { name := "shortTruth", fn := fun _ => fun
  | [d1, d2, d3] => { results := [.lit (.bool false)], args := [d1, d2, d3] }
  | _ => none }
def ShortTruthWrongFalsely : Prop := shortTruthRow.holds Tryz.pinned (OpenSpec.ofChange shortTruthWrong)

/- THE SECOND FORM. 'bulk': how many values and letters a reading holds, each counted each time it is reached (what is shared counts as often as it is met; a slice's spare places count too). A statement '..UptoSaid' is the law's where the arguments, and the package variables that the reading takes, are together of bulk at most 1048576: NARROWER than '..Said'. Prove '..Said' where nothing that the law and all that it calls make is longer than what came in: it says more and counts as full. Else prove '..UptoSaid'. A law counts once. -/
mutual
def uptoBulk {H : Type} : DataW H → Nat
  | .lit (.string bytes) => bytes.length + 1
  | .lit _ => 1
  | .nil => 1
  | .ptr d => uptoBulk d + 1
  | .slice elems spare => uptoBulkAll elems + uptoBulkAll spare + 1
  | .agg parts => uptoBulkAll parts + 1
  | .iface _ d => uptoBulk d + 1
  | .map entries => uptoBulkEntries entries + 1
  | .held _ => 1
def uptoBulkAll {H : Type} : List (DataW H) → Nat
  | [] => 0
  | d :: r => uptoBulk d + uptoBulkAll r
def uptoBulkEntries {H : Type} : List (Lit × DataW H) → Nat
  | [] => 0
  | x :: r => uptoBulkEntry x + uptoBulkEntries r
def uptoBulkEntry {H : Type} : Lit × DataW H → Nat
  | (.string bytes, d) => bytes.length + uptoBulk d + 1
  | (_, d) => uptoBulk d + 1
 end
def uptoSmall : (H : Type) → List (DataW H) → Bool := fun _ ds => decide (uptoBulkAll ds ≤ 1048576)
def OpenSpec.upto (s : _root_.Go.ChangeSpec) : _root_.Go.OpenSpec := { _root_.Go.OpenSpec.ofChange s with cond := some uptoSmall }

/-- 'contangotop.TopHanded', WHERE WHAT IT READS IS OF BULK AT MOST 1048576: true; the input reads as it did. -/
def topHandedUptoRow : OpenClaim := { program := "ytaokpncjemkhcaagreat", sum := "798a74f3be18f2699534913fb77af3ce092857b46e5d5ada880958d948ee2dd2", func := "contango/contangotop.TopHanded", spec := "topHanded", unfollowed := true, recurses := true, plainKeys := false, apart := false, narrowed := true }
def TopHandedUptoSaid : Prop := topHandedUptoRow.holds Tryz.pinned (OpenSpec.upto topHandedSpec)

/-- 'contangolaw08.ShortHands', WHERE WHAT IT READS IS OF BULK AT MOST 1048576: true; the input reads as it did. -/
def shortHandsUptoRow : OpenClaim := { program := "ytaokpncjemkhcaagreat", sum := "798a74f3be18f2699534913fb77af3ce092857b46e5d5ada880958d948ee2dd2", func := "contango/contangolaw08.ShortHands", spec := "shortHands", unfollowed := true, recurses := true, plainKeys := false, apart := false, narrowed := true }
def ShortHandsUptoSaid : Prop := shortHandsUptoRow.holds Tryz.pinned (OpenSpec.upto shortHandsSpec)

/-- 'contangolaw08.ShortBuyIns', WHERE WHAT IT READS IS OF BULK AT MOST 1048576: true; the input reads as it did. -/
def shortBuyInsUptoRow : OpenClaim := { program := "ytaokpncjemkhcaagreat", sum := "798a74f3be18f2699534913fb77af3ce092857b46e5d5ada880958d948ee2dd2", func := "contango/contangolaw08.ShortBuyIns", spec := "shortBuyIns", unfollowed := true, recurses := true, plainKeys := false, apart := false, narrowed := true }
def ShortBuyInsUptoSaid : Prop := shortBuyInsUptoRow.holds Tryz.pinned (OpenSpec.upto shortBuyInsSpec)

/-- 'contangolaw08.ShortEnough', WHERE WHAT IT READS IS OF BULK AT MOST 1048576: true; the input reads as it did. -/
def shortEnoughUptoRow : OpenClaim := { program := "ytaokpncjemkhcaagreat", sum := "798a74f3be18f2699534913fb77af3ce092857b46e5d5ada880958d948ee2dd2", func := "contango/contangolaw08.ShortEnough", spec := "shortEnough", unfollowed := true, recurses := true, plainKeys := false, apart := false, narrowed := true }
def ShortEnoughUptoSaid : Prop := shortEnoughUptoRow.holds Tryz.pinned (OpenSpec.upto shortEnoughSpec)

/-- 'contangolaw08.ShortMore', WHERE WHAT IT READS IS OF BULK AT MOST 1048576: true; the input reads as it did. -/
def shortMoreUptoRow : OpenClaim := { program := "ytaokpncjemkhcaagreat", sum := "798a74f3be18f2699534913fb77af3ce092857b46e5d5ada880958d948ee2dd2", func := "contango/contangolaw08.ShortMore", spec := "shortMore", unfollowed := true, recurses := true, plainKeys := false, apart := false, narrowed := true }
def ShortMoreUptoSaid : Prop := shortMoreUptoRow.holds Tryz.pinned (OpenSpec.upto shortMoreSpec)

/-- 'contangolaw08.ShortRings', WHERE WHAT IT READS IS OF BULK AT MOST 1048576: true; the input reads as it did. -/
def shortRingsUptoRow : OpenClaim := { program := "ytaokpncjemkhcaagreat", sum := "798a74f3be18f2699534913fb77af3ce092857b46e5d5ada880958d948ee2dd2", func := "contango/contangolaw08.ShortRings", spec := "shortRings", unfollowed := true, recurses := true, plainKeys := false, apart := false, narrowed := true }
def ShortRingsUptoSaid : Prop := shortRingsUptoRow.holds Tryz.pinned (OpenSpec.upto shortRingsSpec)

/-- 'contangolaw08.ShortVerdicts', WHERE WHAT IT READS IS OF BULK AT MOST 1048576: true; the input reads as it did. -/
def shortVerdictsUptoRow : OpenClaim := { program := "ytaokpncjemkhcaagreat", sum := "798a74f3be18f2699534913fb77af3ce092857b46e5d5ada880958d948ee2dd2", func := "contango/contangolaw08.ShortVerdicts", spec := "shortVerdicts", unfollowed := true, recurses := true, plainKeys := false, apart := false, narrowed := true }
def ShortVerdictsUptoSaid : Prop := shortVerdictsUptoRow.holds Tryz.pinned (OpenSpec.upto shortVerdictsSpec)

/-- 'contangolaw08.ShortLeast', WHERE WHAT IT READS IS OF BULK AT MOST 1048576: true; the input reads as it did. -/
def shortLeastUptoRow : OpenClaim := { program := "ytaokpncjemkhcaagreat", sum := "798a74f3be18f2699534913fb77af3ce092857b46e5d5ada880958d948ee2dd2", func := "contango/contangolaw08.ShortLeast", spec := "shortLeast", unfollowed := true, recurses := true, plainKeys := false, apart := false, narrowed := true }
def ShortLeastUptoSaid : Prop := shortLeastUptoRow.holds Tryz.pinned (OpenSpec.upto shortLeastSpec)

/-- 'contangolaw08.ShortMerged', WHERE WHAT IT READS IS OF BULK AT MOST 1048576: true; the input reads as it did. -/
def shortMergedUptoRow : OpenClaim := { program := "ytaokpncjemkhcaagreat", sum := "798a74f3be18f2699534913fb77af3ce092857b46e5d5ada880958d948ee2dd2", func := "contango/contangolaw08.ShortMerged", spec := "shortMerged", unfollowed := true, recurses := true, plainKeys := false, apart := false, narrowed := true }
def ShortMergedUptoSaid : Prop := shortMergedUptoRow.holds Tryz.pinned (OpenSpec.upto shortMergedSpec)

/-- 'contangolaw08.ShortBest', WHERE WHAT IT READS IS OF BULK AT MOST 1048576: true; the input reads as it did. -/
def shortBestUptoRow : OpenClaim := { program := "ytaokpncjemkhcaagreat", sum := "798a74f3be18f2699534913fb77af3ce092857b46e5d5ada880958d948ee2dd2", func := "contango/contangolaw08.ShortBest", spec := "shortBest", unfollowed := true, recurses := true, plainKeys := false, apart := false, narrowed := true }
def ShortBestUptoSaid : Prop := shortBestUptoRow.holds Tryz.pinned (OpenSpec.upto shortBestSpec)

/-- 'contangolaw08.ShortNames', WHERE WHAT IT READS IS OF BULK AT MOST 1048576: true; the input reads as it did. -/
def shortNamesUptoRow : OpenClaim := { program := "ytaokpncjemkhcaagreat", sum := "798a74f3be18f2699534913fb77af3ce092857b46e5d5ada880958d948ee2dd2", func := "contango/contangolaw08.ShortNames", spec := "shortNames", unfollowed := true, recurses := true, plainKeys := false, apart := false, narrowed := true }
def ShortNamesUptoSaid : Prop := shortNamesUptoRow.holds Tryz.pinned (OpenSpec.upto shortNamesSpec)

/-- 'contangolaw08.ShortNone', WHERE WHAT IT READS IS OF BULK AT MOST 1048576: true; the input reads as it did. -/
def shortNoneUptoRow : OpenClaim := { program := "ytaokpncjemkhcaagreat", sum := "798a74f3be18f2699534913fb77af3ce092857b46e5d5ada880958d948ee2dd2", func := "contango/contangolaw08.ShortNone", spec := "shortNone", unfollowed := true, recurses := true, plainKeys := false, apart := false, narrowed := true }
def ShortNoneUptoSaid : Prop := shortNoneUptoRow.holds Tryz.pinned (OpenSpec.upto shortNoneSpec)

/-- 'contangolaw08.ShortTruth', WHERE WHAT IT READS IS OF BULK AT MOST 1048576: true; the input reads as it did. -/
def shortTruthUptoRow : OpenClaim := { program := "ytaokpncjemkhcaagreat", sum := "798a74f3be18f2699534913fb77af3ce092857b46e5d5ada880958d948ee2dd2", func := "contango/contangolaw08.ShortTruth", spec := "shortTruth", unfollowed := true, recurses := true, plainKeys := false, apart := false, narrowed := true }
def ShortTruthUptoSaid : Prop := shortTruthUptoRow.holds Tryz.pinned (OpenSpec.upto shortTruthSpec)

end Rows
end Go.Proofs.YtaokpncjemkhcaaGreat
