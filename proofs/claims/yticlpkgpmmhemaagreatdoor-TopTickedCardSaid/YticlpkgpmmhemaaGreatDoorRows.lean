/-
  NARROWER THAN 'FOR EVERY INPUT', by the rows' own cells (each row's printed sentence says how): TopShown: laid · TopTicked: laid · OddSales: laid · OddBounds: laid · OddTruth: laid · OddEnds: laid · OddFee: laid · OddLimit: laid · OddMore: laid · OddPair: laid · OddWider: laid · OddSum: laid · OddPlays: laid · OddNames: laid.
  DERIVED. THE GIVEN ROWS OF THIS SEAT. 14 by the template 'for every input the law returns true; each argument reads behind the call as it read before'; 0 by the template 'total and deterministic' (their statements: YticlpkgpmmhemaaGreatDoorTotals.lean).
  GIVEN WITH THE SEED: the statements are not yours to turn. If you find one false, say at which input.
  Laid BY PROGRAM, IN A SANDBOX (cutbox-rows.mjs): the forced cells as the released guide's own fill.sh prints them over the translation 33ce3c6f6110a1a5… (all of the seat's roots in one cut). By AI agents, Wed Nov 11 2026. No macro, syntax, notation, axiom, sorry.
-/
import Derived.Test.YticlpkgpmmhemaaGreatDoorChecked
import GoSem.Claim
import GoSem.ClaimJoined
import GoSem.ClaimMapViews
import Derived.JoinedTies
import Derived.KernelRfl
namespace Go.Proofs.YticlpkgpmmhemaaGreatDoor
/- THE CELL 'sum', in the pinned program and in every row, IS THE sha256 OF THE DUMP (.gsa) THAT YticlpkgpmmhemaaGreatDoorProg.lean LOADS. Nothing in Lean hashes anything: it is a label: what it is worth is what the hold of that sum in a sandbox is worth. -/
noncomputable def Tryz.pinned : Pinned := { name := "yticlpkgpmmhemaagreatdoor", sum := "33ce3c6f6110a1a5c9a2d92f741e08359056f2fded1c7ad1c6f127cce638b763", checked := Tryz.checked }
namespace Rows
def none {H : Type} : Left H := { results := [], args := [] }

/- WHAT THE LISTED PACKAGE-LEVEL VARIABLES READ AS WHEN THE CALL BEGINS. Each datum BY PROGRAM (the guide's laid-datum.mjs) off the statement by which the dump's own 'gosem.cut.vars' lays the variable. In a bare row this is a premise. The card (YticlpkgpmmhemaaGreatDoorCards.lean) ties it to the program's text. -/
def laid_math_bits_deBruijn32tab {H : Type} : DataW H := .agg [.lit (.int .u8 0), .lit (.int .u8 1), .lit (.int .u8 28), .lit (.int .u8 2), .lit (.int .u8 29), .lit (.int .u8 14), .lit (.int .u8 24), .lit (.int .u8 3), .lit (.int .u8 30), .lit (.int .u8 22), .lit (.int .u8 20), .lit (.int .u8 15), .lit (.int .u8 25), .lit (.int .u8 17), .lit (.int .u8 4), .lit (.int .u8 8), .lit (.int .u8 31), .lit (.int .u8 27), .lit (.int .u8 13), .lit (.int .u8 23), .lit (.int .u8 21), .lit (.int .u8 19), .lit (.int .u8 16), .lit (.int .u8 7), .lit (.int .u8 26), .lit (.int .u8 12), .lit (.int .u8 18), .lit (.int .u8 6), .lit (.int .u8 11), .lit (.int .u8 5), .lit (.int .u8 10), .lit (.int .u8 9)]
def laid_math_bits_deBruijn64tab {H : Type} : DataW H := .agg [.lit (.int .u8 0), .lit (.int .u8 1), .lit (.int .u8 56), .lit (.int .u8 2), .lit (.int .u8 57), .lit (.int .u8 49), .lit (.int .u8 28), .lit (.int .u8 3), .lit (.int .u8 61), .lit (.int .u8 58), .lit (.int .u8 42), .lit (.int .u8 50), .lit (.int .u8 38), .lit (.int .u8 29), .lit (.int .u8 17), .lit (.int .u8 4), .lit (.int .u8 62), .lit (.int .u8 47), .lit (.int .u8 59), .lit (.int .u8 36), .lit (.int .u8 45), .lit (.int .u8 43), .lit (.int .u8 51), .lit (.int .u8 22), .lit (.int .u8 53), .lit (.int .u8 39), .lit (.int .u8 33), .lit (.int .u8 30), .lit (.int .u8 24), .lit (.int .u8 18), .lit (.int .u8 12), .lit (.int .u8 5), .lit (.int .u8 63), .lit (.int .u8 55), .lit (.int .u8 48), .lit (.int .u8 27), .lit (.int .u8 60), .lit (.int .u8 41), .lit (.int .u8 37), .lit (.int .u8 16), .lit (.int .u8 46), .lit (.int .u8 35), .lit (.int .u8 44), .lit (.int .u8 21), .lit (.int .u8 52), .lit (.int .u8 32), .lit (.int .u8 23), .lit (.int .u8 11), .lit (.int .u8 54), .lit (.int .u8 26), .lit (.int .u8 40), .lit (.int .u8 15), .lit (.int .u8 34), .lit (.int .u8 20), .lit (.int .u8 31), .lit (.int .u8 10), .lit (.int .u8 25), .lit (.int .u8 14), .lit (.int .u8 19), .lit (.int .u8 9), .lit (.int .u8 13), .lit (.int .u8 8), .lit (.int .u8 7), .lit (.int .u8 6)]
def laid_internal_strconv_uint64pow10 {H : Type} : DataW H := .agg [.lit (.int .u64 1), .lit (.int .u64 10), .lit (.int .u64 100), .lit (.int .u64 1000), .lit (.int .u64 10000), .lit (.int .u64 100000), .lit (.int .u64 1000000), .lit (.int .u64 10000000), .lit (.int .u64 100000000), .lit (.int .u64 1000000000), .lit (.int .u64 10000000000), .lit (.int .u64 100000000000), .lit (.int .u64 1000000000000), .lit (.int .u64 10000000000000), .lit (.int .u64 100000000000000), .lit (.int .u64 1000000000000000), .lit (.int .u64 10000000000000000), .lit (.int .u64 100000000000000000), .lit (.int .u64 1000000000000000000), .lit (.int .u64 10000000000000000000)]
def laid_strconv_ErrRange {H : Type} : DataW H := .iface "*errors.errorString" (.ptr (.agg [.lit (.string [118, 97, 108, 117, 101, 32, 111, 117, 116, 32, 111, 102, 32, 114, 97, 110, 103, 101])]))
def laid_strconv_ErrSyntax {H : Type} : DataW H := .iface "*errors.errorString" (.ptr (.agg [.lit (.string [105, 110, 118, 97, 108, 105, 100, 32, 115, 121, 110, 116, 97, 120])]))

/-- 'contangotop.TopShown': WHATEVER THE INPUT: true; the input reads as it did. -/
def topShownSpec : ChangeSpec := { name := "topShown", fn := fun _ => fun
  | [d1, d2] => { results := [.lit (.bool true)], args := [d1, d2] }
  | _ => none }
def topShownRow : OpenClaim := { program := "yticlpkgpmmhemaagreatdoor", sum := "33ce3c6f6110a1a5c9a2d92f741e08359056f2fded1c7ad1c6f127cce638b763", func := "contango/contangotop.TopShown", spec := "topShown", inPlace := ["internal/bytealg.IndexByteString", "internal/bytealg.IndexString"], unfollowed := true, recurses := true, named := ["internal/bytealg.MaxLen", "strconv.ErrSyntax", "strconv.ErrRange", "internal/strconv.uint64pow10", "math/bits.deBruijn32tab", "math/bits.deBruijn64tab"], plainKeys := false, apart := false, laid := [("math/bits.deBruijn32tab", laid_math_bits_deBruijn32tab), ("math/bits.deBruijn64tab", laid_math_bits_deBruijn64tab), ("internal/strconv.uint64pow10", laid_internal_strconv_uint64pow10), ("strconv.ErrRange", laid_strconv_ErrRange), ("strconv.ErrSyntax", laid_strconv_ErrSyntax)] }
def TopShownSaid : Prop := topShownRow.holds Tryz.pinned (OpenSpec.ofChange topShownSpec)

/-- ITS FALSE NEIGHBOUR: 'it returns false'. Refute it at one input. -/
def topShownWrong : ChangeSpec := { name := "topShown", fn := fun _ => fun
  | [d1, d2] => { results := [.lit (.bool false)], args := [d1, d2] }
  | _ => none }
def TopShownWrongFalsely : Prop := topShownRow.holds Tryz.pinned (OpenSpec.ofChange topShownWrong)

/-- 'contangotop.TopTicked': WHATEVER THE INPUT: true; the input reads as it did. -/
def topTickedSpec : ChangeSpec := { name := "topTicked", fn := fun _ => fun
  | [d1, d2, d3, d4] => { results := [.lit (.bool true)], args := [d1, d2, d3, d4] }
  | _ => none }
def topTickedRow : OpenClaim := { program := "yticlpkgpmmhemaagreatdoor", sum := "33ce3c6f6110a1a5c9a2d92f741e08359056f2fded1c7ad1c6f127cce638b763", func := "contango/contangotop.TopTicked", spec := "topTicked", inPlace := ["internal/abi.NoEscape", "internal/bytealg.MakeNoZero", "internal/bytealg.IndexByteString", "internal/bytealg.IndexString"], unfollowed := true, recurses := true, named := ["internal/strconv.uint64pow10", "math/bits.deBruijn32tab", "math/bits.deBruijn64tab", "internal/bytealg.MaxLen", "strconv.ErrSyntax", "strconv.ErrRange"], plainKeys := false, apart := false, laid := [("math/bits.deBruijn32tab", laid_math_bits_deBruijn32tab), ("math/bits.deBruijn64tab", laid_math_bits_deBruijn64tab), ("internal/strconv.uint64pow10", laid_internal_strconv_uint64pow10), ("strconv.ErrRange", laid_strconv_ErrRange), ("strconv.ErrSyntax", laid_strconv_ErrSyntax)] }
def TopTickedSaid : Prop := topTickedRow.holds Tryz.pinned (OpenSpec.ofChange topTickedSpec)

/-- ITS FALSE NEIGHBOUR: 'it returns false'. Refute it at one input. -/
def topTickedWrong : ChangeSpec := { name := "topTicked", fn := fun _ => fun
  | [d1, d2, d3, d4] => { results := [.lit (.bool false)], args := [d1, d2, d3, d4] }
  | _ => none }
def TopTickedWrongFalsely : Prop := topTickedRow.holds Tryz.pinned (OpenSpec.ofChange topTickedWrong)

/-- 'contangolaw04.OddSales': WHATEVER THE INPUT: true; the input reads as it did. -/
def oddSalesSpec : ChangeSpec := { name := "oddSales", fn := fun _ => fun
  | [d1, d2] => { results := [.lit (.bool true)], args := [d1, d2] }
  | _ => none }
def oddSalesRow : OpenClaim := { program := "yticlpkgpmmhemaagreatdoor", sum := "33ce3c6f6110a1a5c9a2d92f741e08359056f2fded1c7ad1c6f127cce638b763", func := "contango/contangolaw04.OddSales", spec := "oddSales", inPlace := ["internal/bytealg.IndexByteString", "internal/bytealg.IndexString"], unfollowed := true, recurses := true, named := ["internal/bytealg.MaxLen", "strconv.ErrSyntax", "strconv.ErrRange", "internal/strconv.uint64pow10", "math/bits.deBruijn32tab", "math/bits.deBruijn64tab"], plainKeys := false, apart := false, laid := [("math/bits.deBruijn32tab", laid_math_bits_deBruijn32tab), ("math/bits.deBruijn64tab", laid_math_bits_deBruijn64tab), ("internal/strconv.uint64pow10", laid_internal_strconv_uint64pow10), ("strconv.ErrRange", laid_strconv_ErrRange), ("strconv.ErrSyntax", laid_strconv_ErrSyntax)] }
def OddSalesSaid : Prop := oddSalesRow.holds Tryz.pinned (OpenSpec.ofChange oddSalesSpec)

/-- ITS FALSE NEIGHBOUR: 'it returns false'. Refute it at one input. -/
def oddSalesWrong : ChangeSpec := { name := "oddSales", fn := fun _ => fun
  | [d1, d2] => { results := [.lit (.bool false)], args := [d1, d2] }
  | _ => none }
def OddSalesWrongFalsely : Prop := oddSalesRow.holds Tryz.pinned (OpenSpec.ofChange oddSalesWrong)

/-- 'contangolaw04.OddBounds': WHATEVER THE INPUT: true; the input reads as it did. -/
def oddBoundsSpec : ChangeSpec := { name := "oddBounds", fn := fun _ => fun
  | [d1, d2, d3] => { results := [.lit (.bool true)], args := [d1, d2, d3] }
  | _ => none }
def oddBoundsRow : OpenClaim := { program := "yticlpkgpmmhemaagreatdoor", sum := "33ce3c6f6110a1a5c9a2d92f741e08359056f2fded1c7ad1c6f127cce638b763", func := "contango/contangolaw04.OddBounds", spec := "oddBounds", inPlace := ["internal/bytealg.IndexByteString", "internal/bytealg.IndexString"], unfollowed := true, recurses := true, named := ["internal/bytealg.MaxLen", "strconv.ErrSyntax", "strconv.ErrRange", "internal/strconv.uint64pow10", "math/bits.deBruijn32tab", "math/bits.deBruijn64tab"], plainKeys := false, apart := false, laid := [("math/bits.deBruijn32tab", laid_math_bits_deBruijn32tab), ("math/bits.deBruijn64tab", laid_math_bits_deBruijn64tab), ("internal/strconv.uint64pow10", laid_internal_strconv_uint64pow10), ("strconv.ErrRange", laid_strconv_ErrRange), ("strconv.ErrSyntax", laid_strconv_ErrSyntax)] }
def OddBoundsSaid : Prop := oddBoundsRow.holds Tryz.pinned (OpenSpec.ofChange oddBoundsSpec)

/-- ITS FALSE NEIGHBOUR: 'it returns false'. Refute it at one input. -/
def oddBoundsWrong : ChangeSpec := { name := "oddBounds", fn := fun _ => fun
  | [d1, d2, d3] => { results := [.lit (.bool false)], args := [d1, d2, d3] }
  | _ => none }
def OddBoundsWrongFalsely : Prop := oddBoundsRow.holds Tryz.pinned (OpenSpec.ofChange oddBoundsWrong)

/-- 'contangolaw04.OddTruth': WHATEVER THE INPUT: true; the input reads as it did. -/
def oddTruthSpec : ChangeSpec := { name := "oddTruth", fn := fun _ => fun
  | [d1, d2] => { results := [.lit (.bool true)], args := [d1, d2] }
  | _ => none }
def oddTruthRow : OpenClaim := { program := "yticlpkgpmmhemaagreatdoor", sum := "33ce3c6f6110a1a5c9a2d92f741e08359056f2fded1c7ad1c6f127cce638b763", func := "contango/contangolaw04.OddTruth", spec := "oddTruth", inPlace := ["internal/bytealg.IndexByteString", "internal/bytealg.IndexString"], unfollowed := true, recurses := true, named := ["internal/bytealg.MaxLen", "strconv.ErrSyntax", "strconv.ErrRange", "internal/strconv.uint64pow10", "math/bits.deBruijn32tab", "math/bits.deBruijn64tab"], plainKeys := false, apart := false, laid := [("math/bits.deBruijn32tab", laid_math_bits_deBruijn32tab), ("math/bits.deBruijn64tab", laid_math_bits_deBruijn64tab), ("internal/strconv.uint64pow10", laid_internal_strconv_uint64pow10), ("strconv.ErrRange", laid_strconv_ErrRange), ("strconv.ErrSyntax", laid_strconv_ErrSyntax)] }
def OddTruthSaid : Prop := oddTruthRow.holds Tryz.pinned (OpenSpec.ofChange oddTruthSpec)

/-- ITS FALSE NEIGHBOUR: 'it returns false'. Refute it at one input. -/
def oddTruthWrong : ChangeSpec := { name := "oddTruth", fn := fun _ => fun
  | [d1, d2] => { results := [.lit (.bool false)], args := [d1, d2] }
  | _ => none }
def OddTruthWrongFalsely : Prop := oddTruthRow.holds Tryz.pinned (OpenSpec.ofChange oddTruthWrong)

/-- 'contangolaw04.OddEnds': WHATEVER THE INPUT: true; the input reads as it did. -/
def oddEndsSpec : ChangeSpec := { name := "oddEnds", fn := fun _ => fun
  | [d1, d2, d3, d4] => { results := [.lit (.bool true)], args := [d1, d2, d3, d4] }
  | _ => none }
def oddEndsRow : OpenClaim := { program := "yticlpkgpmmhemaagreatdoor", sum := "33ce3c6f6110a1a5c9a2d92f741e08359056f2fded1c7ad1c6f127cce638b763", func := "contango/contangolaw04.OddEnds", spec := "oddEnds", inPlace := ["internal/bytealg.IndexByteString", "internal/bytealg.IndexString"], unfollowed := true, recurses := true, named := ["internal/bytealg.MaxLen", "strconv.ErrSyntax", "strconv.ErrRange", "internal/strconv.uint64pow10", "math/bits.deBruijn32tab", "math/bits.deBruijn64tab"], plainKeys := false, apart := false, laid := [("math/bits.deBruijn32tab", laid_math_bits_deBruijn32tab), ("math/bits.deBruijn64tab", laid_math_bits_deBruijn64tab), ("internal/strconv.uint64pow10", laid_internal_strconv_uint64pow10), ("strconv.ErrRange", laid_strconv_ErrRange), ("strconv.ErrSyntax", laid_strconv_ErrSyntax)] }
def OddEndsSaid : Prop := oddEndsRow.holds Tryz.pinned (OpenSpec.ofChange oddEndsSpec)

/-- ITS FALSE NEIGHBOUR: 'it returns false'. Refute it at one input. -/
def oddEndsWrong : ChangeSpec := { name := "oddEnds", fn := fun _ => fun
  | [d1, d2, d3, d4] => { results := [.lit (.bool false)], args := [d1, d2, d3, d4] }
  | _ => none }
def OddEndsWrongFalsely : Prop := oddEndsRow.holds Tryz.pinned (OpenSpec.ofChange oddEndsWrong)

/-- 'contangolaw04.OddFee': WHATEVER THE INPUT: true; the input reads as it did. -/
def oddFeeSpec : ChangeSpec := { name := "oddFee", fn := fun _ => fun
  | [d1, d2] => { results := [.lit (.bool true)], args := [d1, d2] }
  | _ => none }
def oddFeeRow : OpenClaim := { program := "yticlpkgpmmhemaagreatdoor", sum := "33ce3c6f6110a1a5c9a2d92f741e08359056f2fded1c7ad1c6f127cce638b763", func := "contango/contangolaw04.OddFee", spec := "oddFee", inPlace := ["internal/bytealg.IndexByteString", "internal/bytealg.IndexString"], unfollowed := true, recurses := true, named := ["internal/bytealg.MaxLen", "strconv.ErrSyntax", "strconv.ErrRange", "internal/strconv.uint64pow10", "math/bits.deBruijn32tab", "math/bits.deBruijn64tab"], plainKeys := false, apart := false, laid := [("math/bits.deBruijn32tab", laid_math_bits_deBruijn32tab), ("math/bits.deBruijn64tab", laid_math_bits_deBruijn64tab), ("internal/strconv.uint64pow10", laid_internal_strconv_uint64pow10), ("strconv.ErrRange", laid_strconv_ErrRange), ("strconv.ErrSyntax", laid_strconv_ErrSyntax)] }
def OddFeeSaid : Prop := oddFeeRow.holds Tryz.pinned (OpenSpec.ofChange oddFeeSpec)

/-- ITS FALSE NEIGHBOUR: 'it returns false'. Refute it at one input. -/
def oddFeeWrong : ChangeSpec := { name := "oddFee", fn := fun _ => fun
  | [d1, d2] => { results := [.lit (.bool false)], args := [d1, d2] }
  | _ => none }
def OddFeeWrongFalsely : Prop := oddFeeRow.holds Tryz.pinned (OpenSpec.ofChange oddFeeWrong)

/-- 'contangolaw04.OddLimit': WHATEVER THE INPUT: true; the input reads as it did. -/
def oddLimitSpec : ChangeSpec := { name := "oddLimit", fn := fun _ => fun
  | [d1, d2, d3, d4] => { results := [.lit (.bool true)], args := [d1, d2, d3, d4] }
  | _ => none }
def oddLimitRow : OpenClaim := { program := "yticlpkgpmmhemaagreatdoor", sum := "33ce3c6f6110a1a5c9a2d92f741e08359056f2fded1c7ad1c6f127cce638b763", func := "contango/contangolaw04.OddLimit", spec := "oddLimit", inPlace := ["internal/bytealg.IndexByteString", "internal/bytealg.IndexString"], unfollowed := true, recurses := true, named := ["internal/bytealg.MaxLen", "strconv.ErrSyntax", "strconv.ErrRange", "internal/strconv.uint64pow10", "math/bits.deBruijn32tab", "math/bits.deBruijn64tab"], plainKeys := false, apart := false, laid := [("math/bits.deBruijn32tab", laid_math_bits_deBruijn32tab), ("math/bits.deBruijn64tab", laid_math_bits_deBruijn64tab), ("internal/strconv.uint64pow10", laid_internal_strconv_uint64pow10), ("strconv.ErrRange", laid_strconv_ErrRange), ("strconv.ErrSyntax", laid_strconv_ErrSyntax)] }
def OddLimitSaid : Prop := oddLimitRow.holds Tryz.pinned (OpenSpec.ofChange oddLimitSpec)

/-- ITS FALSE NEIGHBOUR: 'it returns false'. Refute it at one input. -/
def oddLimitWrong : ChangeSpec := { name := "oddLimit", fn := fun _ => fun
  | [d1, d2, d3, d4] => { results := [.lit (.bool false)], args := [d1, d2, d3, d4] }
  | _ => none }
def OddLimitWrongFalsely : Prop := oddLimitRow.holds Tryz.pinned (OpenSpec.ofChange oddLimitWrong)

/-- 'contangolaw04.OddMore': WHATEVER THE INPUT: true; the input reads as it did. -/
def oddMoreSpec : ChangeSpec := { name := "oddMore", fn := fun _ => fun
  | [d1, d2, d3, d4] => { results := [.lit (.bool true)], args := [d1, d2, d3, d4] }
  | _ => none }
def oddMoreRow : OpenClaim := { program := "yticlpkgpmmhemaagreatdoor", sum := "33ce3c6f6110a1a5c9a2d92f741e08359056f2fded1c7ad1c6f127cce638b763", func := "contango/contangolaw04.OddMore", spec := "oddMore", inPlace := ["internal/bytealg.IndexByteString", "internal/bytealg.IndexString"], unfollowed := true, recurses := true, named := ["internal/bytealg.MaxLen", "strconv.ErrSyntax", "strconv.ErrRange", "internal/strconv.uint64pow10", "math/bits.deBruijn32tab", "math/bits.deBruijn64tab"], plainKeys := false, apart := false, laid := [("math/bits.deBruijn32tab", laid_math_bits_deBruijn32tab), ("math/bits.deBruijn64tab", laid_math_bits_deBruijn64tab), ("internal/strconv.uint64pow10", laid_internal_strconv_uint64pow10), ("strconv.ErrRange", laid_strconv_ErrRange), ("strconv.ErrSyntax", laid_strconv_ErrSyntax)] }
def OddMoreSaid : Prop := oddMoreRow.holds Tryz.pinned (OpenSpec.ofChange oddMoreSpec)

/-- ITS FALSE NEIGHBOUR: 'it returns false'. Refute it at one input. -/
def oddMoreWrong : ChangeSpec := { name := "oddMore", fn := fun _ => fun
  | [d1, d2, d3, d4] => { results := [.lit (.bool false)], args := [d1, d2, d3, d4] }
  | _ => none }
def OddMoreWrongFalsely : Prop := oddMoreRow.holds Tryz.pinned (OpenSpec.ofChange oddMoreWrong)

/-- 'contangolaw04.OddPair': WHATEVER THE INPUT: true; the input reads as it did. -/
def oddPairSpec : ChangeSpec := { name := "oddPair", fn := fun _ => fun
  | [d1, d2, d3] => { results := [.lit (.bool true)], args := [d1, d2, d3] }
  | _ => none }
def oddPairRow : OpenClaim := { program := "yticlpkgpmmhemaagreatdoor", sum := "33ce3c6f6110a1a5c9a2d92f741e08359056f2fded1c7ad1c6f127cce638b763", func := "contango/contangolaw04.OddPair", spec := "oddPair", inPlace := ["internal/bytealg.IndexByteString", "internal/bytealg.IndexString"], unfollowed := true, recurses := true, named := ["internal/bytealg.MaxLen", "strconv.ErrSyntax", "strconv.ErrRange", "internal/strconv.uint64pow10", "math/bits.deBruijn32tab", "math/bits.deBruijn64tab"], plainKeys := false, apart := false, laid := [("math/bits.deBruijn32tab", laid_math_bits_deBruijn32tab), ("math/bits.deBruijn64tab", laid_math_bits_deBruijn64tab), ("internal/strconv.uint64pow10", laid_internal_strconv_uint64pow10), ("strconv.ErrRange", laid_strconv_ErrRange), ("strconv.ErrSyntax", laid_strconv_ErrSyntax)] }
def OddPairSaid : Prop := oddPairRow.holds Tryz.pinned (OpenSpec.ofChange oddPairSpec)

/-- ITS FALSE NEIGHBOUR: 'it returns false'. Refute it at one input. -/
def oddPairWrong : ChangeSpec := { name := "oddPair", fn := fun _ => fun
  | [d1, d2, d3] => { results := [.lit (.bool false)], args := [d1, d2, d3] }
  | _ => none }
def OddPairWrongFalsely : Prop := oddPairRow.holds Tryz.pinned (OpenSpec.ofChange oddPairWrong)

/-- 'contangolaw04.OddWider': WHATEVER THE INPUT: true; the input reads as it did. -/
def oddWiderSpec : ChangeSpec := { name := "oddWider", fn := fun _ => fun
  | [d1, d2, d3, d4] => { results := [.lit (.bool true)], args := [d1, d2, d3, d4] }
  | _ => none }
def oddWiderRow : OpenClaim := { program := "yticlpkgpmmhemaagreatdoor", sum := "33ce3c6f6110a1a5c9a2d92f741e08359056f2fded1c7ad1c6f127cce638b763", func := "contango/contangolaw04.OddWider", spec := "oddWider", inPlace := ["internal/bytealg.IndexByteString", "internal/bytealg.IndexString"], unfollowed := true, recurses := true, named := ["internal/bytealg.MaxLen", "strconv.ErrSyntax", "strconv.ErrRange", "internal/strconv.uint64pow10", "math/bits.deBruijn32tab", "math/bits.deBruijn64tab"], plainKeys := false, apart := false, laid := [("math/bits.deBruijn32tab", laid_math_bits_deBruijn32tab), ("math/bits.deBruijn64tab", laid_math_bits_deBruijn64tab), ("internal/strconv.uint64pow10", laid_internal_strconv_uint64pow10), ("strconv.ErrRange", laid_strconv_ErrRange), ("strconv.ErrSyntax", laid_strconv_ErrSyntax)] }
def OddWiderSaid : Prop := oddWiderRow.holds Tryz.pinned (OpenSpec.ofChange oddWiderSpec)

/-- ITS FALSE NEIGHBOUR: 'it returns false'. Refute it at one input. -/
def oddWiderWrong : ChangeSpec := { name := "oddWider", fn := fun _ => fun
  | [d1, d2, d3, d4] => { results := [.lit (.bool false)], args := [d1, d2, d3, d4] }
  | _ => none }
def OddWiderWrongFalsely : Prop := oddWiderRow.holds Tryz.pinned (OpenSpec.ofChange oddWiderWrong)

/-- 'contangolaw04.OddSum': WHATEVER THE INPUT: true; the input reads as it did. -/
def oddSumSpec : ChangeSpec := { name := "oddSum", fn := fun _ => fun
  | [d1, d2] => { results := [.lit (.bool true)], args := [d1, d2] }
  | _ => none }
def oddSumRow : OpenClaim := { program := "yticlpkgpmmhemaagreatdoor", sum := "33ce3c6f6110a1a5c9a2d92f741e08359056f2fded1c7ad1c6f127cce638b763", func := "contango/contangolaw04.OddSum", spec := "oddSum", inPlace := ["internal/bytealg.IndexByteString", "internal/bytealg.IndexString"], unfollowed := true, recurses := true, named := ["internal/bytealg.MaxLen", "strconv.ErrSyntax", "strconv.ErrRange", "internal/strconv.uint64pow10", "math/bits.deBruijn32tab", "math/bits.deBruijn64tab"], plainKeys := false, apart := false, laid := [("math/bits.deBruijn32tab", laid_math_bits_deBruijn32tab), ("math/bits.deBruijn64tab", laid_math_bits_deBruijn64tab), ("internal/strconv.uint64pow10", laid_internal_strconv_uint64pow10), ("strconv.ErrRange", laid_strconv_ErrRange), ("strconv.ErrSyntax", laid_strconv_ErrSyntax)] }
def OddSumSaid : Prop := oddSumRow.holds Tryz.pinned (OpenSpec.ofChange oddSumSpec)

/-- ITS FALSE NEIGHBOUR: 'it returns false'. Refute it at one input. -/
def oddSumWrong : ChangeSpec := { name := "oddSum", fn := fun _ => fun
  | [d1, d2] => { results := [.lit (.bool false)], args := [d1, d2] }
  | _ => none }
def OddSumWrongFalsely : Prop := oddSumRow.holds Tryz.pinned (OpenSpec.ofChange oddSumWrong)

/-- 'contangolaw04.OddPlays': WHATEVER THE INPUT: true; the input reads as it did. -/
def oddPlaysSpec : ChangeSpec := { name := "oddPlays", fn := fun _ => fun
  | [d1, d2] => { results := [.lit (.bool true)], args := [d1, d2] }
  | _ => none }
def oddPlaysRow : OpenClaim := { program := "yticlpkgpmmhemaagreatdoor", sum := "33ce3c6f6110a1a5c9a2d92f741e08359056f2fded1c7ad1c6f127cce638b763", func := "contango/contangolaw04.OddPlays", spec := "oddPlays", inPlace := ["internal/bytealg.IndexByteString", "internal/bytealg.IndexString"], unfollowed := true, recurses := true, named := ["internal/bytealg.MaxLen", "strconv.ErrSyntax", "strconv.ErrRange", "internal/strconv.uint64pow10", "math/bits.deBruijn32tab", "math/bits.deBruijn64tab"], plainKeys := false, apart := false, laid := [("math/bits.deBruijn32tab", laid_math_bits_deBruijn32tab), ("math/bits.deBruijn64tab", laid_math_bits_deBruijn64tab), ("internal/strconv.uint64pow10", laid_internal_strconv_uint64pow10), ("strconv.ErrRange", laid_strconv_ErrRange), ("strconv.ErrSyntax", laid_strconv_ErrSyntax)] }
def OddPlaysSaid : Prop := oddPlaysRow.holds Tryz.pinned (OpenSpec.ofChange oddPlaysSpec)

/-- ITS FALSE NEIGHBOUR: 'it returns false'. Refute it at one input. -/
def oddPlaysWrong : ChangeSpec := { name := "oddPlays", fn := fun _ => fun
  | [d1, d2] => { results := [.lit (.bool false)], args := [d1, d2] }
  | _ => none }
def OddPlaysWrongFalsely : Prop := oddPlaysRow.holds Tryz.pinned (OpenSpec.ofChange oddPlaysWrong)

/-- 'contangolaw04.OddNames': WHATEVER THE INPUT: true; the input reads as it did. -/
def oddNamesSpec : ChangeSpec := { name := "oddNames", fn := fun _ => fun
  | [] => { results := [.lit (.bool true)], args := [] }
  | _ => none }
def oddNamesRow : OpenClaim := { program := "yticlpkgpmmhemaagreatdoor", sum := "33ce3c6f6110a1a5c9a2d92f741e08359056f2fded1c7ad1c6f127cce638b763", func := "contango/contangolaw04.OddNames", spec := "oddNames", inPlace := ["internal/bytealg.IndexByteString", "internal/bytealg.IndexString"], unfollowed := true, recurses := true, named := ["internal/bytealg.MaxLen", "strconv.ErrSyntax", "strconv.ErrRange", "internal/strconv.uint64pow10", "math/bits.deBruijn32tab", "math/bits.deBruijn64tab"], plainKeys := false, apart := false, laid := [("math/bits.deBruijn32tab", laid_math_bits_deBruijn32tab), ("math/bits.deBruijn64tab", laid_math_bits_deBruijn64tab), ("internal/strconv.uint64pow10", laid_internal_strconv_uint64pow10), ("strconv.ErrRange", laid_strconv_ErrRange), ("strconv.ErrSyntax", laid_strconv_ErrSyntax)] }
def OddNamesSaid : Prop := oddNamesRow.holds Tryz.pinned (OpenSpec.ofChange oddNamesSpec)

/-- ITS FALSE NEIGHBOUR: 'it returns false'. Refute it at one input. -/
def oddNamesWrong : ChangeSpec := { name := "oddNames", fn := fun _ => fun
  | [] => { results := [.lit (.bool false)], args := [] }
  | _ => none }
def OddNamesWrongFalsely : Prop := oddNamesRow.holds Tryz.pinned (OpenSpec.ofChange oddNamesWrong)

/- THE SECOND FORM. 'bulk': how many values and letters a reading holds, each counted each time it is reached (what is shared counts as often as it is met; a slice's spare places count too). A statement '..UptoSaid' is the law's where the arguments, and the package variables that the reading takes, are together of bulk at most 1048576: NARROWER than '..Said'. Prove '..Said' where nothing that the law and all that it calls make is longer than what came in: it says more and counts as full. Else prove '..UptoSaid'. A law counts once. -/
mutual
def uptoBulk {H : Type} : DataW H → Nat
  | .lit (.string bytes) => bytes.length + 1
  | .lit _ => 1
  | .nil => 1
  | .ptr d => uptoBulk d + 1
  | .slice elems spare => uptoBulkAll elems + uptoBulkAll spare + 1
  | .agg parts => uptoBulkAll parts + 1
  | .iface _ d => uptoBulk d + 1
  | .map entries => uptoBulkEntries entries + 1
  | .held _ => 1
def uptoBulkAll {H : Type} : List (DataW H) → Nat
  | [] => 0
  | d :: r => uptoBulk d + uptoBulkAll r
def uptoBulkEntries {H : Type} : List (Lit × DataW H) → Nat
  | [] => 0
  | x :: r => uptoBulkEntry x + uptoBulkEntries r
def uptoBulkEntry {H : Type} : Lit × DataW H → Nat
  | (.string bytes, d) => bytes.length + uptoBulk d + 1
  | (_, d) => uptoBulk d + 1
 end
def uptoSmall : (H : Type) → List (DataW H) → Bool := fun _ ds => decide (uptoBulkAll ds ≤ 1048576)
def OpenSpec.upto (s : _root_.Go.ChangeSpec) : _root_.Go.OpenSpec := { _root_.Go.OpenSpec.ofChange s with cond := some uptoSmall }

/-- 'contangotop.TopShown', WHERE WHAT IT READS IS OF BULK AT MOST 1048576: true; the input reads as it did. -/
def topShownUptoRow : OpenClaim := { program := "yticlpkgpmmhemaagreatdoor", sum := "33ce3c6f6110a1a5c9a2d92f741e08359056f2fded1c7ad1c6f127cce638b763", func := "contango/contangotop.TopShown", spec := "topShown", inPlace := ["internal/bytealg.IndexByteString", "internal/bytealg.IndexString"], unfollowed := true, recurses := true, named := ["internal/bytealg.MaxLen", "strconv.ErrSyntax", "strconv.ErrRange", "internal/strconv.uint64pow10", "math/bits.deBruijn32tab", "math/bits.deBruijn64tab"], plainKeys := false, apart := false, laid := [("math/bits.deBruijn32tab", laid_math_bits_deBruijn32tab), ("math/bits.deBruijn64tab", laid_math_bits_deBruijn64tab), ("internal/strconv.uint64pow10", laid_internal_strconv_uint64pow10), ("strconv.ErrRange", laid_strconv_ErrRange), ("strconv.ErrSyntax", laid_strconv_ErrSyntax)], narrowed := true }
def TopShownUptoSaid : Prop := topShownUptoRow.holds Tryz.pinned (OpenSpec.upto topShownSpec)

/-- 'contangotop.TopTicked', WHERE WHAT IT READS IS OF BULK AT MOST 1048576: true; the input reads as it did. -/
def topTickedUptoRow : OpenClaim := { program := "yticlpkgpmmhemaagreatdoor", sum := "33ce3c6f6110a1a5c9a2d92f741e08359056f2fded1c7ad1c6f127cce638b763", func := "contango/contangotop.TopTicked", spec := "topTicked", inPlace := ["internal/abi.NoEscape", "internal/bytealg.MakeNoZero", "internal/bytealg.IndexByteString", "internal/bytealg.IndexString"], unfollowed := true, recurses := true, named := ["internal/strconv.uint64pow10", "math/bits.deBruijn32tab", "math/bits.deBruijn64tab", "internal/bytealg.MaxLen", "strconv.ErrSyntax", "strconv.ErrRange"], plainKeys := false, apart := false, laid := [("math/bits.deBruijn32tab", laid_math_bits_deBruijn32tab), ("math/bits.deBruijn64tab", laid_math_bits_deBruijn64tab), ("internal/strconv.uint64pow10", laid_internal_strconv_uint64pow10), ("strconv.ErrRange", laid_strconv_ErrRange), ("strconv.ErrSyntax", laid_strconv_ErrSyntax)], narrowed := true }
def TopTickedUptoSaid : Prop := topTickedUptoRow.holds Tryz.pinned (OpenSpec.upto topTickedSpec)

/-- 'contangolaw04.OddSales', WHERE WHAT IT READS IS OF BULK AT MOST 1048576: true; the input reads as it did. -/
def oddSalesUptoRow : OpenClaim := { program := "yticlpkgpmmhemaagreatdoor", sum := "33ce3c6f6110a1a5c9a2d92f741e08359056f2fded1c7ad1c6f127cce638b763", func := "contango/contangolaw04.OddSales", spec := "oddSales", inPlace := ["internal/bytealg.IndexByteString", "internal/bytealg.IndexString"], unfollowed := true, recurses := true, named := ["internal/bytealg.MaxLen", "strconv.ErrSyntax", "strconv.ErrRange", "internal/strconv.uint64pow10", "math/bits.deBruijn32tab", "math/bits.deBruijn64tab"], plainKeys := false, apart := false, laid := [("math/bits.deBruijn32tab", laid_math_bits_deBruijn32tab), ("math/bits.deBruijn64tab", laid_math_bits_deBruijn64tab), ("internal/strconv.uint64pow10", laid_internal_strconv_uint64pow10), ("strconv.ErrRange", laid_strconv_ErrRange), ("strconv.ErrSyntax", laid_strconv_ErrSyntax)], narrowed := true }
def OddSalesUptoSaid : Prop := oddSalesUptoRow.holds Tryz.pinned (OpenSpec.upto oddSalesSpec)

/-- 'contangolaw04.OddBounds', WHERE WHAT IT READS IS OF BULK AT MOST 1048576: true; the input reads as it did. -/
def oddBoundsUptoRow : OpenClaim := { program := "yticlpkgpmmhemaagreatdoor", sum := "33ce3c6f6110a1a5c9a2d92f741e08359056f2fded1c7ad1c6f127cce638b763", func := "contango/contangolaw04.OddBounds", spec := "oddBounds", inPlace := ["internal/bytealg.IndexByteString", "internal/bytealg.IndexString"], unfollowed := true, recurses := true, named := ["internal/bytealg.MaxLen", "strconv.ErrSyntax", "strconv.ErrRange", "internal/strconv.uint64pow10", "math/bits.deBruijn32tab", "math/bits.deBruijn64tab"], plainKeys := false, apart := false, laid := [("math/bits.deBruijn32tab", laid_math_bits_deBruijn32tab), ("math/bits.deBruijn64tab", laid_math_bits_deBruijn64tab), ("internal/strconv.uint64pow10", laid_internal_strconv_uint64pow10), ("strconv.ErrRange", laid_strconv_ErrRange), ("strconv.ErrSyntax", laid_strconv_ErrSyntax)], narrowed := true }
def OddBoundsUptoSaid : Prop := oddBoundsUptoRow.holds Tryz.pinned (OpenSpec.upto oddBoundsSpec)

/-- 'contangolaw04.OddTruth', WHERE WHAT IT READS IS OF BULK AT MOST 1048576: true; the input reads as it did. -/
def oddTruthUptoRow : OpenClaim := { program := "yticlpkgpmmhemaagreatdoor", sum := "33ce3c6f6110a1a5c9a2d92f741e08359056f2fded1c7ad1c6f127cce638b763", func := "contango/contangolaw04.OddTruth", spec := "oddTruth", inPlace := ["internal/bytealg.IndexByteString", "internal/bytealg.IndexString"], unfollowed := true, recurses := true, named := ["internal/bytealg.MaxLen", "strconv.ErrSyntax", "strconv.ErrRange", "internal/strconv.uint64pow10", "math/bits.deBruijn32tab", "math/bits.deBruijn64tab"], plainKeys := false, apart := false, laid := [("math/bits.deBruijn32tab", laid_math_bits_deBruijn32tab), ("math/bits.deBruijn64tab", laid_math_bits_deBruijn64tab), ("internal/strconv.uint64pow10", laid_internal_strconv_uint64pow10), ("strconv.ErrRange", laid_strconv_ErrRange), ("strconv.ErrSyntax", laid_strconv_ErrSyntax)], narrowed := true }
def OddTruthUptoSaid : Prop := oddTruthUptoRow.holds Tryz.pinned (OpenSpec.upto oddTruthSpec)

/-- 'contangolaw04.OddEnds', WHERE WHAT IT READS IS OF BULK AT MOST 1048576: true; the input reads as it did. -/
def oddEndsUptoRow : OpenClaim := { program := "yticlpkgpmmhemaagreatdoor", sum := "33ce3c6f6110a1a5c9a2d92f741e08359056f2fded1c7ad1c6f127cce638b763", func := "contango/contangolaw04.OddEnds", spec := "oddEnds", inPlace := ["internal/bytealg.IndexByteString", "internal/bytealg.IndexString"], unfollowed := true, recurses := true, named := ["internal/bytealg.MaxLen", "strconv.ErrSyntax", "strconv.ErrRange", "internal/strconv.uint64pow10", "math/bits.deBruijn32tab", "math/bits.deBruijn64tab"], plainKeys := false, apart := false, laid := [("math/bits.deBruijn32tab", laid_math_bits_deBruijn32tab), ("math/bits.deBruijn64tab", laid_math_bits_deBruijn64tab), ("internal/strconv.uint64pow10", laid_internal_strconv_uint64pow10), ("strconv.ErrRange", laid_strconv_ErrRange), ("strconv.ErrSyntax", laid_strconv_ErrSyntax)], narrowed := true }
def OddEndsUptoSaid : Prop := oddEndsUptoRow.holds Tryz.pinned (OpenSpec.upto oddEndsSpec)

/-- 'contangolaw04.OddFee', WHERE WHAT IT READS IS OF BULK AT MOST 1048576: true; the input reads as it did. -/
def oddFeeUptoRow : OpenClaim := { program := "yticlpkgpmmhemaagreatdoor", sum := "33ce3c6f6110a1a5c9a2d92f741e08359056f2fded1c7ad1c6f127cce638b763", func := "contango/contangolaw04.OddFee", spec := "oddFee", inPlace := ["internal/bytealg.IndexByteString", "internal/bytealg.IndexString"], unfollowed := true, recurses := true, named := ["internal/bytealg.MaxLen", "strconv.ErrSyntax", "strconv.ErrRange", "internal/strconv.uint64pow10", "math/bits.deBruijn32tab", "math/bits.deBruijn64tab"], plainKeys := false, apart := false, laid := [("math/bits.deBruijn32tab", laid_math_bits_deBruijn32tab), ("math/bits.deBruijn64tab", laid_math_bits_deBruijn64tab), ("internal/strconv.uint64pow10", laid_internal_strconv_uint64pow10), ("strconv.ErrRange", laid_strconv_ErrRange), ("strconv.ErrSyntax", laid_strconv_ErrSyntax)], narrowed := true }
def OddFeeUptoSaid : Prop := oddFeeUptoRow.holds Tryz.pinned (OpenSpec.upto oddFeeSpec)

/-- 'contangolaw04.OddLimit', WHERE WHAT IT READS IS OF BULK AT MOST 1048576: true; the input reads as it did. -/
def oddLimitUptoRow : OpenClaim := { program := "yticlpkgpmmhemaagreatdoor", sum := "33ce3c6f6110a1a5c9a2d92f741e08359056f2fded1c7ad1c6f127cce638b763", func := "contango/contangolaw04.OddLimit", spec := "oddLimit", inPlace := ["internal/bytealg.IndexByteString", "internal/bytealg.IndexString"], unfollowed := true, recurses := true, named := ["internal/bytealg.MaxLen", "strconv.ErrSyntax", "strconv.ErrRange", "internal/strconv.uint64pow10", "math/bits.deBruijn32tab", "math/bits.deBruijn64tab"], plainKeys := false, apart := false, laid := [("math/bits.deBruijn32tab", laid_math_bits_deBruijn32tab), ("math/bits.deBruijn64tab", laid_math_bits_deBruijn64tab), ("internal/strconv.uint64pow10", laid_internal_strconv_uint64pow10), ("strconv.ErrRange", laid_strconv_ErrRange), ("strconv.ErrSyntax", laid_strconv_ErrSyntax)], narrowed := true }
def OddLimitUptoSaid : Prop := oddLimitUptoRow.holds Tryz.pinned (OpenSpec.upto oddLimitSpec)

/-- 'contangolaw04.OddMore', WHERE WHAT IT READS IS OF BULK AT MOST 1048576: true; the input reads as it did. -/
def oddMoreUptoRow : OpenClaim := { program := "yticlpkgpmmhemaagreatdoor", sum := "33ce3c6f6110a1a5c9a2d92f741e08359056f2fded1c7ad1c6f127cce638b763", func := "contango/contangolaw04.OddMore", spec := "oddMore", inPlace := ["internal/bytealg.IndexByteString", "internal/bytealg.IndexString"], unfollowed := true, recurses := true, named := ["internal/bytealg.MaxLen", "strconv.ErrSyntax", "strconv.ErrRange", "internal/strconv.uint64pow10", "math/bits.deBruijn32tab", "math/bits.deBruijn64tab"], plainKeys := false, apart := false, laid := [("math/bits.deBruijn32tab", laid_math_bits_deBruijn32tab), ("math/bits.deBruijn64tab", laid_math_bits_deBruijn64tab), ("internal/strconv.uint64pow10", laid_internal_strconv_uint64pow10), ("strconv.ErrRange", laid_strconv_ErrRange), ("strconv.ErrSyntax", laid_strconv_ErrSyntax)], narrowed := true }
def OddMoreUptoSaid : Prop := oddMoreUptoRow.holds Tryz.pinned (OpenSpec.upto oddMoreSpec)

/-- 'contangolaw04.OddPair', WHERE WHAT IT READS IS OF BULK AT MOST 1048576: true; the input reads as it did. -/
def oddPairUptoRow : OpenClaim := { program := "yticlpkgpmmhemaagreatdoor", sum := "33ce3c6f6110a1a5c9a2d92f741e08359056f2fded1c7ad1c6f127cce638b763", func := "contango/contangolaw04.OddPair", spec := "oddPair", inPlace := ["internal/bytealg.IndexByteString", "internal/bytealg.IndexString"], unfollowed := true, recurses := true, named := ["internal/bytealg.MaxLen", "strconv.ErrSyntax", "strconv.ErrRange", "internal/strconv.uint64pow10", "math/bits.deBruijn32tab", "math/bits.deBruijn64tab"], plainKeys := false, apart := false, laid := [("math/bits.deBruijn32tab", laid_math_bits_deBruijn32tab), ("math/bits.deBruijn64tab", laid_math_bits_deBruijn64tab), ("internal/strconv.uint64pow10", laid_internal_strconv_uint64pow10), ("strconv.ErrRange", laid_strconv_ErrRange), ("strconv.ErrSyntax", laid_strconv_ErrSyntax)], narrowed := true }
def OddPairUptoSaid : Prop := oddPairUptoRow.holds Tryz.pinned (OpenSpec.upto oddPairSpec)

/-- 'contangolaw04.OddWider', WHERE WHAT IT READS IS OF BULK AT MOST 1048576: true; the input reads as it did. -/
def oddWiderUptoRow : OpenClaim := { program := "yticlpkgpmmhemaagreatdoor", sum := "33ce3c6f6110a1a5c9a2d92f741e08359056f2fded1c7ad1c6f127cce638b763", func := "contango/contangolaw04.OddWider", spec := "oddWider", inPlace := ["internal/bytealg.IndexByteString", "internal/bytealg.IndexString"], unfollowed := true, recurses := true, named := ["internal/bytealg.MaxLen", "strconv.ErrSyntax", "strconv.ErrRange", "internal/strconv.uint64pow10", "math/bits.deBruijn32tab", "math/bits.deBruijn64tab"], plainKeys := false, apart := false, laid := [("math/bits.deBruijn32tab", laid_math_bits_deBruijn32tab), ("math/bits.deBruijn64tab", laid_math_bits_deBruijn64tab), ("internal/strconv.uint64pow10", laid_internal_strconv_uint64pow10), ("strconv.ErrRange", laid_strconv_ErrRange), ("strconv.ErrSyntax", laid_strconv_ErrSyntax)], narrowed := true }
def OddWiderUptoSaid : Prop := oddWiderUptoRow.holds Tryz.pinned (OpenSpec.upto oddWiderSpec)

/-- 'contangolaw04.OddSum', WHERE WHAT IT READS IS OF BULK AT MOST 1048576: true; the input reads as it did. -/
def oddSumUptoRow : OpenClaim := { program := "yticlpkgpmmhemaagreatdoor", sum := "33ce3c6f6110a1a5c9a2d92f741e08359056f2fded1c7ad1c6f127cce638b763", func := "contango/contangolaw04.OddSum", spec := "oddSum", inPlace := ["internal/bytealg.IndexByteString", "internal/bytealg.IndexString"], unfollowed := true, recurses := true, named := ["internal/bytealg.MaxLen", "strconv.ErrSyntax", "strconv.ErrRange", "internal/strconv.uint64pow10", "math/bits.deBruijn32tab", "math/bits.deBruijn64tab"], plainKeys := false, apart := false, laid := [("math/bits.deBruijn32tab", laid_math_bits_deBruijn32tab), ("math/bits.deBruijn64tab", laid_math_bits_deBruijn64tab), ("internal/strconv.uint64pow10", laid_internal_strconv_uint64pow10), ("strconv.ErrRange", laid_strconv_ErrRange), ("strconv.ErrSyntax", laid_strconv_ErrSyntax)], narrowed := true }
def OddSumUptoSaid : Prop := oddSumUptoRow.holds Tryz.pinned (OpenSpec.upto oddSumSpec)

/-- 'contangolaw04.OddPlays', WHERE WHAT IT READS IS OF BULK AT MOST 1048576: true; the input reads as it did. -/
def oddPlaysUptoRow : OpenClaim := { program := "yticlpkgpmmhemaagreatdoor", sum := "33ce3c6f6110a1a5c9a2d92f741e08359056f2fded1c7ad1c6f127cce638b763", func := "contango/contangolaw04.OddPlays", spec := "oddPlays", inPlace := ["internal/bytealg.IndexByteString", "internal/bytealg.IndexString"], unfollowed := true, recurses := true, named := ["internal/bytealg.MaxLen", "strconv.ErrSyntax", "strconv.ErrRange", "internal/strconv.uint64pow10", "math/bits.deBruijn32tab", "math/bits.deBruijn64tab"], plainKeys := false, apart := false, laid := [("math/bits.deBruijn32tab", laid_math_bits_deBruijn32tab), ("math/bits.deBruijn64tab", laid_math_bits_deBruijn64tab), ("internal/strconv.uint64pow10", laid_internal_strconv_uint64pow10), ("strconv.ErrRange", laid_strconv_ErrRange), ("strconv.ErrSyntax", laid_strconv_ErrSyntax)], narrowed := true }
def OddPlaysUptoSaid : Prop := oddPlaysUptoRow.holds Tryz.pinned (OpenSpec.upto oddPlaysSpec)

/-- 'contangolaw04.OddNames', WHERE WHAT IT READS IS OF BULK AT MOST 1048576: true; the input reads as it did. -/
def oddNamesUptoRow : OpenClaim := { program := "yticlpkgpmmhemaagreatdoor", sum := "33ce3c6f6110a1a5c9a2d92f741e08359056f2fded1c7ad1c6f127cce638b763", func := "contango/contangolaw04.OddNames", spec := "oddNames", inPlace := ["internal/bytealg.IndexByteString", "internal/bytealg.IndexString"], unfollowed := true, recurses := true, named := ["internal/bytealg.MaxLen", "strconv.ErrSyntax", "strconv.ErrRange", "internal/strconv.uint64pow10", "math/bits.deBruijn32tab", "math/bits.deBruijn64tab"], plainKeys := false, apart := false, laid := [("math/bits.deBruijn32tab", laid_math_bits_deBruijn32tab), ("math/bits.deBruijn64tab", laid_math_bits_deBruijn64tab), ("internal/strconv.uint64pow10", laid_internal_strconv_uint64pow10), ("strconv.ErrRange", laid_strconv_ErrRange), ("strconv.ErrSyntax", laid_strconv_ErrSyntax)], narrowed := true }
def OddNamesUptoSaid : Prop := oddNamesUptoRow.holds Tryz.pinned (OpenSpec.upto oddNamesSpec)

end Rows
end Go.Proofs.YticlpkgpmmhemaaGreatDoor
