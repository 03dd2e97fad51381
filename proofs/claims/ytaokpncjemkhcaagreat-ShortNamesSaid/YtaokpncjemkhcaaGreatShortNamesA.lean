/-
  A part of the proof that contangolaw.ShortNames returns true: what the last text needs, and no more. No condition: no statement of the seat is proved here.
-/
import Derived.Tactics
namespace Go.Proofs.YtaokpncjemkhcaaGreat
/-- Block, and what it holds. -/
def globs : List (Nat × (Obj → Prop)) := []
end Go.Proofs.YtaokpncjemkhcaaGreat
