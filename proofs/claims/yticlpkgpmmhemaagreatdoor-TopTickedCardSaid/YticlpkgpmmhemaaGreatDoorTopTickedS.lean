/-
  A part of the proof that contangolaw.TopTicked returns true: what the last text needs, and no more. No condition: no statement of the seat is proved here.
-/
import Derived.Test.YticlpkgpmmhemaaGreatDoorRows
import Derived.SevenTiedAt
import Derived.KernelRfl
import Derived.Test.YticlpkgpmmhemaaGreatDoorTopTickedR
namespace Go.Proofs.YticlpkgpmmhemaaGreatDoor
set_option maxRecDepth 100000 in
theorem topTicked_k5:false = Rows.topTickedRow.goesBy Tryz.prog:=by kernel_rfl
end Go.Proofs.YticlpkgpmmhemaaGreatDoor
