/-
  A part of the proof that contangolaw.OddTruth returns true: what the last text needs, and no more. No condition: no statement of the seat is proved here.
-/
import Derived.Test.YticlpkgpmmhemaaGreatDoorRows
import Derived.JoinedOf
import Derived.KernelRfl
import Derived.Test.YticlpkgpmmhemaaGreatDoorOddTruthQ
namespace Go.Proofs.YticlpkgpmmhemaaGreatDoor
set_option maxRecDepth 100000 in
theorem oddTruth_k2:(Rows.oddTruthRow.unfollowed == Tryz.prog.unfollowed 7) = true:=by kernel_rfl
end Go.Proofs.YticlpkgpmmhemaaGreatDoor
