/-
  A part of the proof that contangolaw.OddEnds returns true: what the last text needs, and no more. No condition: no statement of the seat is proved here.
-/
import Derived.Test.YticlpkgpmmhemaaGreatDoorRows
import Derived.JoinedOf
import Derived.KernelRfl
import Derived.Test.YticlpkgpmmhemaaGreatDoorOddEndsQ
namespace Go.Proofs.YticlpkgpmmhemaaGreatDoor
set_option maxRecDepth 100000 in
theorem oddEnds_k2:(Rows.oddEndsRow.unfollowed == Tryz.prog.unfollowed 8) = true:=by kernel_rfl
end Go.Proofs.YticlpkgpmmhemaaGreatDoor
