/-
  A part of the proof that contangolaw.OddLimit returns true: what the last text needs, and no more. No condition: no statement of the seat is proved here.
-/
import Derived.Test.YticlpkgpmmhemaaGreatDoorRows
import Derived.JoinedOf
import Derived.KernelRfl
import Derived.Test.YticlpkgpmmhemaaGreatDoorOddLimitQ
namespace Go.Proofs.YticlpkgpmmhemaaGreatDoor
set_option maxRecDepth 100000 in
theorem oddLimit_k2:(Rows.oddLimitRow.unfollowed == Tryz.prog.unfollowed 10) = true:=by kernel_rfl
end Go.Proofs.YticlpkgpmmhemaaGreatDoor
