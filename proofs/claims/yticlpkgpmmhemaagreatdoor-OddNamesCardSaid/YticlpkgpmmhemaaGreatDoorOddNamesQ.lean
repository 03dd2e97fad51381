/-
  A part of the proof that contangolaw.OddNames returns true: what the last text needs, and no more. No condition: no statement of the seat is proved here.
-/
import Derived.Test.YticlpkgpmmhemaaGreatDoorRows
import Derived.JoinedOf
import Derived.KernelRfl
import Derived.Test.YticlpkgpmmhemaaGreatDoorOddNamesP
namespace Go.Proofs.YticlpkgpmmhemaaGreatDoor
set_option maxRecDepth 100000 in
theorem oddNames_k2:(Rows.oddNamesRow.unfollowed == Tryz.prog.unfollowed 16) = true:=by kernel_rfl
end Go.Proofs.YticlpkgpmmhemaaGreatDoor
