/-
  A part of the proof that contangolaw.OddPlays returns true: what the last text needs, and no more. No condition: no statement of the seat is proved here.
-/
import Derived.Test.YticlpkgpmmhemaaGreatDoorRows
import Derived.JoinedOf
import Derived.KernelRfl
import Derived.Test.YticlpkgpmmhemaaGreatDoorOddPlaysP
namespace Go.Proofs.YticlpkgpmmhemaaGreatDoor
set_option maxRecDepth 100000 in
theorem oddPlays_k2 : (Rows.oddPlaysRow.unfollowed == Tryz.prog.unfollowed 15) = true := by kernel_rfl
end Go.Proofs.YticlpkgpmmhemaaGreatDoor
