/-
  A part of the proof that contangolaw.OddPair returns true: what the last text needs, and no more. No condition: no statement of the seat is proved here.
-/
import Derived.Test.YticlpkgpmmhemaaGreatDoorRows
import Derived.JoinedOf
import Derived.KernelRfl
import Derived.Test.YticlpkgpmmhemaaGreatDoorOddPairQ
namespace Go.Proofs.YticlpkgpmmhemaaGreatDoor
set_option maxRecDepth 100000 in
theorem oddPair_k2:(Rows.oddPairRow.unfollowed == Tryz.prog.unfollowed 12) = true:=by kernel_rfl
end Go.Proofs.YticlpkgpmmhemaaGreatDoor
