/-
  A part of the proof that contangolaw.OddBounds returns true: what the last text needs, and no more. No condition: no statement of the seat is proved here.
-/
import Derived.Test.YticlpkgpmmhemaaGreatDoorRows
import Derived.JoinedOf
import Derived.KernelRfl
import Derived.Test.YticlpkgpmmhemaaGreatDoorOddBoundsR
namespace Go.Proofs.YticlpkgpmmhemaaGreatDoor
set_option maxRecDepth 100000 in
theorem oddBounds_k3:(Rows.oddBoundsRow.recurses == Tryz.prog.recurses 6) = true:=by kernel_rfl
end Go.Proofs.YticlpkgpmmhemaaGreatDoor
