/-
  A part of the proof that contangolaw.OddBounds returns true: what the last text needs, and no more. No condition: no statement of the seat is proved here.
-/
import Derived.Test.YticlpkgpmmhemaaGreatDoorRows
import Derived.JoinedOf
import Derived.KernelRfl
import Derived.Test.YticlpkgpmmhemaaGreatDoorOddBoundsP
namespace Go.Proofs.YticlpkgpmmhemaaGreatDoor
set_option maxRecDepth 100000 in
theorem oddBounds_k1:(Rows.oddBoundsRow.inPlace == Tryz.prog.inPlace 6) = true:=by kernel_rfl
end Go.Proofs.YticlpkgpmmhemaaGreatDoor
