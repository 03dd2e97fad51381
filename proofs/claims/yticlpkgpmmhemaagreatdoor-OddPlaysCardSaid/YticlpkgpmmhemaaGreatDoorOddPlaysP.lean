/-
  A part of the proof that contangolaw.OddPlays returns true: what the last text needs, and no more. No condition: no statement of the seat is proved here.
-/
import Derived.Test.YticlpkgpmmhemaaGreatDoorRows
import Derived.JoinedOf
import Derived.KernelRfl
import Derived.Test.YticlpkgpmmhemaaGreatDoorOddPlaysO
namespace Go.Proofs.YticlpkgpmmhemaaGreatDoor
set_option maxRecDepth 100000 in
theorem oddPlays_k1 : (Rows.oddPlaysRow.inPlace == Tryz.prog.inPlace 15) = true := by kernel_rfl
end Go.Proofs.YticlpkgpmmhemaaGreatDoor
