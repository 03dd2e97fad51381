/-
  A part of the proof that contangolaw.OddPlays returns true: what the last text needs, and no more. No condition: no statement of the seat is proved here.
-/
import Derived.Test.YticlpkgpmmhemaaGreatDoorRows
import Derived.JoinedOf
import Derived.KernelRfl
import Derived.Test.YticlpkgpmmhemaaGreatDoorOddPlaysR
namespace Go.Proofs.YticlpkgpmmhemaaGreatDoor
set_option maxRecDepth 100000 in
theorem oddPlays_k4 : (Rows.oddPlaysRow.named == Tryz.prog.varsNamed 15) = true := by kernel_rfl
end Go.Proofs.YticlpkgpmmhemaaGreatDoor
