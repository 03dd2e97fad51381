/-
  A part of the proof that contangolaw.OddMore returns true: what the last text needs, and no more. No condition: no statement of the seat is proved here.
-/
import Derived.Test.YticlpkgpmmhemaaGreatDoorRows
import Derived.SevenTiedAt
import Derived.KernelRfl
import Derived.Test.YticlpkgpmmhemaaGreatDoorOddMoreT
namespace Go.Proofs.YticlpkgpmmhemaaGreatDoor
set_option maxRecDepth 100000 in
theorem oddMore_k5:false = Rows.oddMoreRow.goesBy Tryz.prog:=by kernel_rfl
end Go.Proofs.YticlpkgpmmhemaaGreatDoor
