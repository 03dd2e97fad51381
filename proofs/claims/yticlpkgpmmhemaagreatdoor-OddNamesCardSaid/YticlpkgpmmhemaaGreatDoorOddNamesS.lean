/-
  A part of the proof that contangolaw.OddNames returns true: what the last text needs, and no more. No condition: no statement of the seat is proved here.
-/
import Derived.Test.YticlpkgpmmhemaaGreatDoorRows
import Derived.JoinedOf
import Derived.KernelRfl
import Derived.Test.YticlpkgpmmhemaaGreatDoorOddNamesR
namespace Go.Proofs.YticlpkgpmmhemaaGreatDoor
set_option maxRecDepth 100000 in
theorem oddNames_k4:(Rows.oddNamesRow.named == Tryz.prog.varsNamed 16) = true:=by kernel_rfl
end Go.Proofs.YticlpkgpmmhemaaGreatDoor
