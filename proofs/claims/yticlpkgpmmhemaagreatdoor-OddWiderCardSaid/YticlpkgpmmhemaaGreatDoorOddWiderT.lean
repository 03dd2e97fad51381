/-
  A part of the proof that contangolaw.OddWider returns true: what the last text needs, and no more. No condition: no statement of the seat is proved here.
-/
import Derived.Test.YticlpkgpmmhemaaGreatDoorRows
import Derived.JoinedOf
import Derived.KernelRfl
import Derived.Test.YticlpkgpmmhemaaGreatDoorOddWiderS
namespace Go.Proofs.YticlpkgpmmhemaaGreatDoor
set_option maxRecDepth 100000 in
theorem oddWider_k4:(Rows.oddWiderRow.named == Tryz.prog.varsNamed 13) = true:=by kernel_rfl
end Go.Proofs.YticlpkgpmmhemaaGreatDoor
