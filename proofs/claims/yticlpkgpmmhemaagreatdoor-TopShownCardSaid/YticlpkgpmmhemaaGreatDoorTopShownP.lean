/-
  A part of the proof that contangolaw.TopShown returns true: what the last text needs, and no more. No condition: no statement of the seat is proved here.
-/
import Derived.Test.YticlpkgpmmhemaaGreatDoorRows
import Derived.JoinedOf
import Derived.KernelRfl
import Derived.Test.YticlpkgpmmhemaaGreatDoorTopShownO
namespace Go.Proofs.YticlpkgpmmhemaaGreatDoor
set_option maxRecDepth 100000 in
theorem topShown_k1:(Rows.topShownRow.inPlace == Tryz.prog.inPlace 3) = true:=by kernel_rfl
end Go.Proofs.YticlpkgpmmhemaaGreatDoor
