/-
  A part of the proof that contangolaw.TopShown returns true: what the last text needs, and no more. No condition: no statement of the seat is proved here.
-/
import Derived.Test.YticlpkgpmmhemaaGreatDoorRows
import Derived.JoinedOf
import Derived.KernelRfl
import Derived.Test.YticlpkgpmmhemaaGreatDoorTopShownR
namespace Go.Proofs.YticlpkgpmmhemaaGreatDoor
set_option maxRecDepth 100000 in
theorem topShown_k4:(Rows.topShownRow.named == Tryz.prog.varsNamed 3) = true:=by kernel_rfl
end Go.Proofs.YticlpkgpmmhemaaGreatDoor
