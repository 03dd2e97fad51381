/-
  A part of the proof that contangolaw.OddSum returns true: what the last text needs, and no more. No condition: no statement of the seat is proved here.
-/
import Derived.Test.YticlpkgpmmhemaaGreatDoorRows
import Derived.JoinedOf
import Derived.KernelRfl
import Derived.Test.YticlpkgpmmhemaaGreatDoorOddSumP
namespace Go.Proofs.YticlpkgpmmhemaaGreatDoor
set_option maxRecDepth 100000 in
theorem oddSum_k1:(Rows.oddSumRow.inPlace == Tryz.prog.inPlace 14) = true:=by kernel_rfl
end Go.Proofs.YticlpkgpmmhemaaGreatDoor
