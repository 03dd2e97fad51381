/-
  A part of the proof that contangolaw.OddSales returns true: what the last text needs, and no more. No condition: no statement of the seat is proved here.
-/
import Derived.Test.YticlpkgpmmhemaaGreatDoorRows
import Derived.JoinedOf
import Derived.KernelRfl
import Derived.Test.YticlpkgpmmhemaaGreatDoorOddSalesP
namespace Go.Proofs.YticlpkgpmmhemaaGreatDoor
set_option maxRecDepth 100000 in
theorem oddSales_k1:(Rows.oddSalesRow.inPlace == Tryz.prog.inPlace 5) = true:=by kernel_rfl
end Go.Proofs.YticlpkgpmmhemaaGreatDoor
