/-
  A part of the proof that contangolaw.OddSales returns true: what the last text needs, and no more. No condition: no statement of the seat is proved here.
-/
import Derived.Test.YticlpkgpmmhemaaGreatDoorRows
import Derived.JoinedOf
import Derived.KernelRfl
import Derived.Test.YticlpkgpmmhemaaGreatDoorOddSalesR
namespace Go.Proofs.YticlpkgpmmhemaaGreatDoor
set_option maxRecDepth 100000 in
theorem oddSales_k3:(Rows.oddSalesRow.recurses == Tryz.prog.recurses 5) = true:=by kernel_rfl
end Go.Proofs.YticlpkgpmmhemaaGreatDoor
