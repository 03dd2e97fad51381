/-
  A part of the proof that contangolaw.TopTicked returns true: what the last text needs, and no more. No condition: no statement of the seat is proved here.
-/
import Derived.Test.YticlpkgpmmhemaaGreatDoorRows
import Derived.JoinedOf
import Derived.KernelRfl
import Derived.SevenTiedAt
import Derived.Test.YticlpkgpmmhemaaGreatDoorTopTickedW
namespace Go.Proofs.YticlpkgpmmhemaaGreatDoor
set_option maxRecDepth 100000 in
theorem odd_fa:Tryz.prog.looks [] = true:=by kernel_rfl
end Go.Proofs.YticlpkgpmmhemaaGreatDoor
