/-
  A part of the proof that contangolaw.TopTicked returns true: what the last text needs, and no more. No condition: no statement of the seat is proved here.
-/
import Derived.Test.YticlpkgpmmhemaaGreatDoorRows
import Derived.JoinedOf
import Derived.KernelRfl
import Derived.Test.YticlpkgpmmhemaaGreatDoorTopTickedS
namespace Go.Proofs.YticlpkgpmmhemaaGreatDoor
set_option maxRecDepth 100000 in
theorem odd_f1:laidOutB Tryz.prog = true:=by kernel_rfl
set_option maxRecDepth 100000 in
theorem odd_f2:mapsRowed Tryz.prog = true:=by kernel_rfl
set_option maxRecDepth 100000 in
theorem odd_f3:Tryz.prog.stops = []:=by kernel_rfl
set_option maxRecDepth 100000 in
theorem odd_f4:Tryz.prog.stopKnobs = []:=by kernel_rfl
set_option maxRecDepth 100000 in
theorem odd_f5:Tryz.prog.plainKeys = Rows.oddPlaysRow.plainKeys:=by kernel_rfl
end Go.Proofs.YticlpkgpmmhemaaGreatDoor
