/-
  contangolaw05.SheetHolds returns true for every input, and leaves its arguments as they were: the given statement, whole. No condition.
-/
import Derived.Test.YtnbmmopjkkofoaaRegs
import Derived.Test.YtnbmmopjkkofoaaW14
namespace Go.Proofs.Ytnbmmopjkkofoaa
open Go.ChangeShapes Go.WideShapes Go.ChangeAt Go.RowKit
set_option linter.all false

theorem sheetHolds_pure (xs : List D) (h : Sat [SReg, SInt, SInt, SInt] xs) : PureAt Try.prog 3 xs (.bool true) := by
  obtain ⟨_, _, rfl, ⟨r, rfl, _⟩, _, _, rfl, ⟨a, rfl, _⟩, _, _, rfl, ⟨b, rfl, _⟩, _, _, rfl, ⟨c, rfl, _⟩, rfl⟩ := h
  exact PureAt.of_eff (ds := [regD r, .int .i64 a, .int .i64 b, .int .i64 c]) (SheetHolds_eff r a b c)
set_option maxRecDepth 100000 in
theorem sheetHolds_lifted (os : Os) (started : os.Started) (H : Type) (enc : TypeId × Value → H) :
    ReturnsInHanded {} Try.checked os 3 .any (Rows.sheetHoldsSpec.pre6 enc Try.prog Try.f3 Rows.sheetHoldsRow.domain false) (Rows.sheetHoldsSpec.post enc Try.prog Try.f3 false true false false) := by
  refine returnsInHanded_of_change (C := Try.checked) own started (by kernel_rfl) Try.func3
    (ChangeSpec.witness6 (enc := enc) (C := Try.checked) false ⟨#[], #[.agg #[.int .i64 0, .slice none 0 0, .slice none 0 0, .slice none 0 0], .int .i64 0, .int .i64 0, .int .i64 0], []⟩ 8 (by kernel_rfl) (by kernel_rfl) (by kernel_rfl) (by kernel_rfl)) ?_
  intro W base args ds gs before hval hW _ _
  exact law_contract (ts := [26, 3, 3, 3]) (Ss := [SReg, SInt, SInt, SInt]) laidOut (by rw [Try.params3]) (by kernel_rfl) (by kernel_rfl) Try.underlying4 rfl
    (fun ds h => by match ds, h with | [d1, d2, d3, d4], _ => rfl) ⟨pReg, pInt, pInt, pInt, trivial⟩ sheetHolds_pure W base args ds gs before hval hW
theorem sheetHolds_holds : Rows.SheetHoldsSaid :=
  OpenClaim.holds_of_wide 3 Try.f3 rfl rfl rfl rfl rfl rfl rfl ⟨rfl, rfl, rfl, rfl, rfl⟩ rfl rfl rfl rfl rfl (by kernel_rfl) Try.func3 (by kernel_rfl)
    (of_decide_eq_true (by kernel_rfl)) (by unfold Func.isWrapper; first | (rw [if_pos (by decide +kernel)]; kernel_rfl) | (rw [if_neg (by decide +kernel)]; exact ⟨rfl, rfl⟩))
    (fun os started H enc _ => sheetHolds_lifted os started H enc)
end Go.Proofs.Ytnbmmopjkkofoaa
