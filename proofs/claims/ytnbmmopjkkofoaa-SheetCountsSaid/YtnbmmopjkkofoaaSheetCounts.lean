/-
  contangolaw05.SheetCounts returns true for every input, and leaves its arguments as they were: the given statement, whole. No condition.
-/
import Derived.Test.YtnbmmopjkkofoaaRegs
import Derived.Test.YtnbmmopjkkofoaaW14
namespace Go.Proofs.Ytnbmmopjkkofoaa
open Go.ChangeShapes Go.WideShapes Go.ChangeAt Go.RowKit
set_option linter.all false
theorem SheetCounts_pure (xs : List D) (h : Sat [SReg, SInt, SInt, SInt] xs) : PureAt Try.prog 4 xs (.bool true) := by
  obtain ⟨_, _, rfl, ⟨a1, rfl, h1⟩, _, _, rfl, ⟨a2, rfl, h2⟩, _, _, rfl, ⟨a3, rfl, h3⟩, _, _, rfl, ⟨a4, rfl, h4⟩, rfl⟩ := h
  exact PureAt.of_eff (ds := [regD a1, .int .i64 a2, .int .i64 a3, .int .i64 a4]) (SheetCounts_eff a1 a2 a3 a4)
set_option maxRecDepth 100000 in
theorem sheetCounts_lifted (os : Os) (started : os.Started) (H : Type) (enc : TypeId × Value → H) :
    ReturnsInHanded {} Try.checked os 4 .any (Rows.sheetCountsSpec.pre6 enc Try.prog Try.f4 Rows.sheetCountsRow.domain false) (Rows.sheetCountsSpec.post enc Try.prog Try.f4 false true false false) := by
  refine returnsInHanded_of_change (C := Try.checked) own started (by kernel_rfl) Try.func4
    (ChangeSpec.witness6 (enc := enc) (C := Try.checked) false ⟨#[], #[.agg #[.int .i64 0, .slice none 0 0, .slice none 0 0, .slice none 0 0], .int .i64 0, .int .i64 0, .int .i64 0], []⟩ 8 (by kernel_rfl) (by kernel_rfl) (by kernel_rfl) (by kernel_rfl)) ?_
  intro W base args ds gs before hval hW _ _
  exact law_contract (ts := [26, 3, 3, 3]) (Ss := [SReg, SInt, SInt, SInt]) laidOut (by rw [Try.params4]) (by kernel_rfl) (by kernel_rfl) Try.underlying4 rfl
    (fun ds h => by match ds, h with | [d1, d2, d3, d4], _ => rfl) ⟨pReg, pInt, pInt, pInt, trivial⟩ SheetCounts_pure W base args ds gs before hval hW
theorem sheetCounts_holds : Rows.SheetCountsSaid :=
  OpenClaim.holds_of_wide 4 Try.f4 rfl rfl rfl rfl rfl rfl rfl ⟨rfl, rfl, rfl, rfl, rfl⟩ rfl rfl rfl rfl rfl (by kernel_rfl) Try.func4 (by kernel_rfl)
    (of_decide_eq_true (by kernel_rfl)) (by unfold Func.isWrapper; first | (rw [if_pos (by decide +kernel)]; kernel_rfl) | (rw [if_neg (by decide +kernel)]; exact ⟨rfl, rfl⟩))
    (fun os started H enc _ => sheetCounts_lifted os started H enc)
end Go.Proofs.Ytnbmmopjkkofoaa
