/-
  contangolaw05.SheetLeft returns true for every input, and leaves its arguments as they were: the given statement, whole. No condition.
-/
import Derived.Test.YtnbmmopjkkofoaaRegs2
import Derived.Test.YtnbmmopjkkofoaaW15
namespace Go.Proofs.Ytnbmmopjkkofoaa
open Go.ChangeShapes Go.WideShapes Go.ChangeAt Go.RowKit
set_option linter.all false
theorem SheetLeft_pure (xs : List D) (h : Sat [SReg, SU16] xs) : PureAt Try.prog 9 xs (.bool true) := by
  obtain ⟨_, _, rfl, ⟨a1, rfl, h1⟩, _, _, rfl, ⟨a2, rfl, h2⟩, rfl⟩ := h
  exact PureAt.of_eff (ds := [regD a1, .int .u16 (a2 : Nat)]) (SheetLeft_eff a1 a2 h2)
set_option maxRecDepth 100000 in
theorem sheetLeft_lifted (os : Os) (started : os.Started) (H : Type) (enc : TypeId × Value → H) :
    ReturnsInHanded {} Try.checked os 9 .any (Rows.sheetLeftSpec.pre6 enc Try.prog Try.f9 Rows.sheetLeftRow.domain false) (Rows.sheetLeftSpec.post enc Try.prog Try.f9 false true false false) := by
  refine returnsInHanded_of_change (C := Try.checked) own started (by kernel_rfl) Try.func9
    (ChangeSpec.witness6 (enc := enc) (C := Try.checked) false ⟨#[], #[.agg #[.int .i64 0, .slice none 0 0, .slice none 0 0, .slice none 0 0], .int .u16 0], []⟩ 8 (by kernel_rfl) (by kernel_rfl) (by kernel_rfl) (by kernel_rfl)) ?_
  intro W base args ds gs before hval hW _ _
  exact law_contract (ts := [26, 71]) (Ss := [SReg, SU16]) laidOut (by rw [Try.params9]) (by kernel_rfl) (by kernel_rfl) Try.underlying4 rfl
    (fun ds h => by match ds, h with | [d1, d2], _ => rfl) ⟨pReg, pU16, trivial⟩ SheetLeft_pure W base args ds gs before hval hW
theorem sheetLeft_holds : Rows.SheetLeftSaid :=
  OpenClaim.holds_of_wide 9 Try.f9 rfl rfl rfl rfl rfl rfl rfl ⟨rfl, rfl, rfl, rfl, rfl⟩ rfl rfl rfl rfl rfl (by kernel_rfl) Try.func9 (by kernel_rfl)
    (of_decide_eq_true (by kernel_rfl)) (by unfold Func.isWrapper; first | (rw [if_pos (by decide +kernel)]; kernel_rfl) | (rw [if_neg (by decide +kernel)]; exact ⟨rfl, rfl⟩))
    (fun os started H enc _ => sheetLeft_lifted os started H enc)
end Go.Proofs.Ytnbmmopjkkofoaa
