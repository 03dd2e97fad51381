/-
  contangolaw05.SheetPlays returns true for every input, and leaves its arguments as they were: the given statement, whole. No condition.
-/
import Derived.Test.YtnbmmopjkkofoaaRegs2
import Derived.Test.YtnbmmopjkkofoaaW17
namespace Go.Proofs.Ytnbmmopjkkofoaa
open Go.ChangeShapes Go.WideShapes Go.ChangeAt Go.RowKit
set_option linter.all false
theorem SheetPlays_pure (xs : List D) (h : Sat [SReg, SInts] xs) : PureAt Try.prog 11 xs (.bool true) := by
  obtain ⟨_, _, rfl, ⟨a1, rfl, h1⟩, _, _, rfl, ⟨a2, rfl, h2⟩, rfl⟩ := h
  exact PureAt.of_eff (ds := [regD a1, ints a2]) (SheetPlays_eff a1 a2)
set_option maxRecDepth 100000 in
theorem sheetPlays_lifted (os : Os) (started : os.Started) (H : Type) (enc : TypeId × Value → H) :
    ReturnsInHanded {} Try.checked os 11 .any (Rows.sheetPlaysSpec.pre6 enc Try.prog Try.f11 Rows.sheetPlaysRow.domain false) (Rows.sheetPlaysSpec.post enc Try.prog Try.f11 false true false false) := by
  refine returnsInHanded_of_change_sized (C := Try.checked) own started (by kernel_rfl) Try.func11
    (ChangeSpec.witness6 (enc := enc) (C := Try.checked) false ⟨#[], #[.agg #[.int .i64 0, .slice none 0 0, .slice none 0 0, .slice none 0 0], .slice none 0 0], []⟩ 8 (by kernel_rfl) (by kernel_rfl) (by kernel_rfl) (by kernel_rfl)) ?_
  intro W base args ds gs before hval hW _ hz _
  exact law_contract (ts := [26, 22]) (Ss := [SReg, SInts]) laidOut (by rw [Try.params11]) (by kernel_rfl) (by kernel_rfl) Try.underlying4 rfl rfl
    (fun ds h => by match ds, h with | [d1, d2], _ => rfl) ⟨pReg, pInts, trivial⟩ SheetPlays_pure W base args ds gs before hval hW hz
theorem sheetPlays_holds : Rows.SheetPlaysSaid :=
  OpenClaim.holds_of_wide 11 Try.f11 rfl rfl rfl rfl rfl rfl rfl ⟨rfl, rfl, rfl, rfl, rfl⟩ rfl rfl rfl rfl rfl (by kernel_rfl) Try.func11 (by kernel_rfl)
    (of_decide_eq_true (by kernel_rfl)) (by unfold Func.isWrapper; first | (rw [if_pos (by decide +kernel)]; kernel_rfl) | (rw [if_neg (by decide +kernel)]; exact ⟨rfl, rfl⟩))
    (fun os started H enc _ => sheetPlays_lifted os started H enc)
end Go.Proofs.Ytnbmmopjkkofoaa
