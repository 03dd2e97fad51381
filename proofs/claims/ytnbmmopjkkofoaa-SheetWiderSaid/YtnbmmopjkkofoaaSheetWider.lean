/-
  contangolaw05.SheetWider returns true for every input, and leaves its arguments as they were: the given statement, whole. No condition.
-/
import Derived.Test.YtnbmmopjkkofoaaRegs2
import Derived.Test.YtnbmmopjkkofoaaW18
namespace Go.Proofs.Ytnbmmopjkkofoaa
open Go.ChangeShapes Go.WideShapes Go.ChangeAt Go.RowKit
set_option linter.all false
theorem SheetWider_pure (xs : List D) (h : Sat [SReg, SU8, SU8, SU8, SU8, SU8] xs) : PureAt Try.prog 7 xs (.bool true) := by
  obtain ⟨_, _, rfl, ⟨a1, rfl, h1⟩, _, _, rfl, ⟨a2, rfl, h2⟩, _, _, rfl, ⟨a3, rfl, h3⟩, _, _, rfl, ⟨a4, rfl, h4⟩, _, _, rfl, ⟨a5, rfl, h5⟩, _, _, rfl, ⟨a6, rfl, h6⟩, rfl⟩ := h
  exact PureAt.of_eff (ds := [regD a1, .int .u8 (a2 : Nat), .int .u8 (a3 : Nat), .int .u8 (a4 : Nat), .int .u8 (a5 : Nat), .int .u8 (a6 : Nat)]) (SheetWider_eff a1 a2 a3 a4 a5 a6 h2 h3 h4 h5 h6)
set_option maxRecDepth 100000 in
theorem sheetWider_lifted (os : Os) (started : os.Started) (H : Type) (enc : TypeId × Value → H) :
    ReturnsInHanded {} Try.checked os 7 .any (Rows.sheetWiderSpec.pre6 enc Try.prog Try.f7 Rows.sheetWiderRow.domain false) (Rows.sheetWiderSpec.post enc Try.prog Try.f7 false true false false) := by
  refine returnsInHanded_of_change_sized (C := Try.checked) own started (by kernel_rfl) Try.func7
    (ChangeSpec.witness6 (enc := enc) (C := Try.checked) false ⟨#[], #[.agg #[.int .i64 0, .slice none 0 0, .slice none 0 0, .slice none 0 0], .int .u8 0, .int .u8 0, .int .u8 0, .int .u8 0, .int .u8 0], []⟩ 8 (by kernel_rfl) (by kernel_rfl) (by kernel_rfl) (by kernel_rfl)) ?_
  intro W base args ds gs before hval hW _ hz _
  exact law_contract (ts := [26, 5, 5, 5, 5, 5]) (Ss := [SReg, SU8, SU8, SU8, SU8, SU8]) laidOut (by rw [Try.params7]) (by kernel_rfl) (by kernel_rfl) Try.underlying4 rfl rfl
    (fun ds h => by match ds, h with | [d1, d2, d3, d4, d5, d6], _ => rfl) ⟨pReg, pU8, pU8, pU8, pU8, pU8, trivial⟩ SheetWider_pure W base args ds gs before hval hW hz
theorem sheetWider_holds : Rows.SheetWiderSaid :=
  OpenClaim.holds_of_wide 7 Try.f7 rfl rfl rfl rfl rfl rfl rfl ⟨rfl, rfl, rfl, rfl, rfl⟩ rfl rfl rfl rfl rfl (by kernel_rfl) Try.func7 (by kernel_rfl)
    (of_decide_eq_true (by kernel_rfl)) (by unfold Func.isWrapper; first | (rw [if_pos (by decide +kernel)]; kernel_rfl) | (rw [if_neg (by decide +kernel)]; exact ⟨rfl, rfl⟩))
    (fun os started H enc _ => sheetWider_lifted os started H enc)
end Go.Proofs.Ytnbmmopjkkofoaa
