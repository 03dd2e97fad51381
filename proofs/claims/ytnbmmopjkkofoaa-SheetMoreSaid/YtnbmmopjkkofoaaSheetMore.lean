/-
  contangolaw05.SheetMore returns true for every input, and leaves its arguments as they were: the given statement, whole. No condition.
-/
import Derived.Test.YtnbmmopjkkofoaaRegs2
import Derived.Test.YtnbmmopjkkofoaaW16
namespace Go.Proofs.Ytnbmmopjkkofoaa
open Go.ChangeShapes Go.WideShapes Go.ChangeAt Go.RowKit
set_option linter.all false
theorem SheetMore_pure (xs : List D) (h : Sat [SReg, SSight, SU8, SU8, SU8] xs) : PureAt Try.prog 6 xs (.bool true) := by
  obtain ⟨_, _, rfl, ⟨a1, rfl, h1⟩, _, _, rfl, ⟨a2, rfl, h2⟩, _, _, rfl, ⟨a3, rfl, h3⟩, _, _, rfl, ⟨a4, rfl, h4⟩, _, _, rfl, ⟨a5, rfl, h5⟩, rfl⟩ := h
  exact PureAt.of_eff (ds := [regD a1, .agg (sightE a2), .int .u8 (a3 : Nat), .int .u8 (a4 : Nat), .int .u8 (a5 : Nat)]) (SheetMore_eff a1 a2 a3 a4 a5 h1.2.2.2 h3 h4 h5)
set_option maxRecDepth 100000 in
theorem sheetMore_lifted (os : Os) (started : os.Started) (H : Type) (enc : TypeId × Value → H) :
    ReturnsInHanded {} Try.checked os 6 .any (Rows.sheetMoreSpec.pre6 enc Try.prog Try.f6 Rows.sheetMoreRow.domain false) (Rows.sheetMoreSpec.post enc Try.prog Try.f6 false true false false) := by
  refine returnsInHanded_of_change_sized (C := Try.checked) own started (by kernel_rfl) Try.func6
    (ChangeSpec.witness6 (enc := enc) (C := Try.checked) false ⟨#[], #[.agg #[.int .i64 0, .slice none 0 0, .slice none 0 0, .slice none 0 0], .agg #[.int .i64 0, .int .i64 0, .int .i64 0], .int .u8 0, .int .u8 0, .int .u8 0], []⟩ 8 (by kernel_rfl) (by kernel_rfl) (by kernel_rfl) (by kernel_rfl)) ?_
  intro W base args ds gs before hval hW _ hz _
  exact law_contract (ts := [26, 59, 5, 5, 5]) (Ss := [SReg, SSight, SU8, SU8, SU8]) laidOut (by rw [Try.params6]) (by kernel_rfl) (by kernel_rfl) Try.underlying4 rfl rfl
    (fun ds h => by match ds, h with | [d1, d2, d3, d4, d5], _ => rfl) ⟨pReg, pSight, pU8, pU8, pU8, trivial⟩ SheetMore_pure W base args ds gs before hval hW hz
theorem sheetMore_holds : Rows.SheetMoreSaid :=
  OpenClaim.holds_of_wide 6 Try.f6 rfl rfl rfl rfl rfl rfl rfl ⟨rfl, rfl, rfl, rfl, rfl⟩ rfl rfl rfl rfl rfl (by kernel_rfl) Try.func6 (by kernel_rfl)
    (of_decide_eq_true (by kernel_rfl)) (by unfold Func.isWrapper; first | (rw [if_pos (by decide +kernel)]; kernel_rfl) | (rw [if_neg (by decide +kernel)]; exact ⟨rfl, rfl⟩))
    (fun os started H enc _ => sheetMore_lifted os started H enc)
end Go.Proofs.Ytnbmmopjkkofoaa
