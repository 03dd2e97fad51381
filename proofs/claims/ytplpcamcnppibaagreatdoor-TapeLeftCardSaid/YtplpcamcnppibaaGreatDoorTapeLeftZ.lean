/-
  The law TapeLeft returns true for every input, and leaves its arguments as they were: the given statement, whole. No condition.
-/
import Derived.Test.YtplpcamcnppibaaGreatDoorCards
import Derived.Test.YtplpcamcnppibaaGreatDoorTie
import Derived.SevenTiedAt
import Derived.Test.YtplpcamcnppibaaGreatDoorTapeLeftN
namespace Go.Proofs.YtplpcamcnppibaaGreatDoor
open Go.ChangeShapes Go.WideShapes Go.ChangeAt Go.RowKit
set_option linter.all false
theorem tapeLeft_pure (xs : List D) (h : Sat [SBrd, SU16s, SU8, SU8] xs) : PureAt Tryz.prog 12 xs (.bool true) := by
  obtain ⟨_, _, rfl, ⟨a1, rfl, h1⟩, _, _, rfl, ⟨a2, rfl, h2⟩, _, _, rfl, ⟨a3, rfl, h3⟩, _, _, rfl, ⟨a4, rfl, h4⟩, rfl⟩ := h
  exact (by
    obtain ⟨x, rfl⟩ : ∃ n : Nat, a3 = n := ⟨a3.toNat, by have := h3.1; omega⟩
    obtain ⟨y, rfl⟩ : ∃ n : Nat, a4 = n := ⟨a4.toNat, by have := h4.1; omega⟩
    exact TapeLeft_ok a1 a2 x y h1.1 (w16_ok h2) (by have := h3.2; omega) (by have := h4.2; omega))
set_option maxRecDepth 100000 in
theorem tapeLeft_lifted (os : Os) (started : os.Started) (H : Type) (enc : TypeId × Value → H) :
    ReturnsInHanded {} Tryz.checked os 12 .any (fun w args => (Rows.tapeLeftSpec.pre enc Tryz.prog Tryz.f12 [] false w args ∧ laidMetH Tryz.prog laidT w) ∧ sizedMet enc Tryz.prog Tryz.f12 (OpenSpec.ofChange Rows.tapeLeftSpec) false w args)
      (Rows.tapeLeftSpec.post enc Tryz.prog Tryz.f12 false true false false) :=
  tape_lifted (ts := [24, 83, 5, 5]) (Ss := [SBrd, SU16s, SU8, SU8]) started (by kernel_rfl) Tryz.func12
    (ChangeSpec.witness_shaped (enc := enc) (C := Tryz.checked) (os := os) (X := fun w _ => laidMetH Tryz.prog laidT w) false (World.doorLaid Tryz.prog 62 os) #[.agg #[.slice none 0 0, .int .i64 0, .int .i64 0], .slice none 0 0, .int .u8 0, .int .u8 0] 8 rfl (World.shaped_of_RefB (by kernel_rfl) (by kernel_rfl)) (by kernel_rfl) (by kernel_rfl) (by kernel_rfl) (door_met os _))
    (by rw [Tryz.params12]) (by kernel_rfl) (by kernel_rfl) Tryz.underlying4 rfl rfl (fun ds h => by match ds, h with | [d1, d2, d3, d4], _ => rfl) ⟨pBrd, pU16s, pU8, pU8, trivial⟩ tapeLeft_pure
set_option maxRecDepth 100000 in
theorem tapeLeft_holds : Rows.TapeLeftSaid :=
  OpenClaim.holds_of_wide 12 Tryz.f12 rfl rfl rfl rfl rfl rfl rfl ⟨rfl, rfl, rfl, rfl, rfl⟩ rfl rfl rfl rfl rfl (by kernel_rfl) Tryz.func12 (by kernel_rfl)
    (of_decide_eq_true (by kernel_rfl)) (by unfold Func.isWrapper; first | (rw [if_pos (by decide +kernel)]; kernel_rfl) | (rw [if_neg (by decide +kernel)]; exact ⟨rfl, rfl⟩))
    (fun os started H enc _ => tapeLeft_lifted os started H enc)
set_option maxRecDepth 100000 in
theorem tapeLeft_card : Rows.TapeLeftCardSaid :=
  Claim7.holds_tied_plain_at .later [] [.data, .data, .data, .sentinel, .sentinel] true (true, "98d68ab6086a03caf112c8a41dc414f7efd8a6fef08516f9d5276302d0756a3a") true
    tapeLeft_holds (fun _ h => by cases h) (by kernel_rfl) (fun _ h => by cases h) tapeLeft_row_tie rfl ⟨rfl, rfl⟩ (by kernel_rfl) rfl
    (fun f fn hf hfn => by
      obtain rfl : f = 12 := Option.some.inj ((show Tryz.prog.funcNamed "contango/contangolaw02.TapeLeft" = some 12 by kernel_rfl).symm.trans hf) |>.symm
      obtain rfl : fn = Tryz.f12 := (Option.some.inj (Tryz.func12.symm.trans hfn)).symm
      exact ⟨by kernel_rfl, fun j t ht => by
        rw [Tryz.params12] at ht
        have hm : t ∈ [24, 83, 5, 5] := by simpa using Array.mem_of_getElem? ht
        have hall : ([24, 83, 5, 5].all fun u => !Tryz.prog.wantsStandIn u) = true := by kernel_rfl
        exact (show Tryz.prog.wantsStandIn t = false by simpa using List.all_eq_true.1 hall t hm)⟩)
    (by kernel_rfl)
end Go.Proofs.YtplpcamcnppibaaGreatDoor
