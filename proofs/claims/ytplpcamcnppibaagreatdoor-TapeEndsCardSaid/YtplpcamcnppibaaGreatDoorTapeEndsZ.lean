/-
  The law TapeEnds returns true for every input, and leaves its arguments as they were: the given statement, whole. No condition.
-/
import Derived.Test.YtplpcamcnppibaaGreatDoorCards
import Derived.Test.YtplpcamcnppibaaGreatDoorTie
import Derived.SevenTiedAt
import Derived.Test.YtplpcamcnppibaaGreatDoorTapeEndsN
namespace Go.Proofs.YtplpcamcnppibaaGreatDoor
open Go.ChangeShapes Go.WideShapes Go.ChangeAt Go.RowKit
set_option linter.all false
theorem tapeEnds_pure (xs : List D) (h : Sat [SBrd, SU16s, SU8, SBool] xs) : PureAt Tryz.prog 15 xs (.bool true) := by
  obtain ⟨_, _, rfl, ⟨a1, rfl, h1⟩, _, _, rfl, ⟨a2, rfl, h2⟩, _, _, rfl, ⟨a3, rfl, h3⟩, _, _, rfl, ⟨a4, rfl⟩, rfl⟩ := h
  exact (by
    obtain ⟨x, rfl⟩ : ∃ n : Nat, a3 = n := ⟨a3.toNat, by have := h3.1; omega⟩
    exact TapeEnds_ok a1 a2 x a4 h1.1 (w16_ok h2) (by have := h3.2; omega))
set_option maxRecDepth 100000 in
theorem tapeEnds_lifted (os : Os) (started : os.Started) (H : Type) (enc : TypeId × Value → H) :
    ReturnsInHanded {} Tryz.checked os 15 .any (fun w args => (Rows.tapeEndsSpec.pre enc Tryz.prog Tryz.f15 [] false w args ∧ laidMetH Tryz.prog laidT w) ∧ sizedMet enc Tryz.prog Tryz.f15 (OpenSpec.ofChange Rows.tapeEndsSpec) false w args)
      (Rows.tapeEndsSpec.post enc Tryz.prog Tryz.f15 false true false false) :=
  tape_lifted (ts := [24, 83, 5, 4]) (Ss := [SBrd, SU16s, SU8, SBool]) started (by kernel_rfl) Tryz.func15
    (ChangeSpec.witness_shaped (enc := enc) (C := Tryz.checked) (os := os) (X := fun w _ => laidMetH Tryz.prog laidT w) false (World.doorLaid Tryz.prog 62 os) #[.agg #[.slice none 0 0, .int .i64 0, .int .i64 0], .slice none 0 0, .int .u8 0, .bool false] 8 rfl (World.shaped_of_RefB (by kernel_rfl) (by kernel_rfl)) (by kernel_rfl) (by kernel_rfl) (by kernel_rfl) (door_met os _))
    (by rw [Tryz.params15]) (by kernel_rfl) (by kernel_rfl) Tryz.underlying4 rfl rfl (fun ds h => by match ds, h with | [d1, d2, d3, d4], _ => rfl) ⟨pBrd, pU16s, pU8, pBool, trivial⟩ tapeEnds_pure
set_option maxRecDepth 100000 in
theorem tapeEnds_holds : Rows.TapeEndsSaid :=
  OpenClaim.holds_of_wide 15 Tryz.f15 rfl rfl rfl rfl rfl rfl rfl ⟨rfl, rfl, rfl, rfl, rfl⟩ rfl rfl rfl rfl rfl (by kernel_rfl) Tryz.func15 (by kernel_rfl)
    (of_decide_eq_true (by kernel_rfl)) (by unfold Func.isWrapper; first | (rw [if_pos (by decide +kernel)]; kernel_rfl) | (rw [if_neg (by decide +kernel)]; exact ⟨rfl, rfl⟩))
    (fun os started H enc _ => tapeEnds_lifted os started H enc)
set_option maxRecDepth 100000 in
theorem tapeEnds_card : Rows.TapeEndsCardSaid :=
  Claim7.holds_tied_plain_at .later [] [.data, .data, .data, .sentinel, .sentinel] true (true, "98d68ab6086a03caf112c8a41dc414f7efd8a6fef08516f9d5276302d0756a3a") true
    tapeEnds_holds (fun _ h => by cases h) (by kernel_rfl) (fun _ h => by cases h) tapeEnds_row_tie rfl ⟨rfl, rfl⟩ (by kernel_rfl) rfl
    (fun f fn hf hfn => by
      obtain rfl : f = 15 := Option.some.inj ((show Tryz.prog.funcNamed "contango/contangolaw02.TapeEnds" = some 15 by kernel_rfl).symm.trans hf) |>.symm
      obtain rfl : fn = Tryz.f15 := (Option.some.inj (Tryz.func15.symm.trans hfn)).symm
      exact ⟨by kernel_rfl, fun j t ht => by
        rw [Tryz.params15] at ht
        have hm : t ∈ [24, 83, 5, 4] := by simpa using Array.mem_of_getElem? ht
        have hall : ([24, 83, 5, 4].all fun u => !Tryz.prog.wantsStandIn u) = true := by kernel_rfl
        exact (show Tryz.prog.wantsStandIn t = false by simpa using List.all_eq_true.1 hall t hm)⟩)
    (by kernel_rfl)
end Go.Proofs.YtplpcamcnppibaaGreatDoor
