/-
  The law TapeNames returns true for every input, and leaves its arguments as they were: the given statement, whole. No condition.
-/
import Derived.Test.YtplpcamcnppibaaGreatDoorCards
import Derived.Test.YtplpcamcnppibaaGreatDoorTie
import Derived.SevenTiedAt
import Derived.Test.YtplpcamcnppibaaGreatDoorTapeNamesM
namespace Go.Proofs.YtplpcamcnppibaaGreatDoor
open Go.ChangeShapes Go.WideShapes Go.ChangeAt Go.RowKit
set_option linter.all false
theorem tapeNames_pure (xs : List D) (h : Sat [] xs) : PureAt Tryz.prog 14 xs (.bool true) := by
  obtain rfl := h
  exact TapeNames_ok
set_option maxRecDepth 100000 in
theorem tapeNames_lifted (os : Os) (started : os.Started) (H : Type) (enc : TypeId × Value → H) :
    ReturnsInHanded {} Tryz.checked os 14 .any (fun w args => (Rows.tapeNamesSpec.pre enc Tryz.prog Tryz.f14 [] false w args ∧ laidMetH Tryz.prog laidT w) ∧ sizedMet enc Tryz.prog Tryz.f14 (OpenSpec.ofChange Rows.tapeNamesSpec) false w args)
      (Rows.tapeNamesSpec.post enc Tryz.prog Tryz.f14 false true false false) :=
  tape_lifted (ts := []) (Ss := []) started (by kernel_rfl) Tryz.func14
    (ChangeSpec.witness_shaped (enc := enc) (C := Tryz.checked) (os := os) (X := fun w _ => laidMetH Tryz.prog laidT w) false (World.doorLaid Tryz.prog 62 os) #[] 8 rfl (World.shaped_of_RefB (by kernel_rfl) (by kernel_rfl)) (by kernel_rfl) (by kernel_rfl) (by kernel_rfl) (door_met os _))
    (by rw [Tryz.params14]) (by kernel_rfl) (by kernel_rfl) Tryz.underlying4 rfl rfl (fun ds h => by match ds, h with | [], _ => rfl) trivial tapeNames_pure
set_option maxRecDepth 100000 in
theorem tapeNames_holds : Rows.TapeNamesSaid :=
  OpenClaim.holds_of_wide 14 Tryz.f14 rfl rfl rfl rfl rfl rfl rfl ⟨rfl, rfl, rfl, rfl, rfl⟩ rfl rfl rfl rfl rfl (by kernel_rfl) Tryz.func14 (by kernel_rfl)
    (of_decide_eq_true (by kernel_rfl)) (by unfold Func.isWrapper; first | (rw [if_pos (by decide +kernel)]; kernel_rfl) | (rw [if_neg (by decide +kernel)]; exact ⟨rfl, rfl⟩))
    (fun os started H enc _ => tapeNames_lifted os started H enc)
set_option maxRecDepth 100000 in
theorem tapeNames_card : Rows.TapeNamesCardSaid :=
  Claim7.holds_tied_plain_at .later [] [.data, .data, .data, .sentinel, .sentinel] true (true, "98d68ab6086a03caf112c8a41dc414f7efd8a6fef08516f9d5276302d0756a3a") true
    tapeNames_holds (fun _ h => by cases h) (by kernel_rfl) (fun _ h => by cases h) tapeNames_row_tie rfl ⟨rfl, rfl⟩ (by kernel_rfl) rfl
    (fun f fn hf hfn => by
      obtain rfl : f = 14 := Option.some.inj ((show Tryz.prog.funcNamed "contango/contangolaw02.TapeNames" = some 14 by kernel_rfl).symm.trans hf) |>.symm
      obtain rfl : fn = Tryz.f14 := (Option.some.inj (Tryz.func14.symm.trans hfn)).symm
      exact ⟨by kernel_rfl, fun j t ht => by
        rw [Tryz.params14] at ht
        have hm : t ∈ [] := by simpa using Array.mem_of_getElem? ht
        have hall : ([].all fun u => !Tryz.prog.wantsStandIn u) = true := by kernel_rfl
        exact (show Tryz.prog.wantsStandIn t = false by simpa using List.all_eq_true.1 hall t hm)⟩)
    (by kernel_rfl)
end Go.Proofs.YtplpcamcnppibaaGreatDoor
