/-
  The law OddPlays returns true for every input, and leaves its arguments as they were: the given statement, whole. No condition.
-/
import Derived.Test.YticlpkgpmmhemaaGreatDoorCards
import Derived.Test.YticlpkgpmmhemaaGreatDoorTie
import Derived.SevenTiedAt
import Derived.Test.YticlpkgpmmhemaaGreatDoorOddPlaysY
namespace Go.Proofs.YticlpkgpmmhemaaGreatDoor
open Go.Proofs.Tryz
open Go.ChangeShapes Go.WideShapes Go.ChangeAt Go.RowKit
set_option linter.all false
theorem oddPlays_pure (xs : List D) (h : Sat [SDsk, STru] xs) : PureAt Tryz.prog 15 xs (.bool true) := by
  obtain ⟨_, _, rfl, ⟨a1, rfl, h1⟩, _, _, rfl, ⟨a2, rfl⟩, rfl⟩ := h
  exact OddPlays_ok a1 a2 h1
set_option maxRecDepth 100000 in
theorem oddPlays_lifted (os : Os) (started : os.Started) (H : Type) (enc : TypeId × Value → H) :
    ReturnsInHanded {} Tryz.checked os 15 .any (fun w args => (Rows.oddPlaysSpec.pre enc Tryz.prog Tryz.f15 [] false w args ∧ laidMetH Tryz.prog laidT w) ∧ sizedMet enc Tryz.prog Tryz.f15 (OpenSpec.ofChange Rows.oddPlaysSpec) false w args)
      (Rows.oddPlaysSpec.post enc Tryz.prog Tryz.f15 false true false false) :=
  tape_lifted (ts := [27, 31]) (Ss := [SDsk, STru]) started (by kernel_rfl) Tryz.func15
    (ChangeSpec.witness_shaped (enc := enc) (C := Tryz.checked) (os := os) (X := fun w _ => laidMetH Tryz.prog laidT w) false (World.doorLaid Tryz.prog 62 os) #[.agg #[.slice none 0 0, .int .i64 0, .int .i64 0, .string ⟨#[]⟩, .int .i64 0, .slice none 0 0], .agg #[.slice none 0 0, .slice none 0 0, .slice none 0 0]] 8 rfl (World.shaped_of_RefB (by kernel_rfl) (by kernel_rfl)) (by kernel_rfl) (by kernel_rfl) (by kernel_rfl) (door_met os _))
    (by rw [Tryz.params15]) (by kernel_rfl) (by kernel_rfl) underlying4 rfl rfl (fun ds h => by match ds, h with | [d1, d2], _ => rfl) ⟨pDsk, pTru, trivial⟩ oddPlays_pure
set_option maxRecDepth 100000 in
theorem oddPlays_closed : joinedFacts Tryz.prog 15 Tryz.f15 Rows.oddPlaysSpec Rows.oddPlaysRow = true := by
  unfold joinedFacts
  rw [oddPlays_k1, oddPlays_k2, oddPlays_k3, oddPlays_k4, odd_f1, odd_f2, odd_f3, odd_f4, odd_f5, odd_f6, odd_f7, odd_f8, odd_f9]
  kernel_rfl
set_option maxRecDepth 100000 in
theorem oddPlays_named : Tryz.prog.funcNamed "contango/contangolaw04.OddPlays" = some 15 := by kernel_rfl
set_option maxRecDepth 100000 in
theorem oddPlays_inst : Tryz.f15.isInstance Tryz.prog Rows.oddPlaysRow.origin Rows.oddPlaysRow.targs := of_decide_eq_true (by kernel_rfl)
set_option maxRecDepth 100000 in
theorem oddPlays_wrap : Tryz.f15.isWrapper Tryz.prog Rows.oddPlaysRow.wrapper Rows.oddPlaysRow.mainSum := by unfold Func.isWrapper; first | (rw [if_pos (by decide +kernel)]; kernel_rfl) | (rw [if_neg (by decide +kernel)]; exact ⟨rfl, rfl⟩)
set_option maxRecDepth 100000 in
theorem oddPlays_holds : Rows.OddPlaysSaid :=
  OpenClaim.holds_of_wide 15 Tryz.f15 rfl rfl rfl rfl rfl rfl rfl ⟨rfl, rfl, rfl, rfl, rfl⟩ rfl rfl rfl rfl rfl oddPlays_named Tryz.func15 oddPlays_closed oddPlays_inst oddPlays_wrap
    (fun os started H enc _ => oddPlays_lifted os started H enc)
set_option maxRecDepth 100000 in
theorem oddPlays_card : Rows.OddPlaysCardSaid :=
  Claim7.holds_tied_plain_at .later [] [.data, .data, .data, .sentinel, .sentinel] true (true, "13d6838d773188036e6e556810f3f13620426094f1cc565bb7c6eb075301a94f") true
    oddPlays_holds (fun _ h => by cases h) (by kernel_rfl) (fun _ h => by cases h) oddPlays_row_tie rfl ⟨rfl, rfl⟩ (by kernel_rfl) rfl
    (fun f fn hf hfn => by
      obtain rfl : f = 15 := Option.some.inj (oddPlays_named.symm.trans hf) |>.symm
      obtain rfl : fn = Tryz.f15 := (Option.some.inj (Tryz.func15.symm.trans hfn)).symm
      exact ⟨odd_fa.symm, fun j t ht => by
        rw [Tryz.params15] at ht
        have hm : t ∈ [27, 31] := by simpa using Array.mem_of_getElem? ht
        have hall : ([27, 31].all fun u => !Tryz.prog.wantsStandIn u) = true := by kernel_rfl
        exact (show Tryz.prog.wantsStandIn t = false by simpa using List.all_eq_true.1 hall t hm)⟩)
    oddPlays_k5
end Go.Proofs.YticlpkgpmmhemaaGreatDoor
