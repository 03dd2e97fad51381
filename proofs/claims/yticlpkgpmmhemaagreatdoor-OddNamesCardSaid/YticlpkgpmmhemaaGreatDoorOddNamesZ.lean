/-
  The law OddNames returns true for every input, and leaves its arguments as they were: the given statement, whole. No condition.
-/
import Derived.Test.YticlpkgpmmhemaaGreatDoorCards
import Derived.Test.YticlpkgpmmhemaaGreatDoorTie
import Derived.SevenTiedAt
import Derived.Test.YticlpkgpmmhemaaGreatDoorOddNamesYA
namespace Go.Proofs.YticlpkgpmmhemaaGreatDoor
open Go.Proofs.Tryz
open Go.ChangeShapes Go.WideShapes Go.ChangeAt Go.RowKit
set_option linter.all false
theorem oddNames_pure (xs:List D) (h:Sat [] xs):PureAt Tryz.prog 16 xs (.bool true):=by
  obtain rfl:=h
  exact OddNames_ok
set_option maxRecDepth 100000 in
theorem oddNames_lifted (os : Os) (started : os.Started) (H : Type) (enc : TypeId × Value → H) :
    ReturnsInHanded {} Tryz.checked os 16 .any (fun w args=>(Rows.oddNamesSpec.pre enc Tryz.prog Tryz.f16 [] false w args ∧ laidMetH Tryz.prog laidT w) ∧ sizedMet enc Tryz.prog Tryz.f16 (OpenSpec.ofChange Rows.oddNamesSpec) false w args)
      (Rows.oddNamesSpec.post enc Tryz.prog Tryz.f16 false true false false) :=
  tape_lifted (ts:=[]) (Ss:=[]) started (by kernel_rfl) Tryz.func16
    (ChangeSpec.witness_shaped (enc:=enc) (C:=Tryz.checked) (os:=os) (X:=fun w _=>laidMetH Tryz.prog laidT w) false (World.doorLaid Tryz.prog 62 os) #[] 8 rfl (World.shaped_of_RefB (by kernel_rfl) (by kernel_rfl)) (by kernel_rfl) (by kernel_rfl) (by kernel_rfl) (door_met os _))
    (by rw [Tryz.params16]) (by kernel_rfl) (by kernel_rfl) underlying4 rfl rfl (fun ds h=>by match ds,h with | [],_=>rfl) trivial oddNames_pure
set_option maxRecDepth 100000 in
theorem oddNames_closed:joinedFacts Tryz.prog 16 Tryz.f16 Rows.oddNamesSpec Rows.oddNamesRow = true:=by
  unfold joinedFacts
  rw [oddNames_k1,oddNames_k2,oddNames_k3,oddNames_k4,odd_f1,odd_f2,odd_f3,odd_f4,odd_f5,odd_f6,odd_f7,odd_f8,odd_f9]
  kernel_rfl
set_option maxRecDepth 100000 in
theorem oddNames_named : Tryz.prog.funcNamed "contango/contangolaw04.OddNames" = some 16 := by kernel_rfl
set_option maxRecDepth 100000 in
theorem oddNames_inst:Tryz.f16.isInstance Tryz.prog Rows.oddNamesRow.origin Rows.oddNamesRow.targs:=of_decide_eq_true (by kernel_rfl)
set_option maxRecDepth 100000 in
theorem oddNames_wrap:Tryz.f16.isWrapper Tryz.prog Rows.oddNamesRow.wrapper Rows.oddNamesRow.mainSum:=by unfold Func.isWrapper; first | (rw [if_pos (by decide +kernel)]; kernel_rfl) | (rw [if_neg (by decide +kernel)]; exact ⟨rfl,rfl⟩)
set_option maxRecDepth 100000 in
theorem oddNames_holds:Rows.OddNamesSaid :=
  OpenClaim.holds_of_wide 16 Tryz.f16 rfl rfl rfl rfl rfl rfl rfl ⟨rfl,rfl,rfl,rfl,rfl⟩ rfl rfl rfl rfl rfl oddNames_named Tryz.func16 oddNames_closed oddNames_inst oddNames_wrap
    (fun os started H enc _=>oddNames_lifted os started H enc)
set_option maxRecDepth 100000 in
theorem oddNames_card:Rows.OddNamesCardSaid :=
  Claim7.holds_tied_plain_at .later [] [.data, .data, .data, .sentinel, .sentinel] true (true, "13d6838d773188036e6e556810f3f13620426094f1cc565bb7c6eb075301a94f") true
    oddNames_holds (fun _ h=>by cases h) (by kernel_rfl) (fun _ h=>by cases h) oddNames_row_tie rfl ⟨rfl,rfl⟩ (by kernel_rfl) rfl
    (fun f fn hf hfn=>by
      obtain rfl:f = 16:=Option.some.inj (oddNames_named.symm.trans hf) |>.symm
      obtain rfl:fn = Tryz.f16:=(Option.some.inj (Tryz.func16.symm.trans hfn)).symm
      exact ⟨odd_fa.symm,fun j t ht=>by
        rw [Tryz.params16] at ht
        have hm:t ∈ []:=by simpa using Array.mem_of_getElem? ht
        have hall:([].all fun u=>!Tryz.prog.wantsStandIn u) = true:=by kernel_rfl
        exact (show Tryz.prog.wantsStandIn t = false by simpa using List.all_eq_true.1 hall t hm)⟩)
    oddNames_k5
end Go.Proofs.YticlpkgpmmhemaaGreatDoor
