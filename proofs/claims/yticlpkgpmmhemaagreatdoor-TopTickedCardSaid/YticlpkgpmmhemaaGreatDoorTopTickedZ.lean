/-
  The law TopTicked returns true for every input, and leaves its arguments as they were: the given statement, whole. No condition.
-/
import Derived.Test.YticlpkgpmmhemaaGreatDoorCards
import Derived.Test.YticlpkgpmmhemaaGreatDoorTie
import Derived.SevenTiedAt
import Derived.Test.YticlpkgpmmhemaaGreatDoorTopTickedX
namespace Go.Proofs.YticlpkgpmmhemaaGreatDoor
open Go.Proofs.Tryz
open Go.ChangeShapes Go.WideShapes Go.ChangeAt Go.RowKit
set_option linter.all false
theorem topTicked_pure (xs:List D) (h:Sat [SPos,SBrd,SU8s,SU8] xs):PureAt Tryz.prog 4 xs (.bool true):=by
  obtain ⟨_,_,rfl,⟨a1,rfl⟩,_,_,rfl,⟨a2,rfl,h2⟩,_,_,rfl,⟨a3,rfl,h3⟩,_,_,rfl,⟨a4,rfl,h4⟩,rfl⟩:=h
  exact TopTicked_ok a1 a2 a3 a4 h2.1 (w8_ok h3) h4
set_option maxRecDepth 100000 in
theorem topTicked_lifted (os : Os) (started : os.Started) (H : Type) (enc : TypeId × Value → H) :
    ReturnsInHanded {} Tryz.checked os 4 .any (fun w args=>(Rows.topTickedSpec.pre enc Tryz.prog Tryz.f4 [] false w args ∧ laidMetH Tryz.prog laidT w) ∧ sizedMet enc Tryz.prog Tryz.f4 (OpenSpec.ofChange Rows.topTickedSpec) false w args)
      (Rows.topTickedSpec.post enc Tryz.prog Tryz.f4 false true false false) :=
  tape_lifted (ts:=[77,24,78,5]) (Ss:=[SPos,SBrd,SU8s,SU8]) started (by kernel_rfl) Tryz.func4
    (ChangeSpec.witness_shaped (enc:=enc) (C:=Tryz.checked) (os:=os) (X:=fun w _=>laidMetH Tryz.prog laidT w) false (World.doorLaid Tryz.prog 62 os) #[.agg #[.slice none 0 0],.agg #[.slice none 0 0,.int .i64 0,.int .i64 0],.slice none 0 0,.int .u8 0] 8 rfl (World.shaped_of_RefB (by kernel_rfl) (by kernel_rfl)) (by kernel_rfl) (by kernel_rfl) (by kernel_rfl) (door_met os _))
    (by rw [Tryz.params4]) (by kernel_rfl) (by kernel_rfl) underlying4 rfl rfl (fun ds h=>by match ds,h with | [d1,d2,d3,d4],_=>rfl) ⟨pPos,pBrd,pU8s,pU8,trivial⟩ topTicked_pure
set_option maxRecDepth 100000 in
theorem topTicked_closed:joinedFacts Tryz.prog 4 Tryz.f4 Rows.topTickedSpec Rows.topTickedRow = true:=by
  unfold joinedFacts
  rw [topTicked_k1,topTicked_k2,topTicked_k3,topTicked_k4,odd_f1,odd_f2,odd_f3,odd_f4,odd_f5,odd_f6,odd_f7,odd_f8,odd_f9]
  kernel_rfl
set_option maxRecDepth 100000 in
theorem topTicked_named : Tryz.prog.funcNamed "contango/contangotop.TopTicked" = some 4 := by kernel_rfl
set_option maxRecDepth 100000 in
theorem topTicked_inst:Tryz.f4.isInstance Tryz.prog Rows.topTickedRow.origin Rows.topTickedRow.targs:=of_decide_eq_true (by kernel_rfl)
set_option maxRecDepth 100000 in
theorem topTicked_wrap:Tryz.f4.isWrapper Tryz.prog Rows.topTickedRow.wrapper Rows.topTickedRow.mainSum:=by unfold Func.isWrapper; first | (rw [if_pos (by decide +kernel)]; kernel_rfl) | (rw [if_neg (by decide +kernel)]; exact ⟨rfl,rfl⟩)
set_option maxRecDepth 100000 in
theorem topTicked_holds:Rows.TopTickedSaid :=
  OpenClaim.holds_of_wide 4 Tryz.f4 rfl rfl rfl rfl rfl rfl rfl ⟨rfl,rfl,rfl,rfl,rfl⟩ rfl rfl rfl rfl rfl topTicked_named Tryz.func4 topTicked_closed topTicked_inst topTicked_wrap
    (fun os started H enc _=>topTicked_lifted os started H enc)
set_option maxRecDepth 100000 in
theorem topTicked_card:Rows.TopTickedCardSaid :=
  Claim7.holds_tied_plain_at .later [] [.data, .data, .data, .sentinel, .sentinel] true (true, "13d6838d773188036e6e556810f3f13620426094f1cc565bb7c6eb075301a94f") true
    topTicked_holds (fun _ h=>by cases h) (by kernel_rfl) (fun _ h=>by cases h) topTicked_row_tie rfl ⟨rfl,rfl⟩ (by kernel_rfl) rfl
    (fun f fn hf hfn=>by
      obtain rfl:f = 4:=Option.some.inj (topTicked_named.symm.trans hf) |>.symm
      obtain rfl:fn = Tryz.f4:=(Option.some.inj (Tryz.func4.symm.trans hfn)).symm
      exact ⟨odd_fa.symm,fun j t ht=>by
        rw [Tryz.params4] at ht
        have hm:t ∈ [77,24,78,5]:=by simpa using Array.mem_of_getElem? ht
        have hall:([77,24,78,5].all fun u=>!Tryz.prog.wantsStandIn u) = true:=by kernel_rfl
        exact (show Tryz.prog.wantsStandIn t = false by simpa using List.all_eq_true.1 hall t hm)⟩)
    topTicked_k5
end Go.Proofs.YticlpkgpmmhemaaGreatDoor
