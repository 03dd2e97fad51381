/-
  The law OddBounds returns true for every input, and leaves its arguments as they were: the given statement, whole. No condition.
-/
import Derived.Test.YticlpkgpmmhemaaGreatDoorCards
import Derived.Test.YticlpkgpmmhemaaGreatDoorTie
import Derived.SevenTiedAt
import Derived.Test.YticlpkgpmmhemaaGreatDoorOddBoundsYB
namespace Go.Proofs.YticlpkgpmmhemaaGreatDoor
open Go.Proofs.Tryz
open Go.ChangeShapes Go.WideShapes Go.ChangeAt Go.RowKit
set_option linter.all false
theorem oddBounds_pure (xs:List D) (h:Sat [SDsk,SInt,SBool] xs):PureAt Tryz.prog 6 xs (.bool true):=by
  obtain ⟨_,_,rfl,⟨a1,rfl,h1⟩,_,_,rfl,⟨a2,rfl,h2⟩,_,_,rfl,⟨a3,rfl⟩,rfl⟩:=h
  exact OddBounds_ok a1 a2 a3 h1
set_option maxRecDepth 100000 in
theorem oddBounds_lifted (os : Os) (started : os.Started) (H : Type) (enc : TypeId × Value → H) :
    ReturnsInHanded {} Tryz.checked os 6 .any (fun w args=>(Rows.oddBoundsSpec.pre enc Tryz.prog Tryz.f6 [] false w args ∧ laidMetH Tryz.prog laidT w) ∧ sizedMet enc Tryz.prog Tryz.f6 (OpenSpec.ofChange Rows.oddBoundsSpec) false w args)
      (Rows.oddBoundsSpec.post enc Tryz.prog Tryz.f6 false true false false) :=
  tape_lifted (ts:=[27,3,4]) (Ss:=[SDsk,SInt,SBool]) started (by kernel_rfl) Tryz.func6
    (ChangeSpec.witness_shaped (enc:=enc) (C:=Tryz.checked) (os:=os) (X:=fun w _=>laidMetH Tryz.prog laidT w) false (World.doorLaid Tryz.prog 62 os) #[.agg #[.slice none 0 0,.int .i64 0,.int .i64 0,.string ⟨#[]⟩,.int .i64 0,.slice none 0 0],.int .i64 0,.bool false] 8 rfl (World.shaped_of_RefB (by kernel_rfl) (by kernel_rfl)) (by kernel_rfl) (by kernel_rfl) (by kernel_rfl) (door_met os _))
    (by rw [Tryz.params6]) (by kernel_rfl) (by kernel_rfl) underlying4 rfl rfl (fun ds h=>by match ds,h with | [d1,d2,d3],_=>rfl) ⟨pDsk,pInt,pBool,trivial⟩ oddBounds_pure
set_option maxRecDepth 100000 in
theorem oddBounds_closed:joinedFacts Tryz.prog 6 Tryz.f6 Rows.oddBoundsSpec Rows.oddBoundsRow = true:=by
  unfold joinedFacts
  rw [oddBounds_k1,oddBounds_k2,oddBounds_k3,oddBounds_k4,odd_f1,odd_f2,odd_f3,odd_f4,odd_f5,odd_f6,odd_f7,odd_f8,odd_f9]
  kernel_rfl
set_option maxRecDepth 100000 in
theorem oddBounds_named : Tryz.prog.funcNamed "contango/contangolaw04.OddBounds" = some 6 := by kernel_rfl
set_option maxRecDepth 100000 in
theorem oddBounds_inst:Tryz.f6.isInstance Tryz.prog Rows.oddBoundsRow.origin Rows.oddBoundsRow.targs:=of_decide_eq_true (by kernel_rfl)
set_option maxRecDepth 100000 in
theorem oddBounds_wrap:Tryz.f6.isWrapper Tryz.prog Rows.oddBoundsRow.wrapper Rows.oddBoundsRow.mainSum:=by unfold Func.isWrapper; first | (rw [if_pos (by decide +kernel)]; kernel_rfl) | (rw [if_neg (by decide +kernel)]; exact ⟨rfl,rfl⟩)
set_option maxRecDepth 100000 in
theorem oddBounds_holds:Rows.OddBoundsSaid :=
  OpenClaim.holds_of_wide 6 Tryz.f6 rfl rfl rfl rfl rfl rfl rfl ⟨rfl,rfl,rfl,rfl,rfl⟩ rfl rfl rfl rfl rfl oddBounds_named Tryz.func6 oddBounds_closed oddBounds_inst oddBounds_wrap
    (fun os started H enc _=>oddBounds_lifted os started H enc)
set_option maxRecDepth 100000 in
theorem oddBounds_card:Rows.OddBoundsCardSaid :=
  Claim7.holds_tied_plain_at .later [] [.data, .data, .data, .sentinel, .sentinel] true (true, "13d6838d773188036e6e556810f3f13620426094f1cc565bb7c6eb075301a94f") true
    oddBounds_holds (fun _ h=>by cases h) (by kernel_rfl) (fun _ h=>by cases h) oddBounds_row_tie rfl ⟨rfl,rfl⟩ (by kernel_rfl) rfl
    (fun f fn hf hfn=>by
      obtain rfl:f = 6:=Option.some.inj (oddBounds_named.symm.trans hf) |>.symm
      obtain rfl:fn = Tryz.f6:=(Option.some.inj (Tryz.func6.symm.trans hfn)).symm
      exact ⟨odd_fa.symm,fun j t ht=>by
        rw [Tryz.params6] at ht
        have hm:t ∈ [27,3,4]:=by simpa using Array.mem_of_getElem? ht
        have hall:([27,3,4].all fun u=>!Tryz.prog.wantsStandIn u) = true:=by kernel_rfl
        exact (show Tryz.prog.wantsStandIn t = false by simpa using List.all_eq_true.1 hall t hm)⟩)
    oddBounds_k5
end Go.Proofs.YticlpkgpmmhemaaGreatDoor
