/-
  The law TopShown returns true for every input, and leaves its arguments as they were: the given statement, whole. No condition.
-/
import Derived.Test.YticlpkgpmmhemaaGreatDoorCards
import Derived.Test.YticlpkgpmmhemaaGreatDoorTie
import Derived.SevenTiedAt
import Derived.Test.YticlpkgpmmhemaaGreatDoorTopShownYA
namespace Go.Proofs.YticlpkgpmmhemaaGreatDoor
open Go.Proofs.Tryz
open Go.ChangeShapes Go.WideShapes Go.ChangeAt Go.RowKit
set_option linter.all false
theorem topShown_pure (xs:List D) (h:Sat [SDsk,SU16s] xs):PureAt Tryz.prog 3 xs (.bool true):=by
  obtain ⟨_,_,rfl,⟨a1,rfl,h1⟩,_,_,rfl,⟨a2,rfl,h2⟩,rfl⟩:=h
  exact TopShown_ok a1 a2 h1 (w16_ok h2)
set_option maxRecDepth 100000 in
theorem topShown_lifted (os : Os) (started : os.Started) (H : Type) (enc : TypeId × Value → H) :
    ReturnsInHanded {} Tryz.checked os 3 .any (fun w args=>(Rows.topShownSpec.pre enc Tryz.prog Tryz.f3 [] false w args ∧ laidMetH Tryz.prog laidT w) ∧ sizedMet enc Tryz.prog Tryz.f3 (OpenSpec.ofChange Rows.topShownSpec) false w args)
      (Rows.topShownSpec.post enc Tryz.prog Tryz.f3 false true false false) :=
  tape_lifted (ts:=[27,28]) (Ss:=[SDsk,SU16s]) started (by kernel_rfl) Tryz.func3
    (ChangeSpec.witness_shaped (enc:=enc) (C:=Tryz.checked) (os:=os) (X:=fun w _=>laidMetH Tryz.prog laidT w) false (World.doorLaid Tryz.prog 62 os) #[.agg #[.slice none 0 0,.int .i64 0,.int .i64 0,.string ⟨#[]⟩,.int .i64 0,.slice none 0 0],.slice none 0 0] 8 rfl (World.shaped_of_RefB (by kernel_rfl) (by kernel_rfl)) (by kernel_rfl) (by kernel_rfl) (by kernel_rfl) (door_met os _))
    (by rw [Tryz.params3]) (by kernel_rfl) (by kernel_rfl) underlying4 rfl rfl (fun ds h=>by match ds,h with | [d1,d2],_=>rfl) ⟨pDsk,pU16s,trivial⟩ topShown_pure
set_option maxRecDepth 100000 in
theorem topShown_closed:joinedFacts Tryz.prog 3 Tryz.f3 Rows.topShownSpec Rows.topShownRow = true:=by
  unfold joinedFacts
  rw [topShown_k1,topShown_k2,topShown_k3,topShown_k4,odd_f1,odd_f2,odd_f3,odd_f4,odd_f5,odd_f6,odd_f7,odd_f8,odd_f9]
  kernel_rfl
set_option maxRecDepth 100000 in
theorem topShown_named : Tryz.prog.funcNamed "contango/contangotop.TopShown" = some 3 := by kernel_rfl
set_option maxRecDepth 100000 in
theorem topShown_inst:Tryz.f3.isInstance Tryz.prog Rows.topShownRow.origin Rows.topShownRow.targs:=of_decide_eq_true (by kernel_rfl)
set_option maxRecDepth 100000 in
theorem topShown_wrap:Tryz.f3.isWrapper Tryz.prog Rows.topShownRow.wrapper Rows.topShownRow.mainSum:=by unfold Func.isWrapper; first | (rw [if_pos (by decide +kernel)]; kernel_rfl) | (rw [if_neg (by decide +kernel)]; exact ⟨rfl,rfl⟩)
set_option maxRecDepth 100000 in
theorem topShown_holds:Rows.TopShownSaid :=
  OpenClaim.holds_of_wide 3 Tryz.f3 rfl rfl rfl rfl rfl rfl rfl ⟨rfl,rfl,rfl,rfl,rfl⟩ rfl rfl rfl rfl rfl topShown_named Tryz.func3 topShown_closed topShown_inst topShown_wrap
    (fun os started H enc _=>topShown_lifted os started H enc)
set_option maxRecDepth 100000 in
theorem topShown_card:Rows.TopShownCardSaid :=
  Claim7.holds_tied_plain_at .later [] [.data, .data, .data, .sentinel, .sentinel] true (true, "13d6838d773188036e6e556810f3f13620426094f1cc565bb7c6eb075301a94f") true
    topShown_holds (fun _ h=>by cases h) (by kernel_rfl) (fun _ h=>by cases h) topShown_row_tie rfl ⟨rfl,rfl⟩ (by kernel_rfl) rfl
    (fun f fn hf hfn=>by
      obtain rfl:f = 3:=Option.some.inj (topShown_named.symm.trans hf) |>.symm
      obtain rfl:fn = Tryz.f3:=(Option.some.inj (Tryz.func3.symm.trans hfn)).symm
      exact ⟨odd_fa.symm,fun j t ht=>by
        rw [Tryz.params3] at ht
        have hm:t ∈ [27,28]:=by simpa using Array.mem_of_getElem? ht
        have hall:([27,28].all fun u=>!Tryz.prog.wantsStandIn u) = true:=by kernel_rfl
        exact (show Tryz.prog.wantsStandIn t = false by simpa using List.all_eq_true.1 hall t hm)⟩)
    topShown_k5
end Go.Proofs.YticlpkgpmmhemaaGreatDoor
