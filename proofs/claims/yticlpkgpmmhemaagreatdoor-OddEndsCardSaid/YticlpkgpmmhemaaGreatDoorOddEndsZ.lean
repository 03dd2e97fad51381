/-
  The law OddEnds returns true for every input, and leaves its arguments as they were: the given statement, whole. No condition.
-/
import Derived.Test.YticlpkgpmmhemaaGreatDoorCards
import Derived.Test.YticlpkgpmmhemaaGreatDoorTie
import Derived.SevenTiedAt
import Derived.Test.YticlpkgpmmhemaaGreatDoorOddEndsYB
namespace Go.Proofs.YticlpkgpmmhemaaGreatDoor
open Go.Proofs.Tryz
open Go.ChangeShapes Go.WideShapes Go.ChangeAt Go.RowKit
set_option linter.all false
theorem oddEnds_pure (xs:List D) (h:Sat [SDsk,SU16s,SU8,SBool] xs):PureAt Tryz.prog 8 xs (.bool true):=by
  obtain ⟨_,_,rfl,⟨a1,rfl,h1⟩,_,_,rfl,⟨a2,rfl,h2⟩,_,_,rfl,⟨a3,rfl,h3⟩,_,_,rfl,⟨a4,rfl⟩,rfl⟩:=h
  exact by obtain ⟨n,rfl⟩:∃ n:Nat,a3 = (n:Nat):=⟨a3.toNat,by omega⟩; exact OddEnds_ok a1 a2 n a4 h1 (w16_ok h2) (by omega)
set_option maxRecDepth 100000 in
theorem oddEnds_lifted (os : Os) (started : os.Started) (H : Type) (enc : TypeId × Value → H) :
    ReturnsInHanded {} Tryz.checked os 8 .any (fun w args=>(Rows.oddEndsSpec.pre enc Tryz.prog Tryz.f8 [] false w args ∧ laidMetH Tryz.prog laidT w) ∧ sizedMet enc Tryz.prog Tryz.f8 (OpenSpec.ofChange Rows.oddEndsSpec) false w args)
      (Rows.oddEndsSpec.post enc Tryz.prog Tryz.f8 false true false false) :=
  tape_lifted (ts:=[27,28,5,4]) (Ss:=[SDsk,SU16s,SU8,SBool]) started (by kernel_rfl) Tryz.func8
    (ChangeSpec.witness_shaped (enc:=enc) (C:=Tryz.checked) (os:=os) (X:=fun w _=>laidMetH Tryz.prog laidT w) false (World.doorLaid Tryz.prog 62 os) #[.agg #[.slice none 0 0,.int .i64 0,.int .i64 0,.string ⟨#[]⟩,.int .i64 0,.slice none 0 0],.slice none 0 0,.int .u8 0,.bool false] 8 rfl (World.shaped_of_RefB (by kernel_rfl) (by kernel_rfl)) (by kernel_rfl) (by kernel_rfl) (by kernel_rfl) (door_met os _))
    (by rw [Tryz.params8]) (by kernel_rfl) (by kernel_rfl) underlying4 rfl rfl (fun ds h=>by match ds,h with | [d1,d2,d3,d4],_=>rfl) ⟨pDsk,pU16s,pU8,pBool,trivial⟩ oddEnds_pure
set_option maxRecDepth 100000 in
theorem oddEnds_closed:joinedFacts Tryz.prog 8 Tryz.f8 Rows.oddEndsSpec Rows.oddEndsRow = true:=by
  unfold joinedFacts
  rw [oddEnds_k1,oddEnds_k2,oddEnds_k3,oddEnds_k4,odd_f1,odd_f2,odd_f3,odd_f4,odd_f5,odd_f6,odd_f7,odd_f8,odd_f9]
  kernel_rfl
set_option maxRecDepth 100000 in
theorem oddEnds_named : Tryz.prog.funcNamed "contango/contangolaw04.OddEnds" = some 8 := by kernel_rfl
set_option maxRecDepth 100000 in
theorem oddEnds_inst:Tryz.f8.isInstance Tryz.prog Rows.oddEndsRow.origin Rows.oddEndsRow.targs:=of_decide_eq_true (by kernel_rfl)
set_option maxRecDepth 100000 in
theorem oddEnds_wrap:Tryz.f8.isWrapper Tryz.prog Rows.oddEndsRow.wrapper Rows.oddEndsRow.mainSum:=by unfold Func.isWrapper; first | (rw [if_pos (by decide +kernel)]; kernel_rfl) | (rw [if_neg (by decide +kernel)]; exact ⟨rfl,rfl⟩)
set_option maxRecDepth 100000 in
theorem oddEnds_holds:Rows.OddEndsSaid :=
  OpenClaim.holds_of_wide 8 Tryz.f8 rfl rfl rfl rfl rfl rfl rfl ⟨rfl,rfl,rfl,rfl,rfl⟩ rfl rfl rfl rfl rfl oddEnds_named Tryz.func8 oddEnds_closed oddEnds_inst oddEnds_wrap
    (fun os started H enc _=>oddEnds_lifted os started H enc)
set_option maxRecDepth 100000 in
theorem oddEnds_card:Rows.OddEndsCardSaid :=
  Claim7.holds_tied_plain_at .later [] [.data, .data, .data, .sentinel, .sentinel] true (true, "13d6838d773188036e6e556810f3f13620426094f1cc565bb7c6eb075301a94f") true
    oddEnds_holds (fun _ h=>by cases h) (by kernel_rfl) (fun _ h=>by cases h) oddEnds_row_tie rfl ⟨rfl,rfl⟩ (by kernel_rfl) rfl
    (fun f fn hf hfn=>by
      obtain rfl:f = 8:=Option.some.inj (oddEnds_named.symm.trans hf) |>.symm
      obtain rfl:fn = Tryz.f8:=(Option.some.inj (Tryz.func8.symm.trans hfn)).symm
      exact ⟨odd_fa.symm,fun j t ht=>by
        rw [Tryz.params8] at ht
        have hm:t ∈ [27,28,5,4]:=by simpa using Array.mem_of_getElem? ht
        have hall:([27,28,5,4].all fun u=>!Tryz.prog.wantsStandIn u) = true:=by kernel_rfl
        exact (show Tryz.prog.wantsStandIn t = false by simpa using List.all_eq_true.1 hall t hm)⟩)
    oddEnds_k5
end Go.Proofs.YticlpkgpmmhemaaGreatDoor
