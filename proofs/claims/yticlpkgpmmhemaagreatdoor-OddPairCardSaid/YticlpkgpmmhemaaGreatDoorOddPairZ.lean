/-
  The law OddPair returns true for every input, and leaves its arguments as they were: the given statement, whole. No condition.
-/
import Derived.Test.YticlpkgpmmhemaaGreatDoorCards
import Derived.Test.YticlpkgpmmhemaaGreatDoorTie
import Derived.SevenTiedAt
import Derived.Test.YticlpkgpmmhemaaGreatDoorOddPairYB
namespace Go.Proofs.YticlpkgpmmhemaaGreatDoor
open Go.Proofs.Tryz
open Go.ChangeShapes Go.WideShapes Go.ChangeAt Go.RowKit
set_option linter.all false
theorem oddPair_pure (xs:List D) (h:Sat [SDsk,SU16s,SU8] xs):PureAt Tryz.prog 12 xs (.bool true):=by
  obtain ⟨_,_,rfl,⟨a1,rfl,h1⟩,_,_,rfl,⟨a2,rfl,h2⟩,_,_,rfl,⟨a3,rfl,h3⟩,rfl⟩:=h
  exact by obtain ⟨n,rfl⟩:∃ n:Nat,a3 = (n:Nat):=⟨a3.toNat,by omega⟩; exact OddPair_ok a1 a2 n h1 (w16_ok h2) (by omega)
set_option maxRecDepth 100000 in
theorem oddPair_lifted (os : Os) (started : os.Started) (H : Type) (enc : TypeId × Value → H) :
    ReturnsInHanded {} Tryz.checked os 12 .any (fun w args=>(Rows.oddPairSpec.pre enc Tryz.prog Tryz.f12 [] false w args ∧ laidMetH Tryz.prog laidT w) ∧ sizedMet enc Tryz.prog Tryz.f12 (OpenSpec.ofChange Rows.oddPairSpec) false w args)
      (Rows.oddPairSpec.post enc Tryz.prog Tryz.f12 false true false false) :=
  tape_lifted (ts:=[27,28,5]) (Ss:=[SDsk,SU16s,SU8]) started (by kernel_rfl) Tryz.func12
    (ChangeSpec.witness_shaped (enc:=enc) (C:=Tryz.checked) (os:=os) (X:=fun w _=>laidMetH Tryz.prog laidT w) false (World.doorLaid Tryz.prog 62 os) #[.agg #[.slice none 0 0,.int .i64 0,.int .i64 0,.string ⟨#[]⟩,.int .i64 0,.slice none 0 0],.slice none 0 0,.int .u8 0] 8 rfl (World.shaped_of_RefB (by kernel_rfl) (by kernel_rfl)) (by kernel_rfl) (by kernel_rfl) (by kernel_rfl) (door_met os _))
    (by rw [Tryz.params12]) (by kernel_rfl) (by kernel_rfl) underlying4 rfl rfl (fun ds h=>by match ds,h with | [d1,d2,d3],_=>rfl) ⟨pDsk,pU16s,pU8,trivial⟩ oddPair_pure
set_option maxRecDepth 100000 in
theorem oddPair_closed:joinedFacts Tryz.prog 12 Tryz.f12 Rows.oddPairSpec Rows.oddPairRow = true:=by
  unfold joinedFacts
  rw [oddPair_k1,oddPair_k2,oddPair_k3,oddPair_k4,odd_f1,odd_f2,odd_f3,odd_f4,odd_f5,odd_f6,odd_f7,odd_f8,odd_f9]
  kernel_rfl
set_option maxRecDepth 100000 in
theorem oddPair_named : Tryz.prog.funcNamed "contango/contangolaw04.OddPair" = some 12 := by kernel_rfl
set_option maxRecDepth 100000 in
theorem oddPair_inst:Tryz.f12.isInstance Tryz.prog Rows.oddPairRow.origin Rows.oddPairRow.targs:=of_decide_eq_true (by kernel_rfl)
set_option maxRecDepth 100000 in
theorem oddPair_wrap:Tryz.f12.isWrapper Tryz.prog Rows.oddPairRow.wrapper Rows.oddPairRow.mainSum:=by unfold Func.isWrapper; first | (rw [if_pos (by decide +kernel)]; kernel_rfl) | (rw [if_neg (by decide +kernel)]; exact ⟨rfl,rfl⟩)
set_option maxRecDepth 100000 in
theorem oddPair_holds:Rows.OddPairSaid :=
  OpenClaim.holds_of_wide 12 Tryz.f12 rfl rfl rfl rfl rfl rfl rfl ⟨rfl,rfl,rfl,rfl,rfl⟩ rfl rfl rfl rfl rfl oddPair_named Tryz.func12 oddPair_closed oddPair_inst oddPair_wrap
    (fun os started H enc _=>oddPair_lifted os started H enc)
set_option maxRecDepth 100000 in
theorem oddPair_card:Rows.OddPairCardSaid :=
  Claim7.holds_tied_plain_at .later [] [.data, .data, .data, .sentinel, .sentinel] true (true, "13d6838d773188036e6e556810f3f13620426094f1cc565bb7c6eb075301a94f") true
    oddPair_holds (fun _ h=>by cases h) (by kernel_rfl) (fun _ h=>by cases h) oddPair_row_tie rfl ⟨rfl,rfl⟩ (by kernel_rfl) rfl
    (fun f fn hf hfn=>by
      obtain rfl:f = 12:=Option.some.inj (oddPair_named.symm.trans hf) |>.symm
      obtain rfl:fn = Tryz.f12:=(Option.some.inj (Tryz.func12.symm.trans hfn)).symm
      exact ⟨odd_fa.symm,fun j t ht=>by
        rw [Tryz.params12] at ht
        have hm:t ∈ [27,28,5]:=by simpa using Array.mem_of_getElem? ht
        have hall:([27,28,5].all fun u=>!Tryz.prog.wantsStandIn u) = true:=by kernel_rfl
        exact (show Tryz.prog.wantsStandIn t = false by simpa using List.all_eq_true.1 hall t hm)⟩)
    oddPair_k5
end Go.Proofs.YticlpkgpmmhemaaGreatDoor
