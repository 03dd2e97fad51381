/-
  The law OddMore returns true for every input, and leaves its arguments as they were: the given statement, whole. No condition.
-/
import Derived.Test.YticlpkgpmmhemaaGreatDoorCards
import Derived.Test.YticlpkgpmmhemaaGreatDoorTie
import Derived.SevenTiedAt
import Derived.Test.YticlpkgpmmhemaaGreatDoorOddMoreYB
namespace Go.Proofs.YticlpkgpmmhemaaGreatDoor
open Go.Proofs.Tryz
open Go.ChangeShapes Go.WideShapes Go.ChangeAt Go.RowKit
set_option linter.all false
theorem oddMore_pure (xs:List D) (h:Sat [SDsk,SU16s,SU8,SU8] xs):PureAt Tryz.prog 11 xs (.bool true):=by
  obtain ⟨_,_,rfl,⟨a1,rfl,h1⟩,_,_,rfl,⟨a2,rfl,h2⟩,_,_,rfl,⟨a3,rfl,h3⟩,_,_,rfl,⟨a4,rfl,h4⟩,rfl⟩:=h
  exact by obtain ⟨n,rfl⟩:∃ n:Nat,a3 = (n:Nat):=⟨a3.toNat,by omega⟩; obtain ⟨m,rfl⟩:∃ m:Nat,a4 = (m:Nat):=⟨a4.toNat,by omega⟩; exact OddMore_ok a1 a2 n m h1 (w16_ok h2) (by omega) (by omega)
set_option maxRecDepth 100000 in
theorem oddMore_lifted (os : Os) (started : os.Started) (H : Type) (enc : TypeId × Value → H) :
    ReturnsInHanded {} Tryz.checked os 11 .any (fun w args=>(Rows.oddMoreSpec.pre enc Tryz.prog Tryz.f11 [] false w args ∧ laidMetH Tryz.prog laidT w) ∧ sizedMet enc Tryz.prog Tryz.f11 (OpenSpec.ofChange Rows.oddMoreSpec) false w args)
      (Rows.oddMoreSpec.post enc Tryz.prog Tryz.f11 false true false false) :=
  tape_lifted (ts:=[27,28,5,5]) (Ss:=[SDsk,SU16s,SU8,SU8]) started (by kernel_rfl) Tryz.func11
    (ChangeSpec.witness_shaped (enc:=enc) (C:=Tryz.checked) (os:=os) (X:=fun w _=>laidMetH Tryz.prog laidT w) false (World.doorLaid Tryz.prog 62 os) #[.agg #[.slice none 0 0,.int .i64 0,.int .i64 0,.string ⟨#[]⟩,.int .i64 0,.slice none 0 0],.slice none 0 0,.int .u8 0,.int .u8 0] 8 rfl (World.shaped_of_RefB (by kernel_rfl) (by kernel_rfl)) (by kernel_rfl) (by kernel_rfl) (by kernel_rfl) (door_met os _))
    (by rw [Tryz.params11]) (by kernel_rfl) (by kernel_rfl) underlying4 rfl rfl (fun ds h=>by match ds,h with | [d1,d2,d3,d4],_=>rfl) ⟨pDsk,pU16s,pU8,pU8,trivial⟩ oddMore_pure
set_option maxRecDepth 100000 in
theorem oddMore_closed:joinedFacts Tryz.prog 11 Tryz.f11 Rows.oddMoreSpec Rows.oddMoreRow = true:=by
  unfold joinedFacts
  rw [oddMore_k1,oddMore_k2,oddMore_k3,oddMore_k4,odd_f1,odd_f2,odd_f3,odd_f4,odd_f5,odd_f6,odd_f7,odd_f8,odd_f9]
  kernel_rfl
set_option maxRecDepth 100000 in
theorem oddMore_named : Tryz.prog.funcNamed "contango/contangolaw04.OddMore" = some 11 := by kernel_rfl
set_option maxRecDepth 100000 in
theorem oddMore_inst:Tryz.f11.isInstance Tryz.prog Rows.oddMoreRow.origin Rows.oddMoreRow.targs:=of_decide_eq_true (by kernel_rfl)
set_option maxRecDepth 100000 in
theorem oddMore_wrap:Tryz.f11.isWrapper Tryz.prog Rows.oddMoreRow.wrapper Rows.oddMoreRow.mainSum:=by unfold Func.isWrapper; first | (rw [if_pos (by decide +kernel)]; kernel_rfl) | (rw [if_neg (by decide +kernel)]; exact ⟨rfl,rfl⟩)
set_option maxRecDepth 100000 in
theorem oddMore_holds:Rows.OddMoreSaid :=
  OpenClaim.holds_of_wide 11 Tryz.f11 rfl rfl rfl rfl rfl rfl rfl ⟨rfl,rfl,rfl,rfl,rfl⟩ rfl rfl rfl rfl rfl oddMore_named Tryz.func11 oddMore_closed oddMore_inst oddMore_wrap
    (fun os started H enc _=>oddMore_lifted os started H enc)
set_option maxRecDepth 100000 in
theorem oddMore_card:Rows.OddMoreCardSaid :=
  Claim7.holds_tied_plain_at .later [] [.data, .data, .data, .sentinel, .sentinel] true (true, "13d6838d773188036e6e556810f3f13620426094f1cc565bb7c6eb075301a94f") true
    oddMore_holds (fun _ h=>by cases h) (by kernel_rfl) (fun _ h=>by cases h) oddMore_row_tie rfl ⟨rfl,rfl⟩ (by kernel_rfl) rfl
    (fun f fn hf hfn=>by
      obtain rfl:f = 11:=Option.some.inj (oddMore_named.symm.trans hf) |>.symm
      obtain rfl:fn = Tryz.f11:=(Option.some.inj (Tryz.func11.symm.trans hfn)).symm
      exact ⟨odd_fa.symm,fun j t ht=>by
        rw [Tryz.params11] at ht
        have hm:t ∈ [27,28,5,5]:=by simpa using Array.mem_of_getElem? ht
        have hall:([27,28,5,5].all fun u=>!Tryz.prog.wantsStandIn u) = true:=by kernel_rfl
        exact (show Tryz.prog.wantsStandIn t = false by simpa using List.all_eq_true.1 hall t hm)⟩)
    oddMore_k5
end Go.Proofs.YticlpkgpmmhemaaGreatDoor
