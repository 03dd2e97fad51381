/-
  The law OddSales returns true for every input, and leaves its arguments as they were: the given statement, whole. No condition.
-/
import Derived.Test.YticlpkgpmmhemaaGreatDoorCards
import Derived.Test.YticlpkgpmmhemaaGreatDoorTie
import Derived.SevenTiedAt
import Derived.Test.YticlpkgpmmhemaaGreatDoorOddSalesYB
namespace Go.Proofs.YticlpkgpmmhemaaGreatDoor
open Go.Proofs.Tryz
open Go.ChangeShapes Go.WideShapes Go.ChangeAt Go.RowKit
set_option linter.all false
theorem oddSales_pure (xs:List D) (h:Sat [SDsk,SInt] xs):PureAt Tryz.prog 5 xs (.bool true):=by
  obtain ⟨_,_,rfl,⟨a1,rfl,h1⟩,_,_,rfl,⟨a2,rfl,h2⟩,rfl⟩:=h
  exact OddSales_ok a1 a2 h1
set_option maxRecDepth 100000 in
theorem oddSales_lifted (os : Os) (started : os.Started) (H : Type) (enc : TypeId × Value → H) :
    ReturnsInHanded {} Tryz.checked os 5 .any (fun w args=>(Rows.oddSalesSpec.pre enc Tryz.prog Tryz.f5 [] false w args ∧ laidMetH Tryz.prog laidT w) ∧ sizedMet enc Tryz.prog Tryz.f5 (OpenSpec.ofChange Rows.oddSalesSpec) false w args)
      (Rows.oddSalesSpec.post enc Tryz.prog Tryz.f5 false true false false) :=
  tape_lifted (ts:=[27,3]) (Ss:=[SDsk,SInt]) started (by kernel_rfl) Tryz.func5
    (ChangeSpec.witness_shaped (enc:=enc) (C:=Tryz.checked) (os:=os) (X:=fun w _=>laidMetH Tryz.prog laidT w) false (World.doorLaid Tryz.prog 62 os) #[.agg #[.slice none 0 0,.int .i64 0,.int .i64 0,.string ⟨#[]⟩,.int .i64 0,.slice none 0 0],.int .i64 0] 8 rfl (World.shaped_of_RefB (by kernel_rfl) (by kernel_rfl)) (by kernel_rfl) (by kernel_rfl) (by kernel_rfl) (door_met os _))
    (by rw [Tryz.params5]) (by kernel_rfl) (by kernel_rfl) underlying4 rfl rfl (fun ds h=>by match ds,h with | [d1,d2],_=>rfl) ⟨pDsk,pInt,trivial⟩ oddSales_pure
set_option maxRecDepth 100000 in
theorem oddSales_closed:joinedFacts Tryz.prog 5 Tryz.f5 Rows.oddSalesSpec Rows.oddSalesRow = true:=by
  unfold joinedFacts
  rw [oddSales_k1,oddSales_k2,oddSales_k3,oddSales_k4,odd_f1,odd_f2,odd_f3,odd_f4,odd_f5,odd_f6,odd_f7,odd_f8,odd_f9]
  kernel_rfl
set_option maxRecDepth 100000 in
theorem oddSales_named : Tryz.prog.funcNamed "contango/contangolaw04.OddSales" = some 5 := by kernel_rfl
set_option maxRecDepth 100000 in
theorem oddSales_inst:Tryz.f5.isInstance Tryz.prog Rows.oddSalesRow.origin Rows.oddSalesRow.targs:=of_decide_eq_true (by kernel_rfl)
set_option maxRecDepth 100000 in
theorem oddSales_wrap:Tryz.f5.isWrapper Tryz.prog Rows.oddSalesRow.wrapper Rows.oddSalesRow.mainSum:=by unfold Func.isWrapper; first | (rw [if_pos (by decide +kernel)]; kernel_rfl) | (rw [if_neg (by decide +kernel)]; exact ⟨rfl,rfl⟩)
set_option maxRecDepth 100000 in
theorem oddSales_holds:Rows.OddSalesSaid :=
  OpenClaim.holds_of_wide 5 Tryz.f5 rfl rfl rfl rfl rfl rfl rfl ⟨rfl,rfl,rfl,rfl,rfl⟩ rfl rfl rfl rfl rfl oddSales_named Tryz.func5 oddSales_closed oddSales_inst oddSales_wrap
    (fun os started H enc _=>oddSales_lifted os started H enc)
set_option maxRecDepth 100000 in
theorem oddSales_card:Rows.OddSalesCardSaid :=
  Claim7.holds_tied_plain_at .later [] [.data, .data, .data, .sentinel, .sentinel] true (true, "13d6838d773188036e6e556810f3f13620426094f1cc565bb7c6eb075301a94f") true
    oddSales_holds (fun _ h=>by cases h) (by kernel_rfl) (fun _ h=>by cases h) oddSales_row_tie rfl ⟨rfl,rfl⟩ (by kernel_rfl) rfl
    (fun f fn hf hfn=>by
      obtain rfl:f = 5:=Option.some.inj (oddSales_named.symm.trans hf) |>.symm
      obtain rfl:fn = Tryz.f5:=(Option.some.inj (Tryz.func5.symm.trans hfn)).symm
      exact ⟨odd_fa.symm,fun j t ht=>by
        rw [Tryz.params5] at ht
        have hm:t ∈ [27,3]:=by simpa using Array.mem_of_getElem? ht
        have hall:([27,3].all fun u=>!Tryz.prog.wantsStandIn u) = true:=by kernel_rfl
        exact (show Tryz.prog.wantsStandIn t = false by simpa using List.all_eq_true.1 hall t hm)⟩)
    oddSales_k5
end Go.Proofs.YticlpkgpmmhemaaGreatDoor
