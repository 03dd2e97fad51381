/-
  A part of the proof that contangolaw.TopTicked returns true: what the last text needs, and no more. No condition: no statement of the seat is proved here.
-/
import Derived.Test.YticlpkgpmmhemaaGreatDoorProg
import Derived.Test.YticlpkgpmmhemaaGreatDoorTopTickedD
namespace Go.Proofs.YticlpkgpmmhemaaGreatDoor
open Go.Proofs.Tryz
open Go.RowKit
set_option linter.all false
theorem zr139:(Tryz.prog.info? 139).map (·.zero) = some (some (.agg #[(.int .i64 0),(.int .i64 0),(.int .i64 0),(.int .i64 0),(.bool false),(.int .i64 0),(.int .i64 0),(.int .i64 0)])):=by kernel_rfl
theorem bt139:BT Tryz.prog 139 (.agg #[(.int .i64 0),(.int .i64 0),(.int .i64 0),(.int .i64 0),(.bool false),(.int .i64 0),(.int .i64 0),(.int .i64 0)]) (fun i=>([(0,1),(1,2),(3,1),(4,1),(5,1),(6,2)]:List (Nat × Nat))[i]?):=zp underlying139 zr139 (by kernel_rfl)
theorem zr160:(Tryz.prog.info? 160).map (·.zero) = some (some (.agg #[(.string ⟨#[]⟩),(.int .i64 0),(.int .i64 0)])):=by kernel_rfl
theorem bt160:BT Tryz.prog 160 (.agg #[(.string ⟨#[]⟩),(.int .i64 0),(.int .i64 0)]) (fun i=>([(0,1),(1,2)]:List (Nat × Nat))[i]?):=zp underlying160 zr160 (by kernel_rfl)
theorem zr165:(Tryz.prog.info? 165).map (·.zero) = some (some (.agg #[(.int .i64 0),(.int .i64 0),(.int .i64 0),(.int .i64 0),(.int .i64 0),(.bool false)])):=by kernel_rfl
theorem bt165:BT Tryz.prog 165 (.agg #[(.int .i64 0),(.int .i64 0),(.int .i64 0),(.int .i64 0),(.int .i64 0),(.bool false)]) (fun i=>([(0,1),(1,1),(2,1),(3,2),(5,1)]:List (Nat × Nat))[i]?):=zp underlying165 zr165 (by kernel_rfl)
theorem zr167:(Tryz.prog.info? 167).map (·.zero) = some (some (.agg #[(.int .i64 0),(.int .i64 0),(.int .i64 0),(.int .i64 0),(.int .i64 0),(.bool false),(.slice none 0 0),(.int .i64 0),(.int .i64 0),(.slice none 0 0)])):=by kernel_rfl
theorem bt167:BT Tryz.prog 167 (.agg #[(.int .i64 0),(.int .i64 0),(.int .i64 0),(.int .i64 0),(.int .i64 0),(.bool false),(.slice none 0 0),(.int .i64 0),(.int .i64 0),(.slice none 0 0)]) (fun i=>([(0,6),(6,3),(9,1)]:List (Nat × Nat))[i]?):=zp underlying167 zr167 (by kernel_rfl)
theorem zr172:(Tryz.prog.info? 172).map (·.zero) = some (some (.agg #[(.int .i64 0),(.int .i64 0),(.int .i64 0),(.string ⟨#[]⟩)])):=by kernel_rfl
theorem bt172:BT Tryz.prog 172 (.agg #[(.int .i64 0),(.int .i64 0),(.int .i64 0),(.string ⟨#[]⟩)]) (fun i=>([(0,1),(1,1),(2,1),(3,1)]:List (Nat × Nat))[i]?):=zp underlying172 zr172 (by kernel_rfl)
theorem zr175:(Tryz.prog.info? 175).map (·.zero) = some (some (.agg #[(.int .i64 0),.nilFunc])):=by kernel_rfl
theorem bt175:BT Tryz.prog 175 (.agg #[(.int .i64 0),.nilFunc]) (fun i=>([(0,1),(1,1)]:List (Nat × Nat))[i]?):=zp underlying175 zr175 (by kernel_rfl)
theorem zr212:(Tryz.prog.info? 212).map (·.zero) = some (some (.agg #[(.int .i64 0),(.int .i64 0)])):=by kernel_rfl
theorem bt212:BT Tryz.prog 212 (.agg #[(.int .i64 0),(.int .i64 0)]) (fun i=>([(0,1),(1,1)]:List (Nat × Nat))[i]?):=zp underlying212 zr212 (by kernel_rfl)
theorem zr214:(Tryz.prog.info? 214).map (·.zero) = some (some (.agg #[(.slice none 0 0),(.int .i64 0),(.int .i64 0),(.slice none 0 0),(.slice none 0 0)])):=by kernel_rfl
theorem bt214:BT Tryz.prog 214 (.agg #[(.slice none 0 0),(.int .i64 0),(.int .i64 0),(.slice none 0 0),(.slice none 0 0)]) (fun i=>([(0,3),(3,1),(4,1)]:List (Nat × Nat))[i]?):=zp underlying214 zr214 (by kernel_rfl)
theorem zr221:(Tryz.prog.info? 221).map (·.zero) = some (some (.agg #[(.int .i64 0),(.int .i64 0)])):=by kernel_rfl
theorem bt221:BT Tryz.prog 221 (.agg #[(.int .i64 0),(.int .i64 0)]) (fun i=>([(0,1),(1,1)]:List (Nat × Nat))[i]?):=zp underlying221 zr221 (by kernel_rfl)
theorem zr223:(Tryz.prog.info? 223).map (·.zero) = some (some (.agg #[(.bool false),(.int .i64 0),(.int .i64 0),(.int .i64 0),(.int .i64 0)])):=by kernel_rfl
theorem bt223:BT Tryz.prog 223 (.agg #[(.bool false),(.int .i64 0),(.int .i64 0),(.int .i64 0),(.int .i64 0)]) (fun i=>([(0,1),(1,1),(2,1),(3,2)]:List (Nat × Nat))[i]?):=zp underlying223 zr223 (by kernel_rfl)
theorem zr224:(Tryz.prog.info? 224).map (·.zero) = some (some (.agg #[(.int .i64 0),(.int .i64 0),(.int .i64 0),(.int .i64 0)])):=by kernel_rfl
theorem bt224:BT Tryz.prog 224 (.agg #[(.int .i64 0),(.int .i64 0),(.int .i64 0),(.int .i64 0)]) (fun i=>([(0,1),(1,1),(2,1),(3,1)]:List (Nat × Nat))[i]?):=zp underlying224 zr224 (by kernel_rfl)
theorem zr283:(Tryz.prog.info? 283).map (·.zero) = some (some (.agg #[(.int .i64 0),(.int .i64 0),(.int .i64 0),(.int .i64 0),(.int .i64 0),(.int .i64 0)])):=by kernel_rfl
theorem bt283:BT Tryz.prog 283 (.agg #[(.int .i64 0),(.int .i64 0),(.int .i64 0),(.int .i64 0),(.int .i64 0),(.int .i64 0)]) (fun i=>some (i * 1,1)):=zDE underlying283 zr283 (by unfold Sz; kernel_rfl)
theorem zr285:(Tryz.prog.info? 285).map (·.zero) = some (some (.agg #[(.slice none 0 0),(.int .i64 0),(.int .i64 0),(.int .i64 0),(.int .i64 0),(.int .i64 0),(.int .i64 0),(.slice none 0 0),(.slice none 0 0)])):=by kernel_rfl
theorem bt285:BT Tryz.prog 285 (.agg #[(.slice none 0 0),(.int .i64 0),(.int .i64 0),(.int .i64 0),(.int .i64 0),(.int .i64 0),(.int .i64 0),(.slice none 0 0),(.slice none 0 0)]) (fun i=>([(0,1),(1,6),(7,1),(8,1)]:List (Nat × Nat))[i]?):=zp underlying285 zr285 (by kernel_rfl)
theorem zr37:(Tryz.prog.info? 37).map (·.zero) = some (some (.agg #[(.slice none 0 0),(.int .i64 0),(.int .i64 0)])):=by kernel_rfl
theorem bt37:BT Tryz.prog 37 (.agg #[(.slice none 0 0),(.int .i64 0),(.int .i64 0)]) (fun i=>([(0,1),(1,1),(2,1)]:List (Nat × Nat))[i]?):=zp underlying37 zr37 (by kernel_rfl)
theorem zr59:(Tryz.prog.info? 59).map (·.zero) = some (some (.agg #[(.int .i64 0),(.int .i64 0)])):=by kernel_rfl
theorem bt59:BT Tryz.prog 59 (.agg #[(.int .i64 0),(.int .i64 0)]) (fun i=>([(0,1),(1,1)]:List (Nat × Nat))[i]?):=zp underlying59 zr59 (by kernel_rfl)
theorem zr65:(Tryz.prog.info? 65).map (·.zero) = some (some (.agg #[(.int .i64 0),(.int .i64 0)])):=by kernel_rfl
theorem bt65:BT Tryz.prog 65 (.agg #[(.int .i64 0),(.int .i64 0)]) (fun i=>([(0,1),(1,1)]:List (Nat × Nat))[i]?):=zp underlying65 zr65 (by kernel_rfl)
theorem zr71:(Tryz.prog.info? 71).map (·.zero) = some (some (.agg #[(.int .i64 0),(.int .i64 0),(.int .i64 0),(.int .i64 0),(.bool false),(.int .i64 0),(.int .i64 0),(.int .i64 0)])):=by kernel_rfl
theorem bt71:BT Tryz.prog 71 (.agg #[(.int .i64 0),(.int .i64 0),(.int .i64 0),(.int .i64 0),(.bool false),(.int .i64 0),(.int .i64 0),(.int .i64 0)]) (fun i=>([(0,1),(1,2),(3,1),(4,1),(5,1),(6,2)]:List (Nat × Nat))[i]?):=zp underlying71 zr71 (by kernel_rfl)
theorem zr89:(Tryz.prog.info? 89).map (·.zero) = some (some (.agg #[(.slice none 0 0)])):=by kernel_rfl
theorem bt89:BT Tryz.prog 89 (.agg #[(.slice none 0 0)]) (fun i=>([(0,1)]:List (Nat × Nat))[i]?):=zp underlying89 zr89 (by kernel_rfl)
theorem zr93:(Tryz.prog.info? 93).map (·.zero) = some (some (.agg #[(.int .i64 0),(.int .i64 0),(.int .i64 0),(.int .i64 0)])):=by kernel_rfl
theorem bt93:BT Tryz.prog 93 (.agg #[(.int .i64 0),(.int .i64 0),(.int .i64 0),(.int .i64 0)]) (fun i=>([(0,1),(1,1),(2,1),(3,1)]:List (Nat × Nat))[i]?):=zp underlying93 zr93 (by kernel_rfl)
theorem zr96:(Tryz.prog.info? 96).map (·.zero) = some (some (.agg #[(.int .i64 0),(.int .i64 0),(.int .i64 0),(.int .i64 0)])):=by kernel_rfl
theorem bt96:BT Tryz.prog 96 (.agg #[(.int .i64 0),(.int .i64 0),(.int .i64 0),(.int .i64 0)]) (fun i=>([(0,1),(1,1),(2,1),(3,1)]:List (Nat × Nat))[i]?):=zp underlying96 zr96 (by kernel_rfl)
theorem zr163:(Tryz.prog.info? 163).map (·.zero) = some (some (.pointer none)):=by kernel_rfl
theorem zr178:(Tryz.prog.info? 178).map (·.zero) = some (some (.pointer none)):=by kernel_rfl
theorem zr216:(Tryz.prog.info? 216).map (·.zero) = some (some (.agg #[(.int .i64 0),(.int .i64 0)])):=by kernel_rfl
theorem zr218:(Tryz.prog.info? 218).map (·.zero) = some (some (.agg #[(.bool false),(.int .i64 0),(.int .i64 0),(.int .i64 0),(.int .i64 0)])):=by kernel_rfl
theorem zr233:(Tryz.prog.info? 233).map (·.zero) = some (some .nilFunc):=by kernel_rfl
theorem zr39:(Tryz.prog.info? 39).map (·.zero) = some (some (.slice none 0 0)):=by kernel_rfl
theorem zr40:(Tryz.prog.info? 40).map (·.zero) = some (some (.int .i64 0)):=by kernel_rfl
theorem zr98:(Tryz.prog.info? 98).map (·.zero) = some (some (.agg #[(.string ⟨#[]⟩),(.int .i64 0),(.int .i64 0)])):=by kernel_rfl
def tb:Tb Tryz.prog:=⟨.c underlying3 (.c underlying4 (.c underlying5 (.c underlying9 (.c underlying22 (.c underlying24 (.c underlying29 (.c underlying35 (.c underlying37 (.c underlying39 (.c underlying59 (.c underlying65 (.c underlying71 (.c underlying75 (.c underlying77 (.c underlying78 (.c underlying84 (.c underlying87 (.c underlying89 (.c underlying91 (.c underlying93 (.c underlying96 (.c underlying98 (.c underlying101 (.c underlying109 (.c underlying139 (.c underlying160 (.c underlying163 (.c underlying165 (.c underlying167 (.c underlying172 (.c underlying178 (.c underlying212 (.c underlying214 (.c underlying216 (.c underlying218 (.c underlying221 (.c underlying223 (.c underlying224 (.c underlying230 (.c underlying233 (.c underlying254 (.c underlying279 (.c underlying283 (.c underlying285 (.c underlying324 .n))))))))))))))))))))))))))))))))))))))))))))),.c bt139 rfl rfl (.c bt160 rfl rfl (.c bt165 rfl rfl (.c bt167 rfl rfl (.c bt172 rfl rfl (.c bt175 rfl rfl (.c bt212 rfl rfl (.c bt214 rfl rfl (.c bt221 rfl rfl (.c bt223 rfl rfl (.c bt224 rfl rfl (.c bt283 rfl rfl (.c bt285 rfl rfl (.c bt37 rfl rfl (.c bt59 rfl rfl (.c bt65 rfl rfl (.c bt71 rfl rfl (.c bt89 rfl rfl (.c bt93 rfl rfl (.c bt96 rfl rfl .n))))))))))))))))))),.c zr139 rfl rfl (.c zr160 rfl rfl (.c zr163 rfl rfl (.c zr172 rfl rfl (.c zr178 rfl rfl (.c zr216 rfl rfl (.c zr218 rfl rfl (.c zr221 rfl rfl (.c zr223 rfl rfl (.c zr224 rfl rfl (.c zr233 rfl rfl (.c zr285 rfl rfl (.c zr37 rfl rfl (.c zr39 rfl rfl (.c zr40 rfl rfl (.c zr59 rfl rfl (.c zr65 rfl rfl (.c zr71 rfl rfl (.c zr89 rfl rfl (.c zr93 rfl rfl (.c zr98 rfl rfl .n)))))))))))))))))))),[(3,1),(4,1),(5,1),(9,1),(22,1),(24,3),(29,1),(35,1),(37,3),(39,1),(59,2),(65,2),(71,8),(75,1),(77,1),(84,1),(87,1),(89,1),(93,4),(98,3),(139,8),(160,3),(165,6),(172,4),(216,2),(218,5),(221,2),(223,5),(224,4),(283,6),(285,9)],by kernel_rfl⟩
end Go.Proofs.YticlpkgpmmhemaaGreatDoor
namespace Go.Proofs.YticlpkgpmmhemaaGreatDoor
open Go.RowKit
set_option linter.all false
section
variable {Γ:Cx} {ops:Array Oper} {o:Oper} {σ:St} {Q:Exit → Act → World → Prop} {N:Nat}
theorem Zt:∀ (k:Nat) (F:List Nat) {l r:List Oper} {σ σ':St} {C:Prop} (hn:Γ.n = N) (h:run4 tb N ops k F l σ = some (r,σ',C)) (hr:ARun Γ Tryz.prog ops r σ' Q) (hC:C:=by repeat' (first | exact trivial | exact sees0 | exact seesF0 | assumption | exact rfl | apply And.intro | intro _ | (apply gA; assumption) | (apply gO; assumption) | (refine gA2 ?_ ?_ <;> assumption) | (refine gO2 ?_ ?_ <;> assumption) | simp_all)),ARun Γ Tryz.prog ops l σ Q
  | 0,F,l,r,σ,σ',C,_,h,hr,_=>by cases h; exact hr
  | k + 1,F,o :: l,r,σ,σ',C,hn,h,hr,hC=>by
    unfold run4 at h
    split at h
    · rename_i h1
      split at h
      · rename_i h2
        cases h
        exact step (zBO hn h1 hC.1) fun _=>Zt k _ hn h2 hr hC.2
      · cases h
    · cases h
  | k + 1,F,[],r,σ,σ',C,_,h,_,_=>by unfold run4 at h; cases h
theorem ZtI {ro:Option Nat}:∀ (k:Nat) (F:List Nat) {l r:List Oper} {σ σ':St} {C:Prop} (hn:Γ.n = N) (h:run4 tb N ops k F l σ = some (r,σ',C)) (hr:ARunI ro Γ Tryz.prog ops r σ' Q) (hC:C:=by repeat' (first | exact trivial | exact sees0 | exact seesF0 | assumption | exact rfl | apply And.intro | intro _ | (apply gA; assumption) | (apply gO; assumption) | (refine gA2 ?_ ?_ <;> assumption) | (refine gO2 ?_ ?_ <;> assumption) | simp_all)) (hd:noDefs k l = true:=by exact rfl),ARunI ro Γ Tryz.prog ops l σ Q
  | 0,F,l,r,σ,σ',C,_,h,hr,_,_=>by cases h; exact hr
  | k + 1,F,o :: l,r,σ,σ',C,hn,h,hr,hC,hd=>by
    unfold run4 at h
    unfold noDefs at hd
    have hd:=Bool.and_eq_true_iff.1 hd
    split at h
    · rename_i h1
      split at h
      · rename_i h2
        cases h
        exact stepI ((zBO hn h1 hC.1).i hd.1) fun _=>ZtI k _ hn h2 hr hC.2 hd.2
      · cases h
    · cases h
  | k + 1,F,[],r,σ,σ',C,_,h,_,_,_=>by unfold run4 at h; cases h
/-- In a region that draws its order, where but one can come next. -/
theorem Ze {W : Nat → Prop} : ∀ (is F : List Nat) {n n' : Nat} {L L' : Array Bool} {σ σ' : St} {C : Prop} (hn : Γ.n = N) (h : runE tb N ops W is F n L σ = some (n', L', σ', C)) (hr : D2 Γ Tryz.prog ops Q W n' L' σ')
    (hk:chkE ops is L = true:=by kernel_rfl) (hC:C:=by repeat' (first | exact trivial | exact sees0 | exact seesF0 | assumption | exact rfl | apply And.intro | intro _ | (apply gA; assumption) | (apply gO; assumption) | (refine gA2 ?_ ?_ <;> assumption) | (refine gO2 ?_ ?_ <;> assumption) | simp_all)),D2 Γ Tryz.prog ops Q W n L σ
  | [],F,n,n',L,L',σ,σ',C,_,h,hr,_,_=>by cases h; exact hr
  | i :: is,F,0,n',L,L',σ,σ',C,_,h,_,_,_=>by unfold runE at h; cases h
  | i :: is,F,n + 1,n',L,L',σ,σ',C,hn,h,hr,hk,hC=>by
    unfold runE at h
    unfold chkE at hk
    have hk':=Bool.and_eq_true_iff.1 hk
    split at h
    · rename_i o hi
      split at h
      · rename_i h1
        split at h
        · rename_i h2
          cases h
          exact zDi (by simpa using hk'.1) hi (zBO hn h1 hC.1) fun _=>Ze is _ hn h2 hr hk'.2 hC.2
        · cases h
      · cases h
    · cases h
theorem Zk {rest:List Oper} {g:FuncId} {all:List D} {t:Nat} {C:Prop} {r:D} (hn:Γ.n = N) (h:call4 N ops o σ = some (g,all,t,true,C)) (hp:PureAt Tryz.prog g all r) (hr:ARun Γ Tryz.prog ops rest (σ.put t true (.d r)) Q) (hC:C:=by repeat' (first | exact trivial | exact sees0 | exact seesF0 | assumption | exact rfl | apply And.intro | intro _ | (apply gA; assumption) | (apply gO; assumption) | (refine gA2 ?_ ?_ <;> assumption) | (refine gO2 ?_ ?_ <;> assumption) | simp_all)):ARun Γ Tryz.prog ops (o :: rest) σ Q :=
  step (zBh (W:=fun _=>True) hn h (fun _=>hp) fun _=>hC) fun _=>hr
theorem Zkg {rest:List Oper} {g:FuncId} {all:List D} {t:Nat} {c:Bool} {C:Prop} {r:D} (hn:Γ.n = N) (h:call4 N ops o σ = some (g,all,t,c,C)) (hp:c = true → PureAt Tryz.prog g all r) (hr:ARun Γ Tryz.prog ops rest (σ.put t c (.d r)) Q) (hC:c = true → C:=by repeat' (first | exact trivial | exact sees0 | exact seesF0 | assumption | exact rfl | apply And.intro | intro _ | (apply gA; assumption) | (apply gO; assumption) | (refine gA2 ?_ ?_ <;> assumption) | (refine gO2 ?_ ?_ <;> assumption) | simp_all)):ARun Γ Tryz.prog ops (o :: rest) σ Q :=
  step (zBh (W:=fun _=>True) hn h hp hC) fun _=>hr
theorem Ze1 {W : Nat → Prop} {n : Nat} {L : Array Bool} {g : FuncId} {all : List D} {t : Nat} {C : Prop} {r : D} (i : Nat) (hi : ops[i]? = some o) (hn : Γ.n = N) (h : call4 N ops o σ = some (g, all, t, true, C)) (hp : PureAt Tryz.prog g all r) (hr : D2 Γ Tryz.prog ops Q W n (L.setIfInBounds i true) (σ.put t true (.d r)))
    (hC:C:=by repeat' (first | exact trivial | exact sees0 | exact seesF0 | assumption | exact rfl | apply And.intro | intro _ | (apply gA; assumption) | (apply gO; assumption) | (refine gA2 ?_ ?_ <;> assumption) | (refine gO2 ?_ ?_ <;> assumption) | simp_all)) (hk:Region.ready .any ops L = [i]:=by kernel_rfl):D2 Γ Tryz.prog ops Q W (n + 1) L σ :=
  zDi hk hi (zBh hn h (fun _=>hp) fun _=>hC) fun _=>hr
/-- The same in a region that draws its order: those of the list are taken first. -/
def runD (tb:Tb Tryz.prog) (R:Rel) (N:Nat) (ops:Array Oper):List Nat → List Nat → Nat → Array Bool → St → Option (Nat × Array Bool × St × Prop)
  | [],_,n,L,σ=>some (n,L,σ,True)
  | i :: is,F,n + 1,L,σ=>(match ops[i]? with
    | some o=>(match o.dst with
      | some t=>bif Nat.blt t N then (match gd4 ops o.guard σ with
        | some c=>(match one4 tb R o.op σ F with
          | some (tv,F',C)=>(match runD tb R N ops is F' n (L.setIfInBounds i true) (σ.put t c tv) with
            | some (n',L',σ',C')=>some (n',L',σ',(c = true → C) ∧ C')
            | none=>none)
          | none=>none)
        | none=>none) else none
      | none=>none)
    | none=>none)
  | _ :: _,_,0,_,_=>none
def chkD (ops:Array Oper):List Nat → Array Bool → Bool
  | [],_=>true
  | i :: is,L=>(Region.noSelect ops && Region.free .any ops L i && (Region.ready .any ops L).contains i) && chkD ops is (L.setIfInBounds i true)
theorem Zy {W : Nat → Prop} : ∀ (is F : List Nat) {n n' : Nat} {L L' : Array Bool} {σ σ' : St} {C : Prop} (hn : Γ.n = N) (h : runD tb (RA W) N ops is F n L σ = some (n', L', σ', C)) (hr : D1 Γ Tryz.prog ops Q W n' L' σ')
    (hk:chkD ops is L = true:=by kernel_rfl) (hC:C:=by repeat' (first | exact trivial | exact seesFA | exact seesA (by simp) | assumption | exact rfl | apply And.intro | intro _ | (apply gA; assumption) | (apply gO; assumption) | (refine gA2 ?_ ?_ <;> assumption) | (refine gO2 ?_ ?_ <;> assumption) | simp_all)) (hQ:∀ c a w (t:Nat) v,Q (.panic c) (a.put (some t) v) w → Q (.panic c) a w:=by exact fun _ _ _ _ _ h=>h),D1 Γ Tryz.prog ops Q W n L σ
  | [],F,n,n',L,L',σ,σ',C,_,h,hr,_,_,_=>by cases h; exact hr
  | i :: is,F,0,n',L,L',σ,σ',C,_,h,_,_,_,_=>by unfold runD at h; cases h
  | i :: is,F,n + 1,n',L,L',σ,σ',C,hn,h,hr,hk,hC,hQ=>by
    unfold runD at h
    unfold chkD at hk
    have hk':=Bool.and_eq_true_iff.1 hk
    have hd:=dsl hk'.1
    split at h
    · rename_i o hi
      split at h
      · rename_i t ht
        cases hb:Nat.blt t N with
        | false=>rw [hb] at h; cases h
        | true =>
          rw [hb,cond_true] at h
          split at h
          · rename_i c hg
            split at h
            · rename_i tv F' C1 h1
              split at h
              · rename_i h2
                cases h
                exact d1_take [] hi hd.1 hd.2.1 hd.2.2 (fun c a w v=>by rw [ht]; exact hQ c a w t v) (zCe hg) ht (nb hn hb) (fun _=>trivial) (fun hc=>zER h1 (hC.1 hc)) (Zy is F' hn h2 hr hk'.2 hC.2 hQ)
              · cases h
            · cases h
          · cases h
      · cases h
    · cases h
theorem Zb {rest:List Oper} {ty:TypeId} {t:Nat} {cs:List TV} {C:Prop} (id:Nat) (hn:Γ.n = N) (h:new4 tb N o σ = some (ty,t,cs,C)) (hr:∀ b,ARun Γ Tryz.prog ops rest ((σ.put t true (.ref b 0)).rput id (.box b ty cs)) Q) (hC:C:=by repeat' (first | exact trivial | exact sees0 | exact seesF0 | assumption | exact rfl | apply And.intro | intro _ | (apply gA; assumption) | (apply gO; assumption) | (refine gA2 ?_ ?_ <;> assumption) | (refine gO2 ?_ ?_ <;> assumption) | simp_all)):ARun Γ Tryz.prog ops (o :: rest) σ Q:=by
  unfold new4 at h
  split at h
  · rename_i t' hg ht
    cases hb:Nat.blt t' N with
    | false=>rw [hb] at h; cases h
    | true =>
      rw [hb,cond_true] at h
      split at h
      · rename_i hop
        split at h
        · rename_i hx
          cases h
          obtain ⟨rfl,hf⟩:=hC
          exact step (W:=fun _=>True) (s_box id hop hg ht (nb hn hb) hx hf) hr
        · cases h
      · rename_i hop
        split at h
        · rename_i ha
          cases h
          obtain ⟨z,hz,hcs,h1⟩:=AL.ok ha
          exact step (W:=fun _=>True) (yg id hop hg ht (nb hn hb) hz hcs h1) hr
        · cases h
      · cases h
  · cases h
theorem Zi {rest:List Oper} {es:List (List D)} {m:Int} {t:Nat} {C:Prop} {c:List D} {i:Nat} (hn:Γ.n = N) (h:idx4 tb N o σ = some (es,m,t,C)) (hm:m = (i:Int)) (hc:es[i]? = some c) (hr:ARun Γ Tryz.prog ops rest (σ.put t true (.d (.ptr c))) Q) (hC:C:=by repeat' (first | exact trivial | exact sees0 | exact seesF0 | assumption | exact rfl | apply And.intro | intro _ | (apply gA; assumption) | (apply gO; assumption) | (refine gA2 ?_ ?_ <;> assumption) | (refine gO2 ?_ ?_ <;> assumption) | simp_all)):ARun Γ Tryz.prog ops (o :: rest) σ Q:=by
  unfold idx4 at h
  split at h
  · rename_i t' hg ht
    cases hb:Nat.blt t' N with
    | false=>rw [hb] at h; cases h
    | true =>
      rw [hb,cond_true] at h
      split at h
      · rename_i hop
        split at h
        · rename_i hu
          split at h
          · rename_i hz
            split at h
            · rename_i hx hy
              cases h
              obtain ⟨rfl,rfl,rfl⟩:=hC
              exact sq hg ht hn hb (q_index hop hx hy (UL.ok hu) (Tb.sz hz) hm hc) hr
            · cases h
          · cases h
        · cases h
      · cases h
  · cases h
end
end Go.Proofs.YticlpkgpmmhemaaGreatDoor
