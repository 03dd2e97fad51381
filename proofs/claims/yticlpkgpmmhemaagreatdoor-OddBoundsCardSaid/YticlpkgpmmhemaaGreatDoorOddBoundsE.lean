/-
  A part of the proof that contangolaw.OddBounds returns true: what the last text needs, and no more. No condition: no statement of the seat is proved here.
-/
import Derived.Test.YticlpkgpmmhemaaGreatDoorProg
import Derived.Test.YticlpkgpmmhemaaGreatDoorOddBoundsD
namespace Go.Proofs.YticlpkgpmmhemaaGreatDoor
open Go.Proofs.Tryz
open Go.RowKit
set_option linter.all false
theorem zr126:(Tryz.prog.info? 126).map (·.zero) = some (some (.agg #[(.int .i64 0),(.int .i64 0)])):=by kernel_rfl
theorem bt126:BT Tryz.prog 126 (.agg #[(.int .i64 0),(.int .i64 0)]) (fun i=>([(0,1),(1,1)]:List (Nat × Nat))[i]?):=zx underlying126 zr126 (by kernel_rfl)
theorem zr139:(Tryz.prog.info? 139).map (·.zero) = some (some (.agg #[(.int .i64 0),(.int .i64 0),(.int .i64 0),(.int .i64 0),(.bool false),(.int .i64 0),(.int .i64 0),(.int .i64 0)])):=by kernel_rfl
theorem bt139:BT Tryz.prog 139 (.agg #[(.int .i64 0),(.int .i64 0),(.int .i64 0),(.int .i64 0),(.bool false),(.int .i64 0),(.int .i64 0),(.int .i64 0)]) (fun i=>([(0,1),(1,2),(3,1),(4,1),(5,1),(6,2)]:List (Nat × Nat))[i]?):=zx underlying139 zr139 (by kernel_rfl)
theorem zr152:(Tryz.prog.info? 152).map (·.zero) = some (some (.agg #[(.bool false),(.int .i64 0),(.int .i64 0),(.int .i64 0),(.int .i64 0),(.int .i64 0)])):=by kernel_rfl
theorem bt152:BT Tryz.prog 152 (.agg #[(.bool false),(.int .i64 0),(.int .i64 0),(.int .i64 0),(.int .i64 0),(.int .i64 0)]) (fun i=>([(0,1),(1,1),(2,1),(3,1),(4,2)]:List (Nat × Nat))[i]?):=zx underlying152 zr152 (by kernel_rfl)
theorem zr160:(Tryz.prog.info? 160).map (·.zero) = some (some (.agg #[(.string ⟨#[]⟩),(.int .i64 0),(.int .i64 0)])):=by kernel_rfl
theorem bt160:BT Tryz.prog 160 (.agg #[(.string ⟨#[]⟩),(.int .i64 0),(.int .i64 0)]) (fun i=>([(0,1),(1,2)]:List (Nat × Nat))[i]?):=zx underlying160 zr160 (by kernel_rfl)
theorem zr165:(Tryz.prog.info? 165).map (·.zero) = some (some (.agg #[(.int .i64 0),(.int .i64 0),(.int .i64 0),(.int .i64 0),(.int .i64 0),(.bool false)])):=by kernel_rfl
theorem bt165:BT Tryz.prog 165 (.agg #[(.int .i64 0),(.int .i64 0),(.int .i64 0),(.int .i64 0),(.int .i64 0),(.bool false)]) (fun i=>([(0,1),(1,1),(2,1),(3,2),(5,1)]:List (Nat × Nat))[i]?):=zx underlying165 zr165 (by kernel_rfl)
theorem zr167:(Tryz.prog.info? 167).map (·.zero) = some (some (.agg #[(.int .i64 0),(.int .i64 0),(.int .i64 0),(.int .i64 0),(.int .i64 0),(.bool false),(.slice none 0 0),(.int .i64 0),(.int .i64 0),(.slice none 0 0)])):=by kernel_rfl
theorem bt167:BT Tryz.prog 167 (.agg #[(.int .i64 0),(.int .i64 0),(.int .i64 0),(.int .i64 0),(.int .i64 0),(.bool false),(.slice none 0 0),(.int .i64 0),(.int .i64 0),(.slice none 0 0)]) (fun i=>([(0,6),(6,3),(9,1)]:List (Nat × Nat))[i]?):=zx underlying167 zr167 (by kernel_rfl)
theorem zr172:(Tryz.prog.info? 172).map (·.zero) = some (some (.agg #[(.int .i64 0),(.int .i64 0),(.int .i64 0),(.string ⟨#[]⟩)])):=by kernel_rfl
theorem bt172:BT Tryz.prog 172 (.agg #[(.int .i64 0),(.int .i64 0),(.int .i64 0),(.string ⟨#[]⟩)]) (fun i=>([(0,1),(1,1),(2,1),(3,1)]:List (Nat × Nat))[i]?):=zx underlying172 zr172 (by kernel_rfl)
theorem zr175:(Tryz.prog.info? 175).map (·.zero) = some (some (.agg #[(.int .i64 0),.nilFunc])):=by kernel_rfl
theorem bt175:BT Tryz.prog 175 (.agg #[(.int .i64 0),.nilFunc]) (fun i=>([(0,1),(1,1)]:List (Nat × Nat))[i]?):=zx underlying175 zr175 (by kernel_rfl)
theorem zr199:(Tryz.prog.info? 199).map (·.zero) = some (some (.agg #[(.slice none 0 0),(.int .i64 0),(.int .i64 0),(.string ⟨#[]⟩),(.int .i64 0),(.slice none 0 0),(.slice none 0 0)])):=by kernel_rfl
theorem bt199:BT Tryz.prog 199 (.agg #[(.slice none 0 0),(.int .i64 0),(.int .i64 0),(.string ⟨#[]⟩),(.int .i64 0),(.slice none 0 0),(.slice none 0 0)]) (fun i=>([(0,6),(6,1)]:List (Nat × Nat))[i]?):=zx underlying199 zr199 (by kernel_rfl)
theorem zr204:(Tryz.prog.info? 204).map (·.zero) = some (some (.agg #[(.pointer none),(.bool false),(.int .i64 0),(.int .i64 0),(.int .i64 0),(.int .i64 0),(.int .i64 0),(.slice none 0 0),(.map none)])):=by kernel_rfl
theorem bt204:BT Tryz.prog 204 (.agg #[(.pointer none),(.bool false),(.int .i64 0),(.int .i64 0),(.int .i64 0),(.int .i64 0),(.int .i64 0),(.slice none 0 0),(.map none)]) (fun i=>([(0,1),(1,6),(7,1),(8,1)]:List (Nat × Nat))[i]?):=zx underlying204 zr204 (by kernel_rfl)
theorem zr206:(Tryz.prog.info? 206).map (·.zero) = some (some (.agg #[(.int .i64 0),(.int .i64 0)])):=by kernel_rfl
theorem bt206:BT Tryz.prog 206 (.agg #[(.int .i64 0),(.int .i64 0)]) (fun i=>([(0,1),(1,1)]:List (Nat × Nat))[i]?):=zx underlying206 zr206 (by kernel_rfl)
theorem zr212:(Tryz.prog.info? 212).map (·.zero) = some (some (.agg #[(.int .i64 0),(.int .i64 0)])):=by kernel_rfl
theorem bt212:BT Tryz.prog 212 (.agg #[(.int .i64 0),(.int .i64 0)]) (fun i=>([(0,1),(1,1)]:List (Nat × Nat))[i]?):=zx underlying212 zr212 (by kernel_rfl)
theorem zr214:(Tryz.prog.info? 214).map (·.zero) = some (some (.agg #[(.slice none 0 0),(.int .i64 0),(.int .i64 0),(.slice none 0 0),(.slice none 0 0)])):=by kernel_rfl
theorem bt214:BT Tryz.prog 214 (.agg #[(.slice none 0 0),(.int .i64 0),(.int .i64 0),(.slice none 0 0),(.slice none 0 0)]) (fun i=>([(0,3),(3,1),(4,1)]:List (Nat × Nat))[i]?):=zx underlying214 zr214 (by kernel_rfl)
theorem zr24:(Tryz.prog.info? 24).map (·.zero) = some (some (.agg #[(.slice none 0 0),(.int .i64 0),(.int .i64 0)])):=by kernel_rfl
theorem bt24:BT Tryz.prog 24 (.agg #[(.slice none 0 0),(.int .i64 0),(.int .i64 0)]) (fun i=>([(0,1),(1,1),(2,1)]:List (Nat × Nat))[i]?):=zx underlying24 zr24 (by kernel_rfl)
theorem zr246:(Tryz.prog.info? 246).map (·.zero) = some (some (.agg #[.nilFunc])):=by kernel_rfl
theorem bt246:BT Tryz.prog 246 (.agg #[.nilFunc]) (fun i=>([(0,1)]:List (Nat × Nat))[i]?):=zx underlying246 zr246 (by kernel_rfl)
theorem zr31:(Tryz.prog.info? 31).map (·.zero) = some (some (.agg #[(.slice none 0 0),(.slice none 0 0),(.slice none 0 0)])):=by kernel_rfl
theorem bt31:BT Tryz.prog 31 (.agg #[(.slice none 0 0),(.slice none 0 0),(.slice none 0 0)]) (fun i=>([(0,1),(1,1),(2,1)]:List (Nat × Nat))[i]?):=zx underlying31 zr31 (by kernel_rfl)
theorem zr37:(Tryz.prog.info? 37).map (·.zero) = some (some (.agg #[(.slice none 0 0),(.int .i64 0),(.int .i64 0)])):=by kernel_rfl
theorem bt37:BT Tryz.prog 37 (.agg #[(.slice none 0 0),(.int .i64 0),(.int .i64 0)]) (fun i=>([(0,1),(1,1),(2,1)]:List (Nat × Nat))[i]?):=zx underlying37 zr37 (by kernel_rfl)
theorem zr51:(Tryz.prog.info? 51).map (·.zero) = some (some (.agg #[(.slice none 0 0),(.int .i64 0),(.int .i64 0),(.string ⟨#[]⟩),(.int .i64 0),(.slice none 0 0)])):=by kernel_rfl
theorem bt51:BT Tryz.prog 51 (.agg #[(.slice none 0 0),(.int .i64 0),(.int .i64 0),(.string ⟨#[]⟩),(.int .i64 0),(.slice none 0 0)]) (fun i=>([(0,3),(3,1),(4,1),(5,1)]:List (Nat × Nat))[i]?):=zx underlying51 zr51 (by kernel_rfl)
theorem zr56:(Tryz.prog.info? 56).map (·.zero) = some (some (.agg #[(.slice none 0 0),(.slice none 0 0),(.slice none 0 0)])):=by kernel_rfl
theorem bt56:BT Tryz.prog 56 (.agg #[(.slice none 0 0),(.slice none 0 0),(.slice none 0 0)]) (fun i=>([(0,1),(1,1),(2,1)]:List (Nat × Nat))[i]?):=zx underlying56 zr56 (by kernel_rfl)
theorem zr59:(Tryz.prog.info? 59).map (·.zero) = some (some (.agg #[(.int .i64 0),(.int .i64 0)])):=by kernel_rfl
theorem bt59:BT Tryz.prog 59 (.agg #[(.int .i64 0),(.int .i64 0)]) (fun i=>([(0,1),(1,1)]:List (Nat × Nat))[i]?):=zx underlying59 zr59 (by kernel_rfl)
theorem zr65:(Tryz.prog.info? 65).map (·.zero) = some (some (.agg #[(.int .i64 0),(.int .i64 0)])):=by kernel_rfl
theorem bt65:BT Tryz.prog 65 (.agg #[(.int .i64 0),(.int .i64 0)]) (fun i=>([(0,1),(1,1)]:List (Nat × Nat))[i]?):=zx underlying65 zr65 (by kernel_rfl)
theorem zr66:(Tryz.prog.info? 66).map (·.zero) = some (some (.agg #[(.int .i64 0),(.int .i64 0)])):=by kernel_rfl
theorem bt66:BT Tryz.prog 66 (.agg #[(.int .i64 0),(.int .i64 0)]) (fun i=>([(0,1),(1,1)]:List (Nat × Nat))[i]?):=zx underlying66 zr66 (by kernel_rfl)
theorem zr68:(Tryz.prog.info? 68).map (·.zero) = some (some (.agg #[(.int .i64 0),(.int .i64 0)])):=by kernel_rfl
theorem bt68:BT Tryz.prog 68 (.agg #[(.int .i64 0),(.int .i64 0)]) (fun i=>([(0,1),(1,1)]:List (Nat × Nat))[i]?):=zx underlying68 zr68 (by kernel_rfl)
theorem zr71:(Tryz.prog.info? 71).map (·.zero) = some (some (.agg #[(.int .i64 0),(.int .i64 0),(.int .i64 0),(.int .i64 0),(.bool false),(.int .i64 0),(.int .i64 0),(.int .i64 0)])):=by kernel_rfl
theorem bt71:BT Tryz.prog 71 (.agg #[(.int .i64 0),(.int .i64 0),(.int .i64 0),(.int .i64 0),(.bool false),(.int .i64 0),(.int .i64 0),(.int .i64 0)]) (fun i=>([(0,1),(1,2),(3,1),(4,1),(5,1),(6,2)]:List (Nat × Nat))[i]?):=zx underlying71 zr71 (by kernel_rfl)
theorem zr98:(Tryz.prog.info? 98).map (·.zero) = some (some (.agg #[(.string ⟨#[]⟩),(.int .i64 0),(.int .i64 0)])):=by kernel_rfl
theorem bt98:BT Tryz.prog 98 (.agg #[(.string ⟨#[]⟩),(.int .i64 0),(.int .i64 0)]) (fun i=>([(0,1),(1,2)]:List (Nat × Nat))[i]?):=zx underlying98 zr98 (by kernel_rfl)
theorem zr115:(Tryz.prog.info? 115).map (·.zero) = some (some (.agg #[(.slice none 0 0),(.int .i64 0),(.int .i64 0),(.bool false),(.bool false)])):=by kernel_rfl
theorem zr163:(Tryz.prog.info? 163).map (·.zero) = some (some (.pointer none)):=by kernel_rfl
theorem zr190:(Tryz.prog.info? 190).map (·.zero) = some (some (.pointer none)):=by kernel_rfl
theorem zr266:(Tryz.prog.info? 266).map (·.zero) = some (some (.map none)):=by kernel_rfl
theorem zr29:(Tryz.prog.info? 29).map (·.zero) = some (some (.slice none 0 0)):=by kernel_rfl
theorem zr3:(Tryz.prog.info? 3).map (·.zero) = some (some (.int .i64 0)):=by kernel_rfl
theorem zr39:(Tryz.prog.info? 39).map (·.zero) = some (some (.slice none 0 0)):=by kernel_rfl
theorem zr4:(Tryz.prog.info? 4).map (·.zero) = some (some (.bool false)):=by kernel_rfl
theorem zr40:(Tryz.prog.info? 40).map (·.zero) = some (some (.int .i64 0)):=by kernel_rfl
theorem zr61:(Tryz.prog.info? 61).map (·.zero) = some (some (.agg #[(.bool false),(.int .i64 0),(.int .i64 0),(.int .i64 0),(.int .i64 0),(.int .i64 0)])):=by kernel_rfl
def tb:Tb Tryz.prog:=⟨.c underlying3 (.c underlying4 (.c underlying5 (.c underlying9 (.c underlying22 (.c underlying24 (.c underlying25 (.c underlying27 (.c underlying29 (.c underlying31 (.c underlying35 (.c underlying37 (.c underlying39 (.c underlying43 (.c underlying46 (.c underlying49 (.c underlying51 (.c underlying53 (.c underlying56 (.c underlying59 (.c underlying61 (.c underlying65 (.c underlying66 (.c underlying68 (.c underlying71 (.c underlying78 (.c underlying98 (.c underlying109 (.c underlying110 (.c underlying113 (.c underlying115 (.c underlying126 (.c underlying139 (.c underlying152 (.c underlying160 (.c underlying163 (.c underlying165 (.c underlying167 (.c underlying172 (.c underlying181 (.c underlying187 (.c underlying190 (.c underlying199 (.c underlying202 (.c underlying204 (.c underlying206 (.c underlying212 (.c underlying214 (.c underlying215 (.c underlying230 (.c underlying244 (.c underlying246 (.c underlying254 (.c underlying266 (.c underlying273 (.c underlying277 (.c underlying324 .n)))))))))))))))))))))))))))))))))))))))))))))))))))))))),.c bt126 rfl rfl (.c bt139 rfl rfl (.c bt152 rfl rfl (.c bt160 rfl rfl (.c bt165 rfl rfl (.c bt167 rfl rfl (.c bt172 rfl rfl (.c bt175 rfl rfl (.c bt199 rfl rfl (.c bt204 rfl rfl (.c bt206 rfl rfl (.c bt212 rfl rfl (.c bt214 rfl rfl (.c bt24 rfl rfl (.c bt246 rfl rfl (.c bt31 rfl rfl (.c bt37 rfl rfl (.c bt51 rfl rfl (.c bt56 rfl rfl (.c bt59 rfl rfl (.c bt65 rfl rfl (.c bt66 rfl rfl (.c bt68 rfl rfl (.c bt71 rfl rfl (.c bt98 rfl rfl .n)))))))))))))))))))))))),.c zr115 rfl rfl (.c zr126 rfl rfl (.c zr139 rfl rfl (.c zr152 rfl rfl (.c zr160 rfl rfl (.c zr163 rfl rfl (.c zr172 rfl rfl (.c zr190 rfl rfl (.c zr206 rfl rfl (.c zr212 rfl rfl (.c zr246 rfl rfl (.c zr266 rfl rfl (.c zr29 rfl rfl (.c zr3 rfl rfl (.c zr31 rfl rfl (.c zr37 rfl rfl (.c zr39 rfl rfl (.c zr4 rfl rfl (.c zr40 rfl rfl (.c zr51 rfl rfl (.c zr56 rfl rfl (.c zr59 rfl rfl (.c zr61 rfl rfl (.c zr65 rfl rfl (.c zr66 rfl rfl (.c zr68 rfl rfl (.c zr71 rfl rfl (.c zr98 rfl rfl .n))))))))))))))))))))))))))),[(3,1),(4,1),(5,1),(9,1),(22,1),(24,3),(25,1),(27,6),(29,1),(35,1),(37,3),(39,1),(43,1),(49,1),(51,6),(56,3),(59,2),(61,6),(65,2),(66,2),(68,2),(71,8),(98,3),(113,1),(115,5),(126,2),(139,8),(152,6),(160,3),(165,6),(172,4),(185,800),(187,1),(202,1),(206,2),(212,2),(244,1),(246,1)],by kernel_rfl⟩
end Go.Proofs.YticlpkgpmmhemaaGreatDoor
namespace Go.Proofs.YticlpkgpmmhemaaGreatDoor
open Go.RowKit
set_option linter.all false
section
variable {Γ:Cx} {ops:Array Oper} {o:Oper} {σ:St} {Q:Exit → Act → World → Prop} {N:Nat}
theorem Zt:∀ (k:Nat) (F:List Nat) {l r:List Oper} {σ σ':St} {C:Prop} (hn:Γ.n = N) (h:run4 tb N ops k F l σ = some (r,σ',C)) (hr:ARun Γ Tryz.prog ops r σ' Q) (hC:C:=by repeat' (first | exact trivial | exact sees0 | exact seesF0 | assumption | exact rfl | apply And.intro | intro _ | (apply gA; assumption) | (apply gO; assumption) | (refine gA2 ?_ ?_ <;> assumption) | (refine gO2 ?_ ?_ <;> assumption) | simp_all)),ARun Γ Tryz.prog ops l σ Q
  | 0,F,l,r,σ,σ',C,_,h,hr,_=>by cases h; exact hr
  | k + 1,F,o :: l,r,σ,σ',C,hn,h,hr,hC=>by
    unfold run4 at h
    split at h
    · rename_i h1
      split at h
      · rename_i h2
        cases h
        exact step (zDK hn h1 hC.1) fun _=>Zt k _ hn h2 hr hC.2
      · cases h
    · cases h
  | k + 1,F,[],r,σ,σ',C,_,h,_,_=>by unfold run4 at h; cases h
theorem ZtI {ro:Option Nat}:∀ (k:Nat) (F:List Nat) {l r:List Oper} {σ σ':St} {C:Prop} (hn:Γ.n = N) (h:run4 tb N ops k F l σ = some (r,σ',C)) (hr:ARunI ro Γ Tryz.prog ops r σ' Q) (hC:C:=by repeat' (first | exact trivial | exact sees0 | exact seesF0 | assumption | exact rfl | apply And.intro | intro _ | (apply gA; assumption) | (apply gO; assumption) | (refine gA2 ?_ ?_ <;> assumption) | (refine gO2 ?_ ?_ <;> assumption) | simp_all)) (hd:noDefs k l = true:=by exact rfl),ARunI ro Γ Tryz.prog ops l σ Q
  | 0,F,l,r,σ,σ',C,_,h,hr,_,_=>by cases h; exact hr
  | k + 1,F,o :: l,r,σ,σ',C,hn,h,hr,hC,hd=>by
    unfold run4 at h
    unfold noDefs at hd
    have hd:=Bool.and_eq_true_iff.1 hd
    split at h
    · rename_i h1
      split at h
      · rename_i h2
        cases h
        exact stepI ((zDK hn h1 hC.1).i hd.1) fun _=>ZtI k _ hn h2 hr hC.2 hd.2
      · cases h
    · cases h
  | k + 1,F,[],r,σ,σ',C,_,h,_,_,_=>by unfold run4 at h; cases h
/-- In a region that draws its order, where but one can come next. -/
theorem Ze {W : Nat → Prop} : ∀ (is F : List Nat) {n n' : Nat} {L L' : Array Bool} {σ σ' : St} {C : Prop} (hn : Γ.n = N) (h : runE tb N ops W is F n L σ = some (n', L', σ', C)) (hr : D2 Γ Tryz.prog ops Q W n' L' σ')
    (hk:chkE ops is L = true:=by kernel_rfl) (hC:C:=by repeat' (first | exact trivial | exact sees0 | exact seesF0 | assumption | exact rfl | apply And.intro | intro _ | (apply gA; assumption) | (apply gO; assumption) | (refine gA2 ?_ ?_ <;> assumption) | (refine gO2 ?_ ?_ <;> assumption) | simp_all)),D2 Γ Tryz.prog ops Q W n L σ
  | [],F,n,n',L,L',σ,σ',C,_,h,hr,_,_=>by cases h; exact hr
  | i :: is,F,0,n',L,L',σ,σ',C,_,h,_,_,_=>by unfold runE at h; cases h
  | i :: is,F,n + 1,n',L,L',σ,σ',C,hn,h,hr,hk,hC=>by
    unfold runE at h
    unfold chkE at hk
    have hk':=Bool.and_eq_true_iff.1 hk
    split at h
    · rename_i o hi
      split at h
      · rename_i h1
        split at h
        · rename_i h2
          cases h
          exact kI (by simpa using hk'.1) hi (zDK hn h1 hC.1) fun _=>Ze is _ hn h2 hr hk'.2 hC.2
        · cases h
      · cases h
    · cases h
theorem Zk {rest:List Oper} {g:FuncId} {all:List D} {t:Nat} {C:Prop} {r:D} (hn:Γ.n = N) (h:call4 N ops o σ = some (g,all,t,true,C)) (hp:PureAt Tryz.prog g all r) (hr:ARun Γ Tryz.prog ops rest (σ.put t true (.d r)) Q) (hC:C:=by repeat' (first | exact trivial | exact sees0 | exact seesF0 | assumption | exact rfl | apply And.intro | intro _ | (apply gA; assumption) | (apply gO; assumption) | (refine gA2 ?_ ?_ <;> assumption) | (refine gO2 ?_ ?_ <;> assumption) | simp_all)):ARun Γ Tryz.prog ops (o :: rest) σ Q :=
  step (zCk (W:=fun _=>True) hn h (fun _=>hp) fun _=>hC) fun _=>hr
theorem Zkg {rest:List Oper} {g:FuncId} {all:List D} {t:Nat} {c:Bool} {C:Prop} {r:D} (hn:Γ.n = N) (h:call4 N ops o σ = some (g,all,t,c,C)) (hp:c = true → PureAt Tryz.prog g all r) (hr:ARun Γ Tryz.prog ops rest (σ.put t c (.d r)) Q) (hC:c = true → C:=by repeat' (first | exact trivial | exact sees0 | exact seesF0 | assumption | exact rfl | apply And.intro | intro _ | (apply gA; assumption) | (apply gO; assumption) | (refine gA2 ?_ ?_ <;> assumption) | (refine gO2 ?_ ?_ <;> assumption) | simp_all)):ARun Γ Tryz.prog ops (o :: rest) σ Q :=
  step (zCk (W:=fun _=>True) hn h hp hC) fun _=>hr
theorem Ze1 {W : Nat → Prop} {n : Nat} {L : Array Bool} {g : FuncId} {all : List D} {t : Nat} {C : Prop} {r : D} (i : Nat) (hi : ops[i]? = some o) (hn : Γ.n = N) (h : call4 N ops o σ = some (g, all, t, true, C)) (hp : PureAt Tryz.prog g all r) (hr : D2 Γ Tryz.prog ops Q W n (L.setIfInBounds i true) (σ.put t true (.d r)))
    (hC:C:=by repeat' (first | exact trivial | exact sees0 | exact seesF0 | assumption | exact rfl | apply And.intro | intro _ | (apply gA; assumption) | (apply gO; assumption) | (refine gA2 ?_ ?_ <;> assumption) | (refine gO2 ?_ ?_ <;> assumption) | simp_all)) (hk:Region.ready .any ops L = [i]:=by kernel_rfl):D2 Γ Tryz.prog ops Q W (n + 1) L σ :=
  kI hk hi (zCk hn h (fun _=>hp) fun _=>hC) fun _=>hr
/-- The same in a region that draws its order: those of the list are taken first. -/
def runD (tb:Tb Tryz.prog) (R:Rel) (N:Nat) (ops:Array Oper):List Nat → List Nat → Nat → Array Bool → St → Option (Nat × Array Bool × St × Prop)
  | [],_,n,L,σ=>some (n,L,σ,True)
  | i :: is,F,n + 1,L,σ=>(match ops[i]? with
    | some o=>(match o.dst with
      | some t=>bif Nat.blt t N then (match gd4 ops o.guard σ with
        | some c=>(match one4 tb R o.op σ F with
          | some (tv,F',C)=>(match runD tb R N ops is F' n (L.setIfInBounds i true) (σ.put t c tv) with
            | some (n',L',σ',C')=>some (n',L',σ',(c = true → C) ∧ C')
            | none=>none)
          | none=>none)
        | none=>none) else none
      | none=>none)
    | none=>none)
  | _ :: _,_,0,_,_=>none
def chkD (ops:Array Oper):List Nat → Array Bool → Bool
  | [],_=>true
  | i :: is,L=>(Region.noSelect ops && Region.free .any ops L i && (Region.ready .any ops L).contains i) && chkD ops is (L.setIfInBounds i true)
theorem Zy {W : Nat → Prop} : ∀ (is F : List Nat) {n n' : Nat} {L L' : Array Bool} {σ σ' : St} {C : Prop} (hn : Γ.n = N) (h : runD tb (RA W) N ops is F n L σ = some (n', L', σ', C)) (hr : D1 Γ Tryz.prog ops Q W n' L' σ')
    (hk:chkD ops is L = true:=by kernel_rfl) (hC:C:=by repeat' (first | exact trivial | exact seesFA | exact seesA (by simp) | assumption | exact rfl | apply And.intro | intro _ | (apply gA; assumption) | (apply gO; assumption) | (refine gA2 ?_ ?_ <;> assumption) | (refine gO2 ?_ ?_ <;> assumption) | simp_all)) (hQ:∀ c a w (t:Nat) v,Q (.panic c) (a.put (some t) v) w → Q (.panic c) a w:=by exact fun _ _ _ _ _ h=>h),D1 Γ Tryz.prog ops Q W n L σ
  | [],F,n,n',L,L',σ,σ',C,_,h,hr,_,_,_=>by cases h; exact hr
  | i :: is,F,0,n',L,L',σ,σ',C,_,h,_,_,_,_=>by unfold runD at h; cases h
  | i :: is,F,n + 1,n',L,L',σ,σ',C,hn,h,hr,hk,hC,hQ=>by
    unfold runD at h
    unfold chkD at hk
    have hk':=Bool.and_eq_true_iff.1 hk
    have hd:=dsl hk'.1
    split at h
    · rename_i o hi
      split at h
      · rename_i t ht
        cases hb:Nat.blt t N with
        | false=>rw [hb] at h; cases h
        | true =>
          rw [hb,cond_true] at h
          split at h
          · rename_i c hg
            split at h
            · rename_i tv F' C1 h1
              split at h
              · rename_i h2
                cases h
                exact d1_take [] hi hd.1 hd.2.1 hd.2.2 (fun c a w v=>by rw [ht]; exact hQ c a w t v) (zEr hg) ht (nb hn hb) (fun _=>trivial) (fun hc=>zHO h1 (hC.1 hc)) (Zy is F' hn h2 hr hk'.2 hC.2 hQ)
              · cases h
            · cases h
          · cases h
      · cases h
    · cases h
theorem Zb {rest:List Oper} {ty:TypeId} {t:Nat} {cs:List TV} {C:Prop} (id:Nat) (hn:Γ.n = N) (h:new4 tb N o σ = some (ty,t,cs,C)) (hr:∀ b,ARun Γ Tryz.prog ops rest ((σ.put t true (.ref b 0)).rput id (.box b ty cs)) Q) (hC:C:=by repeat' (first | exact trivial | exact sees0 | exact seesF0 | assumption | exact rfl | apply And.intro | intro _ | (apply gA; assumption) | (apply gO; assumption) | (refine gA2 ?_ ?_ <;> assumption) | (refine gO2 ?_ ?_ <;> assumption) | simp_all)):ARun Γ Tryz.prog ops (o :: rest) σ Q:=by
  unfold new4 at h
  split at h
  · rename_i t' hg ht
    cases hb:Nat.blt t' N with
    | false=>rw [hb] at h; cases h
    | true =>
      rw [hb,cond_true] at h
      split at h
      · rename_i hop
        split at h
        · rename_i hx
          cases h
          obtain ⟨rfl,hf⟩:=hC
          exact step (W:=fun _=>True) (zHY id hop hg ht (nb hn hb) hx hf) hr
        · cases h
      · rename_i hop
        split at h
        · rename_i ha
          cases h
          obtain ⟨z,hz,hcs,h1⟩:=AL.ok ha
          exact step (W:=fun _=>True) (yF id hop hg ht (nb hn hb) hz hcs h1) hr
        · cases h
      · cases h
  · cases h
theorem Zi {rest:List Oper} {es:List (List D)} {m:Int} {t:Nat} {C:Prop} {c:List D} {i:Nat} (hn:Γ.n = N) (h:idx4 tb N o σ = some (es,m,t,C)) (hm:m = (i:Int)) (hc:es[i]? = some c) (hr:ARun Γ Tryz.prog ops rest (σ.put t true (.d (.ptr c))) Q) (hC:C:=by repeat' (first | exact trivial | exact sees0 | exact seesF0 | assumption | exact rfl | apply And.intro | intro _ | (apply gA; assumption) | (apply gO; assumption) | (refine gA2 ?_ ?_ <;> assumption) | (refine gO2 ?_ ?_ <;> assumption) | simp_all)):ARun Γ Tryz.prog ops (o :: rest) σ Q:=by
  unfold idx4 at h
  split at h
  · rename_i t' hg ht
    cases hb:Nat.blt t' N with
    | false=>rw [hb] at h; cases h
    | true =>
      rw [hb,cond_true] at h
      split at h
      · rename_i hop
        split at h
        · rename_i hu
          split at h
          · rename_i hz
            split at h
            · rename_i hx hy
              cases h
              obtain ⟨rfl,rfl,rfl⟩:=hC
              exact sq hg ht hn hb (q_index hop hx hy (UL.ok hu) (Tb.sz hz) hm hc) hr
            · cases h
          · cases h
        · cases h
      · cases h
  · cases h
end
end Go.Proofs.YticlpkgpmmhemaaGreatDoor
