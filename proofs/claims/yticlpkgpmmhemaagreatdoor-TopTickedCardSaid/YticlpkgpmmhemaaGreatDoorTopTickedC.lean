/-
  A part of the proof that contangolaw.TopTicked returns true: what the last text needs, and no more. No condition: no statement of the seat is proved here.
-/
import Derived.RangeFuncSeq
import Derived.OrdersIn
import Derived.RangeFuncCalls
import Derived.Scope
import Derived.Laws.MakeOwn
import Derived.Test.YticlpkgpmmhemaaGreatDoorTopTickedB
namespace Go.Proofs.YticlpkgpmmhemaaGreatDoor
open Go.RowKit
set_option linter.all false
section
variable {Γ:Cx} {P:Program} {σ:St} {ops:Array Oper} {o:Oper} {Q:Exit → Act → World → Prop} {W:Nat → Prop} {R:Rel}
theorem TReps.get_set {F:Nat → Nat → Prop} {w:World} {cs:List TV} {vs:List Value} {k:Nat} {tv:TV} (h:TReps F w cs vs) (hk:∀ v,vs[k]? = some v → TRep F w tv v):TReps F w (cs.set k tv) vs:=by
  induction cs generalizing vs k with
  | nil=>exact h
  | cons c cs ih =>
    obtain ⟨v,vs',rfl,h1,h2⟩:=h
    cases k with
    | zero=>exact ⟨v,vs',rfl,hk v rfl,h2⟩
    | succ k=>exact ⟨v,vs',rfl,h1,ih h2 fun u hu=>hk u (by simpa using hu)⟩
/-- The same box, its cells read otherwise. -/
theorem RS.reread {a : Act} {w : World} {F : Nat → Nat → Prop} (h : RS Γ σ a w F) {id b : Nat} {bt : TypeId} {cs cs' : List TV} (hb : σ.rget id = some (.box b bt cs))
    (hc:∀ vs:List Value,TReps F w cs vs → TReps F w cs' vs):RS Γ (σ.rput id (.box b bt cs')) a w F:=by
  obtain ⟨h1,h2,vs,hh,h3,h4⟩:=h.rs id _ hb
  refine h.rput ⟨h1,h2,vs,hh,hc vs h3,h4⟩ fun c hcb j r' hne hj e=>?_
  simp only [Res.has] at hcb
  subst hcb
  exact hne (h.sep j id r' _ b hj hb e rfl)
/-- A nil slice in a box's cell: a row of one's own. -/
theorem gh_nilcell {id b k : Nat} {bt : TypeId} {cs : List TV} (nid : Nat) (e : TypeId) (sz : Nat) (hb : σ.rget id = some (.box b bt cs)) (hk : cs[k]? = some (.d .nil)) :
    Ghost Γ σ ((σ.rput nid (.row (.slice none 0 0) e sz [])).rput id (.box b bt (cs.set k (.val (.slice none 0 0))))):=fun a w F hs=>by
  by_cases hne:nid = id
  · subst hne
    refine ⟨F,?_,fun _ _ h=>h⟩
    have h1:=hs.reread (cs':=cs.set k (.val (.slice none 0 0))) hb (fun vs hv=>hv.get_set fun v hvk=>by
      obtain ⟨u,hu,hr⟩:=hv.get hk
      rw [hu] at hvk; cases hvk
      exact hr)
    constructor
    case rs=>intro j r1 hget; refine h1.rs j r1 ?_; rw [zn] at hget ⊢; split at hget <;> simp_all [zn]
    case sep=>intro j j' r1 r2 c k1 k2; refine h1.sep j j' r1 r2 c ?_ ?_ <;> (rw [zn] at *; split <;> simp_all [zn])
    all_goals first | exact h1.size | exact h1.defers | exact h1.os | exact h1.tape | exact h1.output | exact h1.hsize | exact h1.old | exact h1.fcell | exact h1.glob | exact h1.keep | exact h1.f0 | exact h1.fnew | exact h1.tm
  · refine ⟨F,?_,fun _ _ h=>h⟩
    have h1:=hs.rput (i:=nid) (r:=.row (.slice none 0 0) e sz []) (.inl ⟨rfl,rfl⟩) (fun b hb=>by simp [Res.has,Value.ownBlock] at hb)
    exact h1.reread (by rw [zn,if_neg hne]; exact hb) (fun vs hv=>hv.get_set fun v hvk=>by
      obtain ⟨u,hu,hr⟩:=hv.get hk
      rw [hu] at hvk; cases hvk
      exact hr)
/-- A row in a box's cell, read as data. -/
theorem gh_rowcell {id b k rid : Nat} {bt e : TypeId} {cs : List TV} {v : Value} {sz : Nat} {es : List (List D)} (hb : σ.rget id = some (.box b bt cs)) (hk : cs[k]? = some (.val v)) (hr : σ.rget rid = some (.row v e sz es)) :
    Ghost Γ σ (σ.rput id (.box b bt (cs.set k (.d (.slice sz es))))):=fun a w F hs=>by
  refine ⟨F,?_,fun _ _ h=>h⟩
  exact hs.reread hb (fun vs hv=>hv.get_set fun u hu=>by
    obtain ⟨u',hu',hr'⟩:=hv.get hk
    rw [hu'] at hu; cases hu
    simp only [TRep] at hr'
    subst hr'
    exact zBf (hs.rs rid _ hr))
/-- An empty slice in a box's cell. -/
theorem gh_emptycell {id b k : Nat} {bt : TypeId} {cs : List TV} (sz : Nat) (hb : σ.rget id = some (.box b bt cs)) (hk : cs[k]? = some (.d .nil)) :
    Ghost Γ σ (σ.rput id (.box b bt (cs.set k (.d (.slice sz []))))):=fun a w F hs=>by
  refine ⟨F,?_,fun _ _ h=>h⟩
  exact hs.reread hb (fun vs hv=>hv.get_set fun u hu=>by
    obtain ⟨u',hu',hr'⟩:=hv.get hk
    rw [hu'] at hu; cases hu
    simp only [TRep,Rep] at hr'
    subst hr'
    exact ⟨none,0,rfl,Nat.le_refl _,Nat.zero_le _,.inl rfl⟩)
/-- A slice literal as a row of one's own. -/
theorem s_buildRow {t e : TypeId} {len sz dt : Nat} {parts : Array (Nat × Operand)} {z : Value} {zc : Array Value} {zs cs : List TV} {ds : List D} {es : List (List D)} {ps : List (Nat × TV)} (id : Nat) (h : o.op = .buildSlice t len parts)
    (hg:o.guard = none) (hd:o.dst = some dt) (hn:Nat.blt dt Γ.n = true) (ht:P.underlying t = some (.slice e)) (hsz:Sz P e sz) (hzero:(P.info? e).map (·.zero) = some (some z))
    (hsmall:Nat.ble (len * sz) 16777216 = true) (hlen24:Nat.ble len 16777216 = true) (hzc:((Array.range (len * sz)).map ((if len * sz = 0 then #[] else z.cells)[· % (if len * sz = 0 then #[] else z.cells).size]!)) = zc)
    (hz:zc.toList.map constTV = zs) (h1:zc.toList.all (·.oneCell') = true) (hp:pevs σ parts.toList = some ps) (hf:fillTV (fun i=>some (i * sz,sz)) zs ps = some cs) (hc:allD cs = some ds)
    (hl:Nat.beq ds.length (len * sz) = true) (he:chunk sz len ds = es):StepW Γ P ops σ o W fun v:Value=>(σ.put dt true (.val v)).rput id (.row v e sz es):=fun a w F hs K Q hK=>by
  rw [if_pos (zi hg a)]
  have h24:(2:Nat) ^ 24 = 16777216:=by decide
  have hsm:=Nat.le_of_ble_eq_true hsmall
  have hl24:=Nat.le_of_ble_eq_true hlen24
  obtain ⟨q1,q2,q3⟩:=y6 sz len ds (Nat.eq_of_beq_eq_true hl)
  rw [he] at q1 q2 q3
  obtain ⟨k1,k2⟩:=hs.pevs hp
  obtain ⟨vs',g1,g2,g3⟩:=zAO (w:=w) (F:=F) (place:=fun i=>some (i * sz,sz)) (vs:=zc) k1 k2 (by rw [← hz]; exact yV _) (List.all_eq_true.1 h1) hf
  have hrun:=yp (parts:=parts.map fun (i,x)=>(i,a.eval x)) (cells:=vs') w ht hsz hzero (by rw [h24]; exact hsm) hzc (by rw [← g1]; simp)
  have hex:(execOp a.eval o).run P w = .ok (.value (.slice (some ⟨w.heap.size,0,none⟩) len len)) (w.alloc (.cells vs' e)):=by
    simp only [execOp,h,Sem.run_bind,hrun,Result.andThen_ok,Sem.run_pure]
  unfold Oper.wp
  rw [hex]
  show K (a.put o.dst _) _
  rw [hd]
  obtain ⟨r1,r2⟩:=hs.newFrozen (ty:=e) (vs:=vs')
  rw [yi hc] at g2
  have hv:=g2.of_d
  have hlen:=hv.length
  have hfl:=yj q3
  have hsz':vs'.size = len * sz:=by
    have:vs'.toList.length = ds.length:=hlen
    rw [Array.length_toList] at this
    rw [this,← q1,hfl,q2]
  refine hK (.slice (some ⟨w.heap.size,0,none⟩) len len) _ _ _ ((r1.put (t:=dt) (c:=true) (tv:=.val (.slice (some ⟨w.heap.size,0,none⟩) len len)) (zx hn) (fun _=>rfl) (fun h=>by cases h)).rput (i:=id) (r:=.row (.slice (some ⟨w.heap.size,0,none⟩) len len) e sz es) ?_ ?_) (fun _ _ h=>.inl h) (by simp) ((Grow.alloc hs.fcell _).agree (fun _ e=>by cases e))
  · refine .inr ⟨w.heap.size,len,vs',by rw [q2],.inl hs.hsize,by simpa using heap_alloc_new w (.cells vs' e),by omega,by simp only [maxLen]; omega,by rw [hsz'],RepRows.flat.2 ⟨q3,RepCells.of_vals (by rw [q1]; exact hv.ext' r2) g3 fun j x hx=>?_⟩,fun k hk=>?_⟩
    · have hj:=(List.getElem?_eq_some_iff.1 hx).1
      rw [Nat.zero_add]
      exact ⟨by rw [World.cell?_alloc_new,← Array.getElem?_toList]; exact hx,.inr ⟨rfl,by simpa using hj⟩⟩
    · rcases hk with hk | ⟨_,hk⟩
      · obtain ⟨x,hx⟩:=hs.fcell _ _ hk
        exact absurd (World.block_lt_of_cell? w ⟨w.heap.size,k,none⟩ hx) (Nat.lt_irrefl _)
      · rw [q2,← hsz']; exact hk
  · intro c hcb j r' hne hj e2
    simp only [Res.has,Value.ownBlock,Option.some.injEq] at hcb
    subst hcb
    exact Nat.lt_irrefl _ (kF (hs.rs j r' hj) e2)
/-- A row of one's own is laid in a box's cell. -/
theorem s_storeRow {x y : Operand} {ty bt e : TypeId} {b off id rid sz : Nat} {cs cs' : List TV} {v : Value} {es : List (List D)} (h : o.op = .store ty x y) (hg : o.guard = none) (hd : o.dst = none)
    (hx:σ.ev x = some (true,.val (.pointer (some ⟨b,off,none⟩)))) (hy:σ.ev y = some (true,.val v)) (hr:σ.rget rid = some (.row v e sz es))
    (hb:σ.rget id = some (.box b bt cs)) (hz:Sz P ty 1) (hle:off < cs.length) (hcs:cs.set off (.val v) = cs') (hWb:W b):StepW Γ P ops σ o W fun _:Unit=>σ.rput id (.box b bt cs'):=fun a w F hs=>by
  obtain ⟨ad,cap,e1⟩:=zDu (hs.rs rid _ hr)
  exact s_store1 h hg hd hx hy (by rw [e1]; rfl) hb hz hle hcs hWb a w F hs
end
/-- Data that is one value: a number, a bool, a string. -/
def D.sim:D → Option Value
  | .int k n=>some (.int k n)
  | .bool b=>some (.bool b)
  | .str s=>some (.string s)
  | _=>none
def sims:List D → Option (List Value)
  | []=>some []
  | d :: r=>match d.sim,sims r with
    | some v,some vs=>some (v :: vs)
    | _,_=>none
/-- Such, or a struct of such. -/
def D.lit:D → Option Value
  | .agg cs=>(sims cs).map fun vs=>.agg vs.toArray
  | d=>d.sim
theorem sim_one {d:D} {v:Value} (h:d.sim = some v):v.oneCell' = true:=by
  cases d <;> simp only [D.sim,Option.some.injEq,reduceCtorEq] at h <;> (subst h; rfl)
theorem zCP {F:Nat → Nat → Prop} {w:World} {d:D} {u v:Value} (h:d.sim = some u):Rep F w d v ↔ v = u:=by
  cases d <;> simp only [D.sim,Option.some.injEq,reduceCtorEq] at h <;> (subst h; exact Iff.rfl)
theorem zAb {F:Nat → Nat → Prop} {w:World}:∀ {ds:List D} {us vs:List Value},sims ds = some us → (RepVals F w ds vs ↔ vs = us)
  | [],us,vs,h=>by simp only [sims,Option.some.injEq] at h; subst h; exact Iff.rfl
  | d :: ds,us,vs,h=>by
    simp only [sims] at h
    split at h
    · rename_i v us' h1 h2
      cases h
      constructor
      · rintro ⟨x,xs,rfl,k1,k2⟩
        rw [(zCP h1).1 k1,(zAb h2).1 k2]
      · rintro rfl
        exact ⟨v,us',rfl,(zCP h1).2 rfl,(zAb h2).2 rfl⟩
    · cases h
theorem zC4:∀ {ds:List D} {us:List Value},sims ds = some us → ∀ u ∈ us,u.oneCell' = true
  | [],us,h=>by simp only [sims,Option.some.injEq] at h; subst h; simp
  | d :: ds,us,h=>by
    simp only [sims] at h
    split at h
    · rename_i v us' h1 h2
      cases h
      intro u hu
      rcases List.mem_cons.1 hu with rfl | hu
      · exact sim_one h1
      · exact zC4 h2 u hu
    · cases h
theorem zAe {F:Nat → Nat → Prop} {w:World} {d:D} {u v:Value} (h:d.lit = some u):Rep F w d v ↔ v = u:=by
  cases d with
  | agg cs =>
    simp only [D.lit,Option.map_eq_some_iff] at h
    obtain ⟨us,h1,rfl⟩:=h
    constructor
    · rintro ⟨vs,rfl,k,_⟩
      rw [(zAb h1).1 k]
    · rintro rfl
      exact ⟨us,rfl,(zAb h1).2 rfl,zC4 h1⟩
  | _=>exact zCP h
theorem zDw {d d':D} {u:Value} (h:d.sim = some u) (h':d'.sim = some u):d = d':=by
  cases d <;> simp only [D.sim,Option.some.injEq,reduceCtorEq] at h <;> subst h <;> cases d' <;> simp_all [D.sim]
theorem zDU:∀ {ds ds':List D} {us:List Value},sims ds = some us → sims ds' = some us → ds = ds'
  | [],[],_,_,_=>rfl
  | [],d' :: ds',us,h,h'=>by
    simp only [sims,Option.some.injEq] at h
    subst h
    simp only [sims] at h'
    split at h' <;> cases h'
  | d :: ds,[],us,h,h'=>by
    simp only [sims,Option.some.injEq] at h'
    subst h'
    simp only [sims] at h
    split at h <;> cases h
  | d :: ds,d' :: ds',us,h,h'=>by
    simp only [sims] at h h'
    split at h
    · rename_i v us1 h1 h2
      cases h
      split at h'
      · rename_i v' us2 h1' h2'
        cases h'
        rw [zDw h1 h1',zDU h2 h2']
      · cases h'
    · cases h
theorem zCR {d d':D} {u:Value} (h:d.lit = some u) (h':d'.lit = some u):d = d':=by
  have key:∀ (cs:List D) (x:D),(D.agg cs).lit = some u → x.lit = some u → (∀ cs,x ≠ .agg cs) → False:=fun cs x k1 k2 hne=>by
    simp only [D.lit,Option.map_eq_some_iff] at k1
    obtain ⟨us,_,rfl⟩:=k1
    cases x <;> first | exact hne _ rfl | (simp [D.lit,D.sim] at k2)
  cases d with
  | agg cs =>
    cases d' with
    | agg cs' =>
      simp only [D.lit,Option.map_eq_some_iff] at h h'
      obtain ⟨us,h1,rfl⟩:=h
      obtain ⟨us',h1',e⟩:=h'
      have:us' = us:=by simpa using e
      subst this
      rw [zDU h1 h1']
    | _=>exact (key cs _ h h' (fun _ e=>by cases e)).elim
  | _ =>
    cases d' with
    | agg cs'=>exact (key cs' _ h' h (fun _ e=>by cases e)).elim
    | _=>exact zDw h h'
/-- What is asked of the keys of a map's type. -/
structure KLaw (P:Program) (k:TypeId) (V:Value → Prop):Prop where
  check:∀ (w:World) (em:Bool) {v:Value},V v → (Instr.checkKey em 10000 k v).run P w = .ok () w
  find:∀ (w:World) {x:Value},V x → ∀ es:List MapEntry,(∀ e ∈ es,V e.key) →
    ((Instr.findKey k x es).run P w = .ok none w ∧ ∀ e ∈ es,e.key ≠ x) ∨ ∃ j e,(Instr.findKey k x es).run P w = .ok (some (j,e.val)) w ∧ es[j]? = some e ∧ e.key = x
  stays:∀ (w:World) {v:Value},V v → (Instr.keyThatStays v v).run P w = .ok v w
def KV (P:Program) (k:TypeId) (v:Value):Prop:=∃ l,keyOf P k v = some l
/-- A map's entries, as a relation between keys and what they have. -/
structure MapR (V:Value → Prop) (es:Array MapEntry) (M:D → D → Prop):Prop where
  valid:∀ e ∈ es.toList,V e.key
  left:∀ e ∈ es.toList,∃ d d',d.lit = some e.key ∧ d'.lit = some e.val ∧ M d d'
  right:∀ d d',M d d' → ∃ e ∈ es.toList,d.lit = some e.key ∧ d'.lit = some e.val
  nodup:(es.toList.map (·.key)).Nodup
/-- The stamps of a map's entries. -/
def BornOK (es:Array MapEntry) (clock:Nat):Prop:=(∀ e ∈ es.toList,e.born < clock) ∧ (es.toList.map (·.born)).Nodup
def mapJ (V:Value → Prop) (b:Nat) (M:D → D → Prop) (_:Nat → Nat → Prop) (w:World):Prop:=∃ es clock,w.heap[b]? = some (.map es clock) ∧ MapR V es M ∧ BornOK es clock
/-- A map of one's own. -/
def mapRes (V:Value → Prop) (b:Nat) (M:D → D → Prop):Res:=.inv (fun c=>c = b) (mapJ V b M)
theorem zAy {V:Value → Prop} {b:Nat} {M:D → D → Prop}:Stands (fun c=>c = b) (mapJ V b M):=fun _ _ _ _ ⟨es,clock,h,hm⟩ _ hb _ _=>⟨es,clock,(hb b rfl).trans h,hm⟩
/-- A map's value: known outright. -/
inductive MapV (σ:St) (x:Operand) (b:Nat):Prop
  | d (h:σ.ev x = some (true,.d (.raw (.map (some b)))))
  | v (h:σ.ev x = some (true,.val (.map (some b))))
theorem MapV.run {Γ:Cx} {σ:St} {a:Act} {w:World} {F:Nat → Nat → Prop} (hs:RS Γ σ a w F) {x:Operand} {b:Nat} (h:MapV σ x b):a.eval x = .map (some b):=by
  cases h with
  | d h=>exact hs.ev h
  | v h=>exact hs.ev h
section
variable {Γ:Cx} {P:Program} {σ:St} {ops:Array Oper} {o:Oper} {Q:Exit → Act → World → Prop} {W:Nat → Prop} {R:Rel}
theorem s_makeMap {t dt : Nat} (V : Value → Prop) (id : Nat) (h : o.op = .makeMap t none) (hg : o.guard = none) (hd : o.dst = some dt) (hn : Nat.blt dt Γ.n = true) :
    StepW Γ P ops σ o W fun b=>(σ.put dt true (.d (.raw (.map (some b))))).rput id (mapRes V b fun _ _=>False):=fun a w F hs K Q hK=>by
  rw [if_pos (zi hg a)]
  have hrun:(execOp a.eval o).run P w = .ok (.value (.map (some w.heap.size))) (w.alloc (.map #[] 0)):=by
    simp [execOp,h,Instr.makeMap,run_newObj]
  unfold Oper.wp
  rw [hrun]
  show K (a.put o.dst _) _
  rw [hd]
  have hg':=Grow.alloc (F:=F) hs.fcell (.map #[] 0)
  have h1 := (hs.grow hg').rput (i := id) (r := mapRes V w.heap.size fun _ _ => False) ⟨fun b hb => by subst hb; exact ⟨.inl hs.hsize, by simp⟩, ⟨#[], 0, by simpa using heap_alloc_new w (.map #[] 0), ⟨by simp, by simp, fun _ _ h => h.elim, by simp⟩, by simp, by simp⟩, zAy⟩ (fun b hb j r' _ hj e => by
      simp only [mapRes,Res.has] at hb
      subst hb
      exact Nat.lt_irrefl _ (kF (hs.rs j r' hj) e))
  exact hK w.heap.size _ _ F (h1.put (zx hn) (fun _=>rfl) (fun h=>by cases h)) (fun _ _ h=>h) (by simp) (hg'.agree (fun _ e=>by cases e))
theorem y4 {α:Type} (es:Array α) (j:Nat) (f:α → α) (i:Nat):(es.modify j f).toList[i]? = if j = i then (es.toList[i]?).map f else es.toList[i]?:=by
  rw [Array.toList_modify,List.getElem?_modify]
  split <;> cases es.toList[i]? <;> simp_all
theorem zBn {k : TypeId} {V : Value → Prop} (law : KLaw P k V) {w : World} {es : Array MapEntry} {M : D → D → Prop} (hm : MapR V es M) {kd : D} {kv : Value} (hk : kd.lit = some kv) (hv : V kv) :
    ((Instr.findKey k kv es.toList).run P w = .ok none w ∧ ∀ d,¬ M kd d) ∨ ∃ j e d,(Instr.findKey k kv es.toList).run P w = .ok (some (j,e.val)) w ∧ es.toList[j]? = some e ∧ e.key = kv ∧ d.lit = some e.val ∧ M kd d:=by
  rcases law.find w hv es.toList hm.valid with ⟨hf,hno⟩ | ⟨j,e,hf,hj,hke⟩
  · refine .inl ⟨hf,fun d hd=>?_⟩
    obtain ⟨e,he,h1,_⟩:=hm.right kd d hd
    rw [hk] at h1
    exact hno e he (Option.some.inj h1).symm
  · obtain ⟨d0,d,h1,h2,h3⟩:=hm.left e (List.mem_of_getElem? hj)
    rw [hke] at h1
    rw [zCR h1 hk] at h3
    exact .inr ⟨j,e,d,hf,hj,hke,h2,h3⟩
theorem s_lookup {t k e dt b id : Nat} {x y : Operand} {ok : Bool} {V : Value → Prop} {M : D → D → Prop} {kd zd : D} {kv z : Value} (h : o.op = .lookup t x y ok) (hg : o.guard = none) (hd : o.dst = some dt) (hn : Nat.blt dt Γ.n = true)
    (law:KLaw P k V) (ht:P.underlying t = some (.map k e)) (hz:(P.info? e).map (·.zero) = some (some z)) (hzd:zd.lit = some z)
    (hx:MapV σ x b) (hy:σ.ev y = some (true,.d kd)) (hk:kd.lit = some kv) (hv:V kv) (hr:σ.rget id = some (mapRes V b M)) :
    StepW Γ P ops σ o W fun r:{r:Option D // (∀ d,r = some d → M kd d) ∧ (r = none → ∀ d,¬ M kd d)}=>σ.put dt true (.d (bif ok then .tup [r.1.getD zd,.bool r.1.isSome] else r.1.getD zd)):=fun a w F hs K Q hK=>by
  rw [if_pos (zi hg a)]
  have hx':=hx.run hs
  have hy':=(zAe hk).1 (hs.ev hy)
  obtain ⟨_,⟨es,clock,hh,hm,_⟩,_⟩:=hs.rs id _ hr
  have hzr:(zeroValue e).run P w = .ok z w:=by
    cases hq:P.info? e with
    | none=>simp [hq] at hz
    | some i=>simp [hq] at hz; simp [zeroValue,typeInfo,hq,hz]
  have hget:(getObj b).run P w = .ok (.map es clock) w:=by simp [getObj,Sem.run,hh]
  have key:∃ (r:Option D) (v:Value),((∀ d,r = some d → M kd d) ∧ (r = none → ∀ d,¬ M kd d)) ∧ (r.getD zd).lit = some v ∧ (Instr.lookup t (.map (some b)) kv ok).run P w = .ok (if ok then .tuple #[v,.bool r.isSome] else v) w:=by
    rcases zBn law (w:=w) hm hk hv with ⟨hf,hno⟩ | ⟨j,en,d,hf,hj,hke,h2,h3⟩
    · refine ⟨none,z,⟨fun _ h=>(by cases h),fun _=>hno⟩,hzd,?_⟩
      simp only [Instr.lookup,Sem.run_bind,run_underlying ht,Result.andThen_ok,hget,Sem.run_pure,law.check w _ hv,hf,hzr]
      rfl
    · refine ⟨some d,en.val,⟨fun d' h=>(by cases h; exact h3),fun h=>(by cases h)⟩,h2,?_⟩
      simp only [Instr.lookup,Sem.run_bind,run_underlying ht,Result.andThen_ok,hget,Sem.run_pure,law.check w _ hv,hf]
      rfl
  obtain ⟨r,v,hr',hl,hrun⟩:=key
  have hex:(execOp a.eval o).run P w = .ok (.value (if ok then .tuple #[v,.bool r.isSome] else v)) w:=by
    simp only [execOp,h,hx',hy',Sem.run_bind,hrun,Result.andThen_ok,Sem.run_pure]
  unfold Oper.wp
  rw [hex]
  show K (a.put o.dst _) w
  rw [hd]
  refine hK ⟨r,hr'⟩ _ _ F (hs.put (zx hn) (fun _=>?_) (fun h=>by cases h)) (fun _ _ h=>h) (Nat.le_refl _) (Agree.refl _ _ _)
  cases ok with
  | true=>exact ⟨[v,.bool r.isSome],rfl,v,_,rfl,(zAe hl).2 rfl,_,[],rfl,rfl,rfl⟩
  | false=>exact (zAe hl).2 rfl
/-- The relation with one more pair. -/
def setM (M:D → D → Prop) (kd vd:D) (d d':D):Prop:=(d = kd ∧ d' = vd) ∨ (d ≠ kd ∧ M d d')
theorem s_mapUpdate {t k e b id : Nat} {x y z : Operand} {V : Value → Prop} {M M' : D → D → Prop} {kd vd : D} {kv vv : Value} (h : o.op = .mapUpdate t x y z) (hg : o.guard = none) (hd : o.dst = none)
    (law:KLaw P k V) (ht:P.underlying t = some (.map k e)) (hx:MapV σ x b) (hy:σ.ev y = some (true,.d kd)) (hk:kd.lit = some kv) (hv:V kv) (hz:σ.ev z = some (true,.d vd)) (hvd:vd.lit = some vv)
    (hr:σ.rget id = some (mapRes V b M)) (hM':setM M kd vd = M') (hWb:W b):StepW Γ P ops σ o W fun _:Unit=>σ.rput id (mapRes V b M'):=fun a w F hs K Q hK=>by
  subst hM'
  rw [if_pos (zi hg a)]
  have hx':=hx.run hs
  have hy':=(zAe hk).1 (hs.ev hy)
  have hz':=(zAe hvd).1 (hs.ev hz)
  obtain ⟨hfp,⟨es,clock,hh,hm,hbn⟩,_⟩:=hs.rs id _ hr
  have hlt:=yO hh
  have hget:(getObj b).run P w = .ok (.map es clock) w:=by simp [getObj,Sem.run,hh]
  have hset:∀ y:Obj,(setObj b y).run P w = .ok () { w with heap:=w.heap.setIfInBounds b y }:=fun y=>by simp [setObj,Sem.run,hh]
  have key:∃ es' clock',(Instr.mapUpdate t (.map (some b)) kv vv).run P w = .ok () { w with heap:=w.heap.setIfInBounds b (.map es' clock') } ∧ MapR V es' (setM M kd vd) ∧ BornOK es' clock':=by
    rcases zBn law (w:=w) hm hk hv with ⟨hf,hno⟩ | ⟨j,en,d,hf,hj,hke,h2,h3⟩
    · refine ⟨es.push { key:=kv,val:=vv,born:=clock },clock + 1,?_,?_,?_⟩
      · simp only [Instr.mapUpdate,Sem.run_bind,run_underlying ht,Result.andThen_ok,hget,law.check w _ hv,hf]
        exact hset _
      · have hnk : ∀ e ∈ es.toList, e.key ≠ kv := fun e he hek => by
          obtain ⟨d0,d,h1,_,h3⟩:=hm.left e he
          rw [hek] at h1
          rw [zCR h1 hk] at h3
          exact hno _ h3
        refine ⟨fun e he=>?_,fun e he=>?_,fun d d' hM=>?_,?_⟩
        · rw [Array.toList_push,List.mem_append] at he
          rcases he with he | he
          · exact hm.valid e he
          · rw [List.mem_singleton] at he; subst he; exact hv
        · rw [Array.toList_push,List.mem_append] at he
          rcases he with he | he
          · obtain ⟨d,d',h1,h2,h3⟩:=hm.left e he
            refine ⟨d,d',h1,h2,.inr ⟨fun e'=>?_,h3⟩⟩
            subst e'
            exact hnk e he (Option.some.inj (h1.symm.trans hk))
          · rw [List.mem_singleton] at he; subst he; exact ⟨kd,vd,hk,hvd,.inl ⟨rfl,rfl⟩⟩
        · rcases hM with ⟨rfl,rfl⟩ | ⟨_,hM⟩
          · exact ⟨{ key:=kv,val:=vv,born:=clock },by simp,hk,hvd⟩
          · obtain ⟨e,he,h1,h2⟩:=hm.right d d' hM
            exact ⟨e,by rw [Array.toList_push,List.mem_append]; exact .inl he,h1,h2⟩
        · rw [Array.toList_push,List.map_append,List.nodup_append]
          refine ⟨hm.nodup,by simp,?_⟩
          intro x hx y hy
          simp only [List.map_cons,List.map_nil,List.mem_singleton] at hy
          subst hy
          obtain ⟨e,he,rfl⟩:=List.mem_map.1 hx
          exact hnk e he
      · refine ⟨fun e he=>?_,?_⟩
        · rw [Array.toList_push,List.mem_append,List.mem_singleton] at he
          rcases he with he | rfl
          · exact Nat.lt_succ_of_lt (hbn.1 e he)
          · exact Nat.lt_succ_self _
        · rw [Array.toList_push,List.map_append,List.nodup_append]
          refine ⟨hbn.2,by simp,?_⟩
          intro x hx y hy
          simp only [List.map_cons,List.map_nil,List.mem_singleton] at hy
          subst hy
          obtain ⟨e,he,rfl⟩:=List.mem_map.1 hx
          exact Nat.ne_of_lt (hbn.1 e he)
    · have hjlt:=(List.getElem?_eq_some_iff.1 hj).1
      have hje:es[j]? = some en:=by rw [← hj]; simp
      refine ⟨es.modify j fun e=>{ e with key:=kv,val:=vv },clock,?_,?_,?_⟩
      · simp only [Instr.mapUpdate,Sem.run_bind,run_underlying ht,Result.andThen_ok,hget,law.check w _ hv,hf,hje,Option.map_some,Option.getD_some,hke,law.stays w hv]
        exact hset _
      · have hget' : ∀ i e', (es.modify j fun e => { e with key := kv, val := vv }).toList[i]? = some e' → (i = j ∧ e'.key = kv ∧ e'.val = vv) ∨ (i ≠ j ∧ es.toList[i]? = some e') := fun i e' he => by
          rw [y4] at he
          by_cases e:j = i
          · subst e
            rw [if_pos rfl,hj] at he
            simp only [Option.map_some,Option.some.injEq] at he
            subst he
            exact .inl ⟨rfl,rfl,rfl⟩
          · rw [if_neg e] at he
            refine .inr ⟨fun e'=>e e'.symm,by simpa using he⟩
        have huniq:∀ i e',es.toList[i]? = some e' → e'.key = kv → i = j:=fun i e' he hk'=>by
          exact (List.getElem?_inj (by simpa using (List.getElem?_eq_some_iff.1 he).1) hm.nodup).1 (show (es.toList.map (·.key))[i]? = (es.toList.map (·.key))[j]? by rw [List.getElem?_map,List.getElem?_map,he,hj]; simp [hk',hke])
        refine ⟨fun e he=>?_,fun e he=>?_,fun d d' hM=>?_,?_⟩
        · obtain ⟨i,hi⟩:=List.getElem?_of_mem he
          rcases hget' i e hi with ⟨_,h,_⟩ | ⟨_,h⟩
          · rw [h]; exact hv
          · exact hm.valid e (List.mem_of_getElem? h)
        · obtain ⟨i,hi⟩:=List.getElem?_of_mem he
          rcases hget' i e hi with ⟨_,h,h'⟩ | ⟨hne,h⟩
          · exact ⟨kd,vd,by rw [h]; exact hk,by rw [h']; exact hvd,.inl ⟨rfl,rfl⟩⟩
          · obtain ⟨d,d',h1,h2,h3⟩:=hm.left e (List.mem_of_getElem? h)
            refine ⟨d,d',h1,h2,.inr ⟨fun e'=>?_,h3⟩⟩
            subst e'
            exact hne (huniq i e h (Option.some.inj (h1.symm.trans hk)))
        · have hmem:∀ i e',(es.modify j fun e=>{ e with key:=kv,val:=vv }).toList[i]? = some e' → e' ∈ (es.modify j fun e=>{ e with key:=kv,val:=vv }).toList:=fun i e' h=>List.mem_of_getElem? h
          rcases hM with ⟨rfl,rfl⟩ | ⟨hne,hM⟩
          · refine ⟨{ en with key:=kv,val:=vv },hmem j _ ?_,hk,hvd⟩
            rw [y4,if_pos rfl,hj]
            rfl
          · obtain ⟨e,he,h1,h2⟩:=hm.right d d' hM
            obtain ⟨i,hi⟩:=List.getElem?_of_mem he
            have hij:j ≠ i:=fun e'=>by
              subst e'
              rw [hj] at hi
              cases hi
              rw [hke] at h1
              exact hne (zCR h1 hk)
            refine ⟨e,hmem i _ ?_,h1,h2⟩
            rw [y4,if_neg hij]
            exact hi
        · have : (es.modify j fun e => { e with key := kv, val := vv }).toList.map (·.key) = es.toList.map (·.key) := by
            apply List.ext_getElem?
            intro i
            rw [List.getElem?_map,List.getElem?_map,y4]
            by_cases e:j = i
            · subst e; rw [if_pos rfl,hj]; simp [hke]
            · rw [if_neg e]
          rw [this]
          exact hm.nodup
      · have : (es.modify j fun e => { e with key := kv, val := vv }).toList.map (·.born) = es.toList.map (·.born) := by
          apply List.ext_getElem?
          intro i
          rw [List.getElem?_map,List.getElem?_map,y4]
          by_cases e:j = i
          · subst e; rw [if_pos rfl,hj]; simp
          · rw [if_neg e]
        refine ⟨fun e he=>?_,by rw [this]; exact hbn.2⟩
        have h1:=List.mem_map_of_mem (f:=fun e:MapEntry=>e.born) he
        rw [this] at h1
        obtain ⟨e0,h0,h2⟩:=List.mem_map.1 h1
        rw [← h2]; exact hbn.1 e0 h0
  obtain ⟨es',clock',hrun,hm'⟩:=key
  have hex:(execOp a.eval o).run P w = .ok .skip { w with heap:=w.heap.setIfInBounds b (.map es' clock') }:=by
    simp only [execOp,h,hx',hy',hz',Sem.run_bind,hrun,Result.andThen_ok,Sem.run_pure]
  unfold Oper.wp
  rw [hex]
  show K (a.put o.dst _) _
  rw [hd]
  have hother:∀ c,c ≠ b → ({ w with heap:=w.heap.setIfInBounds b (.map es' clock') }:World).heap[c]? = w.heap[c]?:=fun c hc=>by
    simp [Array.getElem?_setIfInBounds_ne (Ne.symm hc)]
  have hFb:∀ c o,F c o → c ≠ b:=fun c o hf e=>by
    subst e
    obtain ⟨v,hv⟩:=hs.fcell c o hf
    simp [World.cell?,hh] at hv
  have hcell:∀ c o,F c o → ({ w with heap:=w.heap.setIfInBounds b (.map es' clock') }:World).cell? ⟨c,o,none⟩ = w.cell? ⟨c,o,none⟩:=fun c o hf=>by
    simp only [World.cell?]
    rw [hother c (hFb c o hf)]
  have hgr:Grow F F w { w with heap:=w.heap.setIfInBounds b (.map es' clock') } (some b):={
    os:=rfl
    tape:=rfl
    output:=rfl
    size:=by simp
    block:=fun k _ hk=>hother k (fun e=>hk (by rw [e]))
    ext:=fun _ _ h=>h
    new:=fun _ _ h _ _=>h
    cell:=fun c o hf=>by obtain ⟨v,hv⟩:=hs.fcell c o hf; exact ⟨v,(hcell c o hf).trans hv⟩
    keep:=hcell }
  refine hK () _ _ F (hs.write hr rfl (fun _ e=>e) (hfp b rfl).1 hgr ⟨fun c hc=>?_,⟨es',clock',by simp [hlt],hm'⟩,zAy⟩) (fun _ _ h=>h) hgr.size (hgr.agree (fun c e=>by cases e; exact hWb))
  subst hc
  exact ⟨(hfp c rfl).1,by simpa using hlt⟩
end
/-- What RS says but for the frame. -/
structure HeapOK (Γ:Cx) (rs:List (Nat × Res)) (w:World) (F:Nat → Nat → Prop):Prop where
  os:w.os = Γ.w0.os
  tape:w.tape = Γ.w0.tape
  output:w.output = Γ.w0.output
  hsize:Γ.w0.heap.size ≤ w.heap.size
  old:∀ k,k < Γ.w0.heap.size → ¬ Γ.lent k → w.heap[k]? = Γ.w0.heap[k]?
  fcell:∀ b o,F b o → ∃ v,w.cell? ⟨b,o,none⟩ = some v
  keep:∀ b o,Γ.F0 b o → w.cell? ⟨b,o,none⟩ = Γ.w0.cell? ⟨b,o,none⟩
  f0:∀ b o,Γ.F0 b o → F b o
  fnew:∀ b o,F b o → b < Γ.w0.heap.size → ¬ Γ.lent b → Γ.F0 b o
  glob:GOK Γ.w0 Γ.lent
  res:∀ i r,lk rs i = some r → ResOK Γ F w r
  sep:∀ i i' r r' b,lk rs i = some r → lk rs i' = some r' → r.has b → r'.has b → i = i'
@[reducible] def Cx.base (Γ:Cx):Cx:=⟨Γ.w0,Γ.F0,Γ.lent,0⟩
theorem RS.heapOf {Γ:Cx} {σ:St} {a:Act} {w:World} {F:Nat → Nat → Prop} {L:List (Nat × Res)} (h:RS Γ σ a w F) (hL:SubR σ L):HeapOK Γ.base L w F where
  os:=h.os
  tape:=h.tape
  output:=h.output
  hsize:=h.hsize
  old:=h.old
  fcell:=h.fcell
  glob:=h.glob
  keep:=h.keep
  f0:=h.f0
  fnew:=h.fnew
  res:=fun i r hr=>h.rs i r (hL.get (yT hr))
  sep:=fun i i' r r' b h1 h2=>h.sep i i' r r' b (hL.get (yT h1)) (hL.get (yT h2))
theorem HeapOK.ext {Γ:Cx} {w:World} {F:Nat → Nat → Prop} {L:List (Nat × Res)} (h:HeapOK Γ L w F):Ext Γ.F0 F Γ.w0 w:=fun b o hf=>⟨h.f0 b o hf,h.keep b o hf⟩
/-- The blocks of some resources. -/
def blks (rs:List (Nat × Res)) (b:Nat):Prop:=∃ i r,lk rs i = some r ∧ r.has b
def callCx (w:World) (F:Nat → Nat → Prop) (rs:List (Nat × Res)) (n:Nat:=0):Cx:=⟨w,F,blks rs,n⟩
/-- How a call ends that was lent something: for some x it hands back 'tv x', and what was lent is 'rs' x'. -/
def EndsE (Γ:Cx) {X:Type} (tv:X → TV) (rs':X → List (Nat × Res)):Ending → World → Prop:=fun e w' =>
  ∃ x v F',e = .returned v ∧ TRep F' w' (tv x) v ∧ HeapOK Γ.base (rs' x) w' F'
/-- The function number f, called with these and lent those. -/
def EffAt (P:Program) (f:FuncId) (args:List TV) (rs:List (Nat × Res)) {X:Type} (tv:X → TV) (rs':X → List (Nat × Res)):Prop :=
  Ent P f ∧ ∀ w F vs,TReps F w args vs → HeapOK (callCx w F rs) rs w F → Calls P f vs.toArray w (EndsE (callCx w F rs) tv rs')
theorem EffAt.imp {P : Program} {f : FuncId} {args : List TV} {rs : List (Nat × Res)} {X Y : Type} {tv : X → TV} {rs' : X → List (Nat × Res)} {tv' : Y → TV} {rs'' : Y → List (Nat × Res)} (h : EffAt P f args rs tv rs')
    (g:X → Y) (h1:∀ x,tv' (g x) = tv x) (h2:∀ x,rs'' (g x) = rs' x):EffAt P f args rs tv' rs'' :=
  ⟨h.1,fun w F vs hr hh=>(h.2 w F vs hr hh).mono fun _ _ ⟨x,v,F',e,hv,hk⟩=>⟨g x,v,F',e,by rw [h1]; exact hv,by rw [h2]; exact hk⟩⟩
def argStT:Nat → List TV → List (Nat × Bool × TV)
  | _,[]=>[]
  | i,d :: ds=>(i,true,d) :: argStT (i + 1) ds
theorem zB4:∀ {ds:List TV} {i t:Nat} {c:Bool} {tv:TV},lk (argStT i ds) t = some (c,tv) → ∃ j,ds[j]? = some tv ∧ t = i + j ∧ c = true
  | [],_,_,_,_,h=>by simp [argStT,lk] at h
  | d :: ds,i,t,c,tv,h=>by
    by_cases e:i = t
    · subst e
      simp [argStT,zR] at h
      exact ⟨0,by simp [h.2],rfl,by simp [h.1]⟩
    · simp only [argStT] at h
      rw [zT _ _ e] at h
      obtain ⟨j,h1,h2,h3⟩:=zB4 h
      exact ⟨j + 1,by simpa using h1,by omega,h3⟩
def RetE (Γ:Cx) (P:Program) (fn:Func) {X:Type} (tv:X → TV) (rs':X → List (Nat × Res)):Exit → Act → World → Prop:=bodyPost P fn (EndsE Γ tv rs')
theorem zDD {w : World} {F : Nat → Nat → Prop} {vs : List Value} {args : List TV} {rs : List (Nat × Res)} {n : Nat} (hr : TReps F w args vs) (hh : HeapOK (callCx w F rs) rs w F) (hn : args.length ≤ n) :
    RS (callCx w F rs n) ⟨argStT 0 args,rs,[]⟩ { tmps:=vs.toArray ++ Array.replicate (n - vs.toArray.size) undef,defers:=[] } w F where
  size:=by have:=hr.length; simp [callCx,this]; omega
  defers:=rfl
  os:=rfl
  tape:=rfl
  output:=rfl
  hsize:=Nat.le_refl _
  old:=fun _ _ _=>rfl
  fcell:=hh.fcell
  glob:=hh.glob
  keep:=fun _ _ _=>rfl
  f0:=fun _ _ h=>h
  fnew:=fun _ _ h _ _=>h
  tm:=fun t c tv hget=>by
    obtain ⟨j,h1,rfl,rfl⟩:=zB4 hget
    refine ⟨fun _=>?_,fun h=>by cases h⟩
    obtain ⟨v,hv,hrep⟩:=hr.get h1
    have hj:=(List.getElem?_eq_some_iff.1 hv).1
    have:(vs.toArray ++ Array.replicate (n - vs.toArray.size) undef).getD (0 + j) undef = v:=by
      simp only [Nat.zero_add,Array.getD_eq_getD_getElem?]
      rw [Array.getElem?_append_left (by simpa using hj)]
      simp [hv]
    rw [this]
    exact hrep
  rs:=hh.res
  sep:=hh.sep
theorem EffAt.of_awp {P : Program} {f : FuncId} {fn : Func} {c : Code} {args : List TV} {rs : List (Nat × Res)} {X : Type} {tv : X → TV} {rs' : X → List (Nat × Res)} (hf : P.funcs[f]? = some fn) (hb : fn.body = some c) (hname : (fn.name == "runtime.NumGoroutine") = false)
    (hn:Nat.ble args.length fn.ntmps = true) (h:∀ Γ:Cx,Γ.n = fn.ntmps → AWP Γ P c ⟨argStT 0 args,rs,[]⟩ (RetE Γ P fn tv rs')):EffAt P f args rs tv rs' :=
  ⟨yo hf hname (by simp [hb]),fun w F _ hr hh=>calls_of_wp hf hb (h (callCx w F rs fn.ntmps) rfl _ _ F (zDD hr hh (Nat.le_of_ble_eq_true hn)))⟩
/-- A result variable reads as 'tv'. -/
inductive ResT (P:Program) (σ:St):ResultVar → TV → Prop
  | tmp {t:Nat} {tv:TV} (h:σ.get t = some (true,tv)):ResT P σ (.tmp t) tv
  | d {rv:ResultVar} {d:D} (h:ResV P σ rv d):ResT P σ rv (.d d)
  | cell {t b off id : Nat} {ty bt : TypeId} {cs : List TV} {tv : TV} {desc : TypeDesc} (h : σ.get t = some (true, .val (.pointer (some ⟨b, off, none⟩)))) (hr : σ.rget id = some (.box b bt cs))
      (hu:P.underlying ty = some desc) (hd:rowD desc = false) (hc:cs[off]? = some tv):ResT P σ (.cell t ty) tv
theorem ResT.run {Γ:Cx} {P:Program} {σ:St} {a:Act} {w:World} {F:Nat → Nat → Prop} (hs:RS Γ σ a w F) {rv:ResultVar} {tv:TV} (h:ResT P σ rv tv):∃ v,(resOne a.tmps rv).run P w = .ok v w ∧ TRep F w tv v:=by
  cases h with
  | tmp h=>exact ⟨_,rfl,(hs.tm _ true _ h).1 rfl⟩
  | d h=>exact h.run hs
  | cell h hr hu hd hc =>
    have h1:=(hs.tm _ true _ h).1 rfl
    simp only [TRep] at h1
    obtain ⟨_,_,vs,hh,hvs,_⟩:=hs.rs _ _ hr
    obtain ⟨v,hv,hrep⟩:=hvs.get hc
    have hcell:=(yk (i:=_) hh).trans hv
    exact ⟨v,by simp only [resOne,h1,asAddr,Sem.run_bind,Sem.run_pure,Result.andThen_ok,yS hu hd hcell],hrep⟩
/-- What a function hands back, from its result variables. -/
def Hands (Γ:Cx) (P:Program) (fn:Func) (σ:St) (tv:TV):Prop:=∀ a w F,RS Γ σ a w F → ∃ v,(results fn a.tmps).run P w = .ok v w ∧ TRep F w tv v
section
variable {Γ:Cx} {P:Program} {σ:St} {fn:Func}
theorem ko (h:fn.results = #[]):Hands Γ P fn σ (.d (.tup [])):=fun a w F _=>⟨.tuple #[],by rw [yL h]; simp,[],rfl,rfl⟩
theorem zj {rv:ResultVar} {tv:TV} (h:fn.results = #[rv]) (hr:ResT P σ rv tv):Hands Γ P fn σ tv:=fun a w F hs=>by
  obtain ⟨v,h1,h2⟩:=hr.run hs
  exact ⟨v,by rw [yL h]; simp [h1],h2⟩
theorem hands_2 {rv rv':ResultVar} {tv tv':TV} (h:fn.results = #[rv,rv']) (hr:ResT P σ rv tv) (hr':ResT P σ rv' tv'):Hands Γ P fn σ (.tup [tv,tv']):=fun a w F hs=>by
  obtain ⟨v,h1,h2⟩:=hr.run hs
  obtain ⟨v',h1',h2'⟩:=hr'.run hs
  exact ⟨.tuple #[v,v'],by rw [yL h]; simp [h1,h1'],[v,v'],rfl,v,[v'],rfl,h2,v',[],rfl,h2',rfl⟩
theorem zr {rv rv':ResultVar} {d d':D} (h:fn.results = #[rv,rv']) (hr:ResT P σ rv (.d d)) (hr':ResT P σ rv' (.d d')):Hands Γ P fn σ (.d (.tup [d,d'])):=fun a w F hs=>by
  obtain ⟨v,h1,h2⟩:=hr.run hs
  obtain ⟨v',h1',h2'⟩:=hr'.run hs
  exact ⟨.tuple #[v,v'],by rw [yL h]; simp [h1,h1'],[v,v'],rfl,v,[v'],rfl,h2,v',[],rfl,h2',rfl⟩
theorem Hands.eq {tv tv':TV} (h:Hands Γ P fn σ tv) (e:tv = tv'):Hands Γ P fn σ tv':=e ▸ h
theorem Hands.le {d d':D} (h:Hands Γ P fn σ (.d d)) (e:DLe d d'):Hands Γ P fn σ (.d d'):=fun a w F hs=>let ⟨v,h1,h2⟩:=h a w F hs; ⟨v,h1,e.rep h2⟩
/-- The return of what was lent. -/
theorem ret_E {X:Type} {tv:X → TV} {rs':X → List (Nat × Res)} {e:Exit} (he:e = .ret ∨ e = .normal) (x:X) (hh:Hands Γ P fn σ (tv x)) (hL:SubR σ (rs' x)) (hdm:σ.dm = []:=by rfl):AEnd Γ σ (RetE Γ P fn tv rs') e:=fun a w F hs=>by
  obtain ⟨v,h1,h2⟩:=hh a w F hs
  rcases he with rfl | rfl <;> exact ⟨hs.defers.trans (by rw [hdm]; rfl),v,h1,x,v,F,rfl,h2,hs.heapOf hL⟩
/-- The resources behind the call: those that came back, then those that were there. -/
def St.back (σ:St) (rs':List (Nat × Res)):St:=⟨σ.tm,rs' ++ σ.rs,σ.dm⟩
theorem lk_map_some {α:Type} {l:List (Nat × α)} {i:Nat} (h:(l.map (·.1)).any (Nat.beq i) = true):∃ r,lk l i = some r:=by
  cases hl:lk l i with
  | some r=>exact ⟨r,rfl⟩
  | none=>rw [zAM hl] at h; cases h
/-- The names of the one are among those of the other. -/
def covers (rs' rs:List (Nat × Res)):Bool:=rs.all fun p=>(rs'.map (·.1)).any (Nat.beq p.1)
theorem covers_lk {rs' rs:List (Nat × Res)} (h:covers rs' rs = true) {i:Nat} (hi:lk rs' i = none):lk rs i = none:=by
  cases hl:lk rs i with
  | none=>rfl
  | some r =>
    have:=List.all_eq_true.1 h _ (yT hl)
    obtain ⟨r',hr'⟩:=lk_map_some this
    rw [hi] at hr'
    cases hr'
/-- A world in which only what was lent has changed. -/
theorem RS.lent {a:Act} {w w':World} {F F':Nat → Nat → Prop} {rs rs':List (Nat × Res)} (hs:RS Γ σ a w F) (hl:SubR σ rs) (hc:covers rs' rs = true) (hh:HeapOK (callCx w F rs) rs' w' F'):RS Γ (σ.back rs') a w' F':=by
  have hL:∀ b,blks rs b → Γ.own b ∧ b < w.heap.size:=fun b ⟨i,r,h1,h2⟩=>by
    have h3:=hs.rs i r (hl.get (yT h1))
    exact ⟨yE h3 h2,kF h3 h2⟩
  have hext:Ext F F' w w':=hh.ext
  have hown:∀ b,(callCx w F rs).own b → Γ.own b:=fun b hb=>by
    rcases hb with hb | hb
    · exact .inl (Nat.le_trans hs.hsize hb)
    · exact (hL b hb).1
  have hold:∀ k,k < Γ.w0.heap.size → ¬ Γ.lent k → ¬ blks rs k:=fun k h1 h2 h3=>by
    rcases (hL k h3).1 with h4 | h4
    · omega
    · exact h2 h4
  have hother:∀ i r b,σ.rget i = some r → lk rs i = none → r.has b → ¬ blks rs b:=fun i r b h1 h2 h3 ⟨j,r',h4,h5⟩=>by
    have:=hs.sep i j r r' b h1 (hl.get (yT h4)) h3 h5
    subst this
    rw [h2] at h4
    cases h4
  have hget:∀ i r,(σ.back rs').rget i = some r → lk rs' i = some r ∨ (lk rs' i = none ∧ σ.rget i = some r):=fun i r h=>by
    simp only [St.rget,St.back,zw] at h
    cases h1:lk rs' i with
    | some y=>rw [h1] at h; exact .inl h
    | none=>rw [h1] at h; exact .inr ⟨rfl,h⟩
  have hst:∀ i r,lk rs' i = none → σ.rget i = some r → ∀ b,r.has b → b < w.heap.size ∧ ¬ blks rs b:=fun i r h1 h2 b h3 =>
    ⟨kF (hs.rs i r h2) h3,hother i r b h2 (covers_lk hc h1) h3⟩
  exact {
    size:=hs.size
    defers:=hs.defers
    os:=hh.os.trans hs.os
    tape:=hh.tape.trans hs.tape
    output:=hh.output.trans hs.output
    hsize:=Nat.le_trans hs.hsize hh.hsize
    old:=fun k hk hkl=>(hh.old k (Nat.lt_of_lt_of_le hk hs.hsize) (hold k hk hkl)).trans (hs.old k hk hkl)
    fcell:=hh.fcell
    glob:=hs.glob
    keep:=fun b o hf=>(hh.keep b o (hs.f0 b o hf)).trans (hs.keep b o hf)
    f0:=fun b o hf=>hh.f0 b o (hs.f0 b o hf)
    fnew:=fun b o hf hb hbl=>hs.fnew b o (hh.fnew b o hf (Nat.lt_of_lt_of_le hb hs.hsize) (hold b hb hbl)) hb hbl
    tm:=fun t c tv hg=>⟨fun h=>((hs.tm t c tv hg).1 h).ext' hext,(hs.tm t c tv hg).2⟩
    rs:=fun i r h=>by
      rcases hget i r h with h | ⟨h1,h2⟩
      · have hr:=hh.res i r h
        exact hr.stand (fun b hb=>hown b (yE hr hb)) (Nat.le_refl _) (fun _ _=>rfl) (fun _ _ _ h=>h) (Ext.refl _ _)
      · have hr:=hs.rs i r h2
        exact hr.stand (fun b hb=>yE hr hb) hh.hsize (fun b hb=>hh.old b (hst i r h1 h2 b hb).1 (hst i r h1 h2 b hb).2)
          (fun b o hb hf=>hh.fnew b o hf (hst i r h1 h2 b hb).1 (hst i r h1 h2 b hb).2) hext
    sep:=fun i i' r r' b h h' hb hb'=>by
      have key:∀ j j' s s',lk rs' j = some s → lk rs' j' = none → σ.rget j' = some s' → s.has b → s'.has b → False:=fun j j' s s' k1 k2 k3 k4 k5=>by
        have k6:=hst j' s' k2 k3 b k5
        rcases yE (hh.res j s k1) k4 with k7 | k7
        · exact Nat.lt_irrefl _ (Nat.lt_of_lt_of_le k6.1 k7)
        · exact k6.2 k7
      rcases hget i r h with h | ⟨h1,h2⟩ <;> rcases hget i' r' h' with h' | ⟨h1',h2'⟩
      · exact hh.sep i i' r r' b h h' hb hb'
      · exact (key i i' r r' h h1' h2' hb hb').elim
      · exact (key i' i r' r h' h1 h2 hb' hb).elim
      · exact hs.sep i i' r r' b h2 h2' hb hb' }
theorem zBL {a:Act} {w:World} {F:Nat → Nat → Prop} {rs:List (Nat × Res)} (hs:RS Γ σ a w F) (hl:SubR σ rs):HeapOK (callCx w F rs) rs w F where
  os:=rfl
  tape:=rfl
  output:=rfl
  hsize:=Nat.le_refl _
  old:=fun _ _ _=>rfl
  fcell:=hs.fcell
  glob:=fun g hg=>by
    obtain ⟨h1,h2,x,h3,h4⟩:=hs.glob g hg
    refine ⟨Nat.lt_of_lt_of_le h1 hs.hsize,fun ⟨i,r,k1,k2⟩=>?_,x,(hs.old _ h1 h2).trans h3,h4⟩
    rcases yE (hs.rs i r (hl.get (yT k1))) k2 with k | k
    · omega
    · exact h2 k
  keep:=fun _ _ _=>rfl
  f0:=fun _ _ h=>h
  fnew:=fun _ _ h _ _=>h
  res:=fun i r h=>(hs.rs i r (hl.get (yT h))).stand (fun _ hb=>.inr ⟨i,r,h,hb⟩) (Nat.le_refl _) (fun _ _=>rfl) (fun _ _ _ h=>h) (Ext.refl _ _)
  sep:=fun i i' r r' b h1 h2=>hs.sep i i' r r' b (hl.get (yT h1)) (hl.get (yT h2))
theorem TReps.puts {F:Nat → Nat → Prop} {w:World}:∀ {ds es:List TV} {vs:List Value},TReps F w (ds ++ es) vs → ∃ us us',vs = us ++ us' ∧ TReps F w ds us ∧ TReps F w es us'
  | [],_,vs,h=>⟨[],vs,rfl,rfl,h⟩
  | d :: ds,es,_,⟨v,vs',e,h1,h2⟩=>by
    obtain ⟨us,us',e',k1,k2⟩:=TReps.puts h2
    exact ⟨v :: us,us',by rw [e,e']; rfl,⟨v,us,rfl,h1,k1⟩,k2⟩
/-- The function's value: which function, with what fields and captured values. -/
inductive FnV (σ:St) (f:Operand) (g:FuncId):List TV → List TV → Prop
  | d {fi ca:List D} (h:σ.ev f = some (true,.d (.fn (.func g) fi ca))):FnV σ f g (fi.map .d) (ca.map .d)
  | t {fi ca:List TV} (h:σ.ev f = some (true,.fn (.func g) fi ca)):FnV σ f g fi ca
  | v {fi ca:Array Value} (h:σ.ev f = some (true,.val (.func (.func g) fi ca))):FnV σ f g (fi.toList.map .val) (ca.toList.map .val)
  | raw {fi ca:Array Value} (h:σ.ev f = some (true,.d (.raw (.func (.func g) fi ca)))):FnV σ f g (fi.toList.map .val) (ca.toList.map .val)
theorem y9 {F:Nat → Nat → Prop} {w:World}:∀ (l:List Value),TReps F w (l.map .val) l
  | []=>rfl
  | v :: l=>⟨v,l,rfl,rfl,y9 l⟩
theorem FnV.run {a:Act} {w:World} {F:Nat → Nat → Prop} (hs:RS Γ σ a w F) {f:Operand} {g:FuncId} {fi ca:List TV} (h:FnV σ f g fi ca):∃ vf vc:List Value,a.eval f = .func (.func g) vf.toArray vc.toArray ∧ TReps F w fi vf ∧ TReps F w ca vc:=by
  cases h with
  | d h =>
    obtain ⟨vf,vc,e,h1,h2⟩:=hs.ev h
    exact ⟨vf,vc,e,h1.to_d,h2.to_d⟩
  | t h=>exact hs.ev h
  | v h =>
    rename_i fi ca
    have:=hs.ev h
    simp only [TRep] at this
    exact ⟨fi.toList,ca.toList,by simpa using this,y9 _,y9 _⟩
  | raw h =>
    rename_i fi ca
    have:=hs.ev h
    simp only [TRep,Rep] at this
    exact ⟨fi.toList,ca.toList,by simpa using this,y9 _,y9 _⟩
/-- How arguments may read for a contract: as they are, or otherwise. -/
inductive TLe (σ:St):TV → TV → Prop
  | refl (t:TV):TLe σ t t
  | d {x y:D} (h:DLe x y):TLe σ (.d x) (.d y)
inductive TLes (σ:St):List TV → List TV → Prop
  | refl (l:List TV):TLes σ l l
  | cons {x y:TV} {l l':List TV} (h:TLe σ x y) (hs:TLes σ l l'):TLes σ (x :: l) (y :: l')
theorem TLe.rep {F:Nat → Nat → Prop} {w:World} {t t':TV} {v:Value} (h:TLe σ t t') (hr:TRep F w t v):TRep F w t' v:=by
  cases h with
  | refl=>exact hr
  | d h=>exact h.rep hr
theorem TLes.rep {F:Nat → Nat → Prop} {w:World}:∀ {l l':List TV} {vs:List Value},TLes σ l l' → TReps F w l vs → TReps F w l' vs
  | _,_,_,.refl _,h=>h
  | _,_,_,.cons k ks,⟨v,vs',e,h1,h2⟩=>⟨v,vs',e,k.rep h1,TLes.rep ks h2⟩
/-- A call that is lent something. -/
theorem s_callE {ops : Array Oper} {o : Oper} {W : Nat → Prop} {f : Operand} {args : Array Operand} {ats : Array TypeId} {g dt : Nat} {fi ca as all : List TV} {rs : List (Nat × Res)} {X : Type} {tv : X → TV} {rs' : X → List (Nat × Res)}
    (hp:EffAt P g all rs tv rs') (h:o.op = .call { callee:=.value f,args:=args,argTypes:=ats }) (hg:o.guard = none) (hd:o.dst = some dt) (hn:Nat.blt dt Γ.n = true)
    (hf:FnV σ f g fi ca) (ha:evs σ args.toList = some as) (hall:TLes σ (fi ++ as ++ ca) all) (hl:SubR σ rs) (hc:∀ x,covers (rs' x) rs = true) (hW:∀ b,blks rs b → W b):StepW Γ P ops σ o W fun x:X=>(σ.back (rs' x)).put dt true (tv x):=fun a w F hs K Q hK=>by
  rw [if_pos (zi hg a)]
  obtain ⟨vf,vc,e1,k1,k2⟩:=hf.run hs
  have ka:=hs.evs ha
  have hrun:(execOp a.eval o).run P w = .ok (.enter g (vf ++ args.toList.map a.eval ++ vc).toArray) w:=by
    have he:=hp.1 ((vf.toArray ++ args.map a.eval) ++ vc.toArray) w
    have harr:(vf.toArray ++ args.map a.eval) ++ vc.toArray = (vf ++ args.toList.map a.eval ++ vc).toArray:=by apply Array.ext'; simp
    rw [harr] at he
    simp only [execOp,h,resolve,e1,Deferred.ofValue,invoke,Sem.run_bind,Sem.run_pure,Result.andThen_ok,harr,he]
  unfold Oper.wp
  rw [hrun]
  refine (hp.2 w F _ (hall.rep ((k1.append ka).append k2)) (zBL hs hl)).mono fun e w' he=>?_
  obtain ⟨x,v,F',rfl,hrep,hh⟩:=he
  show K (a.put o.dst v) w'
  rw [hd]
  refine hK x _ _ F' ((hs.lent hl (hc x) hh).put (zx hn) (fun _=>hrep) (fun h=>by cases h)) hh.f0 hh.hsize fun b o hb hfw=>?_
  rcases hfw with hfw | hfw
  · exact hh.keep b o hfw
  · have:w'.heap[b]? = w.heap[b]?:=hh.old b hb (fun hk=>hfw (hW b hk))
    simp [World.cell?,this]
/-- The same under a guard that may be false: then nothing has changed. -/
theorem s_callEg {ops : Array Oper} {o : Oper} {W : Nat → Prop} {f : Operand} {args : Array Operand} {ats : Array TypeId} {g dt : Nat} {fi ca as all : List TV} {rs : List (Nat × Res)} {X : Type} {tv : X → TV} {rs' : X → List (Nat × Res)} {c : Bool} (L : List (Nat × TV)) (x0 : X)
    (hp:c = true → EffAt P g all rs tv rs') (h:o.op = .call { callee:=.value f,args:=args,argTypes:=ats }) (hg:GuardOK Γ ops σ o c) (hd:o.dst = some dt) (hn:Nat.blt dt Γ.n = true) (hL:c = true → Strong σ L)
    (hf:FnV (σ.puts L) f g fi ca) (ha:evs (σ.puts L) args.toList = some as) (hall:TLes σ (fi ++ as ++ ca) all) (hl:SubR σ rs) (hc:∀ x,covers (rs' x) rs = true) (hW:∀ b,blks rs b → W b) (h0:SubR σ (rs' x0)) :
    StepW Γ P ops σ o W fun x:{x:X // c = false → x = x0}=>(σ.back (rs' x.1)).put dt c (tv x.1):=fun a w F hs K Q hK=>by
  rw [hg a w F hs]
  cases c with
  | false =>
    rw [if_neg (by simp),hd]
    have h1:RS Γ (σ.back (rs' x0)) a w F:={
      hs with
      rs:=fun i r hr=>by
        simp only [St.rget,St.back,zw] at hr
        cases h2:lk (rs' x0) i with
        | some y=>rw [h2] at hr; cases hr; exact hs.rs i _ (h0.get (yT h2))
        | none=>rw [h2] at hr; exact hs.rs i r hr
      sep:=fun i i' r r' b k1 k2=>by
        have key:∀ i r,(σ.back (rs' x0)).rget i = some r → σ.rget i = some r:=fun i r hr=>by
          simp only [St.rget,St.back,zw] at hr
          cases h2:lk (rs' x0) i with
          | some y=>rw [h2] at hr; cases hr; exact h0.get (yT h2)
          | none=>rw [h2] at hr; exact hr
        exact hs.sep i i' r r' b (key i r k1) (key i' r' k2) }
    exact hK ⟨x0,fun _=>rfl⟩ _ _ F (h1.put (zx hn) (fun h=>by cases h) (fun _=>rfl)) (fun _ _ h=>h) (Nat.le_refl _) (Agree.refl _ _ _)
  | true =>
    rw [if_pos rfl]
    have hp:=hp rfl
    have hs':=hs.strong (hL rfl)
    obtain ⟨vf,vc,e1,k1,k2⟩:=hf.run hs'
    have ka:=hs'.evs ha
    have hrun:(execOp a.eval o).run P w = .ok (.enter g (vf ++ args.toList.map a.eval ++ vc).toArray) w:=by
      have he:=hp.1 ((vf.toArray ++ args.map a.eval) ++ vc.toArray) w
      have harr:(vf.toArray ++ args.map a.eval) ++ vc.toArray = (vf ++ args.toList.map a.eval ++ vc).toArray:=by apply Array.ext'; simp
      rw [harr] at he
      simp only [execOp,h,resolve,e1,Deferred.ofValue,invoke,Sem.run_bind,Sem.run_pure,Result.andThen_ok,harr,he]
    unfold Oper.wp
    rw [hrun]
    refine (hp.2 w F _ (hall.rep ((k1.append ka).append k2)) (zBL hs hl)).mono fun e w' he=>?_
    obtain ⟨x,v,F',rfl,hrep,hh⟩:=he
    show K (a.put o.dst v) w'
    rw [hd]
    refine hK ⟨x,fun h=>by cases h⟩ _ _ F' ((hs.lent hl (hc x) hh).put (zx hn) (fun _=>hrep) (fun h=>by cases h)) hh.f0 hh.hsize fun b o hb hfw=>?_
    rcases hfw with hfw | hfw
    · exact hh.keep b o hfw
    · have:w'.heap[b]? = w.heap[b]?:=hh.old b hb (fun hk=>hfw (hW b hk))
      simp [World.cell?,this]
end
theorem PureAt.of_eff {P:Program} {f:FuncId} {ds:List D} {r:D} {X:Type} {rs':X → List (Nat × Res)} (h:EffAt P f (ds.map .d) [] (fun _:X=>.d r) rs'):PureAt P f ds r :=
  ⟨h.1,fun w F vs hF hG hr=>by
    refine (h.2 w F vs hr.to_d ⟨rfl,rfl,rfl,Nat.le_refl _,fun _ _ _=>rfl,hF,fun _ _ _=>rfl,fun _ _ h=>h,fun _ _ h _ _=>h,fun g hg=>⟨(hG g hg).1,fun ⟨i,r,k,_⟩=>by simp [lk] at k,(hG g hg).2.2⟩,fun i r h=>by simp [lk] at h,fun i i' r r' b h=>by simp [lk] at h⟩).mono fun e w' he=>?_
    obtain ⟨x,v,F',he,hv,hk⟩:=he
    have hno:∀ b,¬ (callCx w F []).lent b:=fun b ⟨i,r,h,_⟩=>by simp [lk] at h
    exact ⟨v,F',he,⟨hk.os,hk.tape,hk.output,hk.hsize,fun k hlt=>hk.old k hlt (hno k)⟩,hv,hk.f0,fun b o hf hlt=>hk.fnew b o hf hlt (hno b),hk.fcell⟩⟩
def fen:Option Nat → Fence
  | none=>Fence.wide
  | some l=>Fence.wide.inRound l
theorem zCm (ro:Option Nat) (f:FuncId):(fen ro).fn f:=by cases ro <;> trivial
theorem zBw (ro:Option Nat) (n:Nat):(fen ro).depth.isSome = true → 1 ≤ n:=by cases ro <;> (intro h; cases h)
theorem zAt (ro:Option Nat):(fen ro).round = ro:=by cases ro <;> rfl
theorem fen_calls {ro:Option Nat} {n:Nat} {P:Program} {f:FuncId} {args:Array Value} {w:World} {R:Ending → World → Prop} (h:Calls P f args w R):CallsIn (fen ro) n P f args w R:=by
  cases ro with
  | none=>exact callsIn_wide.2 h
  | some l=>exact CallsIn.inRound l (callsIn_wide.2 h)
theorem fen_rows {ro:Option Nat} {n:Nat} {P:Program} {row:String} {args:Array Value} {w:World} {R:Value → World → Prop} (h:Rows P row args w R):RowsIn (fen ro) n P row args w R:=by
  have h0:RowsIn Fence.wide n P row args w R:=fun c cs _=>by
    obtain ⟨v,w',hR,hs⟩:=h c cs
    exact ⟨v,w',hR,stepsIn_wide.2 hs⟩
  cases ro with
  | none=>exact h0
  | some l=>exact h0
/-- No defer statement. -/
def noDef (o:Oper):Bool:=match o.op with
  | .defer _=>false
  | _=>true
theorem zDB {o:Oper} (h:noDef o = true):∀ c,o.op ≠ .defer c:=fun c e=>by simp [noDef,e] at h
theorem zB5 {ro:Option Nat} {P:Program} {o:Oper} {a:Act} {w:World} {K:Act → World → Prop} {Q:Exit → Act → World → Prop} (hd:noDef o = true) (h:o.wp P a w K Q):o.wpIn (fen ro) 0 P a w K Q:=by
  refine ⟨fun f _=>zCm ro f,?_⟩
  rw [zAt,Oper.semAt_eq ro a.eval o (zDB hd)]
  unfold Oper.wp at h
  generalize (execOp a.eval o).run P w = r at *
  cases r with
  | ok n w' =>
    cases n <;> simp only [Oper.upon,Oper.uponIn] at h ⊢ <;> first | exact h | skip
    · exact ⟨zBw ro 0,(fen_calls h).mono fun e w'' he=>by cases e <;> exact he⟩
    · exact ⟨zBw ro 0,fen_rows h⟩
  | halt x w'=>cases x <;> simp only [Oper.upon,Oper.uponIn] at h ⊢ <;> exact h
section
variable {P:Program} {ops:Array Oper} {Q:Exit → Act → World → Prop} {ro:Option Nat}
def lisI (ro:Option Nat) (P:Program) (ops:Array Oper) (Q:Exit → Act → World → Prop):List Oper → Act → World → Prop
  | [],a,w=>Q .normal a w
  | o :: rest,a,w=>if Region.wanted o (yielded ops a.tmps) then o.wpIn (fen ro) 0 P a w (lisI ro P ops Q rest) Q else lisI ro P ops Q rest (a.put o.dst undef) w
theorem zBT:∀ (l:List Oper) (k:Nat) (a:Act) (w:World),(∀ j,l[j]? = ops[k + j]?) → lisI ro P ops Q l a w → wpOpsIn (fen ro) 0 P ops Q (List.range' k l.length) a w
  | [],_,_,_,_,h=>h
  | o :: rest,k,a,w,hl,h=>by
    have h0:ops[k]? = some o:=by have:=hl 0; simpa using this.symm
    have hr:∀ j,rest[j]? = ops[k + 1 + j]?:=fun j=>by have:=hl (j + 1); rw [show k + 1 + j = k + (j + 1) by omega]; simpa using this
    simp only [List.length_cons,List.range'_succ,wpOpsIn,h0]
    simp only [lisI] at h
    split
    · rename_i hw
      rw [if_pos hw] at h
      exact Oper.wpIn_mono (fun a' w' h'=>zBT rest (k + 1) a' w' hr h') h
    · rename_i hw
      rw [if_neg hw] at h
      exact ⟨fun f _=>zCm ro f,zBT rest (k + 1) _ w hr h⟩
theorem region_lisI {id:Nat} {a:Act} {w:World} (h:lisI ro P ops Q ops.toList a w):(Code.region id ops false).wpIn (fen ro) 0 P Q a w :=
  wpIn_region (by rw [List.range_eq_range',← Array.length_toList]; exact zBT ops.toList 0 a w (by simp) h)
/-- Number i, then on. -/
def atI (ro:Option Nat) (P:Program) (ops:Array Oper) (Q:Exit → Act → World → Prop) (i:Nat) (K:Act → World → Prop) (a:Act) (w:World):Prop :=
  match ops[i]? with
  | none=>K a w
  | some o=>if Region.wanted o (yielded ops a.tmps) then o.wpIn (fen ro) 0 P a w K Q else K (a.put o.dst undef) w
theorem zC2 {i:Nat} {K K':Act → World → Prop} {a:Act} {w:World} (hk:∀ a w,K a w → K' a w) (h:atI ro P ops Q i K a w):atI ro P ops Q i K' a w:=by
  unfold atI at *
  split
  · rename_i ho; simp only [ho] at h; exact hk _ _ h
  · rename_i o ho
    simp only [ho] at h
    split
    · rename_i hw; rw [if_pos hw] at h; exact Oper.wpIn_mono hk h
    · rename_i hw; rw [if_neg hw] at h; exact hk _ _ h
def anyI (ro:Option Nat) (P:Program) (ops:Array Oper) (Q:Exit → Act → World → Prop) (S:World → Prop):Nat → Array Bool → Act → World → Prop
  | 0,listed,a,w=>Region.ready .any ops listed = [] ∧ Q .normal a w
  | n + 1,listed,a,w=>(Region.ready .any ops listed = [] → Q .normal a w) ∧
    ∀ i ∈ Region.ready .any ops listed,atI ro P ops Q i (fun a' w'=>S w' ∧ anyI ro P ops Q S n (listed.setIfInBounds i true) a' w') a w
theorem zAR {S:World → Prop}:∀ (n:Nat) (listed:Array Bool) (a:Act) (w:World),anyI ro P ops Q S n listed a w → wpAnyIn (fen ro) 0 P .any ops Q n listed a w
  | 0,_,_,_,h=>h
  | n + 1, listed, a, w, h => ⟨h.1, fun i hi => by
      have h2:=h.2 i hi
      unfold atI at h2
      unfold wpOpIn
      split
      · rename_i ho; simp only [ho] at h2; exact zAR n _ _ _ h2.2
      · rename_i o ho
        simp only [ho] at h2
        split
        · rename_i hw; rw [if_pos hw] at h2; exact Oper.wpIn_mono (fun a' w' h'=>zAR n _ _ _ h'.2) h2
        · rename_i hw; rw [if_neg hw] at h2; exact ⟨fun f _=>zCm ro f,zAR n _ _ _ h2.2⟩⟩
theorem region_anyI {id:Nat} {S:World → Prop} {a:Act} {w:World} (hm:P.follows .mixedOrders = true) (h:anyI ro P ops Q S ops.size (Array.replicate ops.size false) a w.drew):(Code.region id ops true).wpIn (fen ro) 0 P Q a w :=
  wpIn_region_any hm (zAR _ _ _ _ h)
theorem zCI {S S':World → Prop} (hS:∀ w,S' w → S w):∀ (n:Nat) (listed:Array Bool) (a:Act) (w:World),anyI ro P ops Q S' n listed a w → anyI ro P ops Q S n listed a w
  | 0,_,_,_,h=>h
  | n + 1,listed,a,w,h=>⟨h.1,fun i hi=>zC2 (fun a' w' h'=>⟨hS w' h'.1,zCI hS n _ a' w' h'.2⟩) (h.2 i hi)⟩
/-- A value that an operation gives in every world of a kind may be laid first: the others take no notice. -/
theorem atI_put {S : World → Prop} {j : Nat} {oi oj : Oper} {v : Value} (hnd : ops.toList.all noDef = true) (hsel : Region.noSelect ops = true) {i : Nat} (hi : ops[i]? = some oi) (hj : ops[j]? = some oj) (hap : oi.apart ops oj = true)
    (hQ:∀ c a w,Q (.panic c) (a.put oi.dst v) w → Q (.panic c) a w) {K:Act → World → Prop} {a:Act} {w:World} (hy:YieldsIf P ops S oi v a) (h:atI ro P ops Q j K (a.put oi.dst v) w) :
    atI ro P ops Q j (fun a' w'=>YieldsIf P ops S oi v a' ∧ K (a'.put oi.dst v) w') a w:=by
  have hdj:noDef oj = true:=List.all_eq_true.1 hnd oj (by simpa using Array.mem_of_getElem? hj)
  have hsi:=fun cs b=>Region.noSelect_spec hsel i oi cs b hi
  have hsj:=fun cs b=>Region.noSelect_spec hsel j oj cs b hj
  obtain ⟨h1,h2,h3⟩:=Oper.apart_spec hap
  have stay':∀ a,YieldsIf P ops S oi v a → ∀ u,YieldsIf P ops S oi v (a.put oj.dst u):=fun a hy u=>hy.of_same (execOp_put oi hsi a oj.dst u h3) (wanted_put oi a oj.dst u h3)
  have stay:=stay' a hy
  have swap:∀ u,(a.put oi.dst v).put oj.dst u = (a.put oj.dst u).put oi.dst v:=fun u=>Act.put_comm a v u h2
  unfold atI at *
  simp only [hj] at *
  rw [wanted_put oj a oi.dst v h1] at h
  split
  · rename_i hw
    rw [if_pos hw] at h
    refine ⟨fun f _=>zCm ro f,?_⟩
    have h:=h.2
    rw [zAt,Oper.semAt_eq ro _ oj (zDB hdj)] at h ⊢
    rw [execOp_put oj hsj a oi.dst v h1] at h
    generalize hr:(execOp a.eval oj).run P w = r at *
    have onEnd : ∀ (e : Ending) (w'' : World), (match (generalizing := false) e, w'' with | .returned u, w'' => K ((a.put oi.dst v).put oj.dst u) w'' | .panicked c, w'' => Q (.panic c) (a.put oi.dst v) w'' | .outgrown, _ => LetsOut Q) →
        (match (generalizing:=false) e,w'' with | .returned u,w''=>YieldsIf P ops S oi v (a.put oj.dst u) ∧ K ((a.put oj.dst u).put oi.dst v) w'' | .panicked c,w''=>Q (.panic c) a w'' | .outgrown,_=>LetsOut Q):=fun e w'' he=>by
      cases e with
      | returned u=>exact ⟨stay u,by rw [← swap u]; exact he⟩
      | panicked c=>exact hQ _ _ _ he
      | outgrown=>exact he
    cases r with
    | ok n w' =>
      cases n with
      | value u=>exact ⟨stay u,by rw [← swap u]; exact h⟩
      | skip=>exact ⟨stay _,by rw [← swap]; exact h⟩
      | defer d => exact ⟨stay' { a with defers := d :: a.defers } (hy.of_same (a' := { a with defers := d :: a.defers }) rfl rfl) undef, by
          have e:(a.put oi.dst v).defers = a.defers:=by cases oi.dst <;> rfl
          have h:K ((({ a.put oi.dst v with defers:=d :: (a.put oi.dst v).defers }:Act)).put oj.dst undef) w':=h
          rw [Act.put_defers,Act.put_comm _ v undef h2] at h
          exact h⟩
      | enter f args=>exact ⟨h.1,CallsIn.mono h.2 fun e w'' he=>onEnd e w'' (by cases e <;> exact he)⟩
      | row row args=>exact ⟨h.1,RowsIn.mono h.2 fun u w'' he=>⟨stay u,by rw [← swap u]; exact he⟩⟩
      | round l f tmps assign body=>exact ⟨h.1,RoundIn.mono h.2 fun e w'' he=>onEnd e w'' (by cases e <;> exact he)⟩
      | _=>exact h.elim
    | halt x w' =>
      cases x with
      | panic u=>exact hQ _ _ _ h
      | _=>exact h.elim
  · rename_i hw
    rw [if_neg hw] at h
    exact ⟨stay _,by rw [← swap]; exact h⟩
theorem zBr {S:World → Prop} {i:Nat} {o:Oper} {v:Value} {a:Act} {w:World} {K:Act → World → Prop} (hnd:ops.toList.all noDef = true) (hi:ops[i]? = some o) (hy:YieldsIf P ops S o v a) (hS:S w) (h:K (a.put o.dst v) w):atI ro P ops Q i K a w:=by
  have hd:noDef o = true:=List.all_eq_true.1 hnd o (by simpa using Array.mem_of_getElem? hi)
  unfold atI
  simp only [hi]
  rcases hy with ⟨hw,hv⟩ | ⟨hw,rfl⟩
  · rw [if_pos hw]
    exact zB5 hd (by unfold Oper.wp; rw [hv w hS]; exact h)
  · rw [if_neg (by simp [hw])]
    exact h
theorem zAo {S : World → Prop} {i : Nat} {oi : Oper} {v : Value} (hnd : ops.toList.all noDef = true) (hi : ops[i]? = some oi) (hsel : Region.noSelect ops = true) (hQ : ∀ c a w, Q (.panic c) (a.put oi.dst v) w → Q (.panic c) a w) :
    ∀ (n:Nat) (listed:Array Bool) (a:Act) (w:World),(∀ j oj,ops[j]? = some oj → j ≠ i → listed.getD j true = false → (∀ e ∈ oj.after,Region.binds .any e = true → e.on ≠ i) → oi.apart ops oj = true) →
      i ∈ Region.ready .any ops listed → YieldsIf P ops S oi v a → S w → anyI ro P ops Q S n (listed.setIfInBounds i true) (a.put oi.dst v) w → anyI ro P ops Q S (n + 1) listed a w
  | 0, listed, a, w, _, hr, hy, hS, H => ⟨fun h => (by rw [h] at hr; cases hr), fun j hj => by
      by_cases e:j = i
      · subst e; exact zBr hnd hi hy hS ⟨hS,H⟩
      · have:=ready_mono hj e
        rw [H.1] at this
        cases this⟩
  | n + 1, listed, a, w, hfree, hr, hy, hS, H => ⟨fun h => (by rw [h] at hr; cases hr), fun j hj => by
      by_cases e:j = i
      · subst e; exact zBr hnd hi hy hS ⟨hS,H⟩
      · obtain ⟨hun,oj,hoj,hall⟩:=mem_ready.1 hj
        have hnot:∀ e ∈ oj.after,Region.binds .any e = true → e.on ≠ i:=fun e he hb heq=>by
          have k1:=hall e he hb
          have k0:=(mem_ready.1 hr).1
          rw [heq] at k1
          rcases Nat.lt_or_ge i listed.size with h' | h'
          · simp [h'] at k0 k1; rw [k0] at k1; cases k1
          · simp [Array.getElem?_eq_none h'] at k1
        refine zC2 (fun a' w' h3=>⟨h3.2.1,zAo hnd hi hsel hQ n (listed.setIfInBounds j true) a' w' (fun k ok hk hki hun' hno=>?_) (ready_mono hr (Ne.symm e)) h3.1 h3.2.1 ?_⟩)
          (atI_put hnd hsel hi hoj (hfree j oj hoj e hun hnot) hQ hy (H.2 j (ready_mono hj e)))
        · refine hfree k ok hk hki ?_ hno
          by_cases hjk:j = k
          · subst hjk; exact hun
          · rw [getD_set_ne true hjk] at hun'; exact hun'
        · rw [Array.setIfInBounds_comm _ _ e]
          exact h3.2.2⟩
end
section
variable {Γ:Cx} {P:Program} {σ:St} {ops:Array Oper} {Q:Exit → Act → World → Prop} {W:Nat → Prop} {ro:Option Nat}
def StepI (ro:Option Nat) (Γ:Cx) (P:Program) (ops:Array Oper) (σ:St) (o:Oper) (W:Nat → Prop) {X:Type} (S':X → St):Prop :=
  ∀ a w F,RS Γ σ a w F → ∀ (K:Act → World → Prop) (Q:Exit → Act → World → Prop),
    (∀ x a' w' F',RS Γ (S' x) a' w' F' → (∀ b o,F b o → F' b o) → w.heap.size ≤ w'.heap.size → Agree F W w w' → K a' w') →
    if Region.wanted o (yielded ops a.tmps) then o.wpIn (fen ro) 0 P a w K Q else K (a.put o.dst undef) w
theorem StepW.i {o:Oper} {X:Type} {S':X → St} (h:StepW Γ P ops σ o W S') (hd:noDef o = true):StepI ro Γ P ops σ o W S':=fun a w F hs K Q hK=>by
  have:=h a w F hs K Q hK
  split
  · rename_i hw; rw [if_pos hw] at this; exact zB5 hd this
  · rename_i hw; rw [if_neg hw] at this; exact this
def ARunI (ro:Option Nat) (Γ:Cx) (P:Program) (ops:Array Oper) (l:List Oper) (σ:St) (Q:Exit → Act → World → Prop):Prop :=
  ∀ a w F,RS Γ σ a w F → lisI ro P ops Q l a w
def AWPI (ro:Option Nat) (Γ:Cx) (P:Program) (c:Code) (σ:St) (Q:Exit → Act → World → Prop):Prop :=
  ∀ a w F,RS Γ σ a w F → c.wpIn (fen ro) 0 P Q a w
theorem yY (h:AEnd Γ σ Q .normal):ARunI ro Γ P ops [] σ Q:=fun a w F hs=>h a w F hs
theorem stepI {o:Oper} {rest:List Oper} {X:Type} {S':X → St} (h:StepI ro Γ P ops σ o W S') (hr:∀ x,ARunI ro Γ P ops rest (S' x) Q):ARunI ro Γ P ops (o :: rest) σ Q:=fun a w F hs =>
  h a w F hs (lisI ro P ops Q rest) Q fun x a' w' F' hs' _ _ _=>hr x a' w' F' hs'
theorem stepQI {o : Oper} {rest : List Oper} {t : Nat} {c : Bool} {tv : TV}
    (hg:GuardOK Γ ops σ o c) (ht:o.dst = some t) (hn:Nat.blt t Γ.n = true) (hq:c = true → QV Γ P σ o R0 tv) (hd:noDef o = true)
    (hr:ARunI ro Γ P ops rest (σ.put t c tv) Q):ARunI ro Γ P ops (o :: rest) σ Q :=
  stepI ((zBA (fun _=>False) hg ht hn fun a w F hs hc=>let ⟨v,hv,hrun⟩:=hq hc a w F hs; ⟨v,hv,hrun w rfl⟩).i hd) fun _=>hr
theorem stepGI {o : Oper} {rest : List Oper} {t : Nat} {c : Bool} {tv : TV} (L : List (Nat × TV))
    (hg:GuardOK Γ ops σ o c) (ht:o.dst = some t) (hn:Nat.blt t Γ.n = true) (hL:c = true → Strong σ L) (hq:c = true → QV Γ P (σ.puts L) o R0 tv) (hd:noDef o = true)
    (hr:ARunI ro Γ P ops rest (σ.put t c tv) Q):ARunI ro Γ P ops (o :: rest) σ Q:=stepI ((y1 (fun _=>False) L hg ht hn hL hq).i hd) fun _=>hr
theorem yG {id:Nat} (h:ARunI ro Γ P ops ops.toList σ Q):AWPI ro Γ P (.region id ops false) σ Q:=fun a w F hs=>region_lisI (h a w F hs)
theorem yb {x y:Code} (h:AWPI ro Γ P x σ (Exit.then (y.wpIn (fen ro) 0 P Q) Q)):AWPI ro Γ P (.seq x y) σ Q:=fun a w F hs=>wpIn_seq (h a w F hs)
theorem zAX (h:AEnd Γ σ Q .normal):AWPI ro Γ P .skip σ Q:=fun a w F hs=>wpIn_skip (h a w F hs)
theorem awi_exit {id:Nat} (h:AEnd Γ σ Q (.exit id)):AWPI ro Γ P (.exit id) σ Q:=fun a w F hs=>wpIn_exit (h a w F hs)
theorem zCg (h:AEnd Γ σ Q .ret):AWPI ro Γ P .ret σ Q:=fun a w F hs=>wpIn_ret (h a w F hs)
theorem zAn {id:Nat} {c:Code} (h:AWPI ro Γ P c σ (Exit.inBlock id Q)):AWPI ro Γ P (.block id c) σ Q:=fun a w F hs=>wpIn_block (h a w F hs)
theorem zAL {c:Operand} {x y:Code} {b:Bool} (hc:σ.ev c = some (true,.d (.bool b))) (h1:b = true → AWPI ro Γ P x σ Q) (h2:b = false → AWPI ro Γ P y σ Q):AWPI ro Γ P (.cond c x y) σ Q:=fun a w F hs=>by
  have h:=hs.ev hc
  simp only [TRep,Rep] at h
  cases b with
  | true=>exact wpIn_cond_true h (h1 rfl a w F hs)
  | false=>exact wpIn_cond_false h (h2 rfl a w F hs)
theorem yD {y:Code} {Q':Exit → Act → World → Prop} (h:AWPI ro Γ P y σ Q'):AEnd Γ σ (Exit.then (y.wpIn (fen ro) 0 P Q') Q) .normal:=h
theorem awi_wide {c:Code}:AWPI none Γ P c σ Q ↔ AWP Γ P c σ Q :=
  ⟨fun h a w F hs=>wpIn_wide.1 (h a w F hs),fun h a w F hs=>wpIn_wide.2 (h a w F hs)⟩
theorem awi_loop_on {ι : Type} {c : Code} (tm : ι → List (Nat × Bool × TV)) (rs : ι → List (Nat × Res)) (μ : ι → Nat) (i₀ : ι) (h0 : HoldT σ (tm i₀)) (h0r : HoldR σ (rs i₀))
    (hb:∀ i,AWPI ro Γ P c (σ.over (tm i) (rs i)) (Exit.then (Round Γ (fun i=>σ.over (tm i) (rs i)) μ (μ i)) Q)):AWPI ro Γ P (.loop c) σ Q:=fun a w F hs=>by
  let Inv:Nat → Act → World → Prop:=fun n a w=>∃ i F,RS Γ (σ.over (tm i) (rs i)) a w F ∧ μ i = n
  have hn:∃ n,Inv n a w:=⟨μ i₀,i₀,F,hs.over (.refl _) (.refl _) h0 h0r,rfl⟩
  refine wpIn_loop (fun a w=>∃ n,Inv n a w) (fun a w=>leastOf (fun n=>Inv n a w)) hn ?_
  intro a w hI
  obtain ⟨⟨i,F,hs,he⟩,hmin⟩:=leastOf_spec hI
  refine wpIn_mono (hb i a w F hs) ?_
  intro e a' w' hq
  cases e with
  | normal =>
    obtain ⟨i',F',hs',hlt⟩:=hq
    have hI':∃ n,Inv n a' w':=⟨μ i',i',F',hs',rfl⟩
    refine ⟨hI',?_⟩
    have:=(leastOf_spec hI').2 (μ i') ⟨i',F',hs',rfl⟩
    show leastOf (fun n=>Inv n a' w') < leastOf (fun n=>Inv n a w)
    omega
  | _=>exact hq
def D1I (ro:Option Nat) (Γ:Cx) (P:Program) (ops:Array Oper) (Q:Exit → Act → World → Prop) (W:Nat → Prop) (n:Nat) (listed:Array Bool) (σ:St):Prop :=
  ∀ a w F,RS Γ σ a w F → anyI ro P ops Q (Agree F W w) n listed a w
def D2I (ro:Option Nat) (Γ:Cx) (P:Program) (ops:Array Oper) (Q:Exit → Act → World → Prop) (W:Nat → Prop) (n:Nat) (listed:Array Bool) (σ:St):Prop :=
  ∀ w1 F1 a w F,RS Γ σ a w F → Agree F1 W w1 w → (∀ b o,F1 b o → F b o) → w1.heap.size ≤ w.heap.size → anyI ro P ops Q (Agree F1 W w1) n listed a w
theorem zAm {n:Nat} {listed:Array Bool} (h:D2I ro Γ P ops Q W n listed σ):D1I ro Γ P ops Q W n listed σ:=fun a w F hs =>
  h w F a w F hs (Agree.refl _ _ _) (fun _ _ h=>h) (Nat.le_refl _)
theorem zCF {n:Nat} {listed:Array Bool} (h:D1I ro Γ P ops Q W n listed σ):D2I ro Γ P ops Q W n listed σ:=fun w1 F1 a w F hs k1 k2 k3 =>
  zCI (fun w' hw' b o hb hf=>(hw' b o (Nat.lt_of_lt_of_le hb k3) (hf.imp (k2 b o) id)).trans (k1 b o hb hf)) n listed a w (h a w F hs)
theorem d_startI {id:Nat} (hm:P.follows .mixedOrders = true) (h:D1I ro Γ P ops Q W ops.size (Array.replicate ops.size false) σ):AWPI ro Γ P (.region id ops true) σ Q:=fun a w F hs=>by
  have hg:Grow F F w w.drew none:=⟨rfl,rfl,rfl,Nat.le_refl _,fun _ _ _=>rfl,fun _ _ h=>h,fun _ _ h _ _=>h,hs.fcell,fun _ _ _=>rfl⟩
  exact region_anyI hm (h a w.drew F (hs.grow hg))
theorem d1_takeI {n i t : Nat} {o : Oper} {listed : Array Bool} {c : Bool} {tv : TV} (L : List (Nat × TV)) (hi : ops[i]? = some o) (hs' : Region.noSelect ops = true) (hf : Region.free .any ops listed i = true)
    (hr:(Region.ready .any ops listed).contains i = true) (hnd:ops.toList.all noDef = true) (hQ:∀ c a w v,Q (.panic c) (a.put o.dst v) w → Q (.panic c) a w)
    (hg:GuardOK Γ ops σ o c) (ht:o.dst = some t) (hn:Nat.blt t Γ.n = true) (hL:c = true → Strong σ L) (hq:c = true → QV Γ P (σ.puts L) o (RA W) tv)
    (h:D1I ro Γ P ops Q W n (listed.setIfInBounds i true) (σ.put t c tv)):D1I ro Γ P ops Q W (n + 1) listed σ:=fun a w F hs=>by
  have hlt:t < Γ.n:=zx hn
  have hw:=hg a w F hs
  cases c with
  | true =>
    obtain ⟨v,hv,hrun⟩:=hq rfl a w F (hs.strong (hL rfl))
    refine zAo hnd hi hs' (fun c a w=>hQ c a w v) n listed a w (Region.free_spec hi hf) (by simpa using hr) (.inl ⟨hw,fun w' hw'=>hrun w' hw'⟩) (Agree.refl _ _ _) ?_
    rw [ht]
    exact h _ _ F (hs.put hlt (fun _=>hv) (fun h=>by cases h))
  | false =>
    refine zAo hnd hi hs' (fun c a w=>hQ c a w undef) n listed a w (Region.free_spec hi hf) (by simpa using hr) (.inr ⟨hw,rfl⟩) (Agree.refl _ _ _) ?_
    rw [ht]
    exact h _ _ F (hs.put hlt (fun h=>by cases h) (fun _=>rfl))
def BrI (ro:Option Nat) (Γ:Cx) (P:Program) (ops:Array Oper) (Q:Exit → Act → World → Prop) (W:Nat → Prop) (n:Nat) (listed:Array Bool) (σ:St) (i:Nat):Prop :=
  ∀ w1 F1 a w F,RS Γ σ a w F → Agree F1 W w1 w → (∀ b o,F1 b o → F b o) → w1.heap.size ≤ w.heap.size →
    atI ro P ops Q i (fun a' w'=>Agree F1 W w1 w' ∧ anyI ro P ops Q (Agree F1 W w1) n (listed.setIfInBounds i true) a' w') a w
def AllBrI (ro:Option Nat) (Γ:Cx) (P:Program) (ops:Array Oper) (Q:Exit → Act → World → Prop) (W:Nat → Prop) (n:Nat) (listed:Array Bool) (σ:St):List Nat → Prop
  | []=>True
  | i :: r=>BrI ro Γ P ops Q W n listed σ i ∧ AllBrI ro Γ P ops Q W n listed σ r
theorem allBrI {n:Nat} {listed:Array Bool}:∀ {rs:List Nat},AllBrI ro Γ P ops Q W n listed σ rs → ∀ i ∈ rs,BrI ro Γ P ops Q W n listed σ i
  | j :: r,⟨h1,h2⟩,i,hi=>by
    rcases List.mem_cons.1 hi with rfl | hi
    · exact h1
    · exact allBrI h2 i hi
theorem brI {n i : Nat} {o : Oper} {listed : Array Bool} {X : Type} {S' : X → St} (hi : ops[i]? = some o) (hst : StepI ro Γ P ops σ o W S')
    (h:∀ x,D2I ro Γ P ops Q W n (listed.setIfInBounds i true) (S' x)):BrI ro Γ P ops Q W n listed σ i:=fun w1 F1 a w F hs k1 k2 k3=>by
  have key:=hst a w F hs (fun a' w'=>Agree F1 W w1 w' ∧ anyI ro P ops Q (Agree F1 W w1) n (listed.setIfInBounds i true) a' w') Q (fun x a' w' F' hs' e1 e2 e3=>by
    have hag:Agree F1 W w1 w':=fun b o hb hfw=>by
      have h1:=e3 b o (Nat.lt_of_lt_of_le hb k3) (hfw.imp (k2 b o) id)
      exact h1.trans (k1 b o hb hfw)
    exact ⟨hag,h x w1 F1 a' w' F' hs' hag (fun b o hf=>e1 b o (k2 b o hf)) (Nat.le_trans k3 e2)⟩)
  unfold atI
  simp only [hi]
  exact key
theorem d2_allI {n:Nat} {listed:Array Bool} (i:Nat) (rs:List Nat) (hr:Region.ready .any ops listed = i :: rs) (h:AllBrI ro Γ P ops Q W n listed σ (i :: rs)):D2I ro Γ P ops Q W (n + 1) listed σ:=fun w1 F1 a w F hs k1 k2 k3 =>
  ⟨fun h0=>(by rw [hr] at h0; cases h0),fun j hj=>allBrI h j (hr ▸ hj) w1 F1 a w F hs k1 k2 k3⟩
theorem zEC {n i : Nat} {o : Oper} {listed : Array Bool} {X : Type} {S' : X → St} (hr : Region.ready .any ops listed = [i]) (hi : ops[i]? = some o) (hst : StepI ro Γ P ops σ o W S')
    (h:∀ x,D2I ro Γ P ops Q W n (listed.setIfInBounds i true) (S' x)):D2I ro Γ P ops Q W (n + 1) listed σ:=d2_allI i [] hr ⟨brI hi hst h,trivial⟩
theorem d2_doneI {n:Nat} {listed:Array Bool} (hr:Region.ready .any ops listed = []) (h:AEnd Γ σ Q .normal):D2I ro Γ P ops Q W n listed σ:=fun w1 F1 a w F hs _ _ _=>by
  have h':=h a w F hs
  cases n with
  | zero=>exact ⟨hr,h'⟩
  | succ n=>exact ⟨fun _=>h',fun i hi=>by rw [hr] at hi; cases hi⟩
end
/-- The blocks for deferred calls that the marks on the activation's list name. -/
def marksRes (dm:List Nat):Res:=.inv (fun b=>b ∈ dm) fun _ w=>dm.Nodup ∧ ∀ D ∈ dm,w.heap[D]? = some (.deferred (some []))
theorem marks_stands (dm:List Nat):Stands (fun b=>b ∈ dm) fun _ w=>dm.Nodup ∧ ∀ D ∈ dm,w.heap[D]? = some (.deferred (some [])):=fun _ _ _ _ h _ hb _ _=>⟨h.1,fun D hD=>(hb D hD).trans (h.2 D hD)⟩
/-- What a call of yield does to what was lent. -/
def YieldE (P:Program) (l:Nat) (x:List D) {ι:Type} (R:ι → Res) (i:ι) (A B:ι → Prop):Prop :=
  ∀ w F vs,RepVals F w x vs → HeapOK (callCx w F [(7000,R i)]) [(7000,R i)] w F → YieldAt Fence.wide 0 P l vs.toArray w fun e w' =>
    ∃ b i' F',e = .returned (.bool b) ∧ (b = true → A i') ∧ (b = false → B i') ∧ HeapOK (callCx w F [(7000,R i)]) [(7000,R i')] w' F'
section
variable {Γ:Cx} {P:Program} {σ:St} {ops:Array Oper} {o:Oper} {Q:Exit → Act → World → Prop} {W:Nat → Prop}
theorem y8 {n:Nat} {r:Res} {b:Nat}:blks [(n,r)] b ↔ r.has b:=by
  constructor
  · rintro ⟨i,r',h,hb⟩
    by_cases e:n = i
    · subst e; rw [zR] at h; cases h; exact hb
    · rw [zT _ _ e] at h; simp [lk] at h
  · exact fun h=>⟨n,r,zR _ _ _,h⟩
/-- A call of yield. -/
theorem s_yield {f : Operand} {args : Array Operand} {ats : Array TypeId} {l dt : Nat} {x x' : List D} {ι : Type} {R : ι → Res} {A B : ι → Prop} {c : Bool} (L : List (Nat × TV)) (i : ι)
    (hy:c = true → YieldE P l x R i A B) (h:o.op = .call { callee:=.value f,args:=args,argTypes:=ats }) (hg:GuardOK Γ ops σ o c) (hd:o.dst = some dt) (hn:Nat.blt dt Γ.n = true) (hL:c = true → Strong σ L)
    (hf:(σ.puts L).ev f = some (true,.val (.func (.yield l) #[] #[]))) (ha:evsD (σ.puts L) args.toList = some x') (hall:DLes x' x) (hr:σ.rget 7000 = some (R i)) (hW:∀ b,(R i).has b → W b) :
    StepI none Γ P ops σ o W fun p:{p:Bool × ι // (c = true → (p.1 = true → A p.2) ∧ (p.1 = false → B p.2)) ∧ (c = false → p.2 = i)}=>(σ.rput 7000 (R p.1.2)).put dt c (.d (.bool p.1.1)):=fun a w F hs K Q hK=>by
  rw [hg a w F hs]
  cases c with
  | false =>
    rw [if_neg (by simp),hd]
    have h0:RS Γ (σ.rput 7000 (R i)) a w F:=hs.rput (hs.rs _ _ hr) fun b hb j r' hne hj e=>hne (hs.sep j 7000 r' (R i) b hj hr e hb)
    exact hK ⟨(false,i),by simp⟩ _ _ F (h0.put (zx hn) (fun h=>by cases h) (fun _=>rfl)) (fun _ _ h=>h) (Nat.le_refl _) (Agree.refl _ _ _)
  | true =>
    rw [if_pos rfl]
    have hs':=hs.strong (hL rfl)
    have e1:=hs'.ev hf
    simp only [TRep] at e1
    have ka:=(hs'.evs (ke ha)).of_d
    have hl:SubR σ [(7000,R i)]:=⟨hr,trivial⟩
    obtain ⟨fn,tmps,assign,body,hrun,hround⟩:=hy rfl w F _ (hall.rep ka) (zBL hs hl)
    have hex:(o.semAt (fen none).round a.eval).run P w = .ok (.round l fn tmps assign body) w:=by
      rw [zAt,Oper.semAt_none]
      have harr:args.map a.eval = (args.toList.map a.eval).toArray:=by apply Array.ext'; simp
      simp only [execOp,h,resolve,e1,Deferred.ofValue,invoke,Sem.run_bind,Sem.run_pure,Result.andThen_ok,harr]
      simpa using hrun
    refine ⟨fun f' _=>trivial,?_⟩
    rw [hex]
    refine ⟨fun h=>(by cases h),RoundIn.mono hround ?_⟩
    rintro e w' ⟨b,i',F',rfl,hA,hB,hh⟩
    show K (a.put o.dst (.bool b)) w'
    rw [hd]
    refine hK ⟨(b,i'),fun _=>⟨hA,hB⟩,fun h=>by cases h⟩ _ _ F' ((hs.lent hl rfl hh).put (zx hn) (fun _=>rfl) (fun h=>by cases h)) hh.f0 hh.hsize fun b' o' hb hfw=>?_
    rcases hfw with hfw | hfw
    · exact hh.keep b' o' hfw
    · have:w'.heap[b']? = w.heap[b']?:=hh.old b' hb (fun hk=>hfw (hW b' (y8.1 hk)))
      simp [World.cell?,this]
end
theorem RS.of_heap {Γ : Cx} {tm : List (Nat × Bool × TV)} {R : List (Nat × Res)} {dm : List Nat} {a : Act} {w : World} {F : Nat → Nat → Prop} (hh : HeapOK Γ.base R w F) (h1 : Γ.n ≤ a.tmps.size)
    (h2:a.defers = dm.map fun D=>{ target:=.collected D,args:=#[] }) (h3:∀ t c tv,lk tm t = some (c,tv) → (c = true → TRep F w tv (a.tmps.getD t undef)) ∧ (c = false → a.tmps.getD t undef = undef)):RS Γ ⟨tm,R,dm⟩ a w F where
  size:=h1
  defers:=h2
  os:=hh.os
  tape:=hh.tape
  output:=hh.output
  hsize:=hh.hsize
  old:=hh.old
  fcell:=hh.fcell
  glob:=hh.glob
  keep:=hh.keep
  f0:=hh.f0
  fnew:=hh.fnew
  tm:=h3
  rs:=hh.res
  sep:=hh.sep
/-- A frozen cell lies in a block of cells. -/
theorem HeapOK.notF {Γ:Cx} {R:List (Nat × Res)} {w:World} {F:Nat → Nat → Prop} (hh:HeapOK Γ R w F) {b:Nat} {x:Obj} (h:w.heap[b]? = some x) (hx:∀ c t f,x ≠ .cells c t f) (o:Nat):¬ F b o:=fun hf=>by
  obtain ⟨v,hv⟩:=hh.fcell b o hf
  simp only [World.cell?,h] at hv
  cases x <;> first | (exact hx _ _ _ rfl) | (simp at hv)
/-- A block that holds no cells is written: of what is owned, and of no resource. -/
theorem HeapOK.putObj {Γ : Cx} {R : List (Nat × Res)} {w : World} {F : Nat → Nat → Prop} (hh : HeapOK Γ R w F) {l : Nat} {x : Obj} (y : Obj) (h : w.heap[l]? = some x) (hx : ∀ c t f, x ≠ .cells c t f) (hown : Γ.own l)
    (hR:∀ i r,lk R i = some r → ¬ r.has l):HeapOK Γ R (w.putObj l y) F:=by
  have hne:∀ b o,F b o → b ≠ l:=fun b o hf e=>by subst e; exact hh.notF h hx o hf
  have hblk:∀ k,k ≠ l → (w.putObj l y).heap[k]? = w.heap[k]?:=fun k hk=>World.putObj_heap_other hk
  have hcell:∀ b o,F b o → (w.putObj l y).cell? ⟨b,o,none⟩ = w.cell? ⟨b,o,none⟩:=fun b o hf=>by
    simp [World.cell?,hblk b (hne b o hf)]
  exact {
    os:=hh.os
    tape:=hh.tape
    output:=hh.output
    hsize:=by rw [World.putObj_size]; exact hh.hsize
    old:=fun k hk hkl=>(hblk k (fun e=>by subst e; rcases hown with ho | ho; omega; exact hkl ho)).trans (hh.old k hk hkl)
    fcell:=fun b o hf=>by obtain ⟨v,hv⟩:=hh.fcell b o hf; exact ⟨v,(hcell b o hf).trans hv⟩
    keep:=fun b o hf=>(hcell b o (hh.f0 b o hf)).trans (hh.keep b o hf)
    f0:=hh.f0
    fnew:=hh.fnew
    glob:=hh.glob
    res:=fun i r hr=>(hh.res i r hr).stand (fun b hb=>yE (hh.res i r hr) hb) (by rw [World.putObj_size]; exact Nat.le_refl _) (fun b hb=>hblk b (fun e=>hR i r hr (e ▸ hb))) (fun _ _ _ h=>h) fun b o hf=>⟨hf,hcell b o hf⟩
    sep:=hh.sep }
/-- Other names, the same or fewer resources. -/
theorem HeapOK.less {Γ:Cx} {R R':List (Nat × Res)} {w:World} {F:Nat → Nat → Prop} (hh:HeapOK Γ R w F) (h:∀ i r,lk R' i = some r → lk R i = some r):HeapOK Γ R' w F :=
  { hh with res:=fun i r hr=>hh.res i r (h i r hr),sep:=fun i i' r r' b h1 h2=>hh.sep i i' r r' b (h i r h1) (h i' r' h2) }
/-- One more. -/
theorem HeapOK.cons {Γ:Cx} {R:List (Nat × Res)} {w:World} {F:Nat → Nat → Prop} (hh:HeapOK Γ R w F) {n:Nat} {r:Res} (hr:ResOK Γ F w r) (hd:∀ b,r.has b → ∀ i r',i ≠ n → lk R i = some r' → ¬ r'.has b):HeapOK Γ ((n,r) :: R) w F :=
  { hh with
    res:=fun i x hx=>by
      by_cases e:n = i
      · subst e; rw [zR] at hx; cases hx; exact hr
      · rw [zT _ _ e] at hx; exact hh.res i x hx
    sep:=fun i i' x x' b h1 h2 k1 k2=>by
      by_cases e:n = i <;> by_cases e':n = i'
      · omega
      · subst e; rw [zR] at h1; cases h1; rw [zT _ _ e'] at h2; exact (hd b k1 i' x' (fun q=>e' q.symm) h2 k2).elim
      · subst e'; rw [zR] at h2; cases h2; rw [zT _ _ e] at h1; exact (hd b k2 i x (fun q=>e q.symm) h1 k1).elim
      · rw [zT _ _ e] at h1; rw [zT _ _ e'] at h2; exact hh.sep i i' x x' b h1 h2 k1 k2 }
theorem HeapOK.lent {Γ:Cx} {R rs rs':List (Nat × Res)} {w w':World} {F F':Nat → Nat → Prop} (hh:HeapOK Γ.base R w F) (hl:SubR ⟨[],R,[]⟩ rs) (hc:covers rs' rs = true) (h:HeapOK (callCx w F rs) rs' w' F'):HeapOK Γ.base (rs' ++ R) w' F':=by
  have h0:RS Γ ⟨[],R,[]⟩ { tmps:=Array.replicate Γ.n undef,defers:=[] } w F:=RS.of_heap hh (by simp) rfl (fun t c tv h=>by simp [lk] at h)
  have h1:=h0.lent (rs':=rs') hl hc h
  exact { os:=h1.os,tape:=h1.tape,output:=h1.output,hsize:=h1.hsize,old:=h1.old,fcell:=h1.fcell,keep:=h1.keep,f0:=h1.f0,fnew:=h1.fnew,glob:=h1.glob,res:=h1.rs,sep:=h1.sep }
theorem HeapOK.alloc {Γ:Cx} {R:List (Nat × Res)} {w:World} {F:Nat → Nat → Prop} (hh:HeapOK Γ.base R w F) (x:Obj):HeapOK Γ.base R (w.alloc x) F:=by
  have h0:RS Γ ⟨[],R,[]⟩ { tmps:=Array.replicate Γ.n undef,defers:=[] } w F:=RS.of_heap hh (by simp) rfl (fun t c tv h=>by simp [lk] at h)
  have h1:=h0.grow (Grow.alloc hh.fcell x)
  exact { os:=h1.os,tape:=h1.tape,output:=h1.output,hsize:=h1.hsize,old:=h1.old,fcell:=h1.fcell,keep:=h1.keep,f0:=h1.f0,fnew:=h1.fnew,glob:=h1.glob,res:=h1.rs,sep:=h1.sep }
/-- The slots of a round: yield's arguments over those of the statement. -/
def roundTm:List Tmp → List D → List (Nat × Bool × TV) → List (Nat × Bool × TV)
  | p :: ps,d :: ds,tm=>roundTm ps ds ((p,true,.d d) :: tm)
  | _,_,tm=>tm
def TmOK (tm:List (Nat × Bool × TV)) (F:Nat → Nat → Prop) (w:World) (tmps:Array Value):Prop :=
  ∀ t c tv,lk tm t = some (c,tv) → (c = true → TRep F w tv (tmps.getD t undef)) ∧ (c = false → tmps.getD t undef = undef)
theorem zBe {F : Nat → Nat → Prop} {w : World} : ∀ {ps : List Tmp} {ds : List D} {vs : List Value} {tm : List (Nat × Bool × TV)} {tmps : Array Value}, TmOK tm F w tmps → RepVals F w ds vs → (∀ p ∈ ps, p < tmps.size) → ps.length = ds.length →
    TmOK (roundTm ps ds tm) F w ((ps.zip vs).foldl (fun tmps (x:Tmp × Value)=>tmps.setIfInBounds x.1 x.2) tmps)
  | [],[],_,_,_,h,hv,_,_=>by cases hv; exact h
  | p :: ps,d :: ds,_,tm,tmps,h,⟨v,vs',e,h1,h2⟩,hp,hl=>by
    subst e
    simp only [roundTm,List.zip_cons_cons,List.foldl_cons]
    refine zBe (fun t c tv hg=>?_) h2 (fun q hq=>by simpa using hp q (by simp [hq])) (by simpa using hl)
    by_cases e:p = t
    · subst e
      rw [zR] at hg
      cases hg
      have hlt:=hp p (by simp)
      have e:(tmps.setIfInBounds p v).getD p undef = v:=by simp [hlt]
      rw [e]
      exact ⟨fun _=>h1,fun h=>by cases h⟩
    · rw [zT _ _ e] at hg
      have:(tmps.setIfInBounds p v).getD t undef = tmps.getD t undef:=by simp [Array.getElem?_setIfInBounds_ne e]
      rw [this]
      exact h t c tv hg
  | [],_ :: _,_,_,_,_,_,_,hl=>by simp at hl
  | _ :: _,[],_,_,_,_,_,_,hl=>by simp at hl
theorem fold_size {l:List (Tmp × Value)}:∀ {tmps:Array Value},(l.foldl (fun tmps (x:Tmp × Value)=>tmps.setIfInBounds x.1 x.2) tmps).size = tmps.size:=by
  induction l with
  | nil=>intro _; rfl
  | cons x l ih=>intro tmps; simp [ih]
/-- How a round is left. -/
def RoundQ (Γ:Cx) (l:Nat) (rb:Loop) {ι:Type} (rs:ι → List (Nat × Res)) (A:ι → Prop) (B:Code → ι → Prop):Exit → Act → World → Prop
  | .normal,_,w=>∃ i F,A i ∧ HeapOK Γ.base ((9001,.obj l (.loop rb)) :: rs i) w F
  | .ret,_,w=>∃ i F,B .ret i ∧ HeapOK Γ.base ((9001,.obj l (.loop rb)) :: rs i) w F
  | .exit id,_,w=>∃ i F,B (.exit id) i ∧ HeapOK Γ.base ((9001,.obj l (.loop rb)) :: rs i) w F
  | _,_,_=>False
def BeginQ (Γ:Cx) (P:Program) (l:Nat) (r0:Loop) {ι:Type} (rs:ι → List (Nat × Res)) (A:ι → Prop) (B:Code → ι → Prop) (body:Code):Exit → Act → World → Prop :=
  Exit.then (fun a₁ w₁=>∃ w₂,(Instr.beginRound l).run P w₁ = .ok () w₂ ∧ body.wpIn (fen (some l)) 0 P (RoundQ Γ l { r0 with state:=.busy } rs A B) a₁ w₂) (fun _ _ _=>False)
section
variable {Γ:Cx} {P:Program} {σ:St} {Q:Exit → Act → World → Prop}
theorem yu {α:Type} {n:Nat} {x:α} {l:List (Nat × α)} {i:Nat}:lk ((n,x) :: l) i = if n = i then some x else lk l i:=by
  by_cases e:n = i
  · subst e; rw [zR]; simp
  · rw [zT _ _ e]; simp [e]
/-- The assignments are done: the round begins. -/
theorem aend_begin {l : Nat} {r0 : Loop} {ι : Type} {rs : ι → List (Nat × Res)} {A : ι → Prop} {B : Code → ι → Prop} {body : Code} (hr : r0.state = .ready) (hg : σ.rget 9001 = some (.obj l (.loop r0)))
    (h:AWPI (some l) Γ P body (σ.rput 9001 (.obj l (.loop { r0 with state:=.busy }))) (RoundQ Γ l { r0 with state:=.busy } rs A B)):AEnd Γ σ (BeginQ Γ P l r0 rs A B body) .normal:=fun a w F hs=>by
  obtain ⟨hown,hh,hF,_⟩:=hs.rs _ _ hg
  refine ⟨_,run_beginRound hh hr,h a _ F ?_⟩
  have hlt:=yO hh
  have hne:∀ b o,F b o → b ≠ l:=fun b o hf e=>hF o (e ▸ hf)
  have hgr:Grow F F w (w.putObj l (.loop { r0 with state:=.busy })) (some l):={
    os:=rfl
    tape:=rfl
    output:=rfl
    size:=by rw [World.putObj_size]; exact Nat.le_refl _
    block:=fun k _ hk=>World.putObj_heap_other (fun e=>hk (by rw [e]))
    ext:=fun _ _ h=>h
    new:=fun _ _ h _ _=>h
    cell:=fun b o hf=>by
      obtain ⟨v,hv⟩:=hs.fcell b o hf
      exact ⟨v,by simpa [World.cell?,World.putObj_heap_other (hne b o hf)] using hv⟩
    keep:=fun b o hf=>by simp [World.cell?,World.putObj_heap_other (hne b o hf)] }
  exact hs.write hg rfl (fun _ e=>e.symm) hown hgr ⟨hown,World.putObj_heap_same hlt,hF,fun _ _ _ e=>by cases e⟩
theorem aend_round_go {l:Nat} {rb:Loop} {ι:Type} {rs:ι → List (Nat × Res)} {A:ι → Prop} {B:Code → ι → Prop} (i:ι) (hA:A i) (hl:SubR σ ((9001,.obj l (.loop rb)) :: rs i)):AEnd Γ σ (RoundQ Γ l rb rs A B) .normal:=fun a w F hs=>⟨i,F,hA,hs.heapOf hl⟩
theorem aend_round_ret {l:Nat} {rb:Loop} {ι:Type} {rs:ι → List (Nat × Res)} {A:ι → Prop} {B:Code → ι → Prop} (i:ι) (hB:B .ret i) (hl:SubR σ ((9001,.obj l (.loop rb)) :: rs i)):AEnd Γ σ (RoundQ Γ l rb rs A B) .ret:=fun a w F hs=>⟨i,F,hB,hs.heapOf hl⟩
end
theorem callsM {P : Program} {f : FuncId} {fn : Func} {c : Code} {args : Array Value} {w : World} {R : Ending → World → Prop} (hf : P.funcs[f]? = some fn) (hb : fn.body = some c)
    (h:c.wp P (bodyPostM Fence.wide 0 P fn R) { tmps:=args ++ Array.replicate (fn.ntmps - args.size) undef,defers:=[] } w):Calls P f args w R :=
  callsIn_wide.1 (callsIn_of_wp_marks (n:=0) hf hb trivial (wpIn_wide.2 h))
/-- What the body's end is asked where there may be marks. -/
def RetM (Γ:Cx) (P:Program) (fn:Func) {X:Type} (tv:X → TV) (rs':X → List (Nat × Res)):Exit → Act → World → Prop
  | .normal,a,w=>LeavesInM Fence.wide 0 P fn a.tmps (EndsE Γ tv rs') a.defers .returning w
  | .ret,a,w=>LeavesInM Fence.wide 0 P fn a.tmps (EndsE Γ tv rs') a.defers .returning w
  | _,_,_=>False
theorem EffAt.of_awpM {P : Program} {f : FuncId} {fn : Func} {c : Code} {args : List TV} {rs : List (Nat × Res)} {X : Type} {tv : X → TV} {rs' : X → List (Nat × Res)} (hf : P.funcs[f]? = some fn) (hb : fn.body = some c) (hname : (fn.name == "runtime.NumGoroutine") = false)
    (hn:Nat.ble args.length fn.ntmps = true) (h:∀ Γ:Cx,Γ.n = fn.ntmps → AWP Γ P c ⟨argStT 0 args,rs,[]⟩ (RetM Γ P fn tv rs')):EffAt P f args rs tv rs' :=
  ⟨yo hf hname (by simp [hb]),fun w F _ hr hh=>callsM hf hb (wp_mono (h (callCx w F rs fn.ntmps) rfl _ _ F (zDD hr hh (Nat.le_of_ble_eq_true hn))) fun e a w hq=>by cases e <;> first | exact hq | exact hq.elim)⟩
section
variable {Γ:Cx} {P:Program} {σ:St} {fn:Func} {Q:Exit → Act → World → Prop}
/-- The marks are come to, one after the other; then the results. -/
theorem leaves_marks {X : Type} {tv : X → TV} {rs' : X → List (Nat × Res)} (x : X) {tm : List (Nat × Bool × TV)} {R : List (Nat × Res)} (hh : Hands Γ P fn ⟨tm, R, []⟩ (tv x)) (hL : ∀ i r, lk (rs' x) i = some r → lk R i = some r) :
    ∀ (dm:List Nat) (a:Act) (w:World) (F:Nat → Nat → Prop),RS Γ ⟨tm,R,[]⟩ { a with defers:=[] } w F → dm.Nodup → (∀ D ∈ dm,Γ.own D ∧ w.heap[D]? = some (.deferred (some [])) ∧ ∀ i r,lk R i = some r → ¬ r.has D) →
      LeavesInM Fence.wide 0 P fn a.tmps (EndsE Γ tv rs') (dm.map fun D=>{ target:=.collected D,args:=#[] }) .returning w
  | [],a,w,F,hs,_,_=>by
    obtain ⟨v,h1,h2⟩:=hh _ w F hs
    exact ⟨v,h1,x,v,F,rfl,h2,HeapOK.less (R:=R) { os:=hs.os,tape:=hs.tape,output:=hs.output,hsize:=hs.hsize,old:=hs.old,fcell:=hs.fcell,keep:=hs.keep,f0:=hs.f0,fnew:=hs.fnew,glob:=hs.glob,res:=hs.rs,sep:=hs.sep } hL⟩
  | D :: dm,a,w,F,hs,hn,hD=>by
    obtain ⟨hown,hd,hno⟩:=hD D (by simp)
    have hn':=List.nodup_cons.1 hn
    have hlt:=yO hd
    have hne:∀ b o,F b o → b ≠ D:=fun b o hf e=>by
      subst e
      obtain ⟨v,hv⟩:=hs.fcell b o hf
      simp [World.cell?,hd] at hv
    refine ⟨by simp,.inl ⟨D,w.putObj D (.deferred none),rfl,run_takeDeferred hd,?_⟩⟩
    refine leaves_marks x hh hL dm a _ F ?_ hn'.2 fun D' hD'=>?_
    · have hg : Grow F F w (w.putObj D (.deferred none)) (some D) := {
        os:=rfl
        tape:=rfl
        output:=rfl
        size:=by rw [World.putObj_size]; exact Nat.le_refl _
        block:=fun k _ hk=>World.putObj_heap_other (fun e=>hk (by rw [e]))
        ext:=fun _ _ h=>h
        new:=fun _ _ h _ _=>h
        cell:=fun b o hf=>by
          obtain ⟨v,hv⟩:=hs.fcell b o hf
          exact ⟨v,by simpa [World.cell?,World.putObj_heap_other (hne b o hf)] using hv⟩
        keep:=fun b o hf=>by simp [World.cell?,World.putObj_heap_other (hne b o hf)] }
      exact {
        hs with
        os:=hs.os
        tape:=hs.tape
        output:=hs.output
        hsize:=Nat.le_trans hs.hsize hg.size
        old:=fun k hk hkl=>(World.putObj_heap_other (fun e=>by subst e; rcases hown with ho | ho; omega; exact hkl ho)).trans (hs.old k hk hkl)
        fcell:=hg.cell
        glob:=hs.glob
        keep:=fun b o hf=>(hg.keep b o (hs.f0 b o hf)).trans (hs.keep b o hf)
        tm:=fun t c tv hget=>⟨fun hc=>((hs.tm t c tv hget).1 hc).ext' fun b o hf=>⟨hf,hg.keep b o hf⟩,(hs.tm t c tv hget).2⟩
        rs:=fun i r hr=>(hs.rs i r hr).grow hg fun b hb e=>by cases e; exact hno i r hr hb }
    · obtain ⟨k1,k2,k3⟩:=hD D' (by simp [hD'])
      exact ⟨k1,(World.putObj_heap_other (fun e=>by subst e; exact hn'.1 hD')).trans k2,k3⟩
/-- A return where there may be marks. -/
theorem ret_M {X:Type} {tv:X → TV} {rs':X → List (Nat × Res)} {e:Exit} (he:e = .ret ∨ e = .normal) (x:X) (hm:σ.dm = [] ∨ σ.rget 9000 = some (marksRes σ.dm)) (hh:Hands Γ P fn ⟨σ.tm,(9000,.gone) :: σ.rs,[]⟩ (tv x)) (hL:SubR σ (rs' x)) (h9:lk (rs' x) 9000 = none):AEnd Γ σ (RetM Γ P fn tv rs') e:=fun a w F hs=>by
  have hget:∀ i r,lk ((9000,Res.gone) :: σ.rs) i = some r → r ≠ .gone → i ≠ 9000 ∧ σ.rget i = some r:=fun i r h hr=>by
    rw [yu] at h
    split at h
    · cases h; exact (hr rfl).elim
    · rename_i hne; exact ⟨fun e=>hne e.symm,h⟩
  have hs0:RS Γ ⟨σ.tm,(9000,.gone) :: σ.rs,[]⟩ { a with defers:=[] } w F:={
    hs with
    size:=hs.size
    defers:=rfl
    rs:=fun i r h=>by
      cases r with
      | gone=>trivial
      | _=>exact hs.rs i _ (hget i _ h (fun e=>by cases e)).2
    sep:=fun i i' r r' b h1 h2 e1 e2=>hs.sep i i' r r' b (hget i r h1 (fun e=>by subst e; exact e1.elim)).2 (hget i' r' h2 (fun e=>by subst e; exact e2.elim)).2 e1 e2 }
  have hL':∀ i r,lk (rs' x) i = some r → lk ((9000,Res.gone) :: σ.rs) i = some r:=fun i r h=>by
    have hne:(9000:Nat) ≠ i:=fun e=>by subst e; rw [h9] at h; cases h
    rw [zT _ _ hne]
    exact hL.get (yT h)
  have key:LeavesInM Fence.wide 0 P fn a.tmps (EndsE Γ tv rs') a.defers .returning w:=by
    rw [hs.defers]
    refine leaves_marks x hh hL' σ.dm a w F hs0 ?_ fun D hD=>?_
    · rcases hm with h | h
      · rw [h]; exact List.nodup_nil
      · exact (hs.rs _ _ h).2.1.1
    · rcases hm with h | h
      · rw [h] at hD; cases hD
      · refine ⟨yE (hs.rs _ _ h) hD,(hs.rs _ _ h).2.1.2 D hD,fun i r hr hb=>?_⟩
        have h1:=hget i r hr (fun e=>by subst e; exact hb.elim)
        exact h1.1 (hs.sep i 9000 r _ D h1.2 h hb hD)
  rcases he with rfl | rfl <;> exact key
theorem zBz {c:Code} (h:AWP Γ P c σ (Exit.noGoto Q)):AWP Γ P (.scope c) σ Q:=fun a w F hs=>wp_scope_straight (h a w F hs)
theorem awp_label {l:Nat} (h:AEnd Γ σ Q .normal):AWP Γ P (.label l) σ Q:=fun a w F hs=>wp_label (h a w F hs)
theorem zAE {e:Exit} (h:AEnd Γ σ Q e) (he:∀ l,e ≠ .goto l):AEnd Γ σ (Exit.noGoto Q) e:=fun a w F hs=>by
  have:=h a w F hs
  cases e <;> first | exact this | exact (he _ rfl).elim
theorem kX {z:Array Value} {sz:Nat} (hz:z.size = sz) (hp:0 < sz):∀ n:Nat,(List.range (n * sz)).map (fun i=>z[i % z.size]!) = (List.replicate n z.toList).flatten
  | 0=>by simp
  | n + 1=>by
    rw [List.replicate_succ,List.flatten_cons,← kX hz hp n,Nat.add_mul,Nat.one_mul,Nat.add_comm,List.range_add,List.map_append,List.map_map]
    congr 1
    · apply List.ext_getElem?
      intro i
      rw [List.getElem?_map]
      by_cases hi:i < sz
      · rw [List.getElem?_range hi]
        simp only [Option.map_some]
        rw [hz,Nat.mod_eq_of_lt hi,getElem!_pos z i (by omega)]
        simp
      · rw [List.getElem?_eq_none (by simpa using hi),List.getElem?_eq_none (by simp; omega)]
        rfl
    · apply List.map_congr_left
      intro i _
      simp only [Function.comp_apply,hz,Nat.add_mod_left]
theorem zA6 {ops : Array Oper} {o : Oper} {W : Nat → Prop} {t e sz bytes dt n : Nat} {x y : Operand} {k k' : IntKind} {m m' : Int} {z : Value} {zs : List TV} (id : Nat) (h : o.op = .makeSlice t x y) (hg : o.guard = none) (hd : o.dst = some dt) (hn : Nat.blt dt Γ.n = true)
    (ht:P.underlying t = some (.slice e)) (hi:(P.info? e).map (fun i=>(i.zero,i.size,i.bytes)) = some (some z,sz,bytes)) (hzs:z.cells.toList.map constTV = zs) (hz1:z.cells.toList.all (·.oneCell') = true) (hzl:z.cells.size = sz) (hp:0 < sz)
    (hx:σ.ev x = some (true,.d (.int k m))) (hy:σ.ev y = some (true,.d (.int k' m'))) (hm:m = (n:Int)) (hm':m' = (n:Int)) (hb:n * bytes ≤ 281474976710656) (hc:n * sz ≤ 16777216) (h63:n ≤ 9223372036854775807) :
    StepW Γ P ops σ o W fun b=>(σ.put dt true (.val (.slice (some ⟨b,0,none⟩) n n))).rput id (.box b e (List.replicate n zs).flatten):=fun a w F hs K Q hK=>by
  rw [if_pos (zi hg a)]
  have h1:=hs.ev hx
  have h2:=hs.ev hy
  simp only [TRep,Rep] at h1 h2
  subst hm hm'
  obtain ⟨i,hi1,hi2,hi3,hi4⟩:∃ i,P.info? e = some i ∧ i.zero = some z ∧ i.size = sz ∧ i.bytes = bytes:=by
    cases hq:P.info? e with
    | none=>simp [hq] at hi
    | some i=>simp [hq] at hi; exact ⟨i,rfl,hi⟩
  have hrun:=run_makeSlice (P:=P) (w:=w) t e i z ht hi1 hi2 k k' n n (by omega) (Int.le_refl _) (by rw [hi3]; simpa using hc) (by rw [hi4,Int.mul_comm,← Int.natCast_mul]; exact Int.ofNat_le.2 hb) (by omega)
  rw [hi3] at hrun
  simp only [Int.toNat_natCast] at hrun
  have hex:(execOp a.eval o).run P w = .ok (.value (.slice (some ⟨w.heap.size,0,none⟩) n n)) (w.alloc (.cells (madeCells z.cells (n * sz)) e)):=by
    simp only [execOp,h,h1,h2,Sem.run_bind,hrun,Result.andThen_ok,Sem.run_pure]
  unfold Oper.wp
  rw [hex]
  show K (a.put o.dst _) _
  rw [hd]
  have hcells:(madeCells z.cells (n * sz)).toList = (List.replicate n z.cells.toList).flatten:=by
    unfold madeCells
    by_cases h0:n * sz = 0
    · have hn0:n = 0:=by rcases Nat.mul_eq_zero.1 h0 with h | h; exact h; omega
      subst hn0
      simp
    · rw [← kX hzl hp n]
      simp [h0]
  have hrep:∀ (F:Nat → Nat → Prop) (w:World) (n:Nat),TReps F w (List.replicate n zs).flatten (List.replicate n z.cells.toList).flatten:=fun F w n=>by
    induction n with
    | zero=>rfl
    | succ n ih =>
      rw [List.replicate_succ,List.replicate_succ,List.flatten_cons,List.flatten_cons]
      exact (show TReps F w zs z.cells.toList by rw [← hzs]; exact yV _).append ih
  have hnew:=hs.newBox (ty:=e) (vs:=madeCells z.cells (n * sz)) id (by rw [hcells]; exact hrep F w n) (by
    rw [hcells]
    intro v hv
    obtain ⟨l,hl,hv⟩:=List.mem_flatten.1 hv
    rw [List.eq_of_mem_replicate hl] at hv
    exact List.all_eq_true.1 hz1 v hv)
  exact hK w.heap.size _ _ F (hnew.put (zx hn) (fun _=>rfl) (fun h=>by cases h)) (fun _ _ h=>h) (by simp) ((Grow.alloc hs.fcell _).agree (fun _ e=>by cases e))
/-- The cells of a box are frozen. -/
theorem RS.freeze {a : Act} {w : World} {F : Nat → Nat → Prop} (hs : RS Γ σ a w F) {id b : Nat} {bt : TypeId} {ds : List D} (hb : σ.rget id = some (.box b bt (ds.map .d))) :
    ∃ F',RS Γ (σ.rput id .gone) a w F' ∧ (∀ c o,F c o → F' c o) ∧ RepCells F' w ds b 0:=by
  -- by a slot beyond the frame's own
  let Γ':Cx:=⟨Γ.w0,Γ.F0,Γ.lent,Γ.n + 1⟩
  obtain ⟨hown,hF,vs,hh,hvs,hone⟩:=hs.rs id _ hb
  have hblt:=yO hh
  let F':Nat → Nat → Prop:=fun c o=>F c o ∨ (c = b ∧ o < vs.length)
  have hcell:∀ j v,vs[j]? = some v → w.cell? ⟨b,j,none⟩ = some v:=fun j v hv=>(yk hh).trans hv
  have hext:Ext F F' w w:=fun c o hf=>⟨.inl hf,rfl⟩
  have hg:Grow F F' w w (some b):={
    os:=rfl
    tape:=rfl
    output:=rfl
    size:=Nat.le_refl _
    block:=fun _ _ _=>rfl
    ext:=fun _ _ h=>.inl h
    new:=fun c o hf _ hne=>hf.resolve_right (fun e=>hne (by rw [e.1]))
    cell:=fun c o hf=>by
      rcases hf with hf | ⟨rfl,hlt⟩
      · exact hs.fcell c o hf
      · exact ⟨vs[o],hcell o _ (List.getElem?_eq_getElem hlt)⟩
    keep:=fun _ _ _=>rfl }
  refine ⟨F',{
    size:=hs.size
    defers:=hs.defers
    os:=hs.os
    tape:=hs.tape
    output:=hs.output
    hsize:=hs.hsize
    old:=hs.old
    fcell:=hg.cell
    glob:=hs.glob
    keep:=hs.keep
    f0:=fun c o hf=>.inl (hs.f0 c o hf)
    fnew:=fun c o hf hc hl=>by
      rcases hf with hf | ⟨rfl,_⟩
      · exact hs.fnew c o hf hc hl
      · exact absurd hc (by have:=hown.resolve_right hl; omega)
    tm:=fun t c tv hget=>⟨fun hc=>((hs.tm t c tv hget).1 hc).ext' hext,(hs.tm t c tv hget).2⟩
    rs:=fun j r1 hget=>by
      rw [zn] at hget
      split at hget
      · cases hget; trivial
      · rename_i hne
        exact (hs.rs j r1 hget).grow hg (fun c hc e=>hne (hs.sep id j _ r1 b hb hget rfl (by cases e; exact hc)))
    sep:=fun j j' r1 r2 c h1 h2 e1 e2=>by
      rw [zn] at h1 h2
      split at h1
      · cases h1; exact e1.elim
      · split at h2
        · cases h2; exact e2.elim
        · exact hs.sep j j' r1 r2 c h1 h2 e1 e2 },fun _ _ h=>.inl h,RepCells.of_vals (hvs.of_d.ext' hext) hone fun j v hj=>?_⟩
  rw [Nat.zero_add]
  exact ⟨hcell j v hj,.inr ⟨rfl,(List.getElem?_eq_some_iff.1 hj).1⟩⟩
theorem RS.slot {a:Act} {w:World} {F:Nat → Nat → Prop} (hs:RS Γ σ a w F) {t:Nat} {tv tv':TV} (ht:σ.get t = some (true,tv)) (h:∀ v,TRep F w tv v → TRep F w tv' v):RS Γ (σ.put t true tv') a w F:={
  hs with
  tm:=fun t' c tv2 hget=>by
    by_cases e:t = t'
    · subst e
      have:(true,tv') = (c,tv2):=by simpa [St.get,St.put,zR] using hget
      cases this
      exact ⟨fun _=>h _ ((hs.tm t true _ ht).1 rfl),fun h=>by cases h⟩
    · exact hs.tm t' c tv2 (by simpa [St.get,St.put,zT _ _ e] using hget) }
/-- A slice over a box of one's own is read as data; the box is frozen. -/
theorem g_freezeV {t b n sz cap : Nat} (id : Nat) {bt : TypeId} {cs : List TV} {ds : List D} {es : List (List D)} (ht : σ.get t = some (true, .val (.slice (some ⟨b, 0, none⟩) n cap))) (hb : σ.rget id = some (.box b bt cs))
    (hd:allD cs = some ds) (hl:ds.length = n * sz) (he:chunk sz n ds = es) (hcap:n ≤ cap) (hcm:cap ≤ maxLen):Ghost Γ σ ((σ.put t true (.d (.slice sz es))).rput id .gone):=fun a w F hs=>by
  obtain ⟨F',h1,h2,h3⟩:=hs.freeze (id:=id) (b:=b) (bt:=bt) (ds:=ds) (by rw [hb,yi hd])
  obtain ⟨k1,k2,k3⟩:=y6 sz n ds hl
  rw [he] at k1 k2 k3
  refine ⟨F',?_,h2⟩
  exact h1.slot (t:=t) (tv:=.val (.slice (some ⟨b,0,none⟩) n cap)) ht fun v hv=>by
    simp only [TRep] at hv
    subst hv
    exact ⟨_,cap,by rw [k2],by rw [k2]; exact hcap,hcm,.inr ⟨b,0,rfl,RepRows.flat.2 ⟨k3,by rw [k1]; exact h3⟩⟩⟩
end
theorem nb {n N t:Nat} (h:n = N) (hb:Nat.blt t N = true):Nat.blt t n = true:=by rw [h]; exact hb
theorem kr {α:Type} {K:List Nat} (l:List (Nat × α)):Keeps K l l:=.refl l
theorem kc {α:Type} {K:List Nat} {k:Nat} {x:α} {l l0:List (Nat × α)} (hk:K.any (Nat.beq k) = true) (h:Keeps K l l0):Keeps K ((k,x) :: l) l0:=.cons hk h
def anys (l:List Nat):List (Nat × Bool × TV):=l.map fun t=>(t,true,.any)
def gones (l:List Nat):List (Nat × Res):=l.map fun t=>(t,.gone)
theorem zF {σ:St}:∀ (l:List Nat),HoldT σ (anys l)
  | []=>trivial
  | _ :: l=>⟨.inr ⟨rfl,rfl⟩,zF l⟩
theorem zW {σ:St}:∀ (l:List Nat),HoldR σ (gones l)
  | []=>trivial
  | _ :: l=>⟨.inr rfl,zW l⟩
section
variable {Γ:Cx} {P:Program} {σ:St} {ops:Array Oper} {Q:Exit → Act → World → Prop} {W:Nat → Prop} {ro:Option Nat} {o:Oper} {rest:List Oper} {t N:Nat} {tv:TV}
theorem sq (hg:o.guard = none) (ht:o.dst = some t) (hn:Γ.n = N) (hb:Nat.blt t N = true) (hq:QV Γ P σ o R0 tv) (hr:ARun Γ P ops rest (σ.put t true tv) Q):ARun Γ P ops (o :: rest) σ Q :=
  stepQ (yA hg) ht (nb hn hb) (fun _=>hq) hr
theorem sqI (hg:o.guard = none) (ht:o.dst = some t) (hn:Γ.n = N) (hb:Nat.blt t N = true) (hq:QV Γ P σ o R0 tv) (hd:noDef o = true) (hr:ARunI ro Γ P ops rest (σ.put t true tv) Q):ARunI ro Γ P ops (o :: rest) σ Q :=
  stepQI (yA hg) ht (nb hn hb) (fun _=>hq) hd hr
theorem dsl {i:Nat} {listed:Array Bool} (h:(Region.noSelect ops && Region.free .any ops listed i && (Region.ready .any ops listed).contains i) = true):Region.noSelect ops = true ∧ Region.free .any ops listed i = true ∧ (Region.ready .any ops listed).contains i = true:=by
  simp only [Bool.and_eq_true] at h
  exact ⟨h.1.1,h.1.2,h.2⟩
theorem d1q {n i : Nat} {listed : Array Bool} (hi : ops[i]? = some o) (h : (Region.noSelect ops && Region.free .any ops listed i && (Region.ready .any ops listed).contains i) = true) (hQ : ∀ c a w v, Q (.panic c) (a.put o.dst v) w → Q (.panic c) a w)
    (hg:o.guard = none) (ht:o.dst = some t) (hn:Γ.n = N) (hb:Nat.blt t N = true) (hq:QV Γ P σ o (RA W) tv)
    (hr:D1 Γ P ops Q W n (listed.setIfInBounds i true) (σ.put t true tv)):D1 Γ P ops Q W (n + 1) listed σ :=
  d1_take [] hi (dsl h).1 (dsl h).2.1 (dsl h).2.2 hQ (yA hg) ht (nb hn hb) (fun _=>trivial) (fun _=>hq) hr
theorem d1g {n i : Nat} {listed : Array Bool} {c : Bool} (L : List (Nat × TV)) (hi : ops[i]? = some o) (h : (Region.noSelect ops && Region.free .any ops listed i && (Region.ready .any ops listed).contains i) = true) (hQ : ∀ c a w v, Q (.panic c) (a.put o.dst v) w → Q (.panic c) a w)
    (hg:GuardOK Γ ops σ o c) (ht:o.dst = some t) (hn:Γ.n = N) (hb:Nat.blt t N = true) (hL:c = true → Strong σ L) (hq:c = true → QV Γ P (σ.puts L) o (RA W) tv)
    (hr:D1 Γ P ops Q W n (listed.setIfInBounds i true) (σ.put t c tv)):D1 Γ P ops Q W (n + 1) listed σ :=
  d1_take L hi (dsl h).1 (dsl h).2.1 (dsl h).2.2 hQ hg ht (nb hn hb) hL hq hr
theorem d1qI {n i : Nat} {listed : Array Bool} (hi : ops[i]? = some o) (h : (Region.noSelect ops && Region.free .any ops listed i && (Region.ready .any ops listed).contains i) = true) (hnd : ops.toList.all noDef = true) (hQ : ∀ c a w v, Q (.panic c) (a.put o.dst v) w → Q (.panic c) a w)
    (hg:o.guard = none) (ht:o.dst = some t) (hn:Γ.n = N) (hb:Nat.blt t N = true) (hq:QV Γ P σ o (RA W) tv)
    (hr:D1I ro Γ P ops Q W n (listed.setIfInBounds i true) (σ.put t true tv)):D1I ro Γ P ops Q W (n + 1) listed σ :=
  d1_takeI [] hi (dsl h).1 (dsl h).2.1 (dsl h).2.2 hnd hQ (yA hg) ht (nb hn hb) (fun _=>trivial) (fun _=>hq) hr
theorem stepW {S':Type} {f:S' → St} (h:StepW Γ P ops σ o (fun _=>True) f) (hr:∀ x,ARun Γ P ops rest (f x) Q):ARun Γ P ops (o :: rest) σ Q:=step h hr
theorem stepWI {S':Type} {f:S' → St} (h:StepI ro Γ P ops σ o (fun _=>True) f) (hr:∀ x,ARunI ro Γ P ops rest (f x) Q):ARunI ro Γ P ops (o :: rest) σ Q:=stepI h hr
end
section
variable {Γ:Cx} {σ:St}
/-- A resource, told otherwise. -/
theorem gh_req {id:Nat} {r r':Res} (h:σ.rget id = some r) (e:r = r'):Ghost Γ σ (σ.rput id r'):=fun a w F hs=>by
  subst e
  exact ⟨F,hs.rput (hs.rs _ _ h) fun b hb j r2 hne hj e2=>hne (hs.sep j id r2 _ b hj h e2 hb),fun _ _ h=>h⟩
end
/-- The block under a slice: its elements, then what is to spare. -/
def vecRes (e:TypeId) (v:Value) (sz:Nat) (cs:List TV):Res:=match v with
  | .slice (some ⟨b,_,_⟩) n cap=>.box b e (cs ++ List.replicate ((cap - n) * sz) .any)
  | _=>.gone
def VecV (v:Value) (sz:Nat) (cs:List TV):Prop:=(v = .slice none 0 0 ∧ cs = []) ∨ ∃ b n cap,v = .slice (some ⟨b,0,none⟩) n cap ∧ n ≤ cap ∧ cap ≤ maxLen ∧ cs.length = n * sz
theorem VecV.nil (sz:Nat):VecV (.slice none 0 0) sz []:=.inl ⟨rfl,rfl⟩
theorem zAw {F:Nat → Nat → Prop} {w:World}:∀ {vs:List Value},TReps F w (List.replicate vs.length .any) vs
  | []=>rfl
  | v :: vs=>⟨v,vs,rfl,trivial,zAw⟩
section
variable {Γ:Cx} {P:Program} {σ:St} {ops:Array Oper} {o:Oper} {Q:Exit → Act → World → Prop} {W:Nat → Prop}
theorem zBu {x y : Operand} {t e : TypeId} {sz bytes id dt : Nat} {v : Value} {cs : List TV} {fs : List (List D)} (h : o.op = .call { callee := .builtin .append, args := #[x, y], argTypes := #[t, t] })
    (hg:o.guard = none) (hd:o.dst = some dt) (hn:Nat.blt dt Γ.n = true) (hT:ElT P t e sz bytes) {z0:Value} (hz0:(P.info? e).map (·.zero) = some (some z0)) (hz1:z0.cells.toList.all (·.oneCell') = true) (hV:VecV v sz cs) (hx:σ.ev x = some (true,.val v)) (hres:σ.rget id = some (vecRes e v sz cs)) (hy:σ.ev y = some (true,.d (.slice sz fs)))
    (hb:(cs.length + fs.length) * bytes ≤ 140737488355328) (h63:cs.length + fs.length ≤ 9223372036854775807) (hWb:∀ b,v.ownBlock = some b → W b) :
    StepW Γ P ops σ o W fun v':{v' // VecV v' sz (cs ++ fs.flatten.map .d)}=>(σ.put dt true (.val v'.1)).rput id (vecRes e v'.1 sz (cs ++ fs.flatten.map .d)):=fun a w F hs K Q hK=>by
  rw [if_pos (zi hg a)]
  have hx':=hs.ev hx
  simp only [TRep] at hx'
  obtain ⟨i,z,hi,hz,hisz,hibt,hzs⟩:=hT.info
  have hpos:=hT.pos
  obtain ⟨ad,c,hu,hfs⟩:=slice_vals (hs.ev hy)
  have fin : ∀ (v' : Value) (w' : World) (hV' : VecV v' sz (cs ++ fs.flatten.map .d)), (Builtin.append_ #[t, t] o.type #[v, .slice ad fs.length c]).run P w = .ok v' w' → RS Γ (σ.rput id (vecRes e v' sz (cs ++ fs.flatten.map .d))) a w' F → (∃ but, Grow F F w w' but ∧ ∀ b, but = some b → W b) →
      o.wp P a w K Q:=by
    intro v' w' hV' hrun hRS hgr
    have hex:(execOp a.eval o).run P w = .ok (.value v') w':=by
      simp [execOp,h,resolve,invoke,builtin,hx',hu,hrun]
    obtain ⟨but,hg2,hg3⟩:=hgr
    unfold Oper.wp
    rw [hex]
    show K (a.put o.dst _) _
    rw [hd]
    exact hK ⟨v',hV'⟩ _ _ F (hRS.put (zx hn) (fun _=>rfl) (fun h=>by cases h)) (fun _ _ h=>h) hg2.size (hg2.agree hg3)
  by_cases hm:fs = []
  · subst hm
    have hrefl:Grow F F w w none:=⟨rfl,rfl,rfl,Nat.le_refl _,fun _ _ _=>rfl,fun _ _ h=>h,fun _ _ h _ _=>h,hs.fcell,fun _ _ _=>rfl⟩
    have hRS:RS Γ (σ.rput id (vecRes e v sz cs)) a w F:=hs.rput (hs.rs _ _ hres) fun b hb j r' hne hj e2=>hne (hs.sep j id r' _ b hj hres e2 hb)
    refine fin v w (by simpa using hV) ?_ (by simpa using hRS) ⟨none,hrefl,fun _ e=>by cases e⟩
    rcases hV with ⟨rfl,rfl⟩ | ⟨b,n,cap,rfl,h2,h3,h4⟩
    · exact yv hT (by simp) (fun _=>rfl)
    · exact yv hT h2 (by simp)
  obtain ⟨b2,o2,rfl,hr2⟩:=hfs.resolve_left hm
  obtain ⟨ns,hnl,hnr,hn1,hnc⟩:=hr2.vals
  have hnews:∀ j x,ns[j]? = some x → w.cell? ((⟨b2,o2,none⟩:Addr).add j) = some x:=fun j x hx=>by rw [yZ]; exact (hnc j x hx).1
  have hfl:0 < fs.length:=by cases fs with | nil=>exact absurd rfl hm | cons _ _=>simp
  have hflat:(fs.flatten.map TV.d).length = fs.length * sz:=by rw [List.length_map,yj (RepRows.flat.1 hr2).1]
  have hzl:∀ k,(Builtin.zeroCells z.cells k).toList.length = k * sz:=fun k=>by simp [Builtin.zeroCells,hzs]
  -- a new block
  have fresh : ∀ (n cap : Nat) (xs tail : List Value) (hz : n * sz = cs.length), TReps F w cs xs → (∀ x ∈ xs, x.oneCell' = true) → (∀ x ∈ tail, x.oneCell' = true) → n + fs.length ≤ cap → cap ≤ maxLen → tail.length = (cap - (n + fs.length)) * sz →
      VecV (.slice (some ⟨w.heap.size,0,none⟩) (n + fs.length) cap) sz (cs ++ fs.flatten.map .d) ∧ RS Γ (σ.rput id (vecRes e (.slice (some ⟨w.heap.size,0,none⟩) (n + fs.length) cap) sz (cs ++ fs.flatten.map .d))) a (w.drew.alloc (.cells (xs ++ ns ++ tail).toArray e)) F ∧
        ∃ but,Grow F F w (w.drew.alloc (.cells (xs ++ ns ++ tail).toArray e)) but ∧ ∀ b,but = some b → W b:=by
    intro n cap xs tail hlc hx hx1 ht1 hcap hcm hlen
    have hgd:Grow F F w w.drew none:=⟨rfl,rfl,rfl,Nat.le_refl _,fun _ _ _=>rfl,fun _ _ h=>h,fun _ _ h _ _=>h,hs.fcell,fun _ _ _=>rfl⟩
    have hsd:=hs.grow hgd
    have hga:=Grow.alloc (F:=F) hsd.fcell (.cells (xs ++ ns ++ tail).toArray e)
    refine ⟨.inr ⟨_,_,_,rfl,hcap,hcm,by rw [List.length_append,hflat,Nat.add_mul,hlc]⟩,?_,none,⟨rfl,rfl,rfl,by simp,fun k hk _=>Below.heap_alloc w.drew _ k hk,fun _ _ h=>h,fun _ _ h _ _=>h,hga.cell,fun b o hf=>hga.keep b o hf⟩,fun _ e=>by cases e⟩
    have htail:TReps F w.drew (List.replicate ((cap - (n + fs.length)) * sz) .any) tail:=by rw [← hlen]; exact zAw
    have hnd:TReps F w.drew (fs.flatten.map .d) ns:=(hnr.to_d).ext' fun b o hf=>⟨hf,rfl⟩
    have:=hsd.newBox (ty:=e) (vs:=(xs ++ ns ++ tail).toArray) (cs:=(cs ++ fs.flatten.map .d) ++ List.replicate ((cap - (n + fs.length)) * sz) .any) id (by
      have h1:=((hx.ext' fun b o hf=>⟨hf,rfl⟩:TReps F w.drew cs xs).append hnd).append htail
      simpa using h1) (by
      intro u hu
      simp only [List.mem_append] at hu
      rcases hu with (hu | hu) | hu
      · exact hx1 u hu
      · exact hn1 u hu
      · exact ht1 u hu)
    simpa [vecRes] using this
  obtain rfl:z = z0:=by simpa [hi,hz] using hz0
  have hzone:∀ k,∀ u ∈ (Builtin.zeroCells z.cells k).toList,u.oneCell' = true:=fun k u hu=>by
    have e:(Builtin.zeroCells z.cells k).toList = (List.replicate k z.cells.toList).flatten:=by
      rw [← kX hzs hpos k]
      simp [Builtin.zeroCells,hzs]
    rw [e] at hu
    obtain ⟨l,hl,hu⟩:=List.mem_flatten.1 hu
    rw [List.eq_of_mem_replicate hl] at hu
    exact List.all_eq_true.1 hz1 u hu
  rcases hV with ⟨rfl,rfl⟩ | ⟨b,n,cap,rfl,h2,h3,h4⟩
  · have hr:=run_append_nil (P:=P) w t o.type e i z hT.ht hi hz ⟨b2,o2,none⟩ fs.length c ns (by rw [hisz]; exact hnl) hnews hfl (by simp at h63; omega) (by simp at hb; rw [hibt]; omega)
    obtain ⟨k1,k2,k3⟩:=fresh 0 (grownCap w fs.length 0 e) [] (Builtin.zeroCells z.cells (grownCap w fs.length 0 e - fs.length)).toList (by simp) rfl (by simp) (hzone _)
      (by simpa using grownCap_ge w fs.length 0 e) (grownCap_le_maxLen w fs.length 0 e (by simp only [maxLen]; simp at h63; omega)) (by rw [hzl,Nat.zero_add])
    have harr:([] ++ ns ++ (Builtin.zeroCells z.cells (grownCap w fs.length 0 e - fs.length)).toList).toArray = ns.toArray ++ Builtin.zeroCells z.cells (grownCap w fs.length 0 e - fs.length):=by
      apply Array.ext'; simp
    rw [harr] at k2 k3
    simp only [Nat.zero_add] at k1 k2
    exact fin _ _ k1 hr k2 k3
  · have hnle:n ≤ cs.length:=by rw [h4]; exact Nat.le_mul_of_pos_right n hpos
    have hres':σ.rget id = some (.box b e (cs ++ List.replicate ((cap - n) * sz) .any)):=hres
    obtain ⟨hown,hF,vs,hh,hvs,hone⟩:=hs.rs id _ hres'
    obtain ⟨xs,ys,rfl,hxs,hys⟩:=hvs.puts
    have hxl:=hxs.length
    have hyl:ys.length = (cap - n) * sz:=by have:=hys.length; simpa using this
    have hxn:xs.length = n * i.size:=by rw [hisz,← h4,hxl]
    have hvsz:(xs ++ ys).toArray.size = cap * sz:=by
      have:n * sz + (cap - n) * sz = cap * sz:=by rw [← Nat.add_mul]; congr 1; omega
      simp only [List.size_toArray,List.length_append,hyl]
      rw [hxn,hisz]; omega
    have hx1:∀ x ∈ xs,x.oneCell' = true:=fun x hx=>hone x (by simp [hx])
    by_cases hroom:n + fs.length ≤ cap
    · have hfit:n * i.size + ns.length ≤ (xs ++ ys).toArray.size:=by rw [hvsz,hnl,hisz,← Nat.add_mul]; exact Nat.mul_le_mul_right _ hroom
      have hr:=run_append_room (P:=P) w t o.type e i hT.ht hi b n cap (xs ++ ys).toArray hh ⟨b2,o2,none⟩ fs.length c ns (by rw [hisz]; exact hnl) hnews hn1 hroom hfit
      have htake:(xs ++ ys).toArray.toList.take (n * i.size) = xs:=by simp [← hxn]
      have hdrop:(xs ++ ys).toArray.toList.drop (n * i.size + ns.length) = ys.drop ns.length:=by
        rw [← hxn]; simp [List.drop_append]
      rw [htake,hdrop] at hr
      have hgr:Grow F F w (w.setRow b (xs ++ ns ++ ys.drop ns.length).toArray) (some b):=Grow.setRow hs.fcell hh (fun o ho=>absurd ho (hF o))
      have hext:Ext F F w (w.setRow b (xs ++ ns ++ ys.drop ns.length).toArray):=fun c o hf=>⟨hf,hgr.keep c o hf⟩
      have hrow:=yw w b (xs ++ ys).toArray (xs ++ ns ++ ys.drop ns.length).toArray e hh
      have hdl:(ys.drop ns.length).length = (cap - (n + fs.length)) * sz:=by
        rw [List.length_drop,hyl,hnl,← Nat.sub_mul]
        congr 1; omega
      refine fin _ _ (.inr ⟨b,n + fs.length,cap,rfl,hroom,h3,by rw [List.length_append,hflat,Nat.add_mul,h4]⟩) hr ?_ ⟨some b,hgr,fun c e=>by cases e; exact hWb b rfl⟩
      refine hs.write hres' rfl (fun _ e=>e.symm) hown hgr ⟨hown,hF,_,hrow,?_,fun u hu=>?_⟩
      · rw [← hdl]
        exact (((hxs.ext' hext).append ((hnr.to_d).ext' hext)).append zAw)
      · simp only [List.mem_append] at hu
        rcases hu with (hu | hu) | hu
        · exact hx1 u hu
        · exact hn1 u hu
        · exact hone u (by simp [List.mem_of_mem_drop hu])
    · have holds : ∀ j x, xs[j]? = some x → w.cell? ((⟨b, 0, none⟩ : Addr).add j) = some x := fun j x hx => by
        rw [yZ,Nat.zero_add]
        have hj:=(List.getElem?_eq_some_iff.1 hx).1
        simp [World.cell?,hh,List.getElem?_append_left hj,hx]
      have hr:=run_append_grow (P:=P) w t o.type e i z hT.ht hi hz ⟨b,0,none⟩ n cap xs hxn holds ⟨b2,o2,none⟩ fs.length c ns (by rw [hisz]; exact hnl) hnews (by omega) (by omega)
        (growslice_fits (by omega) (by rw [hibt]; exact Nat.le_trans (Nat.mul_le_mul_right _ (by omega)) hb))
      obtain ⟨k1,k2,k3⟩:=fresh n (grownCap w (n + fs.length) cap e) xs (Builtin.zeroCells z.cells (grownCap w (n + fs.length) cap e - (n + fs.length))).toList h4.symm hxs hx1 (hzone _)
        (grownCap_ge w _ cap e) (grownCap_le_maxLen w _ cap e (by simp only [maxLen]; omega)) (hzl _)
      have harr:(xs ++ ns ++ (Builtin.zeroCells z.cells (grownCap w (n + fs.length) cap e - (n + fs.length))).toList).toArray = xs.toArray ++ ns.toArray ++ Builtin.zeroCells z.cells (grownCap w (n + fs.length) cap e - (n + fs.length)):=by
        apply Array.ext'; simp
      rw [harr] at k2 k3
      exact fin _ _ k1 hr k2 k3
/-- Some cells at the head of a box are frozen; the rest is let go. -/
theorem RS.freezeK {a : Act} {w : World} {F : Nat → Nat → Prop} (hs : RS Γ σ a w F) {id b : Nat} {bt : TypeId} {ds : List D} {rest : List TV} (hb : σ.rget id = some (.box b bt (ds.map .d ++ rest))) :
    ∃ F',RS Γ (σ.rput id .gone) a w F' ∧ (∀ c o,F c o → F' c o) ∧ RepCells F' w ds b 0:=by
  obtain ⟨hown,hF,vs,hh,hvs,hone⟩:=hs.rs id _ hb
  obtain ⟨xs,ys,rfl,hxs,hys⟩:=hvs.puts
  let F':Nat → Nat → Prop:=fun c o=>F c o ∨ (c = b ∧ o < xs.length)
  have hcell:∀ j v,xs[j]? = some v → w.cell? ⟨b,j,none⟩ = some v:=fun j v hv=>(yk hh).trans (by rw [List.getElem?_append_left (List.getElem?_eq_some_iff.1 hv).1]; exact hv)
  have hext:Ext F F' w w:=fun c o hf=>⟨.inl hf,rfl⟩
  have hg:Grow F F' w w (some b):={
    os:=rfl
    tape:=rfl
    output:=rfl
    size:=Nat.le_refl _
    block:=fun _ _ _=>rfl
    ext:=fun _ _ h=>.inl h
    new:=fun c o hf _ hne=>hf.resolve_right (fun e=>hne (by rw [e.1]))
    cell:=fun c o hf=>by
      rcases hf with hf | ⟨rfl,hlt⟩
      · exact hs.fcell c o hf
      · exact ⟨xs[o],hcell o _ (List.getElem?_eq_getElem hlt)⟩
    keep:=fun _ _ _=>rfl }
  refine ⟨F',{
    hs with
    fcell:=hg.cell
    glob:=hs.glob
    f0:=fun c o hf=>.inl (hs.f0 c o hf)
    fnew:=fun c o hf hc hl=>by
      rcases hf with hf | ⟨rfl,_⟩
      · exact hs.fnew c o hf hc hl
      · exact absurd hc (by have:=hown.resolve_right hl; omega)
    tm:=fun t c tv hget=>⟨fun hc=>((hs.tm t c tv hget).1 hc).ext' hext,(hs.tm t c tv hget).2⟩
    rs:=fun j r1 hget=>by
      rw [zn] at hget
      split at hget
      · cases hget; trivial
      · rename_i hne
        exact (hs.rs j r1 hget).grow hg (fun c hc e=>hne (hs.sep id j _ r1 b hb hget rfl (by cases e; exact hc)))
    sep:=fun j j' r1 r2 c h1 h2 e1 e2=>by
      rw [zn] at h1 h2
      split at h1
      · cases h1; exact e1.elim
      · split at h2
        · cases h2; exact e2.elim
        · exact hs.sep j j' r1 r2 c h1 h2 e1 e2 },fun _ _ h=>.inl h,RepCells.of_vals (hxs.of_d.ext' hext) (fun u hu=>hone u (by simp [hu])) fun j v hj=>?_⟩
  rw [Nat.zero_add]
  exact ⟨hcell j v hj,.inr ⟨rfl,(List.getElem?_eq_some_iff.1 hj).1⟩⟩
/-- A slice over the head of a box is read as data. -/
theorem g_freezeVK {t b n sz cap : Nat} (id : Nat) {bt : TypeId} {cs rest : List TV} {ds : List D} {es : List (List D)} (ht : σ.get t = some (true, .val (.slice (some ⟨b, 0, none⟩) n cap))) (hb : σ.rget id = some (.box b bt cs))
    (hcs:cs = ds.map .d ++ rest) (hl:ds.length = n * sz) (he:chunk sz n ds = es) (hcap:n ≤ cap) (hcm:cap ≤ maxLen):Ghost Γ σ ((σ.put t true (.d (.slice sz es))).rput id .gone):=fun a w F hs=>by
  subst hcs
  obtain ⟨F',h1,h2,h3⟩:=hs.freezeK hb
  obtain ⟨k1,k2,k3⟩:=y6 sz n ds hl
  rw [he] at k1 k2 k3
  refine ⟨F',?_,h2⟩
  exact h1.slot (t:=t) (tv:=.val (.slice (some ⟨b,0,none⟩) n cap)) ht fun v hv=>by
    simp only [TRep] at hv
    subst hv
    exact ⟨_,cap,by rw [k2],by rw [k2]; exact hcap,hcm,.inr ⟨b,0,rfl,RepRows.flat.2 ⟨k3,by rw [k1]; exact h3⟩⟩⟩
end
section
variable {Γ:Cx} {P:Program} {σ:St} {ops:Array Oper} {o:Oper} {W:Nat → Prop}
theorem eql_nil_run (w:World) (t e:TypeId) (a:Option Addr) (n c:Nat) (h:P.underlying t = some (.slice e)):(binOp .eql t (.slice a n c) (.slice none 0 0)).run P w = .ok (.bool a.isNone) w:=by
  have k:∀ d,(Op.equalIn (d + 1) t (.slice a n c) (.slice none 0 0)).run P w = .ok a.isNone w:=fun d=>by
    cases a <;> simp [Op.equalIn,run_underlying h]
  simp only [binOp]
  simp [Op.equal,Op.maxDepth,k 9999]
/-- Whether a slice is nil: if so, it is empty. -/
theorem s_eqlNil {x : Operand} {t t' e : TypeId} {sz dt : Nat} {es : List (List D)} (h : o.op = .binOp .eql t x (.const (.slice none 0 0)) t') (hg : o.guard = none) (hd : o.dst = some dt) (hn : Nat.blt dt Γ.n = true)
    (ht:P.underlying t = some (.slice e)) (hx:σ.ev x = some (true,.d (.slice sz es))) :
    StepW Γ P ops σ o W fun r:{r:Bool // r = true → es = []}=>σ.put dt true (.d (.bool r.1)):=fun a w F hs K Q hK=>by
  rw [if_pos (zi hg a)]
  obtain ⟨ad,c,hv,hr⟩:=slice_vals (hs.ev hx)
  have hrun:(execOp a.eval o).run P w = .ok (.value (.bool ad.isNone)) w:=by
    have hc:a.eval (.const (.slice none 0 0)) = .slice none 0 0:=rfl
    simp only [execOp,h,hv,hc,Sem.run_bind,eqGuard_at_slice,Sem.run_pure,Result.andThen_ok,eql_nil_run w t e ad es.length c ht]
  unfold Oper.wp
  rw [hrun]
  show K (a.put o.dst _) w
  rw [hd]
  exact hK ⟨ad.isNone,fun hb=>by
    rcases hr with hr | ⟨b,off,e2,_⟩
    · exact hr
    · subst e2; simp at hb⟩ _ _ F (hs.put (zx hn) (fun _=>rfl) (fun h=>by cases h)) (fun _ _ h=>h) (Nat.le_refl _) (Agree.refl _ _ _)
end
section
variable {Γ:Cx} {P:Program} {σ:St} {ops:Array Oper} {o:Oper} {W:Nat → Prop}
end
section
variable {Γ:Cx} {P:Program} {σ:St} {o:Oper} {R:Rel}
end
section
variable {Γ:Cx} {P:Program} {σ:St} {o:Oper} {R:Rel}
theorem q_neqB {x y:Operand} {t t':TypeId} {a b:Bool} (h:o.op = .binOp .neq t x y t') (hx:σ.ev x = some (true,.d (.bool a))) (hy:σ.ev y = some (true,.d (.bool b))) (ht:P.underlying t = some .bool):QV Γ P σ o R (.d (.bool (a != b))):=fun A w F hs=>by
  have h1:=hs.ev hx
  have h2:=hs.ev hy
  simp only [TRep,Rep] at h1 h2
  exact ⟨.bool (a != b),rfl,fun w' _=>by simp [execOp,h,h1,h2,run_neq_bool _ t a b ht,bne,eqGuard_at_bool]⟩
theorem q_eqlB {x y:Operand} {t t':TypeId} {a b:Bool} (h:o.op = .binOp .eql t x y t') (hx:σ.ev x = some (true,.d (.bool a))) (hy:σ.ev y = some (true,.d (.bool b))) (ht:P.underlying t = some .bool):QV Γ P σ o R (.d (.bool (a == b))):=fun A w F hs=>by
  have h1:=hs.ev hx
  have h2:=hs.ev hy
  simp only [TRep,Rep] at h1 h2
  exact ⟨.bool (a == b),rfl,fun w' _=>by simp [execOp,h,h1,h2,run_eql_bool _ t a b ht,eqGuard_at_bool]⟩
end
section
variable {Γ:Cx} {P:Program} {σ:St} {ops:Array Oper} {o:Oper} {Q:Exit → Act → World → Prop} {W:Nat → Prop}
theorem s_buildVec {t e : TypeId} {len sz dt : Nat} {parts : Array (Nat × Operand)} {z : Value} {zc : Array Value} {zs cs : List TV} {ps : List (Nat × TV)} (id : Nat) (h : o.op = .buildSlice t len parts)
    (hg:o.guard = none) (hd:o.dst = some dt) (hn:Nat.blt dt Γ.n = true) (ht:P.underlying t = some (.slice e)) (hsz:Sz P e sz) (hzero:(P.info? e).map (·.zero) = some (some z))
    (hsmall:Nat.ble (len * sz) 16777216 = true) (hzc:((Array.range (len * sz)).map ((if len * sz = 0 then #[] else z.cells)[· % (if len * sz = 0 then #[] else z.cells).size]!)) = zc)
    (hz:zc.toList.map constTV = zs) (h1:zc.toList.all (·.oneCell') = true) (hp:pevs σ parts.toList = some ps) (hf:fillTV (fun i=>some (i * sz,sz)) zs ps = some cs) :
    StepW Γ P ops σ o W fun b:Nat=>(σ.put dt true (.val (.slice (some ⟨b,0,none⟩) len len))).rput id (.box b e cs):=fun a w F hs K Q hK=>by
  rw [if_pos (zi hg a)]
  have h24:(2:Nat) ^ 24 = 16777216:=by decide
  have hsm:=Nat.le_of_ble_eq_true hsmall
  obtain ⟨k1,k2⟩:=hs.pevs hp
  obtain ⟨vs',g1,g2,g3⟩:=zAO (w:=w) (F:=F) (place:=fun i=>some (i * sz,sz)) (vs:=zc) k1 k2 (by rw [← hz]; exact yV _) (List.all_eq_true.1 h1) hf
  have hrun:=yp (parts:=parts.map fun (i,x)=>(i,a.eval x)) (cells:=vs') w ht hsz hzero (by rw [h24]; exact hsm) hzc (by rw [← g1]; simp)
  have hex:(execOp a.eval o).run P w = .ok (.value (.slice (some ⟨w.heap.size,0,none⟩) len len)) (w.alloc (.cells vs' e)):=by
    simp only [execOp,h,Sem.run_bind,hrun,Result.andThen_ok,Sem.run_pure]
  unfold Oper.wp
  rw [hex]
  show K (a.put o.dst _) _
  rw [hd]
  exact hK w.heap.size _ _ F ((hs.newBox (ty:=e) id g2 g3).put (zx hn) (fun _=>rfl) (fun h=>by cases h)) (fun _ _ h=>h) (by simp) ((Grow.alloc hs.fcell _).agree (fun _ e=>by cases e))
end
section
variable {Γ:Cx} {P:Program} {σ:St} {fn:Func}
end
end Go.Proofs.YticlpkgpmmhemaaGreatDoor
