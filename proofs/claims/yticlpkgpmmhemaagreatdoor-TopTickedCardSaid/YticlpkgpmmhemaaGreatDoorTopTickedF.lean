/-
  A part of the proof that contangolaw.TopTicked returns true: what the last text needs, and no more. No condition: no statement of the seat is proved here.
-/
import Derived.Carry
import Derived.ProofKit
import Derived.OpenShut
import Derived.Deep.Slices
import Derived.JoinedOf
import Derived.JoinedAt
import Derived.SizedLaws
import Derived.Test.YticlpkgpmmhemaaGreatDoorTopTickedE
namespace Go.Proofs.YticlpkgpmmhemaaGreatDoor
open Go.ChangeShapes Go.WideShapes Go.ChangeAt Go.RowKit
set_option linter.all false
/-- All cells that there are. -/
def live (w:World) (b o:Nat):Prop:=∃ v,w.cell? ⟨b,o,none⟩ = some v
/-- Cells of a type are read as plain data of a form. -/
def Opens (P:Program) (t:TypeId) (S:List D → Prop):Prop :=
  ∀ {H:Type} (enc:TypeId × Value → H) (w:World) (base:Nat) (spare:Nat → Bool) (held:Bool) (fuel:Nat) (cs:List Value) (x:DataW H × List MemPlace),
    DataW.trod enc P w base spare held fuel t cs = some x → (x.1.weights P t).all (· ≤ reachBytes) = true → ∃ ds,S ds ∧ RepVals (live w) w ds cs ∧ ∀ v ∈ cs,v.oneCell' = true
theorem zAj {P:Program} {t:TypeId} {k:IntKind} (ht:P.underlying t = some (.int k)):Opens P t fun ds=>∃ n,ds = [.int k n] ∧ (Lit.int k n).wf = true:=by
  intro H enc w base spare held fuel cs x h hz
  obtain ⟨n,rfl,_,hw⟩:=DataW.trod_int ht h
  exact ⟨_,⟨n,rfl,hw⟩,⟨_,_,rfl,rfl,rfl⟩,fun v hv=>by simp at hv; subst hv; rfl⟩
theorem zCB {w:World} {a:Addr} {v:Value} (h:w.cell? a = some v):a = ⟨a.block,a.off,none⟩:=by
  obtain ⟨b,o,s⟩:=a
  cases s with
  | none=>rfl
  | some q =>
    simp only [World.cell?] at h
    split at h
    · simp at h
    · cases h
theorem cells_rep {w:World} {base:Nat} {a:Addr} {n b o:Nat} {cs:List Value} {ds:List D} (ha:a = ⟨b,o,none⟩) (h:w.cells? base a n = some cs) (hr:RepVals (live w) w ds cs) (h1:∀ v ∈ cs,v.oneCell' = true):RepCells (live w) w ds b o:=by
  obtain ⟨_,hlen,hc⟩:=World.cells?_some h
  refine RepCells.of_vals hr h1 fun j v hj=>?_
  have hjl:=(List.getElem?_eq_some_iff.1 hj).1
  have:=hc j (by omega)
  rw [hj,ha] at this
  have e:(⟨b,o,none⟩:Addr).add j = ⟨b,o + j,none⟩:=by
    unfold Addr.add
    split
    · subst_vars; rfl
    · rfl
  rw [e] at this
  exact ⟨this,v,this⟩
theorem zC6 {w:World} {sz b:Nat}:∀ {n o:Nat} {F:Nat → List D},(∀ i,i < n → (F i).length = sz ∧ RepCells (live w) w (F i) b (o + i * sz)) → RepRows (live w) w ((List.range n).map F) b o sz
  | 0,_,_,_=>trivial
  | n + 1,o,F,h=>by
    rw [List.range_succ_eq_map,List.map_cons,List.map_map]
    refine ⟨(h 0 (by omega)).1,by have:=(h 0 (by omega)).2; simpa using this,?_⟩
    exact zC6 (F:=F ∘ Nat.succ) fun i hi=>⟨(h (i + 1) (by omega)).1,by
      have:=(h (i + 1) (by omega)).2
      rw [show o + sz + i * sz = o + (i + 1) * sz by rw [Nat.succ_mul]; omega]
      exact this⟩
theorem kh {H:Type} {P:Program} {e:TypeId} {p:Nat → Bool} {d:DataW H}:∀ {l:List (DataW H)},(DataW.weightsAll P e l).all p = true → d ∈ l → (d.weights P e).all p = true
  | x :: l,h,hd=>by
    simp only [DataW.weightsAll,List.all_append,Bool.and_eq_true] at h
    rcases List.mem_cons.1 hd with rfl | hd
    · exact h.1
    · exact kh h.2 hd
theorem kW {P : Program} {t e : TypeId} {sz : Nat} {S : List D → Prop} (ht : P.underlying t = some (.slice e)) (hc : P.cellsOf e = sz) (hsz : 0 < sz) (hS : ∀ ds, S ds → ds.length = sz) (he : Opens P e S) :
    Opens P t fun ds=>∃ es:List (List D),ds = [.slice sz es] ∧ es.length * P.bytesOf e ≤ reachBytes ∧ ∀ c ∈ es,S c:=by
  intro H enc w base spare held fuel cs x h hz
  rcases Go.Deep.open_slice ht h with ⟨rfl,_⟩ | ⟨a,len,cap,m,n,Dt,Pl,rfl,hb,hl,hm,hmm,hx,hi⟩
  · exact ⟨_,⟨[],rfl,by simp,fun c hc=>by cases hc⟩,⟨_,_,rfl,⟨none,0,rfl,Nat.le_refl _,Nat.zero_le _,.inl rfl⟩,rfl⟩,fun v hv=>by simp at hv; subst hv; rfl⟩
  · have hlm:len ≤ m:=by rw [hmm]; split <;> omega
    rw [hc] at hi
    rw [hx] at hz
    simp only [DataW.weights,ht,List.all_cons,List.all_append,Bool.and_eq_true,decide_eq_true_eq] at hz
    obtain ⟨hz1,hz2,hz3⟩:=hz
    have hzl:len * P.bytesOf e ≤ reachBytes:=Nat.le_trans (Nat.mul_le_mul_right _ (by simp)) hz1
    have key:∀ i,∃ ds,i < len → S ds ∧ RepCells (live w) w ds a.block (a.off + i * sz) ∧ ∃ v,w.cell? (a.add (i * sz)) = some v:=fun i=>by
      by_cases hlt:i < len
      · obtain ⟨cs',h1,h2⟩:=hi i (by omega)
        obtain ⟨ds,k1,k2,k3⟩:=he enc w base spare held n cs' _ h2 (kh hz2 (List.mem_map.2 ⟨i,List.mem_range.2 hlt,rfl⟩))
        obtain ⟨_,hlen,hcell⟩:=World.cells?_some h1
        obtain ⟨v,hv⟩:∃ v,w.cell? (a.add (i * sz)) = some v:=by
          have:=hcell 0 hsz
          rw [show (a.add (i * sz)).add 0 = a.add (i * sz) from rfl,List.getElem?_eq_getElem (by omega)] at this
          exact ⟨_,this⟩
        have hn:=zCB hv
        have e1:(a.add (i * sz)).block = a.block:=by unfold Addr.add; split <;> rfl
        have e2:(a.add (i * sz)).off = a.off + i * sz:=by
          unfold Addr.add
          split
          · rename_i hz
            rw [hz]
            rfl
          · rfl
        rw [e1,e2] at hn
        exact ⟨ds,fun _=>⟨k1,cells_rep hn h1 k2 k3,v,hv⟩⟩
      · exact ⟨[],fun h=>absurd h hlt⟩
    let F:Nat → List D:=fun i=>Classical.choose (key i)
    have hF:∀ i,i < len → S (F i) ∧ RepCells (live w) w (F i) a.block (a.off + i * sz) ∧ ∃ v,w.cell? (a.add (i * sz)) = some v:=fun i=>Classical.choose_spec (key i)
    refine ⟨_,⟨(List.range len).map F,rfl,by simpa using hzl,fun c hc=>?_⟩,⟨_,_,rfl,⟨some a,cap,by simp,by simpa using hl,hm,?_⟩,rfl⟩,fun v hv=>by simp at hv; subst hv; rfl⟩
    · obtain ⟨i,hi,rfl⟩:=List.mem_map.1 hc
      exact (hF i (by simpa using hi)).1
    · by_cases h0:len = 0
      · subst h0; exact .inl rfl
      · obtain ⟨_,_,v,hv⟩:=hF 0 (by omega)
        rw [show a.add (0 * sz) = a by rw [Nat.zero_mul]; rfl] at hv
        refine .inr ⟨a.block,a.off,by rw [← zCB hv],zC6 fun i hi=>⟨hS _ (hF i hi).1,(hF i hi).2.1⟩⟩
/-- Lists of data, one behind the other. -/
def Parts:List (List D → Prop) → List D → Prop
  | [],ds=>ds = []
  | S :: Ss,ds=>∃ a b,ds = a ++ b ∧ S a ∧ Parts Ss b
def FieldsOpen (P:Program):Nat → List Field → List (List D → Prop) → Prop
  | _,[],[]=>True
  | o,f :: fs,S :: Ss=>f.offset = o ∧ Opens P f.type S ∧ FieldsOpen P (o + P.cellsOf f.type) fs Ss
  | _,_,_=>False
def offEnd (P:Program):Nat → List Field → Nat
  | o,[]=>o
  | o,f :: fs=>offEnd P (o + P.cellsOf f.type) fs
theorem zB8 {H : Type} {enc : TypeId × Value → H} {P : Program} {w : World} {base : Nat} {spare : Nat → Bool} {held : Bool} {n : Nat} {cs : List Value} : ∀ {fs : List Field} {Ss : List (List D → Prop)} {o : Nat}, FieldsOpen P o fs Ss → cs.length = offEnd P o fs →
    (∀ f ∈ fs,∃ y,DataW.trod enc P w base spare held n f.type ((cs.drop f.offset).take (P.cellsOf f.type)) = some y ∧ (y.1.weights P f.type).all (· ≤ reachBytes) = true) → ∃ ds,Parts Ss ds ∧ RepVals (live w) w ds (cs.drop o) ∧ ∀ v ∈ cs.drop o,v.oneCell' = true
  | [],[],o,_,hl,_=>⟨[],rfl,by simp only [offEnd] at hl; rw [List.drop_of_length_le (by omega)]; rfl,fun v hv=>by simp only [offEnd] at hl; rw [List.drop_of_length_le (by omega)] at hv; cases hv⟩
  | [],_ :: _,_,h,_,_=>h.elim
  | _ :: _,[],_,h,_,_=>h.elim
  | f :: fs,S :: Ss,o,⟨ho,hS,hF⟩,hl,hy=>by
    obtain ⟨y,hy1,hyz⟩:=hy f List.mem_cons_self
    rw [ho] at hy1
    obtain ⟨a,ka,kb,kc⟩:=hS enc w base spare held n _ _ hy1 hyz
    obtain ⟨b,q1,q2,q3⟩:=zB8 (enc:=enc) (w:=w) (base:=base) (spare:=spare) (held:=held) (n:=n) hF hl fun g hg=>hy g (List.mem_cons_of_mem _ hg)
    have e:cs.drop o = (cs.drop o).take (P.cellsOf f.type) ++ cs.drop (o + P.cellsOf f.type):=by
      rw [← List.drop_drop,List.take_append_drop]
    refine ⟨a ++ b,⟨a,b,rfl,ka,q1⟩,by rw [e]; exact kb.append q2,fun v hv=>?_⟩
    rw [e] at hv
    rcases List.mem_append.1 hv with hv | hv
    · exact kc v hv
    · exact q3 v hv
theorem yQ {P:Program} {t:TypeId} {fs:Array Field} {Ss:List (List D → Prop)} (ht:P.underlying t = some (.struct fs)) (hF:FieldsOpen P 0 fs.toList Ss) (hc:P.cellsOf t = offEnd P 0 fs.toList):Opens P t (Parts Ss):=by
  intro H enc w base spare held fuel cs x h hz
  obtain ⟨xs,n,_,hx,hl,hxs,hf⟩:=DataW.trod_struct ht h
  rw [hx] at hz
  simp only [DataW.weights,ht] at hz
  have:=zB8 (enc:=enc) (w:=w) (base:=base) (spare:=spare) (held:=held) (n:=n) (cs:=cs) hF (by rw [hl,hc]) fun f hfm=>by
    obtain ⟨i,hi⟩:=List.getElem?_of_mem hfm
    have hi':fs[i]? = some f:=by simpa using hi
    have hlt:=(Array.getElem?_eq_some_iff.1 hi').1
    refine ⟨xs[i]'(by omega),by rw [hf i f hi',List.getElem?_eq_getElem],List.all_eq_true.2 fun q hq=>List.all_eq_true.1 hz q (DataW.weights_mem_each (j:=i) (t:=f.type) (d:=(xs[i]'(by omega)).1) (by rw [List.getElem?_map,hi]; rfl) (by rw [List.getElem?_map,List.getElem?_eq_getElem (by omega)]; rfl) q hq)⟩
  simpa using this
/-- A parameter of a type is read as plain data of a form. -/
def OpensP (P:Program) (t:TypeId) (S:D → Prop):Prop :=
  ∀ {H:Type} (enc:TypeId × Value → H) (w:World) (r:Reach) (b0 base:Nat) (spare:Nat → Bool) (held:Bool) (v:Value) (d:DataW H) (p:List MemPlace),
    Value.okWide P w r b0 t v → DataW.Trod enc P w base spare held t v d p → (d.weights P t).all (· ≤ reachBytes) = true → ∃ x,S x ∧ Rep (live w) w x v
theorem k8 {P:Program} {t:TypeId} {fs:Array Field} {S:List D → Prop} (ht:P.underlying t = some (.struct fs)) (h:Opens P t S):OpensP P t fun d=>∃ ds,d = .agg ds ∧ S ds:=by
  intro H enc w r b0 base spare held v d p hv ⟨fuel,hr⟩ hz
  obtain ⟨cs,rfl,_⟩:=okWide_struct ht hv
  obtain ⟨ds,k1,k2,k3⟩:=h enc w base spare held fuel _ _ hr hz
  exact ⟨_,⟨ds,rfl,k1⟩,cs.toList,rfl,k2,k3⟩
theorem zBd {P:Program} {t:TypeId} {S:List D → Prop} {S':D → Prop} (hone:∀ {w:World} {r:Reach} {b0:Nat} {v:Value},Value.okWide P w r b0 t v → v.cells = #[v]) (h:Opens P t S) (hS:∀ ds,S ds → ∃ x,ds = [x] ∧ S' x):OpensP P t S':=by
  intro H enc w r b0 base spare held v d p hv ⟨fuel,hr⟩ hz
  rw [hone hv] at hr
  obtain ⟨ds,k1,k2,k3⟩:=h enc w base spare held fuel _ _ hr hz
  obtain ⟨x,rfl,hx⟩:=hS ds k1
  obtain ⟨u,us,e,hu,_⟩:=k2
  simp at e
  exact ⟨x,hx,by rw [e.1]; exact hu⟩
def Sat:List (D → Prop) → List D → Prop
  | [],ds=>ds = []
  | S :: Ss,ds=>∃ d ds',ds = d :: ds' ∧ S d ∧ Sat Ss ds'
def OpensAll (P:Program):List TypeId → List (D → Prop) → Prop
  | [],[]=>True
  | t :: ts,S :: Ss=>OpensP P t S ∧ OpensAll P ts Ss
  | _,_=>False
theorem zCC {H : Type} {enc : TypeId × Value → H} {P : Program} {w : World} {b0 base : Nat} {spare : Nat → Bool} {held : Bool} : ∀ {ts : List TypeId} {Ss : List (D → Prop)} {vs : List Value} {ds : List (DataW H)} {p : List MemPlace}, OpensAll P ts Ss → DataW.TrodAll enc P w base spare held ts vs ds p →
    (∀ (j:Nat) t v,ts[j]? = some t → vs[j]? = some v → Value.okWide P w .any b0 t v) → (DataW.weightsEach P ts ds).all (· ≤ reachBytes) = true → ∃ xs,Sat Ss xs ∧ RepVals (live w) w xs vs
  | [],[],_,_,_,_,h,_,_=>by
    obtain ⟨rfl,_,_⟩:=trodAll_nil h
    exact ⟨[],rfl,rfl⟩
  | [],_ :: _,_,_,_,h,_,_,_=>h.elim
  | _ :: _,[],_,_,_,h,_,_,_=>h.elim
  | t :: ts,S :: Ss,_,_,_,⟨h1,h2⟩,h,hv,hz=>by
    obtain ⟨v,vs,d,ds,p,q,rfl,rfl,rfl,k1,k2⟩:=trodAll_cons h
    simp only [DataW.weightsEach,List.all_append,Bool.and_eq_true] at hz
    obtain ⟨x,s1,s2⟩:=h1 enc w .any b0 base spare held v d p (hv 0 t v rfl rfl) k1 hz.1
    obtain ⟨xs,s3,s4⟩:=zCC (b0:=b0) h2 k2 (fun j t v hj hv'=>hv (j + 1) t v (by simpa using hj) (by simpa using hv')) hz.2
    exact ⟨x :: xs,⟨x,xs,rfl,s1,s3⟩,v,vs,rfl,s2,s4⟩
theorem kx {H : Type} {enc : TypeId × Value → H} {P : Program} (hl : laidOutB P = true) {W W' : World} (hb : Below W.heap.size W W') : ∀ {ts : List TypeId} {vs : List Value} {ds : List (DataW H)} {p : List MemPlace}, (ts.all fun t => P.readableRec t && decide (t < P.types.size)) = true → (∀ x ∈ p, x.block < W.heap.size) →
    DataW.TrodAll enc P W 0 (fun _=>true) true ts vs ds p → DataW.TrodAll enc P W' 0 (fun b=>decide (b < W.heap.size)) true ts vs ds p
  | [],_,_,_,_,_,h=>by
    obtain ⟨rfl,rfl,rfl⟩:=trodAll_nil h
    exact trodAll_mk0
  | t :: ts,_,_,_,ht,hp,h=>by
    obtain ⟨v,vs,d,ds,p,q,rfl,rfl,rfl,k1,k2⟩:=trodAll_cons h
    simp only [List.all_cons,Bool.and_eq_true,decide_eq_true_eq] at ht
    exact ⟨p,q,Below.trod hl ht.1.1 ht.1.2 k1 hb fun x hx=>hp x (List.mem_append_left _ hx),kx hl hb (by simpa using ht.2) (fun x hx=>hp x (List.mem_append_right _ hx)) k2,rfl⟩
theorem zAz {H:Type} {enc:TypeId × Value → H} {P:Program} {w:World} {base:Nat} {spare:Nat → Bool} {held:Bool}:∀ {ts:List TypeId} {vs:List Value} {ds:List (DataW H)} {p:List MemPlace},DataW.TrodAll enc P w base spare held ts vs ds p → ds.length = ts.length
  | [],_,_,_,h=>by
    obtain ⟨_,rfl,_⟩:=trodAll_nil h
    rfl
  | t :: ts,_,_,_,h=>by
    obtain ⟨v,vs,d,ds,p,q,rfl,rfl,rfl,k1,k2⟩:=trodAll_cons h
    simp [zAz k2]
/-- What a law's row asks of one call, out of a contract. -/
theorem law_contract {H : Type} {enc : TypeId × Value → H} {P : Program} {f : FuncId} {fn : Func} {s : ChangeSpec} {apart : Bool} {tb : TypeId} {ts : List TypeId} {Ss : List (D → Prop)} (hl : laidOutB P = true) (hts : fn.params.toList = ts) (hrr : (ts.all fun t => P.readableRec t && decide (t < P.types.size)) = true)
    (hres:fn.resultTypes = #[tb]) (htb:P.underlying tb = some .bool) (hvars:s.vars = []) (hvt:s.plain.varTypes P = [])
    (hs:∀ ds:List (DataW H),ds.length = ts.length → s.fn H ds = { results:=[.lit (.bool true)],args:=ds })
    (ho:OpensAll P ts Ss) (hp:∀ xs,Sat Ss xs → PureAt P f xs (.bool true)) :
    ∀ (W:World) (base:Nat) (args:Array Value) (ds gs:List (DataW H)) (before:List MemPlace),
      (∀ (j:Nat) t v,fn.params[j]? = some t → args[j]? = some v → Value.okWide P W .any base t v) →
      DataW.Whole enc P fn.params.toList s.vars apart W args.toList ds gs before →
      (DataW.weightsEach P (fn.params.toList ++ s.plain.varTypes P) (ds ++ gs)).all (· ≤ reachBytes) = true → GOK W (fun _=>False) →
      Calls P f args W fun e W'=>∃ v,e = .returned v ∧ s.post enc P fn apart true false false W args v W':=by
  intro W base args ds gs before hval hW hz hG
  have hW':=hW
  have hlt:=hW.lt
  obtain ⟨p,q,hA0,hV,rfl,_,_⟩:=hW
  rw [hvars] at hV
  obtain ⟨rfl,rfl⟩:=trodVars_none hV
  rw [List.append_nil] at hlt
  have hA:DataW.TrodAll enc P W 0 (fun _=>true) true fn.params.toList args.toList ds p:=hA0
  rw [hts] at hA
  rw [hvt,List.append_nil,List.append_nil,hts] at hz
  obtain ⟨xs,h1,h2⟩:=zCC (b0:=base) ho hA (fun j t v hj hv=>hval j t v (by rw [← hts] at hj; simpa using hj) (by simpa using hv)) hz
  have hlen:ds.length = ts.length:=zAz hA
  refine ((hp xs h1).2 W (live W) args.toList (fun b o h=>h) hG h2).mono fun e W' he=>?_
  obtain ⟨v,F',rfl,hb,hr,_⟩:=he
  obtain rfl:v = .bool true:=hr
  refine ⟨_,rfl,ds,[],_,[],p,[],hW',?_,?_,?_,hb.frame _,fun h=>by cases h⟩
  · rw [List.append_nil,hs ds hlen,hres]
    exact trodAll_cons_mk (shut_bool htb _) trodAll_mk0
  · rw [List.append_nil,hs ds hlen,hts]
    exact kx hl hb hrr hlt hA
  · rw [List.append_nil,hs ds hlen,hvars]
    rfl
end Go.Proofs.YticlpkgpmmhemaaGreatDoor
namespace Go.Proofs.YticlpkgpmmhemaaGreatDoor
open Go.RowKit
structure Stk where
  name:List UInt8
  lo:Int
  hi:Int
structure Brd where
  stocks:List Stk
  jump:Int
  small:Int
structure Prt where
  stock:Int
  nlo:Int
  nhi:Int
  fig:Int
  full:Bool
  minute:Int
  llo:Int
  lhi:Int
structure Slp where
  stock:Int
  price:Int
  number:Int
  mlo:Int
  mhi:Int
structure Sal where
  stock:Int
  number:Int
  price:Int
  minute:Int
structure Tok where
  kind:Int
  fst:Int
  snd:Int
  text:List UInt8
@[reducible] def intE (n:Int):List D:=[.int .i64 n]
@[reducible] def ints (l:List Int):D:=.slice 1 (l.map intE)
@[reducible] def stkE (s:Stk):List D:=[strD s.name,.int .i64 s.lo,.int .i64 s.hi]
@[reducible] def stksD (l:List Stk):D:=.slice 3 (l.map stkE)
@[reducible] def brdC (b:Brd):List D:=[stksD b.stocks,.int .i64 b.jump,.int .i64 b.small]
@[reducible] def brdD (b:Brd):D:=.agg (brdC b)
@[reducible] def rngE (r:Int × Int):List D:=[.int .i64 r.1,.int .i64 r.2]
@[reducible] def rngD (r:Int × Int):D:=.agg (rngE r)
@[reducible] def prtE (p:Prt):List D:=[.int .i64 p.stock,.int .i64 p.nlo,.int .i64 p.nhi,.int .i64 p.fig,.bool p.full,.int .i64 p.minute,.int .i64 p.llo,.int .i64 p.lhi]
@[reducible] def prtsD (l:List Prt):D:=.slice 8 (l.map prtE)
@[reducible] def salE (s:Sal):List D:=[.int .i64 s.stock,.int .i64 s.number,.int .i64 s.price,.int .i64 s.minute]
@[reducible] def salsD (l:List Sal):D:=.slice 4 (l.map salE)
@[reducible] def tokE (t:Tok):List D:=[.int .i64 t.kind,.int .i64 t.fst,.int .i64 t.snd,strD t.text]
theorem mget {α β:Type} {l:List α} {f:α → β} {i:Nat} {x:α} (h:l[i]? = some x):(l.map f)[i]? = some (f x):=by simp [h]
theorem yR {α:Type} {l:List α} {p:α → Bool} {i:Nat} {x:α} (h:l[i]? = some x) (ha:(l.take i).all p = true) (hx:p x = true):(l.take (i + 1)).all p = true:=by
  rw [List.take_add_one,h]
  simp [ha,hx]
theorem zV {α:Type} {l:List α} {i:Nat} (h:i < l.length):∃ x,l[i]? = some x:=⟨_,List.getElem?_eq_getElem h⟩
/-- The index of the first element that is so, or -1. -/
def idxOf {α:Type} (p:α → Bool) (l:List α):Int:=match l.findIdx? p with
  | some i=>(i:Int)
  | none=>-1
theorem kG {α:Type} {p:α → Bool} {l:List α} {i:Nat} {x:α} (h:l[i]? = some x) (ha:(l.take i).all (fun x=>!p x) = true) (hx:p x = true):idxOf p l = i:=by
  have:l.findIdx? p = some i:=by
    rw [List.findIdx?_eq_some_iff_getElem]
    obtain ⟨hlt,rfl⟩:=List.getElem?_eq_some_iff.1 h
    refine ⟨hlt,hx,fun j hj=>?_⟩
    have:=List.all_eq_true.1 ha l[j] (by rw [List.mem_take_iff_getElem]; exact ⟨j,by omega,rfl⟩)
    simpa using this
  simp [idxOf,this]
theorem kQ {α:Type} {p:α → Bool} {l:List α} (ha:l.all (fun x=>!p x) = true):idxOf p l = -1:=by
  have:l.findIdx? p = none:=by
    rw [List.findIdx?_eq_none_iff]
    intro x hx
    simpa using List.all_eq_true.1 ha x hx
  simp [idxOf,this]
theorem kT {α:Type} {p:α → Bool} {l:List α}:decide (0 ≤ idxOf p l) = l.any p:=by
  unfold idxOf
  cases h:l.findIdx? p with
  | none =>
    rw [List.findIdx?_eq_none_iff] at h
    have:l.any p = false:=by
      rw [List.any_eq_false]
      intro x hx
      simp [h x hx]
    simp [this]
  | some i =>
    have:l.any p = true:=by
      rw [List.findIdx?_eq_some_iff_getElem] at h
      obtain ⟨hlt,hx,_⟩:=h
      exact List.any_eq_true.2 ⟨_,List.getElem_mem hlt,hx⟩
    simp [this]
end Go.Proofs.YticlpkgpmmhemaaGreatDoor
