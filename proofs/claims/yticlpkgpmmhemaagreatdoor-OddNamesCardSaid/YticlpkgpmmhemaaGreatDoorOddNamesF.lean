/-
  A part of the proof that contangolaw.OddNames returns true: what the last text needs, and no more. No condition: no statement of the seat is proved here.
-/
import Derived.Carry
import Derived.ProofKit
import Derived.OpenShut
import Derived.Deep.Slices
import Derived.JoinedOf
import Derived.JoinedAt
import Derived.SizedLaws
import Derived.Test.YticlpkgpmmhemaaGreatDoorOddNamesE
namespace Go.Proofs.YticlpkgpmmhemaaGreatDoor
open Go.ChangeShapes Go.WideShapes Go.ChangeAt Go.RowKit
set_option linter.all false
/-- All cells that there are. -/
def live (w:World) (b o:Nat):Prop:=∃ v,w.cell? ⟨b,o,none⟩ = some v
/-- A parameter of a type is read as plain data of a form. -/
def OpensP (P:Program) (t:TypeId) (S:D → Prop):Prop :=
  ∀ {H:Type} (enc:TypeId × Value → H) (w:World) (r:Reach) (b0 base:Nat) (spare:Nat → Bool) (held:Bool) (v:Value) (d:DataW H) (p:List MemPlace),
    Value.okWide P w r b0 t v → DataW.Trod enc P w base spare held t v d p → (d.weights P t).all (· ≤ reachBytes) = true → ∃ x,S x ∧ Rep (live w) w x v
def Sat:List (D → Prop) → List D → Prop
  | [],ds=>ds = []
  | S :: Ss,ds=>∃ d ds',ds = d :: ds' ∧ S d ∧ Sat Ss ds'
def OpensAll (P:Program):List TypeId → List (D → Prop) → Prop
  | [],[]=>True
  | t :: ts,S :: Ss=>OpensP P t S ∧ OpensAll P ts Ss
  | _,_=>False
theorem zC9 {H : Type} {enc : TypeId × Value → H} {P : Program} {w : World} {b0 base : Nat} {spare : Nat → Bool} {held : Bool} : ∀ {ts : List TypeId} {Ss : List (D → Prop)} {vs : List Value} {ds : List (DataW H)} {p : List MemPlace}, OpensAll P ts Ss → DataW.TrodAll enc P w base spare held ts vs ds p →
    (∀ (j:Nat) t v,ts[j]? = some t → vs[j]? = some v → Value.okWide P w .any b0 t v) → (DataW.weightsEach P ts ds).all (· ≤ reachBytes) = true → ∃ xs,Sat Ss xs ∧ RepVals (live w) w xs vs
  | [],[],_,_,_,_,h,_,_=>by
    obtain ⟨rfl,_,_⟩:=trodAll_nil h
    exact ⟨[],rfl,rfl⟩
  | [],_ :: _,_,_,_,h,_,_,_=>h.elim
  | _ :: _,[],_,_,_,h,_,_,_=>h.elim
  | t :: ts,S :: Ss,_,_,_,⟨h1,h2⟩,h,hv,hz=>by
    obtain ⟨v,vs,d,ds,p,q,rfl,rfl,rfl,k1,k2⟩:=trodAll_cons h
    simp only [DataW.weightsEach,List.all_append,Bool.and_eq_true] at hz
    obtain ⟨x,s1,s2⟩:=h1 enc w .any b0 base spare held v d p (hv 0 t v rfl rfl) k1 hz.1
    obtain ⟨xs,s3,s4⟩:=zC9 (b0:=b0) h2 k2 (fun j t v hj hv'=>hv (j + 1) t v (by simpa using hj) (by simpa using hv')) hz.2
    exact ⟨x :: xs,⟨x,xs,rfl,s1,s3⟩,v,vs,rfl,s2,s4⟩
theorem zA1 {H : Type} {enc : TypeId × Value → H} {P : Program} (hl : laidOutB P = true) {W W' : World} (hb : Below W.heap.size W W') : ∀ {ts : List TypeId} {vs : List Value} {ds : List (DataW H)} {p : List MemPlace}, (ts.all fun t => P.readableRec t && decide (t < P.types.size)) = true → (∀ x ∈ p, x.block < W.heap.size) →
    DataW.TrodAll enc P W 0 (fun _=>true) true ts vs ds p → DataW.TrodAll enc P W' 0 (fun b=>decide (b < W.heap.size)) true ts vs ds p
  | [],_,_,_,_,_,h=>by
    obtain ⟨rfl,rfl,rfl⟩:=trodAll_nil h
    exact trodAll_mk0
  | t :: ts,_,_,_,ht,hp,h=>by
    obtain ⟨v,vs,d,ds,p,q,rfl,rfl,rfl,k1,k2⟩:=trodAll_cons h
    simp only [List.all_cons,Bool.and_eq_true,decide_eq_true_eq] at ht
    exact ⟨p,q,Below.trod hl ht.1.1 ht.1.2 k1 hb fun x hx=>hp x (List.mem_append_left _ hx),zA1 hl hb (by simpa using ht.2) (fun x hx=>hp x (List.mem_append_right _ hx)) k2,rfl⟩
theorem zB4 {H:Type} {enc:TypeId × Value → H} {P:Program} {w:World} {base:Nat} {spare:Nat → Bool} {held:Bool}:∀ {ts:List TypeId} {vs:List Value} {ds:List (DataW H)} {p:List MemPlace},DataW.TrodAll enc P w base spare held ts vs ds p → ds.length = ts.length
  | [],_,_,_,h=>by
    obtain ⟨_,rfl,_⟩:=trodAll_nil h
    rfl
  | t :: ts,_,_,_,h=>by
    obtain ⟨v,vs,d,ds,p,q,rfl,rfl,rfl,k1,k2⟩:=trodAll_cons h
    simp [zB4 k2]
/-- What a law's row asks of one call, out of a contract. -/
theorem law_contract {H : Type} {enc : TypeId × Value → H} {P : Program} {f : FuncId} {fn : Func} {s : ChangeSpec} {apart : Bool} {tb : TypeId} {ts : List TypeId} {Ss : List (D → Prop)} (hl : laidOutB P = true) (hts : fn.params.toList = ts) (hrr : (ts.all fun t => P.readableRec t && decide (t < P.types.size)) = true)
    (hres:fn.resultTypes = #[tb]) (htb:P.underlying tb = some .bool) (hvars:s.vars = []) (hvt:s.plain.varTypes P = [])
    (hs:∀ ds:List (DataW H),ds.length = ts.length → s.fn H ds = { results:=[.lit (.bool true)],args:=ds })
    (ho:OpensAll P ts Ss) (hp:∀ xs,Sat Ss xs → PureAt P f xs (.bool true)) :
    ∀ (W:World) (base:Nat) (args:Array Value) (ds gs:List (DataW H)) (before:List MemPlace),
      (∀ (j:Nat) t v,fn.params[j]? = some t → args[j]? = some v → Value.okWide P W .any base t v) →
      DataW.Whole enc P fn.params.toList s.vars apart W args.toList ds gs before →
      (DataW.weightsEach P (fn.params.toList ++ s.plain.varTypes P) (ds ++ gs)).all (· ≤ reachBytes) = true → GOK W (fun _=>False) →
      Calls P f args W fun e W'=>∃ v,e = .returned v ∧ s.post enc P fn apart true false false W args v W':=by
  intro W base args ds gs before hval hW hz hG
  have hW':=hW
  have hlt:=hW.lt
  obtain ⟨p,q,hA0,hV,rfl,_,_⟩:=hW
  rw [hvars] at hV
  obtain ⟨rfl,rfl⟩:=trodVars_none hV
  rw [List.append_nil] at hlt
  have hA:DataW.TrodAll enc P W 0 (fun _=>true) true fn.params.toList args.toList ds p:=hA0
  rw [hts] at hA
  rw [hvt,List.append_nil,List.append_nil,hts] at hz
  obtain ⟨xs,h1,h2⟩:=zC9 (b0:=base) ho hA (fun j t v hj hv=>hval j t v (by rw [← hts] at hj; simpa using hj) (by simpa using hv)) hz
  have hlen:ds.length = ts.length:=zB4 hA
  refine ((hp xs h1).2 W (live W) args.toList (fun b o h=>h) hG h2).mono fun e W' he=>?_
  obtain ⟨v,F',rfl,hb,hr,_⟩:=he
  obtain rfl:v = .bool true:=hr
  refine ⟨_,rfl,ds,[],_,[],p,[],hW',?_,?_,?_,hb.frame _,fun h=>by cases h⟩
  · rw [List.append_nil,hs ds hlen,hres]
    exact trodAll_cons_mk (shut_bool htb _) trodAll_mk0
  · rw [List.append_nil,hs ds hlen,hts]
    exact zA1 hl hb hrr hlt hA
  · rw [List.append_nil,hs ds hlen,hvars]
    rfl
end Go.Proofs.YticlpkgpmmhemaaGreatDoor
namespace Go.Proofs.YticlpkgpmmhemaaGreatDoor
open Go.RowKit
structure Stk where
  name:List UInt8
  lo:Int
  hi:Int
structure Brd where
  stocks:List Stk
  jump:Int
  small:Int
structure Prt where
  stock:Int
  nlo:Int
  nhi:Int
  fig:Int
  full:Bool
  minute:Int
  llo:Int
  lhi:Int
structure Slp where
  stock:Int
  price:Int
  number:Int
  mlo:Int
  mhi:Int
structure Sal where
  stock:Int
  number:Int
  price:Int
  minute:Int
structure Tok where
  kind:Int
  fst:Int
  snd:Int
  text:List UInt8
@[reducible] def intE (n:Int):List D:=[.int .i64 n]
@[reducible] def ints (l:List Int):D:=.slice 1 (l.map intE)
@[reducible] def stkE (s:Stk):List D:=[strD s.name,.int .i64 s.lo,.int .i64 s.hi]
@[reducible] def stksD (l:List Stk):D:=.slice 3 (l.map stkE)
@[reducible] def brdC (b:Brd):List D:=[stksD b.stocks,.int .i64 b.jump,.int .i64 b.small]
@[reducible] def brdD (b:Brd):D:=.agg (brdC b)
@[reducible] def rngE (r:Int × Int):List D:=[.int .i64 r.1,.int .i64 r.2]
@[reducible] def rngD (r:Int × Int):D:=.agg (rngE r)
@[reducible] def rngsD (l:List (Int × Int)):D:=.slice 2 (l.map rngE)
@[reducible] def prtE (p:Prt):List D:=[.int .i64 p.stock,.int .i64 p.nlo,.int .i64 p.nhi,.int .i64 p.fig,.bool p.full,.int .i64 p.minute,.int .i64 p.llo,.int .i64 p.lhi]
@[reducible] def prtsD (l:List Prt):D:=.slice 8 (l.map prtE)
@[reducible] def tokE (t:Tok):List D:=[.int .i64 t.kind,.int .i64 t.fst,.int .i64 t.snd,strD t.text]
theorem mget {α β:Type} {l:List α} {f:α → β} {i:Nat} {x:α} (h:l[i]? = some x):(l.map f)[i]? = some (f x):=by simp [h]
theorem yp {α:Type} {l:List α} {p:α → Bool} {i:Nat} {x:α} (h:l[i]? = some x) (ha:(l.take i).all p = true) (hx:p x = true):(l.take (i + 1)).all p = true:=by
  rw [List.take_add_one,h]
  simp [ha,hx]
theorem zW {α:Type} {l:List α} {i:Nat} (h:i < l.length):∃ x,l[i]? = some x:=⟨_,List.getElem?_eq_getElem h⟩
/-- The index of the first element that is so, or -1. -/
def idxOf {α:Type} (p:α → Bool) (l:List α):Int:=match l.findIdx? p with
  | some i=>(i:Int)
  | none=>-1
theorem kV {α:Type} {p:α → Bool} {l:List α} {i:Nat} {x:α} (h:l[i]? = some x) (ha:(l.take i).all (fun x=>!p x) = true) (hx:p x = true):idxOf p l = i:=by
  have:l.findIdx? p = some i:=by
    rw [List.findIdx?_eq_some_iff_getElem]
    obtain ⟨hlt,rfl⟩:=List.getElem?_eq_some_iff.1 h
    refine ⟨hlt,hx,fun j hj=>?_⟩
    have:=List.all_eq_true.1 ha l[j] (by rw [List.mem_take_iff_getElem]; exact ⟨j,by omega,rfl⟩)
    simpa using this
  simp [idxOf,this]
theorem kD {α:Type} {p:α → Bool} {l:List α} (ha:l.all (fun x=>!p x) = true):idxOf p l = -1:=by
  have:l.findIdx? p = none:=by
    rw [List.findIdx?_eq_none_iff]
    intro x hx
    simpa using List.all_eq_true.1 ha x hx
  simp [idxOf,this]
theorem y3 {α:Type} {p:α → Bool} {l:List α}:decide (0 ≤ idxOf p l) = l.any p:=by
  unfold idxOf
  cases h:l.findIdx? p with
  | none =>
    rw [List.findIdx?_eq_none_iff] at h
    have:l.any p = false:=by
      rw [List.any_eq_false]
      intro x hx
      simp [h x hx]
    simp [this]
  | some i =>
    have:l.any p = true:=by
      rw [List.findIdx?_eq_some_iff_getElem] at h
      obtain ⟨hlt,hx,_⟩:=h
      exact List.any_eq_true.2 ⟨_,List.getElem_mem hlt,hx⟩
    simp [this]
end Go.Proofs.YticlpkgpmmhemaaGreatDoor
