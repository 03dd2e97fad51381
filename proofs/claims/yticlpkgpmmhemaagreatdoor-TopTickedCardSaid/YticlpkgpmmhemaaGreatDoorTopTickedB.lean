/-
  A part of the proof that contangolaw.TopTicked returns true: what the last text needs, and no more. No condition: no statement of the seat is proved here.
-/
import Derived.Tactics
import Derived.Below
import Derived.OrdersHeld
import Derived.Laws.CopyRow
import Derived.Laws.IdiomCopy
import Derived.DeepKeys3
import Derived.Deep.LoopGhost
import Derived.Test.YticlpkgpmmhemaaGreatDoorTopTickedA
namespace Go.Proofs.YticlpkgpmmhemaaGreatDoor
open Go.RowKit
set_option linter.unusedVariables false
set_option linter.unusedSimpArgs false
inductive D where
  | int (k:IntKind) (n:Int)
  | bool (b:Bool)
  | str (s:ByteArray)
  | nil
  | nilp
  | slice (sz:Nat) (es:List (List D))
  | agg (cs:List D)
  | tup (vs:List D)
  | ptr (cs:List D)
  | fn (f:Fn) (fi ca:List D)
  | raw (v:Value)
  | ptrAt (b o:Nat) (cs:List D)
mutual
def Rep (F:Nat → Nat → Prop) (w:World):D → Value → Prop
  | .int k n,v=>v = .int k n
  | .bool b,v=>v = .bool b
  | .str s,v=>v = .string s
  | .nil,v=>v = .slice none 0 0
  | .nilp,v=>v = .pointer none
  | .slice sz es, v => ∃ ad cap, v = .slice ad es.length cap ∧ es.length ≤ cap ∧ cap ≤ maxLen ∧
      (es = [] ∨ ∃ b o,ad = some ⟨b,o,none⟩ ∧ RepRows F w es b o sz)
  | .agg cs,v=>∃ vs:List Value,v = .agg vs.toArray ∧ RepVals F w cs vs ∧ ∀ u ∈ vs,u.oneCell' = true
  | .tup cs,v=>∃ vs:List Value,v = .tuple vs.toArray ∧ RepVals F w cs vs
  | .ptr cs,v=>∃ b o,v = .pointer (some ⟨b,o,none⟩) ∧ RepCells F w cs b o
  | .fn f fi ca,v=>∃ vf vc:List Value,v = .func f vf.toArray vc.toArray ∧ RepVals F w fi vf ∧ RepVals F w ca vc
  | .raw u,v=>v = u
  | .ptrAt b o cs,v=>v = .pointer (some ⟨b,o,none⟩) ∧ RepCells F w cs b o
def RepVals (F:Nat → Nat → Prop) (w:World):List D → List Value → Prop
  | [],vs=>vs = []
  | d :: ds,vs=>∃ v vs',vs = v :: vs' ∧ Rep F w d v ∧ RepVals F w ds vs'
def RepCells (F:Nat → Nat → Prop) (w:World):List D → Nat → Nat → Prop
  | [],_,_=>True
  | d :: ds,b,o=>(F b o ∧ ∃ v,w.cell? ⟨b,o,none⟩ = some v ∧ v.oneCell' = true ∧ Rep F w d v) ∧ RepCells F w ds b (o + 1)
def RepRows (F:Nat → Nat → Prop) (w:World):List (List D) → Nat → Nat → Nat → Prop
  | [],_,_,_=>True
  | c :: cs,b,o,sz=>c.length = sz ∧ RepCells F w c b o ∧ RepRows F w cs b (o + sz) sz
end
/-- The frozen cells stay, and more may be frozen. -/
def Ext (F F':Nat → Nat → Prop) (w w':World):Prop :=
  ∀ b o,F b o → F' b o ∧ w'.cell? ⟨b,o,none⟩ = w.cell? ⟨b,o,none⟩
/-- What is known of package-level variables: each block that 'globs' names is there when the call begins, is not lent, and holds what it says. -/
def GOK (w0:World) (lent:Nat → Prop):Prop:=∀ g ∈ globs,g.1 < w0.heap.size ∧ ¬ lent g.1 ∧ ∃ x,w0.heap[g.1]? = some x ∧ g.2 x
mutual
theorem Rep.ext {F F':Nat → Nat → Prop} {w w':World} (h:Ext F F' w w'):∀ (d:D) (v:Value),Rep F w d v → Rep F' w' d v
  | .int k n,v=>id
  | .bool b,v=>id
  | .str s,v=>id
  | .nil,v=>id
  | .nilp,v=>id
  | .slice sz es,v=>fun ⟨ad,cap,e,h1,h2,h3⟩=>⟨ad,cap,e,h1,h2,h3.imp id fun ⟨b,o,e,hr⟩=>⟨b,o,e,RepRows.ext h es b o sz hr⟩⟩
  | .agg cs,v=>fun ⟨vs,e,hr,h1⟩=>⟨vs,e,RepVals.ext h cs vs hr,h1⟩
  | .tup cs,v=>fun ⟨vs,e,hr⟩=>⟨vs,e,RepVals.ext h cs vs hr⟩
  | .ptr cs,v=>fun ⟨b,o,e,hr⟩=>⟨b,o,e,RepCells.ext h cs b o hr⟩
  | .fn f fi ca,v=>fun ⟨vf,vc,e,h1,h2⟩=>⟨vf,vc,e,RepVals.ext h fi vf h1,RepVals.ext h ca vc h2⟩
  | .raw u,v=>id
  | .ptrAt b o cs,v=>fun ⟨e,hr⟩=>⟨e,RepCells.ext h cs b o hr⟩
theorem RepVals.ext {F F':Nat → Nat → Prop} {w w':World} (h:Ext F F' w w'):∀ (ds:List D) (vs:List Value),RepVals F w ds vs → RepVals F' w' ds vs
  | [],_=>id
  | d :: ds,_=>fun ⟨v,vs',e,h1,h2⟩=>⟨v,vs',e,Rep.ext h d v h1,RepVals.ext h ds vs' h2⟩
theorem RepCells.ext {F F':Nat → Nat → Prop} {w w':World} (h:Ext F F' w w'):∀ (ds:List D) (b o:Nat),RepCells F w ds b o → RepCells F' w' ds b o
  | [],_,_=>id
  | d :: ds,b,o=>fun ⟨⟨hf,v,hc,h1,hr⟩,h2⟩=>⟨⟨(h b o hf).1,v,(h b o hf).2.trans hc,h1,Rep.ext h d v hr⟩,RepCells.ext h ds b (o + 1) h2⟩
theorem RepRows.ext {F F':Nat → Nat → Prop} {w w':World} (h:Ext F F' w w'):∀ (es:List (List D)) (b o sz:Nat),RepRows F w es b o sz → RepRows F' w' es b o sz
  | [],_,_,_=>id
  | c :: cs,b,o,sz=>fun ⟨h0,h1,h2⟩=>⟨h0,RepCells.ext h c b o h1,RepRows.ext h cs b (o + sz) sz h2⟩
end
/-- What an abstract state says of one value: plain data; this very value; a struct, a tuple, a closure of such. -/
inductive TV where
  | d (x:D)
  | val (v:Value)
  | agg (cs:List TV)
  | tup (vs:List TV)
  | fn (f:Fn) (fi ca:List TV)
  | any
mutual
def TRep (F:Nat → Nat → Prop) (w:World):TV → Value → Prop
  | .d x,v=>Rep F w x v
  | .val u,v=>v = u
  | .agg cs,v=>∃ vs:List Value,v = .agg vs.toArray ∧ TReps F w cs vs ∧ ∀ u ∈ vs,u.oneCell' = true
  | .tup cs,v=>∃ vs:List Value,v = .tuple vs.toArray ∧ TReps F w cs vs
  | .fn f fi ca,v=>∃ vf vc:List Value,v = .func f vf.toArray vc.toArray ∧ TReps F w fi vf ∧ TReps F w ca vc
  | .any,_=>True
def TReps (F:Nat → Nat → Prop) (w:World):List TV → List Value → Prop
  | [],vs=>vs = []
  | d :: ds,vs=>∃ v vs',vs = v :: vs' ∧ TRep F w d v ∧ TReps F w ds vs'
end
mutual
theorem TRep.ext {F F':Nat → Nat → Prop} {w w':World} (h:Ext F F' w w'):∀ (d:TV) (v:Value),TRep F w d v → TRep F' w' d v
  | .d x,v=>Rep.ext h x v
  | .val u,v=>id
  | .agg cs,v=>fun ⟨vs,e,hr,h1⟩=>⟨vs,e,TReps.ext h cs vs hr,h1⟩
  | .tup cs,v=>fun ⟨vs,e,hr⟩=>⟨vs,e,TReps.ext h cs vs hr⟩
  | .fn f fi ca,v=>fun ⟨vf,vc,e,h1,h2⟩=>⟨vf,vc,e,TReps.ext h fi vf h1,TReps.ext h ca vc h2⟩
  | .any,v=>id
theorem TReps.ext {F F':Nat → Nat → Prop} {w w':World} (h:Ext F F' w w'):∀ (ds:List TV) (vs:List Value),TReps F w ds vs → TReps F' w' ds vs
  | [],_=>id
  | d :: ds,_=>fun ⟨v,vs',e,h1,h2⟩=>⟨v,vs',e,TRep.ext h d v h1,TReps.ext h ds vs' h2⟩
end
theorem Ext.refl (F:Nat → Nat → Prop) (w:World):Ext F F w w:=fun _ _ h=>⟨h,rfl⟩
theorem Ext.trans {F F' F'':Nat → Nat → Prop} {w w' w'':World} (h:Ext F F' w w') (k:Ext F' F'' w' w''):Ext F F'' w w'' :=
  fun b o hf=>⟨(k b o (h b o hf).1).1,(k b o (h b o hf).1).2.trans (h b o hf).2⟩
theorem RepVals.length {F:Nat → Nat → Prop} {w:World}:∀ {ds:List D} {vs:List Value},RepVals F w ds vs → vs.length = ds.length
  | [],_,h=>by cases h; rfl
  | _ :: ds,_,⟨v,vs',e,_,h2⟩=>by subst e; simp [RepVals.length h2]
theorem TReps.length {F:Nat → Nat → Prop} {w:World}:∀ {ds:List TV} {vs:List Value},TReps F w ds vs → vs.length = ds.length
  | [],_,h=>by cases h; rfl
  | _ :: ds,_,⟨v,vs',e,_,h2⟩=>by subst e; simp [TReps.length h2]
theorem TReps.get {F:Nat → Nat → Prop} {w:World}:∀ {ds:List TV} {vs:List Value} {i:Nat} {d:TV},TReps F w ds vs → ds[i]? = some d → ∃ v,vs[i]? = some v ∧ TRep F w d v
  | [],_,_,_,_,h=>by simp at h
  | d :: ds,_,0,_,⟨v,vs',e,h1,h2⟩,h=>by subst e; simp at h; subst h; exact ⟨v,rfl,h1⟩
  | d :: ds,_,i + 1,_,⟨v,vs',e,h1,h2⟩,h=>by
    subst e
    obtain ⟨u,hu,hr⟩:=TReps.get h2 (i:=i) (by simpa using h)
    exact ⟨u,by simpa using hu,hr⟩
theorem RepVals.get {F:Nat → Nat → Prop} {w:World}:∀ {ds:List D} {vs:List Value} {i:Nat} {d:D},RepVals F w ds vs → ds[i]? = some d → ∃ v,vs[i]? = some v ∧ Rep F w d v
  | [],_,_,_,_,h=>by simp at h
  | d :: ds,_,0,_,⟨v,vs',e,h1,h2⟩,h=>by subst e; simp at h; subst h; exact ⟨v,rfl,h1⟩
  | d :: ds,_,i + 1,_,⟨v,vs',e,h1,h2⟩,h=>by
    subst e
    obtain ⟨u,hu,hr⟩:=RepVals.get h2 (i:=i) (by simpa using h)
    exact ⟨u,by simpa using hu,hr⟩
theorem TReps.of_d {F:Nat → Nat → Prop} {w:World}:∀ {ds:List D} {vs:List Value},TReps F w (ds.map .d) vs → RepVals F w ds vs
  | [],_,h=>h
  | _ :: _,_,⟨v,vs',e,h1,h2⟩=>⟨v,vs',e,h1,TReps.of_d h2⟩
theorem RepVals.to_d {F:Nat → Nat → Prop} {w:World}:∀ {ds:List D} {vs:List Value},RepVals F w ds vs → TReps F w (ds.map .d) vs
  | [],_,h=>h
  | _ :: _,_,⟨v,vs',e,h1,h2⟩=>⟨v,vs',e,h1,RepVals.to_d h2⟩
theorem TReps.append {F:Nat → Nat → Prop} {w:World}:∀ {ds es:List TV} {vs us:List Value},TReps F w ds vs → TReps F w es us → TReps F w (ds ++ es) (vs ++ us)
  | [],_,_,_,h,k=>by cases h; exact k
  | _ :: ds,_,_,_,⟨v,vs',e,h1,h2⟩,k=>by subst e; exact ⟨v,_,rfl,h1,TReps.append h2 k⟩
theorem RepVals.append {F:Nat → Nat → Prop} {w:World}:∀ {ds es:List D} {vs us:List Value},RepVals F w ds vs → RepVals F w es us → RepVals F w (ds ++ es) (vs ++ us)
  | [],_,_,_,h,k=>by cases h; exact k
  | _ :: ds,_,_,_,⟨v,vs',e,h1,h2⟩,k=>by subst e; exact ⟨v,_,rfl,h1,RepVals.append h2 k⟩
theorem TReps.drop {F:Nat → Nat → Prop} {w:World}:∀ {ds:List TV} {vs:List Value} (n:Nat),TReps F w ds vs → TReps F w (ds.drop n) (vs.drop n)
  | _,_,0,h=>h
  | [],_,n + 1,h=>by cases h; rfl
  | _ :: ds,_,n + 1,⟨v,vs',e,h1,h2⟩=>by subst e; exact TReps.drop n h2
theorem TReps.take {F:Nat → Nat → Prop} {w:World}:∀ {ds:List TV} {vs:List Value} (n:Nat),TReps F w ds vs → TReps F w (ds.take n) (vs.take n)
  | _,_,0,h=>by simp; rfl
  | [],_,n + 1,h=>by cases h; rfl
  | _ :: ds,_,n + 1,⟨v,vs',e,h1,h2⟩=>by subst e; exact ⟨v,_,rfl,h1,TReps.take n h2⟩
theorem RepCells.get {F:Nat → Nat → Prop} {w:World}:∀ {ds:List D} {b o i:Nat} {d:D},RepCells F w ds b o → ds[i]? = some d → F b (o + i) ∧ ∃ v,w.cell? ⟨b,o + i,none⟩ = some v ∧ v.oneCell' = true ∧ Rep F w d v
  | [],_,_,_,_,_,h=>by simp at h
  | d :: ds,b,o,0,_,⟨h1,h2⟩,h=>by simp at h; subst h; exact h1
  | d :: ds,b,o,i + 1,_,⟨h1,h2⟩,h=>by
    have:=RepCells.get h2 (i:=i) (by simpa using h)
    rwa [show o + 1 + i = o + (i + 1) by omega] at this
theorem RepCells.drop {F:Nat → Nat → Prop} {w:World}:∀ {ds:List D} {b o:Nat} (n:Nat),RepCells F w ds b o → RepCells F w (ds.drop n) b (o + n)
  | _,_,_,0,h=>h
  | [],_,_,n + 1,_=>trivial
  | d :: ds,b,o,n + 1,⟨h1,h2⟩=>by
    have:=RepCells.drop n h2
    rwa [show o + 1 + n = o + (n + 1) by omega] at this
theorem RepCells.vals {F:Nat → Nat → Prop} {w:World}:∀ {ds:List D} {b o:Nat},RepCells F w ds b o → ∃ vs:List Value,RepVals F w ds vs ∧ (∀ u ∈ vs,u.oneCell' = true) ∧ ∀ j v,vs[j]? = some v → w.cell? ⟨b,o + j,none⟩ = some v ∧ F b (o + j)
  | [],_,_,_=>⟨[],rfl,by simp,by simp⟩
  | d :: ds,b,o,⟨⟨hf,v,hc,h1,hr⟩,h2⟩=>by
    obtain ⟨vs,hv,ho,hj⟩:=RepCells.vals h2
    refine ⟨v :: vs,⟨v,vs,rfl,hr,hv⟩,by simpa using ⟨h1,ho⟩,fun j u hu=>?_⟩
    cases j with
    | zero=>simp at hu; subst hu; exact ⟨hc,hf⟩
    | succ j =>
      have:=hj j u (by simpa using hu)
      rwa [show o + 1 + j = o + (j + 1) by omega] at this
theorem RepCells.of_vals {F:Nat → Nat → Prop} {w:World}:∀ {ds:List D} {vs:List Value} {b o:Nat},RepVals F w ds vs → (∀ u ∈ vs,u.oneCell' = true) → (∀ j v,vs[j]? = some v → w.cell? ⟨b,o + j,none⟩ = some v ∧ F b (o + j)) → RepCells F w ds b o
  | [],_,_,_,_,_,_=>trivial
  | d :: ds,_,b,o,⟨v,vs',e,h1,h2⟩,hone,h=>by
    subst e
    have h0:=h 0 v rfl
    refine ⟨⟨h0.2,v,h0.1,hone v (by simp),h1⟩,RepCells.of_vals h2 (fun u hu=>hone u (by simp [hu])) fun j u hu=>?_⟩
    have:=h (j + 1) u (by simpa using hu)
    rwa [show o + (j + 1) = o + 1 + j by omega] at this
theorem RepRows.get {F:Nat → Nat → Prop} {w:World}:∀ {es:List (List D)} {b o sz i:Nat} {c:List D},RepRows F w es b o sz → es[i]? = some c → c.length = sz ∧ RepCells F w c b (o + i * sz)
  | [],_,_,_,_,_,_,h=>by simp at h
  | c :: cs,b,o,sz,0,_,⟨h0,h1,h2⟩,h=>by simp at h; subst h; simpa using ⟨h0,h1⟩
  | c :: cs,b,o,sz,i + 1,_,⟨h0,h1,h2⟩,h=>by
    have:=RepRows.get h2 (i:=i) (by simpa using h)
    rwa [show o + sz + i * sz = o + (i + 1) * sz by rw [Nat.add_mul]; omega] at this
theorem RepRows.take {F:Nat → Nat → Prop} {w:World}:∀ {es:List (List D)} {b o sz:Nat} (n:Nat),RepRows F w es b o sz → RepRows F w (es.take n) b o sz
  | _,_,_,_,0,_=>by simp; trivial
  | [],_,_,_,_ + 1,_=>trivial
  | c :: cs,b,o,sz,n + 1,⟨h0,h1,h2⟩=>⟨h0,h1,RepRows.take n h2⟩
theorem RepRows.drop {F:Nat → Nat → Prop} {w:World}:∀ {es:List (List D)} {b o sz:Nat} (n:Nat),RepRows F w es b o sz → RepRows F w (es.drop n) b (o + n * sz) sz
  | _,_,_,_,0,h=>by simpa using h
  | [],_,_,_,_ + 1,_=>trivial
  | c :: cs,b,o,sz,n + 1,⟨h0,h1,h2⟩=>by
    have:=RepRows.drop n h2
    rwa [show o + sz + n * sz = o + (n + 1) * sz by rw [Nat.add_mul]; omega] at this
/-- One cell each: neither a struct nor a tuple. -/
def D.one:D → Bool
  | .agg _ | .tup _=>false
  | .raw v=>v.oneCell'
  | _=>true
theorem Rep.one {F:Nat → Nat → Prop} {w:World} {d:D} {v:Value} (h:Rep F w d v) (hd:d.one = true):v.oneCell' = true:=by
  cases d <;> (try simp only [D.one,Bool.false_eq_true] at hd) <;> (try simp only [Rep] at h)
  case slice=>obtain ⟨_,_,rfl,_⟩:=h; rfl
  case ptr=>obtain ⟨_,_,rfl,_⟩:=h; rfl
  case fn=>obtain ⟨_,_,rfl,_⟩:=h; rfl
  case raw=>subst h; exact hd
  case ptrAt=>obtain ⟨rfl,_⟩:=h; rfl
  all_goals (subst h; rfl)
def TV.one:TV → Bool
  | .d x=>x.one
  | .val v=>v.oneCell'
  | .agg _ | .tup _ | .any=>false
  | .fn ..=>true
theorem TRep.one {F:Nat → Nat → Prop} {w:World} {d:TV} {v:Value} (h:TRep F w d v) (hd:d.one = true):v.oneCell' = true:=by
  cases d <;> simp only [TV.one,Bool.false_eq_true] at hd <;> simp only [TRep] at h
  case d=>exact Rep.one h hd
  case val=>subst h; exact hd
  case fn=>obtain ⟨_,_,rfl,_⟩:=h; rfl
theorem cells_one {v:Value} (h:v.oneCell' = true):v.cells = #[v]:=by
  cases v <;> first | rfl | (simp [Value.oneCell'] at h)
theorem RepVals.ext' {F F':Nat → Nat → Prop} {w w':World} {ds:List D} {vs:List Value} (hr:RepVals F w ds vs) (h:Ext F F' w w'):RepVals F' w' ds vs:=RepVals.ext h ds vs hr
theorem TRep.ext' {F F':Nat → Nat → Prop} {w w':World} {d:TV} {v:Value} (hr:TRep F w d v) (h:Ext F F' w w'):TRep F' w' d v:=TRep.ext h d v hr
theorem TReps.ext' {F F':Nat → Nat → Prop} {w w':World} {ds:List TV} {vs:List Value} (hr:TReps F w ds vs) (h:Ext F F' w w'):TReps F' w' ds vs:=TReps.ext h ds vs hr
theorem RepRows.ext' {F F':Nat → Nat → Prop} {w w':World} {es:List (List D)} {b o sz:Nat} (hr:RepRows F w es b o sz) (h:Ext F F' w w'):RepRows F' w' es b o sz:=RepRows.ext h es b o sz hr
inductive Res where
  | gone
  | box (b:Nat) (ty:TypeId) (cs:List TV)
  | row (v:Value) (ty:TypeId) (sz:Nat) (es:List (List D))
  | obj (b:Nat) (o:Obj)
  | inv (fp:Nat → Prop) (J:(Nat → Nat → Prop) → World → Prop)
def Res.blk:Res → Option Nat
  | .gone=>none
  | .box b _ _=>some b
  | .row v _ _ _=>v.ownBlock
  | .obj b _=>some b
  | .inv _ _=>none
/-- The blocks that are of the resource. -/
def Res.has:Res → Nat → Prop
  | .gone,_=>False
  | .box b _ _,c=>b = c
  | .row v _ _ _,c=>v.ownBlock = some c
  | .obj b _,c=>b = c
  | .inv fp _,c=>fp c
def lk {α:Type}:List (Nat × α) → Nat → Option α
  | [],_=>none
  | (k,x) :: r,n=>bif Nat.beq k n then some x else lk r n
theorem zR {α:Type} (k:Nat) (x:α) (r:List (Nat × α)):lk ((k,x) :: r) k = some x:=by simp [lk]
theorem zT {α:Type} {k n:Nat} (x:α) (r:List (Nat × α)) (h:k ≠ n):lk ((k,x) :: r) n = lk r n:=by
  have:Nat.beq k n = false:=by
    cases hb:Nat.beq k n
    · rfl
    · exact absurd (Nat.eq_of_beq_eq_true hb) h
  simp [lk,this]
structure St where
  tm:List (Nat × Bool × TV)
  rs:List (Nat × Res)
  dm:List Nat
def St.get (σ:St) (t:Nat):Option (Bool × TV):=lk σ.tm t
def St.rget (σ:St) (i:Nat):Option Res:=lk σ.rs i
def St.put (σ:St) (t:Nat) (c:Bool) (v:TV):St:=⟨(t,c,v) :: σ.tm,σ.rs,σ.dm⟩
def St.rput (σ:St) (i:Nat) (r:Res):St:=⟨σ.tm,(i,r) :: σ.rs,σ.dm⟩
def constTV:Value → TV
  | .int k n=>.d (.int k n)
  | .bool b=>.d (.bool b)
  | .string s=>.d (.str s)
  | .slice none 0 0=>.d .nil
  | .pointer none=>.d .nilp
  | v=>.val v
theorem kg (F:Nat → Nat → Prop) (w:World) (v:Value):TRep F w (constTV v) v:=by
  unfold constTV
  split <;> simp [TRep,Rep]
def St.ev (σ:St):Operand → Option (Bool × TV)
  | .tmp t=>σ.get t
  | .const v=>some (true,constTV v)
  | .func f=>some (true,.d (.fn (.func f) [] []))
  | .global _=>none
/-- What a walk through one call keeps in sight: the world in which it began, what was frozen then, the blocks that it was lent, how many slots the frame has. -/
structure Cx where
  w0:World
  F0:Nat → Nat → Prop
  lent:Nat → Prop
  n:Nat
def Cx.own (Γ:Cx) (b:Nat):Prop:=Γ.w0.heap.size ≤ b ∨ Γ.lent b
def RowOK (F:Nat → Nat → Prop) (w:World) (own:Nat → Prop) (v:Value) (ty:TypeId) (sz:Nat) (es:List (List D)):Prop :=
  (v = .slice none 0 0 ∧ es = []) ∨
  ∃ b cap vs,v = .slice (some ⟨b,0,none⟩) es.length cap ∧ own b ∧ w.heap[b]? = some (.cells vs ty (0,0)) ∧ es.length ≤ cap ∧ cap ≤ maxLen ∧
    vs.size = cap * sz ∧ RepRows F w es b 0 sz ∧ ∀ o,F b o → o < es.length * sz
/-- What is said of some blocks stands where these stand. -/
def Stands (fp:Nat → Prop) (J:(Nat → Nat → Prop) → World → Prop):Prop :=
  ∀ F F' w w',J F w → w.heap.size ≤ w'.heap.size → (∀ b,fp b → w'.heap[b]? = w.heap[b]?) → (∀ b o,fp b → F' b o → F b o) → Ext F F' w w' → J F' w'
def ResOK (Γ:Cx) (F:Nat → Nat → Prop) (w:World):Res → Prop
  | .gone=>True
  | .box b ty cs=>Γ.own b ∧ (∀ o,¬ F b o) ∧ ∃ vs:List Value,w.heap[b]? = some (.cells vs.toArray ty (0,0)) ∧ TReps F w cs vs ∧ ∀ v ∈ vs,v.oneCell' = true
  | .row v ty sz es=>RowOK F w Γ.own v ty sz es
  | .obj b o=>Γ.own b ∧ w.heap[b]? = some o ∧ (∀ o,¬ F b o) ∧ ∀ c t f,o ≠ .cells c t f
  | .inv fp J=>(∀ b,fp b → Γ.own b ∧ b < w.heap.size) ∧ J F w ∧ Stands fp J
structure RS (Γ:Cx) (σ:St) (a:Act) (w:World) (F:Nat → Nat → Prop):Prop where
  size:Γ.n ≤ a.tmps.size
  defers:a.defers = σ.dm.map fun D=>{ target:=.collected D,args:=#[] }
  os:w.os = Γ.w0.os
  tape:w.tape = Γ.w0.tape
  output:w.output = Γ.w0.output
  hsize:Γ.w0.heap.size ≤ w.heap.size
  old:∀ k,k < Γ.w0.heap.size → ¬ Γ.lent k → w.heap[k]? = Γ.w0.heap[k]?
  fcell:∀ b o,F b o → ∃ v,w.cell? ⟨b,o,none⟩ = some v
  keep:∀ b o,Γ.F0 b o → w.cell? ⟨b,o,none⟩ = Γ.w0.cell? ⟨b,o,none⟩
  f0:∀ b o,Γ.F0 b o → F b o
  fnew:∀ b o,F b o → b < Γ.w0.heap.size → ¬ Γ.lent b → Γ.F0 b o
  glob:GOK Γ.w0 Γ.lent
  tm:∀ t c tv,σ.get t = some (c,tv) → (c = true → TRep F w tv (a.tmps.getD t undef)) ∧ (c = false → a.tmps.getD t undef = undef)
  rs:∀ i r,σ.rget i = some r → ResOK Γ F w r
  sep:∀ i i' r r' b,σ.rget i = some r → σ.rget i' = some r' → r.has b → r'.has b → i = i'
section
variable {Γ:Cx} {σ:St} {a:Act} {w:World} {F:Nat → Nat → Prop} {P:Program}
theorem RS.ev (h:RS Γ σ a w F) {x:Operand} {tv:TV} (hx:σ.ev x = some (true,tv)):TRep F w tv (a.eval x):=by
  cases x with
  | tmp t=>exact (h.tm t true tv hx).1 rfl
  | const v=>simp [St.ev] at hx; subst hx; exact kg F w v
  | func f=>simp [St.ev] at hx; subst hx; exact ⟨[],[],rfl,rfl,rfl⟩
  | global g=>simp [St.ev] at hx
theorem getD_put_same {a:Act} {t:Nat} {v:Value} (h:t < a.tmps.size):(a.put (some t) v).tmps.getD t undef = v:=by
  simp [Act.put,h]
theorem getD_put_ne {a:Act} {t t':Nat} {v:Value} (h:t ≠ t'):(a.put (some t) v).tmps.getD t' undef = a.tmps.getD t' undef:=by
  simp [Act.put,Array.getElem?_setIfInBounds_ne h]
theorem RS.put (h : RS Γ σ a w F) {t : Nat} {c : Bool} {tv : TV} {v : Value} (ht : t < Γ.n) (h1 : c = true → TRep F w tv v) (h2 : c = false → v = undef) :
    RS Γ (σ.put t c tv) (a.put (some t) v) w F where
  size:=by simpa [Act.put] using h.size
  defers:=h.defers
  os:=h.os
  tape:=h.tape
  output:=h.output
  hsize:=h.hsize
  old:=h.old
  fcell:=h.fcell
  keep:=h.keep
  f0:=h.f0
  fnew:=h.fnew
  glob:=h.glob
  tm:=fun t' c' tv' hg=>by
    by_cases e:t = t'
    · subst e
      have:(c,tv) = (c',tv'):=by simpa [St.get,St.put,zR] using hg
      cases this
      rw [getD_put_same (Nat.lt_of_lt_of_le ht h.size)]
      exact ⟨h1,h2⟩
    · rw [getD_put_ne e]
      exact h.tm t' c' tv' (by simpa [St.get,St.put,zT _ _ e] using hg)
  rs:=h.rs
  sep:=h.sep
/-- The world may differ where nothing is looked at: from outside the frozen cells and the blocks owned. -/
def Agree (F:Nat → Nat → Prop) (W:Nat → Prop) (w w':World):Prop :=
  ∀ b o,b < w.heap.size → (F b o ∨ ¬ W b) → w'.cell? ⟨b,o,none⟩ = w.cell? ⟨b,o,none⟩
theorem Agree.refl (F:Nat → Nat → Prop) (W:Nat → Prop) (w:World):Agree F W w w:=fun _ _ _ _=>rfl
/-- Whether the operation is carried out: 'c'. -/
def GuardOK (Γ:Cx) (ops:Array Oper) (σ:St) (o:Oper) (c:Bool):Prop :=
  ∀ a w F,RS Γ σ a w F → Region.wanted o (yielded ops a.tmps) = c
theorem yA {ops:Array Oper} {o:Oper} (h:o.guard = none):GuardOK Γ ops σ o true:=fun _ _ _ _=>by simp [Region.wanted,h]
theorem zK {ops : Array Oper} {o : Oper} {j : Nat} {want : Bool} {g : Nat} {cg b : Bool} (h : o.guard = some (j, want)) (hd : (ops[j]?).bind (·.dst) = some g)
    (hg:σ.get g = some (cg,.d (.bool b))):GuardOK Γ ops σ o (cg && (b == want)):=fun a w F hs=>by
  have ht:=hs.tm g cg _ hg
  have hget:∀ u:Value,a.tmps.getD g undef = u → (∃ x,u = .bool x) → a.tmps[g]? = some u:=by
    intro u hu ⟨x,hx⟩
    cases hq:a.tmps[g]? with
    | none=>simp [hq] at hu; subst hx; simp [undef] at hu
    | some y=>simp [hq] at hu; simp [hu]
  cases cg with
  | true =>
    have h1:=ht.1 rfl
    simp only [TRep,Rep] at h1
    have h2:=hget _ h1 ⟨_,rfl⟩
    simp only [Region.wanted,h,yielded,hd,Option.bind_some,h2,Bool.true_and]
    cases b <;> cases want <;> rfl
  | false =>
    have h1:=ht.2 rfl
    simp only [Region.wanted,h,yielded,hd,Option.bind_some,Bool.false_and]
    cases hq:a.tmps[g]? with
    | none=>simp
    | some y =>
      have:y = undef:=by simpa [hq] using h1
      subst this
      simp [undef]
/-- Which worlds count as this one. -/
abbrev Rel:=(Nat → Nat → Prop) → World → World → Prop
def R0:Rel:=fun _ w w'=>w' = w
def RA (W:Nat → Prop):Rel:=fun F w w'=>Agree F W w w'
def Sees (R:Rel) (b:Nat):Prop:=∀ F w w',R F w w' → b < w.heap.size → ∀ o,w'.cell? ⟨b,o,none⟩ = w.cell? ⟨b,o,none⟩
def SeesF (R:Rel):Prop:=∀ F w w',R F w w' → ∀ b o,b < w.heap.size → F b o → w'.cell? ⟨b,o,none⟩ = w.cell? ⟨b,o,none⟩
theorem sees0 {b:Nat}:Sees R0 b:=fun _ _ _ e _ _=>by rw [show _ = _ from e]
theorem seesF0:SeesF R0:=fun _ _ _ e _ _ _ _=>by rw [show _ = _ from e]
theorem seesA {W:Nat → Prop} {b:Nat} (h:¬ W b):Sees (RA W) b:=fun _ _ _ e hb o=>e b o hb (.inr h)
theorem seesFA {W:Nat → Prop}:SeesF (RA W):=fun _ _ _ e b o hb hf=>e b o hb (.inl hf)
/-- A quiet operation: it yields a value that reads as 'tv', and would in every world that counts as this one. -/
def QV (Γ:Cx) (P:Program) (σ:St) (o:Oper) (R:Rel) (tv:TV):Prop :=
  ∀ a w F,RS Γ σ a w F → ∃ v,TRep F w tv v ∧ ∀ w',R F w w' → (execOp a.eval o).run P w' = .ok (.value v) w'
/-- One operation, from a state to others (one for each x); outside the blocks W what was there stands. -/
def StepW (Γ:Cx) (P:Program) (ops:Array Oper) (σ:St) (o:Oper) (W:Nat → Prop) {X:Type} (S':X → St):Prop :=
  ∀ a w F,RS Γ σ a w F → ∀ (K:Act → World → Prop) (Q:Exit → Act → World → Prop),
    (∀ x a' w' F',RS Γ (S' x) a' w' F' → (∀ b o,F b o → F' b o) → w.heap.size ≤ w'.heap.size → Agree F W w w' → K a' w') →
    if Region.wanted o (yielded ops a.tmps) then o.wp P a w K Q else K (a.put o.dst undef) w
/-- The rest of a region from a state on. -/
def ARun (Γ:Cx) (P:Program) (ops:Array Oper) (l:List Oper) (σ:St) (Q:Exit → Act → World → Prop):Prop :=
  ∀ a w F,RS Γ σ a w F → wpList P ops Q l a w
def AWP (Γ:Cx) (P:Program) (c:Code) (σ:St) (Q:Exit → Act → World → Prop):Prop :=
  ∀ a w F,RS Γ σ a w F → c.wp P Q a w
def AEnd (Γ:Cx) (σ:St) (Q:Exit → Act → World → Prop) (e:Exit):Prop :=
  ∀ a w F,RS Γ σ a w F → Q e a w
theorem zQ {ops:Array Oper} {Q:Exit → Act → World → Prop} (h:AEnd Γ σ Q .normal):ARun Γ P ops [] σ Q:=fun a w F hs=>wpList_nil (h a w F hs)
theorem step {ops : Array Oper} {o : Oper} {rest : List Oper} {Q : Exit → Act → World → Prop} {W : Nat → Prop} {X : Type} {S' : X → St} (h : StepW Γ P ops σ o W S')
    (hr:∀ x,ARun Γ P ops rest (S' x) Q):ARun Γ P ops (o :: rest) σ Q:=fun a w F hs =>
  wpList_step fun K hK=>h a w F hs K Q fun x a' w' F' hs' _ _ _=>hK _ _ (hr x a' w' F' hs')
theorem zBA {ops : Array Oper} {o : Oper} {t : Nat} {c : Bool} {tv : TV} (W : Nat → Prop)
    (hg:GuardOK Γ ops σ o c) (ht:o.dst = some t) (hn:Nat.blt t Γ.n = true) (hq:∀ a w F,RS Γ σ a w F → c = true → ∃ v,TRep F w tv v ∧ (execOp a.eval o).run P w = .ok (.value v) w) :
    StepW Γ P ops σ o W fun _:Unit=>σ.put t c tv:=fun a w F hs K Q hK=>by
  have hlt:t < Γ.n:=by simpa [Nat.blt_eq] using hn
  rw [hg a w F hs]
  cases c with
  | true =>
    obtain ⟨v,hv,hrun⟩:=hq a w F hs rfl
    rw [if_pos rfl]
    unfold Oper.wp
    rw [hrun]
    show K (a.put o.dst v) w
    rw [ht]
    exact hK () _ _ F (hs.put hlt (fun _=>hv) (fun h=>by cases h)) (fun _ _ h=>h) (Nat.le_refl _) (Agree.refl _ _ _)
  | false =>
    rw [if_neg (by simp)]
    rw [ht]
    exact hK () _ _ F (hs.put hlt (fun h=>by cases h) (fun _=>rfl)) (fun _ _ h=>h) (Nat.le_refl _) (Agree.refl _ _ _)
theorem stepQ {ops : Array Oper} {o : Oper} {rest : List Oper} {Q : Exit → Act → World → Prop} {t : Nat} {c : Bool} {tv : TV}
    (hg:GuardOK Γ ops σ o c) (ht:o.dst = some t) (hn:Nat.blt t Γ.n = true) (hq:c = true → QV Γ P σ o R0 tv)
    (hr:ARun Γ P ops rest (σ.put t c tv) Q):ARun Γ P ops (o :: rest) σ Q :=
  step (zBA (fun _=>False) hg ht hn fun a w F hs hc=>let ⟨v,hv,hrun⟩:=hq hc a w F hs; ⟨v,hv,hrun w rfl⟩) fun _=>hr
/-- A step of the mind alone: the same world read otherwise; more may be frozen. -/
def Ghost (Γ:Cx) (σ σ':St):Prop:=∀ a w F,RS Γ σ a w F → ∃ F',RS Γ σ' a w F' ∧ ∀ b o,F b o → F' b o
theorem yd {ops:Array Oper} {l:List Oper} {σ':St} {Q:Exit → Act → World → Prop} (h:Ghost Γ σ σ') (hr:ARun Γ P ops l σ' Q):ARun Γ P ops l σ Q:=fun a w F hs =>
  let ⟨F',hs',_⟩:=h a w F hs
  hr a w F' hs'
theorem yH {c:Code} {σ':St} {Q:Exit → Act → World → Prop} (h:Ghost Γ σ σ') (hr:AWP Γ P c σ' Q):AWP Γ P c σ Q:=fun a w F hs =>
  let ⟨F',hs',_⟩:=h a w F hs
  hr a w F' hs'
theorem y2 {e:Exit} {σ':St} {Q:Exit → Act → World → Prop} (h:Ghost Γ σ σ') (hr:AEnd Γ σ' Q e):AEnd Γ σ Q e:=fun a w F hs =>
  let ⟨F',hs',_⟩:=h a w F hs
  hr a w F' hs'
end
def Sz (P:Program) (t:TypeId) (n:Nat):Prop:=(P.info? t).map (·.size) = some n
theorem kE {P:Program} {t:TypeId} {n:Nat} (h:Sz P t n) (w:World):(sizeOf t).run P w = .ok n w:=by
  unfold Sz at h
  cases hq:P.info? t with
  | none=>simp [hq] at h
  | some i=>simp [hq] at h; simp [sizeOf,typeInfo,hq,h]
def rowD:TypeDesc → Bool
  | .struct _ | .array _ _=>true
  | _=>false
theorem zAk {P:Program} {t:TypeId} {d:TypeDesc} {b:Bool} (h:P.underlying t = some d) (hd:rowD d = b) (w:World):(isAgg t).run P w = .ok b w:=by
  unfold isAgg
  rw [Sem.run_bind,run_underlying h w]
  subst hd
  cases d <;> rfl
theorem yZ (b o j:Nat):(⟨b,o,none⟩:Addr).add j = ⟨b,o + j,none⟩:=by unfold Addr.add; split <;> simp_all
theorem yS {P : Program} {ty : TypeId} {d : TypeDesc} {w : World} {b o : Nat} {v : Value} (hu : P.underlying ty = some d) (hd : rowD d = false)
    (hc:w.cell? ⟨b,o,none⟩ = some v):(loadVar ty ⟨b,o,none⟩).run P w = .ok v w:=by
  simp [loadVar,zAk hu hd,hc]
theorem yr {P : Program} {ty : TypeId} {d : TypeDesc} {w : World} {b o : Nat} {vs : List Value} (hu : P.underlying ty = some d) (hd : rowD d = true)
    (hs:Sz P ty vs.length) (hc:∀ j v,vs[j]? = some v → w.cell? ⟨b,o + j,none⟩ = some v):(loadVar ty ⟨b,o,none⟩).run P w = .ok (.agg vs.toArray) w:=by
  have:=run_loadCells_list (P:=P) w ⟨b,o,none⟩ vs (fun j v hv=>by rw [yZ]; exact hc j v hv)
  simp [loadVar,zAk hu hd,kE hs,this]
section
variable {Γ:Cx} {P:Program} {σ:St} {o:Oper} {R:Rel}
theorem kY {x:Operand} {tv:TV} (h:o.op = .move x) (hx:σ.ev x = some (true,tv)):QV Γ P σ o R tv:=fun a w F hs =>
  ⟨_,hs.ev hx,fun w' _=>by simp [execOp,h]⟩
theorem zBq {x:Operand} {tv:TV} (h:o.op = .assign x) (hx:σ.ev x = some (true,tv)):QV Γ P σ o R tv:=fun a w F hs =>
  ⟨_,hs.ev hx,fun w' _=>by simp [execOp,h]⟩
theorem zEf {x y z : Operand} {b : Bool} {cy cz : Bool} {p q : Bool} (h : o.op = .pick x y z) (hx : σ.ev x = some (true, .d (.bool b)))
    (hy:σ.ev y = some (cy,.d (.bool p))) (hz:σ.ev z = some (cz,.d (.bool q))) (hcy:b = true → cy = true) (hcz:b = false → cz = true) :
    QV Γ P σ o R (.d (.bool (bif b then p else q))):=fun a w F hs=>by
  have h1:=hs.ev hx
  simp only [TRep,Rep] at h1
  cases b with
  | true =>
    obtain rfl:=hcy rfl
    have h2:=hs.ev hy
    simp only [TRep,Rep] at h2
    exact ⟨.bool p,rfl,fun w' _=>by simp [execOp,h,h1,h2,asBool]⟩
  | false =>
    obtain rfl:=hcz rfl
    have h2:=hs.ev hz
    simp only [TRep,Rep] at h2
    exact ⟨.bool q,rfl,fun w' _=>by simp [execOp,h,h1,h2,asBool]⟩
theorem q_and {x y : Operand} {b : Bool} {cy p : Bool} (h : o.op = .pick x y (.const (.bool false))) (hx : σ.ev x = some (true, .d (.bool b)))
    (hy:σ.ev y = some (cy,.d (.bool p))) (hcy:b = true → cy = true):QV Γ P σ o R (.d (.bool (b && p))):=by
  have:=zEf (Γ:=Γ) (P:=P) (R:=R) h hx hy (cz:=true) (q:=false) rfl hcy (fun _=>rfl)
  cases b <;> exact this
theorem q_or {x y : Operand} {b : Bool} {cy p : Bool} (h : o.op = .pick x (.const (.bool true)) y) (hx : σ.ev x = some (true, .d (.bool b)))
    (hy:σ.ev y = some (cy,.d (.bool p))) (hcy:b = false → cy = true):QV Γ P σ o R (.d (.bool (b || p))):=by
  have:=zEf (Γ:=Γ) (P:=P) (R:=R) h hx (cy:=true) (p:=true) rfl hy (fun _=>rfl) hcy
  cases b <;> exact this
theorem q_extract {x:Operand} {i:Nat} {ds:List TV} {tv:TV} (h:o.op = .extract x i) (hx:σ.ev x = some (true,.tup ds)) (hi:ds[i]? = some tv):QV Γ P σ o R tv:=fun a w F hs=>by
  obtain ⟨vs,e,hr⟩:=hs.ev hx
  obtain ⟨v,hv,hr'⟩:=hr.get hi
  exact ⟨v,hr',fun w' _=>by simp [execOp,h,e,Instr.extract,hv]⟩
theorem zBs {x:Operand} {i:Nat} {ds:List D} {d:D} (h:o.op = .extract x i) (hx:σ.ev x = some (true,.d (.tup ds))) (hi:ds[i]? = some d):QV Γ P σ o R (.d d):=fun a w F hs=>by
  obtain ⟨vs,e,hr⟩:=hs.ev hx
  obtain ⟨v,hv,hr'⟩:=hr.get hi
  exact ⟨v,hr',fun w' _=>by simp [execOp,h,e,Instr.extract,hv]⟩
theorem kV {x y : Operand} {op : BinOp} {t t' : TypeId} {k k' : IntKind} {m n : Int} {d : D} {v : Value} (h : o.op = .binOp op t x y t')
    (hx:σ.ev x = some (true,.d (.int k m))) (hy:σ.ev y = some (true,.d (.int k' n))) (hv:∀ F w,Rep F w d v)
    (hr:∀ w,(binOp op t (.int k m) (.int k' n)).run P w = .ok v w):QV Γ P σ o R (.d d):=fun a w F hs=>by
  have h1:=hs.ev hx
  have h2:=hs.ev hy
  simp only [TRep,Rep] at h1 h2
  exact ⟨v,hv F w,fun w' _=>by simp [execOp,h,h1,h2,hr,eqGuard_at_int]⟩
theorem zh {x y : Operand} {t t' : TypeId} {k : IntKind} {m n r : Int} (h : o.op = .binOp .add t x y t') (hx : σ.ev x = some (true, .d (.int k m))) (hy : σ.ev y = some (true, .d (.int k n)))
    (hr:k.wrap (m + n) = r):QV Γ P σ o R (.d (.int k r)):=kV h hx hy (v:=.int k r) (fun _ _=>rfl) fun w=>by simp [binOp_add,Op.intArith,hr]
theorem yB {x y : Operand} {t t' : TypeId} {k : IntKind} {m n r : Int} (h : o.op = .binOp .sub t x y t') (hx : σ.ev x = some (true, .d (.int k m))) (hy : σ.ev y = some (true, .d (.int k n)))
    (hr:k.wrap (m - n) = r):QV Γ P σ o R (.d (.int k r)):=kV h hx hy (v:=.int k r) (fun _ _=>rfl) fun w=>by simp [binOp_sub,Op.intArith,hr]
theorem zDL {x y : Operand} {t t' : TypeId} {k : IntKind} {m n r : Int} (h : o.op = .binOp .mul t x y t') (hx : σ.ev x = some (true, .d (.int k m))) (hy : σ.ev y = some (true, .d (.int k n)))
    (hr:k.wrap (m * n) = r):QV Γ P σ o R (.d (.int k r)):=kV h hx hy (v:=.int k r) (fun _ _=>rfl) fun w=>by simp [binOp_mul,Op.intArith,hr]
theorem q_quo {x y : Operand} {t t' : TypeId} {k : IntKind} {m n r : Int} (h : o.op = .binOp .quo t x y t') (hx : σ.ev x = some (true, .d (.int k m))) (hy : σ.ev y = some (true, .d (.int k n)))
    (hn:n ≠ 0) (hr:k.wrap (m.tdiv n) = r):QV Γ P σ o R (.d (.int k r)):=kV h hx hy (v:=.int k r) (fun _ _=>rfl) fun w=>by simp [binOp_quo,Op.intDiv,hr,hn]
theorem zAT {x y : Operand} {t t' : TypeId} {k : IntKind} {m n r : Int} (h : o.op = .binOp .rem t x y t') (hx : σ.ev x = some (true, .d (.int k m))) (hy : σ.ev y = some (true, .d (.int k n)))
    (hn:n ≠ 0) (hr:m.tmod n = r):QV Γ P σ o R (.d (.int k r)):=kV h hx hy (v:=.int k r) (fun _ _=>rfl) fun w=>by simp [binOp_rem,Op.intDiv,hr,hn]
theorem q_eql {x y : Operand} {t t' : TypeId} {k : IntKind} {m n : Int} (h : o.op = .binOp .eql t x y t') (hx : σ.ev x = some (true, .d (.int k m))) (hy : σ.ev y = some (true, .d (.int k n))) :
    QV Γ P σ o R (.d (.bool (m == n))):=kV h hx hy (v:=.bool (m == n)) (fun _ _=>rfl) fun w=>by simp [binOp_eql]
theorem q_neq {x y : Operand} {t t' : TypeId} {k : IntKind} {m n : Int} (h : o.op = .binOp .neq t x y t') (hx : σ.ev x = some (true, .d (.int k m))) (hy : σ.ev y = some (true, .d (.int k n))) :
    QV Γ P σ o R (.d (.bool (m != n))):=kV h hx hy (v:=.bool (m != n)) (fun _ _=>rfl) fun w=>by simp [binOp_neq]
theorem zES {x y : Operand} {t t' : TypeId} {k : IntKind} {m n : Int} (h : o.op = .binOp .lss t x y t') (hx : σ.ev x = some (true, .d (.int k m))) (hy : σ.ev y = some (true, .d (.int k n))) :
    QV Γ P σ o R (.d (.bool (decide (m < n)))):=kV h hx hy (v:=.bool (decide (m < n))) (fun _ _=>rfl) fun w=>by simp [binOp_lss]
theorem q_leq {x y : Operand} {t t' : TypeId} {k : IntKind} {m n : Int} (h : o.op = .binOp .leq t x y t') (hx : σ.ev x = some (true, .d (.int k m))) (hy : σ.ev y = some (true, .d (.int k n))) :
    QV Γ P σ o R (.d (.bool (decide (m ≤ n)))):=kV h hx hy (v:=.bool (decide (m ≤ n))) (fun _ _=>rfl) fun w=>by simp [binOp_leq]
theorem zEo {x y : Operand} {t t' : TypeId} {k : IntKind} {m n : Int} (h : o.op = .binOp .gtr t x y t') (hx : σ.ev x = some (true, .d (.int k m))) (hy : σ.ev y = some (true, .d (.int k n))) :
    QV Γ P σ o R (.d (.bool (decide (n < m)))):=kV h hx hy (v:=.bool (decide (n < m))) (fun _ _=>rfl) fun w=>by simp [binOp_gtr]
theorem q_geq {x y : Operand} {t t' : TypeId} {k : IntKind} {m n : Int} (h : o.op = .binOp .geq t x y t') (hx : σ.ev x = some (true, .d (.int k m))) (hy : σ.ev y = some (true, .d (.int k n))) :
    QV Γ P σ o R (.d (.bool (decide (n ≤ m)))):=kV h hx hy (v:=.bool (decide (n ≤ m))) (fun _ _=>rfl) fun w=>by simp [binOp_geq]
theorem q_shr {x y : Operand} {t t' : TypeId} {k k' : IntKind} {m n : Int} (h : o.op = .binOp .shr t x y t') (hx : σ.ev x = some (true, .d (.int k m))) (hy : σ.ev y = some (true, .d (.int k' n)))
    (h0:0 ≤ n) (h1:n ≤ k.bits):QV Γ P σ o R (.d (.int k (m / 2 ^ n.toNat))):=kV h hx hy (v:=.int k (m / 2 ^ n.toNat)) (fun _ _=>rfl) fun w=>by simp [binOp_shr,shift_shr _ _ _ _ h0 h1]
theorem q_not {x:Operand} {t:TypeId} {b:Bool} (h:o.op = .unOp .not t x) (hx:σ.ev x = some (true,.d (.bool b))):QV Γ P σ o R (.d (.bool (!b))):=fun a w F hs=>by
  have h1:=hs.ev hx
  simp only [TRep,Rep] at h1
  exact ⟨.bool (!b),rfl,fun w' _=>by simp [execOp,h,h1,Op.unary]⟩
theorem zBK {x : Operand} {s t : TypeId} {k k' : IntKind} {ds : TypeDesc} {m r : Int} (h : o.op = .convert s t x) (hx : σ.ev x = some (true, .d (.int k m)))
    (hs':P.underlying s = some ds) (ht:P.underlying t = some (.int k')) (hr:k'.wrap m = r):QV Γ P σ o R (.d (.int k' r)):=fun a w F hs=>by
  have h1:=hs.ev hx
  simp only [TRep,Rep] at h1
  exact ⟨.int k' r,rfl,fun w' _=>by simp [execOp,h,h1,convert,run_underlying hs',run_underlying ht,Conv.intToInt,hr]⟩
theorem zA4 {x : Operand} {s : TypeId} {i : Nat} {fs : Array Field} {f : Field} {n b off : Nat} (h : o.op = .fieldAddr s x i) (hx : σ.ev x = some (true, .val (.pointer (some ⟨b, off, none⟩))))
    (hs':P.underlying s = some (.struct fs)) (hf:fs[i]? = some f) (hz:Sz P f.type (n + 1)):QV Γ P σ o R (.val (.pointer (some ⟨b,off + f.offset,none⟩))):=fun a w F hs=>by
  have h1:=hs.ev hx
  simp only [TRep] at h1
  exact ⟨_,rfl,fun w' _=>by simp [execOp,h,h1,Instr.fieldAt,run_underlying hs',hf,Instr.sureAddr,fieldPlace,kE hz,yZ]⟩
theorem zAQ {x : Operand} {s : TypeId} {i : Nat} {fs : Array Field} {f : Field} {n : Nat} {cs cs' : List D} (h : o.op = .fieldAddr s x i) (hx : σ.ev x = some (true, .d (.ptr cs)))
    (hs':P.underlying s = some (.struct fs)) (hf:fs[i]? = some f) (hz:Sz P f.type (n + 1)) (hc:cs.drop f.offset = cs'):QV Γ P σ o R (.d (.ptr cs')):=fun a w F hs=>by
  obtain ⟨b,off,e,hr⟩:=hs.ev hx
  subst hc
  exact ⟨_,⟨b,off + f.offset,rfl,hr.drop _⟩,fun w' _=>by simp [execOp,h,e,Instr.fieldAt,run_underlying hs',hf,Instr.sureAddr,fieldPlace,kE hz,yZ]⟩
theorem q_nilCheck {x:Operand} {b off:Nat} (h:o.op = .nilCheck x) (hx:σ.ev x = some (true,.val (.pointer (some ⟨b,off,none⟩)))):QV Γ P σ o R (.val (.pointer (some ⟨b,off,none⟩))):=fun a w F hs=>by
  have h1:=hs.ev hx
  simp only [TRep] at h1
  exact ⟨_,rfl,fun w' _=>by simp [execOp,h,h1]⟩
theorem q_nilCheckp {x:Operand} {cs:List D} (h:o.op = .nilCheck x) (hx:σ.ev x = some (true,.d (.ptr cs))):QV Γ P σ o R (.d (.ptr cs)):=fun a w F hs=>by
  obtain ⟨b,off,e,hr⟩:=hs.ev hx
  exact ⟨_,⟨b,off,rfl,hr⟩,fun w' _=>by simp [execOp,h,e]⟩
/-- An element of a slice of plain data: its address. -/
theorem q_index {x y : Operand} {t e : TypeId} {sz : Nat} {es : List (List D)} {k : IntKind} {i : Nat} {m : Int} {c : List D} (h : o.op = .indexAddr t x y)
    (hx:σ.ev x = some (true,.d (.slice sz es))) (hy:σ.ev y = some (true,.d (.int k m))) (ht:P.underlying t = some (.slice e)) (hz:Sz P e sz)
    (hm:m = (i:Int)) (hc:es[i]? = some c):QV Γ P σ o R (.d (.ptr c)):=fun a w F hs=>by
  obtain ⟨ad,cap,e1,_,_,hr⟩:=hs.ev hx
  have h2:=hs.ev hy
  simp only [TRep,Rep] at h2
  have hlt:i < es.length:=(List.getElem?_eq_some_iff.1 hc).1
  rcases hr with hr | ⟨b,off,rfl,hr⟩
  · simp [hr] at hlt
  · obtain ⟨_,hcell⟩:=hr.get hc
    subst hm
    exact ⟨_,⟨b,off + i * sz,rfl,hcell⟩,fun w' _=>by
      simp [execOp,h,e1,h2,Instr.indexAt,asIntOf,run_underlying ht,kE hz,yZ,hlt]⟩
/-- An element of an array variable of one's own. -/
theorem q_indexA {x y : Operand} {t e : TypeId} {sz n b off : Nat} {k : IntKind} {i : Nat} {m : Int} (h : o.op = .indexAddr t x y)
    (hx:σ.ev x = some (true,.val (.pointer (some ⟨b,off,none⟩)))) (hy:σ.ev y = some (true,.d (.int k m))) (ht:P.underlying t = some (.array n e)) (hz:Sz P e sz)
    (hm:m = (i:Int)) (hi:i < n):QV Γ P σ o R (.val (.pointer (some ⟨b,off + i * sz,none⟩))):=fun a w F hs=>by
  have h1:=hs.ev hx
  have h2:=hs.ev hy
  simp only [TRep,Rep] at h1 h2
  subst hm
  exact ⟨_,rfl,fun w' _=>by simp [execOp,h,h1,h2,Instr.indexAt,asIntOf,run_underlying ht,kE hz,yZ,hi,Instr.sureAddr]⟩
/-- An element of a slice whose value is known outright. -/
theorem q_indexV {x y : Operand} {t e : TypeId} {sz n cap b off : Nat} {k : IntKind} {i : Nat} {m : Int} (h : o.op = .indexAddr t x y)
    (hx:σ.ev x = some (true,.val (.slice (some ⟨b,off,none⟩) n cap))) (hy:σ.ev y = some (true,.d (.int k m))) (ht:P.underlying t = some (.slice e)) (hz:Sz P e sz)
    (hm:m = (i:Int)) (hi:i < n):QV Γ P σ o R (.val (.pointer (some ⟨b,off + i * sz,none⟩))):=fun a w F hs=>by
  have h1:=hs.ev hx
  have h2:=hs.ev hy
  simp only [TRep,Rep] at h1 h2
  subst hm
  exact ⟨_,rfl,fun w' _=>by simp [execOp,h,h1,h2,Instr.indexAt,asIntOf,run_underlying ht,kE hz,yZ,hi]⟩
theorem yk {w:World} {b i:Nat} {ty:TypeId} {vs:List Value} (h:w.heap[b]? = some (.cells vs.toArray ty (0,0))):w.cell? ⟨b,i,none⟩ = vs[i]?:=by
  simp [World.cell?,h]
theorem yO {w:World} {b:Nat} {x:Obj} (h:w.heap[b]? = some x):b < w.heap.size:=(Array.getElem?_eq_some_iff.1 h).1
theorem zY {x : Operand} {ty bt : TypeId} {d : TypeDesc} {b off id : Nat} {cs : List TV} {tv : TV} (h : o.op = .load ty x) (hx : σ.ev x = some (true, .val (.pointer (some ⟨b, off, none⟩))))
    (hr:σ.rget id = some (.box b bt cs)) (hu:P.underlying ty = some d) (hd:rowD d = false) (hc:cs[off]? = some tv) (hW:Sees R b):QV Γ P σ o R tv:=fun a w F hs=>by
  have h1:=hs.ev hx
  simp only [TRep] at h1
  obtain ⟨_,_,vs,hh,hvs,_⟩:=hs.rs id _ hr
  obtain ⟨v,hv,hrep⟩:=hvs.get hc
  refine ⟨v,hrep,fun w' hw'=>?_⟩
  have hcell:w'.cell? ⟨b,off,none⟩ = some v:=(hW F w w' hw' (yO hh) off).trans ((yk hh).trans hv)
  simp [execOp,h,h1,Instr.loadAt,Instr.sureAddr,yS hu hd hcell]
theorem q_loadA {x : Operand} {ty bt : TypeId} {d : TypeDesc} {b off id n : Nat} {cs seg : List TV} (h : o.op = .load ty x) (hx : σ.ev x = some (true, .val (.pointer (some ⟨b, off, none⟩))))
    (hr:σ.rget id = some (.box b bt cs)) (hu:P.underlying ty = some d) (hd:rowD d = true) (hz:Sz P ty n) (hc:(cs.drop off).take n = seg) (hn:seg.length = n) (hW:Sees R b):QV Γ P σ o R (.agg seg):=fun a w F hs=>by
  have h1:=hs.ev hx
  simp only [TRep] at h1
  obtain ⟨_,_,vs,hh,hvs,hone⟩:=hs.rs id _ hr
  have hseg:TReps F w seg ((vs.drop off).take n):=by rw [← hc]; exact (hvs.drop off).take n
  have hlen:=hseg.length
  refine ⟨.agg ((vs.drop off).take n).toArray,⟨_,rfl,hseg,fun u hu=>hone u (List.mem_of_mem_drop (List.mem_of_mem_take hu))⟩,fun w' hw'=>?_⟩
  have hl:=yr (P:=P) (w:=w') (b:=b) (o:=off) (vs:=(vs.drop off).take n) hu hd (by rw [hlen,hn]; exact hz) (fun j v hv=>by
    have:vs[off + j]? = some v:=by
      rw [List.getElem?_take] at hv
      split at hv
      · rwa [List.getElem?_drop] at hv
      · cases hv
    exact (hW F w w' hw' (yO hh) (off + j)).trans ((yk hh).trans this))
  simp only [execOp,h,h1,Instr.loadAt,Instr.sureAddr,Sem.run_bind,Sem.run_pure,Result.andThen_ok,hl]
def allD:List TV → Option (List D)
  | []=>some []
  | .d x :: r=>match allD r with
    | some ds=>some (x :: ds)
    | none=>none
  | _ :: _=>none
theorem yi:∀ {cs:List TV} {ds:List D},allD cs = some ds → cs = ds.map .d
  | [],_,h=>by simp [allD] at h; subst h; rfl
  | .d x :: r,ds,h=>by
    simp only [allD] at h
    split at h
    · rename_i ds' h'
      cases h
      rw [yi h']
      rfl
    · cases h
  | .val _ :: _,_,h=>by cases h
  | .agg _ :: _,_,h=>by cases h
  | .tup _ :: _,_,h=>by cases h
  | .fn .. :: _,_,h=>by cases h
  | .any :: _,_,h=>by cases h
theorem zEs {F:Nat → Nat → Prop} {w:World} {seg:List TV} {ds:List D} {v:Value} (h:seg = ds.map .d) (hr:TRep F w (.agg seg) v):TRep F w (.d (.agg ds)) v:=by
  obtain ⟨vs,e,hr,h1⟩:=hr
  subst h
  exact ⟨vs,e,hr.of_d,h1⟩
theorem QV.mono {tv tv':TV} (h:QV Γ P σ o R tv) (hi:∀ F w v,TRep F w tv v → TRep F w tv' v):QV Γ P σ o R tv':=fun a w F hs =>
  let ⟨v,hv,hr⟩:=h a w F hs
  ⟨v,hi F w v hv,hr⟩
theorem zu {x : Operand} {ty bt : TypeId} {d : TypeDesc} {b off id n : Nat} {cs : List TV} {ds : List D} (h : o.op = .load ty x) (hx : σ.ev x = some (true, .val (.pointer (some ⟨b, off, none⟩))))
    (hr:σ.rget id = some (.box b bt cs)) (hu:P.underlying ty = some d) (hd:rowD d = true) (hz:Sz P ty n) (hc:allD ((cs.drop off).take n) = some ds) (hn:ds.length = n) (hW:Sees R b):QV Γ P σ o R (.d (.agg ds)) :=
  (q_loadA h hx hr hu hd hz (yi hc) (by simpa using hn) hW).mono fun _ _ _ hh=>zEs rfl hh
theorem zDq {x : Operand} {ty : TypeId} {d : TypeDesc} {c : D} {cs : List D} (h : o.op = .load ty x) (hx : σ.ev x = some (true, .d (.ptr (c :: cs))))
    (hu:P.underlying ty = some d) (hd:rowD d = false) (hW:SeesF R):QV Γ P σ o R (.d c):=fun a w F hs=>by
  obtain ⟨b,off,e,⟨hf,v,hc,_,hr⟩,_⟩:=hs.ev hx
  refine ⟨v,hr,fun w' hw'=>?_⟩
  have hcell:w'.cell? ⟨b,off,none⟩ = some v:=(hW F w w' hw' b off (World.block_lt_of_cell? w ⟨b,off,none⟩ hc) hf).trans hc
  simp [execOp,h,e,Instr.loadAt,Instr.sureAddr,yS hu hd hcell]
theorem q_loadpA {x : Operand} {ty : TypeId} {d : TypeDesc} {cs cs' : List D} {n : Nat} (h : o.op = .load ty x) (hx : σ.ev x = some (true, .d (.ptr cs)))
    (hu:P.underlying ty = some d) (hd:rowD d = true) (hz:Sz P ty n) (hc:cs.take n = cs') (hn:cs'.length = n) (hW:SeesF R):QV Γ P σ o R (.d (.agg cs')):=fun a w F hs=>by
  obtain ⟨b,off,e,hr⟩:=hs.ev hx
  obtain ⟨vs,hvs,hone,hcells⟩:=hr.vals
  have h2:RepVals F w cs' (vs.take n):=by
    have:=(RepVals.to_d hvs).take n
    rw [← List.map_take,hc] at this
    exact this.of_d
  refine ⟨.agg (vs.take n).toArray,⟨_,rfl,h2,fun u hu=>hone u (List.mem_of_mem_take hu)⟩,fun w' hw'=>?_⟩
  have hl:=yr (P:=P) (w:=w') (b:=b) (o:=off) (vs:=vs.take n) hu hd (by rw [h2.length,hn]; exact hz) (fun j v hv=>by
    have:vs[j]? = some v:=by
      rw [List.getElem?_take] at hv
      split at hv
      · exact hv
      · cases hv
    have h3:=hcells j v this
    exact (hW F w w' hw' b (off + j) (World.block_lt_of_cell? w ⟨b,off + j,none⟩ h3.1) h3.2).trans h3.1)
  simp only [execOp,h,e,Instr.loadAt,Instr.sureAddr,Sem.run_bind,Sem.run_pure,Result.andThen_ok,hl]
theorem q_len {x : Operand} {t e : TypeId} {sz : Nat} {es : List (List D)} (h : o.op = .call { callee := .builtin .len, args := #[x], argTypes := #[t] })
    (hx:σ.ev x = some (true,.d (.slice sz es))) (ht:P.underlying t = some (.slice e)):QV Γ P σ o R (.d (.int .i64 es.length)):=fun a w F hs=>by
  obtain ⟨ad,cap,e1,_⟩:=hs.ev hx
  exact ⟨_,rfl,fun w' _=>by simp [execOp,h,resolve,invoke,builtin,e1,Builtin.len_,run_underlying ht,goInt]⟩
theorem q_lenNil {x : Operand} {t e : TypeId} (h : o.op = .call { callee := .builtin .len, args := #[x], argTypes := #[t] })
    (hx:σ.ev x = some (true,.d .nil)) (ht:P.underlying t = some (.slice e)):QV Γ P σ o R (.d (.int .i64 0)):=fun a w F hs=>by
  have e1:=hs.ev hx
  simp only [TRep,Rep] at e1
  exact ⟨_,rfl,fun w' _=>by simp [execOp,h,resolve,invoke,builtin,e1,Builtin.len_,run_underlying ht,goInt]⟩
theorem q_lenV {x : Operand} {t e : TypeId} {ad : Option Addr} {n cap : Nat} (h : o.op = .call { callee := .builtin .len, args := #[x], argTypes := #[t] })
    (hx:σ.ev x = some (true,.val (.slice ad n cap))) (ht:P.underlying t = some (.slice e)):QV Γ P σ o R (.d (.int .i64 n)):=fun a w F hs=>by
  have e1:=hs.ev hx
  simp only [TRep] at e1
  exact ⟨_,rfl,fun w' _=>by simp [execOp,h,resolve,invoke,builtin,e1,Builtin.len_,run_underlying ht,goInt]⟩
theorem zDu {F:Nat → Nat → Prop} {w:World} {own:Nat → Prop} {v:Value} {ty:TypeId} {sz:Nat} {es:List (List D)} (h:RowOK F w own v ty sz es):∃ ad cap,v = .slice ad es.length cap:=by
  rcases h with ⟨rfl,rfl⟩ | ⟨b,cap,vs,rfl,_⟩
  · exact ⟨none,0,rfl⟩
  · exact ⟨_,_,rfl⟩
theorem zEd {x : Operand} {t e ty : TypeId} {v : Value} {id sz : Nat} {es : List (List D)} (h : o.op = .call { callee := .builtin .len, args := #[x], argTypes := #[t] })
    (hx:σ.ev x = some (true,.val v)) (hr:σ.rget id = some (.row v ty sz es)) (ht:P.underlying t = some (.slice e)):QV Γ P σ o R (.d (.int .i64 es.length)):=fun a w F hs=>by
  have e1:=hs.ev hx
  simp only [TRep] at e1
  obtain ⟨ad,cap,e2⟩:=zDu (hs.rs id _ hr)
  exact ⟨_,rfl,fun w' _=>by simp [execOp,h,resolve,invoke,builtin,e1,e2,Builtin.len_,run_underlying ht,goInt]⟩
theorem q_lenS {x : Operand} {t : TypeId} {s : ByteArray} (h : o.op = .call { callee := .builtin .len, args := #[x], argTypes := #[t] })
    (hx:σ.ev x = some (true,.d (.str s))) (ht:P.underlying t = some .string):QV Γ P σ o R (.d (.int .i64 s.size)):=fun a w F hs=>by
  have e1:=hs.ev hx
  simp only [TRep,Rep] at e1
  exact ⟨_,rfl,fun w' _=>by simp [execOp,h,resolve,invoke,builtin,e1,Builtin.len_,run_underlying ht,goInt]⟩
/-- The values of a list of operands. -/
def evs (σ:St):List Operand → Option (List TV)
  | []=>some []
  | x :: r=>match σ.ev x,evs σ r with
    | some (true,tv),some tvs=>some (tv :: tvs)
    | _,_=>none
theorem RS.evs {a:Act} {w:World} {F:Nat → Nat → Prop} (h:RS Γ σ a w F):∀ {l:List Operand} {tvs:List TV},evs σ l = some tvs → TReps F w tvs (l.map a.eval)
  | [],_,e=>by simp [Go.Proofs.YticlpkgpmmhemaaGreatDoor.evs] at e; subst e; rfl
  | x :: r,tvs,e=>by
    simp only [Go.Proofs.YticlpkgpmmhemaaGreatDoor.evs] at e
    split at e
    · rename_i tv tvs' h1 h2
      cases e
      exact ⟨_,_,rfl,h.ev h1,RS.evs h h2⟩
    · cases e
/-- The values of a list of operands, all plain data. -/
def evsD (σ:St):List Operand → Option (List D)
  | []=>some []
  | x :: r=>match σ.ev x,evsD σ r with
    | some (true,.d d),some ds=>some (d :: ds)
    | _,_=>none
theorem ke:∀ {l:List Operand} {ds:List D},evsD σ l = some ds → Go.Proofs.YticlpkgpmmhemaaGreatDoor.evs σ l = some (ds.map .d)
  | [],_,e=>by simp [evsD] at e; subst e; rfl
  | x :: r,ds,e=>by
    simp only [evsD] at e
    split at e
    · rename_i d ds' h1 h2
      cases e
      simp only [Go.Proofs.YticlpkgpmmhemaaGreatDoor.evs,h1,ke h2]
      rfl
    · cases e
theorem zAD {fn:Fn} {fi ca:Array Operand} {fs cs:List TV} (h:o.op = .makeFunc fn fi ca) (h1:evs σ fi.toList = some fs) (h2:evs σ ca.toList = some cs):QV Γ P σ o R (.fn fn fs cs):=fun a w F hs =>
  ⟨_,⟨_,_,rfl,hs.evs h1,hs.evs h2⟩,fun w' _=>by
    simp only [execOp,h,Instr.makeFunc,Sem.run_bind,Sem.run_pure,Result.andThen_ok]
    congr 3 <;> (apply Array.ext'; simp)⟩
theorem yW {fn:Fn} {fi ca:Array Operand} {fs cs:List D} (h:o.op = .makeFunc fn fi ca) (h1:evsD σ fi.toList = some fs) (h2:evsD σ ca.toList = some cs):QV Γ P σ o R (.d (.fn fn fs cs)) :=
  (zAD h (ke h1) (ke h2)).mono fun _ _ _ ⟨vf,vc,e,k1,k2⟩=>⟨vf,vc,e,k1.of_d,k2.of_d⟩
theorem zEq {x y : Operand} {t t' : TypeId} {k : IntKind} {m n : Int} (h : o.op = .call { callee := .builtin .max, args := #[x, y], argTypes := #[t, t'] })
    (hx:σ.ev x = some (true,.d (.int k m))) (hy:σ.ev y = some (true,.d (.int k n))):QV Γ P σ o R (.d (.int k (max m n))):=fun a w F hs=>by
  have h1:=hs.ev hx
  have h2:=hs.ev hy
  simp only [TRep,Rep] at h1 h2
  refine ⟨.int k (max m n),rfl,fun w' _=>?_⟩
  have e:(if m < n then n else m) = max m n:=by split <;> omega
  simp [execOp,h,resolve,invoke,builtin,h1,h2,Builtin.max_,Builtin.max2,e]
end
theorem kF {Γ:Cx} {F:Nat → Nat → Prop} {w:World} {r:Res} {b:Nat} (h:ResOK Γ F w r) (hb:r.has b):b < w.heap.size:=by
  cases r with
  | gone=>exact hb.elim
  | box b' ty cs =>
    simp only [Res.has] at hb
    subst hb
    obtain ⟨_,_,vs,hh,_⟩:=h
    exact yO hh
  | row v ty sz es =>
    rcases h with ⟨rfl,_⟩ | ⟨b',cap,vs,rfl,_,hh,_⟩
    · simp [Res.has,Value.ownBlock] at hb
    · simp only [Res.has,Value.ownBlock,Option.some.injEq] at hb
      subst hb
      exact yO hh
  | obj b' o =>
    simp only [Res.has] at hb
    subst hb
    exact yO h.2.1
  | inv fp J=>exact (h.1 b hb).2
theorem kO {r:Res} {b:Nat} (h:r.blk = some b):r.has b:=by
  cases r <;> first | (simp [Res.blk] at h; done) | (simp only [Res.blk,Option.some.injEq] at h; exact h) | exact h
theorem yE {Γ:Cx} {F:Nat → Nat → Prop} {w:World} {r:Res} {b:Nat} (h:ResOK Γ F w r) (hb:r.has b):Γ.own b:=by
  cases r with
  | gone=>exact hb.elim
  | box b' ty cs =>
    simp only [Res.has] at hb
    subst hb
    exact h.1
  | row v ty sz es =>
    rcases h with ⟨rfl,_⟩ | ⟨b',cap,vs,rfl,ho,_⟩
    · simp [Res.has,Value.ownBlock] at hb
    · simp only [Res.has,Value.ownBlock,Option.some.injEq] at hb
      subst hb
      exact ho
  | obj b' o =>
    simp only [Res.has] at hb
    subst hb
    exact h.1
  | inv fp J=>exact (h.1 b hb).1
/-- From a world and what is frozen in it to a later one: blocks that were there stand but for one, in which the frozen cells stand. -/
structure Grow (F F':Nat → Nat → Prop) (w w':World) (but:Option Nat):Prop where
  os:w'.os = w.os
  tape:w'.tape = w.tape
  output:w'.output = w.output
  size:w.heap.size ≤ w'.heap.size
  block:∀ k,k < w.heap.size → some k ≠ but → w'.heap[k]? = w.heap[k]?
  ext:∀ b o,F b o → F' b o
  new:∀ b o,F' b o → b < w.heap.size → some b ≠ but → F b o
  cell:∀ b o,F' b o → ∃ v,w'.cell? ⟨b,o,none⟩ = some v
  keep:∀ b o,F b o → w'.cell? ⟨b,o,none⟩ = w.cell? ⟨b,o,none⟩
/-- What is said of a resource stands where its blocks stand. -/
theorem ResOK.stand {Γ Γ' : Cx} {F F' : Nat → Nat → Prop} {w w' : World} {r : Res} (h : ResOK Γ F w r) (ho : ∀ b, r.has b → Γ'.own b) (hs : w.heap.size ≤ w'.heap.size) (hb : ∀ b, r.has b → w'.heap[b]? = w.heap[b]?)
    (hF:∀ b o,r.has b → F' b o → F b o) (hext:Ext F F' w w'):ResOK Γ' F' w' r:=by
  cases r with
  | gone=>trivial
  | box b ty cs =>
    obtain ⟨h1,h2,vs,hh,h3,h4⟩:=h
    exact ⟨ho b rfl,fun o hf=>h2 o (hF b o rfl hf),vs,(hb b rfl).trans hh,h3.ext' hext,h4⟩
  | row v ty sz es =>
    rcases h with h | ⟨b,cap,vs,rfl,h1,hh,h2,h3,h4,h5,h6⟩
    · exact .inl h
    · exact .inr ⟨b,cap,vs,rfl,ho b rfl,(hb b rfl).trans hh,h2,h3,h4,h5.ext' hext,fun o hf=>h6 o (hF b o rfl hf)⟩
  | obj b o =>
    obtain ⟨h1,h2,h3,h4⟩:=h
    exact ⟨ho b rfl,(hb b rfl).trans h2,fun o hf=>h3 o (hF b o rfl hf),h4⟩
  | inv fp J =>
    obtain ⟨h1,h2,h3⟩:=h
    exact ⟨fun b hf=>⟨ho b hf,Nat.lt_of_lt_of_le (h1 b hf).2 hs⟩,h3 F F' w w' h2 hs hb hF hext,h3⟩
theorem ResOK.grow {Γ:Cx} {F F':Nat → Nat → Prop} {w w':World} {but:Option Nat} (hg:Grow F F' w w' but) {r:Res} (h:ResOK Γ F w r) (hne:∀ b,r.has b → some b ≠ but):ResOK Γ F' w' r :=
  h.stand (fun _ hb=>yE h hb) hg.size (fun b hb=>hg.block b (kF h hb) (hne b hb)) (fun b o hb hf=>hg.new b o hf (kF h hb) (hne b hb)) fun b o hf=>⟨hg.ext b o hf,hg.keep b o hf⟩
theorem Grow.agree {F F':Nat → Nat → Prop} {w w':World} {but:Option Nat} (hg:Grow F F' w w' but) {W:Nat → Prop} (hW:∀ b,but = some b → W b):Agree F W w w':=fun b o hlt h=>by
  rcases h with h | h
  · exact hg.keep b o h
  · have:=hg.block b hlt (fun e=>h (hW b e.symm))
    simp [World.cell?,this]
section
variable {Γ:Cx} {σ:St} {a:Act} {w w':World} {F F':Nat → Nat → Prop} {P:Program}
/-- Nothing that is owned is touched. -/
theorem RS.grow (h:RS Γ σ a w F) (hg:Grow F F' w w' none):RS Γ σ a w' F' where
  size:=h.size
  defers:=h.defers
  os:=hg.os.trans h.os
  tape:=hg.tape.trans h.tape
  output:=hg.output.trans h.output
  hsize:=Nat.le_trans h.hsize hg.size
  old:=fun k hk hl=>(hg.block k (Nat.lt_of_lt_of_le hk h.hsize) (by simp)).trans (h.old k hk hl)
  fcell:=hg.cell
  glob:=h.glob
  keep:=fun b o hf=>(hg.keep b o (h.f0 b o hf)).trans (h.keep b o hf)
  f0:=fun b o hf=>hg.ext b o (h.f0 b o hf)
  fnew:=fun b o hf hb hl=>h.fnew b o (hg.new b o hf (Nat.lt_of_lt_of_le hb h.hsize) (by simp)) hb hl
  tm:=fun t c tv hget=>⟨fun hc=>((h.tm t c tv hget).1 hc).ext' fun b o hf=>⟨hg.ext b o hf,hg.keep b o hf⟩,(h.tm t c tv hget).2⟩
  rs:=fun i r hr=>(h.rs i r hr).grow hg (by simp)
  sep:=h.sep
theorem zn {σ:St} {i j:Nat} {r:Res}:(σ.rput i r).rget j = if i = j then some r else σ.rget j:=by
  by_cases e:i = j
  · subst e; simp [St.rget,St.rput,zR]
  · simp [St.rget,St.rput,zT _ _ e,e]
/-- One resource changes (or comes, or goes): its block, if it has one, is its own or nobody's. -/
theorem RS.rput (h:RS Γ σ a w F) {i:Nat} {r:Res} (hr:ResOK Γ F w r) (hb:∀ b,r.has b → ∀ j r',j ≠ i → σ.rget j = some r' → ¬ r'.has b):RS Γ (σ.rput i r) a w F where
  size:=h.size
  defers:=h.defers
  os:=h.os
  tape:=h.tape
  output:=h.output
  hsize:=h.hsize
  old:=h.old
  fcell:=h.fcell
  glob:=h.glob
  keep:=h.keep
  f0:=h.f0
  fnew:=h.fnew
  tm:=h.tm
  rs:=fun j r' hget=>by
    rw [zn] at hget
    split at hget
    · cases hget; exact hr
    · exact h.rs j r' hget
  sep:=fun j j' r1 r2 b h1 h2 e1 e2=>by
    rw [zn] at h1 h2
    split at h1 <;> split at h2
    · omega
    · cases h1
      exact absurd e2 (hb b e1 j' r2 (by omega) h2)
    · cases h2
      exact absurd e1 (hb b e2 j r1 (by omega) h1)
    · exact h.sep j j' r1 r2 b h1 h2 e1 e2
/-- The one resource's block is written: then the resource is put anew. -/
theorem RS.write (h : RS Γ σ a w F) {i : Nat} {r r' : Res} {b : Nat} (hi : σ.rget i = some r) (hb : r.has b) (hb1 : ∀ c, r'.has c → c = b) (hown : Γ.own b) (hg : Grow F F' w w' (some b))
    (hr:ResOK Γ F' w' r'):RS Γ (σ.rput i r') a w' F':=by
  have hother:∀ j r1,j ≠ i → σ.rget j = some r1 → ¬ r1.has b:=fun j r1 hne hj e=>hne (h.sep j i r1 r b hj hi e hb)
  have h1:RS Γ (σ.rput i .gone) a w' F':={
    size:=h.size
    defers:=h.defers
    os:=hg.os.trans h.os
    tape:=hg.tape.trans h.tape
    output:=hg.output.trans h.output
    hsize:=Nat.le_trans h.hsize hg.size
    old:=fun k hk hl=>(hg.block k (Nat.lt_of_lt_of_le hk h.hsize) (fun e=>by cases e; rcases hown with ho | ho; omega; exact hl ho)).trans (h.old k hk hl)
    fcell:=hg.cell
    glob:=h.glob
    keep:=fun b o hf=>(hg.keep b o (h.f0 b o hf)).trans (h.keep b o hf)
    f0:=fun b o hf=>hg.ext b o (h.f0 b o hf)
    fnew:=fun c o hf hc hl=>by
      by_cases e:c = b
      · subst e; exact absurd hc (by have:=hown.resolve_right hl; omega)
      · exact h.fnew c o (hg.new c o hf (Nat.lt_of_lt_of_le hc h.hsize) (by simpa using e)) hc hl
    tm:=fun t c tv hget=>⟨fun hc=>((h.tm t c tv hget).1 hc).ext' fun b o hf=>⟨hg.ext b o hf,hg.keep b o hf⟩,(h.tm t c tv hget).2⟩
    rs:=fun j r1 hget=>by
      rw [zn] at hget
      split at hget
      · cases hget; trivial
      · rename_i hne
        exact (h.rs j r1 hget).grow hg (fun c hc e=>hother j r1 (fun e'=>hne e'.symm) hget (by cases e; exact hc))
    sep:=fun j j' r1 r2 c h1 h2 e1 e2=>by
      rw [zn] at h1 h2
      split at h1
      · cases h1; exact e1.elim
      · split at h2
        · cases h2; exact e2.elim
        · exact h.sep j j' r1 r2 c h1 h2 e1 e2 }
  have h2:=h1.rput (i:=i) hr (fun c hc j r1 hne hj=>by
    cases hb1 c hc
    rw [zn,if_neg (Ne.symm hne)] at hj
    exact hother j r1 hne hj)
  constructor
  case rs=>intro j r1 hget; refine h2.rs j r1 ?_; rw [zn] at hget ⊢; split at hget <;> simp_all [zn]
  case sep=>intro j j' r1 r2 c k1 k2; refine h2.sep j j' r1 r2 c ?_ ?_ <;> (rw [zn] at *; split <;> simp_all [zn])
  all_goals first | exact h2.size | exact h2.defers | exact h2.os | exact h2.tape | exact h2.output | exact h2.hsize | exact h2.old | exact h2.fcell | exact h2.glob | exact h2.keep | exact h2.f0 | exact h2.fnew | exact h2.tm
theorem Grow.alloc {F:Nat → Nat → Prop} {w:World} (hF:∀ b o,F b o → ∃ v,w.cell? ⟨b,o,none⟩ = some v) (o:Obj):Grow F F w (w.alloc o) none where
  os:=rfl
  tape:=rfl
  output:=rfl
  size:=by simp
  block:=fun k hk _=>Below.heap_alloc w o k hk
  ext:=fun _ _ h=>h
  new:=fun _ _ h _ _=>h
  cell:=fun b off hf=>by
    obtain ⟨v,hv⟩:=hF b off hf
    exact ⟨v,(World.cell?_alloc_lt w o ⟨b,off,none⟩ (World.block_lt_of_cell? w ⟨b,off,none⟩ hv)).trans hv⟩
  keep:=fun b off hf=>by
    obtain ⟨v,hv⟩:=hF b off hf
    exact World.cell?_alloc_lt w o ⟨b,off,none⟩ (World.block_lt_of_cell? w ⟨b,off,none⟩ hv)
/-- A new block of one's own. -/
theorem RS.newBox (h : RS Γ σ a w F) {ty : TypeId} {cs : List TV} {vs : Array Value} (i : Nat) (hr : TReps F w cs vs.toList) (h1 : ∀ v ∈ vs.toList, v.oneCell' = true) :
    RS Γ (σ.rput i (.box w.heap.size ty cs)) a (w.alloc (.cells vs ty)) F:=by
  have hg:=Grow.alloc (F:=F) h.fcell (.cells vs ty)
  refine (h.grow hg).rput ⟨.inl h.hsize,fun o hf=>?_,vs.toList,?_,hr.ext' fun b o hf=>⟨hf,hg.keep b o hf⟩,h1⟩ fun b hb j r' _ hj e=>?_
  · obtain ⟨v,hv⟩:=h.fcell _ o hf
    exact Nat.lt_irrefl _ (World.block_lt_of_cell? w ⟨_,o,none⟩ hv)
  · simpa using heap_alloc_new w (.cells vs ty)
  · cases hb
    exact Nat.lt_irrefl _ (kF (h.rs j r' hj) e)
end
def TV.cells:TV → List TV
  | .agg cs=>cs
  | .d (.agg ds)=>ds.map .d
  | tv=>[tv]
theorem TRep.cells {F:Nat → Nat → Prop} {w:World} {tv:TV} {v:Value} (h:TRep F w tv v) (h1:tv.cells.length = 1 → tv.one = true ∨ tv.cells ≠ [tv]):TReps F w tv.cells v.cells.toList ∧ ∀ u ∈ v.cells.toList,u.oneCell' = true:=by
  have single:tv.one = true → tv.cells = [tv] → TReps F w tv.cells v.cells.toList ∧ ∀ u ∈ v.cells.toList,u.oneCell' = true:=fun ho hc=>by
    rw [hc,cells_one (h.one ho)]
    exact ⟨⟨v,[],rfl,h,rfl⟩,by simpa using h.one ho⟩
  cases tv with
  | agg cs =>
    obtain ⟨vs,rfl,hr,ho⟩:=h
    exact ⟨by simpa [TV.cells,Value.cells] using hr,by simpa [Value.cells] using ho⟩
  | d x =>
    cases x with
    | agg ds =>
      obtain ⟨vs,rfl,hr,ho⟩:=h
      exact ⟨by simpa [TV.cells,Value.cells] using hr.to_d,by simpa [Value.cells] using ho⟩
    | _=>exact single ((h1 rfl).resolve_right (by simp [TV.cells])) rfl
  | _=>exact single ((h1 rfl).resolve_right (by simp [TV.cells])) rfl
/-- May be stored: one cell, or a struct. -/
def TV.flat:TV → Bool
  | .agg _ | .d (.agg _)=>true
  | tv=>tv.one
theorem TRep.flat {F:Nat → Nat → Prop} {w:World} {tv:TV} {v:Value} (h:TRep F w tv v) (hf:tv.flat = true):TReps F w tv.cells v.cells.toList ∧ ∀ u ∈ v.cells.toList,u.oneCell' = true:=by
  cases tv with
  | agg cs =>
    obtain ⟨vs,rfl,hr,ho⟩:=h
    exact ⟨by simpa [TV.cells,Value.cells] using hr,by simpa [Value.cells] using ho⟩
  | d x =>
    cases x with
    | agg ds =>
      obtain ⟨vs,rfl,hr,ho⟩:=h
      exact ⟨by simpa [TV.cells,Value.cells] using hr.to_d,by simpa [Value.cells] using ho⟩
    | _=>exact h.cells fun _=>.inl hf
  | _=>exact h.cells fun _=>.inl hf
section
variable {Γ:Cx} {P:Program} {σ:St} {ops:Array Oper} {o:Oper} {rest:List Oper} {Q:Exit → Act → World → Prop}
end
abbrev TV.ref (b off:Nat):TV:=.val (.pointer (some ⟨b,off,none⟩))
section
variable {Γ:Cx} {P:Program} {σ:St} {ops:Array Oper} {o:Oper} {rest:List Oper} {Q:Exit → Act → World → Prop} {W:Nat → Prop}
theorem zi (hg:o.guard = none) (a:Act):Region.wanted o (yielded ops a.tmps) = true:=by simp [Region.wanted,hg]
theorem zx {a b:Nat} (h:Nat.blt a b = true):a < b:=by simpa [Nat.blt_eq] using h
theorem s_box {x : Operand} {ty : TypeId} {tv : TV} {t : Nat} (id : Nat) (h : o.op = .box ty x) (hg : o.guard = none) (ht : o.dst = some t) (hn : Nat.blt t Γ.n = true)
    (hx:σ.ev x = some (true,tv)) (hf:tv.flat = true):StepW Γ P ops σ o W fun b=>(σ.put t true (.ref b 0)).rput id (.box b ty tv.cells):=fun a w F hs K Q hK=>by
  rw [if_pos (zi hg a)]
  obtain ⟨h1,h2⟩:=(hs.ev hx).flat hf
  have hrun:(execOp a.eval o).run P w = .ok (.value (.pointer (some ⟨w.heap.size,0,none⟩))) (w.alloc (.cells (a.eval x).cells ty)):=by
    simp [execOp,h,Instr.box,newVar,newRow]
  unfold Oper.wp
  rw [hrun]
  show K (a.put o.dst _) _
  rw [ht]
  exact hK w.heap.size _ _ F ((hs.newBox (ty:=ty) id h1 h2).put (zx hn) (fun _=>rfl) (fun h=>by cases h)) (fun _ _ h=>h) (by simp) ((Grow.alloc hs.fcell _).agree (fun _ e=>by cases e))
theorem yg {ty : TypeId} {z : Value} {cs : List TV} {t : Nat} (id : Nat) (h : o.op = .alloc ty) (hg : o.guard = none) (ht : o.dst = some t) (hn : Nat.blt t Γ.n = true)
    (hz:(P.info? ty).map (·.zero) = some (some z)) (hcs:z.cells.toList.map constTV = cs) (h1:z.cells.toList.all (·.oneCell') = true):StepW Γ P ops σ o W fun b=>(σ.put t true (.ref b 0)).rput id (.box b ty cs):=fun a w F hs K Q hK=>by
  rw [if_pos (zi hg a)]
  have hzr:(zeroValue ty).run P w = .ok z w:=by
    cases hq:P.info? ty with
    | none=>simp [hq] at hz
    | some i=>simp [hq] at hz; simp [zeroValue,typeInfo,hq,hz]
  have hrun:(execOp a.eval o).run P w = .ok (.value (.pointer (some ⟨w.heap.size,0,none⟩))) (w.alloc (.cells z.cells ty)):=by
    simp [execOp,h,Instr.alloc,newVar,newRow,hzr]
  have hc:TReps F w cs z.cells.toList:=by
    subst hcs
    generalize z.cells.toList = l
    induction l with
    | nil=>rfl
    | cons v l ih=>exact ⟨v,l,rfl,kg F w v,ih⟩
  unfold Oper.wp
  rw [hrun]
  show K (a.put o.dst _) _
  rw [ht]
  exact hK w.heap.size _ _ F ((hs.newBox (ty:=ty) id hc (List.all_eq_true.1 h1)).put (zx hn) (fun _=>rfl) (fun h=>by cases h)) (fun _ _ h=>h) (by simp) ((Grow.alloc hs.fcell _).agree (fun _ e=>by cases e))
theorem yw (w:World) (g:Nat) (cur new:Array Value) (t:TypeId) (h:w.heap[g]? = some (.cells cur t (0,0))):(w.setRow g new).heap[g]? = some (.cells new t (0,0)):=setRow_heap w g cur new t (0,0) h
theorem Grow.setRow {F : Nat → Nat → Prop} {w : World} {g : Nat} {cur new : Array Value} {t : TypeId} (hF : ∀ b o, F b o → ∃ v, w.cell? ⟨b, o, none⟩ = some v)
    (hg:w.heap[g]? = some (.cells cur t (0,0))) (hk:∀ o,F g o → new[o]? = cur[o]?):Grow F F w (w.setRow g new) (some g):=by
  have hblock:∀ k,k ≠ g → (w.setRow g new).heap[k]? = w.heap[k]?:=fun k hk=>by
    simp only [World.setRow,Array.getElem?_modify]
    rw [if_neg (by omega)]
  have hcell:∀ b o,F b o → (w.setRow g new).cell? ⟨b,o,none⟩ = w.cell? ⟨b,o,none⟩:=fun b o hf=>by
    by_cases e:b = g
    · subst e
      simp [World.cell?,yw w b cur new t hg,hg,hk o hf]
    · simp [World.cell?,hblock b e]
  exact ⟨rfl,rfl,rfl,by simp [World.setRow],fun k _ hne=>hblock k (fun e=>hne (by rw [e])),fun _ _ h=>h,fun _ _ h _ _=>h,
    fun b o hf=>by obtain ⟨v,hv⟩:=hF b o hf; exact ⟨v,(hcell b o hf).trans hv⟩,hcell⟩
theorem yN {x y : Operand} {ty bt : TypeId} {b off id n : Nat} {cs cs' : List TV} {tv : TV} (h : o.op = .store ty x y) (hg : o.guard = none) (hd : o.dst = none)
    (hx:σ.ev x = some (true,.val (.pointer (some ⟨b,off,none⟩)))) (hy:σ.ev y = some (true,tv)) (hf:tv.flat = true)
    (hb:σ.rget id = some (.box b bt cs)) (hz:Sz P ty n) (hl:tv.cells.length = n) (hle:off + n ≤ cs.length) (hcs:cs.take off ++ tv.cells ++ cs.drop (off + n) = cs') (hWb:W b):StepW Γ P ops σ o W fun _:Unit=>σ.rput id (.box b bt cs'):=fun a w F hs K Q hK=>by
  rw [if_pos (zi hg a)]
  have hx':=hs.ev hx
  simp only [TRep] at hx'
  obtain ⟨h1,h2⟩:=(hs.ev hy).flat hf
  obtain ⟨hown,hF,vs,hh,hvs,hone⟩:=hs.rs id _ hb
  have hlen:=hvs.length
  have hl1:=h1.length
  have hst:=run_storeCells_at P b off bt (a.eval y).cells.toList 0 vs.toArray w hh (by simp [hlen]; simp at hl1; omega) h2
  have hsz:(a.eval y).cells.size = n:=by simp at hl1; omega
  have hrun:(execOp a.eval o).run P w = .ok .skip (w.setRow b (vs.take off ++ (a.eval y).cells.toList ++ vs.drop (off + n)).toArray):=by
    simp only [Nat.add_zero] at hst
    simp [execOp,h,hx',Instr.storeAt,Instr.sureAddr,storeVar,kE hz,hsz,hst]
  unfold Oper.wp
  rw [hrun]
  show K (a.put o.dst _) _
  rw [hd]
  have hg':Grow F F w (w.setRow b (vs.take off ++ (a.eval y).cells.toList ++ vs.drop (off + n)).toArray) (some b):=Grow.setRow hs.fcell hh (fun o ho=>absurd ho (hF o))
  refine hK () _ _ F (hs.write hb rfl (fun _ e=>e.symm) hown hg' ⟨hown,hF,_,yw w b _ _ bt hh,?_,?_⟩) (fun _ _ h=>h) hg'.size (hg'.agree (fun c e=>by cases e; exact hWb))
  · subst hcs
    exact (((hvs.take off).append h1).append (hvs.drop (off + n))).ext' fun c o hf=>⟨hf,hg'.keep c o hf⟩
  · intro v hv
    simp only [List.mem_append] at hv
    rcases hv with (hv | hv) | hv
    · exact hone v (List.mem_of_mem_take hv)
    · exact h2 v hv
    · exact hone v (List.mem_of_mem_drop hv)
theorem g_freeze' {t id b : Nat} {bt : TypeId} {ds : List D} (ht : σ.get t = some (true, .val (.pointer (some ⟨b, 0, none⟩)))) (hn : Nat.blt t Γ.n = true) (hb : σ.rget id = some (.box b bt (ds.map .d)))
   :Ghost Γ σ ((σ.put t true (.d (.ptr ds))).rput id .gone):=fun a w F hs=>by
  obtain ⟨hown,hF,vs,hh,hvs,hone⟩:=hs.rs id _ hb
  have hblt:=yO hh
  let F':Nat → Nat → Prop:=fun c o=>F c o ∨ (c = b ∧ o < vs.length)
  have hcell:∀ j v,vs[j]? = some v → w.cell? ⟨b,j,none⟩ = some v:=fun j v hv=>(yk hh).trans hv
  have hg:Grow F F' w w (some b):={
    os:=rfl
    tape:=rfl
    output:=rfl
    size:=Nat.le_refl _
    block:=fun _ _ _=>rfl
    ext:=fun _ _ h=>.inl h
    new:=fun c o hf _ hne=>hf.resolve_right (fun e=>hne (by rw [e.1]))
    cell:=fun c o hf=>by
      rcases hf with hf | ⟨rfl,hlt⟩
      · exact hs.fcell c o hf
      · exact ⟨vs[o],hcell o _ (List.getElem?_eq_getElem hlt)⟩
    keep:=fun _ _ _=>rfl }
  have hext:Ext F F' w w:=fun c o hf=>⟨.inl hf,rfl⟩
  -- the resource goes; the slot reads as frozen data
  have h2:RS Γ (σ.rput id .gone) a w F':={
    size:=hs.size
    defers:=hs.defers
    os:=hs.os
    tape:=hs.tape
    output:=hs.output
    hsize:=hs.hsize
    old:=hs.old
    fcell:=hg.cell
    glob:=hs.glob
    keep:=hs.keep
    f0:=fun c o hf=>.inl (hs.f0 c o hf)
    fnew:=fun c o hf hc hl=>by
      rcases hf with hf | ⟨rfl,_⟩
      · exact hs.fnew c o hf hc hl
      · exact absurd hc (by have:=hown.resolve_right hl; omega)
    tm:=fun t c tv hget=>⟨fun hc=>((hs.tm t c tv hget).1 hc).ext' hext,(hs.tm t c tv hget).2⟩
    rs:=fun j r1 hget=>by
      rw [zn] at hget
      split at hget
      · cases hget; trivial
      · rename_i hne
        exact (hs.rs j r1 hget).grow hg (fun c hc e=>hne (hs.sep id j _ r1 b hb hget rfl (by cases e; exact hc)))
    sep:=fun j j' r1 r2 c h1 h2 e1 e2=>by
      rw [zn] at h1 h2
      split at h1
      · cases h1; exact e1.elim
      · split at h2
        · cases h2; exact e2.elim
        · exact hs.sep j j' r1 r2 c h1 h2 e1 e2 }
  have hv:=(hs.tm t true _ ht).1 rfl
  simp only [TRep] at hv
  have h3:=h2.put (t:=t) (c:=true) (tv:=.d (.ptr ds)) (v:=a.tmps.getD t undef) (zx hn) (fun _=>⟨b,0,hv,RepCells.of_vals (hvs.of_d.ext' hext) hone fun j v hj=>⟨by simpa using hcell j v hj,.inr ⟨rfl,by simpa using (List.getElem?_eq_some_iff.1 hj).1⟩⟩⟩) (fun h=>by cases h)
  have ha:a.put (some t) (a.tmps.getD t undef) = a:=by
    have hlt:t < a.tmps.size:=Nat.lt_of_lt_of_le (zx hn) hs.size
    cases a with
    | mk tm df =>
      simp only [Act.put]
      congr 1
      apply Array.ext
      · simp
      · intro i k1 k2
        rw [Array.getElem_setIfInBounds (by simpa using k2)]
        split
        · rename_i e; subst e; simp
        · rfl
  rw [ha] at h3
  exact ⟨F',h3,fun _ _ h=>.inl h⟩
theorem kn {t b : Nat} (id : Nat) {bt : TypeId} {cs : List TV} {ds : List D} (ht : σ.get t = some (true, .val (.pointer (some ⟨b, 0, none⟩)))) (hn : Nat.blt t Γ.n = true) (hb : σ.rget id = some (.box b bt cs))
    (hd:allD cs = some ds) (hl:True):Ghost Γ σ ((σ.put t true (.d (.ptr ds))).rput id .gone) :=
  g_freeze' ht hn (by rw [hb,yi hd])
/-- One cell. -/
theorem s_store1 {x y : Operand} {ty bt : TypeId} {b off id : Nat} {cs cs' : List TV} {tv : TV} (h : o.op = .store ty x y) (hg : o.guard = none) (hd : o.dst = none)
    (hx:σ.ev x = some (true,.val (.pointer (some ⟨b,off,none⟩)))) (hy:σ.ev y = some (true,tv)) (hf:tv.one = true)
    (hb:σ.rget id = some (.box b bt cs)) (hz:Sz P ty 1) (hle:off < cs.length) (hcs:cs.set off tv = cs') (hWb:W b):StepW Γ P ops σ o W fun _:Unit=>σ.rput id (.box b bt cs'):=by
  have hc:tv.cells = [tv]:=by
    cases tv with
    | d x=>cases x <;> first | rfl | (simp [TV.one,D.one] at hf)
    | agg _=>simp [TV.one] at hf
    | _=>rfl
  have hfl:tv.flat = true:=by
    cases tv with
    | d x=>cases x <;> first | rfl | exact hf | (simp [TV.one,D.one] at hf)
    | agg _=>rfl
    | _=>exact hf
  refine yN h hg hd hx hy hfl hb hz (by rw [hc]; rfl) hle (cs':=cs') ?_ hWb
  rw [hc,← hcs,List.set_eq_take_append_cons_drop,if_pos hle]
  simp
end
theorem RepCells.append {F:Nat → Nat → Prop} {w:World}:∀ {ds es:List D} {b o:Nat},RepCells F w (ds ++ es) b o ↔ RepCells F w ds b o ∧ RepCells F w es b (o + ds.length)
  | [],es,b,o=>by simp [RepCells]
  | d :: ds,es,b,o=>by
    simp only [List.cons_append,RepCells,RepCells.append (ds:=ds),List.length_cons]
    rw [show o + 1 + ds.length = o + (ds.length + 1) by omega]
    simp only [and_assoc]
theorem RepRows.flat {F:Nat → Nat → Prop} {w:World}:∀ {es:List (List D)} {b o sz:Nat},RepRows F w es b o sz ↔ (∀ c ∈ es,c.length = sz) ∧ RepCells F w es.flatten b o
  | [],b,o,sz=>by simp [RepRows,RepCells]
  | c :: cs,b,o,sz=>by
    simp only [RepRows,RepRows.flat (es:=cs),List.flatten_cons,RepCells.append,List.mem_cons,forall_eq_or_imp]
    constructor
    · rintro ⟨rfl,h1,h2,h3⟩; exact ⟨⟨rfl,h2⟩,h1,h3⟩
    · rintro ⟨⟨rfl,h2⟩,h1,h3⟩; exact ⟨rfl,h1,h2,h3⟩
theorem yj:∀ {es:List (List D)} {sz:Nat},(∀ c ∈ es,c.length = sz) → es.flatten.length = es.length * sz
  | [],sz,_=>by simp
  | c :: cs,sz,h=>by
    rw [List.flatten_cons,List.length_append,h c (by simp),yj (fun x hx=>h x (by simp [hx])),List.length_cons,Nat.add_mul]
    omega
theorem RepRows.vals {F : Nat → Nat → Prop} {w : World} {es : List (List D)} {b o sz : Nat} (h : RepRows F w es b o sz) : ∃ xs : List Value, xs.length = es.length * sz ∧ RepVals F w es.flatten xs ∧
    (∀ u ∈ xs,u.oneCell' = true) ∧ ∀ j v,xs[j]? = some v → w.cell? ⟨b,o + j,none⟩ = some v ∧ F b (o + j):=by
  obtain ⟨h1,h2⟩:=RepRows.flat.1 h
  obtain ⟨xs,h3,h4,h5⟩:=h2.vals
  exact ⟨xs,by rw [h3.length,yj h1],h3,h4,h5⟩
/-- A slice as data: what is known of the value. -/
theorem slice_vals {F : Nat → Nat → Prop} {w : World} {sz : Nat} {es : List (List D)} {v : Value} (h : Rep F w (.slice sz es) v) : ∃ ad cap, v = .slice ad es.length cap ∧
    (es = [] ∨ ∃ b o,ad = some ⟨b,o,none⟩ ∧ RepRows F w es b o sz):=by
  obtain ⟨ad,cap,e,_,_,hr⟩:=h
  exact ⟨ad,cap,e,hr⟩
theorem zBf {F:Nat → Nat → Prop} {w:World} {own:Nat → Prop} {v:Value} {ty:TypeId} {sz:Nat} {es:List (List D)} (h:RowOK F w own v ty sz es):Rep F w (.slice sz es) v:=by
  rcases h with ⟨rfl,rfl⟩ | ⟨b,cap,vs,rfl,_,_,h1,h2,_,h3,_⟩
  · exact ⟨none,0,rfl,Nat.le_refl _,Nat.zero_le _,.inl rfl⟩
  · exact ⟨_,cap,rfl,h1,h2,.inr ⟨b,0,rfl,h3⟩⟩
/-- The facts on an element's type. -/
structure ElT (P:Program) (t e:TypeId) (sz bytes:Nat):Prop where
  ht:P.underlying t = some (.slice e)
  info:∃ i z,P.info? e = some i ∧ i.zero = some z ∧ i.size = sz ∧ i.bytes = bytes ∧ z.cells.size = sz
  pos:0 < sz
theorem yv {P : Program} {t ty e : TypeId} {sz bytes : Nat} (hT : ElT P t e sz bytes) {w : World} {base ad : Option Addr} {n cap c : Nat} (hc : n ≤ cap) (hb : base = none → n = 0) :
    (Builtin.append_ #[t,t] ty #[.slice base n cap,.slice ad 0 c]).run P w = .ok (.slice base n cap) w:=by
  obtain ⟨i,z,hi,hz,rfl,rfl,_⟩:=hT.info
  cases ad <;> cases base <;> simp [Builtin.append_,run_underlying hT.ht,sizeOf,typeInfo,hi,Builtin.lenOf,Builtin.firstCells,hc,storeCells,loadCells,loadCellsFrom]
theorem append_run {P : Program} {t ty e : TypeId} {sz bytes : Nat} (hT : ElT P t e sz bytes) {F : Nat → Nat → Prop} {w : World} {own : Nat → Prop} {v u : Value} {es fs : List (List D)}
    (hF:∀ b o,F b o → ∃ v,w.cell? ⟨b,o,none⟩ = some v) (hown:∀ b,w.heap.size ≤ b → own b)
    (hv:RowOK F w own v e sz es) (hu:Rep F w (.slice sz fs) u) (hb:(es.length + fs.length) * bytes ≤ 140737488355328) (h63:es.length + fs.length ≤ 9223372036854775807) :
    ∃ v' w' F',(Builtin.append_ #[t,t] ty #[v,u]).run P w = .ok v' w' ∧ RowOK F' w' own v' e sz (es ++ fs) ∧
      ((v'.ownBlock = v.ownBlock ∧ Grow F F' w w' v.ownBlock ∧ ∀ b o,F' b o → some b = v.ownBlock → own b ∧ b < w.heap.size) ∨ (v'.ownBlock = some w.heap.size ∧ Grow F F' w w' none)):=by
  obtain ⟨i,z,hi,hz,hisz,hibt,hzs⟩:=hT.info
  have hpos:=hT.pos
  obtain ⟨ad,c,rfl,hfs⟩:=slice_vals hu
  by_cases hm:fs = []
  · subst hm
    rcases hv with ⟨rfl,rfl⟩ | ⟨b,cap,vs,rfl,h1,hh,h2,h3,h4,h5,h6⟩
    · refine ⟨_,w,F,yv hT (by simp) (fun _=>rfl),.inl ⟨rfl,rfl⟩,.inl ⟨rfl,⟨rfl,rfl,rfl,Nat.le_refl _,fun _ _ _=>rfl,fun _ _ h=>h,fun _ _ h _ _=>h,hF,fun _ _ _=>rfl⟩,fun _ _ _ h=>by cases h⟩⟩
    · refine ⟨_,w,F,yv hT h2 (by simp),?_,.inl ⟨rfl,⟨rfl,rfl,rfl,Nat.le_refl _,fun _ _ _=>rfl,fun _ _ h=>h,fun _ _ h _ _=>h,hF,fun _ _ _=>rfl⟩,fun b' o _ h=>?_⟩⟩
      · rw [List.append_nil]; exact .inr ⟨b,cap,vs,rfl,h1,hh,h2,h3,h4,h5,h6⟩
      · simp only [Value.ownBlock,Option.some.injEq] at h; subst h; exact ⟨h1,yO hh⟩
  obtain ⟨b2,o2,rfl,hr2⟩:=hfs.resolve_left hm
  obtain ⟨ns,hnl,hnr,hn1,hnc⟩:=hr2.vals
  have hnews:∀ j x,ns[j]? = some x → w.cell? ((⟨b2,o2,none⟩:Addr).add j) = some x:=fun j x hx=>by rw [yZ]; exact (hnc j x hx).1
  have hfl:0 < fs.length:=by cases fs with | nil=>exact absurd rfl hm | cons _ _=>simp
  have hfsz:=(RepRows.flat.1 hr2).1
  -- a new block that holds what was there and what came
  have fresh : ∀ (xs : List Value) (cap : Nat) (tail : List Value), RepVals F w es.flatten xs → (∀ c ∈ es, c.length = sz) → (∀ x ∈ xs, x.oneCell' = true) → xs.length = es.length * sz →
      es.length + fs.length ≤ cap → cap ≤ maxLen → (xs ++ ns ++ tail).length = cap * sz →
      ∃ F',RowOK F' (w.drew.alloc (.cells (xs ++ ns ++ tail).toArray e)) own (.slice (some ⟨w.heap.size,0,none⟩) (es.length + fs.length) cap) e sz (es ++ fs) ∧
        Grow F F' w (w.drew.alloc (.cells (xs ++ ns ++ tail).toArray e)) none:=by
    intro xs cap tail hx hes hx1 hxl hcap hcm hlen
    let F':Nat → Nat → Prop:=fun b o=>F b o ∨ (b = w.heap.size ∧ o < (es.length + fs.length) * sz)
    have hnewc:∀ j x,(xs ++ ns)[j]? = some x → (w.drew.alloc (.cells (xs ++ ns ++ tail).toArray e)).cell? ⟨w.heap.size,j,none⟩ = some x:=fun j x hx=>by
      have:=World.cell?_alloc_new w.drew (xs ++ ns ++ tail).toArray e j
      rw [World.size_drew] at this
      rw [this]
      have hj:=(List.getElem?_eq_some_iff.1 hx).1
      simp only [List.getElem?_toArray]
      rw [List.getElem?_append_left hj]
      exact hx
    have hxnl:(xs ++ ns).length = (es.length + fs.length) * sz:=by rw [List.length_append,hxl,hnl,Nat.add_mul]
    have hg:Grow F F' w (w.drew.alloc (.cells (xs ++ ns ++ tail).toArray e)) none:={
      os:=rfl
      tape:=rfl
      output:=rfl
      size:=by simp
      block:=fun k hk _=>Below.heap_alloc w.drew _ k hk
      ext:=fun _ _ h=>.inl h
      new:=fun b o h hlt _=>h.resolve_right (fun e=>by omega)
      cell:=fun b o h=>by
        rcases h with h | ⟨rfl,h⟩
        · obtain ⟨x,hx⟩:=hF b o h
          exact ⟨x,(World.cell?_alloc_lt w.drew _ ⟨b,o,none⟩ (World.block_lt_of_cell? w ⟨b,o,none⟩ hx)).trans hx⟩
        · exact ⟨_,hnewc o _ (List.getElem?_eq_getElem (by omega))⟩
      keep:=fun b o h=>by
        obtain ⟨x,hx⟩:=hF b o h
        exact World.cell?_alloc_lt w.drew _ ⟨b,o,none⟩ (World.block_lt_of_cell? w ⟨b,o,none⟩ hx) }
    have hext:Ext F F' w _:=fun b o hf=>⟨hg.ext b o hf,hg.keep b o hf⟩
    refine ⟨F',.inr ⟨w.heap.size,cap,_,by rw [List.length_append],hown _ (Nat.le_refl _),heap_alloc_new w.drew _,by rw [List.length_append]; exact hcap,hcm,by simpa using hlen,?_,?_⟩,hg⟩
    · refine RepRows.flat.2 ⟨fun c hc=>?_,?_⟩
      · rcases List.mem_append.1 hc with hc | hc
        · exact hes c hc
        · exact hfsz c hc
      · rw [List.flatten_append]
        refine RepCells.of_vals ((hx.append hnr).ext' hext) (fun x hx=>?_) (fun j x hj=>?_)
        · rcases List.mem_append.1 hx with hx | hx
          · exact hx1 x hx
          · exact hn1 x hx
        · rw [Nat.zero_add]
          exact ⟨hnewc j x hj,.inr ⟨rfl,by have:=(List.getElem?_eq_some_iff.1 hj).1; omega⟩⟩
    · intro o ho
      rcases ho with ho | ⟨_,ho⟩
      · obtain ⟨x,hx⟩:=hF _ o ho
        exact absurd (World.block_lt_of_cell? w ⟨_,o,none⟩ hx) (Nat.lt_irrefl _)
      · rw [List.length_append]; exact ho
  have hzl:∀ k,(Builtin.zeroCells z.cells k).toList.length = k * sz:=fun k=>by simp [Builtin.zeroCells,hzs]
  rcases hv with ⟨rfl,rfl⟩ | ⟨b,cap,vs,rfl,h1,hh,h2,h3,h4,h5,h6⟩
  · have hr:=run_append_nil (P:=P) w t ty e i z hT.ht hi hz ⟨b2,o2,none⟩ fs.length c ns (by rw [hisz]; exact hnl) hnews hfl (by simp at h63; omega) (by simp at hb; rw [hibt]; omega)
    obtain ⟨F',h1,h2⟩:=fresh [] (grownCap w fs.length 0 e) (Builtin.zeroCells z.cells (grownCap w fs.length 0 e - fs.length)).toList rfl (by simp) (by simp) (by simp)
      (by simpa using grownCap_ge w fs.length 0 e) (grownCap_le_maxLen w fs.length 0 e (by simp only [maxLen]; simp at h63; omega)) (by
        rw [List.length_append,List.nil_append,hnl,hzl,← Nat.add_mul]
        congr 1
        have:=grownCap_ge w fs.length 0 e
        omega)
    have harr:([] ++ ns ++ (Builtin.zeroCells z.cells (grownCap w fs.length 0 e - fs.length)).toList).toArray = ns.toArray ++ Builtin.zeroCells z.cells (grownCap w fs.length 0 e - fs.length):=by
      apply Array.ext'; simp
    rw [harr] at h1 h2
    simp only [List.length_nil,Nat.zero_add,List.nil_append] at h1
    exact ⟨_,_,F',hr,h1,.inr ⟨rfl,h2⟩⟩
  · obtain ⟨xs,hxl,hxr,hx1,hxc⟩:=h5.vals
    have hxv:vs.toList.take (es.length * sz) = xs:=by
      apply List.ext_getElem?
      intro j
      rw [List.getElem?_take]
      split
      · rename_i hj
        have hj':j < xs.length:=by omega
        have:=(hxc j xs[j] (List.getElem?_eq_getElem hj')).1
        rw [Nat.zero_add] at this
        rw [List.getElem?_eq_getElem hj',← this]
        simp [World.cell?,hh]
      · rw [List.getElem?_eq_none (by omega)]
    by_cases hroom:es.length + fs.length ≤ cap
    · have hfit:es.length * i.size + ns.length ≤ vs.size:=by rw [hnl,h4,hisz,← Nat.add_mul]; exact Nat.mul_le_mul_right _ hroom
      have hr:=run_append_room (P:=P) w t ty e i hT.ht hi b es.length cap vs hh ⟨b2,o2,none⟩ fs.length c ns (by rw [hisz]; exact hnl) hnews hn1 hroom hfit
      rw [hisz,hxv] at hr
      let F':Nat → Nat → Prop:=fun b' o=>F b' o ∨ (b' = b ∧ o < (es.length + fs.length) * sz)
      have hxnl:(xs ++ ns).length = (es.length + fs.length) * sz:=by rw [List.length_append,hxl,hnl,Nat.add_mul]
      have hrow:(w.setRow b (xs ++ ns ++ vs.toList.drop (es.length * sz + ns.length)).toArray).heap[b]? = some (.cells (xs ++ ns ++ vs.toList.drop (es.length * sz + ns.length)).toArray e (0,0)):=yw w b vs _ e hh
      have hnewc:∀ j x,(xs ++ ns)[j]? = some x → (w.setRow b (xs ++ ns ++ vs.toList.drop (es.length * sz + ns.length)).toArray).cell? ⟨b,j,none⟩ = some x:=fun j x hx=>by
        have hj:=(List.getElem?_eq_some_iff.1 hx).1
        simp only [World.cell?,hrow,Option.isSome_none,Bool.false_eq_true,if_false,List.getElem?_toArray]
        rw [List.getElem?_append_left hj]
        exact hx
      have hg0:Grow F F w (w.setRow b (xs ++ ns ++ vs.toList.drop (es.length * sz + ns.length)).toArray) (some b):=Grow.setRow hF hh (fun o ho=>by
        have hlt:=h6 o ho
        have hj:o < xs.length:=by omega
        simp only [List.getElem?_toArray]
        rw [List.append_assoc,List.getElem?_append_left hj,← hxv,List.getElem?_take,if_pos hlt]
        simp)
      have hg:Grow F F' w (w.setRow b (xs ++ ns ++ vs.toList.drop (es.length * sz + ns.length)).toArray) (some b):={
        hg0 with
        ext:=fun _ _ h=>.inl h
        new:=fun b' o h _ hne=>h.resolve_right (fun e=>hne (by rw [e.1]))
        cell:=fun b' o h=>by
          rcases h with h | ⟨rfl,h⟩
          · exact hg0.cell b' o h
          · exact ⟨_,hnewc o _ (List.getElem?_eq_getElem (by omega))⟩ }
      have hext:Ext F F' w _:=fun b o hf=>⟨hg.ext b o hf,hg.keep b o hf⟩
      have hesz:=(RepRows.flat.1 h5).1
      refine ⟨_,_,F',hr,.inr ⟨b,cap,_,by rw [List.length_append],h1,hrow,by rw [List.length_append]; exact hroom,h3,?_,?_,?_⟩,.inl ⟨rfl,hg,fun b' o _ h=>?_⟩⟩
      · simp only [List.size_toArray,List.length_append,List.length_drop,Array.length_toList,hxl]
        rw [hisz] at hfit
        omega
      · refine RepRows.flat.2 ⟨fun c hc=>?_,?_⟩
        · rcases List.mem_append.1 hc with hc | hc
          · exact hesz c hc
          · exact hfsz c hc
        · rw [List.flatten_append]
          refine RepCells.of_vals ((hxr.append hnr).ext' hext) (fun x hx=>?_) (fun j x hj=>?_)
          · rcases List.mem_append.1 hx with hx | hx
            · exact hx1 x hx
            · exact hn1 x hx
          · rw [Nat.zero_add]
            exact ⟨hnewc j x hj,.inr ⟨rfl,by have:=(List.getElem?_eq_some_iff.1 hj).1; omega⟩⟩
      · intro o ho
        rw [List.length_append]
        rcases ho with ho | ⟨_,ho⟩
        · exact Nat.lt_of_lt_of_le (h6 o ho) (Nat.mul_le_mul_right _ (by omega))
        · exact ho
      · simp only [Value.ownBlock,Option.some.injEq] at h; subst h; exact ⟨h1,yO hh⟩
    · have holds:∀ j x,xs[j]? = some x → w.cell? ((⟨b,0,none⟩:Addr).add j) = some x:=fun j x hx=>by rw [yZ]; exact (hxc j x hx).1
      have hr:=run_append_grow (P:=P) w t ty e i z hT.ht hi hz ⟨b,0,none⟩ es.length cap xs (by rw [hisz]; exact hxl) holds ⟨b2,o2,none⟩ fs.length c ns (by rw [hisz]; exact hnl) hnews (by omega) (by omega)
        (growslice_fits (by omega) (by rw [hibt]; exact hb))
      obtain ⟨F',k1,k2⟩:=fresh xs (grownCap w (es.length + fs.length) cap e) (Builtin.zeroCells z.cells (grownCap w (es.length + fs.length) cap e - (es.length + fs.length))).toList hxr (RepRows.flat.1 h5).1 hx1 hxl
        (grownCap_ge w _ cap e) (grownCap_le_maxLen w _ cap e (by simp only [maxLen]; omega)) (by
          rw [List.length_append,List.length_append,hxl,hnl,hzl,← Nat.add_mul,← Nat.add_mul]
          congr 1
          have:=grownCap_ge w (es.length + fs.length) cap e
          omega)
      have harr:(xs ++ ns ++ (Builtin.zeroCells z.cells (grownCap w (es.length + fs.length) cap e - (es.length + fs.length))).toList).toArray = xs.toArray ++ ns.toArray ++ Builtin.zeroCells z.cells (grownCap w (es.length + fs.length) cap e - (es.length + fs.length)):=by
        apply Array.ext'; simp
      rw [harr] at k1 k2
      exact ⟨_,_,F',hr,k1,.inr ⟨rfl,k2⟩⟩
section
variable {Γ:Cx} {P:Program} {σ:St} {ops:Array Oper} {o:Oper} {rest:List Oper} {Q:Exit → Act → World → Prop} {W:Nat → Prop}
/-- append(s, t...), s a row of one's own. (The rows are never lent: 'hnl'.) -/
theorem s_append {x y : Operand} {t e : TypeId} {sz bytes id dt : Nat} {v : Value} {es fs : List (List D)} (h : o.op = .call { callee := .builtin .append, args := #[x, y], argTypes := #[t, t] })
    (hg:o.guard = none) (hd:o.dst = some dt) (hn:Nat.blt dt Γ.n = true) (hT:ElT P t e sz bytes) (hnl:True)
    (hx:σ.ev x = some (true,.val v)) (hres:σ.rget id = some (.row v e sz es)) (hy:σ.ev y = some (true,.d (.slice sz fs)))
    (hb:(es.length + fs.length) * bytes ≤ 140737488355328) (h63:es.length + fs.length ≤ 9223372036854775807) (hWb:∀ b,v.ownBlock = some b → W b) :
    StepW Γ P ops σ o W fun v'=>(σ.put dt true (.val v')).rput id (.row v' e sz (es ++ fs)):=fun a w F hs K Q hK=>by
  rw [if_pos (zi hg a)]
  have hx':=hs.ev hx
  simp only [TRep] at hx'
  have hu:=hs.ev hy
  have hrow:=hs.rs id _ hres
  obtain ⟨v',w',F',hrun,hrow',hcase⟩:=append_run (ty:=o.type) hT hs.fcell (fun b hb=>.inl (Nat.le_trans hs.hsize hb)) hrow hu hb h63
  have hex:(execOp a.eval o).run P w = .ok (.value v') w':=by
    simp [execOp,h,resolve,invoke,builtin,hx',hrun]
  unfold Oper.wp
  rw [hex]
  show K (a.put o.dst _) _
  rw [hd]
  have hfin:RS Γ (σ.rput id (.row v' e sz (es ++ fs))) a w' F':=by
    rcases hcase with ⟨e1,hgr,hnew⟩ | ⟨e1,hgr⟩
    · cases hvb:v.ownBlock with
      | none =>
        rw [hvb] at hgr
        exact (hs.grow hgr).rput hrow' (fun b hb'=>by rw [Res.has,e1,hvb] at hb'; cases hb')
      | some b =>
        rw [hvb] at hgr e1
        have hownb:Γ.own b:=by
          rcases hrow with ⟨rfl,_⟩ | ⟨b',cap,vs,rfl,k1,_⟩
          · simp [Value.ownBlock] at hvb
          · simp only [Value.ownBlock,Option.some.injEq] at hvb; subst hvb; exact k1
        exact hs.write hres hvb (fun c hc=>by rw [Res.has,e1] at hc; cases hc; rfl) hownb hgr hrow'
    · refine (hs.grow hgr).rput hrow' (fun b hb' j r' _ hj e2=>?_)
      rw [Res.has,e1] at hb'
      cases hb'
      exact Nat.lt_irrefl _ (kF (hs.rs j r' hj) e2)
  have hg2:∃ but,Grow F F' w w' but ∧ ∀ b,but = some b → W b:=by
    rcases hcase with ⟨_,hgr,_⟩ | ⟨_,hgr⟩
    · exact ⟨_,hgr,hWb⟩
    · exact ⟨_,hgr,fun _ e=>by cases e⟩
  obtain ⟨but,hg2,hg3⟩:=hg2
  exact hK v' _ _ F' (hfin.put (zx hn) (fun _=>rfl) (fun h=>by cases h)) hg2.ext hg2.size (hg2.agree hg3)
/-- nil as a row of one's own. -/
theorem g_nil {t id : Nat} (e : TypeId) (sz : Nat) (ht : σ.get t = some (true, .d .nil)) (hn : Nat.blt t Γ.n = true)
   :Ghost Γ σ ((σ.put t true (.val (.slice none 0 0))).rput id (.row (.slice none 0 0) e sz [])):=fun a w F hs=>by
  have h1:=hs.rput (i:=id) (r:=.row (.slice none 0 0) e sz []) (.inl ⟨rfl,rfl⟩) (fun b hb=>by simp [Res.has,Value.ownBlock] at hb)
  refine ⟨F,?_,fun _ _ h=>h⟩
  exact {
    h1 with
    tm:=fun t' c tv hget=>by
      by_cases e:t = t'
      · subst e
        have:(true,TV.val (.slice none 0 0)) = (c,tv):=by simpa [St.get,St.put,St.rput,zR] using hget
        cases this
        exact ⟨fun _=>(hs.tm t true _ ht).1 rfl,fun h=>by cases h⟩
      · exact hs.tm t' c tv (by simpa [St.get,St.put,St.rput,zT _ _ e] using hget) }
/-- A row read as data. -/
theorem g_row {t id : Nat} {e : TypeId} {sz : Nat} {v : Value} {es : List (List D)} (ht : σ.get t = some (true, .val v)) (hres : σ.rget id = some (.row v e sz es))
   :Ghost Γ σ (σ.put t true (.d (.slice sz es))):=fun a w F hs=>by
  refine ⟨F,?_,fun _ _ h=>h⟩
  exact {
    hs with
    tm:=fun t' c tv hget=>by
      by_cases e:t = t'
      · subst e
        have:(true,TV.d (.slice sz es)) = (c,tv):=by simpa [St.get,St.put,zR] using hget
        cases this
        have h2:=(hs.tm t true _ ht).1 rfl
        simp only [TRep] at h2
        exact ⟨fun _=>by rw [h2]; exact zBf (hs.rs id _ hres),fun h=>by cases h⟩
      · exact hs.tm t' c tv (by simpa [St.get,St.put,zT _ _ e] using hget) }
end
def fillTV (place:Nat → Option (Nat × Nat)):List TV → List (Nat × TV) → Option (List TV)
  | cs,[]=>some cs
  | cs,(i,tv) :: r=>match place i with
    | none=>none
    | some (off,size)=>bif Nat.beq tv.cells.length size && Nat.ble (off + size) cs.length && tv.flat then fillTV place (cs.take off ++ tv.cells ++ cs.drop (off + size)) r else none
theorem zA1 (off : Nat) : ∀ (vs : List Value) (j : Nat) (cells : Array Value), off + j + vs.length ≤ cells.size →
    ((vs.zipIdx j).foldl (fun cs (x:Value × Nat)=>cs.setIfInBounds (off + x.2) x.1) cells).toList = cells.toList.take (off + j) ++ vs ++ cells.toList.drop (off + j + vs.length)
  | [],j,cells,_=>by simp
  | v :: vs,j,cells,h=>by
    simp only [List.zipIdx_cons,List.foldl_cons]
    rw [zA1 off vs (j + 1) _ (by simp at h ⊢; omega)]
    simp only [Array.toList_setIfInBounds,List.length_cons]
    simp only [List.length_cons] at h
    apply List.ext_getElem?
    intro k
    have hl:cells.toList.length = cells.size:=by simp
    simp only [List.getElem?_append,List.length_take,List.length_append,List.length_set,List.getElem?_drop,List.getElem?_set,List.getElem?_take,List.length_cons,hl]
    have e1:min (off + (j + 1)) cells.size = off + j + 1:=by omega
    have e2:min (off + j) cells.size = off + j:=by omega
    rw [e1,e2]
    by_cases k1:k < off + j
    · rw [if_pos (by omega),if_pos (by omega),if_pos (by omega),if_neg (by omega),if_pos (by omega),if_pos k1,if_pos k1]
    · by_cases k2:k = off + j
      · subst k2
        rw [if_pos (by omega),if_pos (by omega),if_pos (by omega),if_pos rfl,if_pos (by omega),if_pos (by omega),if_neg (by omega)]
        simp
      · by_cases k3:k < off + j + 1 + vs.length
        · rw [if_pos (by omega),if_neg (by omega),if_pos (by omega),if_neg (by omega)]
          rw [show k - (off + j) = (k - (off + j + 1)) + 1 by omega,List.getElem?_cons_succ]
        · rw [if_neg (by omega),if_neg (by omega),if_neg (by omega)]
          congr 1
          omega
theorem zAO {F : Nat → Nat → Prop} {w : World} {place : Nat → Option (Nat × Nat)} : ∀ {ps : List (Nat × TV)} {qs : List (Nat × Value)} {cs cs' : List TV} {vs : Array Value},
    ps.map (·.1) = qs.map (·.1) → TReps F w (ps.map (·.2)) (qs.map (·.2)) → TReps F w cs vs.toList → (∀ u ∈ vs.toList,u.oneCell' = true) → fillTV place cs ps = some cs' →
    ∃ vs',Instr.fill place vs qs = some vs' ∧ TReps F w cs' vs'.toList ∧ ∀ u ∈ vs'.toList,u.oneCell' = true
  | [],qs,cs,cs',vs,h1,_,h3,h4,h5=>by
    have:qs = []:=by simpa using h1.symm
    subst this
    simp only [fillTV,Option.some.injEq] at h5
    subst h5
    exact ⟨vs,rfl,h3,h4⟩
  | (i,tv) :: ps,[],cs,cs',vs,h1,_,_,_,_=>by simp at h1
  | (i,tv) :: ps,(j,v) :: qs,cs,cs',vs,h1,h2,h3,h4,h5=>by
    simp only [List.map_cons,List.cons.injEq] at h1
    obtain ⟨rfl,h1⟩:=h1
    obtain ⟨v',vs',e,hv,hvs⟩:=h2
    cases e
    simp only [fillTV] at h5
    cases hp:place i with
    | none=>simp [hp] at h5
    | some os =>
      obtain ⟨off,size⟩:=os
      simp only [hp] at h5
      cases hb:(Nat.beq tv.cells.length size && Nat.ble (off + size) cs.length && tv.flat) with
      | false=>simp [hb] at h5
      | true =>
        simp only [hb,cond_true] at h5
        simp only [Bool.and_eq_true,Nat.ble_eq] at hb
        obtain ⟨⟨b1,b2⟩,b3⟩:=hb
        have b1:=Nat.eq_of_beq_eq_true b1
        obtain ⟨k1,k2⟩:=hv.flat b3
        have hl1:=k1.length
        have hl3:=h3.length
        have hsz:v.cells.size = size:=by simp at hl1; omega
        have hcond:(v.cells.size ≠ size || off + v.cells.size > vs.size) = false:=by simp [hsz]; simp at hl3; omega
        have hfold:(v.cells.zipIdx.foldl (fun cs (c,j)=>cs.setIfInBounds (off + j) c) vs).toList = vs.toList.take off ++ v.cells.toList ++ vs.toList.drop (off + size):=by
          have:=zA1 off v.cells.toList 0 vs (by simp; simp at hl3; omega)
          simp only [Nat.add_zero,Array.length_toList,hsz] at this
          rw [← this,← Array.foldl_toList]
          simp
        obtain ⟨r,g1,g2,g3⟩:=zAO (place:=place) (vs:=v.cells.zipIdx.foldl (fun cs (c,j)=>cs.setIfInBounds (off + j) c) vs) h1 hvs (by
          rw [hfold]
          exact ((h3.take off).append k1).append (h3.drop (off + size))) (by
          rw [hfold]
          intro u hu
          simp only [List.mem_append] at hu
          rcases hu with (hu | hu) | hu
          · exact h4 u (List.mem_of_mem_take hu)
          · exact k2 u hu
          · exact h4 u (List.mem_of_mem_drop hu)) h5
        exact ⟨r,by simp only [Instr.fill,hp]; rw [if_neg (by rw [hcond]; simp)]; exact g1,g2,g3⟩
def pevs (σ:St):List (Nat × Operand) → Option (List (Nat × TV))
  | []=>some []
  | (i,x) :: r=>match σ.ev x,pevs σ r with
    | some (true,tv),some tvs=>some ((i,tv) :: tvs)
    | _,_=>none
structure BT (P:Program) (t:TypeId) (z:Value) (place:Nat → Option (Nat × Nat)):Prop where
  built:∀ parts,P.built t parts = Instr.fill place z.cells parts
theorem zp {P : Program} {t : TypeId} {fs : Array Field} {z : Value} {places : List (Nat × Nat)} (hu : P.underlying t = some (.struct fs)) (hz : (P.info? t).map (·.zero) = some (some z))
    (hp:fs.toList.mapM (fun f=>(P.info? f.type).map fun i=>(f.offset,i.size)) = some places):BT P t z (fun i=>places[i]?):=⟨fun parts=>by
  cases hq:P.info? t with
  | none=>simp [hq] at hz
  | some i =>
    simp [hq] at hz
    simp [Program.built,hq,hu,hz,hp]⟩
theorem zDE {P : Program} {t e : TypeId} {n sz : Nat} {z : Value} (hu : P.underlying t = some (.array n e)) (hz : (P.info? t).map (·.zero) = some (some z)) (hs : Sz P e sz) :
    BT P t z (fun i=>some (i * sz,sz)):=⟨fun parts=>by
  unfold Sz at hs
  cases hq:P.info? t with
  | none=>simp [hq] at hz
  | some i =>
    cases hq2:P.info? e with
    | none=>simp [hq2] at hs
    | some ie =>
      simp [hq] at hz
      simp [hq2] at hs
      simp [Program.built,hq,hu,hz,hq2,hs]⟩
section
variable {Γ:Cx} {P:Program} {σ:St} {ops:Array Oper} {o:Oper} {rest:List Oper} {Q:Exit → Act → World → Prop} {W:Nat → Prop} {R:Rel}
theorem RS.pevs {a : Act} {w : World} {F : Nat → Nat → Prop} (h : RS Γ σ a w F) : ∀ {l : List (Nat × Operand)} {tvs : List (Nat × TV)}, Go.Proofs.YticlpkgpmmhemaaGreatDoor.pevs σ l = some tvs →
    tvs.map (·.1) = (l.map fun x=>(x.1,a.eval x.2)).map (·.1) ∧ TReps F w (tvs.map (·.2)) ((l.map fun x=>(x.1,a.eval x.2)).map (·.2))
  | [],_,e=>by simp [Go.Proofs.YticlpkgpmmhemaaGreatDoor.pevs] at e; subst e; exact ⟨rfl,rfl⟩
  | (i,x) :: r,tvs,e=>by
    simp only [Go.Proofs.YticlpkgpmmhemaaGreatDoor.pevs] at e
    split at e
    · rename_i tv tvs' h1 h2
      cases e
      obtain ⟨k1,k2⟩:=RS.pevs h h2
      exact ⟨by simpa using k1,_,_,rfl,h.ev h1,k2⟩
    · cases e
theorem yV {F:Nat → Nat → Prop} {w:World}:∀ (l:List Value),TReps F w (l.map constTV) l
  | []=>rfl
  | v :: l=>⟨v,l,rfl,kg F w v,yV l⟩
theorem q_build {t : TypeId} {parts : Array (Nat × Operand)} {z : Value} {place : Nat → Option (Nat × Nat)} {zs cs : List TV} {ps : List (Nat × TV)} (h : o.op = .build t parts) (hb : BT P t z place)
    (hz:z.cells.toList.map constTV = zs) (h1:z.cells.toList.all (·.oneCell') = true) (hp:pevs σ parts.toList = some ps) (hf:fillTV place zs ps = some cs):QV Γ P σ o R (.agg cs):=fun a w F hs=>by
  obtain ⟨k1,k2⟩:=hs.pevs hp
  obtain ⟨vs',g1,g2,g3⟩:=zAO (w:=w) (F:=F) (place:=place) (vs:=z.cells) k1 k2 (by rw [← hz]; exact yV _) (List.all_eq_true.1 h1) hf
  refine ⟨.agg vs',⟨vs'.toList,by simp,g2,g3⟩,fun w' _=>?_⟩
  have hbuilt:P.built t (parts.map fun (i,x)=>(i,a.eval x)).toList = some vs':=by
    rw [hb.built,← g1]
    simp
  simp [execOp,h,run_build w' t _ _ hbuilt]
theorem zDY {t : TypeId} {parts : Array (Nat × Operand)} {z : Value} {place : Nat → Option (Nat × Nat)} {zs : List TV} {ds : List D} {ps : List (Nat × TV)} (h : o.op = .build t parts) (hb : BT P t z place)
    (hz:z.cells.toList.map constTV = zs) (h1:z.cells.toList.all (·.oneCell') = true) (hp:pevs σ parts.toList = some ps) {cs:List TV} (hf:fillTV place zs ps = some cs) (hc:allD cs = some ds):QV Γ P σ o R (.d (.agg ds)) :=
  (q_build h hb hz h1 hp (by rw [hf,yi hc])).mono fun _ _ _ hh=>zEs rfl hh
/-- What is frozen in a new block. -/
theorem RS.newFrozen {a : Act} {w : World} {F : Nat → Nat → Prop} (hs : RS Γ σ a w F) {ty : TypeId} {vs : Array Value} :
    RS Γ σ a (w.alloc (.cells vs ty)) (fun b o=>F b o ∨ (b = w.heap.size ∧ o < vs.size)) ∧ Ext F (fun b o=>F b o ∨ (b = w.heap.size ∧ o < vs.size)) w (w.alloc (.cells vs ty)):=by
  have hg:Grow F (fun b o=>F b o ∨ (b = w.heap.size ∧ o < vs.size)) w (w.alloc (.cells vs ty)) none:={
    os:=rfl
    tape:=rfl
    output:=rfl
    size:=by simp
    block:=fun k hk _=>Below.heap_alloc w _ k hk
    ext:=fun _ _ h=>.inl h
    new:=fun b o h hlt _=>h.resolve_right (fun e=>by omega)
    cell:=fun b o h=>by
      rcases h with h | ⟨rfl,h⟩
      · obtain ⟨x,hx⟩:=hs.fcell b o h
        exact ⟨x,(World.cell?_alloc_lt w _ ⟨b,o,none⟩ (World.block_lt_of_cell? w ⟨b,o,none⟩ hx)).trans hx⟩
      · exact ⟨vs[o],by rw [World.cell?_alloc_new]; exact Array.getElem?_eq_getElem h⟩
    keep:=fun b o h=>by
      obtain ⟨x,hx⟩:=hs.fcell b o h
      exact World.cell?_alloc_lt w _ ⟨b,o,none⟩ (World.block_lt_of_cell? w ⟨b,o,none⟩ hx) }
  exact ⟨hs.grow hg,fun b o hf=>⟨hg.ext b o hf,hg.keep b o hf⟩⟩
theorem yp {t e : TypeId} {len sz : Nat} {z : Value} {parts : Array (Nat × Value)} {cells zc : Array Value} (w : World) (ht : P.underlying t = some (.slice e)) (hs : Sz P e sz)
    (hzero:(P.info? e).map (·.zero) = some (some z)) (hsmall:len * sz ≤ 2 ^ 24) (hzc:((Array.range (len * sz)).map ((if len * sz = 0 then #[] else z.cells)[· % (if len * sz = 0 then #[] else z.cells).size]!)) = zc)
    (h:Instr.fill (fun i=>some (i * sz,sz)) zc parts.toList = some cells) :
    (Instr.buildSlice t len parts).run P w = .ok (.slice (some ⟨w.heap.size,0,none⟩) len len) (w.alloc (.cells cells e)):=by
  subst hzc
  have hzr:(zeroValue e).run P w = .ok z w:=by
    cases hq:P.info? e with
    | none=>simp [hq] at hzero
    | some i=>simp [hq] at hzero; simp [zeroValue,typeInfo,hq,hzero]
  have hbig:¬ len * sz > 2 ^ 24:=by omega
  simp only [Instr.buildSlice,Sem.run_bind,run_underlying ht,Result.andThen_ok,kE hs]
  rw [if_neg hbig]
  by_cases h0:len * sz = 0
  · simp only [h0,if_true] at h ⊢
    simp only [Sem.run_bind,Sem.run_pure,Result.andThen_ok,h,newRow,run_newObj]
    rfl
  · simp only [h0,if_false] at h ⊢
    simp only [Sem.run_bind,hzr,Sem.run_pure,Result.andThen_ok,h,newRow,run_newObj]
    rfl
/-- A slice literal: data in a new block. -/
theorem s_buildSlice' {t e : TypeId} {len sz dt : Nat} {parts : Array (Nat × Operand)} {z : Value} {zc : Array Value} {zs : List TV} {es : List (List D)} {ps : List (Nat × TV)} (h : o.op = .buildSlice t len parts)
    (hg:o.guard = none) (hd:o.dst = some dt) (hn:Nat.blt dt Γ.n = true) (ht:P.underlying t = some (.slice e)) (hsz:Sz P e sz) (hzero:(P.info? e).map (·.zero) = some (some z))
    (hsmall:len * sz ≤ 2 ^ 24) (hlen24:len ≤ 2 ^ 24) (hzc:((Array.range (len * sz)).map ((if len * sz = 0 then #[] else z.cells)[· % (if len * sz = 0 then #[] else z.cells).size]!)) = zc)
    (hz:zc.toList.map constTV = zs) (h1:zc.toList.all (·.oneCell') = true) (hp:pevs σ parts.toList = some ps) (hf:fillTV (fun i=>some (i * sz,sz)) zs ps = some (es.flatten.map .d))
    (hl:es.length = len) (hes:es.all (fun c=>Nat.beq c.length sz) = true):StepW Γ P ops σ o W fun _:Unit=>σ.put dt true (.d (.slice sz es)):=fun a w F hs K Q hK=>by
  rw [if_pos (zi hg a)]
  obtain ⟨k1,k2⟩:=hs.pevs hp
  obtain ⟨vs',g1,g2,g3⟩:=zAO (w:=w) (F:=F) (place:=fun i=>some (i * sz,sz)) (vs:=zc) k1 k2 (by rw [← hz]; exact yV _) (List.all_eq_true.1 h1) hf
  have hrun:=yp (parts:=parts.map fun (i,x)=>(i,a.eval x)) (cells:=vs') w ht hsz hzero hsmall hzc (by rw [← g1]; simp)
  have hex:(execOp a.eval o).run P w = .ok (.value (.slice (some ⟨w.heap.size,0,none⟩) len len)) (w.alloc (.cells vs' e)):=by
    simp only [execOp,h,Sem.run_bind,hrun,Result.andThen_ok,Sem.run_pure]
  unfold Oper.wp
  rw [hex]
  show K (a.put o.dst _) _
  rw [hd]
  obtain ⟨r1,r2⟩:=hs.newFrozen (ty:=e) (vs:=vs')
  have hv:=g2.of_d
  have hlen:=hv.length
  have hall:∀ c ∈ es,c.length = sz:=fun c hc=>Nat.eq_of_beq_eq_true (List.all_eq_true.1 hes c hc)
  have hfl:=yj hall
  refine hK () _ _ _ (r1.put (zx hn) (fun _=>?_) (fun h=>by cases h)) (fun _ _ h=>.inl h) (by simp) ((Grow.alloc hs.fcell _).agree (fun _ e=>by cases e))
  have h24:(2:Nat) ^ 24 = 16777216:=by decide
  refine ⟨_,len,by rw [hl],by omega,by simp only [maxLen]; omega,.inr ⟨w.heap.size,0,rfl,RepRows.flat.2 ⟨hall,RepCells.of_vals (hv.ext' r2) g3 fun j x hx=>?_⟩⟩⟩
  have hj:=(List.getElem?_eq_some_iff.1 hx).1
  rw [Nat.zero_add]
  exact ⟨by rw [World.cell?_alloc_new,← Array.getElem?_toList]; exact hx,.inr ⟨rfl,by simpa using hj⟩⟩
def chunk (sz:Nat):Nat → List D → List (List D)
  | 0,_=>[]
  | n + 1,ds=>ds.take sz :: chunk sz n (ds.drop sz)
theorem y6 (sz:Nat):∀ (n:Nat) (ds:List D),ds.length = n * sz → (chunk sz n ds).flatten = ds ∧ (chunk sz n ds).length = n ∧ ∀ c ∈ chunk sz n ds,c.length = sz
  | 0,ds,h=>by
    have:ds = []:=List.eq_nil_of_length_eq_zero (by simpa using h)
    subst this
    exact ⟨rfl,rfl,by simp [chunk]⟩
  | n + 1,ds,h=>by
    rw [Nat.add_mul] at h
    obtain ⟨h1,h2,h3⟩:=y6 sz n (ds.drop sz) (by rw [List.length_drop]; omega)
    refine ⟨by simp [chunk,h1],by simp [chunk,h2],?_⟩
    intro c hc
    rcases List.mem_cons.1 hc with rfl | hc
    · rw [List.length_take]; omega
    · exact h3 c hc
theorem zP {t e : TypeId} {len sz dt : Nat} {parts : Array (Nat × Operand)} {z : Value} {zc : Array Value} {zs cs : List TV} {ds : List D} {es : List (List D)} {ps : List (Nat × TV)} (h : o.op = .buildSlice t len parts)
    (hg:o.guard = none) (hd:o.dst = some dt) (hn:Nat.blt dt Γ.n = true) (ht:P.underlying t = some (.slice e)) (hsz:Sz P e sz) (hzero:(P.info? e).map (·.zero) = some (some z))
    (hsmall:Nat.ble (len * sz) 16777216 = true) (hlen24:Nat.ble len 16777216 = true) (hzc:((Array.range (len * sz)).map ((if len * sz = 0 then #[] else z.cells)[· % (if len * sz = 0 then #[] else z.cells).size]!)) = zc)
    (hz:zc.toList.map constTV = zs) (h1:zc.toList.all (·.oneCell') = true) (hp:pevs σ parts.toList = some ps) (hf:fillTV (fun i=>some (i * sz,sz)) zs ps = some cs) (hc:allD cs = some ds)
    (hl:Nat.beq ds.length (len * sz) = true) (he:chunk sz len ds = es):StepW Γ P ops σ o W fun _:Unit=>σ.put dt true (.d (.slice sz es)):=by
  have h24:(2:Nat) ^ 24 = 16777216:=by decide
  obtain ⟨k1,k2,k3⟩:=y6 sz len ds (Nat.eq_of_beq_eq_true hl)
  rw [he] at k1 k2 k3
  exact s_buildSlice' h hg hd hn ht hsz hzero (by rw [h24]; exact Nat.le_of_ble_eq_true hsmall) (by rw [h24]; exact Nat.le_of_ble_eq_true hlen24) hzc hz h1 hp (by rw [hf,k1,yi hc]) k2
    (List.all_eq_true.2 fun c hc=>by rw [k3 c hc]; exact Nat.beq_refl sz)
end
section
variable {Γ:Cx} {P:Program} {σ:St} {Q:Exit → Act → World → Prop}
theorem zH {id:Nat} {ops:Array Oper} (h:ARun Γ P ops ops.toList σ Q):AWP Γ P (.region id ops false) σ Q:=fun a w F hs=>wp_region_list (h a w F hs)
theorem zD {x y:Code} (h:AWP Γ P x σ (Exit.then (y.wp P Q) Q)):AWP Γ P (.seq x y) σ Q:=fun a w F hs=>wp_seq (h a w F hs)
theorem zJ (h:AEnd Γ σ Q .normal):AWP Γ P .skip σ Q:=fun a w F hs=>wp_skip (h a w F hs)
theorem zX {id:Nat} (h:AEnd Γ σ Q (.exit id)):AWP Γ P (.exit id) σ Q:=fun a w F hs=>wp_exit (h a w F hs)
theorem zI (h:AEnd Γ σ Q .ret):AWP Γ P .ret σ Q:=fun a w F hs=>wp_ret (h a w F hs)
theorem zN {id:Nat} {c:Code} (h:AWP Γ P c σ (Exit.inBlock id Q)):AWP Γ P (.block id c) σ Q:=fun a w F hs=>wp_block (h a w F hs)
theorem zG {c:Operand} {x y:Code} {b:Bool} (hc:σ.ev c = some (true,.d (.bool b))) (h1:b = true → AWP Γ P x σ Q) (h2:b = false → AWP Γ P y σ Q):AWP Γ P (.cond c x y) σ Q:=fun a w F hs=>by
  have h:=hs.ev hc
  simp only [TRep,Rep] at h
  refine wp_cond h ?_
  cases b with
  | true=>exact h1 rfl a w F hs
  | false=>exact h2 rfl a w F hs
theorem zA {y:Code} {Q':Exit → Act → World → Prop} (h:AWP Γ P y σ Q'):AEnd Γ σ (Exit.then (y.wp P Q') Q) .normal:=h
theorem zM (h:AEnd Γ σ Q .normal) {id:Nat}:AEnd Γ σ (Exit.inBlock id Q) .normal:=h
theorem zO (h:AEnd Γ σ Q .normal) {id:Nat}:AEnd Γ σ (Exit.inBlock id Q) (.exit id):=fun a w F hs=>by
  show (if id = id then Q .normal a w else Q (.exit id) a w)
  rw [if_pos rfl]
  exact h a w F hs
theorem y3 {id id':Nat} (hne:Nat.beq id' id = false) (h:AEnd Γ σ Q (.exit id')):AEnd Γ σ (Exit.inBlock id Q) (.exit id'):=fun a w F hs=>by
  show (if id' = id then Q .normal a w else Q (.exit id') a w)
  rw [if_neg (fun e=>by subst e; simp at hne)]
  exact h a w F hs
theorem zL {id:Nat} (h:AEnd Γ σ Q .ret):AEnd Γ σ (Exit.inBlock id Q) .ret:=h
theorem zC {K:Act → World → Prop} {id:Nat} (h:AEnd Γ σ Q (.exit id)):AEnd Γ σ (Exit.then K Q) (.exit id):=h
theorem zB {K:Act → World → Prop} (h:AEnd Γ σ Q .ret):AEnd Γ σ (Exit.then K Q) .ret:=h
/-- A state that says less. -/
def SubT (σ:St):List (Nat × Bool × TV) → Prop
  | []=>True
  | (t,e) :: r=>σ.get t = some e ∧ SubT σ r
def SubR (σ:St):List (Nat × Res) → Prop
  | []=>True
  | (i,e) :: r=>σ.rget i = some e ∧ SubR σ r
structure Sub (σ σ':St):Prop where
  dm:σ.dm = σ'.dm:=by rfl
  tm:SubT σ σ'.tm
  rs:SubR σ σ'.rs
theorem yT {α:Type}:∀ {l:List (Nat × α)} {t:Nat} {e:α},lk l t = some e → (t,e) ∈ l
  | [],_,_,h=>by simp [lk] at h
  | (k,x) :: r,t,e,h=>by
    by_cases hk:k = t
    · subst hk; simp [zR] at h; subst h; simp
    · rw [zT _ _ hk] at h; exact List.mem_cons_of_mem _ (yT h)
theorem SubT.get:∀ {l:List (Nat × Bool × TV)} {t:Nat} {e:Bool × TV},SubT σ l → (t,e) ∈ l → σ.get t = some e
  | (t',e') :: r,t,e,⟨h1,h2⟩,hm=>by
    rcases List.mem_cons.1 hm with hm | hm
    · cases hm; exact h1
    · exact SubT.get h2 hm
theorem SubR.get:∀ {l:List (Nat × Res)} {t:Nat} {e:Res},SubR σ l → (t,e) ∈ l → σ.rget t = some e
  | (t',e') :: r,t,e,⟨h1,h2⟩,hm=>by
    rcases List.mem_cons.1 hm with hm | hm
    · cases hm; exact h1
    · exact SubR.get h2 hm
/-- What a round hands on. -/
def Round {ι:Type} (Γ:Cx) (I:ι → St) (μ:ι → Nat) (n:Nat) (a:Act) (w:World):Prop:=∃ i F,RS Γ (I i) a w F ∧ μ i < n
theorem awp_loop' {ι:Type} {c:Code} (I:ι → St) (μ:ι → Nat) (i₀:ι) (h0:∀ a w F,RS Γ σ a w F → RS Γ (I i₀) a w F) (hb:∀ i,AWP Γ P c (I i) (Exit.then (Round Γ I μ (μ i)) Q)):AWP Γ P (.loop c) σ Q:=fun a w F hs=>by
  refine wp_loop_ghost (fun n a w=>∃ i F,RS Γ (I i) a w F ∧ μ i = n) (μ i₀) ⟨i₀,F,h0 a w F hs,rfl⟩ ?_
  rintro n a w ⟨i,F,hs,rfl⟩
  refine wp_mono (hb i a w F hs) ?_
  intro e a' w' hq
  cases e with
  | normal =>
    obtain ⟨i',F',hs',hlt⟩:=hq
    exact ⟨μ i',hlt,i',F',hs',rfl⟩
  | exit id=>exact hq
  | goto l=>exact hq
  | ret=>exact hq
  | panic ch=>exact hq
  | outgrown=>exact hq
/-- Slots known under a condition that holds. -/
def St.puts (σ:St):List (Nat × TV) → St
  | []=>σ
  | (t,tv) :: r=>(St.puts σ r).put t true tv
def Strong (σ:St):List (Nat × TV) → Prop
  | []=>True
  | (t,tv) :: r=>(∃ c,σ.get t = some (c,tv) ∧ c = true) ∧ Strong σ r
theorem RS.strong {a:Act} {w:World} {F:Nat → Nat → Prop}:∀ {L:List (Nat × TV)},RS Γ σ a w F → Strong σ L → RS Γ (σ.puts L) a w F
  | [],hs,_=>hs
  | (t,tv) :: r,hs,⟨⟨c,hg,hc⟩,hr⟩=>{
    RS.strong hs hr with
    tm:=fun t' c' tv' hget=>by
      by_cases e:t = t'
      · subst e
        have:(true,tv) = (c',tv'):=by simpa [St.get,St.puts,St.put,zR] using hget
        cases this
        subst hc
        exact hs.tm t true tv hg
      · exact (RS.strong hs hr).tm t' c' tv' (by simpa [St.get,St.puts,St.put,zT _ _ e] using hget) }
theorem y1 {ops : Array Oper} {o : Oper} {t : Nat} {c : Bool} {tv : TV} (W : Nat → Prop) (L : List (Nat × TV))
    (hg:GuardOK Γ ops σ o c) (ht:o.dst = some t) (hn:Nat.blt t Γ.n = true) (hL:c = true → Strong σ L) (hq:c = true → QV Γ P (σ.puts L) o R0 tv) :
    StepW Γ P ops σ o W fun _:Unit=>σ.put t c tv :=
  zBA W hg ht hn fun a w F hs hc=>let ⟨v,hv,hrun⟩:=hq hc a w F (hs.strong (hL hc)); ⟨v,hv,hrun w rfl⟩
theorem stepG {ops : Array Oper} {o : Oper} {rest : List Oper} {t : Nat} {c : Bool} {tv : TV} (L : List (Nat × TV))
    (hg:GuardOK Γ ops σ o c) (ht:o.dst = some t) (hn:Nat.blt t Γ.n = true) (hL:c = true → Strong σ L) (hq:c = true → QV Γ P (σ.puts L) o R0 tv)
    (hr:ARun Γ P ops rest (σ.put t c tv) Q):ARun Γ P ops (o :: rest) σ Q:=step (y1 (fun _=>False) L hg ht hn hL hq) fun _=>hr
end
mutual
inductive DLe:D → D → Prop
  | refl (d:D):DLe d d
  | nil (sz:Nat):DLe .nil (.slice sz [])
  | agg {cs cs':List D} (h:DLes cs cs'):DLe (.agg cs) (.agg cs')
  | tup {cs cs':List D} (h:DLes cs cs'):DLe (.tup cs) (.tup cs')
inductive DLes:List D → List D → Prop
  | refl (ds:List D):DLes ds ds
  | cons {d d':D} {ds ds':List D} (h:DLe d d') (hs:DLes ds ds'):DLes (d :: ds) (d' :: ds')
end
mutual
theorem DLe.rep {F:Nat → Nat → Prop} {w:World}:∀ {d d':D} {v:Value},DLe d d' → Rep F w d v → Rep F w d' v
  | _,_,_,.refl _,h=>h
  | _,_,_,.nil sz,h=>by
    simp only [Rep] at h
    subst h
    exact ⟨none,0,rfl,Nat.le_refl _,Nat.zero_le _,.inl rfl⟩
  | _,_,_,.agg k,⟨vs,e,h,h1⟩=>⟨vs,e,DLes.rep k h,h1⟩
  | _,_,_,.tup k,⟨vs,e,h⟩=>⟨vs,e,DLes.rep k h⟩
theorem DLes.rep {F:Nat → Nat → Prop} {w:World}:∀ {ds ds':List D} {vs:List Value},DLes ds ds' → RepVals F w ds vs → RepVals F w ds' vs
  | _,_,_,.refl _,h=>h
  | _,_,_,.cons k ks,⟨v,vs',e,h1,h2⟩=>⟨v,vs',e,DLe.rep k h1,DLes.rep ks h2⟩
end
def Ent (P:Program) (f:FuncId):Prop:=∀ args w,(callFunc f args).run P w = .ok (.enter f args) w
theorem yo {P : Program} {f : FuncId} {fn : Func} (h : P.funcs[f]? = some fn) (h1 : (fn.name == "runtime.NumGoroutine") = false) (h2 : fn.body.isNone = false) : Ent P f := fun args w => by
  unfold callFunc
  simp only [Sem.run_bind,run_program,Result.andThen_ok,h]
  rw [if_neg (by rw [h1]; simp),if_neg (by rw [h2]; simp)]
  rfl
/-- How a call ends: it hands back 'r'; what was there stands; what is frozen is frozen. -/
def Ends (w:World) (F:Nat → Nat → Prop) (r:D):Ending → World → Prop:=fun e w' =>
  ∃ v F',e = .returned v ∧ Below w.heap.size w w' ∧ Rep F' w' r v ∧ (∀ b o,F b o → F' b o) ∧ (∀ b o,F' b o → b < w.heap.size → F b o) ∧ (∀ b o,F' b o → ∃ v,w'.cell? ⟨b,o,none⟩ = some v)
theorem RS.globs {Γ:Cx} {σ:St} {a:Act} {w:World} {F:Nat → Nat → Prop} (h:RS Γ σ a w F):GOK w (fun _=>False):=fun g hg=>by
  obtain ⟨h1,h2,x,h3,h4⟩:=h.glob g hg
  exact ⟨Nat.lt_of_lt_of_le h1 h.hsize,fun k=>k,x,(h.old _ h1 h2).trans h3,h4⟩
/-- The function number f, called with this data, hands back that. -/
def PureAt (P:Program) (f:FuncId) (ds:List D) (r:D):Prop :=
  Ent P f ∧ ∀ w F vs,(∀ b o,F b o → ∃ v,w.cell? ⟨b,o,none⟩ = some v) → GOK w (fun _=>False) → RepVals F w ds vs → Calls P f vs.toArray w (Ends w F r)
def argSt:Nat → List D → List (Nat × Bool × TV)
  | _,[]=>[]
  | i,d :: ds=>(i,true,.d d) :: argSt (i + 1) ds
theorem zC9:∀ {ds:List D} {i t:Nat} {c:Bool} {tv:TV},lk (argSt i ds) t = some (c,tv) → ∃ j d,ds[j]? = some d ∧ t = i + j ∧ c = true ∧ tv = .d d
  | [],_,_,_,_,h=>by simp [argSt,lk] at h
  | d :: ds,i,t,c,tv,h=>by
    by_cases e:i = t
    · subst e
      simp [argSt,zR] at h
      exact ⟨0,d,rfl,rfl,h.1,h.2.symm⟩
    · simp only [argSt] at h
      rw [zT _ _ e] at h
      obtain ⟨j,d',h1,h2,h3,h4⟩:=zC9 h
      exact ⟨j + 1,d',by simpa using h1,by omega,h3,h4⟩
/-- What the body's end is asked. -/
def RetQ (Γ:Cx) (P:Program) (fn:Func) (r:D):Exit → Act → World → Prop:=bodyPost P fn (Ends Γ.w0 Γ.F0 r)
theorem PureAt.of_awp {P : Program} {f : FuncId} {fn : Func} {c : Code} {ds : List D} {r : D} (hf : P.funcs[f]? = some fn) (hb : fn.body = some c) (hname : (fn.name == "runtime.NumGoroutine") = false)
    (hn:ds.length ≤ fn.ntmps) (h:∀ Γ:Cx,Γ.n = fn.ntmps → (∀ b,¬ Γ.lent b) → AWP Γ P c ⟨argSt 0 ds,[],[]⟩ (RetQ Γ P fn r)):PureAt P f ds r:=by
  refine ⟨yo hf hname (by simp [hb]),fun w F vs hF hG hr=>calls_of_wp hf hb ?_⟩
  have hl:=hr.length
  refine h ⟨w,F,fun _=>False,fn.ntmps⟩ rfl (fun _ h=>h) _ _ F {
    size:=by simp [hl]; omega
    defers:=rfl
    os:=rfl
    tape:=rfl
    output:=rfl
    hsize:=Nat.le_refl _
    old:=fun _ _ _=>rfl
    fcell:=hF
    glob:=hG
    keep:=fun _ _ _=>rfl
    f0:=fun _ _ h=>h
    fnew:=fun _ _ h _ _=>h
    tm:=fun t c tv hget=>by
      obtain ⟨j,d,h1,rfl,rfl,rfl⟩:=zC9 hget
      refine ⟨fun _=>?_,fun h=>by cases h⟩
      obtain ⟨v,hv,hrep⟩:=hr.get h1
      have hj:=(List.getElem?_eq_some_iff.1 hv).1
      have:(vs.toArray ++ Array.replicate (fn.ntmps - vs.toArray.size) undef).getD (0 + j) undef = v:=by
        simp only [Nat.zero_add,Array.getD_eq_getD_getElem?]
        rw [Array.getElem?_append_left (by simpa using hj)]
        simp [hv]
      rw [this]
      exact hrep
    rs:=fun i r h=>by simp [St.rget,lk] at h
    sep:=fun i i' r r' b h=>by simp [St.rget,lk] at h }
/-- A result variable reads as 'd'. -/
inductive ResV (P:Program) (σ:St):ResultVar → D → Prop
  | tmp {t:Nat} {d:D} (h:σ.get t = some (true,.d d)):ResV P σ (.tmp t) d
  | cell {t b off id : Nat} {ty bt : TypeId} {cs : List TV} {d : D} {desc : TypeDesc} (h : σ.get t = some (true, .val (.pointer (some ⟨b, off, none⟩)))) (hr : σ.rget id = some (.box b bt cs))
      (hu:P.underlying ty = some desc) (hd:rowD desc = false) (hc:cs[off]? = some (.d d)):ResV P σ (.cell t ty) d
  | cellA {t b off id n : Nat} {ty bt : TypeId} {cs : List TV} {ds : List D} {desc : TypeDesc} (h : σ.get t = some (true, .val (.pointer (some ⟨b, off, none⟩)))) (hr : σ.rget id = some (.box b bt cs))
      (hu:P.underlying ty = some desc) (hd:rowD desc = true) (hz:Sz P ty n) (hc:allD ((cs.drop off).take n) = some ds) (hn:ds.length = n):ResV P σ (.cell t ty) (.agg ds)
def resOne (tmps:Array Value):ResultVar → Sem Value
  | .tmp t=>pure (tmps.getD t undef)
  | .cell a t=>do loadVar t (← asAddr (tmps.getD a undef))
theorem ResV.run {Γ:Cx} {P:Program} {σ:St} {a:Act} {w:World} {F:Nat → Nat → Prop} (hs:RS Γ σ a w F) {rv:ResultVar} {d:D} (h:ResV P σ rv d):∃ v,(resOne a.tmps rv).run P w = .ok v w ∧ Rep F w d v:=by
  cases h with
  | tmp h=>exact ⟨_,rfl,(hs.tm _ true _ h).1 rfl⟩
  | cell h hr hu hd hc =>
    have h1:=(hs.tm _ true _ h).1 rfl
    simp only [TRep] at h1
    obtain ⟨_,_,vs,hh,hvs,_⟩:=hs.rs _ _ hr
    obtain ⟨v,hv,hrep⟩:=hvs.get hc
    have hcell:=(yk (i:=_) hh).trans hv
    exact ⟨v,by simp only [resOne,h1,asAddr,Sem.run_bind,Sem.run_pure,Result.andThen_ok,yS hu hd hcell],hrep⟩
  | cellA h hr hu hd hz hc hn =>
    rename_i t b off id n ty bt cs ds desc
    have h1:=(hs.tm _ true _ h).1 rfl
    simp only [TRep] at h1
    obtain ⟨_,_,vs,hh,hvs,hone⟩:=hs.rs _ _ hr
    have hseg:TReps F w (ds.map .d) ((vs.drop off).take n):=by rw [← yi hc]; exact (hvs.drop off).take n
    have hlen:=hseg.length
    have hl:=yr (P:=P) (w:=w) (b:=b) (o:=off) (vs:=(vs.drop off).take n) hu hd (by rw [hlen,List.length_map,hn]; exact hz) (fun j v hv=>by
      have:vs[off + j]? = some v:=by
        rw [List.getElem?_take] at hv
        split at hv
        · rwa [List.getElem?_drop] at hv
        · cases hv
      exact (yk hh).trans this)
    exact ⟨_,by simp only [resOne,h1,asAddr,Sem.run_bind,Sem.run_pure,Result.andThen_ok,hl],_,rfl,hseg.of_d,fun u hu=>hone u (List.mem_of_mem_drop (List.mem_of_mem_take hu))⟩
section
variable {Γ:Cx} {P:Program} {σ:St} {fn:Func}
theorem RS.below {a:Act} {w:World} {F:Nat → Nat → Prop} (hs:RS Γ σ a w F) (hl:∀ b,¬ Γ.lent b):Below Γ.w0.heap.size Γ.w0 w :=
  ⟨hs.os,hs.tape,hs.output,hs.hsize,fun k hk=>hs.old k hk (hl k)⟩
theorem zCn {a:Act} {w:World} {F:Nat → Nat → Prop} (hs:RS Γ σ a w F) (hl:∀ b,¬ Γ.lent b) {r:D} {v:Value} (hr:Rep F w r v):Ends Γ.w0 Γ.F0 r (.returned v) w :=
  ⟨v,F,rfl,hs.below hl,hr,hs.f0,fun b o hf hb=>hs.fnew b o hf hb (hl b),hs.fcell⟩
theorem yL {rvs : Array ResultVar} (h : fn.results = rvs) (tmps : Array Value) (w : World) :
    (results fn tmps).run P w = ((rvs.mapM (resOne tmps)).run P w).andThen fun vs w=>.ok (if h:vs.size = 1 then vs[0] else .tuple vs) w:=by
  subst h
  have e:(results fn tmps) = (fn.results.mapM (resOne tmps) >>= fun vs=>pure (if h:vs.size = 1 then vs[0] else .tuple vs)):=by
    unfold results
    congr 2
  rw [e,Sem.run_bind]
  rfl
theorem za {e:Exit} {rv:ResultVar} {d:D} (he:e = .ret ∨ e = .normal) (hl:∀ b,¬ Γ.lent b) (h:fn.results = #[rv]) (hr:ResV P σ rv d) (hdm:σ.dm = []:=by rfl):AEnd Γ σ (RetQ Γ P fn d) e:=fun a w F hs=>by
  obtain ⟨v,h1,h2⟩:=hr.run hs
  have:(results fn a.tmps).run P w = .ok v w:=by rw [yL h]; simp [h1]
  rcases he with rfl | rfl <;> exact ⟨hs.defers.trans (by rw [hdm]; rfl),_,this,zCn hs hl h2⟩
theorem zEF {e:Exit} {rv rv':ResultVar} {d d':D} (he:e = .ret ∨ e = .normal) (hl:∀ b,¬ Γ.lent b) (h:fn.results = #[rv,rv']) (hr:ResV P σ rv d) (hr':ResV P σ rv' d') (hdm:σ.dm = []:=by rfl):AEnd Γ σ (RetQ Γ P fn (.tup [d,d'])) e:=fun a w F hs=>by
  obtain ⟨v,h1,h2⟩:=hr.run hs
  obtain ⟨v',h1',h2'⟩:=hr'.run hs
  have:(results fn a.tmps).run P w = .ok (.tuple #[v,v']) w:=by rw [yL h]; simp [h1,h1']
  rcases he with rfl | rfl <;> exact ⟨hs.defers.trans (by rw [hdm]; rfl),_,this,zCn hs hl ⟨[v,v'],rfl,v,[v'],rfl,h2,v',[],rfl,h2',rfl⟩⟩
theorem ki {e:Exit} {rv rv' rv'':ResultVar} {d d' d'':D} (he:e = .ret ∨ e = .normal) (hl:∀ b,¬ Γ.lent b) (h:fn.results = #[rv,rv',rv'']) (hr:ResV P σ rv d) (hr':ResV P σ rv' d') (hr'':ResV P σ rv'' d'') (hdm:σ.dm = []:=by rfl):AEnd Γ σ (RetQ Γ P fn (.tup [d,d',d''])) e:=fun a w F hs=>by
  obtain ⟨v,h1,h2⟩:=hr.run hs
  obtain ⟨v',h1',h2'⟩:=hr'.run hs
  obtain ⟨v'',h1'',h2''⟩:=hr''.run hs
  have:(results fn a.tmps).run P w = .ok (.tuple #[v,v',v'']) w:=by rw [yL h]; simp [h1,h1',h1'']
  rcases he with rfl | rfl <;> exact ⟨hs.defers.trans (by rw [hdm]; rfl),_,this,zCn hs hl ⟨[v,v',v''],rfl,v,_,rfl,h2,v',_,rfl,h2',v'',[],rfl,h2'',rfl⟩⟩
theorem ze {e:Exit} {d d':D} (h:AEnd Γ σ (RetQ Γ P fn d') e) (hd:d' = d):AEnd Γ σ (RetQ Γ P fn d) e:=hd ▸ h
theorem ends_grow {w w':World} {F:Nat → Nat → Prop} {r:D} {e:Ending} (h:Ends w F r e w') (hF:∀ b o,F b o → ∃ v,w.cell? ⟨b,o,none⟩ = some v):∃ v F',e = .returned v ∧ Rep F' w' r v ∧ Grow F F' w w' none:=by
  obtain ⟨v,F',he,hb,hr,h1,h2,h3⟩:=h
  exact ⟨v,F',he,hr,hb.os,hb.tape,hb.output,hb.size,fun k hk _=>hb.block k hk,h1,fun b o hf hlt _=>h2 b o hf hlt,h3,fun b o hf=>by
    obtain ⟨u,hu⟩:=hF b o hf
    exact hb.cell (p:=⟨b,o,none⟩) (World.block_lt_of_cell? w ⟨b,o,none⟩ hu)⟩
/-- A call of a function by its contract. -/
theorem s_call {ops : Array Oper} {o : Oper} {W : Nat → Prop} {f : Operand} {args : Array Operand} {ats : Array TypeId} {g dt : Nat} {fi ca ds all : List D} {r : D} {c : Bool} (L : List (Nat × TV))
    (hp:c = true → PureAt P g all r) (h:o.op = .call { callee:=.value f,args:=args,argTypes:=ats }) (hg:GuardOK Γ ops σ o c) (hd:o.dst = some dt) (hn:Nat.blt dt Γ.n = true) (hL:c = true → Strong σ L)
    (hf:(σ.puts L).ev f = some (true,.d (.fn (.func g) fi ca))) (ha:evsD (σ.puts L) args.toList = some ds) (hall:DLes (fi ++ ds ++ ca) all):StepW Γ P ops σ o W fun _:Unit=>σ.put dt c (.d r):=fun a w F hs K Q hK=>by
  rw [hg a w F hs]
  cases c with
  | false =>
    rw [if_neg (by simp),hd]
    exact hK () _ _ F (hs.put (zx hn) (fun h=>by cases h) (fun _=>rfl)) (fun _ _ h=>h) (Nat.le_refl _) (Agree.refl _ _ _)
  | true =>
    rw [if_pos rfl]
    have hs':=hs.strong (hL rfl)
    have hp:=hp rfl
    obtain ⟨vf,vc,e1,k1,k2⟩:=hs'.ev hf
    have ka:=(hs'.evs (ke ha)).of_d
    have hrun:(execOp a.eval o).run P w = .ok (.enter g (vf ++ args.toList.map a.eval ++ vc).toArray) w:=by
      have he:=hp.1 ((vf.toArray ++ args.map a.eval) ++ vc.toArray) w
      have harr:(vf.toArray ++ args.map a.eval) ++ vc.toArray = (vf ++ args.toList.map a.eval ++ vc).toArray:=by apply Array.ext'; simp
      rw [harr] at he
      simp only [execOp,h,resolve,e1,Deferred.ofValue,invoke,Sem.run_bind,Sem.run_pure,Result.andThen_ok,harr,he]
    unfold Oper.wp
    rw [hrun]
    refine (hp.2 w F _ hs.fcell hs.globs (hall.rep ((k1.append ka).append k2))).mono fun e w' he=>?_
    obtain ⟨v,F',rfl,hrep,hgr⟩:=ends_grow he hs.fcell
    show K (a.put o.dst v) w'
    rw [hd]
    exact hK () _ _ F' ((hs.grow hgr).put (zx hn) (fun _=>hrep) (fun h=>by cases h)) hgr.ext hgr.size (hgr.agree (fun _ e=>by cases e))
end
theorem i64w {x r:Int} (h:-9223372036854775808 ≤ x ∧ x ≤ 9223372036854775807) (e:x = r):IntKind.i64.wrap x = r:=by
  subst e
  simp only [IntKind.wrap,IntKind.bits,IntKind.signed]
  simp
  omega
theorem u64w {x r:Int} (h:0 ≤ x ∧ x ≤ 18446744073709551615) (e:x = r):IntKind.u64.wrap x = r:=by
  subst e
  simp only [IntKind.wrap,IntKind.bits,IntKind.signed]
  simp
  omega
/-- A contract for other arguments that read alike. -/
theorem PureAt.args {P:Program} {f:FuncId} {ds ds':List D} {r:D} (h:PureAt P f ds r) (hd:DLes ds' ds):PureAt P f ds' r :=
  ⟨h.1,fun w F vs hF hG hr=>h.2 w F vs hF hG (hd.rep hr)⟩
section
variable {Γ:Cx} {P:Program} {σ:St} {ops:Array Oper} {Q:Exit → Act → World → Prop} {W:Nat → Prop}
/-- Before any operation has touched the world. -/
def D1 (Γ:Cx) (P:Program) (ops:Array Oper) (Q:Exit → Act → World → Prop) (W:Nat → Prop) (n:Nat) (listed:Array Bool) (σ:St):Prop :=
  ∀ a w F,RS Γ σ a w F → wpAnyH P .any ops Q (Agree F W w) n listed a w
/-- Behind one that has. -/
def D2 (Γ:Cx) (P:Program) (ops:Array Oper) (Q:Exit → Act → World → Prop) (W:Nat → Prop) (n:Nat) (listed:Array Bool) (σ:St):Prop :=
  ∀ w1 F1 a w F,RS Γ σ a w F → Agree F1 W w1 w → (∀ b o,F1 b o → F b o) → w1.heap.size ≤ w.heap.size → wpAnyH P .any ops Q (Agree F1 W w1) n listed a w
theorem zE {n:Nat} {listed:Array Bool} (h:D2 Γ P ops Q W n listed σ):D1 Γ P ops Q W n listed σ:=fun a w F hs =>
  h w F a w F hs (Agree.refl _ _ _) (fun _ _ h=>h) (Nat.le_refl _)
theorem zo {id:Nat} (hm:P.follows .mixedOrders = true) (h:D1 Γ P ops Q W ops.size (Array.replicate ops.size false) σ):AWP Γ P (.region id ops true) σ Q:=fun a w F hs=>by
  have hg:Grow F F w w.drew none:=⟨rfl,rfl,rfl,Nat.le_refl _,fun _ _ _=>rfl,fun _ _ h=>h,fun _ _ h _ _=>h,hs.fcell,fun _ _ _=>rfl⟩
  exact wp_region_held hm (h a w.drew F (hs.grow hg))
/-- A quiet operation is taken first. -/
theorem d1_take {n i t : Nat} {o : Oper} {listed : Array Bool} {c : Bool} {tv : TV} (L : List (Nat × TV)) (hi : ops[i]? = some o) (hs' : Region.noSelect ops = true) (hf : Region.free .any ops listed i = true)
    (hr:(Region.ready .any ops listed).contains i = true) (hQ:∀ c a w v,Q (.panic c) (a.put o.dst v) w → Q (.panic c) a w)
    (hg:GuardOK Γ ops σ o c) (ht:o.dst = some t) (hn:Nat.blt t Γ.n = true) (hL:c = true → Strong σ L) (hq:c = true → QV Γ P (σ.puts L) o (RA W) tv)
    (h:D1 Γ P ops Q W n (listed.setIfInBounds i true) (σ.put t c tv)):D1 Γ P ops Q W (n + 1) listed σ:=fun a w F hs=>by
  have hlt:t < Γ.n:=zx hn
  have hw:=hg a w F hs
  cases c with
  | true =>
    obtain ⟨v,hv,hrun⟩:=hq rfl a w F (hs.strong (hL rfl))
    refine wpAnyH_take hi hs' hf hr (fun c a w=>hQ c a w v) (.inl ⟨hw,fun w' hw'=>hrun w' hw'⟩) (Agree.refl _ _ _) ?_
    rw [ht]
    exact h _ _ F (hs.put hlt (fun _=>hv) (fun h=>by cases h))
  | false =>
    refine wpAnyH_take hi hs' hf hr (fun c a w=>hQ c a w undef) (.inr ⟨hw,rfl⟩) (Agree.refl _ _ _) ?_
    rw [ht]
    exact h _ _ F (hs.put hlt (fun h=>by cases h) (fun _=>rfl))
/-- One that may come up is carried out. -/
def Br (Γ:Cx) (P:Program) (ops:Array Oper) (Q:Exit → Act → World → Prop) (W:Nat → Prop) (n:Nat) (listed:Array Bool) (σ:St) (i:Nat):Prop :=
  ∀ w1 F1 a w F,RS Γ σ a w F → Agree F1 W w1 w → (∀ b o,F1 b o → F b o) → w1.heap.size ≤ w.heap.size →
    wpOp P ops Q i (fun a' w'=>Agree F1 W w1 w' ∧ wpAnyH P .any ops Q (Agree F1 W w1) n (listed.setIfInBounds i true) a' w') a w
def AllBr (Γ:Cx) (P:Program) (ops:Array Oper) (Q:Exit → Act → World → Prop) (W:Nat → Prop) (n:Nat) (listed:Array Bool) (σ:St):List Nat → Prop
  | []=>True
  | i :: r=>Br Γ P ops Q W n listed σ i ∧ AllBr Γ P ops Q W n listed σ r
theorem allBr {n:Nat} {listed:Array Bool}:∀ {rs:List Nat},AllBr Γ P ops Q W n listed σ rs → ∀ i ∈ rs,Br Γ P ops Q W n listed σ i
  | j :: r,⟨h1,h2⟩,i,hi=>by
    rcases List.mem_cons.1 hi with rfl | hi
    · exact h1
    · exact allBr h2 i hi
theorem br {n i : Nat} {o : Oper} {listed : Array Bool} {X : Type} {S' : X → St} (hi : ops[i]? = some o) (hst : StepW Γ P ops σ o W S')
    (h:∀ x,D2 Γ P ops Q W n (listed.setIfInBounds i true) (S' x)):Br Γ P ops Q W n listed σ i:=fun w1 F1 a w F hs k1 k2 k3=>by
  have key:=hst a w F hs (fun a' w'=>Agree F1 W w1 w' ∧ wpAnyH P .any ops Q (Agree F1 W w1) n (listed.setIfInBounds i true) a' w') Q (fun x a' w' F' hs' e1 e2 e3=>by
    have hag:Agree F1 W w1 w':=fun b o hb hfw=>by
      have h1:=e3 b o (Nat.lt_of_lt_of_le hb k3) (hfw.imp (k2 b o) id)
      exact h1.trans (k1 b o hb hfw)
    exact ⟨hag,h x w1 F1 a' w' F' hs' hag (fun b o hf=>e1 b o (k2 b o hf)) (Nat.le_trans k3 e2)⟩)
  unfold wpOp
  simp only [hi]
  split
  · rename_i hw
    rw [if_pos hw] at key
    exact .inl key
  · rename_i hw
    rw [if_neg hw] at key
    exact key
theorem zm {n:Nat} {listed:Array Bool} (i:Nat) (rs:List Nat) (hr:Region.ready .any ops listed = i :: rs) (h:AllBr Γ P ops Q W n listed σ (i :: rs)):D2 Γ P ops Q W (n + 1) listed σ:=fun w1 F1 a w F hs k1 k2 k3 =>
  wpAnyH_all hr (by simp) fun j hj=>allBr h j hj w1 F1 a w F hs k1 k2 k3
theorem zDi {n i : Nat} {o : Oper} {listed : Array Bool} {X : Type} {S' : X → St} (hr : Region.ready .any ops listed = [i]) (hi : ops[i]? = some o) (hst : StepW Γ P ops σ o W S')
    (h:∀ x,D2 Γ P ops Q W n (listed.setIfInBounds i true) (S' x)):D2 Γ P ops Q W (n + 1) listed σ:=zm i [] hr ⟨br hi hst h,trivial⟩
theorem zl {n:Nat} {listed:Array Bool} (hr:Region.ready .any ops listed = []) (h:AEnd Γ σ Q .normal):D2 Γ P ops Q W n listed σ:=fun w1 F1 a w F hs _ _ _=>wpAnyH_done hr (h a w F hs) n
end
theorem kP {P : Program} {t e : TypeId} {sz bytes : Nat} {z : Value} (ht : P.underlying t = some (.slice e)) (h : (P.info? e).map (fun i => (i.zero, i.size, i.bytes)) = some (some z, sz, bytes))
    (hz:z.cells.size = sz) (hp:0 < sz):ElT P t e sz bytes:=⟨ht,by
  cases hq:P.info? e with
  | none=>simp [hq] at h
  | some i=>simp [hq] at h; exact ⟨i,z,rfl,h.1,h.2.1,h.2.2,hz⟩,hp⟩
section
variable {Γ:Cx} {P:Program} {σ:St} {Q:Exit → Act → World → Prop}
end
/-- What the entry knows of lengths. -/
def LenOK:List D → Prop
  | []=>True
  | .slice _ es :: r=>es.length ≤ 9223372036854775807 ∧ LenOK r
  | .agg cs :: r=>(∀ sz es,D.slice sz es ∈ cs → es.length ≤ 9223372036854775807) ∧ LenOK r
  | _ :: r=>LenOK r
theorem zD2 {F:Nat → Nat → Prop} {w:World} {sz:Nat} {es:List (List D)} {v:Value} (h:Rep F w (.slice sz es) v):es.length ≤ 9223372036854775807:=by
  obtain ⟨ad,cap,_,h1,h2,_⟩:=h
  simp only [maxLen] at h2
  omega
theorem kw {F:Nat → Nat → Prop} {w:World}:∀ {ds:List D} {vs:List Value},RepVals F w ds vs → LenOK ds
  | [],_,_=>trivial
  | d :: ds,_,⟨v,vs',e,h1,h2⟩=>by
    have ih:=kw h2
    cases d with
    | slice sz es=>exact ⟨zD2 h1,ih⟩
    | agg cs =>
      refine ⟨fun sz es hm=>?_,ih⟩
      obtain ⟨us,_,hr,_⟩:=h1
      obtain ⟨i,hi⟩:=List.getElem?_of_mem hm
      obtain ⟨u,_,hu⟩:=hr.get hi
      exact zD2 hu
    | _=>exact ih
/-- A contract may take the lengths' bounds for granted. -/
theorem PureAt.of_len {P:Program} {f:FuncId} {ds:List D} {r:D} (he:Ent P f) (h:LenOK ds → PureAt P f ds r):PureAt P f ds r :=
  ⟨he,fun w F vs hF hG hr=>(h (kw hr)).2 w F vs hF hG hr⟩
theorem PureAt.of_awp' {P : Program} {f : FuncId} {fn : Func} {c : Code} {ds : List D} {r : D} (hf : P.funcs[f]? = some fn) (hb : fn.body = some c) (hname : (fn.name == "runtime.NumGoroutine") = false)
    (hn:Nat.ble ds.length fn.ntmps = true) (h:LenOK ds → ∀ Γ:Cx,Γ.n = fn.ntmps → (∀ b,¬ Γ.lent b) → AWP Γ P c ⟨argSt 0 ds,[],[]⟩ (RetQ Γ P fn r)):PureAt P f ds r :=
  PureAt.of_len (yo hf hname (by simp [hb])) fun hl=>PureAt.of_awp hf hb hname (Nat.le_of_ble_eq_true hn) (h hl)
section
variable {Γ:Cx} {P:Program} {σ:St} {Q:Exit → Act → World → Prop}
/-- Looked up in l one finds what is in l0, but for the names in K. -/
inductive Keeps {α:Type} (K:List Nat):List (Nat × α) → List (Nat × α) → Prop
  | refl (l:List (Nat × α)):Keeps K l l
  | cons {k:Nat} {x:α} {l l0:List (Nat × α)} (hk:K.any (Nat.beq k) = true) (h:Keeps K l l0):Keeps K ((k,x) :: l) l0
theorem Keeps.lk {α:Type} {K:List Nat} {l l0:List (Nat × α)} (h:Keeps K l l0) {t:Nat} (ht:K.any (Nat.beq t) = false):lk l t = Go.Proofs.YticlpkgpmmhemaaGreatDoor.lk l0 t:=by
  induction h with
  | refl=>rfl
  | cons hk _ ih =>
    rename_i k x l l0 _
    have hne:k ≠ t:=fun e=>by rw [e,ht] at hk; cases hk
    rw [zT _ _ hne]
    exact ih
/-- The entries of l hold in σ, or say nothing. -/
def HoldT (σ:St):List (Nat × Bool × TV) → Prop
  | []=>True
  | (t,c,tv) :: r=>(σ.get t = some (c,tv) ∨ (c = true ∧ tv = .any)) ∧ HoldT σ r
def HoldR (σ:St):List (Nat × Res) → Prop
  | []=>True
  | (i,x) :: r=>(σ.rget i = some x ∨ x = .gone) ∧ HoldR σ r
theorem HoldT.get:∀ {l:List (Nat × Bool × TV)} {t:Nat} {c:Bool} {tv:TV},HoldT σ l → lk l t = some (c,tv) → σ.get t = some (c,tv) ∨ (c = true ∧ tv = .any)
  | [],_,_,_,_,h=>by simp [lk] at h
  | (t',c',tv') :: r,t,c,tv,⟨h1,h2⟩,h=>by
    by_cases e:t' = t
    · subst e
      rw [zR] at h
      cases h
      exact h1
    · rw [zT _ _ e] at h
      exact HoldT.get h2 h
theorem HoldR.get:∀ {l:List (Nat × Res)} {i:Nat} {x:Res},HoldR σ l → lk l i = some x → σ.rget i = some x ∨ x = .gone
  | [],_,_,_,h=>by simp [lk] at h
  | (t',c') :: r,t,c,⟨h1,h2⟩,h=>by
    by_cases e:t' = t
    · subst e
      rw [zR] at h
      cases h
      exact h1
    · rw [zT _ _ e] at h
      exact HoldR.get h2 h
theorem zw {α:Type}:∀ {l r:List (Nat × α)} {t:Nat},lk (l ++ r) t = match lk l t with | some x=>some x | none=>lk r t
  | [],_,_=>rfl
  | (k,x) :: l,r,t=>by
    by_cases e:k = t
    · subst e; simp [zR]
    · simp only [List.cons_append]; rw [zT _ _ e,zT _ _ e]; exact zw
theorem zAM {α:Type}:∀ {l:List (Nat × α)} {t:Nat},lk l t = none → (l.map (·.1)).any (Nat.beq t) = false
  | [],_,_=>rfl
  | (k,x) :: l,t,h=>by
    by_cases e:k = t
    · subst e; simp [zR] at h
    · rw [zT _ _ e] at h
      have:Nat.beq t k = false:=by
        cases hb:Nat.beq t k
        · rfl
        · exact absurd (Nat.eq_of_beq_eq_true hb).symm e
      simp only [List.map_cons,List.any_cons,this,Bool.false_or]
      exact zAM h
/-- A state over another one: these entries, else those. -/
def St.over (tm:List (Nat × Bool × TV)) (rs:List (Nat × Res)) (σ:St):St:=⟨tm ++ σ.tm,rs ++ σ.rs,σ.dm⟩
theorem RS.over {a : Act} {w : World} {F : Nat → Nat → Prop} {σ' : St} {tm : List (Nat × Bool × TV)} {rs : List (Nat × Res)} (hs : RS Γ σ' a w F)
    (kt:Keeps (tm.map (·.1)) σ'.tm σ.tm) (kr:Keeps (rs.map (·.1)) σ'.rs σ.rs) (ht:HoldT σ' tm) (hr:HoldR σ' rs) (hdm:σ'.dm = σ.dm:=by rfl):RS Γ (σ.over tm rs) a w F:={
  hs with
  defers:=hs.defers.trans (by rw [hdm]; rfl)
  tm:=fun t c tv hget=>by
    simp only [St.get,St.over,zw] at hget
    cases h:lk tm t with
    | some x =>
      rw [h] at hget
      cases hget
      rcases ht.get h with h1 | ⟨rfl,rfl⟩
      · exact hs.tm t c tv h1
      · exact ⟨fun _=>trivial,fun h=>by cases h⟩
    | none =>
      rw [h] at hget
      exact hs.tm t c tv ((kt.lk (zAM h)).trans hget)
  rs:=fun i x hget=>by
    simp only [St.rget,St.over,zw] at hget
    cases h:lk rs i with
    | some y =>
      rw [h] at hget
      cases hget
      rcases hr.get h with h1 | rfl
      · exact hs.rs i x h1
      · trivial
    | none =>
      rw [h] at hget
      exact hs.rs i x ((kr.lk (zAM h)).trans hget)
  sep:=fun i i' r r' b h1 h2 e1 e2=>by
    have key:∀ i x,(σ.over tm rs).rget i = some x → x.has b → σ'.rget i = some x:=fun i x hget hb=>by
      simp only [St.rget,St.over,zw] at hget
      cases h:lk rs i with
      | some y =>
        rw [h] at hget
        cases hget
        rcases hr.get h with h1 | rfl
        · exact h1
        · exact hb.elim
      | none =>
        rw [h] at hget
        exact (kr.lk (zAM h)).trans hget
    exact hs.sep i i' r r' b (key i r h1 e1) (key i' r' h2 e2) e1 e2 }
/-- From where a loop is, to its head. -/
theorem awp_loop_on {ι : Type} {c : Code} (tm : ι → List (Nat × Bool × TV)) (rs : ι → List (Nat × Res)) (μ : ι → Nat) (i₀ : ι) (h0 : HoldT σ (tm i₀)) (h0r : HoldR σ (rs i₀))
    (hb:∀ i,AWP Γ P c (σ.over (tm i) (rs i)) (Exit.then (Round Γ (fun i=>σ.over (tm i) (rs i)) μ (μ i)) Q)):AWP Γ P (.loop c) σ Q :=
  awp_loop' (fun i=>σ.over (tm i) (rs i)) μ i₀ (fun a w F hs=>hs.over (.refl _) (.refl _) h0 h0r) hb
theorem aend_round_on {ι : Type} {σ' : St} {tm : ι → List (Nat × Bool × TV)} {rs : ι → List (Nat × Res)} {μ : ι → Nat} {n : Nat} (i : ι) (ht : HoldT σ' (tm i)) (hr : HoldR σ' (rs i))
    (hlt:μ i < n) (kt:Keeps ((tm i).map (·.1)) σ'.tm σ.tm) (kr:Keeps ((rs i).map (·.1)) σ'.rs σ.rs) (hdm:σ'.dm = σ.dm:=by rfl):AEnd Γ σ' (Exit.then (Round Γ (fun i=>σ.over (tm i) (rs i)) μ n) Q) .normal:=fun a w F hs =>
  ⟨i,F,hs.over kt kr ht hr hdm,hlt⟩
/-- A join in which what is not named stays. -/
theorem aend_join_on {ι : Type} {σ' : St} {tm : ι → List (Nat × Bool × TV)} {rs : ι → List (Nat × Res)} {e : Exit} (h : ∀ i, AEnd Γ (σ.over (tm i) (rs i)) Q e) (i : ι) (ht : HoldT σ' (tm i)) (hr : HoldR σ' (rs i))
    (kt:Keeps ((tm i).map (·.1)) σ'.tm σ.tm) (kr:Keeps ((rs i).map (·.1)) σ'.rs σ.rs) (hdm:σ'.dm = σ.dm:=by rfl):AEnd Γ σ' Q e:=fun a w F hs=>h i a w F (hs.over kt kr ht hr hdm)
theorem zb {ι:Type} {c:Code} {e:Exit} (tm:ι → List (Nat × Bool × TV)) (rs:ι → List (Nat × Res)) (h:(∀ i,AEnd Γ (σ.over (tm i) (rs i)) Q e) → AWP Γ P c σ Q) (hS:∀ i,AEnd Γ (σ.over (tm i) (rs i)) Q e):AWP Γ P c σ Q:=h hS
theorem z7 {i j:Nat} {r r':Res} {ops:Array Oper} {W:Nat → Prop} {n:Nat} {listed:Array Bool} (hi:σ.rget i = some r) (hj:σ.rget j = some r') (hne:Nat.beq i j = false) (h:(∀ b,r.blk = some b → r'.blk ≠ some b) → D2 Γ P ops Q W n listed σ):D2 Γ P ops Q W n listed σ:=fun w1 F1 a w F hs =>
  h (fun b h1 h2=>by have:=hs.sep i j r r' b hi hj (kO h1) (kO h2); subst this; simp at hne) w1 F1 a w F hs
end
section
variable {Γ:Cx} {P:Program} {σ:St} {ops:Array Oper} {o:Oper} {Q:Exit → Act → World → Prop} {W:Nat → Prop} {R:Rel}
/-- An element of an array value. -/
theorem q_indexAgg {x y : Operand} {t e : TypeId} {n : Nat} {de : TypeDesc} {cs : List D} {k : IntKind} {i : Nat} {m : Int} {c : D} (h : o.op = .index t x y)
    (hx:σ.ev x = some (true,.d (.agg cs))) (hy:σ.ev y = some (true,.d (.int k m))) (ht:P.underlying t = some (.array n e)) (he:P.underlying e = some de) (hd:rowD de = false) (hz:Sz P e 1)
    (hm:m = (i:Int)) (hi:i < n) (hc:cs[i]? = some c):QV Γ P σ o R (.d c):=fun a w F hs=>by
  obtain ⟨vs,e1,hr,_⟩:=hs.ev hx
  have h2:=hs.ev hy
  simp only [TRep,Rep] at h2
  obtain ⟨v,hv,hrep⟩:=hr.get hc
  subst hm
  exact ⟨v,hrep,fun w' _=>by
    simp [execOp,h,e1,h2,Instr.index,asIntOf,run_underlying ht,hi,kE hz,part,zAk he hd,hv]⟩
end
theorem zA2 {P:Program} {ops:Array Oper} {md:Region.Mode} {Q:Exit → Act → World → Prop} {S S':World → Prop} (hS:∀ w,S' w → S w):∀ (fuel:Nat) (listed:Array Bool) (a:Act) (w:World),wpAnyH P md ops Q S' fuel listed a w → wpAnyH P md ops Q S fuel listed a w
  | 0,_,_,_,h=>h
  | fuel + 1,_,_,_,h=>⟨h.1,fun i hi=>wpOp_mono (fun a' w' h'=>⟨hS w' h'.1,zA2 hS fuel _ a' w' h'.2⟩) (h.2 i hi)⟩
/-- Back to where nothing has changed yet. -/
theorem d2_of_d1 {Γ:Cx} {P:Program} {ops:Array Oper} {Q:Exit → Act → World → Prop} {W:Nat → Prop} {σ:St} {n:Nat} {listed:Array Bool} (h:D1 Γ P ops Q W n listed σ):D2 Γ P ops Q W n listed σ:=fun w1 F1 a w F hs k1 k2 k3 =>
  zA2 (fun w' hw' b o hb hf=>(hw' b o (Nat.lt_of_lt_of_le hb k3) (hf.imp (k2 b o) id)).trans (k1 b o hb hf)) n listed a w (h a w F hs)
end Go.Proofs.YticlpkgpmmhemaaGreatDoor
