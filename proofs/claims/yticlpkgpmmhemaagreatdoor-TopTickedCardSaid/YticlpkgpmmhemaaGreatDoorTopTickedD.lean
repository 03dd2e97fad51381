/-
  A part of the proof that contangolaw.TopTicked returns true: what the last text needs, and no more. No condition: no statement of the seat is proved here.
-/
import Derived.Laws.Strings2
import Derived.Laws.Strings3
import Derived.Laws.Concat
import Derived.Laws.BytesString
import Derived.Laws.IdiomStrings
import Derived.WideLaws
import Derived.Test.YticlpkgpmmhemaaGreatDoorTopTickedC
namespace Go.Proofs.YticlpkgpmmhemaaGreatDoor
open Go.RowKit
set_option linter.all false
/-- A string, by its bytes. -/
@[reducible] def strD (l:List UInt8):D:=.str ⟨l.toArray⟩
/-- Bytes, as a slice's elements. -/
@[reducible] def byteE (b:UInt8):List D:=[.int .u8 (b.toNat:Int)]
@[reducible] def bytesD (l:List UInt8):D:=.slice 1 (l.map byteE)
theorem zU (l:List UInt8):(ByteArray.mk l.toArray).size = l.length:=by simp [ByteArray.size]
section
variable {Γ:Cx} {P:Program} {σ:St} {ops:Array Oper} {o:Oper} {R:Rel} {W:Nat → Prop}
theorem z8 {x y : Operand} {t : TypeId} {l : List UInt8} {k : IntKind} {m : Int} {i : Nat} {b : UInt8} (h : o.op = .index t x y) (hx : σ.ev x = some (true, .d (strD l))) (hy : σ.ev y = some (true, .d (.int k m)))
    (ht:P.underlying t = some .string) (hm:m = (i:Int)) (hi:l[i]? = some b):QV Γ P σ o R (.d (.int .u8 (b.toNat:Int))):=fun a w F hs=>by
  have h1:=hs.ev hx
  have h2:=hs.ev hy
  simp only [TRep,Rep] at h1 h2
  subst hm
  have hlt:=(List.getElem?_eq_some_iff.1 hi).1
  refine ⟨.int .u8 (b.toNat:Int),rfl,fun w' _=>?_⟩
  have hb:0 ≤ (i:Int) ∧ (i:Int) < ((ByteArray.mk l.toArray).size:Int):=by rw [zU]; omega
  have e:((ByteArray.mk l.toArray)[((i:Int)).toNat]'(by have:=hb.2; omega)) = b:=by
    have:=(List.getElem?_eq_some_iff.1 hi).2
    simpa [ByteArray.getElem_eq_getElem_data] using this
  have hr:=run_index_string (P:=P) w' t ⟨l.toArray⟩ k (i:Int) ht
  rw [dif_pos hb,e] at hr
  simp only [execOp,h,h1,h2,Sem.run_bind,hr,Result.andThen_ok,Sem.run_pure]
theorem yy {x y : Operand} {t : TypeId} {l l' : List UInt8} {k : IntKind} {m : Int} {i : Nat} (h : o.op = .slice t x (some y) none none) (hx : σ.ev x = some (true, .d (strD l))) (hy : σ.ev y = some (true, .d (.int k m)))
    (ht:P.underlying t = some .string) (hm:m = (i:Int)) (hi:i ≤ l.length) (hl:l.drop i = l'):QV Γ P σ o R (.d (strD l')):=fun a w F hs=>by
  have h1:=hs.ev hx
  have h2:=hs.ev hy
  simp only [TRep,Rep] at h1 h2
  subst hm hl
  refine ⟨.string ⟨(l.drop i).toArray⟩,rfl,fun w' _=>?_⟩
  have hb:0 ≤ (i:Int) ∧ (i:Int) ≤ ((ByteArray.mk l.toArray).size:Int):=by rw [zU]; omega
  have hr:=run_slice_string_from_if (P:=P) w' t ⟨l.toArray⟩ k (i:Int) ht
  rw [if_pos hb] at hr
  rw [zU,Int.toNat_natCast,ByteArray.extract_mk,List.take_of_length_le (by simp)] at hr
  simp only [execOp,h,h1,h2,Instr.sliceAt,Option.map,Sem.run_bind,run_underlying ht,hr,Result.andThen_ok,Sem.run_pure]
theorem zAp {x y : Operand} {t : TypeId} {l l' : List UInt8} {k : IntKind} {m : Int} {i : Nat} (h : o.op = .slice t x none (some y) none) (hx : σ.ev x = some (true, .d (strD l))) (hy : σ.ev y = some (true, .d (.int k m)))
    (ht:P.underlying t = some .string) (hm:m = (i:Int)) (hi:i ≤ l.length) (hl:l.take i = l'):QV Γ P σ o R (.d (strD l')):=fun a w F hs=>by
  have h1:=hs.ev hx
  have h2:=hs.ev hy
  simp only [TRep,Rep] at h1 h2
  subst hm hl
  refine ⟨.string ⟨(l.take i).toArray⟩,rfl,fun w' _=>?_⟩
  have hb:0 ≤ (i:Int) ∧ (i:Int) ≤ ((ByteArray.mk l.toArray).size:Int):=by rw [zU]; omega
  have hr:=run_slice_string_to_if (P:=P) w' t ⟨l.toArray⟩ k (i:Int) ht
  rw [if_pos hb] at hr
  rw [Int.toNat_natCast,ByteArray.extract_mk,List.drop_zero,Nat.sub_zero] at hr
  simp only [execOp,h,h1,h2,Instr.sliceAt,Option.map,Sem.run_bind,run_underlying ht,hr,Result.andThen_ok,Sem.run_pure]
theorem zCH {x y z : Operand} {t : TypeId} {l l' : List UInt8} {k k' : IntKind} {m m' : Int} {i j : Nat} (h : o.op = .slice t x (some y) (some z) none) (hx : σ.ev x = some (true, .d (strD l))) (hy : σ.ev y = some (true, .d (.int k m))) (hz : σ.ev z = some (true, .d (.int k' m')))
    (ht:P.underlying t = some .string) (hm:m = (i:Int)) (hm':m' = (j:Int)) (hi:i ≤ j) (hj:j ≤ l.length) (hl:(l.drop i).take (j - i) = l'):QV Γ P σ o R (.d (strD l')):=fun a w F hs=>by
  have h1:=hs.ev hx
  have h2:=hs.ev hy
  have h3:=hs.ev hz
  simp only [TRep,Rep] at h1 h2 h3
  subst hm hm' hl
  refine ⟨.string ⟨((l.drop i).take (j - i)).toArray⟩,rfl,fun w' _=>?_⟩
  have hr:=run_slice_string (P:=P) w' t ⟨l.toArray⟩ k k' (i:Int) (j:Int) ht (by omega) (by omega) (by rw [zU]; omega)
  rw [Int.toNat_natCast,Int.toNat_natCast,ByteArray.extract_mk] at hr
  simp only [execOp,h,h1,h2,h3,Instr.sliceAt,Option.map,Sem.run_bind,run_underlying ht,hr,Result.andThen_ok,Sem.run_pure]
theorem zBH {x y : Operand} {t t' : TypeId} {a b c : List UInt8} (h : o.op = .binOp .add t x y t') (hx : σ.ev x = some (true, .d (strD a))) (hy : σ.ev y = some (true, .d (strD b)))
    (hb:a.length + b.length ≤ 9223372036854775807) (hc:a ++ b = c):QV Γ P σ o R (.d (strD c)):=fun A w F hs=>by
  have h1:=hs.ev hx
  have h2:=hs.ev hy
  simp only [TRep,Rep] at h1 h2
  subst hc
  refine ⟨.string ⟨(a ++ b).toArray⟩,rfl,fun w' _=>?_⟩
  have hr:=run_string_add_sum (P:=P) w' ⟨a.toArray⟩ ⟨b.toArray⟩ (by rw [zU,zU]; exact hb)
  rw [ByteArray.mk_append_mk] at hr
  simp [execOp,h,h1,h2,binOp_string_add,hr,eqGuard]
theorem yt {x y:Operand} {t t':TypeId} {a b:List UInt8} (h:o.op = .binOp .eql t x y t') (hx:σ.ev x = some (true,.d (strD a))) (hy:σ.ev y = some (true,.d (strD b))):QV Γ P σ o R (.d (.bool (a == b))):=fun A w F hs=>by
  have h1:=hs.ev hx
  have h2:=hs.ev hy
  simp only [TRep,Rep] at h1 h2
  exact ⟨.bool (a == b),rfl,fun w' _=>by simp [execOp,h,h1,h2,binOp_string_eql,eqGuard_at_string]⟩
theorem zEl {x y:Operand} {t t':TypeId} {a b:List UInt8} (h:o.op = .binOp .neq t x y t') (hx:σ.ev x = some (true,.d (strD a))) (hy:σ.ev y = some (true,.d (strD b))):QV Γ P σ o R (.d (.bool (a != b))):=fun A w F hs=>by
  have h1:=hs.ev hx
  have h2:=hs.ev hy
  simp only [TRep,Rep] at h1 h2
  exact ⟨.bool (a != b),rfl,fun w' _=>by simp [execOp,h,h1,h2,binOp_string_neq,eqGuard_at_string,bne]⟩
end
section
variable {Γ:Cx} {P:Program} {σ:St} {ops:Array Oper} {o:Oper} {R:Rel} {W:Nat → Prop}
/-- What is frozen of a new block, drawn or not, marked or not. -/
theorem RS.newFrozenM {a : Act} {w : World} {F : Nat → Nat → Prop} (hs : RS Γ σ a w F) {ty : TypeId} {vs : Array Value} {fr : Nat × Nat} {n : Nat} (hn : n ≤ vs.size) :
    RS Γ σ a (w.drew.alloc (.cells vs ty fr)) (fun b o=>F b o ∨ (b = w.heap.size ∧ o < n)) ∧ Ext F (fun b o=>F b o ∨ (b = w.heap.size ∧ o < n)) w (w.drew.alloc (.cells vs ty fr)) ∧
      Grow F (fun b o=>F b o ∨ (b = w.heap.size ∧ o < n)) w (w.drew.alloc (.cells vs ty fr)) none:=by
  have hlt:∀ b o,F b o → (w.drew.alloc (.cells vs ty fr)).cell? ⟨b,o,none⟩ = w.cell? ⟨b,o,none⟩:=fun b o h=>by
    obtain ⟨x,hx⟩:=hs.fcell b o h
    exact World.cell?_alloc_lt w.drew _ ⟨b,o,none⟩ (World.block_lt_of_cell? w ⟨b,o,none⟩ hx)
  have hg:Grow F (fun b o=>F b o ∨ (b = w.heap.size ∧ o < n)) w (w.drew.alloc (.cells vs ty fr)) none:={
    os:=rfl
    tape:=rfl
    output:=rfl
    size:=by simp
    block:=fun k hk _=>Below.heap_alloc w.drew _ k hk
    ext:=fun _ _ h=>.inl h
    new:=fun b o h hlt _=>h.resolve_right (fun e=>by omega)
    cell:=fun b o h=>by
      rcases h with h | ⟨rfl,h⟩
      · obtain ⟨x,hx⟩:=hs.fcell b o h
        exact ⟨x,(hlt b o h).trans hx⟩
      · exact ⟨vs[o],(World.cell?_alloc_mark w.drew vs ty fr o).trans (Array.getElem?_eq_getElem (by omega))⟩
    keep:=hlt }
  exact ⟨hs.grow hg,fun b o hf=>⟨hg.ext b o hf,hg.keep b o hf⟩,hg⟩
theorem bytes_size (l:List UInt8) (cap:Nat) (h:l.length ≤ cap):(bytesRow ⟨l.toArray⟩ cap).size = cap:=by
  simp [bytesRow,zU]; omega
theorem bytes_at {l:List UInt8} {cap j:Nat} {b:UInt8} (h:l[j]? = some b):(bytesRow ⟨l.toArray⟩ cap)[j]? = some (.int .u8 (b.toNat:Int)):=by
  have hlt:=(List.getElem?_eq_some_iff.1 h).1
  have hb:=(List.getElem?_eq_some_iff.1 h).2
  rw [bytesRow_at ⟨l.toArray⟩ cap j (by simpa using hlt)]
  simp [hb]
theorem kz {F:Nat → Nat → Prop} {w:World}:∀ l:List UInt8,RepVals F w (l.map byteE).flatten (l.map fun b=>Value.int .u8 (b.toNat:Int))
  | []=>rfl
  | b :: l=>⟨_,_,rfl,rfl,kz l⟩
/-- '[]byte(s)': data in a new block. -/
theorem s_bytesOf {x : Operand} {src t e : TypeId} {dt : Nat} {l : List UInt8} (h : o.op = .convert src t x) (hg : o.guard = none) (hd : o.dst = some dt) (hn : Nat.blt dt Γ.n = true) (hx : σ.ev x = some (true, .d (strD l)))
    (hs0:P.underlying src = some .string) (ht:P.underlying t = some (.slice e)) (he:P.underlying e = some (.int .u8)) (hl:l.length ≤ maxLen):StepW Γ P ops σ o W fun _:Unit=>σ.put dt true (.d (bytesD l)):=fun a w F hs K Q hK=>by
  rw [if_pos (zi hg a)]
  have h1:=hs.ev hx
  simp only [TRep,Rep] at h1
  have hrun:=run_bytes_of_string (P:=P) w src t e ⟨l.toArray⟩ hs0 ht he
  rw [zU] at hrun
  have hcap:=grownCap_ge w l.length 0 e
  have hcm:=grownCap_le_maxLen w l.length 0 e hl
  obtain ⟨cap,hc⟩:∃ cap,grownCap w l.length 0 e = cap:=⟨_,rfl⟩
  rw [hc] at hrun hcap hcm
  have hsz:=bytes_size l cap hcap
  have hex:(execOp a.eval o).run P w = .ok (.value (.slice (some ⟨w.heap.size,0,none⟩) l.length cap)) (w.drew.alloc (.cells (bytesRow ⟨l.toArray⟩ cap) e ((bytesRow ⟨l.toArray⟩ cap).size,(bytesRow ⟨l.toArray⟩ cap).size + 1))):=by
    simp only [execOp,h,h1,Sem.run_bind,hrun,Result.andThen_ok,Sem.run_pure]
  unfold Oper.wp
  rw [hex]
  show K (a.put o.dst _) _
  rw [hd]
  obtain ⟨r1,r2,r3⟩:=hs.newFrozenM (ty:=e) (vs:=bytesRow ⟨l.toArray⟩ cap) (fr:=((bytesRow ⟨l.toArray⟩ cap).size,(bytesRow ⟨l.toArray⟩ cap).size + 1)) (n:=l.length) (by omega)
  refine hK () _ _ _ (r1.put (zx hn) (fun _=>?_) (fun h=>by cases h)) (fun _ _ h=>.inl h) (by simp) (r3.agree (fun _ e=>by cases e))
  refine ⟨_,cap,by rw [List.length_map],by rw [List.length_map]; exact hcap,hcm,.inr ⟨w.heap.size,0,rfl,RepRows.flat.2 ⟨fun c hc=>?_,?_⟩⟩⟩
  · obtain ⟨b,_,rfl⟩:=List.mem_map.1 hc
    rfl
  · refine RepCells.of_vals (kz l) (fun v hv=>?_) fun j v hv=>?_
    · obtain ⟨b,_,rfl⟩:=List.mem_map.1 hv
      rfl
    · rw [List.getElem?_map] at hv
      cases hb:l[j]? with
      | none=>rw [hb] at hv; cases hv
      | some b =>
        rw [hb] at hv
        cases hv
        have hlt:=(List.getElem?_eq_some_iff.1 hb).1
        rw [Nat.zero_add]
        exact ⟨(World.cell?_alloc_mark w.drew _ e _ j).trans (bytes_at hb),.inr ⟨rfl,hlt⟩⟩
end
section
variable {Γ:Cx} {P:Program} {σ:St} {ops:Array Oper} {o:Oper} {W:Nat → Prop}
theorem zDW:∀ {L:List (Nat × TV)},Strong σ L → ∀ {t:Nat} {c:Bool} {tv:TV},σ.get t = some (c,tv) → (σ.puts L).get t = some (c,tv)
  | [],_,_,_,_,h=>h
  | (t0,tv0) :: r,⟨⟨c0,hg,hc⟩,hr⟩,t,c,tv,h=>by
    by_cases e:t0 = t
    · subst e
      rw [hg] at h
      cases h
      subst hc
      simp [St.get,St.puts,St.put,zR]
    · have:=zDW hr h
      simpa [St.get,St.puts,St.put,zT _ _ e] using this
theorem kJ:∀ {L:List (Nat × TV)},(σ.puts L).rs = σ.rs ∧ (σ.puts L).dm = σ.dm
  | []=>⟨rfl,rfl⟩
  | _ :: r=>kJ (L:=r)
theorem RS.unputs {a:Act} {w:World} {F:Nat → Nat → Prop} {L:List (Nat × TV)} {dt:Nat} {tv:TV} (h:RS Γ ((σ.puts L).put dt true tv) a w F) (hL:Strong σ L):RS Γ (σ.put dt true tv) a w F:={
  h with
  defers:=h.defers.trans (by show (σ.puts L).dm.map _ = _; rw [(kJ (σ:=σ) (L:=L)).2]; rfl)
  tm:=fun t c tv' hg=>by
    by_cases e:dt = t
    · subst e
      exact h.tm dt c tv' (by simpa [St.get,St.put,zR] using hg)
    · refine h.tm t c tv' ?_
      have h1:σ.get t = some (c,tv'):=by simpa [St.get,St.put,zT _ _ e] using hg
      have:=zDW hL h1
      simpa [St.get,St.put,zT _ _ e] using this
  rs:=fun i r hg=>h.rs i r (by show lk (σ.puts L).rs i = _; rw [(kJ (σ:=σ) (L:=L)).1]; exact hg)
  sep:=fun i i' r r' b h1 h2=>h.sep i i' r r' b (by show lk (σ.puts L).rs i = _; rw [(kJ (σ:=σ) (L:=L)).1]; exact h1) (by show lk (σ.puts L).rs i' = _; rw [(kJ (σ:=σ) (L:=L)).1]; exact h2) }
theorem s_guardL {c : Bool} {dt : Nat} {tv : TV} (L : List (Nat × TV)) (hg : GuardOK Γ ops σ o c) (hd : o.dst = some dt) (hn : Nat.blt dt Γ.n = true) (hL : c = true → Strong σ L)
    (h:c = true → StepW Γ P ops (σ.puts L) { o with guard:=none } W fun _:Unit=>(σ.puts L).put dt true tv):StepW Γ P ops σ o W fun _:Unit=>σ.put dt c tv:=fun a w F hs K Q hK=>by
  rw [hg a w F hs]
  cases c with
  | true =>
    rw [if_pos rfl]
    have:=h rfl a w F (hs.strong (hL rfl)) K Q fun u a' w' F' hr h1 h2 h3=>hK u a' w' F' (hr.unputs (hL rfl)) h1 h2 h3
    rw [if_pos (zi rfl a)] at this
    exact this
  | false =>
    rw [if_neg (by simp),hd]
    exact hK () _ _ F (hs.put (zx hn) (fun h=>by cases h) (fun _=>rfl)) (fun _ _ h=>h) (Nat.le_refl _) (Agree.refl _ _ _)
end
theorem PureAt.of_calls {P : Program} {f : FuncId} {ds : List D} {r : D} (he : Ent P f)
    (h:∀ w F vs,(∀ b o,F b o → ∃ v,w.cell? ⟨b,o,none⟩ = some v) → GOK w (fun _=>False) → RepVals F w ds vs → Calls P f vs.toArray w fun e w'=>∃ v,e = .returned v ∧ Rep F w' r v ∧ Below w.heap.size w w'):PureAt P f ds r :=
  ⟨he,fun w F vs hF hG hr=>(h w F vs hF hG hr).mono fun e w' ⟨v,h1,h2,h3⟩ =>
    ⟨v,F,h1,h3,h2,fun _ _ h=>h,fun _ _ h _=>h,fun b o hf=>by
      obtain ⟨u,hu⟩:=hF b o hf
      exact ⟨u,(h3.cell (p:=⟨b,o,none⟩) (World.block_lt_of_cell? w ⟨b,o,none⟩ hu)).trans hu⟩⟩⟩
/-- The same where what is handed back is some of many. -/
theorem EffAt.of_calls {P : Program} {f : FuncId} {ds : List D} {X : Type} {r : X → D} (he : Ent P f)
    (h:∀ w F vs,(∀ b o,F b o → ∃ v,w.cell? ⟨b,o,none⟩ = some v) → GOK w (fun _=>False) → RepVals F w ds vs → Calls P f vs.toArray w fun e w'=>∃ x v,e = .returned v ∧ Rep F w' (r x) v ∧ Below w.heap.size w w'):EffAt P f (ds.map .d) [] (fun x=>.d (r x)) (fun _=>[]) :=
  ⟨he,fun w F vs hr hh=>(h w F vs hh.fcell (fun g hg=>⟨(hh.glob g hg).1,fun k=>k,(hh.glob g hg).2.2⟩) hr.of_d).mono fun e w' ⟨x,v,h1,h2,hb⟩=>by
    refine ⟨x,v,F,h1,h2,hb.os,hb.tape,hb.output,hb.size,fun k hk _=>hb.block k hk,fun b o hf=>?_,fun b o hf=>?_,fun _ _ h=>h,fun _ _ h _ _=>h,hh.glob,fun i r h=>by simp [lk] at h,fun i i' r r' b h=>by simp [lk] at h⟩
    · obtain ⟨u,hu⟩:=hh.fcell b o hf
      exact ⟨u,(hb.cell (p:=⟨b,o,none⟩) (World.block_lt_of_cell? w ⟨b,o,none⟩ hu)).trans hu⟩
    · obtain ⟨u,hu⟩:=hh.fcell b o hf
      exact hb.cell (p:=⟨b,o,none⟩) (World.block_lt_of_cell? w ⟨b,o,none⟩ hu)⟩
def ifc:Value → Bool
  | .nilIface=>false
  | _=>true
section
variable {Γ:Cx} {P:Program} {σ:St} {o:Oper} {R:Rel}
theorem q_neqNilI {x : Operand} {t t' : TypeId} {v : Value} (hv : v = .nilIface ∨ ∃ u p, v = .iface u p) (h : o.op = .binOp .neq t x (.const .nilIface) t') (hx : σ.ev x = some (true, .d (.raw v))) (ht : P.underlying t = some (.interface (P.methodsAt t))) :
    QV Γ P σ o R (.d (.bool (ifc v))):=fun a w F hs=>by
  have h1:=hs.ev hx
  simp only [TRep,Rep] at h1
  refine ⟨.bool (ifc v),rfl,fun w' _=>?_⟩
  rcases hv with rfl | ⟨u,p,rfl⟩
  · have hr:=run_neq_nil_nil (P:=P) (w:=w') t ht
    have hy:a.eval (.const .nilIface) = .nilIface:=rfl
    simp only [execOp,h,h1,hy,eqGuard_nil_constR,Sem.run_bind,Sem.run_pure,Result.andThen_ok,hr,ifc]
  · have hr:=run_neq_held_nil (P:=P) (w:=w') t u p ht
    have hy:a.eval (.const .nilIface) = .nilIface:=rfl
    simp only [execOp,h,h1,hy,eqGuard_at_iface,Sem.run_bind,Sem.run_pure,Result.andThen_ok,hr,ifc]
end
/-- The iterator number gf, which captured 'ca' and uses the resource 'lo', yields 'xs', one after the other, as long as it is let. -/
def SeqAtL (P:Program) (gf:FuncId) (ca:List TV) (lo:Nat × Res) (xs:List (List D)):Prop :=
  Ent P gf ∧ ∀ (ι:Type) (l:Nat) (R:ι → Res) (A:Nat → ι → Prop) (B:ι → Prop),(∀ j x i,xs[j]? = some x → A j i → YieldE P l x R i (A (j + 1)) B) →
    ∀ i,A 0 i → EffAt P gf (.val (.func (.yield l) #[] #[]) :: ca) [(7000,R i),lo] (X:={i:ι // A xs.length i ∨ B i}) (fun _=>.d (.tup [])) (fun i=>[(7000,R i.1)])
section
variable {Γ:Cx} {P:Program} {σ:St} {Q:Exit → Act → World → Prop}
theorem zCo {m n id:Nat} {r r' x:Res} (_:m ≠ n) (h:lk [(m,r),(n,r')] id = some x):(id = m ∧ x = r) ∨ (id = n ∧ x = r'):=by
  rw [yu,yu] at h
  split at h
  · rename_i e; cases h; exact .inl ⟨e.symm,rfl⟩
  · split at h
    · rename_i e; cases h; exact .inr ⟨e.symm,rfl⟩
    · simp [lk] at h
theorem yJ {m n:Nat} {r r':Res} {b:Nat} (hne:m ≠ n):blks [(m,r),(n,r')] b ↔ r.has b ∨ r'.has b:=by
  constructor
  · rintro ⟨i,x,h,hb⟩
    rcases zCo hne h with ⟨_,e⟩ | ⟨_,e⟩
    · subst e; exact .inl hb
    · subst e; exact .inr hb
  · rintro (h | h)
    · exact ⟨m,r,zR _ _ _,h⟩
    · exact ⟨n,r',by rw [zT _ _ hne]; exact zR _ _ _,h⟩
theorem kj {R:List (Nat × Res)} {n id:Nat} {x:Res} (h:lk (R ++ [(n,.gone)]) id = some x):lk R id = some x ∨ x = .gone:=by
  rw [zw] at h
  cases h1:lk R id with
  | some y=>rw [h1] at h; cases h; exact .inl rfl
  | none =>
    rw [h1] at h
    have h:lk [(n,Res.gone)] id = some x:=h
    rw [yu] at h
    split at h
    · cases h; exact .inr rfl
    · simp [lk] at h
theorem HeapOK.gone1 {Γ:Cx} {R:List (Nat × Res)} {w:World} {F:Nat → Nat → Prop} {n:Nat} (hh:HeapOK Γ R w F):HeapOK Γ (R ++ [(n,.gone)]) w F :=
  { hh with
    res:=fun i x hx=>by
      rcases kj hx with h | h
      · exact hh.res i x h
      · subst h; trivial
    sep:=fun i i' x x' b h1 h2 k1 k2=>by
      rcases kj h1 with h1 | h1
      · rcases kj h2 with h2 | h2
        · exact hh.sep i i' x x' b h1 h2 k1 k2
        · subst h2; exact k2.elim
      · subst h1; exact k1.elim }
/-- The statement 'for .. := range g { .. }', where g is lent a resource of its own. -/
theorem awp_rangeFuncL {n : Nat} {r₁ : Res} {g : Operand} {ps : Array Tmp} {assign body : Code} {gf : FuncId} {ca : List TV} {xs : List (List D)} {ι : Type} (rs : ι → List (Nat × Res)) (A : Nat → ι → Prop) (B : Code → ι → Prop) (i₀ : ι)
    (hseq:SeqAtL P gf ca (n,r₁) xs) (hn1:σ.rget n = some r₁) (hnr:∀ i,lk (rs i) n = none) (hn70:n ≠ 7000) (hn91:n ≠ 9001) (hn90:n ≠ 9000) (hg:σ.ev g = some (true,.fn (.func gf) [] ca)) (hps:∀ x ∈ xs,x.length = ps.size) (hpn:ps.toList.all (fun p=>Nat.blt p Γ.n) = true)
    (hdm:σ.dm = [] ∨ σ.rget 9000 = some (marksRes σ.dm)) (h0:SubR σ (rs i₀)) (hA0:A 0 i₀) (hc:∀ i,covers (rs i) (rs i₀) = true) (h91:∀ i,lk (rs i) 9001 = none) (h90:lk (rs i₀) 9000 = none) (hσ:σ.rget 9001 = none)
    (hbody:∀ (l:Nat) (r0:Loop) (Γ':Cx) (j:Nat) (x:List D) (i:ι),Γ'.n = Γ.n → r0.state = .ready → xs[j]? = some x → A j i →
      AWPI (some l) Γ' P assign ⟨roundTm ps.toList x σ.tm,(9001,.obj l (.loop r0)) :: rs i,[]⟩ (BeginQ Γ' P l r0 rs (A (j + 1)) B body))
    (hdone:∀ i D,A xs.length i → AEnd Γ ⟨σ.tm,(9000,marksRes (D :: σ.dm)) :: ((rs i ++ [(n,.gone)]) ++ σ.rs),D :: σ.dm⟩ Q .normal)
    (hstop:∀ c i D,B c i → AWP Γ P c ⟨σ.tm,(9000,marksRes (D :: σ.dm)) :: ((rs i ++ [(n,.gone)]) ++ σ.rs),D :: σ.dm⟩ Q):AWP Γ P (.rangeFunc g ps assign body) σ Q:=fun a w F hs=>by
  refine (wpIn_wide (n:=0)).1 (wpIn_rangeFunc fun fn _=>?_)
  obtain ⟨vf,vc,eg,kf,kc⟩:=hs.ev hg
  cases kf
  -- the record
  obtain ⟨r0,hr0⟩:∃ r0:Loop,r0 = { state:=.ready,pending:=none,fn,tmps:=a.tmps,params:=ps,assign,body,defers:=w.heap.size }:=⟨_,rfl⟩
  obtain ⟨D,hD⟩:∃ D,D = w.heap.size:=⟨_,rfl⟩
  obtain ⟨l,hl⟩:∃ l,l = w.heap.size + 1:=⟨_,rfl⟩
  obtain ⟨w1,hw1⟩:∃ w1,w1 = (w.alloc (.deferred (some []))).alloc (.loop r0):=⟨_,rfl⟩
  have hL1:w1.heap[l]? = some (.loop r0):=by rw [hw1,hl]; have:=World.alloc_heap_new (w.alloc (.deferred (some []))) (.loop r0); rwa [World.size_alloc] at this
  have hD1:w1.heap[D]? = some (.deferred (some [])):=by rw [hw1,hD]; exact (Below.heap_alloc _ _ _ (by simp)).trans (World.alloc_heap_new w _)
  have hsz1:w1.heap.size = w.heap.size + 2:=by rw [hw1]; simp
  have hrun1:(Instr.enterLoop fn a.tmps ps assign body Fence.wide.round).run P w = .ok (l,[{ target:=.collected D,args:=#[] }]) w1:=by
    rw [hw1,hr0,hl,hD]; exact run_enterLoop_outer _ _ _ _ _
  -- the heap behind the two blocks
  have hsub0:∀ id r,lk (rs i₀) id = some r → σ.rget id = some r:=fun id r h=>h0.get (yT h)
  have hheap0:HeapOK Γ.base σ.rs w F:={ os:=hs.os,tape:=hs.tape,output:=hs.output,hsize:=hs.hsize,old:=hs.old,fcell:=hs.fcell,keep:=hs.keep,f0:=hs.f0,fnew:=hs.fnew,glob:=hs.glob,res:=hs.rs,sep:=hs.sep }
  have hheap1:HeapOK Γ.base σ.rs w1 F:=by rw [hw1]; exact (hheap0.alloc _).alloc _
  have hext1:Ext F F w w1:=fun b o hf=>⟨hf,by
    obtain ⟨v,hv⟩:=hs.fcell b o hf
    have hlt:=World.block_lt_of_cell? w ⟨b,o,none⟩ hv
    rw [hw1]
    exact (World.cell?_alloc_lt _ _ ⟨b,o,none⟩ (by simp; exact Nat.lt_succ_of_lt hlt)).trans (World.cell?_alloc_lt _ _ ⟨b,o,none⟩ hlt)⟩
  have hb0:∀ id r b,σ.rget id = some r → r.has b → b < w.heap.size:=fun id r b h hb=>kF (hs.rs id r h) hb
  have hblk0:∀ b,blks (rs i₀) b → b < w.heap.size ∧ Γ.own b:=fun b ⟨id,r,h,hb⟩=>⟨hb0 id r b (hsub0 id r h) hb,yE (hs.rs id r (hsub0 id r h)) hb⟩
  have hblk1:∀ b,r₁.has b → b < w.heap.size ∧ Γ.own b:=fun b hb=>⟨hb0 n r₁ b hn1 hb,yE (hs.rs n r₁ hn1) hb⟩
  have hsep1:∀ b,r₁.has b → ¬ blks (rs i₀) b:=fun b hb ⟨id,r,h,hb'⟩=>by
    have e:=hs.sep id n r r₁ b (hsub0 id r h) hn1 hb' hb
    subst e; rw [hnr] at h; cases h
  -- what is lent to the iterator
  let rk:Option Code → Loop:=fun k=>match k with
    | none=>r0
    | some c=>{ r0 with state:=.done,pending:=some c }
  let fp:ι → Nat → Prop:=fun i b=>blks (rs i) b ∨ b = l
  let J:ι × Option Code → (Nat → Nat → Prop) → World → Prop:=fun i F' w'=>Ext F F' w1 w' ∧ (∀ id r,lk (rs i.1) id = some r → ResOK Γ F' w' r) ∧ (∀ id id' r r' b,lk (rs i.1) id = some r → lk (rs i.1) id' = some r' → r.has b → r'.has b → id = id') ∧
    ¬ blks (rs i.1) l ∧ w'.heap[l]? = some (.loop (rk i.2)) ∧ w.heap.size ≤ w'.heap.size
  let R:ι × Option Code → Res:=fun i=>.inv (fp i.1) (J i)
  have hstand:∀ i,Stands (fp i.1) (J i):=fun i F' F'' w' w'' ⟨j1,j2,j3,j4,j5,j6⟩ hsz hb hF hext =>
    ⟨j1.trans hext,fun id r h=>(j2 id r h).stand (fun b hb'=>yE (j2 id r h) hb') hsz (fun b hb'=>hb b (.inl ⟨id,r,h,hb'⟩)) (fun b o hb' hf=>hF b o (.inl ⟨id,r,h,hb'⟩) hf) hext,j3,j4,(hb l (.inr rfl)).trans j5,Nat.le_trans j6 hsz⟩
  have hown_l:Γ.own l:=.inl (by have:=hs.hsize; omega)
  have hJ0:J (i₀,none) F w1:=⟨Ext.refl _ _,fun id r h=>hheap1.res id r (hsub0 id r h),fun id id' r r' b h1 h2=>hs.sep id id' r r' b (hsub0 id r h1) (hsub0 id' r' h2),fun hb=>by have:=(hblk0 l hb).1; omega,hL1,by omega⟩
  -- one round
  have hround:∀ j x (i:ι × Option Code),xs[j]? = some x → (i.2 = none ∧ A j i.1) → YieldE P l x R i (fun i=>i.2 = none ∧ A (j + 1) i.1) (fun i=>∃ c,i.2 = some c ∧ B c i.1):=by
    rintro j x ⟨i,k⟩ hx ⟨hk,hA⟩ w' F' vs hvs hh
    obtain rfl:k = none:=hk
    obtain ⟨hfp,⟨j1,j2,j3,j4,j5,j6⟩,_⟩:=hh.res 7000 _ (zR _ _ _)
    have j5:w'.heap[l]? = some (.loop r0):=j5
    have hxl:=hps x (List.mem_of_getElem? hx)
    have hvl:=hvs.length
    have hy:=run_yield (P:=P) (args:=vs.toArray) j5 (by rw [hr0]; simp [hvl,hxl])
    refine ⟨r0.fn,_,r0.assign,r0.body,hy,roundIn_of_wpIn trivial ?_⟩
    -- the round's own context
    have hcx:∀ b,(callCx w' F' [(7000,R (i,none))] Γ.n).own b ↔ (w'.heap.size ≤ b ∨ fp i b):=fun b=>⟨fun h=>h.imp id y8.1,fun h=>h.imp id y8.2⟩
    have hownΓ:∀ b,(callCx w' F' [(7000,R (i,none))] Γ.n).own b → Γ.own b:=fun b hb=>by
      rcases (hcx b).1 hb with h | ⟨id,r,h,hb'⟩ | h
      · exact .inl (by have:=hs.hsize; omega)
      · exact yE (j2 id r h) hb'
      · subst h; exact hown_l
    have hheap:HeapOK (callCx w' F' [(7000,R (i,none))] Γ.n).base ((9001,.obj l (.loop r0)) :: rs i) w' F':=by
      refine HeapOK.cons { os:=rfl,tape:=rfl,output:=rfl,hsize:=Nat.le_refl _,old:=fun _ _ _=>rfl,fcell:=hh.fcell,keep:=fun _ _ _=>rfl,f0:=fun _ _ h=>h,fnew:=fun _ _ h _ _=>h,glob:=hh.glob,res:=fun id r h=>?_,sep:=j3 } ?_ ?_
      · exact (j2 id r h).stand (fun b hb=>.inr (y8.2 (.inl ⟨id,r,h,hb⟩))) (Nat.le_refl _) (fun _ _=>rfl) (fun _ _ _ h=>h) (Ext.refl _ _)
      · exact ⟨.inr (y8.2 (.inr rfl)),j5,fun o=>hh.notF j5 (fun _ _ _ e=>by cases e) o,fun _ _ _ e=>by cases e⟩
      · intro b hb id r' _ h hb'
        cases hb
        exact j4 ⟨id,r',h,hb'⟩
    have hRS:=RS.of_heap (Γ:=callCx w' F' [(7000,R (i,none))] Γ.n) (tm:=roundTm ps.toList x σ.tm) (R:=(9001,.obj l (.loop r0)) :: rs i) (dm:=[])
      (a:={ tmps:=(r0.params.zip vs.toArray).foldl (fun tmps (t,a)=>tmps.setIfInBounds t a) r0.tmps,defers:=[] }) hheap
      (by
        show Γ.n ≤ _
        rw [hr0]
        simp only
        rw [← Array.foldl_toList,Array.toList_zip,fold_size]
        exact hs.size) rfl (by
        rw [hr0]
        simp only
        rw [← Array.foldl_toList,Array.toList_zip]
        refine zBe (F:=F') (w:=w') (ps:=ps.toList) (vs:=vs) (tm:=σ.tm) (tmps:=a.tmps) (fun t c tv hget=>?_) hvs (fun p hp=>Nat.lt_of_lt_of_le (zx (List.all_eq_true.1 hpn p hp)) hs.size) (by simpa using hxl.symm)
        have h:=hs.tm t c tv hget
        exact ⟨fun hc=>((h.1 hc).ext' hext1).ext' j1,h.2⟩)
    have hb:=hbody l r0 (callCx w' F' [(7000,R (i,none))] Γ.n) j x i rfl (by rw [hr0]) hx hA _ w' F' hRS
    have eb:r0.body = body:=by rw [hr0]
    have ea:r0.assign = assign:=by rw [hr0]
    rw [ea,eb]
    refine wpIn_mono hb ?_
    intro e a1 w2 hq
    cases e with
    | normal =>
      obtain ⟨w3,hbr,hbw⟩:=hq
      refine ⟨w3,hbr,wpIn_mono hbw ?_⟩
      clear hbw hb
      -- the round's end
      have fin : ∀ (jump : Option Code) (i' : ι) (F3 : Nat → Nat → Prop) (w4 : World), HeapOK (callCx w' F' [(7000, R (i, none))] Γ.n).base ((9001, .obj l (.loop { r0 with state := .busy })) :: rs i') w4 F3 →
          ∃ w5,(Instr.endRound l jump).run P w4 = .ok (.bool jump.isNone) w5 ∧ HeapOK (callCx w' F' [(7000,R (i,none))]) [(7000,R (i',jump))] w5 F3:=by
        intro jump i' F3 w4 h4
        obtain ⟨o1,o2,o3,_⟩:=h4.res 9001 _ (zR _ _ _)
        have hget:∀ id r,lk (rs i') id = some r → id ≠ 9001 ∧ lk ((9001,Res.obj l (.loop { r0 with state:=.busy })) :: rs i') id = some r:=fun id r h=>by
          have hne:(9001:Nat) ≠ id:=fun e=>by subst e; rw [h91] at h; cases h
          exact ⟨fun e=>hne e.symm,by rw [zT _ _ hne]; exact h⟩
        have hnl:¬ blks (rs i') l:=fun ⟨id,r,h,hb⟩=>(hget id r h).1 (h4.sep id 9001 r _ l (hget id r h).2 (zR _ _ _) hb rfl)
        have erk:({ ({ r0 with state:=.busy }:Loop) with state:=if jump.isNone then .ready else .done,pending:=jump }:Loop) = rk jump:=by
          cases jump with
          | none=>rw [hr0]; simp [rk,hr0]
          | some c=>rfl
        refine ⟨_,run_endRound jump o2,?_⟩
        rw [erk]
        have h5:=(h4.less (R':=rs i') fun id r h=>(hget id r h).2).putObj (l:=l) (.loop (rk jump)) o2 (fun _ _ _ e=>by cases e) (.inr (y8.2 (.inr rfl))) fun id r h hb=>hnl ⟨id,r,h,hb⟩
        have hlt:=yO o2
        exact {
          h5 with
          res:=fun id r h=>by
            have e:r = R (i',jump):=by
              by_cases e:7000 = id
              · subst e; rw [zR] at h; cases h; rfl
              · rw [zT _ _ e] at h; simp [lk] at h
            subst e
            refine ⟨fun b hb=>?_,⟨j1.trans h5.ext,fun id r h=>(h5.res id r h).stand (fun b hb=>hownΓ b (yE (h5.res id r h) hb)) (Nat.le_refl _) (fun _ _=>rfl) (fun _ _ _ h=>h) (Ext.refl _ _),fun id id' r r' b k1 k2=>h5.sep id id' r r' b k1 k2,hnl,World.putObj_heap_same hlt,?_⟩,hstand (i',jump)⟩
            · rcases hb with ⟨id,r,h,hb⟩ | hb
              · exact ⟨yE (h5.res id r h) hb,kF (h5.res id r h) hb⟩
              · subst hb; exact ⟨.inr (y8.2 (.inr rfl)),by rw [World.putObj_size]; exact hlt⟩
            · have:=h5.hsize
              exact Nat.le_trans j6 this
          sep:=fun id id' r r' b k1 k2 _ _=>by
            rw [yu] at k1 k2
            split at k1 <;> split at k2
            · omega
            · simp [lk] at k2
            · simp [lk] at k1
            · simp [lk] at k1 }
      intro e a4 w4 hq
      cases e with
      | normal =>
        obtain ⟨i',F3,hA',h4⟩:=hq
        obtain ⟨w5,h5,h6⟩:=fin none i' F3 w4 h4
        exact ⟨_,w5,h5,true,(i',none),F3,rfl,fun _=>⟨rfl,hA'⟩,fun h=>(by cases h),h6⟩
      | ret =>
        obtain ⟨i',F3,hB',h4⟩:=hq
        obtain ⟨w5,h5,h6⟩:=fin (some .ret) i' F3 w4 h4
        exact ⟨_,w5,h5,false,(i',some .ret),F3,rfl,fun h=>(by cases h),fun _=>⟨_,rfl,hB'⟩,h6⟩
      | exit id =>
        obtain ⟨i',F3,hB',h4⟩:=hq
        obtain ⟨w5,h5,h6⟩:=fin (some (.exit id)) i' F3 w4 h4
        exact ⟨_,w5,h5,false,(i',some (.exit id)),F3,rfl,fun h=>(by cases h),fun _=>⟨_,rfl,hB'⟩,h6⟩
      | _=>exact hq.elim
    | _=>exact hq.elim
  -- the call of the iterator
  have hE:=(hseq.2 (ι × Option Code) l R (fun j i=>i.2 = none ∧ A j i.1) (fun i=>∃ c,i.2 = some c ∧ B c i.1) hround (i₀,none) ⟨rfl,hA0⟩).2 w1 F (.func (.yield l) #[] #[] :: vc) ⟨_,_,rfl,rfl,TReps.ext hext1 _ _ kc⟩ {
    os:=rfl
    tape:=rfl
    output:=rfl
    hsize:=Nat.le_refl _
    old:=fun _ _ _=>rfl
    fcell:=hheap1.fcell
    glob:=fun g hg=>by
      obtain ⟨k1,k2,x,k3,k4⟩:=hs.glob g hg
      have k5:=hs.hsize
      have k6:Γ.base.w0 = Γ.w0:=rfl
      refine ⟨show g.1 < w1.heap.size by omega,fun k=>?_,x,(hheap1.old g.1 k1 k2).trans k3,k4⟩
      rcases yJ hn70.symm |>.1 k with k | k
      · rcases k with k | k
        · rcases (hblk0 g.1 k).2 with q | q
          · omega
          · exact k2 q
        · omega
      · rcases (hblk1 g.1 k).2 with q | q
        · omega
        · exact k2 q
    keep:=fun _ _ _=>rfl
    f0:=fun _ _ h=>h
    fnew:=fun _ _ h _ _=>h
    res:=fun id r h=>by
      rcases zCo hn70.symm h with ⟨_,e⟩ | ⟨_,e⟩
      · subst e
        refine ⟨fun b hb=>⟨.inr ((yJ hn70.symm).2 (.inl hb)),?_⟩,hJ0,hstand (i₀,none)⟩
        rcases hb with hb | hb
        · have:=(hblk0 b hb).1; omega
        · omega
      · subst e
        exact (hheap1.res n r hn1).stand (fun b hb=>.inr ((yJ hn70.symm).2 (.inr hb))) (Nat.le_refl _) (fun _ _=>rfl) (fun _ _ _ h=>h) (Ext.refl _ _)
    sep:=fun id id' r r' b k1 k2 h1 h2=>by
      have hd:∀ b,(R (i₀,none)).has b → r₁.has b → False:=fun b h1 h2=>by
        rcases h1 with h1 | h1
        · exact hsep1 b h2 h1
        · have:=(hblk1 b h2).1; omega
      rcases zCo hn70.symm k1 with ⟨e1,q1⟩ | ⟨e1,q1⟩ <;> rcases zCo hn70.symm k2 with ⟨e2,q2⟩ | ⟨e2,q2⟩
      · rw [e1,e2]
      · subst q1; subst q2; exact (hd b h1 h2).elim
      · subst q1; subst q2; exact (hd b h2 h1).elim
      · rw [e1,e2] }
  refine ⟨l,[{ target:=.collected D,args:=#[] }],w1,{ target:=.fn (.func gf) vc.toArray,args:=#[.func (.yield l) #[] #[]] },w1,gf,(.func (.yield l) #[] #[] :: vc).toArray,w1,hrun1,?_,fun f' _=>trivial,?_,fun h=>(by cases h),callsIn_wide.2 (hE.mono ?_)⟩
  · simp only [resolve,eg]
    simp [go_sem]
  · have:=hseq.1 (.func (.yield l) #[] #[] :: vc).toArray w1
    have e:#[Value.func (.yield l) #[] #[]] ++ vc.toArray = (Value.func (.yield l) #[] #[] :: vc).toArray:=by apply Array.ext'; simp
    simp [invoke,go_sem,this]
  rintro e w2 ⟨⟨⟨i,k⟩,hik⟩,v,F2,rfl,_,h2⟩
  obtain ⟨hfp,⟨j1,j2,j3,j4,j5,j6⟩,_⟩:=h2.res 7000 _ (zR _ _ _)
  have hDl:D ≠ l:=by omega
  have hDfp:¬ fp i₀ D:=fun h=>by
    rcases h with h | h
    · have:=(hblk0 D h).1; omega
    · exact hDl h
  have hD1r:¬ r₁.has D:=fun h=>by have:=(hblk1 D h).1; omega
  have hD2:w2.heap[D]? = some (.deferred (some [])):=(h2.old D (show D < w1.heap.size by omega) (fun h=>((yJ hn70.symm).1 h).elim hDfp hD1r)).trans hD1
  have hfpi:∀ b,fp i b → w1.heap.size ≤ b ∨ fp i₀ b ∨ r₁.has b:=fun b hb=>(hfp b hb).1.imp id (yJ hn70.symm).1
  -- the heap of the statement's activation
  have hlk2:∀ {r:Res} {i':ι} {id:Nat} {x:Res},lk ((9001,r) :: (rs i' ++ [(n,r₁)])) id = some x → (id = 9001 ∧ x = r) ∨ (lk (rs i') id = some x) ∨ (id = n ∧ x = r₁):=fun {r i' id x} h=>by
    rw [yu] at h
    split at h
    · rename_i e; cases h; exact .inl ⟨e.symm,rfl⟩
    · rw [zw] at h
      cases h1:lk (rs i') id with
      | some y=>rw [h1] at h; cases h; exact .inr (.inl rfl)
      | none =>
        rw [h1] at h
        have h:lk [(n,r₁)] id = some x:=h
        rw [yu] at h
        split at h
        · rename_i e; cases h; exact .inr (.inr ⟨e.symm,rfl⟩)
        · simp [lk] at h
  have hsub1:∀ b,(callCx w1 F [(7000,R (i₀,none)),(n,r₁)]).lent b ↔ blks ((9001,Res.obj l (.loop r0)) :: (rs i₀ ++ [(n,r₁)])) b:=fun b=>by
    constructor
    · intro h
      rcases (yJ hn70.symm).1 h with (⟨id,r,h,hb⟩ | h) | h
      · have hne:(9001:Nat) ≠ id:=fun e=>by subst e; rw [h91] at h; cases h
        exact ⟨id,r,by rw [zT _ _ hne,zw,h],hb⟩
      · subst h; exact ⟨9001,_,zR _ _ _,rfl⟩
      · exact ⟨n,r₁,by rw [zT _ _ hn91.symm,zw,hnr]; exact zR _ _ _,h⟩
    · rintro ⟨id,r,h,hb⟩
      rcases hlk2 h with ⟨_,e⟩ | e | ⟨_,e⟩
      · subst e; cases hb; exact (yJ hn70.symm).2 (.inl (show fp i₀ l from .inr rfl))
      · exact (yJ hn70.symm).2 (.inl (show fp i₀ b from .inl ⟨id,r,e,hb⟩))
      · subst e; exact (yJ hn70.symm).2 (.inr hb)
  have hcxe:callCx w1 F [(7000,R (i₀,none)),(n,r₁)] = callCx w1 F ((9001,Res.obj l (.loop r0)) :: (rs i₀ ++ [(n,r₁)])):=by
    unfold callCx
    congr 1
    funext b
    exact propext (hsub1 b)
  have hX:HeapOK (callCx w1 F ((9001,Res.obj l (.loop r0)) :: (rs i₀ ++ [(n,r₁)]))) ((9001,.obj l (.loop (rk k))) :: (rs i ++ [(n,.gone)])) w2 F2:=by
    rw [← hcxe]
    refine HeapOK.cons (HeapOK.gone1 (n:=n) { h2 with res:=fun id r h=>?_,sep:=j3 }) ?_ ?_
    · exact (j2 id r h).stand (fun b hb=>(hfp b (.inl ⟨id,r,h,hb⟩)).1) (Nat.le_refl _) (fun _ _=>rfl) (fun _ _ _ h=>h) (Ext.refl _ _)
    · exact ⟨.inr ((yJ hn70.symm).2 (.inl (show fp i₀ l from .inr rfl))),j5,fun o=>h2.notF j5 (fun _ _ _ e=>by cases e) o,fun _ _ _ e=>by cases e⟩
    · intro b hb id r' _ h hb'
      cases hb
      rcases kj h with h | h
      · exact j4 ⟨id,r',h,hb'⟩
      · subst h; exact hb'
  have hY:HeapOK Γ.base ((9001,.obj l (.loop r0)) :: σ.rs) w1 F:=by
    refine hheap1.cons ⟨hown_l,hL1,fun o=>hheap1.notF hL1 (fun _ _ _ e=>by cases e) o,fun _ _ _ e=>by cases e⟩ ?_
    intro b hb id r' _ h hb'
    cases hb
    have:=hb0 id r' l h hb'
    omega
  have hSub:SubR ⟨[],(9001,Res.obj l (.loop r0)) :: σ.rs,[]⟩ ((9001,.obj l (.loop r0)) :: (rs i₀ ++ [(n,r₁)])):=by
    refine ⟨zR _ _ _,?_⟩
    have:∀ L:List (Nat × Res),SubR σ L → lk L 9001 = none → SubR ⟨[],(9001,Res.obj l (.loop r0)) :: σ.rs,[]⟩ (L ++ [(n,r₁)]):=by
      intro L
      induction L with
      | nil=>exact fun _ _=>⟨by show lk ((9001,_) :: σ.rs) n = some r₁; rw [zT _ _ hn91.symm]; exact hn1,trivial⟩
      | cons p L ih =>
        obtain ⟨m,r⟩:=p
        rintro ⟨h1,h2⟩ h3
        have hne:m ≠ 9001:=fun e=>by subst e; rw [zR] at h3; cases h3
        exact ⟨by show lk ((9001,_) :: σ.rs) m = some r; rw [zT _ _ (Ne.symm hne)]; exact h1,ih h2 (by rw [zT _ _ hne] at h3; exact h3)⟩
    exact this _ h0 (h91 i₀)
  have hcov:covers ((9001,Res.obj l (.loop (rk k))) :: (rs i ++ [(n,.gone)])) ((9001,.obj l (.loop r0)) :: (rs i₀ ++ [(n,r₁)])) = true:=by
    have hci:=hc i
    unfold covers at hci ⊢
    rw [List.all_eq_true] at hci ⊢
    intro p hp
    rcases List.mem_cons.1 hp with rfl | hp
    · rfl
    · rcases List.mem_append.1 hp with hp | hp
      · have:=hci p hp
        simp only [List.map_cons,List.map_append,List.any_cons,List.any_append,this,Bool.true_or,Bool.or_true]
      · simp only [List.mem_singleton] at hp
        subst hp
        simp only [List.map_cons,List.map_append,List.any_cons,List.any_append,List.map_nil,List.any_nil,Nat.beq_refl,Bool.or_true,Bool.true_or]
  have hZ:=hY.lent hSub hcov hX
  -- the record is exhausted; it is let go
  have hst:(rk k).state ≠ .busy:=by cases k <;> simp [rk,hr0]
  have hpend:(rk k).pending = k:=by cases k <;> simp [rk,hr0]
  have hend:=(run_endLoop (P:=P) j5 hst).trans (congrArg (fun z=>Result.ok z (w2.putObj l (.loop { rk k with state:=.exhausted }))) hpend)
  refine ⟨k,_,hend,?_⟩
  have hZget:∀ id r,lk ((rs i ++ [(n,Res.gone)]) ++ σ.rs) id = some r → id ≠ 9001 ∧ lk (((9001,Res.obj l (.loop (rk k))) :: (rs i ++ [(n,Res.gone)])) ++ (9001,.obj l (.loop r0)) :: σ.rs) id = some r:=fun id r h=>by
    rw [zw] at h
    have hne:id ≠ 9001:=fun e=>by
      subst e
      rw [zw,h91,zT _ _ hn91] at h
      have:lk σ.rs 9001 = none:=hσ
      rw [this] at h
      cases h
    refine ⟨hne,?_⟩
    rw [List.cons_append,zT _ _ (Ne.symm hne),zw]
    cases h1:lk (rs i ++ [(n,Res.gone)]) id with
    | some y=>rw [h1] at h; exact h
    | none=>rw [h1] at h; rw [zT _ _ (Ne.symm hne)]; exact h
  have hnl:∀ id r,lk ((rs i ++ [(n,Res.gone)]) ++ σ.rs) id = some r → ¬ r.has l:=fun id r h hb=>(hZget id r h).1 (hZ.sep id 9001 r _ l (hZget id r h).2 (zR _ _ _) hb rfl)
  have hV:=(hZ.less (R':=(rs i ++ [(n,Res.gone)]) ++ σ.rs) fun id r h=>(hZget id r h).2).putObj (l:=l) (.loop { rk k with state:=.exhausted }) j5 (fun _ _ _ e=>by cases e) hown_l hnl
  -- the marks
  have hD3:(w2.putObj l (.loop { rk k with state:=.exhausted })).heap[D]? = some (.deferred (some [])):=(World.putObj_heap_other hDl).trans hD2
  have hdmlt:∀ D' ∈ σ.dm,D' < w.heap.size ∧ Γ.own D':=fun D' hD'=>by
    rcases hdm with h | h
    · rw [h] at hD'; cases hD'
    · exact ⟨hb0 9000 _ D' h hD',yE (hs.rs 9000 _ h) hD'⟩
  have hnodup:σ.dm.Nodup:=by
    rcases hdm with h | h
    · rw [h]; exact List.nodup_nil
    · exact (hs.rs 9000 _ h).2.1.1
  have hnot0:∀ D' ∈ σ.dm,¬ fp i₀ D':=fun D' hD' hf=>by
    rcases hdm with h | h
    · rw [h] at hD'; cases hD'
    · rcases hf with ⟨id,r,h1,hb⟩ | hf
      · have:=hs.sep id 9000 r _ D' (hsub0 id r h1) h hb hD'
        subst this
        rw [h90] at h1; cases h1
      · have:=(hdmlt D' hD').1; omega
  have hnot1:∀ D' ∈ σ.dm,¬ r₁.has D':=fun D' hD' hf=>by
    rcases hdm with h | h
    · rw [h] at hD'; cases hD'
    · exact hn90 (hs.sep n 9000 r₁ _ D' hn1 h hf hD')
  have hdm2:∀ D' ∈ σ.dm,(w2.putObj l (.loop { rk k with state:=.exhausted })).heap[D']? = some (.deferred (some [])):=fun D' hD'=>by
    have hlt:=(hdmlt D' hD').1
    rw [World.putObj_heap_other (by omega),h2.old D' (show D' < w1.heap.size by omega) (fun h=>((yJ hn70.symm).1 h).elim (hnot0 D' hD') (hnot1 D' hD'))]
    rcases hdm with h | h
    · rw [h] at hD'; cases hD'
    · have:=(hheap1.res 9000 _ h).2.1.2 D' hD'
      exact this
  have hnotfp:∀ D' ∈ D :: σ.dm,¬ blks (rs i) D':=fun D' hD' hb=>by
    rcases hfpi D' (.inl hb) with h | h | h
    · rcases List.mem_cons.1 hD' with rfl | hD'
      · omega
      · have:=(hdmlt D' hD').1; omega
    · rcases List.mem_cons.1 hD' with rfl | hD'
      · exact hDfp h
      · exact hnot0 D' hD' h
    · rcases List.mem_cons.1 hD' with rfl | hD'
      · exact hD1r h
      · exact hnot1 D' hD' h
  have hU:HeapOK Γ.base ((9000,marksRes (D :: σ.dm)) :: ((rs i ++ [(n,.gone)]) ++ σ.rs)) (w2.putObj l (.loop { rk k with state:=.exhausted })) F2:=by
    refine hV.cons ⟨fun b hb=>?_,⟨?_,fun D' hD'=>?_⟩,marks_stands _⟩ fun b hb id r hne hr hb'=>?_
    · have hsz:=h2.hsize
      have hsz':w1.heap.size ≤ w2.heap.size:=hsz
      rw [World.putObj_size]
      rcases List.mem_cons.1 hb with rfl | hb
      · exact ⟨.inl (by have:=hs.hsize; show Γ.w0.heap.size ≤ _; omega),by omega⟩
      · have:=hdmlt b hb
        exact ⟨this.2,by omega⟩
    · refine List.nodup_cons.2 ⟨fun h=>?_,hnodup⟩
      have:=(hdmlt D h).1
      omega
    · rcases List.mem_cons.1 hD' with rfl | hD'
      · exact hD3
      · exact hdm2 D' hD'
    · rw [zw] at hr
      cases h1:lk (rs i ++ [(n,Res.gone)]) id with
      | some y =>
        rw [h1] at hr; cases hr
        rcases kj h1 with h1 | h1
        · exact hnotfp b hb ⟨id,_,h1,hb'⟩
        · subst h1; exact hb'.elim
      | none =>
        rw [h1] at hr
        rcases List.mem_cons.1 hb with rfl | hb
        · have:=hb0 id r b hr hb'; omega
        · rcases hdm with h | h
          · rw [h] at hb; cases hb
          · exact hne (hs.sep id 9000 r _ b hr h hb' hb)
  have hRS:RS Γ ⟨σ.tm,(9000,marksRes (D :: σ.dm)) :: ((rs i ++ [(n,.gone)]) ++ σ.rs),D :: σ.dm⟩ { a with defers:=[{ target:=.collected D,args:=#[] }] ++ a.defers } (w2.putObj l (.loop { rk k with state:=.exhausted })) F2:=by
    refine RS.of_heap hU hs.size (by rw [hs.defers]; rfl) fun t c tv hget=>?_
    have h:=hs.tm t c tv hget
    have hcell:Ext F2 F2 w2 (w2.putObj l (.loop { rk k with state:=.exhausted })):=fun b o hf=>⟨hf,by
      have hne:b ≠ l:=fun e=>by subst e; exact h2.notF j5 (fun _ _ _ e=>by cases e) o hf
      simp [World.cell?,World.putObj_heap_other hne]⟩
    exact ⟨fun hc=>(((h.1 hc).ext' hext1).ext' j1).ext' hcell,h.2⟩
  cases k with
  | none =>
    have hA:A xs.length i:=by
      rcases hik with h | ⟨c,h,_⟩
      · exact h.2
      · cases h
    exact hdone i D hA _ _ F2 hRS
  | some c =>
    have hB:B c i:=by
      rcases hik with h | ⟨c',h,hB⟩
      · cases h.1
      · cases h; exact hB
    exact wpIn_wide.2 (hstop c i D hB _ _ F2 hRS)
end
section
variable {Γ:Cx} {P:Program} {σ:St} {ops:Array Oper} {o:Oper} {W:Nat → Prop}
end
/-- The state behind a quiet operation that needs no fact of the program. -/
def simple1 (N:Nat) (o:Oper) (σ:St):Option St:=match o.guard,o.dst with
  | none,some t=>bif Nat.blt t N then (match o.op with
    | .move x=>(match σ.ev x with | some (true,tv)=>some (σ.put t true tv) | _=>none)
    | .assign x=>(match σ.ev x with | some (true,tv)=>some (σ.put t true tv) | _=>none)
    | .extract x i=>(match σ.ev x with
      | some (true,.d (.tup ds))=>(match ds[i]? with | some d=>some (σ.put t true (.d d)) | none=>none)
      | _=>none)
    | _=>none) else none
  | _,_=>none
def simples (N:Nat):Nat → List Oper → St → Option (List Oper × St)
  | 0,l,σ=>some (l,σ)
  | k + 1,o :: l,σ=>(match simple1 N o σ with | some σ'=>simples N k l σ' | none=>none)
  | _ + 1,[],_=>none
theorem run_simple1 {Γ:Cx} {P:Program} {ops:Array Oper} {o:Oper} {l:List Oper} {σ σ':St} {Q:Exit → Act → World → Prop} {N:Nat} (hn:Γ.n = N) (h:simple1 N o σ = some σ') (hr:ARun Γ P ops l σ' Q):ARun Γ P ops (o :: l) σ Q:=by
  unfold simple1 at h
  split at h
  · rename_i t hg hd
    cases hb:Nat.blt t N with
    | false=>rw [hb] at h; cases h
    | true =>
      rw [hb,cond_true] at h
      split at h
      · rename_i x hop
        split at h
        · rename_i tv hx
          cases h
          exact sq hg hd hn hb (kY hop hx) hr
        · cases h
      · rename_i x hop
        split at h
        · rename_i tv hx
          cases h
          exact sq hg hd hn hb (zBq hop hx) hr
        · cases h
      · rename_i x i hop
        split at h
        · rename_i ds hx
          split at h
          · rename_i d hd'
            cases h
            exact sq hg hd hn hb (zBs hop hx hd') hr
          · cases h
        · cases h
      · cases h
  · cases h
theorem qs {Γ:Cx} {P:Program} {ops:Array Oper} {Q:Exit → Act → World → Prop} {N:Nat}:∀ (k:Nat) {l r:List Oper} {σ σ':St} (hn:Γ.n = N) (h:simples N k l σ = some (r,σ')) (hr:ARun Γ P ops r σ' Q),ARun Γ P ops l σ Q
  | 0,l,r,σ,σ',_,h,hr=>by cases h; exact hr
  | k + 1,o :: l,r,σ,σ',hn,h,hr=>by
    unfold simples at h
    split at h
    · rename_i σ₁ h1
      exact run_simple1 hn h1 (qs k hn h hr)
    · cases h
  | k + 1,[],r,σ,σ',_,h,_=>by cases h
section
variable {Γ:Cx} {P:Program} {ops:Array Oper} {o:Oper} {rest:List Oper} {σ:St} {Q:Exit → Act → World → Prop} {W:Nat → Prop} {t N:Nat} {tv:TV}
theorem Zs (hn:Γ.n = N) (hq:QV Γ P σ o R0 tv) (hr:ARun Γ P ops rest (σ.put t true tv) Q) (hg:o.guard = none:=by exact rfl) (ht:o.dst = some t:=by exact rfl) (hb:Nat.blt t N = true:=by exact rfl):ARun Γ P ops (o :: rest) σ Q :=
  sq hg ht hn hb hq hr
theorem Zd {n : Nat} {listed : Array Bool} (i : Nat) (hi : ops[i]? = some o) (hn : Γ.n = N) (hq : QV Γ P σ o (RA W) tv) (hr : D1 Γ P ops Q W n (listed.setIfInBounds i true) (σ.put t true tv))
    (hg:o.guard = none:=by exact rfl) (ht:o.dst = some t:=by exact rfl) (hb:Nat.blt t N = true:=by exact rfl) (h:(Region.noSelect ops && Region.free .any ops listed i && (Region.ready .any ops listed).contains i) = true:=by kernel_rfl) (hQ:∀ c a w v,Q (.panic c) (a.put o.dst v) w → Q (.panic c) a w:=by exact fun _ _ _ _ h=>h):D1 Γ P ops Q W (n + 1) listed σ :=
  d1q hi h hQ hg ht hn hb hq hr
theorem Zg {n : Nat} {listed : Array Bool} {c : Bool} (i : Nat) (L : List (Nat × TV)) (hi : ops[i]? = some o) (hg : GuardOK Γ ops σ o c) (hn : Γ.n = N) (hL : c = true → Strong σ L) (hq : c = true → QV Γ P (σ.puts L) o (RA W) tv) (hr : D1 Γ P ops Q W n (listed.setIfInBounds i true) (σ.put t c tv))
    (ht:o.dst = some t:=by exact rfl) (hb:Nat.blt t N = true:=by exact rfl) (h:(Region.noSelect ops && Region.free .any ops listed i && (Region.ready .any ops listed).contains i) = true:=by kernel_rfl) (hQ:∀ c a w v,Q (.panic c) (a.put o.dst v) w → Q (.panic c) a w:=by exact fun _ _ _ _ h=>h):D1 Γ P ops Q W (n + 1) listed σ :=
  d1g L hi h hQ hg ht hn hb hL hq hr
theorem Zh {c:Bool} (L:List (Nat × TV)) (hg:GuardOK Γ ops σ o c) (hn:Γ.n = N) (hL:c = true → Strong σ L) (hq:c = true → QV Γ P (σ.puts L) o R0 tv) (hr:ARun Γ P ops rest (σ.put t c tv) Q) (ht:o.dst = some t:=by exact rfl) (hb:Nat.blt t N = true:=by exact rfl):ARun Γ P ops (o :: rest) σ Q :=
  stepG L hg ht (nb hn hb) hL hq hr
theorem Zo {n:Nat} {listed:Array Bool} {X:Type} {S':X → St} (i:Nat) (hi:ops[i]? = some o) (hst:StepW Γ P ops σ o W S') (h:∀ x,D2 Γ P ops Q W n (listed.setIfInBounds i true) (S' x)) (hr:Region.ready .any ops listed = [i]:=by kernel_rfl):D2 Γ P ops Q W (n + 1) listed σ :=
  zDi hr hi hst h
theorem Zc {f : Operand} {args : Array Operand} {ats : Array TypeId} {g dt : Nat} {fi ca ds all : List D} {r : D} (hn : Γ.n = N) (hp : PureAt P g all r) (h : o.op = .call { callee := .value f, args := args, argTypes := ats } := by exact rfl) (hg : o.guard = none := by exact rfl) (hd : o.dst = some dt := by exact rfl) (hb : Nat.blt dt N = true := by exact rfl)
    (hf:σ.ev f = some (true,.d (.fn (.func g) fi ca)):=by exact rfl) (ha:evsD σ args.toList = some ds:=by exact rfl) (hall:DLes (fi ++ ds ++ ca) all:=by exact .refl _):StepW Γ P ops σ o W fun _:Unit=>σ.put dt true (.d r) :=
  s_call [] (fun _=>hp) h (yA hg) hd (nb hn hb) (fun _=>trivial) hf ha hall
theorem Zj {ι : Type} {σ' : St} {tm : ι → List (Nat × Bool × TV)} {rs : ι → List (Nat × Res)} {e : Exit} (h : ∀ i, AEnd Γ (σ.over (tm i) (rs i)) Q e) (i : ι) (ht : HoldT σ' (tm i)) (hr : HoldR σ' (rs i))
    (kt:Keeps ((tm i).map (·.1)) σ'.tm σ.tm:=by repeat (first | exact kr _ | refine kc rfl ?_)) (kr:Keeps ((rs i).map (·.1)) σ'.rs σ.rs:=by repeat (first | exact kr _ | refine kc rfl ?_)) (hdm:σ'.dm = σ.dm:=by rfl):AEnd Γ σ' Q e:=aend_join_on h i ht hr kt kr hdm
theorem Zr {ι : Type} {σ' : St} {tm : ι → List (Nat × Bool × TV)} {rs : ι → List (Nat × Res)} {μ : ι → Nat} {n : Nat} (i : ι) (ht : HoldT σ' (tm i)) (hr : HoldR σ' (rs i))
    (hlt:μ i < n) (kt:Keeps ((tm i).map (·.1)) σ'.tm σ.tm:=by repeat (first | exact kr _ | refine kc rfl ?_)) (kr:Keeps ((rs i).map (·.1)) σ'.rs σ.rs:=by repeat (first | exact kr _ | refine kc rfl ?_)) (hdm:σ'.dm = σ.dm:=by rfl):AEnd Γ σ' (Exit.then (Round Γ (fun i=>σ.over (tm i) (rs i)) μ n) Q) .normal:=aend_round_on i ht hr hlt kt kr hdm
theorem Zu {id:Nat} {y:Code} (h:ARun Γ P ops ops.toList σ (Exit.then (y.wp P Q) Q)):AWP Γ P (.seq (.region id ops false) y) σ Q:=zD (zH h)
theorem Zv {y:Code} {Q':Exit → Act → World → Prop} (h:AWP Γ P y σ Q'):ARun Γ P ops [] σ (Exit.then (y.wp P Q') Q):=zQ (zA h)
theorem Zw (hn:Γ.n = N) (hq:QV Γ P (σ.puts []) o R0 tv) (hg:o.guard = none:=by exact rfl) (ht:o.dst = some t:=by exact rfl) (hb:Nat.blt t N = true:=by exact rfl):StepW Γ P ops σ o W fun _:Unit=>σ.put t true tv :=
  y1 W [] (yA hg) ht (nb hn hb) (fun _=>trivial) (fun _=>hq)
theorem Zp {f : FuncId} {fn : Func} {c : Code} {ds : List D} {r : D} (hf : P.funcs[f]? = some fn) (hb : fn.body = some c) (h : ∀ Γ : Cx, Γ.n = fn.ntmps → (∀ b, ¬ Γ.lent b) → AWP Γ P c ⟨argSt 0 ds, [], []⟩ (RetQ Γ P fn r)) (hname : (fn.name == "runtime.NumGoroutine") = false := by kernel_rfl) (hn : ds.length ≤ fn.ntmps := by exact Nat.le_of_ble_eq_true rfl) : PureAt P f ds r :=
  PureAt.of_awp hf hb hname hn h
theorem Zx {x y : Operand} {ty bt : TypeId} {b off n : Nat} {cs cs' : List TV} (id : Nat) (hz : Sz P ty n) (h : o.op = .store ty x y := by exact rfl) (hg : o.guard = none := by exact rfl) (hd : o.dst = none := by exact rfl)
    (hx:σ.ev x = some (true,.val (.pointer (some ⟨b,off,none⟩))):=by exact rfl) (hy:σ.ev y = some (true,tv):=by exact rfl) (hf:tv.flat = true:=by exact rfl)
    (hb:σ.rget id = some (.box b bt cs):=by exact rfl) (hl:tv.cells.length = n:=by exact rfl) (hle:off + n ≤ cs.length:=by exact Nat.le_of_ble_eq_true rfl) (hcs:cs.take off ++ tv.cells ++ cs.drop (off + n) = cs':=by exact rfl) (hWb:W b:=by exact trivial):StepW Γ P ops σ o W fun _:Unit=>σ.rput id (.box b bt cs') :=
  yN h hg hd hx hy hf hb hz hl hle hcs hWb
end
/-- What is known of the program's types. -/
inductive UL (P:Program) where
  | n:UL P
  | c {t:TypeId} {d:TypeDesc} (h:P.underlying t = some d) (r:UL P):UL P
def UL.look {P:Program}:UL P → Nat → Option TypeDesc
  | .n,_=>none
  | @UL.c _ t d _ r,k=>bif Nat.beq t k then some d else r.look k
theorem UL.ok {P:Program}:∀ {l:UL P} {t:Nat} {d:TypeDesc},l.look t = some d → P.underlying t = some d
  | .n,_,_,h=>by cases h
  | @UL.c _ t d hu r,k,d',h=>by
    unfold UL.look at h
    cases hb:Nat.beq t k with
    | true=>rw [hb] at h; cases h; rw [← Nat.eq_of_beq_eq_true hb]; exact hu
    | false=>rw [hb] at h; exact UL.ok h
inductive BL (P:Program) where
  | n:BL P
  | c {t:TypeId} {z:Value} {place:Nat → Option (Nat × Nat)} {zs:List TV} (h:BT P t z place) (hz:z.cells.toList.map constTV = zs) (h1:z.cells.toList.all (·.oneCell') = true) (r:BL P):BL P
def BL.look {P:Program}:BL P → Nat → Option ((Nat → Option (Nat × Nat)) × List TV)
  | .n,_=>none
  | @BL.c _ t _ place zs _ _ _ r,k=>bif Nat.beq t k then some (place,zs) else r.look k
theorem BL.ok {P:Program}:∀ {l:BL P} {t:Nat} {place:Nat → Option (Nat × Nat)} {zs:List TV},l.look t = some (place,zs) → ∃ z,BT P t z place ∧ z.cells.toList.map constTV = zs ∧ z.cells.toList.all (·.oneCell') = true
  | .n,_,_,_,h=>by cases h
  | @BL.c _ t z place zs hb hz h1 r,k,_,_,h=>by
    unfold BL.look at h
    cases hq:Nat.beq t k with
    | true=>rw [hq] at h; cases h; rw [← Nat.eq_of_beq_eq_true hq]; exact ⟨z,hb,hz,h1⟩
    | false=>rw [hq] at h; exact BL.ok h
inductive AL (P:Program) where
  | n:AL P
  | c {t:TypeId} {z:Value} {cs:List TV} (h:(P.info? t).map (·.zero) = some (some z)) (hz:z.cells.toList.map constTV = cs) (h1:z.cells.toList.all (·.oneCell') = true) (r:AL P):AL P
def AL.look {P:Program}:AL P → Nat → Option (List TV)
  | .n,_=>none
  | @AL.c _ t _ cs _ _ _ r,k=>bif Nat.beq t k then some cs else r.look k
theorem AL.ok {P:Program}:∀ {l:AL P} {t:Nat} {cs:List TV},l.look t = some cs → ∃ z,(P.info? t).map (·.zero) = some (some z) ∧ z.cells.toList.map constTV = cs ∧ z.cells.toList.all (·.oneCell') = true
  | .n,_,_,h=>by cases h
  | @AL.c _ t z cs hb hz h1 r,k,_,h=>by
    unfold AL.look at h
    cases hq:Nat.beq t k with
    | true=>rw [hq] at h; cases h; rw [← Nat.eq_of_beq_eq_true hq]; exact ⟨z,hb,hz,h1⟩
    | false=>rw [hq] at h; exact AL.ok h
structure Tb (P:Program) where
  us:UL P
  bs:BL P
  as:AL P
  zs:List (Nat × Nat)
  hz:(zs.all fun p=>(P.info? p.1).map (·.size) == some p.2) = true
theorem zEO {α:Type}:∀ {l:List (Nat × α)} {k:Nat} {x:α},lk l k = some x → (k,x) ∈ l
  | [],_,_,h=>by cases h
  | (j,y) :: r,k,x,h=>by
    unfold lk at h
    cases hb:Nat.beq j k with
    | true=>rw [hb] at h; cases h; rw [Nat.eq_of_beq_eq_true hb]; exact .head _
    | false=>rw [hb] at h; exact .tail _ (zEO h)
theorem Tb.sz {P:Program} {T:Tb P} {t n:Nat} (h:lk T.zs t = some n):Sz P t n:=by
  have:=List.all_eq_true.1 T.hz _ (zEO h)
  simpa [Sz] using this
def cmp4 (op:BinOp) (m n:Int):Option Bool:=match op with
  | .lss=>some (decide (m < n))
  | .leq=>some (decide (m ≤ n))
  | .gtr=>some (decide (n < m))
  | .geq=>some (decide (n ≤ m))
  | .eql=>some (m == n)
  | .neq=>some (m != n)
  | _=>none
def fld4 (off:Nat):TV → Option TV
  | .val (.pointer (some ⟨b,o,none⟩))=>some (.val (.pointer (some ⟨b,o + off,none⟩)))
  | .d (.ptr cs)=>some (.d (.ptr (cs.drop off)))
  | _=>none
def nil4:TV → Option TV
  | .val (.pointer (some ⟨b,o,none⟩))=>some (.val (.pointer (some ⟨b,o,none⟩)))
  | .d (.ptr cs)=>some (.d (.ptr cs))
  | _=>none
def ext4 (i:Nat):TV → Option TV
  | .d (.tup ds)=>(match ds[i]? with | some d=>some (.d d) | none=>none)
  | .tup ds=>ds[i]?
  | _=>none
def len4:TypeDesc → TV → Option TV
  | .slice _,.d (.slice _ es)=>some (.d (.int .i64 es.length))
  | .slice _,.val (.slice _ n _)=>some (.d (.int .i64 n))
  | .slice _,.d .nil=>some (.d (.int .i64 0))
  | .string,.d (.str s)=>some (.d (.int .i64 s.size))
  | _,_=>none
/-- The parts of a literal. -/
def pevF (σ:St):List (Nat × Operand) → Option (List (Nat × TV) × Prop)
  | []=>some ([],True)
  | (i,x) :: r=>(match σ.ev x with
    | some (f,tv)=>(match pevF σ r with
      | some (ps,C)=>some ((i,tv) :: ps,f = true ∧ C)
      | none=>none)
    | none=>none)
theorem zD8 {σ:St}:∀ {l:List (Nat × Operand)} {ps:List (Nat × TV)} {C:Prop},pevF σ l = some (ps,C) → C → pevs σ l = some ps
  | [],_,_,h,_=>by cases h; rfl
  | (i,x) :: r,ps,C,h,hC=>by
    unfold pevF at h
    split at h
    · rename_i hx
      split at h
      · rename_i h2
        cases h
        obtain ⟨rfl,hC⟩:=hC
        unfold pevs
        rw [hx,zD8 h2 hC]
      · cases h
    · cases h
section
variable {P:Program}
/-- One operation: what it gives, what is left of the places, what must be so where it is carried out. -/
def one4 (T:Tb P) (R:Rel) (o:Op) (σ:St) (F:List Nat):Option (TV × List Nat × Prop):=match o with
  | .move x=>(match σ.ev x with | some (c,tv)=>some (tv,F,c = true) | none=>none)
  | .assign x=>(match σ.ev x with | some (c,tv)=>some (tv,F,c = true) | none=>none)
  | .extract x i=>(match σ.ev x with
    | some (c,v)=>(match ext4 i v with | some tv=>some (tv,F,c = true) | none=>none)
    | none=>none)
  | .nilCheck x=>(match σ.ev x with
    | some (c,v)=>(match nil4 v with | some tv=>some (tv,F,c = true) | none=>none)
    | none=>none)
  | .fieldAddr s x i=>(match T.us.look s with
    | some (.struct fs)=>(match fs[i]? with
      | some f=>(match lk T.zs f.type with
        | some (_ + 1)=>(match σ.ev x with
          | some (c,v)=>(match fld4 f.offset v with | some tv=>some (tv,F,c = true) | none=>none)
          | none=>none)
        | _=>none)
      | none=>none)
    | _=>none)
  | .load ty x=>(match T.us.look ty with
    | some d=>(match σ.ev x with
      | some (c,.d (.ptr cs))=>(match rowD d with
        | false=>(match cs with | e :: _=>some (.d e,F,c = true ∧ SeesF R) | []=>none)
        | true=>(match lk T.zs ty with | some n=>some (.d (.agg (cs.take n)),F,c = true ∧ (cs.take n).length = n ∧ SeesF R) | none=>none))
      | some (c,.val (.pointer (some ⟨b,off,none⟩)))=>(match F with
        | id :: F'=>(match σ.rget id with
          | some (.box b' _ cs)=>(match rowD d with
            | false=>(match cs[off]? with | some tv=>some (tv,F',c = true ∧ b' = b ∧ Sees R b) | none=>none)
            | true=>(match lk T.zs ty with
              | some n=>(match allD ((cs.drop off).take n) with | some dd=>some (.d (.agg dd),F',c = true ∧ b' = b ∧ dd.length = n ∧ Sees R b) | none=>none)
              | none=>none))
          | _=>none)
        | []=>none)
      | _=>none)
    | none=>none)
  | .binOp bo _ x y _=>(match σ.ev x,σ.ev y with
    | some (c,.d (.int k m)),some (c',.d (.int k' n))=>(match cmp4 bo m n with | some b=>some (.d (.bool b),F,c = true ∧ c' = true ∧ k = k') | none=>none)
    | _,_=>none)
  | .unOp .not _ x=>(match σ.ev x with | some (c,.d (.bool b))=>some (.d (.bool (!b)),F,c = true) | _=>none)
  | .pick x (.const (.bool true)) y=>(match σ.ev x,σ.ev y with
    | some (c,.d (.bool b)),some (c',.d (.bool p))=>some (.d (.bool (b || p)),F,c = true ∧ (b = false → c' = true))
    | _,_=>none)
  | .pick x y (.const (.bool false))=>(match σ.ev x,σ.ev y with
    | some (c,.d (.bool b)),some (c',.d (.bool p))=>some (.d (.bool (b && p)),F,c = true ∧ (b = true → c' = true))
    | _,_=>none)
  | .call ⟨.builtin .len,⟨[x]⟩,⟨[t]⟩⟩=>(match T.us.look t with
    | some d=>(match σ.ev x with
      | some (c,v)=>(match len4 d v with | some tv=>some (tv,F,c = true) | none=>none)
      | none=>none)
    | none=>none)
  | .build t parts=>(match T.bs.look t with
    | some (place,zs)=>(match pevF σ parts.toList with
      | some (ps,C)=>(match fillTV place zs ps with
        | some cs=>(match allD cs with | some ds=>some (.d (.agg ds),F,C) | none=>none)
        | none=>none)
      | none=>none)
    | none=>none)
  | _=>none
/-- Whether it is carried out. -/
def gd4 (ops:Array Oper) (g:Option (Nat × Bool)) (σ:St):Option Bool:=match g with
  | none=>some true
  | some (j,want)=>(match ops[j]? with
    | some o=>(match o.dst with
      | some t=>(match σ.get t with | some (cg,.d (.bool b))=>some (cg && (b == want)) | _=>none)
      | none=>none)
    | none=>none)
/-- One step: the state behind it. -/
def step4 (T:Tb P) (N:Nat) (ops:Array Oper) (W:Nat → Prop) (o:Oper) (σ:St) (F:List Nat):Option (St × List Nat × Prop):=match o.dst with
  | some t=>bif Nat.blt t N then (match gd4 ops o.guard σ with
    | some c=>(match one4 T R0 o.op σ F with
      | some (tv,F',C)=>some (σ.put t c tv,F',c = true → C)
      | none=>none)
    | none=>none) else none
  | none=>(match o.guard,o.op with
    | none,.store ty x y=>(match σ.ev x,σ.ev y with
      | some (c,.val (.pointer (some ⟨b,off,none⟩))),some (c',tv)=>(match F with
        | id :: F'=>(match σ.rget id with
          | some (.box b' bt cs)=>(match lk T.zs ty with
            | some n=>some (σ.rput id (.box b' bt (cs.take off ++ tv.cells ++ cs.drop (off + n))),F',c = true ∧ c' = true ∧ b' = b ∧ tv.flat = true ∧ tv.cells.length = n ∧ Nat.ble (off + n) cs.length = true ∧ W b)
            | none=>none)
          | _=>none)
        | []=>none)
      | _,_=>none)
    | _,_=>none)
def run4 (T:Tb P) (N:Nat) (ops:Array Oper):Nat → List Nat → List Oper → St → Option (List Oper × St × Prop)
  | 0,_,l,σ=>some (l,σ,True)
  | k + 1,F,o :: l,σ=>(match step4 T N ops (fun _=>True) o σ F with
    | some (σ',F',C)=>(match run4 T N ops k F' l σ' with
      | some (r,σ2,C')=>some (r,σ2,C ∧ C')
      | none=>none)
    | none=>none)
  | _ + 1,_,[],_=>none
def runE (T:Tb P) (N:Nat) (ops:Array Oper) (W:Nat → Prop):List Nat → List Nat → Nat → Array Bool → St → Option (Nat × Array Bool × St × Prop)
  | [],_,n,L,σ=>some (n,L,σ,True)
  | i :: is,F,n + 1,L,σ=>(match ops[i]? with
    | some o=>(match step4 T N ops W o σ F with
      | some (σ',F',C)=>(match runE T N ops W is F' n (L.setIfInBounds i true) σ' with
        | some (n',L',σ2,C')=>some (n',L',σ2,C ∧ C')
        | none=>none)
      | none=>none)
    | none=>none)
  | _ :: _,_,0,_,_=>none
def chkE (ops:Array Oper):List Nat → Array Bool → Bool
  | [],_=>true
  | i :: is,L=>Region.ready .any ops L == [i] && chkE ops is (L.setIfInBounds i true)
/-- The arguments of a call. -/
def evsF (σ:St):List Operand → Option (List D × Prop)
  | []=>some ([],True)
  | x :: r=>(match σ.ev x with
    | some (f,.d d)=>(match evsF σ r with
      | some (ds,C)=>some (d :: ds,f = true ∧ C)
      | none=>none)
    | _=>none)
/-- A call: of what function, with what, into which slot, if what. -/
def call4 (N:Nat) (ops:Array Oper) (o:Oper) (σ:St):Option (FuncId × List D × Nat × Bool × Prop):=match o.op with
  | .call ⟨.value f,args,_⟩=>(match o.dst with
    | some t=>bif Nat.blt t N then (match gd4 ops o.guard σ with
      | some c=>(match σ.ev f with
        | some (cf,.d (.fn (.func g) fi ca))=>(match evsF σ args.toList with
          | some (ds,C)=>some (g,fi ++ ds ++ ca,t,c,cf = true ∧ C)
          | none=>none)
        | _=>none)
      | none=>none) else none
    | none=>none)
  | _=>none
/-- A new variable: its type, its slot, what it holds. -/
def new4 (T:Tb P) (N:Nat) (o:Oper) (σ:St):Option (TypeId × Nat × List TV × Prop):=match o.guard,o.dst with
  | none,some t=>bif Nat.blt t N then (match o.op with
    | .box ty x=>(match σ.ev x with
      | some (c,tv)=>some (ty,t,tv.cells,c = true ∧ tv.flat = true)
      | none=>none)
    | .alloc ty=>(match T.as.look ty with
      | some cs=>some (ty,t,cs,True)
      | none=>none)
    | _=>none) else none
  | _,_=>none
/-- An element of a slice: the slice, the number, the slot. -/
def idx4 (T:Tb P) (N:Nat) (o:Oper) (σ:St):Option (List (List D) × Int × Nat × Prop):=match o.guard,o.dst with
  | none,some t=>bif Nat.blt t N then (match o.op with
    | .indexAddr ty x y=>(match T.us.look ty with
      | some (.slice e)=>(match lk T.zs e with
        | some n=>(match σ.ev x,σ.ev y with
          | some (c,.d (.slice sz es)),some (c',.d (.int _ m))=>some (es,m,t,c = true ∧ c' = true ∧ n = sz)
          | _,_=>none)
        | none=>none)
      | _=>none)
    | _=>none) else none
  | _,_=>none
def noDefs:Nat → List Oper → Bool
  | 0,_=>true
  | k + 1,o :: l=>noDef o && noDefs k l
  | _ + 1,[]=>true
variable {Γ:Cx} {ops:Array Oper} {o:Oper} {σ:St} {Q:Exit → Act → World → Prop} {N:Nat} {R:Rel} {T:Tb P}
theorem zCe {c:Bool} (h:gd4 ops o.guard σ = some c):GuardOK Γ ops σ o c:=by
  unfold gd4 at h
  split at h
  · rename_i hg; cases h; exact yA hg
  · rename_i j want hg
    split at h
    · rename_i o' ho
      split at h
      · rename_i t ht
        split at h
        · rename_i cg b hv; cases h; exact zK hg (by rw [ho]; exact ht) hv
        · cases h
      · cases h
    · cases h
theorem zER {F F':List Nat} {tv:TV} {C:Prop} (h:one4 T R o.op σ F = some (tv,F',C)) (hC:C):QV Γ P σ o R tv:=by
  unfold one4 at h
  split at h
  · rename_i x hop
    split at h
    · rename_i hx; cases h; subst hC; exact kY hop hx
    · cases h
  · rename_i x hop
    split at h
    · rename_i hx; cases h; subst hC; exact zBq hop hx
    · cases h
  · rename_i x i hop
    split at h
    · rename_i c v hx
      split at h
      · rename_i tv' hv
        cases h
        subst hC
        unfold ext4 at hv
        split at hv
        · split at hv
          · rename_i hd; cases hv; exact zBs hop hx hd
          · cases hv
        · exact q_extract hop hx hv
        · cases hv
      · cases h
    · cases h
  · rename_i x hop
    split at h
    · rename_i c v hx
      split at h
      · rename_i tv' hv
        cases h
        subst hC
        unfold nil4 at hv
        split at hv
        · cases hv; exact q_nilCheck hop hx
        · cases hv; exact q_nilCheckp hop hx
        · cases hv
      · cases h
    · cases h
  · rename_i s x i hop
    split at h
    · rename_i fs hu
      split at h
      · rename_i f hf
        split at h
        · rename_i n hz
          split at h
          · rename_i c v hx
            split at h
            · rename_i tv' hv
              cases h
              subst hC
              unfold fld4 at hv
              split at hv
              · cases hv; exact zA4 hop hx (UL.ok hu) hf (Tb.sz hz)
              · cases hv; exact zAQ hop hx (UL.ok hu) hf (Tb.sz hz) rfl
              · cases hv
            · cases h
          · cases h
        · cases h
      · cases h
    · cases h
  · rename_i ty x hop
    split at h
    · rename_i d hu
      split at h
      · rename_i c cs hx
        split at h
        · rename_i hd
          split at h
          · cases h; obtain ⟨rfl,hW⟩:=hC; exact zDq hop hx (UL.ok hu) hd hW
          · cases h
        · rename_i hd
          split at h
          · rename_i n hz; cases h; obtain ⟨rfl,hl,hW⟩:=hC; exact q_loadpA hop hx (UL.ok hu) hd (Tb.sz hz) rfl hl hW
          · cases h
      · rename_i c b off hx
        split at h
        · split at h
          · rename_i hr
            split at h
            · rename_i hd
              split at h
              · rename_i hc; cases h; obtain ⟨rfl,rfl,hW⟩:=hC; exact zY hop hx hr (UL.ok hu) hd hc hW
              · cases h
            · rename_i hd
              split at h
              · rename_i n hz
                split at h
                · rename_i hc; cases h; obtain ⟨rfl,rfl,hl,hW⟩:=hC; exact zu hop hx hr (UL.ok hu) hd (Tb.sz hz) hc hl hW
                · cases h
              · cases h
          · cases h
        · cases h
      · cases h
    · cases h
  · rename_i bo t x y t2 hop
    split at h
    · rename_i hx hy
      split at h
      · rename_i b hb
        cases h
        obtain ⟨rfl,rfl,rfl⟩:=hC
        unfold cmp4 at hb
        split at hb
        · cases hb; exact zES hop hx hy
        · cases hb; exact q_leq hop hx hy
        · cases hb; exact zEo hop hx hy
        · cases hb; exact q_geq hop hx hy
        · cases hb; exact q_eql hop hx hy
        · cases hb; exact q_neq hop hx hy
        · cases hb
      · cases h
    · cases h
  · rename_i t x hop
    split at h
    · rename_i hx; cases h; subst hC; exact q_not hop hx
    · cases h
  · rename_i x y hop
    split at h
    · rename_i hx hy; cases h; obtain ⟨rfl,hc⟩:=hC; exact q_or hop hx hy hc
    · cases h
  · rename_i x y _ hop
    split at h
    · rename_i hx hy; cases h; obtain ⟨rfl,hc⟩:=hC; exact q_and hop hx hy hc
    · cases h
  · rename_i x t hop
    split at h
    · rename_i d hu
      split at h
      · rename_i c v hx
        split at h
        · rename_i tv' hv
          cases h
          subst hC
          unfold len4 at hv
          split at hv
          · cases hv; exact q_len hop hx (UL.ok hu)
          · cases hv; exact q_lenV hop hx (UL.ok hu)
          · cases hv; exact q_lenNil hop hx (UL.ok hu)
          · cases hv; exact q_lenS hop hx (UL.ok hu)
          · cases hv
        · cases h
      · cases h
    · cases h
  · rename_i t parts hop
    split at h
    · rename_i hb
      obtain ⟨z,hb,hz,h1⟩:=BL.ok hb
      split at h
      · rename_i hp
        split at h
        · rename_i hf
          split at h
          · rename_i ha; cases h; exact zDY hop hb hz h1 (zD8 hp hC) hf ha
          · cases h
        · cases h
      · cases h
    · cases h
  · cases h
theorem gA {b:Bool} (h:b = true):(true && (b == true)) = true:=by rw [h]; rfl
theorem gO {b:Bool} (h:b = false):(true && (b == false)) = true:=by rw [h]; rfl
theorem gA2 {a b:Bool} (h:a = true) (h2:b = true):(a && (b == true)) = true:=by rw [h,h2]; rfl
theorem gO2 {a b:Bool} (h:a = true) (h2:b = false):(a && (b == false)) = true:=by rw [h,h2]; rfl
theorem zBO {W:Nat → Prop} {F F':List Nat} {σ':St} {C:Prop} (hn:Γ.n = N) (h:step4 T N ops W o σ F = some (σ',F',C)) (hC:C):StepW Γ P ops σ o W fun _:Unit=>σ':=by
  unfold step4 at h
  split at h
  · rename_i t ht
    cases hb:Nat.blt t N with
    | false=>rw [hb] at h; cases h
    | true =>
      rw [hb,cond_true] at h
      split at h
      · rename_i c hg
        split at h
        · rename_i tv F' C1 h1
          cases h
          exact zBA W (zCe hg) ht (nb hn hb) fun a w F hs hc=>let ⟨v,hv,hrun⟩:=zER (R:=R0) h1 (hC hc) a w F hs; ⟨v,hv,hrun w rfl⟩
        · cases h
      · cases h
  · rename_i hd
    split at h
    · rename_i hg hop
      split at h
      · rename_i hx hy
        split at h
        · split at h
          · rename_i hr
            split at h
            · rename_i n hz
              cases h
              obtain ⟨rfl,rfl,rfl,hf,hl,hle,hW⟩:=hC
              exact yN hop hg hd hx hy hf hr (Tb.sz hz) hl (Nat.le_of_ble_eq_true hle) rfl hW
            · cases h
          · cases h
        · cases h
      · cases h
    · cases h
theorem zEM:∀ {l:List Operand} {ds:List D} {C:Prop},evsF σ l = some (ds,C) → C → evsD σ l = some ds
  | [],_,_,h,_=>by cases h; rfl
  | x :: r,ds,C,h,hC=>by
    unfold evsF at h
    split at h
    · rename_i hx
      split at h
      · rename_i h2
        cases h
        obtain ⟨rfl,hC⟩:=hC
        unfold evsD
        rw [hx,zEM h2 hC]
      · cases h
    · cases h
theorem zBh {W:Nat → Prop} {g:FuncId} {all:List D} {t:Nat} {c:Bool} {C:Prop} {r:D} (hn:Γ.n = N) (h:call4 N ops o σ = some (g,all,t,c,C)) (hp:c = true → PureAt P g all r) (hC:c = true → C):StepW Γ P ops σ o W fun _:Unit=>σ.put t c (.d r):=by
  unfold call4 at h
  split at h
  · rename_i hop
    split at h
    · rename_i dt ht
      cases hb:Nat.blt dt N with
      | false=>rw [hb] at h; cases h
      | true =>
        rw [hb,cond_true] at h
        split at h
        · rename_i c' hg
          split at h
          · rename_i hf
            split at h
            · rename_i h2
              cases h
              cases c with
              | false =>
                refine fun a w F hs K Q hK=>?_
                rw [zCe hg a w F hs,if_neg (by simp),ht]
                exact hK () _ _ F (hs.put (zx (nb hn hb)) (fun h=>by cases h) (fun _=>rfl)) (fun _ _ h=>h) (Nat.le_refl _) (Agree.refl _ _ _)
              | true =>
                obtain ⟨rfl,h3⟩:=hC rfl
                exact s_call [] hp hop (zCe hg) ht (nb hn hb) (fun _=>trivial) hf (zEM h2 h3) (.refl _)
            · cases h
          · cases h
        · cases h
    · cases h
  · cases h
end
end Go.Proofs.YticlpkgpmmhemaaGreatDoor
