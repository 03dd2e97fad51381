/-
  A part of the proof that contangolaw.TopTicked returns true: what the last text needs, and no more. No condition: no statement of the seat is proved here.
-/
import Derived.Maps.Keyed
import Derived.Test.YticlpkgpmmhemaaGreatDoorTopTickedK
namespace Go.Proofs.YticlpkgpmmhemaaGreatDoor
open Go.Proofs.Tryz
open Go.RowKit
set_option maxRecDepth 20000
set_option linter.all false
open Go.Maps
theorem zCW {Γ:Cx} {P:Program} {σ:St} {o:Oper} {R:Rel} {tv:TV} (h:False):QV Γ P σ o R tv:=h.elim
theorem zEU {k:Int} (h:-9223372036854775808 ≤ k ∧ k ≤ 9223372036854775807):KV Tryz.prog 3 (.int .i64 k):=⟨_,keyOf_int_mk underlying3 (wf_i64 h)⟩
abbrev KI:Value → Prop:=KV Tryz.prog 3
theorem zEL:KLaw Tryz.prog 3 KI where
  check:=fun w em _ ⟨_,hv⟩=>(int_keyed underlying3).check w em hv
  find:=fun w _ ⟨_,hv⟩ es hes=>(int_keyed underlying3).find w hv es hes
  stays:=fun w _ ⟨_,hv⟩=>(int_keyed underlying3).stays w hv
/-- The last price of each stock, in the map. -/
def lastM (L:Int → Option Int) (d d':D):Prop:=∃ k x,L k = some x ∧ d = .int .i64 k ∧ d' = .agg [.int .i64 x,.int .i64 x]
theorem last_none:(lastM fun _=>none) = fun _ _=>False:=by
  funext d d'
  exact propext ⟨fun ⟨_,_,h,_⟩=>(by cases h),fun h=>h.elim⟩
def putL (L:Int → Option Int) (k x:Int):Int → Option Int:=fun j=>if j = k then some x else L j
theorem last_set {L:Int → Option Int} {k x:Int}:setM (lastM L) (.int .i64 k) (.agg [.int .i64 x,.int .i64 x]) = lastM (putL L k x):=by
  funext d d'
  apply propext
  constructor
  · rintro (⟨rfl,rfl⟩ | ⟨hne,j,y,h,rfl,rfl⟩)
    · exact ⟨k,x,by simp [putL],rfl,rfl⟩
    · refine ⟨j,y,?_,rfl,rfl⟩
      have:j ≠ k:=fun e=>hne (by rw [e])
      simp [putL,this,h]
  · rintro ⟨j,y,h,rfl,rfl⟩
    by_cases e:j = k
    · subst e
      simp [putL] at h
      subst h
      exact .inl ⟨rfl,rfl⟩
    · simp [putL,e] at h
      exact .inr ⟨fun q=>e (by cases q; rfl),j,y,h,rfl,rfl⟩
theorem last_look {L : Int → Option Int} {k : Int} (r : {r : Option D // (∀ d, r = some d → lastM L (.int .i64 k) d) ∧ (r = none → ∀ d, ¬ lastM L (.int .i64 k) d)}) :
    r.1.getD (.agg [.int .i64 0,.int .i64 0]) = .agg [.int .i64 ((L k).getD 0),.int .i64 ((L k).getD 0)] ∧ r.1.isSome = (L k).isSome:=by
  obtain ⟨r,h1,h2⟩:=r
  cases r with
  | none =>
    cases hL:L k with
    | none=>exact ⟨rfl,rfl⟩
    | some x=>exact (h2 rfl _ ⟨k,x,hL,rfl,rfl⟩).elim
  | some d =>
    obtain ⟨j,x,h3,h4,h5⟩:=h1 d rfl
    have e:k = j:=by cases h4; rfl
    subst e
    rw [h3]
    exact ⟨h5,rfl⟩
/-- The range from which the next price of a sale's stock is reckoned. -/
def lastR (b:Brd) (L:Int → Option Int) (k:Int):Int × Int:=match L k with
  | some x=>(x,x)
  | none=>((b.stocks.getD k.toNat ⟨[],0,0⟩).lo,(b.stocks.getD k.toNat ⟨[],0,0⟩).hi)
def stepB (b:Brd) (p:Prt) (x:Int) (L:Int → Option Int):Bool:=withinB x 1 799 && (bif p.full then x == p.fig else x.tmod 80 == p.fig) && withinB x ((lastR b L p.stock).1 - b.jump) ((lastR b L p.stock).2 + b.jump)
def proveGo (b:Brd):List Prt → List Int → (Int → Option Int) → Bool
  | p :: ps,x :: xs,L=>stepB b p x L && proveGo b ps xs (putL L p.stock x)
  | _,_,_=>true
def proveI (b:Brd) (s:List UInt8) (l:List Int):Bool:=bif (readI b s).2 != 0 then false else bif (l.length:Int) != ((readI b s).1.length:Int) then false else proveGo b (readI b s).1 l fun _=>none
theorem lastR_bd {b:Brd} {L:Int → Option Int} {k:Nat} {st:Stk} (v:BrdOK b) (hL:∀ k x,L k = some x → 1 ≤ x ∧ x ≤ 799) (hs:b.stocks[k]? = some st):1 ≤ (lastR b L (k:Nat)).1 ∧ (lastR b L (k:Nat)).1 ≤ 799 ∧ 1 ≤ (lastR b L (k:Nat)).2 ∧ (lastR b L (k:Nat)).2 ≤ 799:=by
  unfold lastR
  cases h:L (k:Nat) with
  | some x=>have:=hL _ _ h; simp only; omega
  | none =>
    have:=zBo v (List.mem_of_getElem? hs)
    simp only [Int.toNat_natCast,zS hs]
    omega
theorem putL_bd {L:Int → Option Int} {k x:Int} (hL:∀ k x,L k = some x → 1 ≤ x ∧ x ≤ 799) (hx:1 ≤ x ∧ x ≤ 799):∀ j y,putL L k x j = some y → 1 ≤ y ∧ y ≤ 799:=fun j y h=>by
  unfold putL at h
  split at h
  · cases h; exact hx
  · exact hL j y h
theorem zBx {s:Prt} {i p:Int}:fitsB s i p [] = bif s.full then p == s.fig else p.tmod 80 == s.fig:=rfl
theorem ProveTruth_no (b:Brd) (s:List UInt8) (hN:NamesOK b) (h5:s.length ≤ 4294967000) (h0:(readI b s).2 ≠ 0) (l:List Int):EffAt Tryz.prog 43 [.d (brdD b),.d (strD s),.d (ints l)] [] (X:=Unit) (fun _=>.d (.bool false)) (fun _=>[]):=by
 refine EffAt.of_awp Tryz.func43 rfl (by kernel_rfl) rfl fun Γ hn=>?_
 refine Zu (Zb 3 hn rfl fun b3=>Zt 1 [] hn rfl (Zv (Zu (Zt 2 [3] hn rfl (stepW (s_callE (zD4 b s hN h5 h0) rfl rfl rfl (nb hn rfl) (.d rfl) rfl (.refl _) trivial (fun _=>rfl) (fun _ _=>trivial)) fun _=>?_)))))
 refine Zt 5 [] hn rfl (Zv (zD (Zu (Zt 6 [] hn rfl ?_))))
 refine Zh [(26,_)] (zK rfl rfl rfl) hn (fun hc=>⟨⟨_,rfl,hc⟩,trivial⟩) (fun hc=>zCW (tv:=.d (.ptr [])) (by simp [h0] at hc)) ?_
 refine Zt 1 [] hn rfl ?_
 refine Zh [(28,_)] (zK rfl rfl rfl) hn (fun hc=>⟨⟨_,rfl,hc⟩,trivial⟩) (fun hc=>zCW (tv:=.d (.nil)) (by simp [h0] at hc)) ?_
 refine Zh [(29,_)] (zK rfl rfl rfl) hn (fun hc=>⟨⟨_,rfl,hc⟩,trivial⟩) (fun hc=>zCW (tv:=.d (.int .i64 0)) (by simp [h0] at hc)) ?_
 refine Zt 2 [] hn rfl (Zv (zG rfl (fun hb0=>?_) (fun hb0=>?_)))
 refine Zu (Zt 1 [] hn rfl (Zv (zI (zB ?_))))
 exact ret_E (.inl rfl) () (zj rfl (.tmp rfl)) trivial
 exact absurd hb0 (by simp [h0])
theorem ProveTruth_ok1 (b:Brd) (s:List UInt8) (hN:NamesOK b) (h5:s.length ≤ 4294967000) (h0:(readI b s).2 = 0) (l:List Int):EffAt Tryz.prog 43 [.d (brdD b),.d (strD s),.d (ints l)] [] (X:=Unit) (fun _=>.d (.bool (proveI b s l))) (fun _=>[]):=by
 have v:=zBj h0
 obtain ⟨hpo,hsl⟩:=kq (b:=b) (s:=s)
 have hV:VecV (.slice none 0 0) 1 (intsT []):=VecV.nil 1
 refine EffAt.of_awp Tryz.func43 rfl (by kernel_rfl) rfl fun Γ hn=>?_
 refine Zu (Zb 3 hn rfl fun b3=>Zt 1 [] hn rfl (Zv (Zu (Zt 2 [3] hn rfl (stepW (s_callE (zEG b s hN h5 h0) rfl rfl rfl (nb hn rfl) (.d rfl) rfl (.refl _) trivial (fun _=>rfl) (fun _ _=>trivial)) fun bb=>?_)))))
 refine Zt 5 [] hn rfl (Zv (zD (Zu (Zt 12 [1070] hn rfl (Zv (zG rfl (fun hb0=>?_) (fun hb0=>?_)))))))
 have q1:((l.length:Int) != ((readI b s).1.length:Int)) = true:=by simpa using hb0
 have e1:proveI b s l = false:=by unfold proveI; rw [h0,q1]; rfl
 rw [e1]
 refine Zu (Zt 1 [] hn rfl (Zv (zI (zB ?_))))
 exact ret_E (.inl rfl) () (zj rfl (.tmp rfl)) trivial
 have q1:((l.length:Int) != ((readI b s).1.length:Int)) = false:=by simpa using hb0
 have hll:l.length = (readI b s).1.length:=by simp at q1; omega
 have e1:proveI b s l = proveGo b (readI b s).1 l (fun _=>none):=by unfold proveI; rw [h0,q1]; rfl
 refine zJ (zA (Zu (stepW (s_makeMap (KI) 1080 rfl rfl rfl (nb hn rfl)) fun b33=>?_)))
 refine Zt 1 [] hn rfl (Zv (zD (Zu (Zt 3 [] hn rfl (Zv (zN (awp_loop_on (ι:={x:Nat × (Int → Option Int) // x.1 ≤ l.length ∧ (∀ k y,x.2 k = some y → 1 ≤ y ∧ y ≤ 799) ∧ proveGo b ((readI b s).1.drop x.1) (l.drop x.1) x.2 = proveI b s l}) (fun x=>(36,true,.d (.int .i64 (x.1.1:Nat))) :: anys [37,38,39,40,10,11,41,42,43,44,45,46,47,12,49,50,51,52,48,53,54,13,14,55,56,57,58,59,60,61,62,63,64,65,66,67,68,69,70,71,72,73,74,75,76,77,78,79,80,81,82,83,84,85,86,87,88,89,90,91,92,93,94,95,96]) (fun x=>(1080,mapRes KI b33 (lastM x.1.2)) :: (1070,.box bb 214 (bookC b (readI b s).1 (.slice none 0 0))) :: (1072,vecRes 3 (.slice none 0 0) 1 (intsT [])) :: gones [12,13]) (fun x=>l.length - x.1.1) ⟨(0,fun _=>none),Nat.zero_le _,fun _ _ h=>(by cases h),e1.symm⟩ ⟨.inl rfl,zF _⟩ ⟨.inl (congrArg (fun z=>some (mapRes KI b33 z)) last_none.symm),.inl rfl,.inl rfl,zW _⟩ ?_)))))))
 rintro ⟨⟨i,L⟩,hi,hL,hgo⟩
 dsimp only
 dsimp only at hi hL hgo
 refine Zu (Zt 1 [] hn rfl (Zv (zD (zG rfl (fun hb1=>?_) (fun hb1=>?_)))))
 have hil:i < l.length:=by simp at hb1; omega
 obtain ⟨x,hx⟩:=zV hil
 obtain ⟨p,hp⟩:=zV (show i < (readI b s).1.length by omega)
 have hpp:=hpo p (List.mem_of_getElem? hp)
 have hst:=hpp.st
 obtain ⟨k,hk⟩:∃ k:Nat,p.stock = k:=⟨p.stock.toNat,by omega⟩
 obtain ⟨st,hst2⟩:=zV (show k < b.stocks.length by omega)
 have hrb:=lastR_bd v hL hst2
 have hj0:=v.j0
 have hj4:=v.j4
 have hn4:=v.n4
 rw [← hk] at hrb
 refine zJ (zA (zD (zN (Zu (Zt 1 [] hn rfl (Zi (i:=i) hn rfl rfl (mget hx) ?_))))))
 refine Zt 3 [] hn rfl (Zv (Zu (Zt 5 [1070] hn rfl (Zi (i:=i) hn rfl rfl (mget hp) ?_))))
 refine Zt 1 [] hn rfl (Zb 12 hn rfl fun b12=>Zt 1 [12] hn rfl (Zv (Zu (Zt 3 [12] hn rfl (stepW (s_lookup (id:=1080) (zd:=.agg [(.int .i64 0),(.int .i64 0)]) rfl rfl rfl (nb hn rfl) zEL underlying234 zr65 rfl (.d rfl) rfl rfl (zEU (by omega)) rfl) fun lr=>?_)))))
 obtain ⟨hl1,hl2⟩:=last_look lr
 rw [hl1,hl2]
 simp only [cond_true]
 refine Zt 3 [] hn rfl (Zb 13 hn rfl fun b13=>Zt 2 [13] hn rfl (Zv (zD (Zu (Zt 2 [] hn rfl (Zv (zb (e:=.normal) (ι:=Unit) (fun u0=>anys [57,58,59,60,61,62,63]) (fun u0=>[(13,.box b13 65 [.d (.int .i64 (lastR b L p.stock).1),.d (.int .i64 (lastR b L p.stock).2)])]) (fun hJ2=>?_) ?_)))))))
 refine zG rfl (fun hb2=>?_) (fun hb2=>?_)
 have hno:L p.stock = none:=by cases h:L p.stock <;> simp [h] at hb2 ⊢
 have hlr:lastR b L p.stock = (st.lo,st.hi):=by unfold lastR; rw [hno,hk,Int.toNat_natCast,zS hst2]
 refine zH (Zt 4 [3,12] hn rfl (Zs hn (q_index (i:=k) rfl rfl rfl underlying35 sz160 hk (mget hst2)) ?_))
 refine Zt 3 [13] hn rfl (zQ ?_)
 exact Zj hJ2 () (zF _) ⟨.inl (by rw [hlr]; rfl),trivial⟩
 obtain ⟨y,hy⟩:∃ y,L p.stock = some y:=by cases h:L p.stock <;> simp [h] at hb2 ⊢
 have hlr:lastR b L p.stock = (y,y):=by unfold lastR; rw [hy]
 have hgy:(L p.stock).getD 0 = y:=by rw [hy]; rfl
 refine zJ ?_
 exact Zj hJ2 () (zF _) ⟨.inl (by rw [hlr]; exact congrArg (fun z=>some (Res.box b13 65 [TV.d (D.int IntKind.i64 z),TV.d (D.int IntKind.i64 z)])) hgy),trivial⟩
 rintro _
 refine zA (zD (Zu (Zt 1 [] hn rfl (Zk hn rfl (zz x 1 799) (Zt 6 [] hn rfl ?_)))))
 refine stepW (s_callEg [(68,_),(71,_)] () (fun hc=>zC0 bb b (readI b s).1 (.slice none 0 0) [] hV p i x hp) rfl (zK rfl rfl rfl) rfl (nb hn rfl) (fun hc=>⟨⟨_,rfl,hc⟩,⟨_,rfl,hc⟩,trivial⟩) (.d rfl) rfl (.refl _) ⟨rfl,rfl,trivial⟩ (fun _=>rfl) (fun _ _=>trivial) ⟨rfl,rfl,trivial⟩) fun _=>?_
 refine Zt 8 [13,3] hn rfl ?_
 refine Zh [(78,_),(80,_)] (zK rfl rfl rfl) hn (fun hc=>⟨⟨_,rfl,hc⟩,⟨_,rfl,hc⟩,trivial⟩) (fun hc=>yB rfl rfl rfl (r:=(lastR b L p.stock).1 - b.jump) (i64w (by omega) rfl)) ?_
 refine Zt 4 [13,3] hn rfl ?_
 refine Zh [(83,_),(85,_)] (zK rfl rfl rfl) hn (fun hc=>⟨⟨_,rfl,hc⟩,⟨_,rfl,hc⟩,trivial⟩) (fun hc=>zh rfl rfl rfl (r:=(lastR b L p.stock).2 + b.jump) (i64w (by omega) rfl)) ?_
 refine Zkg hn rfl (fun hc=>zz _ _ _) (Zt 2 [] hn rfl (Zv (zG rfl (fun hb3=>?_) (fun hb3=>?_))))
 have hstep:stepB b p x L = false:=by unfold stepB; rw [← zBx (i:=(i:Int))]; cases h1:withinB x 1 799 <;> cases h2:fitsB p (i:Int) x [] <;> cases h3:withinB x ((lastR b L p.stock).1 - b.jump) ((lastR b L p.stock).2 + b.jump) <;> simp [h1,h2,h3] at hb3 ⊢
 have e2:proveI b s l = false:=by rw [← hgo,zf hp,zf hx,proveGo,hstep]; rfl
 refine Zu (Zt 1 [] hn rfl (Zv (zI (zB (zL (zB (zB (zL (zB ?_)))))))))
 exact ret_E (.inl rfl) () ((zj rfl (.tmp rfl)).eq (by rw [e2]; rfl)) trivial
 have hstep:stepB b p x L = true:=by unfold stepB; rw [← zBx (i:=(i:Int))]; cases h1:withinB x 1 799 <;> cases h2:fitsB p (i:Int) x [] <;> cases h3:withinB x ((lastR b L p.stock).1 - b.jump) ((lastR b L p.stock).2 + b.jump) <;> simp [h1,h2,h3] at hb3 ⊢
 have hx1:1 ≤ x ∧ x ≤ 799:=by unfold stepB at hstep; simp only [Bool.and_eq_true] at hstep; exact zZ.1 hstep.1.1
 refine zJ (zA (zH (Zt 6 [12] hn rfl (stepW (s_mapUpdate (id:=1080) rfl rfl rfl zEL underlying234 (.d rfl) rfl rfl (zEU (by omega)) rfl rfl rfl rfl trivial) fun _=>?_))))
 refine zQ (zM (zA (zH (Zs hn (zh rfl rfl rfl (r:=((i + 1:Nat):Int)) (i64w (by omega) (by omega))) ?_))))
 refine Zt 1 [] hn rfl (zQ ?_)
 exact Zr ⟨(i + 1,putL L p.stock x),by simp only; omega,putL_bd hL hx1,by simp only; rw [← hgo,zf hp,zf hx,proveGo,hstep]; rfl⟩ ⟨.inl rfl,zF _⟩ ⟨.inl (congrArg (fun z=>some (mapRes KI b33 z)) last_set),.inl rfl,.inl rfl,zW _⟩ (by simp only; omega)
 have hie:i = l.length:=by simp at hb1; omega
 have e2:proveI b s l = true:=by rw [← hgo,hie,List.drop_length]; cases (readI b s).1.drop l.length <;> rfl
 refine zX (zC (zC (zO (zA (Zu (Zt 1 [] hn rfl (Zv (zI ?_))))))))
 exact ret_E (.inl rfl) () ((zj rfl (.tmp rfl)).eq (by rw [e2]; rfl)) trivial
theorem ProveTruth_ok (b:Brd) (s:List UInt8) (l:List Int) (hN:NamesOK b) (h5:s.length ≤ 4294967000):PureAt Tryz.prog 43 [brdD b,strD s,ints l] (.bool (proveI b s l)):=by
  by_cases h0:(readI b s).2 = 0
  · exact PureAt.of_eff (ds:=[brdD b,strD s,ints l]) (ProveTruth_ok1 b s hN h5 h0 l)
  · have h1:((readI b s).2 != 0) = true:=by simpa using h0
    rw [show proveI b s l = false from by unfold proveI; rw [h1]; rfl]
    exact PureAt.of_eff (ds:=[brdD b,strD s,ints l]) (ProveTruth_no b s hN h5 h0 l)
end Go.Proofs.YticlpkgpmmhemaaGreatDoor
