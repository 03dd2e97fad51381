/-
  A part of the proof that contangolaw.OddSales returns true: what the last text needs, and no more. No condition: no statement of the seat is proved here.
-/
import Derived.Test.YticlpkgpmmhemaaGreatDoorOddSalesO
namespace Go.Proofs.YticlpkgpmmhemaaGreatDoor
open Go.RowKit
set_option linter.all false
theorem zDz {f:Nat → Int} {n i:Nat} (h:i < n):((List.range n).map f).getD i 0 = f i:=by
  rw [List.getD_eq_getElem?_getD,List.getElem?_map,List.getElem?_range h]; rfl
theorem hit_congr {fee:Int} {o:Ord} {l:List Prt} {f g:Nat → Int} {fr k:Nat} (e:∀ i,i < l.length → f i = g i) (h:HitP fee o l f fr k):HitP fee o l g fr k :=
  ⟨h.1,h.2.1,h.2.2.1,by rw [← e k h.2.1]; exact h.2.2.2.1,fun j j1 j2 j3=>by rw [← e j (by have:=h.2.1; omega)]; exact h.2.2.2.2 j j1 j2 j3⟩
theorem price_bd9 {fee:Int} {o:Ord} {p:Int} (hf:0 ≤ fee ∧ fee ≤ 4) (hp:1 ≤ p ∧ p ≤ 799):-1 < priceO fee o p ∧ priceO fee o p < 9999:=by
  unfold priceO
  cases o.buy <;> simp only [cond_true,cond_false] <;> omega
/-- What the reference answers, and what the program does. -/
structure AskF (b:Brd) (l:List Prt) (fee:Int) (o:Ord) (mm:List (Int × Int)) (x:Akd):Prop where
  len:x.sales.length = l.length
  sl:∀ i,i < l.length → x.sales.getD i false = saleB b l fee o mm i
  so:x.some_ = (bndI b l fee o mm).2
  bd:x.some_ = true → (bndI b l fee o mm).1 = (x.low,x.top)
  mi:x.missed = missI b l fee o mm
theorem ask_law {d:Dsk} {l:List Prt} {mm:List (Int × Int)} (h:SurH d l mm) {j:Nat} {o:Ord} (hod:d.orders[j]? = some o) {most:Int} {all:List (List Int)} (ha:trsN d.b l most l.length = some all):AskF d.b l d.fee o mm (askI d.fee o l all mm):=by
  have hok:=odd_of h hod
  have hob:=zAa (h.ob o (List.mem_of_getElem? hod))
  have hml:mm.length = l.length:=by rw [h.mt]; simp [timL]
  have hall:=zGm ha
  have hA:=askI_ok (fee:=d.fee) (o:=o) (l:=l) (all:=all) (mm:=mm) (by omega) hml fun ps hps i hi=>price_bd9 h.fe (((hall ps).1 hps).2 i hi).bd
  generalize askI d.fee o l all mm = x at hA ⊢
  have toL:∀ {f:Nat → Int},TruF d.b l 0 f → ((List.range l.length).map f) ∈ all:=fun {f} hf=>(hall _).2 (zAF.1 (truF_list hf))
  have pos:∀ {n:Int} {i:Nat},PosP d.b l d.fee o mm n i → ∃ fr ps,(fr ≤ l.length ∧ waitsB o mm fr = true) ∧ ps ∈ all ∧ HitP d.fee o l (fun i=>ps.getD i 0) fr i ∧ n = priceO d.fee o (ps.getD i 0):=by
    rintro n i ⟨fr,f,hw,hf,hH,hn⟩
    exact ⟨fr,_,⟨by have:=hH.1; have:=hH.2.1; omega,hw⟩,toL hf,hit_congr (fun i hi=>(zDz hi).symm) hH,by rw [zDz hH.2.1]; exact hn⟩
  have pos':∀ {fr:Nat} {ps:List Int} {i:Nat},waitsB o mm fr = true → ps ∈ all → HitP d.fee o l (fun i=>ps.getD i 0) fr i → PosP d.b l d.fee o mm (priceO d.fee o (ps.getD i 0)) i:=fun hw hp hH=>⟨_,_,hw,((hall _).1 hp).2,hH,rfl⟩
  have hsome:x.some_ = (bndI d.b l d.fee o mm).2:=by
    rw [Bool.eq_iff_iff,bnd_iff hok]
    constructor
    · intro hs
      obtain ⟨⟨fr,ps,i,c,hH,_⟩,_⟩:=hA.so hs
      exact ⟨_,i,pos' c.1.2 c.2 hH⟩
    · rintro ⟨n,i,hp⟩
      obtain ⟨fr,ps,c,hps,hH,_⟩:=pos hp
      exact (hA.s2 fr ps i ⟨c,hps⟩ hH).2.1
  refine ⟨hA.len,fun i hi=>?_,hsome,fun hs=>?_,?_⟩
  · rw [Bool.eq_iff_iff,sale_iff hok]
    constructor
    · intro hs
      obtain ⟨fr,ps,c,hH⟩:=hA.s1 i hs
      exact ⟨_,pos' c.1.2 c.2 hH⟩
    · rintro ⟨n,hp⟩
      obtain ⟨fr,ps,c,hps,hH,_⟩:=pos hp
      exact (hA.s2 fr ps i ⟨c,hps⟩ hH).1
  · obtain ⟨⟨i1,e1⟩,⟨i2,e2⟩,e3⟩:=bnd_ends hok (hsome ▸ hs)
    obtain ⟨⟨fr,ps,i,c,hH,q⟩,⟨fr2,ps2,i3,c2,hH2,q2⟩⟩:=hA.so hs
    have k1:=e3 _ _ (pos' c.1.2 c.2 hH)
    have k2:=e3 _ _ (pos' c2.1.2 c2.2 hH2)
    obtain ⟨fr3,ps3,c3,p3,hH3,n3⟩:=pos e1
    obtain ⟨fr4,ps4,c4,p4,hH4,n4⟩:=pos e2
    have k3:=(hA.s2 fr3 ps3 i1 ⟨c3,p3⟩ hH3).2.2
    have k4:=(hA.s2 fr4 ps4 i2 ⟨c4,p4⟩ hH4).2.2
    rw [← n3] at k3
    rw [← n4] at k4
    exact Prod.ext (by omega) (by omega)
  · rw [Bool.eq_iff_iff,miss_iff hok]
    constructor
    · intro hm
      obtain ⟨fr,ps,c,hM⟩:=hA.m1 hm
      exact ⟨fr,_,c.1.1,c.1.2,((hall _).1 c.2).2,hM⟩
    · rintro ⟨fr,f,h1,h2,hf,hM⟩
      exact hA.m2 fr _ ⟨⟨h1,h2⟩,toL hf⟩ fun j j1 j2 j3=>by
        dsimp only
        rw [zDz j2]; exact hM j j1 j2 j3
/-- The sales by which an order can be filled, found one by one. -/
def dueN (x:Akd):Nat → List Int
  | 0=>[]
  | i + 1=>bif x.sales.getD i false then dueN x i ++ [(i:Int)] else dueN x i
theorem zGp {x:Akd} {S:Nat → Bool}:∀ n,(∀ i,i < n → x.sales.getD i false = S i) → dueN x n = ((List.range n).filter S).map fun i:Nat=>(i:Int)
  | 0,_=>rfl
  | n + 1,h=>by
    unfold dueN
    rw [zGp n fun i hi=>h i (by omega),h n (by omega),List.range_succ,List.filter_append,List.map_append]
    cases hS:S n <;> simp [hS]
theorem due_law {b:Brd} {l:List Prt} {fee:Int} {o:Ord} {mm:List (Int × Int)} {x:Akd} (h:AskF b l fee o mm x):dueN x l.length = salesO b l fee o mm:=zGp l.length h.sl
theorem zFC {x:Akd}:∀ n,(dueN x n).length ≤ n
  | 0=>Nat.le_refl _
  | n + 1=>by
    unfold dueN
    have:=zFC (x:=x) n
    cases x.sales.getD n false <;> simp <;> omega
end Go.Proofs.YticlpkgpmmhemaaGreatDoor
namespace Go.Proofs.YticlpkgpmmhemaaGreatDoor
open Go.Proofs.Tryz
open Go.RowKit
set_option maxRecDepth 20000
set_option linter.all false
set_option maxHeartbeats 4000000
@[reducible] def lstE (ps:List Int):List D:=[ints ps]
@[reducible] def lstD (l:List (List Int)):D:=.slice 1 (l.map lstE)
theorem nil_rows {F:Nat → Nat → Prop} {w:World} {v:Value} (h:Rep F w (.slice 1 [[.nil]]) v):Rep F w (.slice 1 [[.slice 1 []]]) v:=by
  obtain ⟨ad,cap,e,h1,h2,h3⟩:=h
  refine ⟨ad,cap,e,h1,h2,?_⟩
  rcases h3 with h3 | ⟨b,o,e2,h0,⟨⟨hf,u,hc,h6,hr⟩,h7⟩,h5⟩
  · cases h3
  · exact .inr ⟨b,o,e2,h0,⟨⟨hf,u,hc,h6,DLe.rep (.nil 1) hr⟩,h7⟩,h5⟩
theorem gh_rep {Γ:Cx} {σ:St} {t:Nat} {d d':D} (ht:σ.get t = some (true,.d d)) (h:∀ {F:Nat → Nat → Prop} {w:World} {v:Value},Rep F w d v → Rep F w d' v):Ghost Γ σ (σ.put t true (.d d')):=fun a w F hs=>⟨F,{
  hs with
  tm:=fun t' c tv hget=>by
    by_cases e:t = t'
    · subst e
      have:(true,TV.d d') = (c,tv):=by simpa [St.get,St.put,zV] using hget
      cases this
      have h2:=(hs.tm t true _ ht).1 rfl
      simp only [TRep] at h2
      exact ⟨fun _=>h h2,fun h=>by cases h⟩
    · exact hs.tm t' c tv (by simpa [St.get,St.put,zX _ _ e] using hget) },fun _ _ h=>h⟩
/-- All truths of the prices, or that there are more than 300. -/
def truR (b:Brd) (l:List Prt):List (List Int) × Bool:=match trsN b l 300 l.length with
  | none=>([],false)
  | some all=>(all,true)
theorem zFH {b:Brd} {l:List Prt} {most:Int} {i:Nat} (h:trsN b l most i = none):∀ k,trsN b l most (i + k) = none
  | 0=>h
  | k + 1=>by rw [← Nat.add_assoc,trsN,zFH h k]
theorem trR_no {b:Brd} {l:List Prt} {i:Nat} (h:trsN b l 300 i = none) (hi:i ≤ l.length):truR b l = ([],false):=by
  unfold truR
  rw [show l.length = i + (l.length - i) by omega,zFH h]
theorem zF4 {b:Brd} {l:List Prt} {all:List (List Int)} (h:trsN b l 300 l.length = some all):truR b l = (all,true):=by
  unfold truR; rw [h]
theorem zGQ {b:Brd} {l:List Prt} {i:Nat} {all:List (List Int)} (h:trsN b l 300 i = some all):trsN b l 300 (i + 1) = bif decide (300 < ((nxK b l i all all.length).length:Int)) then none else some (nxK b l i all all.length):=by
  rw [trsN,h]
theorem nx_add {b:Brd} {l:List Prt} {i n:Nat} {ps:List Int} {A:List (List Int)} {p:Int} (hp:p = ((n + 1:Nat):Int)) (h:(refFits (l.getD i prt0) i ((n + 1:Nat):Int) 0 && stepsB b l i ((n + 1:Nat):Int) ps) = true):(A ++ nxP b l i ps n).map lstE ++ [[.slice 1 ([] ++ ps.map intE ++ [intE p])]] = (A ++ nxP b l i ps (n + 1)).map lstE:=by
  subst hp
  rw [nxP,h]
  simp [lstE,ints]
theorem nx_not {b:Brd} {l:List Prt} {i n:Nat} {ps:List Int} {A:List (List Int)} (h:(refFits (l.getD i prt0) i ((n + 1:Nat):Int) 0 && stepsB b l i ((n + 1:Nat):Int) ps) = false):(A ++ nxP b l i ps n).map lstE = (A ++ nxP b l i ps (n + 1)).map lstE:=by
  rw [nxP,h]; rfl
theorem mgetR {l:List (Int × Int)} {i:Nat} (h:i < l.length):(l.map rngE)[i]? = some (rngE (l.getD i (0,0))):=by
  obtain ⟨x,hx⟩:=zT h
  rw [List.getElem?_map,hx,zQ hx]; rfl
theorem wait_add {o:Ord} {mm:List (Int × Int)} {n s:Nat} (h:waitB o mm n s = true):(waitL o mm n s).map intE ++ [intE (s:Nat)] = (waitL o mm n (s + 1)).map intE:=by
  rw [waitL,h]; simp
theorem wait_not {o:Ord} {mm:List (Int × Int)} {n s:Nat} (h:waitB o mm n s = false):(waitL o mm n s).map intE = (waitL o mm n (s + 1)).map intE:=by
  rw [waitL,h]; rfl
@[reducible] def bolsT (l:List Bool):List TV:=l.map fun q=>.d (.bool q)
theorem bolsT_zero {n:Nat}:(List.replicate n [TV.d (D.bool false)]).flatten = bolsT (List.replicate n false):=by
  rw [bolsT,List.map_replicate]
  induction n with
  | zero=>rfl
  | succ n ih=>rw [List.replicate_succ,List.flatten_cons,ih,List.replicate_succ]; rfl
theorem bolsT_d (l:List Bool):bolsT l = (l.map D.bool).map .d ++ []:=by simp [bolsT]
theorem bolsT_set {l:List Bool} {i:Nat}:(bolsT l).set (0 + i * 1) (.d (.bool true)) = bolsT (l.set i true):=by
  rw [Nat.zero_add,Nat.mul_one,bolsT,bolsT,List.map_set]
theorem chunk_bl {l:List Bool} {n:Nat} (h:l.length = n):chunk 1 n (l.map D.bool) = l.map fun q=>[D.bool q]:=by
  subst h
  induction l with
  | nil=>rfl
  | cons x l ih=>rw [List.length_cons,List.map_cons,List.map_cons]; show [D.bool x] :: chunk 1 l.length (l.map D.bool) = _; rw [ih]
theorem ask_len {fee:Int} {o:Ord} {l:List Prt} {ps:List Int} {fr:Nat} {x:Akd} (h:x.sales.length = l.length):(askS fee o l ps fr x).sales.length = l.length:=by
  unfold askS
  cases decide (akI fee o l ps fr < 0)
  · simp only [cond_false,List.length_set]; exact h
  · simp only [cond_true]; exact h
theorem zCq {fee:Int} {o:Ord} {l:List Prt} {all:List (List Int)} {fr:Nat} {x:Akd} (h:x.sales.length = l.length):∀ n,(askN fee o l all fr x n).sales.length = l.length
  | 0=>h
  | n + 1=>ask_len (zCq h n)
theorem zCw {fee:Int} {o:Ord} {l:List Prt} {all:List (List Int)} {w:List Int}:∀ k,(askK fee o l all w k).sales.length = l.length
  | 0=>by simp [askK,akd0]
  | k + 1=>zCq (zCw k) _
theorem ask_bd {fee:Int} {o:Ord} {l:List Prt} {ps:List Int} {fr a:Nat} (h:akI fee o l ps fr = (a:Nat)) (hfr:fr ≤ l.length):a < l.length:=by
  rcases zG9 (fee:=fee) (o:=o) (l:=l) (ps:=ps) (l.length - fr) (by omega) with ⟨h1,_⟩ | ⟨k,h1,h2⟩
  · have:akI fee o l ps fr = -1:=h1
    omega
  · have:akI fee o l ps fr = (k:Int):=h1
    have:=h2.2.1
    omega
theorem sz115:Sz Tryz.prog 115 5:=(by kernel_rfl:(Tryz.prog.info? 115).map (·.size) = some 5)
theorem bt115:BT Tryz.prog 115 (.agg #[(.slice none 0 0),(.int .i64 0),(.int .i64 0),(.bool false),(.bool false)]) (fun i=>([(0,1),(1,1),(2,1),(3,1),(4,1)]:List (Nat × Nat))[i]?):=zy underlying115 zr115 (by kernel_rfl)
theorem elt110:ElT Tryz.prog 110 29 1 24:=k8 underlying110 (z:=(.slice none 0 0)) (by kernel_rfl) rfl (by decide)
theorem Truths4_ok (b:Brd) (l:List Prt) (v:BrdOK b) (hpo:∀ p ∈ l,PrtOK b p) (hl8:l.length ≤ 8):PureAt Tryz.prog 105 [brdD b,prtsD l,.int .i64 300] (.tup [lstD (truR b l).1,.bool (truR b l).2]):=by
 refine Zp Tryz.func105 rfl fun Γ hn hl=>?_
 refine Zu (Zb 3 hn rfl fun b3=>Zt 2 [] hn rfl (Zv (Zu (stepW (zS rfl rfl rfl (nb hn rfl) underlying110 sz29 zr29 rfl rfl rfl (show _ = [.d .nil] from by kernel_rfl) (by kernel_rfl) rfl rfl rfl rfl rfl) fun _=>?_))))
 refine Zt 1 [] hn rfl (Zv (zB (Zu (Zt 1 [] hn rfl (Zv (zK (zp (gh_rep (t:=8) rfl nil_rows) ?_)))))))
 refine awp_loop_on (ι:={x:Nat × List (List Int) // x.1 ≤ l.length ∧ trsN b l 300 x.1 = some x.2 ∧ x.2.length ≤ 300}) (fun x=>(9,true,.d (.int .i64 (x.1.1:Nat))) :: (8,true,.d (lstD x.1.2)) :: anys [14,15,16,17,10,11,20,21,22,23,12,26,27,30,31,32,33,34,35,36,37,38,39,40,41,42,43,44,45,46,47,48,49,50,51,52,53,54,55,56,57,58,59,28,29,24,25,60,61,62,63,64,18,19]) (fun x=>gones [10,49]) (fun x=>l.length - x.1.1) ⟨(0,[[]]),Nat.zero_le _,rfl,by decide⟩ ⟨.inl rfl,.inl rfl,zE _⟩ (zR _) ?_
 rintro ⟨⟨i,all⟩,hi,hts,hal⟩
 dsimp only
 dsimp only at hi hts hal
 refine zB (Zu (Zt 4 [] hn rfl (Zv (zG rfl (fun hb0=>?_) (fun hb0=>?_)))))
 have hil:i < l.length:=by simp at hb0; omega
 obtain ⟨p,hp⟩:=zT hil
 have hgp:l.getD i prt0 = p:=zQ hp
 have hmem:=zD7 i (by omega) hts
 refine zI (zA (zB (zK (Zu (Zt 1 [] hn rfl (Zv (zB (zB (zp (g_nil (t:=10) (id:=10) 29 1 rfl (nb hn rfl)) ?_)))))))))
 refine zF (Zt 1 [] hn rfl (Zv (zK (awp_loop_on (ι:={x:Nat × Value // x.1 ≤ all.length}) (fun x=>(11,true,.d (.int .i64 (x.1.1:Nat))) :: (10,true,.val x.1.2) :: anys [20,21,22,23,12,26,27,30,31,32,33,34,35,36,37,38,39,40,41,42,43,44,45,46,47,48,49,50,51,52,53,54,55,56,57,58,59,28,29,24,25]) (fun x=>(10,.row x.1.2 29 1 ((nxK b l i all x.1.1).map lstE)) :: gones [49]) (fun x=>all.length - x.1.1) ⟨(0,_),Nat.zero_le _⟩ ⟨.inl rfl,.inl rfl,zE _⟩ ⟨.inl rfl,zR _⟩ ?_))))
 rintro ⟨⟨k,v1⟩,hk⟩
 dsimp only
 dsimp only at hk
 refine zB (Zu (Zt 4 [] hn rfl (Zv (zG rfl (fun hb1=>?_) (fun hb1=>?_)))))
 have hkl:k < all.length:=by simp at hb1; omega
 obtain ⟨ps,hps⟩:=zT hkl
 obtain ⟨hpl,hok⟩:=(hmem ps).1 (List.mem_of_getElem? hps)
 have hpb:∀ q y,q < i → ps[q]? = some y → 1 ≤ y ∧ y ≤ 799:=fun q y hq hy=>by have h:=(hok q hq).bd; rw [zQ hy] at h; exact h
 have hKl:=zDt (b:=b) (l:=l) (i:=i) (all:=all) k
 refine zI (zA (zB (zK (Zu (Zt 1 [] hn rfl (Zv (zK (awp_loop_on (ι:={x:Nat × Value // x.1 ≤ 799}) (fun x=>(12,true,.d (.int .i64 ((x.1.1 + 1:Nat):Int))) :: (10,true,.val x.1.2) :: anys [26,27,30,31,32,33,34,35,36,37,38,39,40,41,42,43,44,45,46,47,48,49,50,51,52,53,54,55,56,57,58,59,28,29]) (fun x=>(10,.row x.1.2 29 1 ((nxK b l i all k ++ nxP b l i ps x.1.1).map lstE)) :: gones [49]) (fun x=>799 - x.1.1) ⟨(0,v1),Nat.zero_le _⟩ ⟨.inl rfl,.inl rfl,zE _⟩ ⟨.inl (congrArg (fun z:List (List Int)=>some (Res.row v1 29 1 (z.map lstE))) (List.append_nil _).symm),zR _⟩ ?_))))))))
 rintro ⟨⟨n,v2⟩,hn9⟩
 dsimp only
 dsimp only at hn9
 refine zB (Zu (Zt 2 [] hn rfl (Zv (zG rfl (fun hb2=>?_) (fun hb2=>?_)))))
 have hnl:n < 799:=by simp at hb2; omega
 have hPl:=zCO (b:=b) (l:=l) (i:=i) (ps:=ps) n
 refine zI (zA (zB (zK (zB (zi (W:=fun b=>b ≠ b3) fmo ?_)))))
 refine Zy [0,1] [] hn rfl (Zd 2 rfl hn (q_index (i:=i) rfl rfl rfl underlying109 sz139 rfl (mget hp)) ?_)
 refine Zy [3,4,5] [] hn rfl (zH (Ze1 6 rfl hn rfl (zFw p i ((n + 1:Nat):Int) 0 (by omega) (by decide)) (d2_of_d1 (Zy [7,8,9,10,11,12,13] [3] hn rfl ?_))))
 refine Zg 14 [(42,_),(43,_)] rfl (zN rfl rfl rfl) hn (fun hc=>⟨⟨_,rfl,hc⟩,⟨_,rfl,hc⟩,trivial⟩) (fun hc=>q_index (i:=k) rfl rfl rfl underlying110 sz29 rfl (mget hps)) ?_
 refine Zy [15] [] hn rfl (zH ?_)
 refine Zo 16 rfl (s_call [(38,_),(39,_),(40,_),(41,_),(45,_)] (fun hc=>zFF b l i ((n + 1:Nat):Int) ps v hpo (by omega) hil (by omega) (by omega) hpb) rfl (zN rfl rfl rfl) rfl (nb hn rfl) (fun hc=>⟨⟨_,rfl,hc⟩,⟨_,rfl,hc⟩,⟨_,rfl,hc⟩,⟨_,rfl,hc⟩,⟨_,rfl,hc⟩,trivial⟩) rfl rfl (.refl _)) fun _=>?_
 refine d2_of_d1 (Zy [17] [] hn rfl (zH (zh (by kernel_rfl) ?_)))
 refine zA (zG rfl (fun hb3=>?_) (fun hb3=>?_))
 have q3:(refFits p i ((n + 1:Nat):Int) 0 && stepsB b l i ((n + 1:Nat):Int) ps) = true:=hb3
 refine zF (Zt 1 [] hn rfl (stepW (s_buildRow 49 rfl rfl rfl (nb hn rfl) underlying29 sz3 zr3 rfl rfl rfl (show _ = [] from by kernel_rfl) (by kernel_rfl) rfl rfl (show allD _ = some [] from by kernel_rfl) rfl rfl) fun v49=>?_))
 refine Zt 2 [] hn rfl (Zi (i:=k) hn rfl rfl (mget hps) ?_)
 refine Zt 1 [] hn rfl (stepW (s_append (id:=49) rfl rfl rfl (nb hn rfl) elt29 trivial rfl rfl rfl (by simp [chunk]; omega) (by simp [chunk]; omega) (fun b hb=>trivial)) fun v54=>?_)
 refine Zt 1 [] hn rfl (stepW (zS rfl rfl rfl (nb hn rfl) underlying29 sz3 zr3 rfl rfl rfl (show _ = [.d (.int .i64 0)] from by kernel_rfl) (by kernel_rfl) rfl rfl rfl rfl rfl) fun _=>?_)
 refine stepW (s_append (id:=49) rfl rfl rfl (nb hn rfl) elt29 trivial rfl rfl rfl (by simp [chunk]; omega) (by simp [chunk]; omega) (fun b hb=>trivial)) fun v57=>?_
 refine yk (g_row (t:=57) (id:=49) rfl rfl) ?_
 refine stepW (zS rfl rfl rfl (nb hn rfl) underlying110 sz29 zr29 rfl rfl rfl (show _ = [.d .nil] from by kernel_rfl) (by kernel_rfl) rfl rfl rfl rfl rfl) fun _=>?_
 refine stepW (s_append (id:=10) rfl rfl rfl (nb hn rfl) elt110 trivial rfl rfl rfl (by simp [chunk]; omega) (by simp [chunk]; omega) (fun b hb=>trivial)) fun v59=>?_
 refine Zt 1 [] hn rfl (zP (zM (zA (zF (Zt 1 [] hn rfl (Zs hn (zZ rfl rfl rfl (r:=((n + 1 + 1:Nat):Int)) (i64w (by omega) (by omega))) ?_))))))
 refine Zt 1 [] hn rfl (zP ?_)
 exact Zr ⟨(n + 1,v59),by simp only; omega⟩ ⟨.inl rfl,.inl rfl,zE _⟩ ⟨.inl (congrArg (fun z=>some (Res.row v59 29 1 z)) (nx_add rfl (by rw [hgp]; exact q3))),zR _⟩ (by simp only; omega)
 have q3:(refFits p i ((n + 1:Nat):Int) 0 && stepsB b l i ((n + 1:Nat):Int) ps) = false:=hb3
 refine zI (zM (zA (zF (Zt 1 [] hn rfl (Zs hn (zZ rfl rfl rfl (r:=((n + 1 + 1:Nat):Int)) (i64w (by omega) (by omega))) ?_)))))
 refine Zt 1 [] hn rfl (zP ?_)
 exact Zr ⟨(n + 1,v2),by simp only; omega⟩ ⟨.inl rfl,.inl rfl,zE _⟩ ⟨.inl (congrArg (fun z=>some (Res.row v2 29 1 z)) (nx_not (by rw [hgp]; exact q3))),zR _⟩ (by simp only; omega)
 obtain rfl:n = 799:=by simp at hb2; omega
 refine zU (zC (zC (zL (zM (zA (zF (Zt 1 [] hn rfl (Zs hn (zZ rfl rfl rfl (r:=((k + 1:Nat):Int)) (i64w (by omega) (by omega))) ?_))))))))
 refine Zt 1 [] hn rfl (zP ?_)
 exact Zr ⟨(k + 1,v2),by simp only; omega⟩ ⟨.inl rfl,.inl rfl,zE _⟩ ⟨.inl (congrArg (fun z:List (List Int)=>some (Res.row v2 29 1 (z.map lstE))) (show nxK b l i all k ++ nxP b l i ps 799 = nxK b l i all (k + 1) by rw [nxK,zQ hps])),zR _⟩ (by simp only; omega)
 obtain rfl:k = all.length:=by simp at hb1; omega
 have hKl:=zDt (b:=b) (l:=l) (i:=i) (all:=all) all.length
 refine zU (zC (zC (zL (zA (zB (Zu (Zt 1 [] hn rfl (Zs hn (zEN rfl rfl (id:=10) rfl underlying110) ?_))))))))
 refine Zt 2 [] hn rfl (Zv (zG rfl (fun hb4=>?_) (fun hb4=>?_)))
 have q4:decide ((300:Int) < ((nxK b l i all all.length).length:Int)) = true:=by rw [List.length_map] at hb4; exact hb4
 refine Zu (Zt 2 [] hn rfl (Zv (zJ (zD (zO (zD (zD (zO (zD (kK (yx (.inl rfl) hl rfl (.tmp rfl) (.tmp rfl)) ?_))))))))))
 rw [trR_no (by rw [zGQ hts,q4]; rfl) hil]; exact .tup (.cons (.nil 1) (.refl _))
 have q4:decide ((300:Int) < ((nxK b l i all all.length).length:Int)) = false:=by rw [List.length_map] at hb4; exact hb4
 refine zI (zA (zF (yk (g_row (t:=10) (id:=10) rfl rfl) ?_)))
 refine Zt 2 [] hn rfl (zP (zM (zA (zF (Zt 1 [] hn rfl (Zs hn (zZ rfl rfl rfl (r:=((i + 1:Nat):Int)) (i64w (by omega) (by omega))) ?_))))))
 refine Zt 1 [] hn rfl (zP ?_)
 exact Zr ⟨(i + 1,nxK b l i all all.length),by simp only; omega,by simp only; rw [zGQ hts,q4]; rfl,by have:=of_decide_eq_false q4; simp only; omega⟩ ⟨.inl rfl,.inl rfl,zE _⟩ (zR _) (by simp only; omega)
 obtain rfl:i = l.length:=by simp at hb0; omega
 refine zU (zC (zC (zL (zA (Zu (Zt 3 [] hn rfl (Zv (zJ (kK (yx (.inl rfl) hl rfl (.tmp rfl) (.tmp rfl)) ?_)))))))))
 rw [zF4 hts]; exact .refl _
theorem Waits4_ok (d:Dsk) (l:List Prt) (j:Nat) (o:Ord) (hod:d.orders[j]? = some o) (hob:0 ≤ o.mlo ∧ o.mlo ≤ o.mhi ∧ o.mhi ≤ 600) (hpo:∀ p ∈ l,PrtOK d.b p) (hl8:l.length ≤ 8) (htb:timesB l = true):PureAt Tryz.prog 106 [dskD d,prtsD l,.int .i64 (j:Nat)] (ints (waitL o (timL l l.length) l.length (l.length + 1))):=by
 refine Zp Tryz.func106 rfl fun Γ hn hl=>?_
 have hml:=zEE l
 refine Zu (Zb 3 hn rfl fun b3=>Zt 1 [] hn rfl (Zv (Zu (Zt 1 [] hn rfl (Zk hn rfl ((by have h:=zEx d.b l hpo hl8; rw [show timesI l = timL l l.length from by unfold timesI; rw [htb]; rfl,htb] at h; exact h)) ?_)))))
 refine Zt 5 [] hn rfl (Zv (Zu (Zt 3 [3] hn rfl (Zi (i:=j) hn rfl rfl (mget hod) ?_))))
 refine Zt 1 [] hn rfl (Zb 9 hn rfl fun b9=>Zt 1 [9] hn rfl (Zv (Zu (Zt 1 [] hn rfl (Zv (zB (zB (zp (g_nil (t:=10) (id:=10) 3 1 rfl (nb hn rfl)) ?_))))))))
 refine zF (Zt 1 [] hn rfl (Zv (zK (awp_loop_on (ι:={x:Nat × Value // x.1 ≤ l.length + 1}) (fun x=>(11,true,.d (.int .i64 (x.1.1:Nat))) :: (10,true,.val x.1.2) :: anys [26,27,28,29,12,32,33,34,13,35,36,37,38,39,42,43,44,45,46,47,48,49,50,51,52,53,14,54,55,56,57,58,59,60,61,62,63,64,65,66,15,67,68,69,70,71,72,73,40,41,74,75,76,77,78,30,31]) (fun x=>[(10,.row x.1.2 3 1 ((waitL o (timL l l.length) l.length x.1.1).map intE))]) (fun x=>l.length + 1 - x.1.1) ⟨(0,_),Nat.zero_le _⟩ ⟨.inl rfl,.inl rfl,zE _⟩ ⟨.inl rfl,trivial⟩ ?_))))
 rintro ⟨⟨s,v1⟩,hs⟩
 dsimp only
 dsimp only at hs
 refine zB (Zu (Zt 4 [] hn rfl (Zv (zG rfl (fun hb0=>?_) (fun hb0=>?_)))))
 have hsl:s ≤ l.length:=by simp at hb0; omega
 have hWl:=zCA (o:=o) (mm:=(timL l l.length)) (n:=l.length) s
 refine zI (zA (zB (zK (Zu (Zt 1 [] hn rfl (Zv (zB (Zu (Zt 4 [9] hn rfl (Zv (zK (awp_loop_on (ι:={q:Nat // q ≤ (o.mhi - o.mlo + 1).toNat}) (fun x=>(13,true,.d (.int .i64 (o.mlo + (x.1:Nat)))) :: (12,true,.d (.bool (canW o (timL l l.length) l.length s x.1))) :: anys [35,36,37,38,39,42,43,44,45,46,47,48,49,50,51,52,53,14,54,55,56,57,58,59,60,61,62,63,64,65,66,15,67,68,69,70,71,72,73,40,41]) (fun x=>[]) (fun x=>(o.mhi - o.mlo + 1).toNat - x.1) ⟨0,Nat.zero_le _⟩ ⟨.inl (congrArg (fun z=>some (true,TV.d (D.int .i64 z))) (by simp)),.inl rfl,zE _⟩ trivial ?_))))))))))))
 rintro ⟨q,hq⟩
 dsimp only
 refine zB (Zu (Zt 5 [9] hn rfl (Zv (zG rfl (fun hb1=>?_) (fun hb1=>?_)))))
 have hql:q < (o.mhi - o.mlo + 1).toNat:=by simp at hb1; omega
 refine zI (zA (zB (zK (Zu (Zt 5 [] hn rfl ?_)))))
 refine Zh [(46,_)] (zN rfl rfl rfl) hn (fun hc=>⟨⟨_,rfl,hc⟩,trivial⟩) (fun hc=>zz rfl rfl rfl (r:=((s - 1:Nat):Int)) (i64w (by omega) (by have h0:0 < s:=(by simp at hc; omega); omega))) ?_
 refine Zh [(45,_),(47,_)] (zN rfl rfl rfl) hn (fun hc=>⟨⟨_,rfl,hc⟩,⟨_,rfl,hc⟩,trivial⟩) (fun hc=>q_index (i:=s - 1) rfl rfl rfl underlying155 sz59 rfl (mgetR (by have h0:0 < s:=(by simp at hc; omega); omega))) ?_
 refine Zt 6 [] hn rfl (Zv (Zu (Zt 7 [] hn rfl ?_)))
 refine Zh [(59,_),(60,_)] (zN rfl rfl rfl) hn (fun hc=>⟨⟨_,rfl,hc⟩,⟨_,rfl,hc⟩,trivial⟩) (fun hc=>q_index (i:=s) rfl rfl rfl underlying155 sz59 rfl (mgetR (by simp at hc; omega))) ?_
 refine Zt 6 [] hn rfl (Zv (zF (Zt 8 [] hn rfl (zP (zM (zA (zF (Zt 1 [] hn rfl (Zs hn (zZ rfl rfl rfl (r:=o.mlo + ((q + 1:Nat):Int)) (i64w (by omega) (by omega))) ?_)))))))))
 refine Zt 1 [] hn rfl (zP ?_)
 exact Zr ⟨q + 1,by omega⟩ ⟨.inl rfl,.inl (congrArg (fun z=>some (true,TV.d (D.bool z))) (by rw [canW,List.length_map])),zE _⟩ trivial (by simp only; omega)
 obtain rfl:q = (o.mhi - o.mlo + 1).toNat:=by simp at hb1; omega
 refine zU (zC (zC (zL (zA (Zu (Zt 1 [] hn rfl (Zv (zG rfl (fun hb2=>?_) (fun hb2=>?_)))))))))
 have q2:waitB o (timL l l.length) l.length s = true:=hb2
 refine zF (Zt 2 [] hn rfl (stepW (zS rfl rfl rfl (nb hn rfl) underlying29 sz3 zr3 rfl rfl rfl (show _ = [.d (.int .i64 0)] from by kernel_rfl) (by kernel_rfl) rfl rfl rfl rfl rfl) fun _=>?_))
 refine stepW (s_append (id:=10) rfl rfl rfl (nb hn rfl) elt29 trivial rfl rfl rfl (by simp [chunk]; omega) (by simp [chunk]; omega) (fun b hb=>trivial)) fun v78=>?_
 refine Zt 1 [] hn rfl (zP (zM (zA (zF (Zt 1 [] hn rfl (Zs hn (zZ rfl rfl rfl (r:=((s + 1:Nat):Int)) (i64w (by omega) (by omega))) ?_))))))
 refine Zt 1 [] hn rfl (zP ?_)
 exact Zr ⟨(s + 1,v78),by simp only; omega⟩ ⟨.inl rfl,.inl rfl,zE _⟩ ⟨.inl (congrArg (fun z=>some (Res.row v78 3 1 z)) (wait_add q2)),trivial⟩ (by simp only; omega)
 have q2:waitB o (timL l l.length) l.length s = false:=hb2
 refine zI (zM (zA (zF (Zt 1 [] hn rfl (Zs hn (zZ rfl rfl rfl (r:=((s + 1:Nat):Int)) (i64w (by omega) (by omega))) ?_)))))
 refine Zt 1 [] hn rfl (zP ?_)
 exact Zr ⟨(s + 1,v1),by simp only; omega⟩ ⟨.inl rfl,.inl rfl,zE _⟩ ⟨.inl (congrArg (fun z=>some (Res.row v1 3 1 z)) (wait_not q2)),trivial⟩ (by simp only; omega)
 obtain rfl:s = l.length + 1:=by simp at hb0; omega
 refine zU (zC (zC (zL (zA (Zu (Zt 2 [] hn rfl (Zv (zJ (yd (g_row (t:=6) (id:=10) rfl rfl) ?_)))))))))
 exact zY (.inl rfl) hl rfl (.tmp rfl)
theorem Ask4_ok (d:Dsk) (l:List Prt) (j:Nat) (o:Ord) (hod:d.orders[j]? = some o) (hob:0 ≤ o.mlo ∧ o.mlo ≤ o.mhi ∧ o.mhi ≤ 600) (hpo:∀ p ∈ l,PrtOK d.b p) (hl8:l.length ≤ 8) (htb:timesB l = true) (hf:0 ≤ d.fee ∧ d.fee ≤ 4) (all:List (List Int)) (hall:∀ ps ∈ all,ps.length = l.length ∧ ∀ p ∈ ps,1 ≤ p ∧ p ≤ 799) (hal:all.length ≤ 1000):PureAt Tryz.prog 49 [dskD d,prtsD l,lstD all,.int .i64 (j:Nat)] (.agg (akdE (askI d.fee o l all (timL l l.length)))):=by
 refine Zp Tryz.func49 rfl fun Γ hn hl=>?_
 refine Zu (Zb 4 hn rfl fun b4=>Zb 8 hn rfl fun b8=>Zv (Zu (Zt 2 [] hn rfl (stepW (kB (n:=l.length) 1110 rfl rfl rfl (nb hn rfl) underlying113 (show _ = some (some (.bool false),1,1) from by kernel_rfl) rfl rfl rfl (by decide) rfl rfl (by simp) (by simp) (by omega) (by omega) (by omega)) fun b19=>?_))))
 refine yk (gh_req (id:=1110) rfl (congrArg (Res.box b19 4) (bolsT_zero (n:=l.length)))) ?_
 refine Zs hn (zDy rfl bt115 rfl rfl rfl rfl) ?_
 refine Zb 9 hn rfl fun b9=>Zt 1 [9] hn rfl (Zv (Zu (Zt 3 [4] hn rfl (Zi (i:=j) hn rfl rfl (mget hod) ?_))))
 refine Zt 1 [] hn rfl (Zb 10 hn rfl fun b10=>Zt 1 [10] hn rfl (Zv (Zu (Zt 3 [4] hn rfl (Zk hn rfl (Waits4_ok d l j o hod hob hpo hl8 htb) (Zt 1 [] hn rfl (Zv (zB (zB ?_)))))))))
 have hw:∀ x ∈ (waitL o (timL l l.length) l.length (l.length + 1)),0 ≤ x ∧ x ≤ l.length:=fun x hx=>by obtain ⟨s,rfl,h,_⟩:=(kp _).1 hx; omega
 have hwl:=zCA (o:=o) (mm:=(timL l l.length)) (n:=l.length) (l.length + 1)
 generalize hwd:(waitL o (timL l l.length) l.length (l.length + 1)) = w at hw hwl ⊢
 refine zF (Zt 1 [] hn rfl (Zv (zK (awp_loop_on (ι:={k:Nat // k ≤ w.length}) (fun x=>(12,true,.d (.int .i64 (x.1:Nat))) :: anys [30,31,32,33,13,36,37,38,39,14,42,43,44,15,45,46,47,48,49,50,53,54,55,56,57,58,59,60,61,62,63,64,65,66,67,68,69,70,71,72,73,51,52,74,75,76,77,78,79,80,81,82,83,84,85,86,16,87,88,89,90,91,92,93,94,95,96,97,98,99,100,101,40,41,34,35]) (fun x=>[(9,.box b9 115 [.val (.slice (some ⟨b19,0,none⟩) l.length l.length),.d (.int .i64 (askK d.fee o l all w x.1).low),.d (.int .i64 (askK d.fee o l all w x.1).top),.d (.bool (askK d.fee o l all w x.1).some_),.d (.bool (askK d.fee o l all w x.1).missed)]),(1110,.box b19 4 (bolsT (askK d.fee o l all w x.1).sales))]) (fun x=>w.length - x.1) ⟨0,Nat.zero_le _⟩ ⟨.inl rfl,zE _⟩ ⟨.inl rfl,.inl rfl,trivial⟩ ?_))))
 rintro ⟨k,hk⟩
 dsimp only
 refine zB (Zu (Zt 4 [] hn rfl (Zv (zG rfl (fun hb0=>?_) (fun hb0=>?_)))))
 have hkw:k < w.length:=by simp at hb0; omega
 obtain ⟨fi,hfi⟩:=zT hkw
 have hfb:=hw fi (List.mem_of_getElem? hfi)
 obtain ⟨fr,rfl⟩:∃ fr:Nat,fi = (fr:Int):=⟨fi.toNat,by omega⟩
 have hfl:fr ≤ l.length:=by omega
 have e7:askK d.fee o l all w (k + 1) = askN d.fee o l all fr (askK d.fee o l all w k) all.length:=by rw [askK,zQ hfi,Int.toNat_natCast]
 refine zI (zA (zB (zK (Zu (Zt 1 [] hn rfl (Zv (zK (awp_loop_on (ι:={n:Nat // n ≤ all.length}) (fun x=>(13,true,.d (.int .i64 (x.1:Nat))) :: anys [36,37,38,39,14,42,43,44,15,45,46,47,48,49,50,53,54,55,56,57,58,59,60,61,62,63,64,65,66,67,68,69,70,71,72,73,51,52,74,75,76,77,78,79,80,81,82,83,84,85,86,16,87,88,89,90,91,92,93,94,95,96,97,98,99,100,101,40,41]) (fun x=>[(9,.box b9 115 [.val (.slice (some ⟨b19,0,none⟩) l.length l.length),.d (.int .i64 (askN d.fee o l all fr (askK d.fee o l all w k) x.1).low),.d (.int .i64 (askN d.fee o l all fr (askK d.fee o l all w k) x.1).top),.d (.bool (askN d.fee o l all fr (askK d.fee o l all w k) x.1).some_),.d (.bool (askN d.fee o l all fr (askK d.fee o l all w k) x.1).missed)]),(1110,.box b19 4 (bolsT (askN d.fee o l all fr (askK d.fee o l all w k) x.1).sales))]) (fun x=>all.length - x.1) ⟨0,Nat.zero_le _⟩ ⟨.inl rfl,zE _⟩ ⟨.inl rfl,.inl rfl,trivial⟩ ?_))))))))
 rintro ⟨n,hn9⟩
 dsimp only
 refine zB (Zu (Zt 4 [] hn rfl (Zv (zG rfl (fun hb1=>?_) (fun hb1=>?_)))))
 ·
  have hnl:n < all.length:=by simp at hb1; omega
  obtain ⟨ps,hps⟩:=zT hnl
  obtain ⟨hpl,hpb⟩:=hall ps (List.mem_of_getElem? hps)
  have hsl:=zCq (fee:=d.fee) (o:=o) (l:=l) (all:=all) (fr:=fr) (zCw (fee:=d.fee) (o:=o) (l:=l) (all:=all) (w:=w) k) n
  have e4:(askN d.fee o l all fr (askK d.fee o l all w k) (n + 1)) = askS d.fee o l ps fr (askN d.fee o l all fr (askK d.fee o l all w k) n):=by rw [askN,zQ hps]
  refine zI (zA (zB (zK (Zu (Zt 1 [] hn rfl (Zv (zB (Zu (Zt 2 [] hn rfl (Zs hn (zz rfl rfl rfl (r:=(l.length:Int) - 1) (by rw [List.length_map]; exact i64w (by omega) rfl)) ?_))))))))))
  refine Zt 1 [] hn rfl (Zv (zK (awp_loop_on (ι:={q:Nat // q ≤ l.length - fr}) (fun x=>(15,true,.d (.int .i64 ((l.length:Int) - 1 - (x.1:Nat)))) :: (14,true,.d (.int .i64 (akN d.fee o l ps x.1))) :: anys [45,46,47,48,49,50,53,54,55,56,57,58,59,60,61,62,63,64,65,66,67,68,69,70,71,72,73,51,52]) (fun x=>[]) (fun x=>l.length - fr - x.1) ⟨0,Nat.zero_le _⟩ ⟨.inl (congrArg (fun z=>some (true,TV.d (D.int .i64 z))) (by simp)),.inl rfl,zE _⟩ trivial ?_)))
  rintro ⟨q,hq⟩
  dsimp only
  refine zB (Zu (Zt 3 [] hn rfl (Zi (i:=k) hn rfl rfl (mget hfi) ?_)))
  refine Zt 2 [] hn rfl (Zv (zG rfl (fun hb2=>?_) (fun hb2=>?_)))
  have hql:q < l.length - fr:=by simp at hb2; omega
  obtain ⟨i,hi⟩:∃ i,l.length - 1 - q = i:=⟨_,rfl⟩
  have hie:(l.length:Int) - 1 - (q:Nat) = (i:Nat):=by omega
  obtain ⟨p,hp⟩:=zT (show i < l.length by omega)
  obtain ⟨pi,hpi⟩:=zT (show i < ps.length by omega)
  have hpib:=hpb pi (List.mem_of_getElem? hpi)
  have e1:akN d.fee o l ps (q + 1) = bif p.stock == o.stock && letsB d.fee o pi then (i:Int) else akN d.fee o l ps q:=by rw [akN,hi,zQ hp,zQ hpi]
  refine zI (zA (zB (zK (zB (zi (W:=fun b=>b ≠ b4 ∧ b ≠ b10) fmo ?_)))))
  refine Zy [0,1] [] hn rfl (Zd 2 rfl hn (q_index (i:=i) rfl rfl rfl underlying109 sz139 hie (mget hp)) ?_)
  refine Zy [3,4,5,6,7,8,9,10,11,12] [10,4,10] hn rfl ?_
  refine Zg 13 [(64,_),(65,_)] rfl (zN rfl rfl rfl) hn (fun hc=>⟨⟨_,rfl,hc⟩,⟨_,rfl,hc⟩,trivial⟩) (fun hc=>q_index (i:=n) rfl rfl rfl underlying110 sz29 rfl (mget hps)) ?_
  refine Zy [14,15] [] hn rfl ?_
  refine Zg 16 [(67,_),(68,_)] rfl (zN rfl rfl rfl) hn (fun hc=>⟨⟨_,rfl,hc⟩,⟨_,rfl,hc⟩,trivial⟩) (fun hc=>q_index (i:=i) rfl rfl rfl underlying29 sz3 hie (mget hpi)) ?_
  refine Zy [17] [] hn rfl (zH ?_)
  refine Zo 18 rfl (s_call [(62,_),(63,_),(70,_)] (fun hc=>Lets4_ok d o pi hf (by omega)) rfl (zN rfl rfl rfl) rfl (nb hn rfl) (fun hc=>⟨⟨_,rfl,hc⟩,⟨_,rfl,hc⟩,⟨_,rfl,hc⟩,trivial⟩) rfl rfl (.refl _)) fun _=>?_
  refine d2_of_d1 (Zy [19] [] hn rfl (zH (zh (by kernel_rfl) ?_)))
  refine zA (zG rfl (fun hb3=>?_) (fun hb3=>?_))
  have q3:(p.stock == o.stock && letsB d.fee o pi) = true:=hb3
  refine zF (Zt 2 [] hn rfl (zP (zM (zA (zF (Zt 1 [] hn rfl (Zs hn (zz rfl rfl rfl (r:=(l.length:Int) - 1 - ((q + 1:Nat):Int)) (i64w (by omega) (by omega))) ?_)))))))
  refine Zt 1 [] hn rfl (zP ?_)
  exact Zr ⟨q + 1,by omega⟩ ⟨.inl rfl,.inl (congrArg (fun z=>some (true,TV.d (D.int .i64 z))) (by rw [e1,q3]; exact hie)),zE _⟩ trivial (by simp only; omega)
  have q3:(p.stock == o.stock && letsB d.fee o pi) = false:=hb3
  refine zI (zM (zA (zF (Zt 1 [] hn rfl (Zs hn (zz rfl rfl rfl (r:=(l.length:Int) - 1 - ((q + 1:Nat):Int)) (i64w (by omega) (by omega))) ?_)))))
  refine Zt 1 [] hn rfl (zP ?_)
  exact Zr ⟨q + 1,by omega⟩ ⟨.inl rfl,.inl (congrArg (fun z=>some (true,TV.d (D.int .i64 z))) (by rw [e1,q3]; rfl)),zE _⟩ trivial (by simp only; omega)
  obtain rfl:q = l.length - fr:=by simp at hb2; omega
  have hak:akN d.fee o l ps (l.length - fr) = akI d.fee o l ps fr:=rfl
  rw [hak]
  refine zU (zC (zC (zL (zA (zB (Zu (Zt 2 [] hn rfl (Zv (zG rfl (fun hb4=>?_) (fun hb4=>?_))))))))))
  have q4:decide (akI d.fee o l ps fr < 0) = true:=hb4
  have e5:(askN d.fee o l all fr (askK d.fee o l all w k) (n + 1)) = { (askN d.fee o l all fr (askK d.fee o l all w k) n) with missed:=true }:=by rw [e4]; unfold askS; rw [q4]; rfl
  refine Zu (Zt 1 [] hn rfl (stepW (s_store1 rfl rfl rfl rfl rfl rfl (id:=9) rfl sz4 (Nat.le_of_ble_eq_true rfl) rfl trivial) fun _=>?_))
  refine Zv (zU (zC (zL (zA (zF ?_)))))
  rotate_left
  have q4:decide (akI d.fee o l ps fr < 0) = false:=hb4
  obtain ⟨a,ha⟩:∃ a:Nat,akI d.fee o l ps fr = (a:Int):=⟨(akI d.fee o l ps fr).toNat,by have:=of_decide_eq_false q4; omega⟩
  have hal2:=ask_bd ha hfl
  obtain ⟨pa,hpa⟩:=zT (show a < ps.length by omega)
  have hpab:=hpb pa (List.mem_of_getElem? hpa)
  have e5:(askN d.fee o l all fr (askK d.fee o l all w k) (n + 1)) = ⟨(askN d.fee o l all fr (askK d.fee o l all w k) n).sales.set a true,min (askN d.fee o l all fr (askK d.fee o l all w k) n).low (priceO d.fee o pa),max (askN d.fee o l all fr (askK d.fee o l all w k) n).top (priceO d.fee o pa),true,(askN d.fee o l all fr (askK d.fee o l all w k) n).missed⟩:=by rw [e4]; unfold askS; rw [q4,cond_false,ha,Int.toNat_natCast,zQ hpa]
  refine zI (zA (zB (zi (W:=fun b=>b ≠ b4 ∧ b ≠ b10) fmo ?_)))
  refine Zy [0,1,2,3] [4,10] hn rfl (Zd 4 rfl hn (q_index (i:=n) rfl rfl rfl underlying110 sz29 rfl (mget hps)) ?_)
  refine Zy [5,6] [] hn rfl (Zd 7 rfl hn (q_index (i:=a) rfl rfl rfl underlying29 sz3 ha (mget hpa)) ?_)
  refine Zy [8] [] hn rfl (zH (Ze1 9 rfl hn rfl (Price4_ok d o pa hf (by omega)) (d2_of_d1 (Zy [10] [] hn rfl (zH (zh (by kernel_rfl) ?_))))))
  refine zA (Zu (Zt 3 [9] hn rfl (Zs hn (q_indexV (i:=a) rfl rfl rfl underlying113 sz4 ha hal2) ?_)))
  refine stepW (s_store1 rfl rfl rfl rfl rfl rfl (id:=1110) rfl sz4 (by rw [List.length_map]; omega) bolsT_set trivial) fun _=>?_
  refine Zt 1 [] hn rfl (stepW (s_store1 rfl rfl rfl rfl rfl rfl (id:=9) rfl sz4 (Nat.le_of_ble_eq_true rfl) rfl trivial) fun _=>?_)
  refine Zv (zF (Zt 3 [9] hn rfl (Zs hn (zG6 rfl rfl rfl) ?_)))
  refine Zt 3 [9] hn rfl (Zs hn (kI rfl rfl rfl) ?_)
  refine Zt 1 [] hn rfl (stepW (s_store1 rfl rfl rfl rfl rfl rfl (id:=9) rfl sz3 (Nat.le_of_ble_eq_true rfl) rfl trivial) fun _=>?_)
  refine Zt 1 [] hn rfl (stepW (s_store1 rfl rfl rfl rfl rfl rfl (id:=9) rfl sz3 (Nat.le_of_ble_eq_true rfl) rfl trivial) fun _=>?_)
  refine zP (zM (zA (zF ?_)))
  rotate_left
  all_goals
   refine Zt 1 [] hn rfl (Zs hn (zZ rfl rfl rfl (r:=((n + 1:Nat):Int)) (i64w (by omega) (by omega))) ?_)
   refine Zt 1 [] hn rfl (zP ?_)
   exact Zr ⟨n + 1,by omega⟩ ⟨.inl rfl,zE _⟩ ⟨.inl (by rw [e5]; rfl),.inl (by rw [e5]; rfl),trivial⟩ (by simp only; omega)
 obtain rfl:n = all.length:=by simp at hb1; omega
 refine zU (zC (zC (zL (zM (zA (zF (Zt 1 [] hn rfl (Zs hn (zZ rfl rfl rfl (r:=((k + 1:Nat):Int)) (i64w (by omega) (by omega))) ?_))))))))
 refine Zt 1 [] hn rfl (zP ?_)
 exact Zr ⟨k + 1,by omega⟩ ⟨.inl rfl,zE _⟩ ⟨.inl (by rw [e7]; rfl),.inl (by rw [e7]; rfl),trivial⟩ (by simp only; omega)
 obtain rfl:k = w.length:=by simp at hb0; omega
 have hsl:=zCw (fee:=d.fee) (o:=o) (l:=l) (all:=all) (w:=w) w.length
 refine zU (zC (zC (zL (zA (zB ?_)))))
 refine zp (gh_veccell (id:=9) (k:=0) (rid:=1110) (ds:=(askK d.fee o l all w w.length).sales.map D.bool) (rest:=[]) (n:=l.length) (sz:=1) rfl rfl (congrArg (fun z=>some (Res.box b19 4 z)) (bolsT_d _)) rfl (by rw [List.length_map,hsl,Nat.mul_one]) (chunk_bl hsl) (Nat.le_refl _) (by simp only [maxLen]; omega)) ?_
 refine zF (Zt 2 [9,8] hn rfl (Zv (zJ (za (zY (.inl rfl) hl rfl (.cellA rfl (id:=8) rfl underlying115 rfl sz115 rfl rfl)) ?_))))
 unfold askI; rw [hwd]
def lateS:List UInt8:=[64,53,32,65,66,32,51,115,32,56,46,50,32,76,49,45,50,32,64,55,32,56,46,53,32,67,32,48,46,49,32,33,32,64,56,32,48,46,55,32,63]
def latL4:List Prt:=[⟨0,3,3,66,false,5,0,0⟩,⟨0,1,1,69,false,7,1,2⟩,⟨1,1,1,1,false,7,1,2⟩,⟨1,1,4,7,false,8,1,2⟩]
def twoB:Brd:=⟨[⟨[65,66],300,310⟩,⟨[67],75,79⟩],10,4⟩
def thrO:List Ord:=[⟨true,0,10,0,4,5⟩,⟨false,0,20,308,5,5⟩,⟨true,1,30,85,4,6⟩]
def threeD:Dsk:=⟨twoB,lateS,1,thrO⟩
def toldT:Tru:=⟨[306,309,81,87],[5,6,6,7],[5,5,6]⟩
def lateM:List (Int × Int):=[(5,5),(5,6),(5,6),(6,7)]
theorem two_valid:checkT twoB = 0:=by kernel_rfl
theorem zAJ:readI twoB lateS = (latL4,0):=by rw [← zFc two_valid]; kernel_rfl
theorem t_prices:(pricesI twoB lateS).2 = 0:=by unfold pricesI; rw [zAJ]; kernel_rfl
theorem zAX:minutesI twoB lateS = (lateM,0):=by unfold minutesI; rw [zAJ]; kernel_rfl
theorem zFf:deskI threeD = 0:=by unfold deskI; rw [show readI threeD.b threeD.tape = (latL4,0) from zAJ]; kernel_rfl
theorem zEZ (os:List Int) (h:(os.all fun n=>withinB n 0 ((threeD.orders.length:Int) - 1)) = true):sureO threeD os = 0:=by
  unfold sureO
  rw [zFf,h,show (pricesI threeD.b threeD.tape).2 = 0 from t_prices,show minutesI threeD.b threeD.tape = (lateM,0) from zAX]; rfl
theorem t_sales0:salesI threeD 0 = ([0,1],0):=by
  unfold salesI
  rw [zEZ [0] (by kernel_rfl),show readI threeD.b threeD.tape = (latL4,0) from zAJ,show minutesI threeD.b threeD.tape = (lateM,0) from zAX]; kernel_rfl
theorem t_bounds:boundsI threeD = ([(307,310),(308,308),(82,82)],0):=by
  unfold boundsI
  rw [zEZ [] (by kernel_rfl),show readI threeD.b threeD.tape = (latL4,0) from zAJ,show minutesI threeD.b threeD.tape = (lateM,0) from zAX]; kernel_rfl
theorem t_verds:verdsI threeD = ([3,3,3],0):=by
  unfold verdsI
  rw [zEZ [] (by kernel_rfl),show readI threeD.b threeD.tape = (latL4,0) from zAJ,show minutesI threeD.b threeD.tape = (lateM,0) from zAX]; kernel_rfl
theorem t_truth:truthW threeD (readI threeD.b threeD.tape).1 toldT = true:=by
  unfold truthW
  rw [zDg,show readI threeD.b threeD.tape = (latL4,0) from zAJ]; kernel_rfl
theorem zHA:playI threeD toldT = ([(1,310),(1,308),(-1,0)],0):=by
  unfold playI
  rw [zFf,t_truth,show readI threeD.b threeD.tape = (latL4,0) from zAJ]; kernel_rfl
theorem t_has:hasI threeD toldT = ([10,0],-3060,0):=by unfold hasI; rw [zHA]; kernel_rfl
theorem t_show {x:Tru × Int} (h:ShowR threeD 0 true x.1 x.2):∃ t,x = (t,0) ∧ (deskI threeD == 0 && truthW threeD (readI threeD.b threeD.tape).1 t) = true:=by
  have hb:(bndI threeD.b (readI threeD.b threeD.tape).1 threeD.fee (threeD.orders.getD (0:Int).toNat ord0) (minutesI threeD.b threeD.tape).1).2 = true:=by
    rw [show readI threeD.b threeD.tape = (latL4,0) from zAJ,show minutesI threeD.b threeD.tape = (lateM,0) from zAX]; kernel_rfl
  obtain ⟨t,e⟩:=x
  have he:e = 0:=by
    change ShowR threeD 0 true t e at h
    cases h with
    | bad h1=>exact (h1 (zEZ [0] (by kernel_rfl))).elim
    | no _ h2=>rw [hb] at h2; cases h2
    | yes=>rfl
  subst he
  obtain ⟨_,hT,_⟩:=show_yes (d:=threeD) (q:=0) (o:=⟨true,0,10,0,4,5⟩) (high:=true) rfl h
  exact ⟨t,rfl,by rw [zFf,(zBO (by rw [show readI threeD.b threeD.tape = (latL4,0) from zAJ])).2 hT]; rfl⟩
theorem yp:NamesOK threeD.b:=fun s hs=>by
  have hs:s ∈ [(⟨[65,66],300,310⟩:Stk),⟨[67],75,79⟩]:=hs
  simp only [List.mem_cons,List.not_mem_nil,or_false] at hs
  rcases hs with rfl | rfl <;> simp
theorem kS :PureAt Tryz.prog 69 [] (dskD threeD):=by
 refine Zp Tryz.func69 rfl fun Γ hn hl=>?_
 refine Zu ?_
 refine Zb 0 hn rfl fun b0=>?_
 refine Zv (Zu ?_)
 refine Zt 4 [] hn rfl ?_
 refine stepW (zS rfl rfl rfl (nb hn rfl) underlying22 sz98 zr98 rfl rfl rfl (show _ = [.d (.str ⟨#[]⟩),.d (.int .i64 0),.d (.int .i64 0),.d (.str ⟨#[]⟩),.d (.int .i64 0),.d (.int .i64 0)] from by kernel_rfl) (by kernel_rfl) rfl rfl rfl rfl rfl) fun _=>?_
 refine Zt 1 [] hn rfl ?_
 refine Zk hn rfl (zC5 twoB (by decide)) ?_
 refine Zk hn rfl (kA _ _) ?_
 refine Zt 1 [] hn rfl ?_
 refine Zk hn rfl (kA _ _) ?_
 refine Zt 1 [] hn rfl ?_
 refine Zk hn rfl (kA _ _) ?_
 refine Zt 1 [] hn rfl ?_
 refine stepW (zS rfl rfl rfl (nb hn rfl) underlying49 sz152 zr152 rfl rfl rfl (show _ = [.d (.bool false),.d (.int .i64 0),.d (.int .i64 0),.d (.int .i64 0),.d (.int .i64 0),.d (.int .i64 0),.d (.bool false),.d (.int .i64 0),.d (.int .i64 0),.d (.int .i64 0),.d (.int .i64 0),.d (.int .i64 0),.d (.bool false),.d (.int .i64 0),.d (.int .i64 0),.d (.int .i64 0),.d (.int .i64 0),.d (.int .i64 0)] from by kernel_rfl) (by kernel_rfl) rfl rfl rfl rfl rfl) fun _=>?_
 refine Zt 2 [0] hn rfl ?_
 refine Zv (zJ ?_)
 exact zY (.inl rfl) hl rfl (.cellA rfl (id:=0) rfl underlying51 rfl sz51 rfl rfl)
theorem zE9 :PureAt Tryz.prog 70 [] (truD toldT):=by
 refine Zp Tryz.func70 rfl fun Γ hn hl=>?_
 refine Zu ?_
 refine Zb 0 hn rfl fun b0=>?_
 refine Zv (Zu ?_)
 refine stepW (zS rfl rfl rfl (nb hn rfl) underlying29 sz3 zr3 rfl rfl rfl (show _ = [.d (.int .i64 0),.d (.int .i64 0),.d (.int .i64 0),.d (.int .i64 0)] from by kernel_rfl) (by kernel_rfl) rfl rfl rfl rfl rfl) fun _=>?_
 refine stepW (zS rfl rfl rfl (nb hn rfl) underlying29 sz3 zr3 rfl rfl rfl (show _ = [.d (.int .i64 0),.d (.int .i64 0),.d (.int .i64 0),.d (.int .i64 0)] from by kernel_rfl) (by kernel_rfl) rfl rfl rfl rfl rfl) fun _=>?_
 refine stepW (zS rfl rfl rfl (nb hn rfl) underlying29 sz3 zr3 rfl rfl rfl (show _ = [.d (.int .i64 0),.d (.int .i64 0),.d (.int .i64 0)] from by kernel_rfl) (by kernel_rfl) rfl rfl rfl rfl rfl) fun _=>?_
 refine Zt 2 [0] hn rfl ?_
 refine Zv (zJ ?_)
 exact zY (.inl rfl) hl rfl (.cellA rfl (id:=0) rfl underlying56 rfl sz56 rfl rfl)
theorem awake4_eff :EffAt Tryz.prog 45 [] [] (X:=Unit) (fun _=>.d (.bool true)) (fun _=>[]):=by
 refine EffAt.of_awp Tryz.func45 rfl (by kernel_rfl) rfl fun Γ hn=>?_
 refine Zu ?_
 refine Zt 1 [] hn rfl ?_
 refine Zv (Zu ?_)
 refine Zk hn rfl (kS) ?_
 refine Zk hn rfl ((by have h:=zDk threeD yp (by decide) (by decide) 0; rw [t_sales0] at h; exact h)) ?_
 refine Zt 5 [] hn rfl ?_
 refine Zv (Zu ?_)
 refine Zk hn rfl (kS) ?_
 refine Zk hn rfl ((by have h:=Bounds4_ok threeD yp (by decide) (by decide); rw [t_bounds] at h; exact h)) ?_
 refine Zt 5 [] hn rfl ?_
 refine Zv (Zu ?_)
 refine Zk hn rfl (kS) ?_
 refine Zk hn rfl ((by have h:=Verdicts4_ok threeD yp (by decide) (by decide); rw [t_verds] at h; exact h)) ?_
 refine Zt 5 [] hn rfl ?_
 refine Zv (Zu ?_)
 refine Zk hn rfl (kS) ?_
 refine Zk hn rfl (zE9) ?_
 refine Zk hn rfl ((by have h:=zEq threeD yp (by decide) (by decide) toldT; rw [zHA] at h; exact h)) ?_
 refine Zt 5 [] hn rfl ?_
 refine Zv (Zu ?_)
 refine Zk hn rfl (kS) ?_
 refine Zk hn rfl (zE9) ?_
 refine Zk hn rfl ((by have h:=Has4_ok threeD yp (by decide) (by decide) toldT; rw [t_has] at h; exact h)) ?_
 refine Zt 7 [] hn rfl ?_
 refine Zv (Zu ?_)
 refine Zk hn rfl (kS) ?_
 refine stepW (s_callE (Show4_eff threeD yp (by decide) (by decide) 0 true) rfl rfl rfl (nb hn rfl) (.d rfl) rfl (.refl _) trivial (fun _=>rfl) (fun _ _=>trivial)) fun ⟨xx,hxx⟩=>?_
 obtain ⟨tt,rfl,hpt⟩:=t_show hxx
 refine Zt 3 [] hn rfl ?_
 refine Zb 12 hn rfl fun b12=>?_
 refine Zt 2 [12] hn rfl ?_
 refine Zv (zB ?_)
 refine zi (W:=fun b=>b ≠ b12) fmo ?_
 refine d1q (i:=0) rfl (by as_aux_lemma=>kernel_rfl) (fun _ _ _ _ h=>h) rfl rfl hn rfl (zr rfl rfl) ?_
 refine d1q (i:=1) rfl (by as_aux_lemma=>kernel_rfl) (fun _ _ _ _ h=>h) rfl rfl hn rfl (yQ (tv':=.d (.bool true)) (zA0 rfl rfl rfl) rfl) ?_
 refine d1q (i:=2) rfl (by as_aux_lemma=>kernel_rfl) (fun _ _ _ _ h=>h) rfl rfl hn rfl (zr rfl rfl) ?_
 refine d1g (i:=3) [] rfl (by as_aux_lemma=>kernel_rfl) (fun _ _ _ _ h=>h) (zN rfl rfl rfl) rfl hn rfl (fun hc=>trivial) (fun hc=>zr rfl rfl) ?_
 refine zH ?_
 refine kF (i:=4) (by as_aux_lemma=>kernel_rfl) rfl (zD3 (zN rfl rfl rfl) rfl (nb hn rfl) (zS rfl rfl rfl (nb hn rfl) underlying29 sz3 zr3 rfl rfl rfl (show _ = [.d (.int .i64 0),.d (.int .i64 0)] from by kernel_rfl) (by kernel_rfl) rfl rfl rfl rfl rfl)) fun _=>?_
 refine d2_of_d1 (zH ?_)
 refine kF (i:=5) (by as_aux_lemma=>kernel_rfl) rfl (s_call [(50,_),(51,_)] (fun hc=>zBm [0,1] [0,1]) rfl (zN rfl rfl rfl) rfl (nb hn rfl) (fun hc=>⟨⟨_,rfl,hc⟩,⟨_,rfl,hc⟩,trivial⟩) rfl rfl (.refl _)) fun _=>?_
 refine d2_of_d1 ?_
 refine d1q (i:=6) rfl (by as_aux_lemma=>kernel_rfl) (fun _ _ _ _ h=>h) rfl rfl hn rfl (yQ (tv':=.d (.bool true)) (y7 rfl rfl rfl (by intro hB; first | (rw [hB]; rfl) | (rw [hB,hc]; rfl) | simp_all)) rfl) ?_
 refine d1q (i:=7) rfl (by as_aux_lemma=>kernel_rfl) (fun _ _ _ _ h=>h) rfl rfl hn rfl (zr rfl rfl) ?_
 refine d1g (i:=8) [] rfl (by as_aux_lemma=>kernel_rfl) (fun _ _ _ _ h=>h) (zN rfl rfl rfl) rfl hn rfl (fun hc=>trivial) (fun hc=>zr rfl rfl) ?_
 refine d1g (i:=9) [(55,_)] rfl (by as_aux_lemma=>kernel_rfl) (fun _ _ _ _ h=>h) (zN rfl rfl rfl) rfl hn rfl (fun hc=>⟨⟨_,rfl,hc⟩,trivial⟩) (fun hc=>yQ (tv':=.d (.bool true)) (zA0 rfl rfl rfl) rfl) ?_
 refine d1q (i:=10) rfl (by as_aux_lemma=>kernel_rfl) (fun _ _ _ _ h=>h) rfl rfl hn rfl (yQ (tv':=.d (.bool true)) (y7 rfl rfl rfl (by intro hB; first | (rw [hB]; rfl) | (rw [hB,hc]; rfl) | simp_all)) rfl) ?_
 refine d1q (i:=11) rfl (by as_aux_lemma=>kernel_rfl) (fun _ _ _ _ h=>h) rfl rfl hn rfl (zr rfl rfl) ?_
 refine d1g (i:=12) [] rfl (by as_aux_lemma=>kernel_rfl) (fun _ _ _ _ h=>h) (zN rfl rfl rfl) rfl hn rfl (fun hc=>trivial) (fun hc=>zr rfl rfl) ?_
 refine d1g (i:=13) [(59,_)] rfl (by as_aux_lemma=>kernel_rfl) (fun _ _ _ _ h=>h) (zN rfl rfl rfl) rfl hn rfl (fun hc=>⟨⟨_,rfl,hc⟩,trivial⟩) (fun hc=>zG0 rfl rfl underlying46) ?_
 refine d1g (i:=14) [(60,_)] rfl (by as_aux_lemma=>kernel_rfl) (fun _ _ _ _ h=>h) (zN rfl rfl rfl) rfl hn rfl (fun hc=>⟨⟨_,rfl,hc⟩,trivial⟩) (fun hc=>yQ (tv':=.d (.bool true)) (zA0 rfl rfl rfl) rfl) ?_
 refine d1q (i:=15) rfl (by as_aux_lemma=>kernel_rfl) (fun _ _ _ _ h=>h) rfl rfl hn rfl (yQ (tv':=.d (.bool true)) (y7 rfl rfl rfl (by intro hB; first | (rw [hB]; rfl) | (rw [hB,hc]; rfl) | simp_all)) rfl) ?_
 refine d1q (i:=16) rfl (by as_aux_lemma=>kernel_rfl) (fun _ _ _ _ h=>h) rfl rfl hn rfl (zr rfl rfl) ?_
 refine d1g (i:=17) [] rfl (by as_aux_lemma=>kernel_rfl) (fun _ _ _ _ h=>h) (zN rfl rfl rfl) rfl hn rfl (fun hc=>trivial) (fun hc=>zr rfl rfl) ?_
 refine d1g (i:=18) [(64,_)] rfl (by as_aux_lemma=>kernel_rfl) (fun _ _ _ _ h=>h) (zN rfl rfl rfl) rfl hn rfl (fun hc=>⟨⟨_,rfl,hc⟩,trivial⟩) (fun hc=>q_index (i:=0) rfl rfl rfl underlying46 sz66 rfl rfl) ?_
 refine d1g (i:=19) [(65,_)] rfl (by as_aux_lemma=>kernel_rfl) (fun _ _ _ _ h=>h) (zN rfl rfl rfl) rfl hn rfl (fun hc=>⟨⟨_,rfl,hc⟩,trivial⟩) (fun hc=>yP rfl rfl underlying66 rfl sz66 rfl rfl seesFA) ?_
 refine zH ?_
 refine kF (i:=20) (by as_aux_lemma=>kernel_rfl) rfl (s_call [] (fun hc=>kA _ _) rfl (zN rfl rfl rfl) rfl (nb hn rfl) (fun hc=>trivial) rfl rfl (.refl _)) fun _=>?_
 refine d2_of_d1 ?_
 refine d1g (i:=21) [(66,_),(67,_)] rfl (by as_aux_lemma=>kernel_rfl) (fun _ _ _ _ h=>h) (zN rfl rfl rfl) rfl hn rfl (fun hc=>⟨⟨_,rfl,hc⟩,⟨_,rfl,hc⟩,trivial⟩) (fun hc=>yQ (tv':=.d (.bool true)) (zD8 rfl rfl rfl) rfl) ?_
 refine d1q (i:=22) rfl (by as_aux_lemma=>kernel_rfl) (fun _ _ _ _ h=>h) rfl rfl hn rfl (yQ (tv':=.d (.bool true)) (y7 rfl rfl rfl (by intro hB; first | (rw [hB]; rfl) | (rw [hB,hc]; rfl) | simp_all)) rfl) ?_
 refine d1q (i:=23) rfl (by as_aux_lemma=>kernel_rfl) (fun _ _ _ _ h=>h) rfl rfl hn rfl (zr rfl rfl) ?_
 refine d1g (i:=24) [] rfl (by as_aux_lemma=>kernel_rfl) (fun _ _ _ _ h=>h) (zN rfl rfl rfl) rfl hn rfl (fun hc=>trivial) (fun hc=>zr rfl rfl) ?_
 refine d1g (i:=25) [(71,_)] rfl (by as_aux_lemma=>kernel_rfl) (fun _ _ _ _ h=>h) (zN rfl rfl rfl) rfl hn rfl (fun hc=>⟨⟨_,rfl,hc⟩,trivial⟩) (fun hc=>q_index (i:=1) rfl rfl rfl underlying46 sz66 rfl rfl) ?_
 refine d1g (i:=26) [(72,_)] rfl (by as_aux_lemma=>kernel_rfl) (fun _ _ _ _ h=>h) (zN rfl rfl rfl) rfl hn rfl (fun hc=>⟨⟨_,rfl,hc⟩,trivial⟩) (fun hc=>yP rfl rfl underlying66 rfl sz66 rfl rfl seesFA) ?_
 refine zH ?_
 refine kF (i:=27) (by as_aux_lemma=>kernel_rfl) rfl (s_call [] (fun hc=>kA _ _) rfl (zN rfl rfl rfl) rfl (nb hn rfl) (fun hc=>trivial) rfl rfl (.refl _)) fun _=>?_
 refine d2_of_d1 ?_
 refine d1g (i:=28) [(73,_),(74,_)] rfl (by as_aux_lemma=>kernel_rfl) (fun _ _ _ _ h=>h) (zN rfl rfl rfl) rfl hn rfl (fun hc=>⟨⟨_,rfl,hc⟩,⟨_,rfl,hc⟩,trivial⟩) (fun hc=>yQ (tv':=.d (.bool true)) (zD8 rfl rfl rfl) rfl) ?_
 refine d1q (i:=29) rfl (by as_aux_lemma=>kernel_rfl) (fun _ _ _ _ h=>h) rfl rfl hn rfl (yQ (tv':=.d (.bool true)) (y7 rfl rfl rfl (by intro hB; first | (rw [hB]; rfl) | (rw [hB,hc]; rfl) | simp_all)) rfl) ?_
 refine d1q (i:=30) rfl (by as_aux_lemma=>kernel_rfl) (fun _ _ _ _ h=>h) rfl rfl hn rfl (zr rfl rfl) ?_
 refine d1g (i:=31) [] rfl (by as_aux_lemma=>kernel_rfl) (fun _ _ _ _ h=>h) (zN rfl rfl rfl) rfl hn rfl (fun hc=>trivial) (fun hc=>zr rfl rfl) ?_
 refine d1g (i:=32) [(78,_)] rfl (by as_aux_lemma=>kernel_rfl) (fun _ _ _ _ h=>h) (zN rfl rfl rfl) rfl hn rfl (fun hc=>⟨⟨_,rfl,hc⟩,trivial⟩) (fun hc=>q_index (i:=2) rfl rfl rfl underlying46 sz66 rfl rfl) ?_
 refine d1g (i:=33) [(79,_)] rfl (by as_aux_lemma=>kernel_rfl) (fun _ _ _ _ h=>h) (zN rfl rfl rfl) rfl hn rfl (fun hc=>⟨⟨_,rfl,hc⟩,trivial⟩) (fun hc=>yP rfl rfl underlying66 rfl sz66 rfl rfl seesFA) ?_
 refine zH ?_
 refine kF (i:=34) (by as_aux_lemma=>kernel_rfl) rfl (s_call [] (fun hc=>kA _ _) rfl (zN rfl rfl rfl) rfl (nb hn rfl) (fun hc=>trivial) rfl rfl (.refl _)) fun _=>?_
 refine d2_of_d1 ?_
 refine d1g (i:=35) [(80,_),(81,_)] rfl (by as_aux_lemma=>kernel_rfl) (fun _ _ _ _ h=>h) (zN rfl rfl rfl) rfl hn rfl (fun hc=>⟨⟨_,rfl,hc⟩,⟨_,rfl,hc⟩,trivial⟩) (fun hc=>yQ (tv':=.d (.bool true)) (zD8 rfl rfl rfl) rfl) ?_
 refine d1q (i:=36) rfl (by as_aux_lemma=>kernel_rfl) (fun _ _ _ _ h=>h) rfl rfl hn rfl (yQ (tv':=.d (.bool true)) (y7 rfl rfl rfl (by intro hB; first | (rw [hB]; rfl) | (rw [hB,hc]; rfl) | simp_all)) rfl) ?_
 refine d1q (i:=37) rfl (by as_aux_lemma=>kernel_rfl) (fun _ _ _ _ h=>h) rfl rfl hn rfl (zr rfl rfl) ?_
 refine d1g (i:=38) [] rfl (by as_aux_lemma=>kernel_rfl) (fun _ _ _ _ h=>h) (zN rfl rfl rfl) rfl hn rfl (fun hc=>trivial) (fun hc=>zr rfl rfl) ?_
 refine d1g (i:=39) [(85,_)] rfl (by as_aux_lemma=>kernel_rfl) (fun _ _ _ _ h=>h) (zN rfl rfl rfl) rfl hn rfl (fun hc=>⟨⟨_,rfl,hc⟩,trivial⟩) (fun hc=>yQ (tv':=.d (.bool true)) (zA0 rfl rfl rfl) rfl) ?_
 refine d1q (i:=40) rfl (by as_aux_lemma=>kernel_rfl) (fun _ _ _ _ h=>h) rfl rfl hn rfl (yQ (tv':=.d (.bool true)) (y7 rfl rfl rfl (by intro hB; first | (rw [hB]; rfl) | (rw [hB,hc]; rfl) | simp_all)) rfl) ?_
 refine d1q (i:=41) rfl (by as_aux_lemma=>kernel_rfl) (fun _ _ _ _ h=>h) rfl rfl hn rfl (zr rfl rfl) ?_
 refine d1g (i:=42) [] rfl (by as_aux_lemma=>kernel_rfl) (fun _ _ _ _ h=>h) (zN rfl rfl rfl) rfl hn rfl (fun hc=>trivial) (fun hc=>zr rfl rfl) ?_
 refine zH ?_
 refine kF (i:=43) (by as_aux_lemma=>kernel_rfl) rfl (zD3 (zN rfl rfl rfl) rfl (nb hn rfl) (zS rfl rfl rfl (nb hn rfl) underlying29 sz3 zr3 rfl rfl rfl (show _ = [.d (.int .i64 0),.d (.int .i64 0),.d (.int .i64 0)] from by kernel_rfl) (by kernel_rfl) rfl rfl rfl rfl rfl)) fun _=>?_
 refine d2_of_d1 (zH ?_)
 refine kF (i:=44) (by as_aux_lemma=>kernel_rfl) rfl (s_call [(89,_),(90,_)] (fun hc=>zBm [3,3,3] [3,3,3]) rfl (zN rfl rfl rfl) rfl (nb hn rfl) (fun hc=>⟨⟨_,rfl,hc⟩,⟨_,rfl,hc⟩,trivial⟩) rfl rfl (.refl _)) fun _=>?_
 refine d2_of_d1 ?_
 refine d1q (i:=45) rfl (by as_aux_lemma=>kernel_rfl) (fun _ _ _ _ h=>h) rfl rfl hn rfl (yQ (tv':=.d (.bool true)) (y7 rfl rfl rfl (by intro hB; first | (rw [hB]; rfl) | (rw [hB,hc]; rfl) | simp_all)) rfl) ?_
 refine d1q (i:=46) rfl (by as_aux_lemma=>kernel_rfl) (fun _ _ _ _ h=>h) rfl rfl hn rfl (zr rfl rfl) ?_
 refine d1g (i:=47) [] rfl (by as_aux_lemma=>kernel_rfl) (fun _ _ _ _ h=>h) (zN rfl rfl rfl) rfl hn rfl (fun hc=>trivial) (fun hc=>zr rfl rfl) ?_
 refine d1g (i:=48) [(94,_)] rfl (by as_aux_lemma=>kernel_rfl) (fun _ _ _ _ h=>h) (zN rfl rfl rfl) rfl hn rfl (fun hc=>⟨⟨_,rfl,hc⟩,trivial⟩) (fun hc=>yQ (tv':=.d (.bool true)) (zA0 rfl rfl rfl) rfl) ?_
 refine d1q (i:=49) rfl (by as_aux_lemma=>kernel_rfl) (fun _ _ _ _ h=>h) rfl rfl hn rfl (yQ (tv':=.d (.bool true)) (y7 rfl rfl rfl (by intro hB; first | (rw [hB]; rfl) | (rw [hB,hc]; rfl) | simp_all)) rfl) ?_
 refine d1q (i:=50) rfl (by as_aux_lemma=>kernel_rfl) (fun _ _ _ _ h=>h) rfl rfl hn rfl (zr rfl rfl) ?_
 refine d1g (i:=51) [] rfl (by as_aux_lemma=>kernel_rfl) (fun _ _ _ _ h=>h) (zN rfl rfl rfl) rfl hn rfl (fun hc=>trivial) (fun hc=>zr rfl rfl) ?_
 refine d1g (i:=52) [(98,_)] rfl (by as_aux_lemma=>kernel_rfl) (fun _ _ _ _ h=>h) (zN rfl rfl rfl) rfl hn rfl (fun hc=>⟨⟨_,rfl,hc⟩,trivial⟩) (fun hc=>zG0 rfl rfl underlying53) ?_
 refine d1g (i:=53) [(99,_)] rfl (by as_aux_lemma=>kernel_rfl) (fun _ _ _ _ h=>h) (zN rfl rfl rfl) rfl hn rfl (fun hc=>⟨⟨_,rfl,hc⟩,trivial⟩) (fun hc=>yQ (tv':=.d (.bool true)) (zA0 rfl rfl rfl) rfl) ?_
 refine d1q (i:=54) rfl (by as_aux_lemma=>kernel_rfl) (fun _ _ _ _ h=>h) rfl rfl hn rfl (yQ (tv':=.d (.bool true)) (y7 rfl rfl rfl (by intro hB; first | (rw [hB]; rfl) | (rw [hB,hc]; rfl) | simp_all)) rfl) ?_
 refine d1q (i:=55) rfl (by as_aux_lemma=>kernel_rfl) (fun _ _ _ _ h=>h) rfl rfl hn rfl (zr rfl rfl) ?_
 refine d1g (i:=56) [] rfl (by as_aux_lemma=>kernel_rfl) (fun _ _ _ _ h=>h) (zN rfl rfl rfl) rfl hn rfl (fun hc=>trivial) (fun hc=>zr rfl rfl) ?_
 refine d1g (i:=57) [(103,_)] rfl (by as_aux_lemma=>kernel_rfl) (fun _ _ _ _ h=>h) (zN rfl rfl rfl) rfl hn rfl (fun hc=>⟨⟨_,rfl,hc⟩,trivial⟩) (fun hc=>q_index (i:=0) rfl rfl rfl underlying53 sz68 rfl rfl) ?_
 refine d1g (i:=58) [(104,_)] rfl (by as_aux_lemma=>kernel_rfl) (fun _ _ _ _ h=>h) (zN rfl rfl rfl) rfl hn rfl (fun hc=>⟨⟨_,rfl,hc⟩,trivial⟩) (fun hc=>yP rfl rfl underlying68 rfl sz68 rfl rfl seesFA) ?_
 refine d1g (i:=59) [] rfl (by as_aux_lemma=>kernel_rfl) (fun _ _ _ _ h=>h) (zN rfl rfl rfl) rfl hn rfl (fun hc=>trivial) (fun hc=>yo rfl bt68 rfl rfl rfl rfl rfl) ?_
 refine d1g (i:=60) [(105,_),(106,_)] rfl (by as_aux_lemma=>kernel_rfl) (fun _ _ _ _ h=>h) (zN rfl rfl rfl) rfl hn rfl (fun hc=>⟨⟨_,rfl,hc⟩,⟨_,rfl,hc⟩,trivial⟩) (fun hc=>yQ (tv':=.d (.bool true)) (zDr rfl rfl rfl) rfl) ?_
 refine d1q (i:=61) rfl (by as_aux_lemma=>kernel_rfl) (fun _ _ _ _ h=>h) rfl rfl hn rfl (yQ (tv':=.d (.bool true)) (y7 rfl rfl rfl (by intro hB; first | (rw [hB]; rfl) | (rw [hB,hc]; rfl) | simp_all)) rfl) ?_
 refine d1q (i:=62) rfl (by as_aux_lemma=>kernel_rfl) (fun _ _ _ _ h=>h) rfl rfl hn rfl (zr rfl rfl) ?_
 refine d1g (i:=63) [] rfl (by as_aux_lemma=>kernel_rfl) (fun _ _ _ _ h=>h) (zN rfl rfl rfl) rfl hn rfl (fun hc=>trivial) (fun hc=>zr rfl rfl) ?_
 refine d1g (i:=64) [(110,_)] rfl (by as_aux_lemma=>kernel_rfl) (fun _ _ _ _ h=>h) (zN rfl rfl rfl) rfl hn rfl (fun hc=>⟨⟨_,rfl,hc⟩,trivial⟩) (fun hc=>q_index (i:=1) rfl rfl rfl underlying53 sz68 rfl rfl) ?_
 refine d1g (i:=65) [(111,_)] rfl (by as_aux_lemma=>kernel_rfl) (fun _ _ _ _ h=>h) (zN rfl rfl rfl) rfl hn rfl (fun hc=>⟨⟨_,rfl,hc⟩,trivial⟩) (fun hc=>yP rfl rfl underlying68 rfl sz68 rfl rfl seesFA) ?_
 refine d1g (i:=66) [] rfl (by as_aux_lemma=>kernel_rfl) (fun _ _ _ _ h=>h) (zN rfl rfl rfl) rfl hn rfl (fun hc=>trivial) (fun hc=>yo rfl bt68 rfl rfl rfl rfl rfl) ?_
 refine d1g (i:=67) [(112,_),(113,_)] rfl (by as_aux_lemma=>kernel_rfl) (fun _ _ _ _ h=>h) (zN rfl rfl rfl) rfl hn rfl (fun hc=>⟨⟨_,rfl,hc⟩,⟨_,rfl,hc⟩,trivial⟩) (fun hc=>yQ (tv':=.d (.bool true)) (zDr rfl rfl rfl) rfl) ?_
 refine d1q (i:=68) rfl (by as_aux_lemma=>kernel_rfl) (fun _ _ _ _ h=>h) rfl rfl hn rfl (yQ (tv':=.d (.bool true)) (y7 rfl rfl rfl (by intro hB; first | (rw [hB]; rfl) | (rw [hB,hc]; rfl) | simp_all)) rfl) ?_
 refine d1q (i:=69) rfl (by as_aux_lemma=>kernel_rfl) (fun _ _ _ _ h=>h) rfl rfl hn rfl (zr rfl rfl) ?_
 refine d1g (i:=70) [] rfl (by as_aux_lemma=>kernel_rfl) (fun _ _ _ _ h=>h) (zN rfl rfl rfl) rfl hn rfl (fun hc=>trivial) (fun hc=>zr rfl rfl) ?_
 refine d1g (i:=71) [(117,_)] rfl (by as_aux_lemma=>kernel_rfl) (fun _ _ _ _ h=>h) (zN rfl rfl rfl) rfl hn rfl (fun hc=>⟨⟨_,rfl,hc⟩,trivial⟩) (fun hc=>q_index (i:=2) rfl rfl rfl underlying53 sz68 rfl rfl) ?_
 refine d1g (i:=72) [(118,_)] rfl (by as_aux_lemma=>kernel_rfl) (fun _ _ _ _ h=>h) (zN rfl rfl rfl) rfl hn rfl (fun hc=>⟨⟨_,rfl,hc⟩,trivial⟩) (fun hc=>yP rfl rfl underlying68 rfl sz68 rfl rfl seesFA) ?_
 refine d1g (i:=73) [] rfl (by as_aux_lemma=>kernel_rfl) (fun _ _ _ _ h=>h) (zN rfl rfl rfl) rfl hn rfl (fun hc=>trivial) (fun hc=>yo rfl bt68 rfl rfl rfl rfl rfl) ?_
 refine d1g (i:=74) [(119,_),(120,_)] rfl (by as_aux_lemma=>kernel_rfl) (fun _ _ _ _ h=>h) (zN rfl rfl rfl) rfl hn rfl (fun hc=>⟨⟨_,rfl,hc⟩,⟨_,rfl,hc⟩,trivial⟩) (fun hc=>yQ (tv':=.d (.bool true)) (zDr rfl rfl rfl) rfl) ?_
 refine d1q (i:=75) rfl (by as_aux_lemma=>kernel_rfl) (fun _ _ _ _ h=>h) rfl rfl hn rfl (yQ (tv':=.d (.bool true)) (y7 rfl rfl rfl (by intro hB; first | (rw [hB]; rfl) | (rw [hB,hc]; rfl) | simp_all)) rfl) ?_
 refine d1q (i:=76) rfl (by as_aux_lemma=>kernel_rfl) (fun _ _ _ _ h=>h) rfl rfl hn rfl (zr rfl rfl) ?_
 refine d1g (i:=77) [] rfl (by as_aux_lemma=>kernel_rfl) (fun _ _ _ _ h=>h) (zN rfl rfl rfl) rfl hn rfl (fun hc=>trivial) (fun hc=>zr rfl rfl) ?_
 refine d1g (i:=78) [(124,_)] rfl (by as_aux_lemma=>kernel_rfl) (fun _ _ _ _ h=>h) (zN rfl rfl rfl) rfl hn rfl (fun hc=>⟨⟨_,rfl,hc⟩,trivial⟩) (fun hc=>yQ (tv':=.d (.bool true)) (zA0 rfl rfl rfl) rfl) ?_
 refine d1q (i:=79) rfl (by as_aux_lemma=>kernel_rfl) (fun _ _ _ _ h=>h) rfl rfl hn rfl (yQ (tv':=.d (.bool true)) (y7 rfl rfl rfl (by intro hB; first | (rw [hB]; rfl) | (rw [hB,hc]; rfl) | simp_all)) rfl) ?_
 refine d1q (i:=80) rfl (by as_aux_lemma=>kernel_rfl) (fun _ _ _ _ h=>h) rfl rfl hn rfl (zr rfl rfl) ?_
 refine d1g (i:=81) [] rfl (by as_aux_lemma=>kernel_rfl) (fun _ _ _ _ h=>h) (zN rfl rfl rfl) rfl hn rfl (fun hc=>trivial) (fun hc=>zr rfl rfl) ?_
 refine zH ?_
 refine kF (i:=82) (by as_aux_lemma=>kernel_rfl) rfl (zD3 (zN rfl rfl rfl) rfl (nb hn rfl) (zS rfl rfl rfl (nb hn rfl) underlying29 sz3 zr3 rfl rfl rfl (show _ = [.d (.int .i64 0),.d (.int .i64 0)] from by kernel_rfl) (by kernel_rfl) rfl rfl rfl rfl rfl)) fun _=>?_
 refine d2_of_d1 (zH ?_)
 refine kF (i:=83) (by as_aux_lemma=>kernel_rfl) rfl (s_call [(128,_),(129,_)] (fun hc=>zBm [10,0] [10,0]) rfl (zN rfl rfl rfl) rfl (nb hn rfl) (fun hc=>⟨⟨_,rfl,hc⟩,⟨_,rfl,hc⟩,trivial⟩) rfl rfl (.refl _)) fun _=>?_
 refine d2_of_d1 ?_
 refine d1q (i:=84) rfl (by as_aux_lemma=>kernel_rfl) (fun _ _ _ _ h=>h) rfl rfl hn rfl (yQ (tv':=.d (.bool true)) (y7 rfl rfl rfl (by intro hB; first | (rw [hB]; rfl) | (rw [hB,hc]; rfl) | simp_all)) rfl) ?_
 refine d1q (i:=85) rfl (by as_aux_lemma=>kernel_rfl) (fun _ _ _ _ h=>h) rfl rfl hn rfl (zr rfl rfl) ?_
 refine d1g (i:=86) [] rfl (by as_aux_lemma=>kernel_rfl) (fun _ _ _ _ h=>h) (zN rfl rfl rfl) rfl hn rfl (fun hc=>trivial) (fun hc=>zr rfl rfl) ?_
 refine d1g (i:=87) [(133,_)] rfl (by as_aux_lemma=>kernel_rfl) (fun _ _ _ _ h=>h) (zN rfl rfl rfl) rfl hn rfl (fun hc=>⟨⟨_,rfl,hc⟩,trivial⟩) (fun hc=>yQ (tv':=.d (.bool true)) (zA0 rfl rfl rfl) rfl) ?_
 refine d1q (i:=88) rfl (by as_aux_lemma=>kernel_rfl) (fun _ _ _ _ h=>h) rfl rfl hn rfl (yQ (tv':=.d (.bool true)) (y7 rfl rfl rfl (by intro hB; first | (rw [hB]; rfl) | (rw [hB,hc]; rfl) | simp_all)) rfl) ?_
 refine d1q (i:=89) rfl (by as_aux_lemma=>kernel_rfl) (fun _ _ _ _ h=>h) rfl rfl hn rfl (zr rfl rfl) ?_
 refine d1g (i:=90) [] rfl (by as_aux_lemma=>kernel_rfl) (fun _ _ _ _ h=>h) (zN rfl rfl rfl) rfl hn rfl (fun hc=>trivial) (fun hc=>zr rfl rfl) ?_
 refine d1g (i:=91) [(137,_)] rfl (by as_aux_lemma=>kernel_rfl) (fun _ _ _ _ h=>h) (zN rfl rfl rfl) rfl hn rfl (fun hc=>⟨⟨_,rfl,hc⟩,trivial⟩) (fun hc=>yQ (tv':=.d (.bool true)) (zA0 rfl rfl rfl) rfl) ?_
 refine d1q (i:=92) rfl (by as_aux_lemma=>kernel_rfl) (fun _ _ _ _ h=>h) rfl rfl hn rfl (yQ (tv':=.d (.bool true)) (y7 rfl rfl rfl (by intro hB; first | (rw [hB]; rfl) | (rw [hB,hc]; rfl) | simp_all)) rfl) ?_
 refine d1q (i:=93) rfl (by as_aux_lemma=>kernel_rfl) (fun _ _ _ _ h=>h) rfl rfl hn rfl (zr rfl rfl) ?_
 refine d1g (i:=95) [] rfl (by as_aux_lemma=>kernel_rfl) (fun _ _ _ _ h=>h) (zN rfl rfl rfl) rfl hn rfl (fun hc=>trivial) (fun hc=>zl rfl rfl (id:=12) rfl underlying56 rfl sz56 rfl rfl (seesA (by simp))) ?_
 refine zH ?_
 refine kF (i:=94) (by as_aux_lemma=>kernel_rfl) rfl (s_call [] (fun hc=>kS) rfl (zN rfl rfl rfl) rfl (nb hn rfl) (fun hc=>trivial) rfl rfl (.refl _)) fun _=>?_
 refine d2_of_d1 (zH ?_)
 refine kF (i:=96) (by as_aux_lemma=>kernel_rfl) rfl (s_call [(141,_),(142,_)] (fun hc=>(by have h:=Prove4_ok threeD yp (by decide) (by decide) tt; rw [hpt] at h; exact h)) rfl (zN rfl rfl rfl) rfl (nb hn rfl) (fun hc=>⟨⟨_,rfl,hc⟩,⟨_,rfl,hc⟩,trivial⟩) rfl rfl (.refl _)) fun _=>?_
 refine d2_of_d1 ?_
 refine d1q (i:=97) rfl (by as_aux_lemma=>kernel_rfl) (fun _ _ _ _ h=>h) rfl rfl hn rfl (yQ (tv':=.d (.bool true)) (y7 rfl rfl rfl (by intro hB; first | (rw [hB]; rfl) | (rw [hB,hc]; rfl) | simp_all)) rfl) ?_
 refine d1q (i:=98) rfl (by as_aux_lemma=>kernel_rfl) (fun _ _ _ _ h=>h) rfl rfl hn rfl (zBo rfl rfl) ?_
 refine zH ?_
 refine zh (by as_aux_lemma=>kernel_rfl) ?_
 refine zA (zJ ?_)
 exact ret_E (.inl rfl) () ((zx rfl (.tmp rfl)).eq (by rfl)) trivial
theorem zB7:PureAt Tryz.prog 45 [] (.bool true):=PureAt.of_eff (ds:=[]) awake4_eff
theorem zGE {b:Brd} {n:Nat} (h:thinT b n = true):b.stocks.length ≤ 7 ∧ n ≤ 200:=by
  unfold thinT at h
  simp only [Bool.and_eq_true,decide_eq_true_eq] at h
  omega
theorem zFn {d:Dsk} (h:deskI d = 0):fltI d = (readI d.b d.tape).1:=by unfold fltI; rw [h]; rfl
theorem flt_no {d:Dsk} (h:deskI d ≠ 0):fltI d = []:=by unfold fltI; rw [show (deskI d != 0) = true by simpa using h]; rfl
def allI (d:Dsk):List (List Int) × Bool:=bif deskI d != 0 then ([],false) else truR d.b (readI d.b d.tape).1
theorem zFl {d:Dsk} (h:deskI d = 0):allI d = truR d.b (readI d.b d.tape).1:=by unfold allI; rw [h]; rfl
theorem all_no {d:Dsk} (h:deskI d ≠ 0):allI d = ([],false):=by unfold allI; rw [show (deskI d != 0) = true by simpa using h]; rfl
def fewB (d:Dsk):Bool:=thin4 d && ((allI d).2 || deskI d != 0)
/-- The error that is due. -/
def sureR (d:Dsk):Int:=bif deskI d != 0 then deskI d else bif !(firstAll d.b (readI d.b d.tape).1 0).isSome || !(timesB (readI d.b d.tape).1) then 11 else 0
def wantR (d:Dsk) (q:Int):Int:=bif deskI d == 0 && !(withinB q 0 ((d.orders.length:Int) - 1)) then 2 else sureR d
theorem sure_pm {d:Dsk} (h:deskI d = 0):(bif (pricesI d.b d.tape).2 != 0 then (pricesI d.b d.tape).2 else (minutesI d.b d.tape).2) = bif !(firstAll d.b (readI d.b d.tape).1 0).isSome || !(timesB (readI d.b d.tape).1) then 11 else 0:=by
  have hr:=(yr h).1
  have hpo:=(yT (b:=d.b) (s:=d.tape)).1
  rw [(prices_law (b:=d.b) (s:=d.tape)).1]
  have e2:(minutesI d.b d.tape).2 = bif timesB (readI d.b d.tape).1 then 0 else 11:=by
    unfold minutesI
    rw [hr,zDm hpo]
    cases timesB (readI d.b d.tape).1 <;> rfl
  rw [e2]
  unfold sureE
  rw [hr]
  cases (firstAll d.b (readI d.b d.tape).1 0).isSome <;> cases timesB (readI d.b d.tape).1 <;> rfl
theorem zGO (d:Dsk) (q:Int):sureO d [q] = wantR d q:=by
  unfold sureO wantR sureR
  by_cases h:deskI d = 0
  · rw [h,sure_pm h]
    cases hw:withinB q 0 ((d.orders.length:Int) - 1)
    · simp [hw]
    · simp [hw]
  · rw [show (deskI d != 0) = true by simpa using h,show (deskI d == 0) = false by simpa using h]; rfl
/-- What is known of a desk that may be asked, with all truths of its prices. -/
structure FewF (d:Dsk) (l:List Prt) (mm:List (Int × Int)) (all:List (List Int)):Prop where
  S:SurH d l mm
  hl:(readI d.b d.tape).1 = l
  hm:(minutesI d.b d.tape).1 = mm
  ha:allI d = (all,true)
  ht:trsN d.b l 300 l.length = some all
  tb:timesB l = true
  mt:mm = timL l l.length
  hall:∀ ps ∈ all,ps.length = l.length ∧ ∀ p ∈ ps,1 ≤ p ∧ p ≤ 799
  al:all.length ≤ 1000
theorem trs_le {b:Brd} {l:List Prt}:∀ (i:Nat) {all:List (List Int)},trsN b l 300 i = some all → all.length ≤ 300
  | 0,all,h=>by cases h; decide
  | i + 1,all,h=>by
    unfold trsN at h
    cases h0:trsN b l 300 i with
    | none=>rw [h0] at h; cases h
    | some al =>
      rw [h0] at h
      dsimp only at h
      cases h1:decide ((300:Int) < ((nxK b l i al al.length).length:Int)) <;> rw [h1] at h
      · cases h
        have:=of_decide_eq_false h1
        omega
      · cases h
theorem few_facts {d:Dsk} {os:List Int} (hf:fewB d = true) (hs:sureO d os = 0):∃ l mm all,FewF d l mm all:=by
  obtain ⟨hS,_,_⟩:=y5 hs
  have h0:=hS.dk
  have h2:(allI d).2 = true:=by
    unfold fewB at hf
    rw [h0] at hf
    simpa using (Bool.and_eq_true_iff.1 hf).2
  rw [zFl h0] at h2
  cases ht:trsN d.b (readI d.b d.tape).1 300 (readI d.b d.tape).1.length with
  | none =>
    exfalso
    unfold truR at h2
    rw [ht] at h2; cases h2
  | some all =>
    refine ⟨_,_,all,hS,rfl,rfl,by rw [zFl h0]; exact zF4 ht,ht,hS.tb,hS.mt,fun ps hp=>?_,by have:=trs_le _ ht; omega⟩
    obtain ⟨h3,h4⟩:=(zGm ht ps).1 hp
    refine ⟨h3,fun p hpp=>?_⟩
    obtain ⟨i,hi⟩:=List.getElem?_of_mem hpp
    have h5:=(h4 i (by rw [← h3]; exact (List.getElem?_eq_some_iff.1 hi).1)).bd
    rw [zQ hi] at h5; exact h5
theorem FewF.ask {d:Dsk} {l:List Prt} {mm:List (Int × Int)} {all:List (List Int)} (h:FewF d l mm all) {j:Nat} {o:Ord} (hod:d.orders[j]? = some o):AskF d.b l d.fee o mm (askI d.fee o l all mm):=ask_law h.S hod h.ht
theorem zEs (d:Dsk) (hN:NamesOK d.b) (h5:d.tape.length ≤ 4294967000) (ho:d.orders.length ≤ 1000):PureAt Tryz.prog 48 [dskD d] (.tup [prtsD (fltI d),lstD (allI d).1,.bool (allI d).2]):=by
 refine Zp Tryz.func48 rfl fun Γ hn hl=>?_
 refine Zu (Zb 1 hn rfl fun b1=>Zt 3 [] hn rfl (Zv (Zu (Zt 1 [1] hn rfl (Zk hn rfl (zBu d hN h5 ho) (Zt 5 [] hn rfl (Zv (zB (Zu (Zt 2 [] hn rfl (Zv (zG rfl (fun hb0=>?_) (fun hb0=>?_)))))))))))))
 have q0:deskI d ≠ 0:=by simpa using hb0
 refine Zu (Zt 3 [] hn rfl (Zv (zJ (zD (kK (zAQ (.inl rfl) hl rfl (.tmp rfl) (.tmp rfl) (.tmp rfl)) ?_)))))
 rw [flt_no q0,all_no q0]; exact .tup (.cons (.nil 8) (.cons (.nil 1) (.refl _)))
 have q0:deskI d = 0:=by simpa using hb0
 have v:=ya (yr q0).1
 have hpo:=(yT (b:=d.b) (s:=d.tape)).1
 have hl8:=(yT (b:=d.b) (s:=d.tape)).2
 rw [zFn q0]
 refine zI (zA (Zu (Zt 3 [1] hn rfl (Zk hn rfl (Truths4_ok d.b (readI d.b d.tape).1 v hpo hl8) (Zt 5 [] hn rfl (Zv (Zu (Zt 6 [] hn rfl (Zv (zJ (kK (zAQ (.inl rfl) hl rfl (.tmp rfl) (.tmp rfl) (.tmp rfl)) ?_)))))))))))
 rw [zFl q0]; exact .refl _
theorem few4_ok (d:Dsk) (hN:NamesOK d.b):PureAt Tryz.prog 44 [dskD d] (.bool (fewB d)):=by
 refine Zp Tryz.func44 rfl fun Γ hn hl=>?_
 refine Zu (Zb 1 hn rfl fun b1=>Zt 1 [] hn rfl (Zv (zB (Zu (Zt 1 [1] hn rfl (Zk hn rfl (Thin4_ok d hN) (Zt 1 [] hn rfl (Zv (zG rfl (fun hb0=>?_) (fun hb0=>?_))))))))))
 have q0:thin4 d = false:=by simpa using hb0
 refine Zu (Zt 1 [] hn rfl (Zv (zJ (zD (za (zY (.inl rfl) hl rfl (.tmp rfl)) ?_)))))
 rw [show fewB d = false from by unfold fewB; rw [q0]; rfl]
 have q0:thin4 d = true:=by simpa using hb0
 have hth:=q0
 unfold thin4 at hth
 simp only [Bool.and_eq_true_iff,decide_eq_true_eq] at hth
 obtain ⟨hb7,hs2⟩:=zGE hth.1
 have ho8:=hth.2
 refine zI (zA (Zu (Zt 1 [1] hn rfl (Zk hn rfl (zEs d hN (by omega) (by omega)) (Zt 7 [] hn rfl (Zv (Zu (Zt 3 [1] hn rfl (Zkg hn rfl (fun hc=>zDP d hN (by omega) (by omega)) (Zt 3 [] hn rfl (Zv (zJ (za (zY (.inl rfl) hl rfl (.tmp rfl)) ?_)))))))))))))
 rw [show fewB d = ((allI d).2 || deskI d != 0) from by unfold fewB; rw [q0]; rfl]
theorem sureR4_ok (d:Dsk) (hN:NamesOK d.b) (h5:d.tape.length ≤ 4294967000) (ho:d.orders.length ≤ 1000):PureAt Tryz.prog 46 [dskD d] (.int .i64 (sureR d)):=by
 refine Zp Tryz.func46 rfl fun Γ hn hl=>?_
 refine Zu (Zb 1 hn rfl fun b1=>Zt 1 [] hn rfl (Zv (Zu (Zt 1 [1] hn rfl (Zk hn rfl (zBu d hN h5 ho) (Zt 5 [] hn rfl (Zv (zB (Zu (Zt 2 [] hn rfl (Zv (zG rfl (fun hb0=>?_) (fun hb0=>?_)))))))))))))
 have q0:deskI d ≠ 0:=by simpa using hb0
 refine Zu (Zt 2 [] hn rfl (Zv (zJ (zD (za (zY (.inl rfl) hl rfl (.tmp rfl)) ?_)))))
 rw [show sureR d = deskI d from by unfold sureR; rw [show (deskI d != 0) = true by simpa using q0]; rfl]
 have q0:deskI d = 0:=by simpa using hb0
 have v:=ya (yr q0).1
 have hpo:=(yT (b:=d.b) (s:=d.tape)).1
 have hl8:=(yT (b:=d.b) (s:=d.tape)).2
 rw [zFn q0]
 refine zI (zA (Zu (Zt 3 [1] hn rfl (stepW (s_callE (First_all_eff d.b (readI d.b d.tape).1 0 0 v hpo hl8 (by decide)) rfl rfl rfl (nb hn rfl) (.d rfl) rfl (.refl _) trivial (fun _=>rfl) (fun _ _=>trivial)) fun _=>?_))))
 refine Zt 5 [] hn rfl (Zv (zB (Zu (Zt 1 [] hn rfl (Zk hn rfl (zEx d.b (readI d.b d.tape).1 hpo hl8) (Zt 5 [] hn rfl (Zv (Zu (Zt 6 [] hn rfl (Zv (zG rfl (fun hb1=>?_) (fun hb1=>?_))))))))))))
 have q1:(!(firstAll d.b (readI d.b d.tape).1 0).isSome || !(timesB (readI d.b d.tape).1)) = true:=hb1
 refine Zu (Zt 1 [] hn rfl (Zv (zJ (zD (za (zY (.inl rfl) hl rfl (.tmp rfl)) ?_)))))
 rw [show sureR d = 11 from by unfold sureR; rw [q0,q1]; rfl]
 have q1:(!(firstAll d.b (readI d.b d.tape).1 0).isSome || !(timesB (readI d.b d.tape).1)) = false:=hb1
 refine zI (zA (Zu (Zt 1 [] hn rfl (Zv (zJ (za (zY (.inl rfl) hl rfl (.tmp rfl)) ?_))))))
 rw [show sureR d = 0 from by unfold sureR; rw [q0,q1]; rfl]
theorem due_add {x:Akd} {i:Nat} {sb:Bool} (h:x.sales.getD i false = sb) (e:sb = true):(dueN x i).map intE ++ [intE (i:Nat)] = (dueN x (i + 1)).map intE:=by
  rw [dueN,h,e]; simp
theorem due_not {x:Akd} {i:Nat} {sb:Bool} (h:x.sales.getD i false = sb) (e:sb = false):(dueN x i).map intE = (dueN x (i + 1)).map intE:=by
  rw [dueN,h,e]; rfl
theorem intsB_refl {l:List Int}:intsB l l = true:=zAU.2 rfl
theorem OddSales_ok (d:Dsk) (q:Int) (hN:NamesOK d.b):PureAt Tryz.prog 5 [dskD d,.int .i64 q] (.bool true):=by
 refine Zp Tryz.func5 rfl fun Γ hn hl=>?_
 refine Zu (Zb 2 hn rfl fun b2=>Zt 1 [] hn rfl (Zv (zB (Zu (Zt 1 [2] hn rfl (Zk hn rfl (few4_ok d hN) (Zt 1 [] hn rfl (Zv (zG rfl (fun hb0=>?_) (fun hb0=>?_))))))))))
 refine Zu (Zk hn rfl (zB7) (Zt 1 [] hn rfl (Zv (zJ (zD ?_)))))
 exact zY (.inl rfl) hl rfl (.tmp rfl)
 have hfw:fewB d = true:=by simpa using hb0
 have hth:=(Bool.and_eq_true_iff.1 hfw).1
 unfold thin4 at hth
 simp only [Bool.and_eq_true_iff,decide_eq_true_eq] at hth
 obtain ⟨hb7,hs2⟩:=zGE hth.1
 have ho8:=hth.2
 refine zI (zA (Zu (Zt 1 [2] hn rfl (Zk hn rfl (Desk4_ok d (by omega) (by omega)) (Zt 1 [] hn rfl (Zk hn rfl (zDk d hN (by omega) (by omega) q) (Zt 5 [] hn rfl (Zv (Zu (Zt 1 [2] hn rfl (Zk hn rfl (sureR4_ok d hN (by omega) (by omega)) (Zt 1 [] hn rfl (Zv (zB (Zu (Zt 1 [2] hn rfl (Zk hn rfl (zDP d hN (by omega) (by omega)) (Zt 6 [2] hn rfl ?_))))))))))))))))))
 refine Zh [(34,_)] (zN rfl rfl rfl) hn (fun hc=>⟨⟨_,rfl,hc⟩,trivial⟩) (fun hc=>zz rfl rfl rfl (r:=(d.orders.length:Int) - 1) (by rw [List.length_map]; exact i64w (by omega) rfl)) ?_
 refine Zkg hn rfl (fun hc=>zAG _ _ _) (Zt 2 [] hn rfl (Zv (zk (e:=.normal) (ι:=Unit) (fun u0=>[(7,true,.d (.int .i64 (wantR d q)))]) (fun u0=>[]) (fun hJ1=>?_) ?_)))
 ·
  refine zG rfl (fun hb1=>?_) (fun hb1=>?_)
  have q1:(deskI d == 0 && !(withinB q 0 ((d.orders.length:Int) - 1))) = true:=hb1
  refine zF (Zt 1 [] hn rfl (zP ?_))
  rotate_left
  have q1:(deskI d == 0 && !(withinB q 0 ((d.orders.length:Int) - 1))) = false:=hb1
  refine zI ?_
  rotate_left
  all_goals
   exact Zj hJ1 () ⟨.inl (congrArg (fun z=>some (true,TV.d (D.int .i64 z))) (by unfold wantR; rw [q1]; rfl)),trivial⟩ trivial
 rintro _
 refine zA (zB (Zu (Zt 2 [] hn rfl (Zv (zG rfl (fun hb2=>?_) (fun hb2=>?_))))))
 have q2:wantR d q ≠ 0:=by simpa using hb2
 have e2:salesI d q = ([],wantR d q):=by unfold salesI; rw [zGO,show (wantR d q != 0) = true by simpa using q2]; rfl
 rw [e2]
 refine Zu (Zt 9 [] hn rfl (Zkg hn rfl (fun hc=>zB7) (Zt 2 [] hn rfl (Zv (zJ (zD (za (zY (.inl rfl) hl rfl (.tmp rfl)) ?_)))))))
 simp
 have q2:wantR d q = 0:=by simpa using hb2
 have q3:sureO d [q] = 0:=(zGO d q).trans q2
 obtain ⟨l,mm,all,hF⟩:=few_facts hfw q3
 have hqb:=(y5 q3).2.1 q (by simp)
 obtain ⟨j,rfl⟩:∃ j:Nat,q = (j:Int):=⟨q.toNat,by omega⟩
 obtain ⟨o,hod⟩:=zT (show j < d.orders.length by omega)
 have hob:=zAa (hF.S.ob o (List.mem_of_getElem? hod))
 have hA:=hF.ask hod
 have hl8:=hF.S.l8
 have e2:salesI d (j:Int) = ((salesO d.b l d.fee o mm),0):=by unfold salesI; rw [q3,hF.hl,hF.hm,Int.toNat_natCast,zQ hod]; rfl
 rw [e2]
 refine zI (zA (Zu (Zt 1 [2] hn rfl (Zk hn rfl ((by have h:=zEs d hN (by omega) (by omega); rw [zFn hF.S.dk,hF.hl,hF.ha] at h; exact h)) ?_))))
 refine Zt 7 [] hn rfl (Zv (Zu (Zt 4 [2] hn rfl (Zk hn rfl ((by have h:=Ask4_ok d l j o hod (by omega) hF.S.po hF.S.l8 hF.tb hF.S.fe all hF.hall hF.al; rw [← hF.mt] at h; exact h)) ?_))))
 refine Zb 11 hn rfl fun b11=>Zt 1 [11] hn rfl (Zv (zB ?_))
 generalize hX:askI d.fee o l all mm = X at hA ⊢
 have hXl:=hA.len
 refine zF (Zt 1 [] hn rfl (Zv (zB (zB (zp (g_nil (t:=12) (id:=12) 3 1 rfl (nb hn rfl)) ?_)))))
 refine zF (Zt 1 [] hn rfl (Zv (zK (awp_loop_on (ι:={x:Nat × Value // x.1 ≤ l.length}) (fun x=>(13,true,.d (.int .i64 (x.1.1:Nat))) :: (12,true,.val x.1.2) :: anys [63,64,65,66,69,70,71,72,73,74,75,76,77,67,68]) (fun x=>[(12,.row x.1.2 3 1 ((dueN X x.1.1).map intE))]) (fun x=>l.length - x.1.1) ⟨(0,_),Nat.zero_le _⟩ ⟨.inl rfl,.inl rfl,zE _⟩ ⟨.inl rfl,trivial⟩ ?_))))
 rintro ⟨⟨i,v1⟩,hi⟩
 dsimp only
 dsimp only at hi
 refine zB (Zu (Zt 4 [] hn rfl (Zv (zG rfl (fun hb3=>?_) (fun hb3=>?_)))))
 have hil:i < l.length:=by simp at hb3; omega
 obtain ⟨sb,hsb⟩:=zT (show i < X.sales.length by omega)
 have hgs:X.sales.getD i false = sb:=zQ hsb
 have hDl:=zFC (x:=X) i
 refine zI (zA (zB (zK (Zu (Zt 3 [11] hn rfl (Zi (i:=i) hn rfl rfl (mget hsb) ?_))))))
 refine Zt 1 [] hn rfl (Zv (zG rfl (fun hb4=>?_) (fun hb4=>?_)))
 have q4:sb = true:=hb4
 refine zF (Zt 2 [] hn rfl (stepW (zS rfl rfl rfl (nb hn rfl) underlying29 sz3 zr3 rfl rfl rfl (show _ = [.d (.int .i64 0)] from by kernel_rfl) (by kernel_rfl) rfl rfl rfl rfl rfl) fun _=>?_))
 refine stepW (s_append (id:=12) rfl rfl rfl (nb hn rfl) elt29 trivial rfl rfl rfl (by simp [chunk]; omega) (by simp [chunk]; omega) (fun b hb=>trivial)) fun v77=>?_
 refine Zt 1 [] hn rfl (zP (zM (zA (zF (Zt 1 [] hn rfl (Zs hn (zZ rfl rfl rfl (r:=((i + 1:Nat):Int)) (i64w (by omega) (by omega))) ?_))))))
 refine Zt 1 [] hn rfl (zP ?_)
 exact Zr ⟨(i + 1,v77),by simp only; omega⟩ ⟨.inl rfl,.inl rfl,zE _⟩ ⟨.inl (congrArg (fun z=>some (Res.row v77 3 1 z)) (due_add hgs q4)),trivial⟩ (by simp only; omega)
 have q4:sb = false:=hb4
 refine zI (zM (zA (zF (Zt 1 [] hn rfl (Zs hn (zZ rfl rfl rfl (r:=((i + 1:Nat):Int)) (i64w (by omega) (by omega))) ?_)))))
 refine Zt 1 [] hn rfl (zP ?_)
 exact Zr ⟨(i + 1,v1),by simp only; omega⟩ ⟨.inl rfl,.inl rfl,zE _⟩ ⟨.inl (congrArg (fun z=>some (Res.row v1 3 1 z)) (due_not hgs q4)),trivial⟩ (by simp only; omega)
 obtain rfl:i = l.length:=by simp at hb3; omega
 have hdl:=due_law hA
 refine zU (zC (zC (zL (zA (Zu (Zt 5 [] hn rfl (yk (zFk (t:=82) (id:=12) rfl rfl) ?_)))))))
 refine Zkg hn rfl (fun hc=>zBm _ _) (Zt 2 [] hn rfl (Zkg hn rfl (fun hc=>zB7) (Zt 2 [] hn rfl (Zv (zJ (za (zY (.inl rfl) hl rfl (.tmp rfl)) ?_))))))
 rw [hdl,intsB_refl]; rfl
end Go.Proofs.YticlpkgpmmhemaaGreatDoor
