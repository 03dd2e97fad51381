/-
  A part of the proof that contangolaw.TopTicked returns true: what the last text needs, and no more. No condition: no statement of the seat is proved here.
-/
import Derived.ChangeKeysEq
import Derived.Test.YticlpkgpmmhemaaGreatDoorTopTickedJ
namespace Go.Proofs.YticlpkgpmmhemaaGreatDoor
open Go.RowKit
set_option linter.all false
set_option maxRecDepth 20000
theorem zAl {F:Nat → Nat → Prop} {w:World}:∀ {l:List Bool} {vs:List Value},RepVals F w (l.map .bool) vs → vs = l.map .bool
  | [],_,h=>h
  | b :: l,_,⟨v,vs',e,h1,h2⟩=>by
    subst e
    cases h1
    rw [zAl h2]
    rfl
theorem zAB {P : Program} {e : TypeId} (d : Nat) (he : P.underlying e = some .bool) (xs ys : List Bool) (w : World) : ∀ is : List Nat, (∀ i ∈ is, i < xs.length ∧ i < ys.length) →
    (Op.eqItems (d + 1) e 1 (xs.map Value.bool).toArray (ys.map Value.bool).toArray is).run P w = .ok (is.all fun i=>xs.getD i false == ys.getD i false) w
  | [],_=>by simp [Op.eqItems]
  | i :: is,h=>by
    obtain ⟨hx,hy⟩:=h i List.mem_cons_self
    have px:(part e (xs.map Value.bool).toArray (i * 1)).run P w = .ok (.bool (xs.getD i false)) w:=by
      simp [part,isAgg,run_underlying he,List.getD,List.getElem?_eq_getElem hx]
    have py:(part e (ys.map Value.bool).toArray (i * 1)).run P w = .ok (.bool (ys.getD i false)) w:=by
      simp [part,isAgg,run_underlying he,List.getD,List.getElem?_eq_getElem hy]
    simp only [Op.eqItems,Sem.run_bind,px,py,Result.andThen_ok,run_equalIn_bool' w d e _ _ he,List.all_cons]
    cases hb:(xs.getD i false == ys.getD i false)
    · simp
    · simp only [Bool.not_true,Bool.false_eq_true,if_false,Bool.true_and]
      exact zAB d he xs ys w is fun j hj=>h j (List.mem_cons_of_mem _ hj)
/-- Whether two levels have the same prices. -/
def lvB (m m':Nat):Bool:=(List.range 800).all fun p=>m.testBit p == m'.testBit p
def bits (m:Nat):List Bool:=(List.range 800).map fun p=>m.testBit p
theorem zAK {m p:Nat} (h:p < 800):(bits m).getD p false = m.testBit p:=by
  simp [bits,List.getD,List.getElem?_map,List.getElem?_range h]
theorem bits_all (m m':Nat):((List.range 800).all fun i=>(bits m).getD i false == (bits m').getD i false) = lvB m m':=by
  unfold lvB
  rw [Bool.eq_iff_iff,List.all_eq_true,List.all_eq_true]
  constructor
  · intro q p hp
    have:=q p hp
    rwa [zAK (List.mem_range.1 hp),zAK (List.mem_range.1 hp)] at this
  · intro q p hp
    rw [zAK (List.mem_range.1 hp),zAK (List.mem_range.1 hp)]
    exact q p hp
theorem lvE_bits (m:Nat):lvE m = (bits m).map .bool:=by simp [lvE,bits,List.map_map,Function.comp_def]
section
variable {Γ:Cx} {P:Program} {σ:St} {o:Oper} {R:Rel}
theorem q_eqlL {x y : Operand} {t t' e : TypeId} {m m' : Nat} (ht : P.underlying t = some (.array 800 e)) (he : P.underlying e = some .bool) (hi : (P.info? e).isSome = true) (hc : P.cellsOf e = 1) (hG : P.eqGuardType P.depth t = false)
    (h:o.op = .binOp .eql t x y t') (hx:σ.ev x = some (true,.d (.agg (lvE m)))) (hy:σ.ev y = some (true,.d (.agg (lvE m')))):QV Γ P σ o R (.d (.bool (lvB m m'))):=fun A w F hs=>by
  obtain ⟨vs,e1,h1,_⟩:=hs.ev hx
  obtain ⟨us,e2,h2,_⟩:=hs.ev hy
  rw [lvE_bits] at h1 h2
  obtain rfl:=zAl h1
  obtain rfl:=zAl h2
  obtain ⟨i,hi⟩:=Option.isSome_iff_exists.1 hi
  refine ⟨.bool (lvB m m'),rfl,fun w' _=>?_⟩
  have hl:∀ m:Nat,(bits m).length = 800:=fun m=>by simp [bits]
  have hrun:(binOp .eql t (.agg ((bits m).map Value.bool).toArray) (.agg ((bits m').map Value.bool).toArray)).run P w' = .ok (.bool (lvB m m')) w':=by
    rw [run_eql_struct,run_equalIn_array w' 9999 _ _ ht hi,hc,zAB 9998 he _ _ w' _ fun i hi=>by rw [hl,hl]; exact ⟨List.mem_range.1 hi,List.mem_range.1 hi⟩,bits_all]
    simp only [Result.andThen_ok]
  simp only [execOp,h,e1,e2,Sem.run_bind,run_eqGuard_agg w' .eql t x y _ _ hG,Result.andThen_ok,hrun,Sem.run_pure]
end
theorem lvB_zero {m:Nat} (h:m &&& full8 = m):lvB m 0 = (m == 0):=by
  rw [Bool.eq_iff_iff,lvB,List.all_eq_true,beq_iff_eq]
  constructor
  · intro q
    refine zET h (by simp) fun p hp=>?_
    simpa using q p (List.mem_range.2 hp)
  · rintro rfl p _
    simp
end Go.Proofs.YticlpkgpmmhemaaGreatDoor
namespace Go.Proofs.YticlpkgpmmhemaaGreatDoor
open Go.Proofs.Tryz
open Go.RowKit
set_option maxRecDepth 20000
set_option linter.all false
set_option exponentiation.threshold 2000
def Can (m:Nat):Prop:=m &&& full8 = m
theorem zDt {m p:Nat} (h:Can m) (hp:800 ≤ p):m.testBit p = false:=by
  rw [← h,Nat.testBit_and,yX]; simp; omega
theorem zEc {m:Nat} (h:∀ p,800 ≤ p → m.testBit p = false):Can m:=by
  apply Nat.eq_of_testBit_eq
  intro p
  rw [Nat.testBit_and,yX]
  by_cases hp:p < 800
  · simp [hp]
  · rw [h p (by omega)]; rfl
theorem can_put {m p:Nat} {b:Bool} (h:Can m) (hp:p < 800):Can (putB m p b):=zEc fun q hq=>by rw [kN,if_neg (by omega)]; exact zDt h hq
theorem zDn {m n:Nat} (h:Can m):Can (m &&& n):=zEc fun q hq=>by rw [Nat.testBit_and,zDt h hq]; rfl
theorem zC5 (f:Nat → Bool):Can (maskOf f 800):=maskOf_full f
theorem zB9 (s:Stk):Can (startN s):=zC5 _
theorem zCd (s:Prt) (i:Nat) (l:List Int) (m:Nat):Can (ownN s i l m):=zC5 _
theorem zDI:Can 0:=by unfold Can; simp
/-- What the sales before allow. -/
def fwdGo (l:List Int) (J k:Nat):Nat → List Prt → Nat → List Nat → Nat × List Nat
  | _,[],now,o=>(now,o)
  | i,s :: r,now,o=>bif s.stock == (k:Int) then fwdGo l J k (i + 1) r (ownN s i l (nearN now J)) (o.set i (ownN s i l (nearN now J))) else fwdGo l J k (i + 1) r now o
/-- What those after allow. -/
def bwdGo (sales:List Prt) (J k:Nat):Nat → Nat → List Nat → List Nat
  | 0,_,o=>o
  | i + 1,now,o=>bif (sales.getD i ⟨-1,0,0,0,false,0,0,0⟩).stock == (k:Int) then bwdGo sales J k i (nearN (o.getD i 0 &&& now) J) (o.set i (o.getD i 0 &&& now)) else bwdGo sales J k i now o
def lvlGo (sales:List Prt) (l:List Int) (J:Nat):Nat → List Stk → List Nat → Option (List Nat)
  | _,[],o=>some o
  | k,s :: r,o=>bif (fwdGo l J k 0 sales (startN s) o).1 == 0 then none else lvlGo sales l J (k + 1) r (bwdGo sales J k sales.length (fwdGo l J k 0 sales (startN s) o).1 (fwdGo l J k 0 sales (startN s) o).2)
def levelsN (b:Brd) (sales:List Prt) (l:List Int) (J:Nat):Option (List Nat):=lvlGo sales l J 0 b.stocks (List.replicate sales.length 0)
@[reducible] def lvsT (ms:List Nat):List TV:=(ms.map lvE).flatten.map .d
@[reducible] def lvsD (r:Option (List Nat)):D:=.slice 800 ((r.getD []).map lvE)
theorem y5 {ms:List Nat}:∀ r ∈ ms.map lvE,r.length = 800:=fun r h=>by
  obtain ⟨m,_,rfl⟩:=List.mem_map.1 h
  exact yI m
theorem zDR {ms:List Nat}:(lvsT ms).length = ms.length * 800:=by rw [List.length_map,zCM y5,List.length_map]
theorem lvs_zero (n:Nat):(List.replicate n (lvT 0)).flatten = lvsT (List.replicate n 0):=by
  rw [lvsT,List.map_replicate,List.map_flatten,List.map_replicate]
theorem lvs_le {ms:List Nat} {i:Nat} (h:i < ms.length):0 + i * 800 + 800 ≤ (lvsT ms).length:=by rw [zDR]; omega
theorem lvs_put {ms:List Nat} {i m:Nat} (h:i < ms.length):(lvsT ms).take (0 + i * 800) ++ (TV.d (.agg (lvE m))).cells ++ (lvsT ms).drop (0 + i * 800 + 800) = lvsT (ms.set i m):=by
  have:=congrArg (List.map TV.d) (zEY (i:=i) (x:=lvE m) y5 (by rw [List.length_map]; exact h))
  rw [List.map_append,List.map_append,List.map_take,List.map_drop] at this
  rw [Nat.zero_add,lvsT,lvsT,List.map_set]
  exact this
theorem lvs_get {ms:List Nat} {i m p:Nat} (h:ms[i]? = some m) (hp:p < 800):(lvsT ms)[0 + i * 800 + p * 1]? = some (.d (.bool (m.testBit p))):=by
  rw [Nat.zero_add,Nat.mul_one,List.getElem?_map,zEX y5 (show (ms.map lvE)[i]? = some (lvE m) by rw [List.getElem?_map,h]; rfl) hp,zA9 hp]
  rfl
theorem lvs_set {ms:List Nat} {i m p:Nat} {b:Bool} (h:ms[i]? = some m) (hp:p < 800):(lvsT ms).set (0 + i * 800 + p * 1) (.d (.bool b)) = lvsT (ms.set i (putB m p b)):=by
  have h1:=fl_set (c:=D.bool b) y5 (show (ms.map lvE)[i]? = some (lvE m) by rw [List.getElem?_map,h]; rfl) hp
  have h2:(lvE m).set p (.bool b) = lvE (putB m p b):=by
    have:=zD7 (m:=m) (b:=b) hp
    rw [lvT,← List.map_set] at this
    exact (List.map_inj_right fun x y h=>by cases h; rfl).1 this
  rw [Nat.zero_add,Nat.mul_one]
  show ((ms.map lvE).flatten.map TV.d).set (i * 800 + p) (TV.d (.bool b)) = ((ms.set i (putB m p b)).map lvE).flatten.map TV.d
  rw [← List.map_set,h1,h2,← List.map_set]
theorem lvs_seg {ms:List Nat} {i m:Nat} (h:ms[i]? = some m):allD (((lvsT ms).drop (0 + i * 800)).take 800) = some (lvE m):=by
  rw [Nat.zero_add,lvsT,← List.map_drop,← List.map_take,zEk y5 (show (ms.map lvE)[i]? = some (lvE m) by rw [List.getElem?_map,h]; rfl)]
  exact zv _
theorem lvT_get1 {m p:Nat} (h:p < 800):(lvT m)[0 + p * 1]? = some (.d (.bool (m.testBit p))):=by rw [Nat.zero_add,Nat.mul_one]; exact zCc h
theorem zDX {k:Nat}:∀ {rows:List (List D)},(∀ r ∈ rows,r.length = k) → chunk k rows.length rows.flatten = rows
  | [],_=>rfl
  | r :: rows,h=>by
    have hr:=h r List.mem_cons_self
    rw [List.length_cons,chunk,List.flatten_cons,List.take_append_of_le_length (by omega),List.take_of_length_le (by omega),List.drop_append_of_le_length (by omega),List.drop_of_length_le (l:=r) (by omega),List.nil_append,zDX fun x hx=>h x (List.mem_cons_of_mem _ hx)]
theorem set_get_same {ms:List Nat} {i m:Nat} (h:ms[i]? = some m):ms.set i m = ms:=by
  obtain ⟨hlt,rfl⟩:=List.getElem?_eq_some_iff.1 h
  exact List.set_getElem_self hlt
theorem zCf {ms:List Nat} {i m:Nat} (h:i < ms.length):(ms.set i m)[i]? = some m:=by rw [List.getElem?_set,if_pos rfl,if_pos h]
theorem lvs_set2 {ms:List Nat} {i m p:Nat} {b:Bool} (h:i < ms.length) (hp:p < 800):(lvsT (ms.set i m)).set (0 + i * 800 + p * 1) (.d (.bool b)) = lvsT (ms.set i (putB m p b)):=by rw [lvs_set (zCf h) hp,List.set_set]
theorem and_end {o now m1:Nat} (h1:Can m1) (h2:Can o) (h:∀ q,q < 800 → m1.testBit q = if q < 800 then o.testBit q && now.testBit q else o.testBit q):m1 = o &&& now :=
  zET h1 (zDn h2) fun q hq=>by rw [h q hq,if_pos hq,Nat.testBit_and]
theorem zS {α:Type} {l:List α} {i:Nat} {x d:α} (h:l[i]? = some x):l.getD i d = x:=by rw [List.getD_eq_getElem?_getD,h]; rfl
theorem zDj {l:List Nat} {i m:Nat} {P:Nat → Prop} (h:∀ x ∈ l,P x) (hm:P m):∀ x ∈ l.set i m,P x:=fun x hx=>by
  rcases List.mem_or_eq_of_mem_set hx with hx | rfl
  · exact h x hx
  · exact hm
/-- What is so of each sale that is read. -/
structure PrtOK (b:Brd) (p:Prt):Prop where
  st:0 ≤ p.stock ∧ p.stock < b.stocks.length
  nm:1 ≤ p.nlo ∧ p.nlo ≤ p.nhi ∧ p.nhi ≤ 99
  fg:0 ≤ p.fig ∧ p.fig ≤ 8000
  mi:0 ≤ p.minute ∧ p.minute ≤ 600
  la:0 ≤ p.llo ∧ p.llo ≤ p.lhi ∧ p.lhi ≤ 60
theorem bt185:BT Tryz.prog 185 (.agg (Array.replicate 800 (.bool false))) (fun i=>some (i * 1,1)):=zDE underlying185 zr185 sz4
theorem g148:Tryz.prog.eqGuardType Tryz.prog.depth 185 = false:=by kernel_rfl
theorem c148:Tryz.prog.cellsOf 4 = 1:=by kernel_rfl
theorem i148:(Tryz.prog.info? 4).isSome = true:=by kernel_rfl
theorem and_step {o now m1 q : Nat} (hq : q < 800) (h : ∀ r, r < 800 → m1.testBit r = if r < q then o.testBit r && now.testBit r else o.testBit r) :
    ∀ r,r < 800 → (putB m1 q (m1.testBit q && now.testBit q)).testBit r = if r < q + 1 then o.testBit r && now.testBit r else o.testBit r:=by
  intro r hr
  rw [kN]
  by_cases e:r = q
  · subst e
    rw [if_pos rfl,if_pos (by omega),h r hr,if_neg (by omega)]
  · rw [if_neg e,h r hr]
    by_cases e2:r < q
    · rw [if_pos e2,if_pos (by omega)]
    · rw [if_neg e2,if_neg (by omega)]
theorem levels_eff (bb:Nat) (b:Brd) (sales:List Prt) (vo:Value) (l:List Int) (hV:VecV vo 1 (intsT l)) (J:Nat) (hJ:b.jump = (J:Nat)) (hJ4:J ≤ 40) (hsl:sales.length ≤ 8) (hbl:b.stocks.length ≤ 1000):EffAt Tryz.prog 80 [.val (.pointer (some ⟨bb,0,none⟩))] (bookRs bb b sales vo l) (X:=Unit) (fun _=>.d (.tup [lvsD (levelsN b sales l J),.bool (levelsN b sales l J).isSome])) (fun _=>bookRs bb b sales vo l):=by
 refine EffAt.of_awp Tryz.func80 rfl (by kernel_rfl) rfl fun Γ hn=>?_
 refine Zu (Zt 2 [] hn rfl (Zv (Zu (Zt 5 [1070] hn rfl (stepW (zA6 (n:=sales.length) 16 rfl rfl rfl (nb hn rfl) underlying181 (show _ = some (some (.agg (Array.replicate 800 (.bool false))),800,800) from by kernel_rfl) zero800a zero800b (by kernel_rfl) (by decide) rfl rfl (by rw [List.length_map]) (by rw [List.length_map]) (by omega) (by omega) (by omega)) fun b16=>?_)))))
 refine Zt 1 [] hn rfl (Zv (zD (Zu (Zt 7 [1070] hn rfl (Zv (zN (awp_loop_on (ι:={x:Nat × List Nat // x.1 ≤ b.stocks.length ∧ x.2.length = sales.length ∧ (∀ m ∈ x.2,Can m) ∧ lvlGo sales l J x.1 (b.stocks.drop x.1) x.2 = levelsN b sales l J}) (fun x=>(23,true,.d (.int .i64 (x.1.1:Nat))) :: anys [24,25,5,26,27,28,6,29,30,31,32,33,34,35,36,37,38,8,7,39,40,41,42,43,44,45,46,47,48,49,50,51,52,53,54,55,56,57,58,59,60,61,62,9,63,64,67,68,69,70,71,72,73,74,75,76,77,78,79,10,80,81,82,83,84,85,86,87,88,89,90,91,92,93,94,95,96,97,98,99,100,101,102,65,66,103]) (fun x=>(16,.box b16 185 (lvsT x.1.2)) :: (1070,.box bb 214 (bookC b sales vo)) :: (1072,vecRes 3 vo 1 (intsT l)) :: gones [6,8]) (fun x=>b.stocks.length - x.1.1) ⟨(0,List.replicate sales.length 0),Nat.zero_le _,by simp,fun m hm=>by rw [(List.mem_replicate.1 hm).2]; exact zDI,rfl⟩ ⟨.inl rfl,zF _⟩ ⟨.inl (congrArg (fun z=>some (Res.box b16 185 z)) (lvs_zero _)),.inl rfl,.inl rfl,zW _⟩ ?_)))))))
 rintro ⟨⟨k,ms⟩,hk,hms,hcan,hgo⟩
 dsimp only
 dsimp only at hk hms hcan hgo
 refine Zu (Zt 1 [] hn rfl (Zv (zD (zG rfl (fun hb0=>?_) (fun hb0=>?_)))))
 have hlt:k < b.stocks.length:=by simp at hb0; omega
 obtain ⟨s,hst⟩:=zV hlt
 refine zJ (zA (zD (zN (Zu (Zt 2 [] hn rfl (Zv (Zu (Zt 2 [] hn rfl ?_))))))))
 refine stepW (s_callE (start_eff bb b sales vo l hV s k hst) rfl rfl rfl (nb hn rfl) (.d rfl) rfl (.refl _) ⟨rfl,rfl,trivial⟩ (fun _=>rfl) (fun _ _=>trivial)) fun _=>?_
 refine stepW (yg 6 rfl rfl rfl (nb hn rfl) zr185 zero800a zero800b) fun b6=>?_
 refine stepW (yN rfl rfl rfl rfl rfl rfl (id:=6) rfl sz185 (by rw [show (TV.cells (.d (.agg (lvE (startN s))))) = lvT (startN s) from rfl,zt]) (by rw [zt]; decide) (kH _ (zt 0)) trivial) fun _=>?_
 refine Zv (zD (Zu (Zt 6 [1070] hn rfl (Zv (zN (awp_loop_on (ι:={x:Nat × Nat × List Nat // x.1 ≤ sales.length ∧ x.2.2.length = sales.length ∧ Can x.2.1 ∧ (∀ m ∈ x.2.2,Can m) ∧ fwdGo l J k x.1 (sales.drop x.1) x.2.1 x.2.2 = fwdGo l J k 0 sales (startN s) ms}) (fun x=>(34,true,.d (.int .i64 (x.1.1:Nat))) :: anys [35,36,37,38,8,7,39,40,41,42,43,44,45,46,47,48,49,50,51,52,53]) (fun x=>(6,.box b6 185 (lvT x.1.2.1)) :: (16,.box b16 185 (lvsT x.1.2.2)) :: (1070,.box bb 214 (bookC b sales vo)) :: (1072,vecRes 3 vo 1 (intsT l)) :: gones [8]) (fun x=>sales.length - x.1.1) ⟨(0,startN s,ms),Nat.zero_le _,hms,zB9 _,hcan,rfl⟩ ⟨.inl rfl,zF _⟩ ⟨.inl rfl,.inl rfl,.inl rfl,.inl rfl,zW _⟩ ?_))))))
 rintro ⟨⟨i,now,ms1⟩,hi,hms1,hc1,hcan1,hfw⟩
 dsimp only
 dsimp only at hi hms1 hc1 hcan1 hfw
 refine Zu (Zt 1 [] hn rfl (Zv (zD (zG rfl (fun hb1=>?_) (fun hb1=>?_)))))
 have hil:i < sales.length:=by simp at hb1; omega
 obtain ⟨p,hsp⟩:=zV hil
 refine zJ (zA (zD (zN (Zu (Zt 1 [] hn rfl (Zi (i:=i) hn rfl rfl (mget hsp) ?_))))))
 refine Zt 1 [] hn rfl (Zb 8 hn rfl fun b8=>Zt 2 [8] hn rfl (Zv (Zu (Zt 4 [8] hn rfl (Zv (zG rfl (fun hb2=>?_) (fun hb2=>?_)))))))
 have q2:(p.stock == (k:Int)) = true:=hb2
 refine Zu (Zt 3 [] hn rfl (Zs hn (zu rfl rfl (id:=6) rfl underlying185 rfl sz185 (ya now) (yI now) sees0) ?_))
 refine stepW (s_callE (zC8 bb b sales vo l hV J hJ hJ4 now) rfl rfl rfl (nb hn rfl) (.d rfl) rfl (.refl _) ⟨rfl,rfl,trivial⟩ (fun _=>rfl) (fun _ _=>trivial)) fun _=>?_
 refine stepW (s_callE (own_eff bb b sales vo l hV p i (nearN now J) hsp) rfl rfl rfl (nb hn rfl) (.d rfl) rfl (.refl _) ⟨rfl,rfl,trivial⟩ (fun _=>rfl) (fun _ _=>trivial)) fun _=>?_
 refine stepW (yN rfl rfl rfl rfl rfl rfl (id:=6) rfl sz185 (zt _) (by rw [zt]; decide) (kH _ (zt _)) trivial) fun _=>?_
 refine Zv (zH (Zt 2 [] hn rfl (Zs hn (zu rfl rfl (id:=6) rfl underlying185 rfl sz185 (ya _) (yI _) sees0) ?_)))
 refine Zs hn (q_indexV (i:=i) rfl rfl rfl underlying181 sz185 rfl (by omega)) ?_
 refine stepW (yN rfl rfl rfl rfl rfl rfl (id:=16) rfl sz185 (zt _) (lvs_le (ms:=ms1) (i:=i) (by omega)) (lvs_put (ms:=ms1) (i:=i) (by omega)) trivial) fun _=>?_
 refine zQ (zM (zA (zH (Zs hn (zh rfl rfl rfl (r:=((i + 1:Nat):Int)) (i64w (by omega) (by omega))) ?_))))
 refine Zt 1 [] hn rfl (zQ ?_)
 exact Zr ⟨(i + 1,ownN p i l (nearN now J),ms1.set i (ownN p i l (nearN now J))),by simp only; omega,by simp only; rw [List.length_set]; exact hms1,zCd _ _ _ _,zDj hcan1 (zCd _ _ _ _),by simp only; rw [← hfw,zf hsp,fwdGo,q2]; rfl⟩ ⟨.inl rfl,zF _⟩ ⟨.inl rfl,.inl rfl,.inl rfl,.inl rfl,zW _⟩ (by simp only; omega)
 have q2:(p.stock == (k:Int)) = false:=hb2
 refine zJ (zM (zA (zH (Zs hn (zh rfl rfl rfl (r:=((i + 1:Nat):Int)) (i64w (by omega) (by omega))) ?_))))
 refine Zt 1 [] hn rfl (zQ ?_)
 exact Zr ⟨(i + 1,now,ms1),by simp only; omega,hms1,hc1,hcan1,by simp only; rw [← hfw,zf hsp,fwdGo,q2]; rfl⟩ ⟨.inl rfl,zF _⟩ ⟨.inl rfl,.inl rfl,.inl rfl,.inl rfl,zW _⟩ (by simp only; omega)
 have hie:i = sales.length:=by simp at hb1; omega
 rw [hie,List.drop_length] at hfw
 have hf1:(fwdGo l J k 0 sales (startN s) ms).1 = now:=by rw [← hfw]; rfl
 have hf2:(fwdGo l J k 0 sales (startN s) ms).2 = ms1:=by rw [← hfw]; rfl
 refine zX (zC (zC (zO (zA (zD (Zu (Zs hn (zu rfl rfl (id:=6) rfl underlying185 rfl sz185 (ya _) (yI _) sees0) ?_)))))))
 refine Zs hn (zDY (ds:=lvE 0) rfl bt185 zero800a zero800b rfl rfl (zv _)) ?_
 refine Zs hn (q_eqlL underlying185 underlying4 i148 c148 g148 rfl rfl rfl) ?_
 refine Zv ?_
 rw [lvB_zero hc1]
 refine zG rfl (fun hb3=>?_) (fun hb3=>?_)
 have hz:(now == 0) = true:=hb3
 have hlv:levelsN b sales l J = none:=by rw [← hgo,zf hst,lvlGo,hf1,hz]; rfl
 rw [hlv]
 refine Zu (Zt 2 [] hn rfl (Zv (zI (zB (zL (zB (zB (zL (zB ?_)))))))))
 exact ret_E (.inl rfl) () ((zr rfl (.tmp rfl) (.tmp rfl)).le (.tup (.cons (.nil 800) (.refl _)))) ⟨rfl,rfl,trivial⟩
 have hz:(now == 0) = false:=hb3
 refine zJ (zA (Zu (Zt 5 [1070] hn rfl (Zs hn (yB rfl rfl rfl (r:=(sales.length:Int) - 1) (by rw [List.length_map]; exact i64w (by omega) rfl)) ?_))))
 refine Zt 1 [] hn rfl (Zv (zN (awp_loop_on (ι:={x:Nat × Nat × List Nat // x.1 ≤ sales.length ∧ x.2.2.length = sales.length ∧ (∀ m ∈ x.2.2,Can m) ∧ bwdGo sales J k x.1 x.2.1 x.2.2 = bwdGo sales J k sales.length now ms1}) (fun x=>(9,true,.d (.int .i64 ((x.1.1:Nat) - 1))) :: anys [63,64,67,68,69,70,71,72,73,74,75,76,77,78,79,10,80,81,82,83,84,85,86,87,88,89,90,91,92,93,94,95,96,97,98,99,100,101,102,65,66]) (fun x=>[(6,.box b6 185 (lvT x.1.2.1)),(16,.box b16 185 (lvsT x.1.2.2)),(1070,.box bb 214 (bookC b sales vo)),(1072,vecRes 3 vo 1 (intsT l))]) (fun x=>x.1.1) ⟨(sales.length,now,ms1),Nat.le_refl _,hms1,hcan1,rfl⟩ ⟨.inl rfl,zF _⟩ ⟨.inl rfl,.inl rfl,.inl rfl,.inl rfl,trivial⟩ ?_)))
 rintro ⟨⟨j1,now2,ms2⟩,hj,hms2,hcan2,hbw⟩
 dsimp only
 dsimp only at hj hms2 hcan2 hbw
 refine zD (Zu (Zt 2 [] hn rfl (Zv (zG rfl (fun hb4=>?_) (fun hb4=>?_)))))
 obtain ⟨j,rfl⟩:∃ j,j1 = j + 1:=⟨j1 - 1,by simp at hb4; omega⟩
 obtain ⟨p,hsj⟩:=zV (show j < sales.length by omega)
 obtain ⟨o,ho⟩:=zV (show j < ms2.length by omega)
 have hco:=hcan2 o (List.mem_of_getElem? ho)
 refine zJ (zA (zD (zN (zD (Zu (Zt 5 [1070] hn rfl (Zs hn (q_index (i:=j) rfl rfl rfl underlying39 sz71 (by omega) (mget hsj)) ?_)))))))
 refine Zt 4 [] hn rfl (Zv (zG rfl (fun hb5=>?_) (fun hb5=>?_)))
 have q5:(p.stock == (k:Int)) = false:=by simpa using hb5
 refine zX (zC (zO (zA (zH (Zt 1 [] hn rfl (Zs hn (yB rfl rfl rfl (r:=((j:Nat):Int) - 1) (by rw [show (((j + 1:Nat):Int) - 1 - 1) = ((j:Nat):Int) - 1 by omega]; exact i64w (by omega) rfl)) ?_))))))
 refine Zt 1 [] hn rfl (zQ ?_)
 exact Zr ⟨(j,now2,ms2),by simp only; omega,hms2,hcan2,by simp only; rw [← hbw,bwdGo,zS hsj,q5]; rfl⟩ ⟨.inl rfl,zF _⟩ ⟨.inl rfl,.inl rfl,.inl rfl,.inl rfl,trivial⟩ (by simp only; omega)
 have q5:(p.stock == (k:Int)) = true:=by simpa using hb5
 refine zJ (zA (zD (Zu (Zt 1 [] hn rfl (Zv (zN (awp_loop_on (ι:={x:Nat × Nat // x.1 ≤ 800 ∧ Can x.2 ∧ ∀ q,q < 800 → x.2.testBit q = if q < x.1 then o.testBit q && now2.testBit q else o.testBit q}) (fun x=>(77,true,.d (.int .i64 (x.1.1:Nat))) :: anys [78,79,10,80,81,82,83,84,85,86,87,88,89,90,91,92,93,94,95,96]) (fun x=>[(16,.box b16 185 (lvsT (ms2.set j x.1.2)))]) (fun x=>800 - x.1.1) ⟨(0,o),by simp,hco,fun q _=>by simp⟩ ⟨.inl rfl,zF _⟩ ⟨.inl (by rw [set_get_same ho]; rfl),trivial⟩ ?_)))))))
 rintro ⟨⟨q,m1⟩,hq,hcm,hm1⟩
 dsimp only
 dsimp only at hq hcm hm1
 refine Zu (Zt 1 [] hn rfl (Zv (zD (zG rfl (fun hb6=>?_) (fun hb6=>?_)))))
 have hql:q < 800:=by simp at hb6; omega
 refine zJ (zA (zD (zN (Zu (Zt 2 [] hn rfl (Zv (zo (W:=fun b=>b ≠ b6) fmo ?_)))))))
 refine Zy [0,1,2,3,4,5] [] hn rfl (Zd 6 rfl hn (q_indexV (i:=j) rfl rfl rfl underlying181 sz185 (by omega) (by omega)) ?_)
 refine Zd 7 rfl hn (q_indexA (i:=q) rfl rfl rfl underlying185 sz4 rfl hql) ?_
 refine Zd 14 rfl hn (q_indexV (i:=j) rfl rfl rfl underlying181 sz185 (by omega) (by omega)) ?_
 refine zE (Zo 8 rfl (Zw hn (zY rfl rfl (id:=16) rfl underlying4 rfl (lvs_get (zCf (by omega)) hql) sees0)) fun _=>?_)
 refine d2_of_d1 (Zy [9,10] [] hn rfl ?_)
 refine Zg 11 [(90,_)] rfl (zK rfl rfl rfl) hn (fun hc=>⟨⟨_,rfl,hc⟩,trivial⟩) (fun hc=>q_indexA (i:=q) rfl rfl rfl underlying185 sz4 rfl hql) ?_
 refine Zg 12 [(91,_)] rfl (zK rfl rfl rfl) hn (fun hc=>⟨⟨_,rfl,hc⟩,trivial⟩) (fun hc=>zY rfl rfl (id:=6) rfl underlying4 rfl (lvT_get1 hql) (seesA (by simp))) ?_
 refine Zy [13] [] hn rfl (Zd 15 rfl hn (q_indexA (i:=q) rfl rfl rfl underlying185 sz4 rfl hql) ?_)
 refine zE (z7 (i:=16) (j:=6) rfl rfl rfl (fun hne16_6=>?_))
 refine Zo 16 rfl (s_store1 rfl rfl rfl rfl rfl rfl (id:=16) rfl sz4 (by rw [zDR,List.length_set]; omega) (lvs_set2 (ms:=ms2) (i:=j) (by omega) hql) (fun e=>hne16_6 _ rfl (congrArg some e.symm))) fun _=>?_
 refine d2_of_d1 (zE (zl (by kernel_rfl) ?_))
 refine zM (zA (zH (Zs hn (zh rfl rfl rfl (r:=((q + 1:Nat):Int)) (i64w (by omega) (by omega))) ?_)))
 refine Zt 1 [] hn rfl (zQ ?_)
 exact Zr ⟨(q + 1,putB m1 q (m1.testBit q && now2.testBit q)),by simp only; omega,can_put hcm hql,and_step hql hm1⟩ ⟨.inl rfl,zF _⟩ ⟨.inl rfl,trivial⟩ (by simp only; omega)
 have hqe:q = 800:=by simp at hb6; omega
 subst hqe
 obtain rfl:=and_end hcm hco hm1
 refine zX (zC (zC (zO (zA (zH (Zt 3 [] hn rfl (Zs hn (q_indexV (i:=j) rfl rfl rfl underlying181 sz185 (by omega) (by omega)) ?_)))))))
 refine Zs hn (zu rfl rfl (id:=16) rfl underlying185 rfl sz185 (lvs_seg (zCf (by omega))) (yI _) sees0) ?_
 refine stepW (s_callE (zC8 bb b sales vo l hV J hJ hJ4 (o &&& now2)) rfl rfl rfl (nb hn rfl) (.d rfl) rfl (.refl _) ⟨rfl,rfl,trivial⟩ (fun _=>rfl) (fun _ _=>trivial)) fun _=>?_
 refine stepW (yN rfl rfl rfl rfl rfl rfl (id:=6) rfl sz185 (zt _) (by rw [zt]; decide) (kH _ (zt _)) trivial) fun _=>?_
 refine zQ (zM (zA (zH (Zt 1 [] hn rfl (Zs hn (yB rfl rfl rfl (r:=((j:Nat):Int) - 1) (by rw [show (((j + 1:Nat):Int) - 1 - 1) = ((j:Nat):Int) - 1 by omega]; exact i64w (by omega) rfl)) ?_)))))
 refine Zt 1 [] hn rfl (zQ ?_)
 exact Zr ⟨(j,nearN (o &&& now2) J,ms2.set j (o &&& now2)),by simp only; omega,by simp only; rw [List.length_set]; exact hms2,zDj hcan2 (zDn hco),by simp only; rw [← hbw,bwdGo,zS hsj,q5,zS ho]; rfl⟩ ⟨.inl rfl,zF _⟩ ⟨.inl rfl,.inl rfl,.inl rfl,.inl rfl,trivial⟩ (by simp only; omega)
 obtain rfl:j1 = 0:=by simp at hb4; omega
 have hb2:bwdGo sales J k sales.length now ms1 = ms2:=hbw.symm
 refine zX (zC (zC (zO (zM (zA (zH (Zs hn (zh rfl rfl rfl (r:=((k + 1:Nat):Int)) (i64w (by omega) (by omega))) ?_)))))))
 refine Zt 1 [] hn rfl (zQ ?_)
 exact Zr ⟨(k + 1,ms2),by simp only; omega,hms2,hcan2,by simp only; rw [← hgo,zf hst,lvlGo,hf1,hf2,hz,cond_false,hb2]⟩ ⟨.inl rfl,zF _⟩ ⟨.inl rfl,.inl rfl,.inl rfl,zW _⟩ (by simp only; omega)
 have hke:k = b.stocks.length:=by simp at hb0; omega
 rw [hke,List.drop_length] at hgo
 have hlv:levelsN b sales l J = some ms:=hgo.symm
 rw [hlv]
 refine zX (zC (zC (zO (zA (Zu (Zt 3 [] hn rfl (Zv (zI (y2 (g_freezeV (t:=2) (sz:=800) (n:=sales.length) (es:=ms.map lvE) 16 rfl rfl (zv _) (by rw [zCM y5,List.length_map,hms]) (by rw [← hms,← List.length_map (f:=lvE)]; exact zDX y5) (Nat.le_refl _) (by simp only [maxLen]; omega)) ?_)))))))))
 exact ret_E (.inl rfl) () (zr rfl (.tmp rfl) (.tmp rfl)) ⟨rfl,rfl,trivial⟩
end Go.Proofs.YticlpkgpmmhemaaGreatDoor
namespace Go.Proofs.YticlpkgpmmhemaaGreatDoor
open Go.RowKit
set_option maxRecDepth 20000
set_option linter.all false
structure Mid (l M B:List (Int × Int)) (z:Int):Prop where
  len:l.length = M.length
  lo:∀ j:Nat,(j:Int) ≤ z → l[j]? = M[j]?
  hi:∀ j:Nat,z < (j:Int) → l[j]? = B[j]?
end Go.Proofs.YticlpkgpmmhemaaGreatDoor
namespace Go.Proofs.YticlpkgpmmhemaaGreatDoor
open Go.RowKit
set_option linter.all false
structure BrdOK (b:Brd):Prop where
  n1:1 ≤ b.stocks.length
  n4:b.stocks.length ≤ 4
  j0:0 ≤ b.jump
  j4:b.jump ≤ 40
  s1:1 ≤ b.small
  s9:b.small ≤ 9
  al:b.stocks.all (stockB b) = true
theorem yK {b:Brd} (h:checkT b = 0):BrdOK b:=by
  unfold checkT at h
  cases h1:limT b <;> rw [h1] at h
  · cases h2:argT b <;> rw [h2] at h
    · simp only [limT,decide_eq_false_iff_not] at h1
      simp only [argT,Bool.or_eq_false_iff,Bool.not_eq_false',beq_eq_false_iff_ne,withinB,Bool.and_eq_true,decide_eq_true_eq] at h2
      obtain ⟨⟨⟨g1,g2⟩,g3⟩,g4⟩:=h2
      exact ⟨by omega,by omega,g2.1,g2.2,g3.1,g3.2,g4⟩
    · cases h
  · cases h
theorem zBo {b:Brd} (v:BrdOK b) {s:Stk} (h:s ∈ b.stocks):1 ≤ s.lo ∧ s.lo ≤ s.hi ∧ s.hi ≤ 799 ∧ namedB s.name = true:=by
  have:=List.all_eq_true.1 v.al s h
  unfold stockB spansB at this
  simp only [Bool.and_eq_true,decide_eq_true_eq] at this
  exact ⟨this.2.1.1,this.2.1.2,this.2.2,this.1.2⟩
structure TokOK (t:Tok):Prop where
  num:t.kind = 2 → 1 ≤ t.fst ∧ t.fst ≤ 99
  sho:t.kind = 3 → 0 ≤ t.fst ∧ t.fst ≤ 8000
  lon:t.kind = 4 → 1 ≤ t.fst ∧ t.fst ≤ 799
  min:t.kind = 5 → 0 ≤ t.fst ∧ t.fst ≤ 600
  lat:t.kind = 6 → 0 ≤ t.fst ∧ t.fst ≤ t.snd ∧ t.snd ≤ 60
theorem kB {c:Bool} {x y:Tok} (hx:c = true → TokOK x) (hy:c = false → TokOK y):TokOK (bif c then x else y):=by
  cases c
  · exact hy rfl
  · exact hx rfl
theorem zBS {c:Bool} {k:Int} {f s:Int} {x:List UInt8} (h:c = true → TokOK ⟨k,f,s,x⟩):TokOK ⟨bif c then k else 0,f,s,x⟩:=by
  cases c
  · exact ⟨fun h=>(by cases h),fun h=>(by cases h),fun h=>(by cases h),fun h=>(by cases h),fun h=>(by cases h)⟩
  · exact h rfl
theorem zCy {k:Int} (h:k < 2 ∨ 6 < k) {f s:Int} {x:List UInt8}:TokOK ⟨k,f,s,x⟩:=⟨fun h=>by simp only at h; omega,fun h=>by simp only at h; omega,fun h=>by simp only at h; omega,fun h=>by simp only at h; omega,fun h=>by simp only at h; omega⟩
theorem priced_bd (s:List UInt8):pricedI s ≤ 8000:=by
  have h1:=zAa (Lib.cut s [46]).1
  have h2:=zAa (Lib.cut s [46]).2.1
  unfold pricedI
  cases h:(!(Lib.cut s [46]).2.2 || decide (digI (Lib.cut s [46]).1 < 0) || !(withinB (digI (Lib.cut s [46]).2.1) 0 7))
  · simp only [cond_false]
    simp only [withinB,Bool.or_eq_false_iff,Bool.not_eq_false',Bool.and_eq_true,decide_eq_true_eq] at h
    omega
  · simp only [cond_true]; omega
theorem zZ {n a b:Int}:withinB n a b = true ↔ a ≤ n ∧ n ≤ b:=by simp [withinB]
theorem readT_ok (s:List UInt8):TokOK (readT s):=by
  unfold readT
  refine kB (fun _=>zCy (.inl (by omega))) fun _=>kB (fun _=>zCy (.inr (by omega))) fun _=>kB (fun _=>zCy (.inr (by omega))) fun _=>kB (fun _=>zCy (.inl (by omega))) fun _ =>
    kB (fun _=>zBS fun h=>?_) fun _=>kB (fun _=>zBS fun h=>?_) fun _=>kB (fun _=>zBS fun h=>?_) fun _=>kB (fun _=>zBS fun h=>?_) fun _=>zBS fun h=>?_
  · exact ⟨fun e=>by simp at e,fun e=>by simp at e,fun _=>zZ.1 h,fun e=>by simp at e,fun e=>by simp at e⟩
  · exact ⟨fun e=>by simp at e,fun e=>by simp at e,fun e=>by simp at e,fun _=>zZ.1 h,fun e=>by simp at e⟩
  · simp only [spansB,Bool.and_eq_true,decide_eq_true_eq] at h
    exact ⟨fun e=>by simp at e,fun e=>by simp at e,fun e=>by simp at e,fun e=>by simp at e,fun _=>⟨h.2.1.1,h.2.1.2,h.2.2⟩⟩
  · exact ⟨fun _=>zZ.1 h,fun e=>by simp at e,fun e=>by simp at e,fun e=>by simp at e,fun e=>by simp at e⟩
  · simp only [Bool.and_eq_true,decide_eq_true_eq] at h
    exact ⟨fun e=>by simp at e,fun _=>⟨h.2,priced_bd s⟩,fun e=>by simp at e,fun e=>by simp at e,fun e=>by simp at e⟩
theorem zDC:∀ (n:Nat) (s:List UInt8),∀ t ∈ toksN n s,TokOK t ∧ KindOK t
  | 0,_,_,h=>by cases h
  | n + 1,s,t,h=>by
    unfold toksN at h
    cases hs:s == [] <;> rw [hs] at h
    · simp only [cond_false] at h
      rcases List.mem_cons.1 h with rfl | h
      · exact ⟨readT_ok _,kU _⟩
      · cases hc:((Lib.cut s [32]).2.2 && ((Lib.cut s [32]).2.1 == [])) <;> rw [hc] at h
        · exact zDC n _ t h
        · simp only [cond_true,List.mem_singleton] at h
          subst h; exact ⟨zCy (.inl (by omega)),0,rfl,by omega⟩
    · cases h
structure WrkOK (b:Brd) (w:Wrk):Prop where
  st:-1 ≤ w.stock ∧ w.stock < b.stocks.length
  nm:0 ≤ w.number ∧ w.number ≤ 99
  mi:0 ≤ w.minute ∧ w.minute ≤ 600
  la:0 ≤ w.llo ∧ w.llo ≤ w.lhi ∧ w.lhi ≤ 60
  out:∀ p ∈ w.out,PrtOK b p
  len:w.out.length ≤ 8
theorem idx_bd {α:Type} {p:α → Bool} {l:List α}:-1 ≤ idxOf p l ∧ idxOf p l < l.length:=by
  unfold idxOf
  split
  · rename_i i h
    rw [List.findIdx?_eq_some_iff_getElem] at h
    obtain ⟨h,_⟩:=h
    omega
  · omega
theorem wrk0_ok {b:Brd} (v:BrdOK b):WrkOK b wrk0:=⟨by have:=v.n1; simp only [wrk0]; omega,by simp only [wrk0]; omega,by simp only [wrk0]; omega,by simp only [wrk0]; omega,fun _ h=>(by cases h),by decide⟩
theorem actW_ok {b:Brd} (v:BrdOK b) {w:Wrk} {t:Tok} (h:WrkOK b w) (ht:TokOK t) (hk:KindOK t) (he:(actE b w t != 0) = false):WrkOK b (actW b w t):=by
  obtain ⟨k,hk1,hk8⟩:=hk
  have sale:(t.kind = 3 ∨ t.kind = 4) → actE b w t = saleE w → WrkOK b (saleW w b t):=fun hkk e=>by
    rw [e] at he
    unfold saleW
    unfold saleE at he
    cases h1:decide (w.stock < 0) <;> rw [h1] at he
    · cases h2:((w.out.length:Int) == 8) <;> rw [h2] at he
      · simp only [cond_false]
        have h1':=of_decide_eq_false h1
        have h2':w.out.length ≠ 8:=fun e=>by rw [e] at h2; cases h2
        have hs1:=v.s1
        have hs9:=v.s9
        have hst:=h.st
        have hnm:=h.nm
        have hln:=h.len
        refine ⟨h.st,⟨by simp,by simp⟩,h.mi,h.la,fun p hp=>?_,by simp; omega⟩
        rcases List.mem_append.1 hp with hp | hp
        · exact h.out p hp
        · simp only [List.mem_singleton] at hp
          subst hp
          refine ⟨⟨by simp only [saleP]; omega,by simp only [saleP]; omega⟩,?_,?_,h.mi,h.la⟩
          · simp only [saleP,saleN]
            cases h3:decide (0 < w.number)
            · cases w.rush <;> simp <;> omega
            · have:=of_decide_eq_true h3; simp; omega
          · simp only [saleP]
            rcases hkk with h4 | h4
            · exact ht.sho h4
            · have:=ht.lon h4; omega
      · cases he
    · cases he
  have hcast:t.kind.toNat = k:=by rw [hk1]; rfl
  unfold actW
  rw [hcast]
  match k,hk8 with
  | 0,_=>exact h
  | 1,_ =>
    show WrkOK b (namedW w b t)
    unfold namedW
    have:=idx_bd (p:=fun s:Stk=>s.name == t.text) (l:=b.stocks)
    cases hn:decide (nameI b t < 0)
    · exact ⟨this,h.nm,h.mi,h.la,h.out,h.len⟩
    · exact h
  | 2,_ =>
    have:=ht.num (by rw [hk1]; rfl)
    exact ⟨h.st,⟨by simp only [numW]; omega,this.2⟩,h.mi,h.la,h.out,h.len⟩
  | 3,_=>exact sale (.inl (by rw [hk1]; rfl)) (by unfold actE; rw [hcast]; rfl)
  | 4,_=>exact sale (.inr (by rw [hk1]; rfl)) (by unfold actE; rw [hcast]; rfl)
  | 5,_=>exact ⟨h.st,h.nm,ht.min (by rw [hk1]; rfl),h.la,h.out,h.len⟩
  | 6,_=>exact ⟨h.st,h.nm,h.mi,ht.lat (by rw [hk1]; rfl),h.out,h.len⟩
  | 7,_=>exact ⟨h.st,h.nm,h.mi,h.la,h.out,h.len⟩
  | 8,_=>exact ⟨h.st,h.nm,h.mi,h.la,h.out,h.len⟩
theorem zEp {b:Brd} (v:BrdOK b):∀ {l:List Tok} {w:Wrk},(∀ t ∈ l,TokOK t ∧ KindOK t) → WrkOK b w → WrkOK b (actsGo b l w).2
  | [],_,_,h=>h
  | t :: l,w,ht,h=>by
    unfold actsGo
    cases he:(actE b w t != 0)
    · exact zEp v (fun x hx=>ht x (List.mem_cons_of_mem _ hx)) (actW_ok v h (ht t List.mem_cons_self).1 (ht t List.mem_cons_self).2 he)
    · exact h
theorem kq {b:Brd} {s:List UInt8}:(∀ p ∈ (readI b s).1,PrtOK b p) ∧ (readI b s).1.length ≤ 8:=by
  have no:∀ e:Int,(∀ p ∈ (([],e):List Prt × Int).1,PrtOK b p) ∧ (([],e):List Prt × Int).1.length ≤ 8:=fun e=>⟨fun _ h=>(by cases h),by simp⟩
  unfold readI
  cases hc:(checkT b != 0)
  · have v:BrdOK b:=yK (by simpa using hc)
    have h:=zEp v (fun t ht=>zDC _ _ t ht) (wrk0_ok v) (l:=toksOf s)
    simp only [cond_false]
    cases decide (160 < (s.length:Int))
    · cases ((actsGo b (toksOf s) wrk0).1 != 0)
      · cases decide (0 < (actsGo b (toksOf s) wrk0).2.number)
        · exact ⟨h.out,h.len⟩
        · exact no _
      · exact no _
    · exact no _
  · exact no _
theorem zBj {b:Brd} {s:List UInt8} (h:(readI b s).2 = 0):BrdOK b:=by
  unfold readI at h
  cases hc:(checkT b != 0) <;> rw [hc] at h
  · exact yK (by simpa using hc)
  · exact yK h
end Go.Proofs.YticlpkgpmmhemaaGreatDoor
namespace Go.Proofs.YticlpkgpmmhemaaGreatDoor
open Go.RowKit
set_option maxRecDepth 20000
set_option linter.all false
theorem gh_gone {Γ:Cx} {σ:St} (id:Nat):Ghost Γ σ (σ.rput id .gone):=fun a w F hs=>⟨F,hs.rput (i:=id) (r:=.gone) trivial fun _ h=>h.elim,fun _ _ h=>h⟩
theorem zCj (b:Brd) (s:List UInt8) (hN:NamesOK b) (h5:s.length ≤ 4294967000):PureAt Tryz.prog 20 [brdD b,strD s] (.tup [prtsD (readI b s).1,.int .i64 (readI b s).2]):=PureAt.of_eff (ds:=[brdD b,strD s]) (Read_eff b s hN h5)
def levelsI (b:Brd) (sales:List Prt) (l:List Int):Option (List Nat):=levelsN b sales l b.jump.toNat
theorem levels_v (bb : Nat) (b : Brd) (sales : List Prt) (vo : Value) (l : List Int) (hV : VecV vo 1 (intsT l)) (v : BrdOK b) (hsl : sales.length ≤ 8) :
    EffAt Tryz.prog 80 [.val (.pointer (some ⟨bb,0,none⟩))] (bookRs bb b sales vo l) (X:=Unit) (fun _=>.d (.tup [lvsD (levelsI b sales l),.bool (levelsI b sales l).isSome])) (fun _=>bookRs bb b sales vo l) :=
  levels_eff bb b sales vo l hV b.jump.toNat (by have:=v.j0; omega) (by have:=v.j4; omega) hsl (by have:=v.n4; omega)
theorem zEG (b:Brd) (s:List UInt8) (hN:NamesOK b) (h5:s.length ≤ 4294967000) (h0:(readI b s).2 = 0):EffAt Tryz.prog 79 [.d (brdD b),.d (strD s)] [] (X:=Nat) (fun bb=>.tup [.val (.pointer (some ⟨bb,0,none⟩)),.d (.int .i64 0)]) (fun bb=>bookRs bb b (readI b s).1 (.slice none 0 0) []):=by
 refine EffAt.of_awp Tryz.func79 rfl (by kernel_rfl) rfl fun Γ hn=>?_
 refine Zu (Zb 2 hn rfl fun b2=>Zt 2 [] hn rfl (Zv (Zu (Zt 2 [2] hn rfl (Zk hn rfl (zCj b s hN h5) (Zt 5 [] hn rfl (Zv (zD (Zu (Zt 2 [] hn rfl (Zv (zG rfl (fun hb0=>?_) (fun hb0=>?_)))))))))))))
 rw [h0] at hb0; exact absurd hb0 (by decide)
 refine zJ (zA (Zu (Zt 3 [2] hn rfl (Zb 1070 hn rfl fun b20=>Zt 2 [] hn rfl (Zv (zI (y2 (gh_nilcell (id:=1070) (k:=4) 1079 3 1 rfl rfl) ?_)))))))
 refine y2 (gh_gone 1072) ?_
 exact ret_E (.inl rfl) b20 (hands_2 rfl (.tmp rfl) (.tmp rfl)) ⟨rfl,rfl,trivial⟩
theorem zD4 (b:Brd) (s:List UInt8) (hN:NamesOK b) (h5:s.length ≤ 4294967000) (h0:(readI b s).2 ≠ 0):EffAt Tryz.prog 79 [.d (brdD b),.d (strD s)] [] (X:=Unit) (fun _=>.d (.tup [.nilp,.int .i64 (readI b s).2])) (fun _=>[]):=by
 refine EffAt.of_awp Tryz.func79 rfl (by kernel_rfl) rfl fun Γ hn=>?_
 refine Zu (Zb 2 hn rfl fun b2=>Zt 2 [] hn rfl (Zv (Zu (Zt 2 [2] hn rfl (Zk hn rfl (zCj b s hN h5) (Zt 5 [] hn rfl (Zv (zD (Zu (Zt 2 [] hn rfl (Zv (zG rfl (fun hb0=>?_) (fun hb0=>?_)))))))))))))
 refine Zu (Zt 3 [] hn rfl (Zv (zI (zB ?_))))
 exact ret_E (.inl rfl) () (zr rfl (.tmp rfl) (.tmp rfl)) trivial
 exact absurd hb0 (by simp [h0])
end Go.Proofs.YticlpkgpmmhemaaGreatDoor
namespace Go.Proofs.YticlpkgpmmhemaaGreatDoor
open Go.Proofs.Tryz
open Go.RowKit
set_option maxRecDepth 20000
set_option linter.all false
theorem wf_i64 {n:Int} (h:-9223372036854775808 ≤ n ∧ n ≤ 9223372036854775807):(Lit.int .i64 n).wf = true:=by
  have e1:IntKind.i64.min = -9223372036854775808:=by decide
  have e2:IntKind.i64.max = 9223372036854775807:=by decide
  simp only [Lit.wf,e1,e2,Bool.and_eq_true,decide_eq_true_eq]
  exact h
theorem zB0 {k:IntKind} {n:Int}:fillTV (fun i=>some (i * 1,1)) [.d (.int .i64 0)] [(0,.d (.int k n))] = some [.d (.int k n)]:=rfl
theorem elt29:ElT Tryz.prog 29 3 1 8:=kP underlying29 (z:=(.int .i64 0)) (by kernel_rfl) rfl (by decide)
theorem q_sliceVh {Γ : Cx} {P : Program} {σ : St} {o : Oper} {R : Rel} {x y : Operand} {t e : TypeId} {sz b n cap j : Nat} {k : IntKind} {m : Int} (h : o.op = .slice t x none (some y) none) (hx : σ.ev x = some (true, .val (.slice (some ⟨b, 0, none⟩) n cap))) (hy : σ.ev y = some (true, .d (.int k m)))
    (ht:P.underlying t = some (.slice e)) (hz:Sz P e sz) (hm:m = (j:Int)) (hj:j ≤ n) (hc:n ≤ cap):QV Γ P σ o R (.val (.slice (some ⟨b,0,none⟩) j cap)):=fun a w F hs=>by
  have e1:=hs.ev hx
  have h2:=hs.ev hy
  simp only [TRep,Rep] at e1 h2
  subst hm
  have hjc:j ≤ cap:=Nat.le_trans hj hc
  refine ⟨_,rfl,fun w' _=>?_⟩
  simp [execOp,h,e1,h2,Instr.slice,Instr.sliceAt,run_underlying ht,Instr.sureAddr,Instr.sliceBounds,Instr.sliceBound,asIntOf,kE hz,hj,hjc,yZ]
theorem zBW {F:Nat → Nat → Prop} {w:World}:∀ {cs:List TV} {c:TV} {r:List TV} {vs:List Value},TReps F w (cs ++ c :: r) vs → TReps F w (cs ++ .any :: r) vs
  | [],_,_,_,⟨v,vs',e,_,h2⟩=>⟨v,vs',e,trivial,h2⟩
  | _ :: cs,_,_,_,⟨v,vs',e,h1,h2⟩=>⟨v,vs',e,h1,zBW (cs:=cs) h2⟩
theorem gh_pop {Γ:Cx} {σ:St} {id b n cap:Nat} {l:List Int} {i:Int} (hr:σ.rget id = some (vecRes 3 (.slice (some ⟨b,0,none⟩) (n + 1) cap) 1 (intsT (l ++ [i])))) (hn:n + 1 ≤ cap):Ghost Γ σ (σ.rput id (vecRes 3 (.slice (some ⟨b,0,none⟩) n cap) 1 (intsT l))):=fun a w F hs=>by
  refine ⟨F,?_,fun _ _ h=>h⟩
  have h1:σ.rget id = some (.box b 3 (intsT l ++ .d (.int .i64 i) :: List.replicate (cap - (n + 1)) .any)):=by
    rw [hr]
    simp [vecRes,intsT,List.map_append]
  have h2:=hs.reread (cs':=intsT l ++ .any :: List.replicate (cap - (n + 1)) .any) h1 fun vs hv=>zBW hv
  have e:vecRes 3 (.slice (some ⟨b,0,none⟩) n cap) 1 (intsT l) = .box b 3 (intsT l ++ .any :: List.replicate (cap - (n + 1)) .any):=by
    show Res.box b 3 (intsT l ++ List.replicate ((cap - n) * 1) .any) = _
    rw [show (cap - n) * 1 = (cap - (n + 1)) + 1 by omega,List.replicate_succ]
  rw [e]
  exact h2
theorem vec_blk {v:Value} {l:List Int} {b:Nat} (hV:VecV v 1 (intsT l)) (h:v.ownBlock = some b):(vecRes 3 v 1 (intsT l)).blk = some b:=by
  rcases hV with ⟨rfl,_⟩ | ⟨b',n,cap,rfl,_⟩
  · exact h
  · exact h
/-- The first list of many more, from a number on, without which there is a truth. -/
def misS (b:Brd) (sales:List Prt):Nat → List Int → Nat → Option (List Int)
  | 0,l,_=>bif (levelsI b sales l).isSome then some l else none
  | k + 1,l,f=>(List.range' f (sales.length - k - f)).findSome? fun (i:Nat)=>misS b sales k (l ++ [(i:Int)]) (i + 1)
def misN (b:Brd) (sales:List Prt) (k:Nat) (l:List Int) (i:Nat):Option (List Int):=(List.range' i (sales.length - k - i)).findSome? fun (i:Nat)=>misS b sales k (l ++ [(i:Int)]) (i + 1)
theorem zB6 {b:Brd} {sales:List Prt} {k:Nat} {l:List Int} {i:Nat} (h:i < sales.length - k):misN b sales k l i = (misS b sales k (l ++ [(i:Int)]) (i + 1)).or (misN b sales k l (i + 1)):=by
  unfold misN
  rw [show sales.length - k - i = (sales.length - k - (i + 1)) + 1 by omega,List.range'_succ,List.findSome?_cons]
  cases misS b sales k (l ++ [(i:Int)]) (i + 1) <;> rfl
theorem misN_end {b:Brd} {sales:List Prt} {k:Nat} {l:List Int} {i:Nat} (h:sales.length - k ≤ i):misN b sales k l i = none:=by
  unfold misN
  rw [show sales.length - k - i = 0 by omega]
  rfl
@[reducible] def misCa (b6 b8:Nat):List TV:=[.val (.pointer (some ⟨b6,0,none⟩)),.val (.pointer (some ⟨b8,0,none⟩))]
@[reducible] def misRs (b6 b8 bb:Nat) (b:Brd) (sales:List Prt) (vo:Value) (l:List Int):List (Nat × Res):=[(1076,.box b6 178 [.val (.pointer (some ⟨bb,0,none⟩))]),(1078,.box b8 233 [.fn (.func 102) [] (misCa b6 b8)]),(1070,.box bb 214 (bookC b sales vo)),(1072,vecRes 3 vo 1 (intsT l))]
def MisX (b:Brd) (sales:List Prt) (k:Nat) (l:List Int) (f:Nat):Type:={x:Value × List Int // VecV x.1 1 (intsT x.2) ∧ x.2 = (misS b sales k l f).getD l}
def MisOK (b6 b8 bb:Nat) (b:Brd) (sales:List Prt) (k:Nat):Prop:=∀ (vo:Value) (l:List Int) (f:Nat),VecV vo 1 (intsT l) → f ≤ 100 → l.length + k ≤ 100 →
  EffAt Tryz.prog 102 (.d (.int .i64 (f:Nat)) :: .d (.int .i64 (k:Nat)) :: misCa b6 b8) (misRs b6 b8 bb b sales vo l) (X:=MisX b sales k l f) (fun _=>.d (.bool (misS b sales k l f).isSome)) (fun x=>misRs b6 b8 bb b sales x.1.1 x.1.2)
theorem vec_one {v:Value} {cs:List TV} (hV:VecV v 1 cs):(TV.val v).one = true:=by
  rcases hV with ⟨rfl,_⟩ | ⟨b,n,cap,rfl,_⟩ <;> rfl
theorem vec_cons {v:Value} {l:List Int} {i:Int} (hV:VecV v 1 (intsT (l ++ [i]))):∃ b cap,v = .slice (some ⟨b,0,none⟩) (l.length + 1) cap ∧ l.length + 1 ≤ cap ∧ cap ≤ maxLen:=by
  rcases hV with ⟨_,h⟩ | ⟨b,n,cap,rfl,h1,h2,h3⟩
  · simp at h
  · have:n = l.length + 1:=by simp at h3; omega
    subst this
    exact ⟨b,cap,rfl,h1,h2⟩
theorem vec_back {b cap:Nat} {l:List Int} (h:l.length + 1 ≤ cap) (hm:cap ≤ maxLen):VecV (.slice (some ⟨b,0,none⟩) l.length cap) 1 (intsT l):=.inr ⟨b,l.length,cap,rfl,by omega,hm,by simp⟩
theorem zBv {l:List Int} {i:Int}:intsT l ++ ([[D.int .i64 i]].flatten.map TV.d) = intsT (l ++ [i]):=by simp
theorem sz178:Sz Tryz.prog 178 1:=(by kernel_rfl:(Tryz.prog.info? 178).map (·.size) = some 1)
theorem sz233:Sz Tryz.prog 233 1:=(by kernel_rfl:(Tryz.prog.info? 233).map (·.size) = some 1)
theorem zDS (b6 b8 bb:Nat) (b:Brd) (sales:List Prt) (v:BrdOK b) (hsl:sales.length ≤ 8) (k:Nat) (ih:∀ k1,k = k1 + 1 → MisOK b6 b8 bb b sales k1) (vo:Value) (l:List Int) (f:Nat) (hV:VecV vo 1 (intsT l)) (hf:f ≤ 100) (hk:l.length + k ≤ 100):EffAt Tryz.prog 102 (.d (.int .i64 (f:Nat)) :: .d (.int .i64 (k:Nat)) :: misCa b6 b8) (misRs b6 b8 bb b sales vo l) (X:=MisX b sales k l f) (fun _=>.d (.bool (misS b sales k l f).isSome)) (fun x=>misRs b6 b8 bb b sales x.1.1 x.1.2):=by
 refine EffAt.of_awp Tryz.func102 rfl (by kernel_rfl) rfl fun Γ hn=>?_
 refine Zu (Zt 1 [] hn rfl (Zv (zD (Zu (Zt 2 [] hn rfl (Zv (zG rfl (fun hb0=>?_) (fun hb0=>?_))))))))
 obtain rfl:k = 0:=by simp at hb0; omega
 have hS:misS b sales 0 l f = bif (levelsI b sales l).isSome then some l else none:=rfl
 refine Zu (Zt 1 [1076] hn rfl ?_)
 refine stepW (s_callE (levels_v bb b sales vo l hV v hsl) rfl rfl rfl (nb hn rfl) (.d rfl) rfl (.refl _) ⟨rfl,rfl,trivial⟩ (fun _=>rfl) (fun _ _=>trivial)) fun _=>?_
 refine Zt 5 [] hn rfl (Zv (Zu (Zt 2 [] hn rfl (Zv (zI (zB ?_))))))
 exact ret_E (.inl rfl) ⟨(vo,l),hV,by rw [hS]; cases (levelsI b sales l).isSome <;> rfl⟩ ((zj rfl (.tmp rfl)).eq (by rw [hS]; cases (levelsI b sales l).isSome <;> rfl)) ⟨rfl,rfl,rfl,rfl,trivial⟩
 obtain ⟨k,rfl⟩:∃ k1,k = k1 + 1:=⟨k - 1,by simp at hb0; omega⟩
 replace ih:=ih k rfl
 have hS:misS b sales (k + 1) l f = misN b sales k l f:=rfl
 refine zJ (zA (zD (Zu (Zt 2 [] hn rfl (Zv (zN (awp_loop_on (ι:={x:Nat × Value // f ≤ x.1 ∧ x.1 ≤ 150 ∧ VecV x.2 1 (intsT l) ∧ misN b sales k l f = misN b sales k l x.1}) (fun x=>(9,true,.d (.int .i64 (x.1.1:Nat))) :: anys [19,20,21,22,23,24,25,26,27,30,31,32,33,34,35,36,37,38,39,40,41,42,43,44,45,46,47,48,49,50,51,52,53,54,55,56,57,58,59,28,29]) (fun x=>[(1076,.box b6 178 [.val (.pointer (some ⟨bb,0,none⟩))]),(1078,.box b8 233 [.fn (.func 102) [] (misCa b6 b8)]),(1070,.box bb 214 (bookC b sales x.1.2)),(1072,vecRes 3 x.1.2 1 (intsT l))]) (fun x=>8 - x.1.1) ⟨(f,vo),Nat.le_refl _,by simp only; omega,hV,rfl⟩ ⟨.inl rfl,zF _⟩ ⟨.inl rfl,.inl rfl,.inl rfl,.inl rfl,trivial⟩ ?_)))))))
 rintro ⟨⟨i,v1⟩,hfi,hi,hV1,hmn⟩
 dsimp only
 dsimp only at hfi hi hV1 hmn
 refine zD (Zu (Zt 7 [1076,1070] hn rfl (Zs hn (yB rfl rfl rfl (r:=(sales.length:Int) - ((k + 1:Nat):Int)) (by rw [List.length_map]; exact i64w (by omega) rfl)) ?_)))
 refine Zt 1 [] hn rfl (Zv (zG rfl (fun hb1=>?_) (fun hb1=>?_)))
 have hlt:i < sales.length - k:=by simp at hb1; omega
 have ih2:=fun v2 hv2=>ih v2 (l ++ [(i:Int)]) (i + 1) hv2 (by omega) (by simp; omega)
 refine zJ (zA (zD (zN (zD (zb (e:=.normal) (ι:={x:Value // VecV x 1 (intsT (l ++ [(i:Int)]))}) (fun x=>anys [30,31,32,33,34,35,36,37,38,39]) (fun x=>[(1070,.box bb 214 (bookC b sales x.1)),(1072,vecRes 3 x.1 1 (intsT (l ++ [(i:Int)])))]) (fun hJ2=>?_) ?_)))))
 ·
  refine zo (W:=fun b=>b ≠ b6) fmo ?_
  refine Zy [0,1,2,3,5] [1076,1076] hn rfl (zE ?_)
  refine zm 4 [6] (by kernel_rfl) ⟨?_,?_,trivial⟩
  refine br rfl (Zw hn (zY rfl rfl (id:=1070) rfl underlying29 rfl rfl sees0)) fun _=>?_
  refine d2_of_d1 (zE (Zo 6 rfl (zP rfl rfl rfl (nb hn rfl) underlying29 sz3 zr3 rfl rfl rfl (show _ = [.d (.int .i64 0)] from by kernel_rfl) (by kernel_rfl) rfl zB0 rfl rfl rfl) fun _=>?_))
  rotate_left
  refine br rfl (zP rfl rfl rfl (nb hn rfl) underlying29 sz3 zr3 rfl rfl rfl (show _ = [.d (.int .i64 0)] from by kernel_rfl) (by kernel_rfl) rfl zB0 rfl rfl rfl) fun _=>?_
  refine d2_of_d1 (zE (Ze [4] [1070] hn rfl ?_))
  rotate_left
  all_goals
   refine d2_of_d1 (zE (z7 (i:=1072) (j:=1076) rfl rfl rfl (fun hne1072_1076=>?_)))
   refine Zo 7 rfl (zBu (id:=1072) rfl rfl rfl (nb hn rfl) elt29 zr3 rfl hV1 rfl rfl rfl (by simp [chunk]; omega) (by simp [chunk]; omega) (fun b hb=>fun e=>hne1072_1076 _ (vec_blk hV1 hb) (congrArg some e.symm))) fun ⟨v2,hV2⟩=>?_
   refine d2_of_d1 (Zy [8,9] [] hn rfl (zE (z7 (i:=1070) (j:=1076) rfl rfl rfl (fun hne1070_1076=>?_))))
   refine Zo 10 rfl (s_store1 rfl rfl rfl rfl rfl (vec_one hV2) (id:=1070) rfl sz29 (Nat.le_of_ble_eq_true rfl) rfl (fun e=>hne1070_1076 _ rfl (congrArg some e.symm))) fun _=>?_
   refine d2_of_d1 (zE (zl (by kernel_rfl) ?_))
   exact Zj hJ2 ⟨v2,by rw [← zBv]; exact hV2⟩ (zF _) ⟨.inl rfl,.inl (congrArg (fun z=>some (vecRes 3 v2 1 z)) zBv),trivial⟩
 rintro ⟨v2,hV2⟩
 dsimp only
 refine zA (zD (Zu (Zt 2 [1078] hn rfl (Zs hn (zh rfl rfl rfl (r:=((i + 1:Nat):Int)) (i64w (by omega) rfl)) ?_))))
 refine Zt 1 [] hn rfl (Zs hn (yB rfl rfl rfl (r:=((k:Nat):Int)) (i64w (by omega) (by omega))) ?_)
 refine stepW (s_callE (ih2 v2 hV2) rfl rfl rfl (nb hn rfl) (.t rfl) rfl (.refl _) ⟨rfl,rfl,rfl,rfl,trivial⟩ (fun _=>rfl) (fun _ _=>trivial)) fun ⟨⟨v3,l3⟩,hV3,hl3⟩=>?_
 refine Zv (zG rfl (fun hb3=>?_) (fun hb3=>?_))
 obtain ⟨l2,hl2⟩:=Option.isSome_iff_exists.1 hb3
 have hyes:misS b sales (k + 1) l f = some l2:=by rw [hS,hmn,zB6 hlt,hl2]; rfl
 rw [hl2] at hl3
 refine Zu (Zt 1 [] hn rfl (Zv (zI (zB (zL (zB (zB (zL (zB ?_)))))))))
 exact ret_E (.inl rfl) ⟨(v3,l3),hV3,by rw [hyes]; exact hl3⟩ ((zj rfl (.tmp rfl)).eq (by rw [hyes]; rfl)) ⟨rfl,rfl,rfl,rfl,trivial⟩
 have hno:misS b sales k (l ++ [(i:Int)]) (i + 1) = none:=by cases h:misS b sales k (l ++ [(i:Int)]) (i + 1) <;> simp_all
 rw [hno] at hl3
 obtain rfl:l3 = l ++ [(i:Int)]:=hl3
 obtain ⟨bo,cap,rfl,hcap,hcm⟩:=vec_cons hV3
 refine zJ (zA (yH (gh_pop (id:=1072) (b:=bo) (n:=l.length) (cap:=cap) (l:=l) (i:=(i:Int)) rfl hcap) ?_))
 refine zb (e:=.normal) (ι:=Unit) (fun x=>anys [46,47,48,49,50,51,52,53,54,55,56,57,58,59]) (fun x=>[(1070,.box bb 214 (bookC b sales (.slice (some ⟨bo,0,none⟩) l.length cap)))]) (fun hJ4=>?_) ?_
 ·
  refine zo (W:=fun b=>b ≠ b6) fmo ?_
  refine Zy [0,1,2,3,5,6,7] [1076,1076,1076] hn rfl (zE ?_)
  refine zm 4 [8] (by kernel_rfl) ⟨?_,?_,trivial⟩
  refine br rfl (Zw hn (zY rfl rfl (id:=1070) rfl underlying29 rfl rfl sees0)) fun _=>?_
  refine d2_of_d1 (zE (Ze [8] [1070] hn rfl (d2_of_d1 (Zy [9] [] hn rfl (Zd 10 rfl hn (yB rfl rfl rfl (r:=((l.length:Nat):Int)) (i64w (by omega) (by omega))) ?_)))))
  rotate_left
  refine br rfl (Zw hn (zY rfl rfl (id:=1070) rfl underlying29 rfl rfl sees0)) fun _=>?_
  refine d2_of_d1 (Zy [9] [] hn rfl (Zd 10 rfl hn (yB rfl rfl rfl (r:=((l.length:Nat):Int)) (i64w (by omega) (by omega))) ?_))
  refine zE (Ze [4] [1070] hn rfl (d2_of_d1 ?_))
  rotate_left
  all_goals
   refine Zd 11 rfl hn (q_sliceVh (j:=l.length) rfl rfl rfl underlying29 sz3 rfl (by omega) hcap) ?_
   refine Zy [12,13] [] hn rfl (zE (z7 (i:=1070) (j:=1076) rfl rfl rfl (fun hne1070_1076=>?_)))
   refine Zo 14 rfl (s_store1 rfl rfl rfl rfl rfl rfl (id:=1070) rfl sz29 (Nat.le_of_ble_eq_true rfl) rfl (fun e=>hne1070_1076 _ rfl (congrArg some e.symm))) fun _=>?_
   refine d2_of_d1 (zE (zl (by kernel_rfl) ?_))
   exact Zj hJ4 () (zF _) ⟨.inl rfl,trivial⟩
 rintro _
 refine zM (zA (zH (Zt 1 [] hn rfl (Zs hn (zh rfl rfl rfl (r:=((i + 1:Nat):Int)) (i64w (by omega) rfl)) ?_))))
 refine Zt 1 [] hn rfl (zQ ?_)
 exact Zr ⟨(i + 1,.slice (some ⟨bo,0,none⟩) l.length cap),by simp only; omega,by simp only; omega,vec_back hcap hcm,by simp only; rw [hmn,zB6 hlt,hno]; rfl⟩ ⟨.inl rfl,zF _⟩ ⟨.inl rfl,.inl rfl,.inl rfl,.inl rfl,trivial⟩ (by simp only; omega)
 have hno:misS b sales (k + 1) l f = none:=by rw [hS,hmn]; exact misN_end (by simp at hb1; omega)
 refine zX (zC (zC (zO (zA (Zu (Zt 1 [] hn rfl (Zv (zI ?_))))))))
 exact ret_E (.inl rfl) ⟨(v1,l),hV1,by rw [hno]; rfl⟩ ((zj rfl (.tmp rfl)).eq (by rw [hno]; rfl)) ⟨rfl,rfl,rfl,rfl,trivial⟩
theorem mis_all (b6 b8 bb:Nat) (b:Brd) (sales:List Prt) (v:BrdOK b) (hsl:sales.length ≤ 8):∀ k,MisOK b6 b8 bb b sales k:=by
  intro k
  induction k with
  | zero=>exact fun vo l f hV hf hk=>zDS b6 b8 bb b sales v hsl 0 (fun _ h=>by omega) vo l f hV hf hk
  | succ k ih=>exact fun vo l f hV hf hk=>zDS b6 b8 bb b sales v hsl (k + 1) (fun k1 h=>by obtain rfl:k = k1:=(by omega); exact ih) vo l f hV hf hk
theorem zA0 {Γ:Cx} {σ:St} {t:Nat} {v:Value} {l:List Int} (id:Nat) (ht:σ.get t = some (true,.val v)) (hr:σ.rget id = some (vecRes 3 v 1 (intsT l))) (hV:VecV v 1 (intsT l)):Ghost Γ σ ((σ.put t true (.d (ints l))).rput id .gone):=by
  rcases hV with ⟨rfl,h⟩ | ⟨b,n,cap,rfl,h1,h2,h3⟩
  · obtain rfl:l = []:=by simpa using h
    intro a w F hs
    exact ⟨F,(hs.rput (i:=id) (r:=.gone) trivial fun _ h=>h.elim).slot (t:=t) (tv:=.val (.slice none 0 0)) ht fun v hv=>by
      cases hv
      exact ⟨none,0,rfl,Nat.le_refl _,Nat.zero_le _,.inl rfl⟩,fun _ _ h=>h⟩
  · have hn:l.length = n:=by simpa using h3
    subst hn
    refine g_freezeVK (n:=l.length) (sz:=1) (cap:=cap) (ds:=l.map fun n=>.int .i64 n) (rest:=List.replicate ((cap - l.length) * 1) .any) id ht hr (by simp [intsT,List.map_map,Function.comp_def]) (by simp) ?_ h1 h2
    have:∀ l:List Int,chunk 1 l.length (l.map fun n=>D.int .i64 n) = l.map intE:=fun l=>by
      induction l with
      | nil=>rfl
      | cons x l ih=>simp [chunk,ih]
    exact this l
def misL (b:Brd) (sales:List Prt):List Int:=((List.range (sales.length + 1)).findSome? fun k=>misS b sales k [] 0).getD []
def misI (b:Brd) (s:List UInt8):List Int × Int:=bif (readI b s).2 != 0 then ([],(readI b s).2) else (misL b (readI b s).1,0)
theorem misL_none {b:Brd} {sales:List Prt} (h:∀ k,k < sales.length + 1 → misS b sales k [] 0 = none):misL b sales = []:=by
  unfold misL
  rw [show ((List.range (sales.length + 1)).findSome? fun k=>misS b sales k [] 0) = none from List.findSome?_eq_none_iff.2 fun k hk=>h k (List.mem_range.1 hk)]
  rfl
theorem zB1 {b:Brd} {sales:List Prt} {m:Nat} {l:List Int} (hm:m < sales.length + 1) (h:∀ k,k < m → misS b sales k [] 0 = none) (hs:misS b sales m [] 0 = some l):misL b sales = l:=by
  unfold misL
  have e:List.range (sales.length + 1) = List.range m ++ m :: (List.range' (m + 1) (sales.length - m)):=by
    rw [List.range_eq_range',List.range_eq_range',show sales.length + 1 = m + (1 + (sales.length - m)) by omega,← List.range'_append_1,← List.range'_append_1]
    simp
  rw [e,List.findSome?_append,show ((List.range m).findSome? fun k=>misS b sales k [] 0) = none from List.findSome?_eq_none_iff.2 fun k hk=>h k (List.mem_range.1 hk),List.findSome?_cons,hs]
  rfl
theorem Misprints_no (b:Brd) (s:List UInt8) (hN:NamesOK b) (h5:s.length ≤ 4294967000) (h0:(readI b s).2 ≠ 0):EffAt Tryz.prog 42 [.d (brdD b),.d (strD s)] [] (X:=Unit) (fun _=>.d (.tup [ints [],.int .i64 (readI b s).2])) (fun _=>[]):=by
 refine EffAt.of_awp Tryz.func42 rfl (by kernel_rfl) rfl fun Γ hn=>?_
 refine Zu (Zb 2 hn rfl fun b2=>Zt 2 [] hn rfl (Zv (zBz (Zu (Zt 2 [2] hn rfl (stepW (s_callE (zD4 b s hN h5 h0) rfl rfl rfl (nb hn rfl) (.d rfl) rfl (.refl _) trivial (fun _=>rfl) (fun _ _=>trivial)) fun _=>?_))))))
 refine Zt 3 [] hn rfl (Zb 6 hn rfl fun b6=>stepW (s_store1 rfl rfl rfl rfl rfl rfl (id:=6) rfl sz178 (Nat.le_of_ble_eq_true rfl) rfl trivial) fun _=>?_)
 refine Zt 1 [] hn rfl (Zv (zD (Zu (Zt 2 [] hn rfl (Zv (zG rfl (fun hb0=>?_) (fun hb0=>?_)))))))
 refine Zu (Zt 3 [] hn rfl (Zv (zI (zB ?_))))
 refine zAE ?_ (fun _ e=>by cases e)
 exact ret_E (.inl rfl) () ((zr rfl (.tmp rfl) (.tmp rfl)).le (.tup (.cons (.nil 1) (.refl _)))) trivial
 exact absurd hb0 (by simp [h0])
theorem Misprints_ok1 (b:Brd) (s:List UInt8) (hN:NamesOK b) (h5:s.length ≤ 4294967000) (h0:(readI b s).2 = 0):EffAt Tryz.prog 42 [.d (brdD b),.d (strD s)] [] (X:=Unit) (fun _=>.d (.tup [ints (misI b s).1,.int .i64 (misI b s).2])) (fun _=>[]):=by
 have v:=zBj h0
 obtain ⟨hpo,hsl⟩:=kq (b:=b) (s:=s)
 have hV:VecV (.slice none 0 0) 1 (intsT []):=VecV.nil 1
 refine EffAt.of_awp Tryz.func42 rfl (by kernel_rfl) rfl fun Γ hn=>?_
 refine Zu (Zb 2 hn rfl fun b2=>Zt 2 [] hn rfl (Zv (zBz (Zu (Zt 2 [2] hn rfl (stepW (s_callE (zEG b s hN h5 h0) rfl rfl rfl (nb hn rfl) (.d rfl) rfl (.refl _) trivial (fun _=>rfl) (fun _ _=>trivial)) fun bb=>?_))))))
 refine Zt 3 [] hn rfl (Zb 1076 hn rfl fun b6=>stepW (s_store1 rfl rfl rfl rfl rfl rfl (id:=1076) rfl sz178 (Nat.le_of_ble_eq_true rfl) rfl trivial) fun _=>?_)
 refine Zt 1 [] hn rfl (Zv (zD (Zu (Zt 2 [] hn rfl (Zv (zG rfl (fun hb0=>?_) (fun hb0=>?_)))))))
 exact absurd hb0 (by decide)
 have e1:misI b s = (misL b (readI b s).1,0):=by unfold misI; rw [h0]; rfl
 rw [e1]
 refine zJ (zA (Zu (Zb 1078 hn rfl fun b8=>Zv (Zu (Zs hn (zAD rfl rfl rfl) ?_)))))
 refine stepW (s_store1 rfl rfl rfl rfl rfl rfl (id:=1078) rfl sz233 (Nat.le_of_ble_eq_true rfl) rfl trivial) fun _=>?_
 refine Zv (zD (awp_label (zA (zD (Zu (Zt 5 [1076,1070] hn rfl (Zs hn (zh rfl rfl rfl (r:=(((readI b s).1.length + 1:Nat):Int)) (by rw [List.length_map]; exact i64w (by omega) rfl)) ?_)))))))
 refine Zt 1 [] hn rfl (Zv (zN (awp_loop_on (ι:={x:Nat × Value // x.1 ≤ (readI b s).1.length + 1 ∧ VecV x.2 1 (intsT []) ∧ ∀ k,k < x.1 → misS b (readI b s).1 k [] 0 = none}) (fun x=>(26,true,.d (.int .i64 (x.1.1:Nat))) :: anys [27,28,9,29,30,31,32]) (fun x=>[(1076,.box b6 178 [.val (.pointer (some ⟨bb,0,none⟩))]),(1078,.box b8 233 [.fn (.func 102) [] (misCa b6 b8)]),(1070,.box bb 214 (bookC b (readI b s).1 x.1.2)),(1072,vecRes 3 x.1.2 1 (intsT []))]) (fun x=>(readI b s).1.length + 1 - x.1.1) ⟨(0,_),Nat.zero_le _,hV,fun k hk=>by omega⟩ ⟨.inl rfl,zF _⟩ ⟨.inl rfl,.inl rfl,.inl rfl,.inl rfl,trivial⟩ ?_)))
 rintro ⟨⟨m,v1⟩,hm,hV1,hno⟩
 dsimp only
 dsimp only at hm hV1 hno
 refine Zu (Zt 1 [] hn rfl (Zv (zD (zG rfl (fun hb1=>?_) (fun hb1=>?_)))))
 have hml:m < (readI b s).1.length + 1:=by simp at hb1; omega
 refine zJ (zA (zD (zN (Zu (Zt 2 [] hn rfl (Zv (Zu (Zt 2 [1078] hn rfl ?_))))))))
 refine stepW (s_callE (mis_all b6 b8 bb b (readI b s).1 v hsl m v1 [] 0 hV1 (by omega) (by simp; omega)) rfl rfl rfl (nb hn rfl) (.t rfl) rfl (.refl _) ⟨rfl,rfl,rfl,rfl,trivial⟩ (fun _=>rfl) (fun _ _=>trivial)) fun ⟨⟨v3,l3⟩,hV3,hl3⟩=>?_
 dsimp only at hV3 hl3
 refine Zv (zG rfl (fun hb2=>?_) (fun hb2=>?_))
 obtain ⟨l2,hl2⟩:=Option.isSome_iff_exists.1 hb2
 rw [hl2] at hl3
 have hl:misL b (readI b s).1 = l3:=(zB1 hml hno hl2).trans hl3.symm
 refine zX (y3 rfl (zC (zC (zO (zA (Zu (Zt 6 [1076,1070] hn rfl (Zv (zI ?_)))))))))
 refine zAE ?_ (fun _ e=>by cases e)
 refine y2 (zA0 (t:=4) (l:=l3) 1072 rfl rfl hV3) ?_
 exact ret_E (.inl rfl) () ((zr rfl (.tmp rfl) (.tmp rfl)).eq (by rw [hl])) trivial
 have hnm:misS b (readI b s).1 m [] 0 = none:=by cases h:misS b (readI b s).1 m [] 0 <;> simp_all
 rw [hnm] at hl3
 obtain rfl:l3 = []:=hl3
 refine zJ (zM (zA (zH (Zs hn (zh rfl rfl rfl (r:=((m + 1:Nat):Int)) (i64w (by omega) (by omega))) ?_))))
 refine Zt 1 [] hn rfl (zQ ?_)
 exact Zr ⟨(m + 1,v3),by simp only; omega,hV3,fun k hk=>by (by_cases e:k = m; (subst e; exact hnm); exact hno k (by omega))⟩ ⟨.inl rfl,zF _⟩ ⟨.inl rfl,.inl rfl,.inl rfl,.inl rfl,trivial⟩ (by simp only; omega)
 have hme:m = (readI b s).1.length + 1:=by simp at hb1; omega
 have hl:misL b (readI b s).1 = []:=misL_none (by rw [← hme]; exact hno)
 refine zX (zC (zC (zO (zA (Zu (Zt 6 [1076,1070] hn rfl (Zv (zI ?_))))))))
 refine zAE ?_ (fun _ e=>by cases e)
 refine y2 (zA0 (t:=4) (l:=[]) 1072 rfl rfl hV1) ?_
 exact ret_E (.inl rfl) () ((zr rfl (.tmp rfl) (.tmp rfl)).eq (by rw [hl])) trivial
theorem Misprints_ok (b:Brd) (s:List UInt8) (hN:NamesOK b) (h5:s.length ≤ 4294967000):PureAt Tryz.prog 42 [brdD b,strD s] (.tup [ints (misI b s).1,.int .i64 (misI b s).2]):=by
  by_cases h0:(readI b s).2 = 0
  · exact PureAt.of_eff (ds:=[brdD b,strD s]) (Misprints_ok1 b s hN h5 h0)
  · have h1:((readI b s).2 != 0) = true:=by simpa using h0
    rw [show misI b s = ([],(readI b s).2) from by unfold misI; rw [h1]; rfl]
    exact PureAt.of_eff (ds:=[brdD b,strD s]) (Misprints_no b s hN h5 h0)
end Go.Proofs.YticlpkgpmmhemaaGreatDoor
