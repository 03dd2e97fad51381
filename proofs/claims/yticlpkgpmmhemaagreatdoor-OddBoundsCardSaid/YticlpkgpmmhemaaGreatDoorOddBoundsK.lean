/-
  A part of the proof that contangolaw.OddBounds returns true: what the last text needs, and no more. No condition: no statement of the seat is proved here.
-/
import Derived.ChangeKeysEq
import Derived.Test.YticlpkgpmmhemaaGreatDoorOddBoundsJ
namespace Go.Proofs.YticlpkgpmmhemaaGreatDoor
open Go.RowKit
set_option linter.all false
set_option maxRecDepth 20000
theorem zBx {F:Nat → Nat → Prop} {w:World}:∀ {l:List Bool} {vs:List Value},RepVals F w (l.map .bool) vs → vs = l.map .bool
  | [],_,h=>h
  | b :: l,_,⟨v,vs',e,h1,h2⟩=>by
    subst e
    cases h1
    rw [zBx h2]
    rfl
theorem zBJ {P : Program} {e : TypeId} (d : Nat) (he : P.underlying e = some .bool) (xs ys : List Bool) (w : World) : ∀ is : List Nat, (∀ i ∈ is, i < xs.length ∧ i < ys.length) →
    (Op.eqItems (d + 1) e 1 (xs.map Value.bool).toArray (ys.map Value.bool).toArray is).run P w = .ok (is.all fun i=>xs.getD i false == ys.getD i false) w
  | [],_=>by simp [Op.eqItems]
  | i :: is,h=>by
    obtain ⟨hx,hy⟩:=h i List.mem_cons_self
    have px:(part e (xs.map Value.bool).toArray (i * 1)).run P w = .ok (.bool (xs.getD i false)) w:=by
      simp [part,isAgg,run_underlying he,List.getD,List.getElem?_eq_getElem hx]
    have py:(part e (ys.map Value.bool).toArray (i * 1)).run P w = .ok (.bool (ys.getD i false)) w:=by
      simp [part,isAgg,run_underlying he,List.getD,List.getElem?_eq_getElem hy]
    simp only [Op.eqItems,Sem.run_bind,px,py,Result.andThen_ok,run_equalIn_bool' w d e _ _ he,List.all_cons]
    cases hb:(xs.getD i false == ys.getD i false)
    · simp
    · simp only [Bool.not_true,Bool.false_eq_true,if_false,Bool.true_and]
      exact zBJ d he xs ys w is fun j hj=>h j (List.mem_cons_of_mem _ hj)
/-- Whether two levels have the same prices. -/
def lvB (m m':Nat):Bool:=(List.range 800).all fun p=>m.testBit p == m'.testBit p
def bits (m:Nat):List Bool:=(List.range 800).map fun p=>m.testBit p
theorem zBv {m p:Nat} (h:p < 800):(bits m).getD p false = m.testBit p:=by
  simp [bits,List.getD,List.getElem?_map,List.getElem?_range h]
theorem bits_all (m m':Nat):((List.range 800).all fun i=>(bits m).getD i false == (bits m').getD i false) = lvB m m':=by
  unfold lvB
  rw [Bool.eq_iff_iff,List.all_eq_true,List.all_eq_true]
  constructor
  · intro q p hp
    have:=q p hp
    rwa [zBv (List.mem_range.1 hp),zBv (List.mem_range.1 hp)] at this
  · intro q p hp
    rw [zBv (List.mem_range.1 hp),zBv (List.mem_range.1 hp)]
    exact q p hp
theorem lvE_bits (m:Nat):lvE m = (bits m).map .bool:=by simp [lvE,bits,List.map_map,Function.comp_def]
section
variable {Γ:Cx} {P:Program} {σ:St} {o:Oper} {R:Rel}
theorem zHB {x y : Operand} {t t' e : TypeId} {m m' : Nat} (ht : P.underlying t = some (.array 800 e)) (he : P.underlying e = some .bool) (hi : (P.info? e).isSome = true) (hc : P.cellsOf e = 1) (hG : P.eqGuardType P.depth t = false)
    (h:o.op = .binOp .eql t x y t') (hx:σ.ev x = some (true,.d (.agg (lvE m)))) (hy:σ.ev y = some (true,.d (.agg (lvE m')))):QV Γ P σ o R (.d (.bool (lvB m m'))):=fun A w F hs=>by
  obtain ⟨vs,e1,h1,_⟩:=hs.ev hx
  obtain ⟨us,e2,h2,_⟩:=hs.ev hy
  rw [lvE_bits] at h1 h2
  obtain rfl:=zBx h1
  obtain rfl:=zBx h2
  obtain ⟨i,hi⟩:=Option.isSome_iff_exists.1 hi
  refine ⟨.bool (lvB m m'),rfl,fun w' _=>?_⟩
  have hl:∀ m:Nat,(bits m).length = 800:=fun m=>by simp [bits]
  have hrun:(binOp .eql t (.agg ((bits m).map Value.bool).toArray) (.agg ((bits m').map Value.bool).toArray)).run P w' = .ok (.bool (lvB m m')) w':=by
    rw [run_eql_struct,run_equalIn_array w' 9999 _ _ ht hi,hc,zBJ 9998 he _ _ w' _ fun i hi=>by rw [hl,hl]; exact ⟨List.mem_range.1 hi,List.mem_range.1 hi⟩,bits_all]
    simp only [Result.andThen_ok]
  simp only [execOp,h,e1,e2,Sem.run_bind,run_eqGuard_agg w' .eql t x y _ _ hG,Result.andThen_ok,hrun,Sem.run_pure]
end
theorem zE3 {m:Nat} (h:m &&& full8 = m):lvB m 0 = (m == 0):=by
  rw [Bool.eq_iff_iff,lvB,List.all_eq_true,beq_iff_eq]
  constructor
  · intro q
    refine zFj h (by simp) fun p hp=>?_
    simpa using q p (List.mem_range.2 hp)
  · rintro rfl p _
    simp
end Go.Proofs.YticlpkgpmmhemaaGreatDoor
namespace Go.Proofs.YticlpkgpmmhemaaGreatDoor
open Go.Proofs.Tryz
open Go.RowKit
set_option maxRecDepth 20000
set_option linter.all false
set_option exponentiation.threshold 2000
def Can (m:Nat):Prop:=m &&& full8 = m
theorem zGH {m p:Nat} (h:Can m) (hp:800 ≤ p):m.testBit p = false:=by
  rw [← h,Nat.testBit_and,kA]; simp; omega
theorem zHD {m:Nat} (h:∀ p,800 ≤ p → m.testBit p = false):Can m:=by
  apply Nat.eq_of_testBit_eq
  intro p
  rw [Nat.testBit_and,kA]
  by_cases hp:p < 800
  · simp [hp]
  · rw [h p (by omega)]; rfl
theorem zEY {m p:Nat} {b:Bool} (h:Can m) (hp:p < 800):Can (putB m p b):=zHD fun q hq=>by rw [yv,if_neg (by omega)]; exact zGH h hq
theorem zGr {m n:Nat} (h:Can m):Can (m &&& n):=zHD fun q hq=>by rw [Nat.testBit_and,zGH h hq]; rfl
theorem zA6 (f:Nat → Bool):Can (maskOf f 800):=maskOf_full f
theorem zCA (s:Stk):Can (startN s):=zA6 _
theorem zER (s:Prt) (i:Nat) (l:List Int) (m:Nat):Can (ownN s i l m):=zA6 _
theorem zAM:Can 0:=by unfold Can; simp
/-- What the sales before allow. -/
def fwdGo (l:List Int) (J k:Nat):Nat → List Prt → Nat → List Nat → Nat × List Nat
  | _,[],now,o=>(now,o)
  | i,s :: r,now,o=>bif s.stock == (k:Int) then fwdGo l J k (i + 1) r (ownN s i l (nearN now J)) (o.set i (ownN s i l (nearN now J))) else fwdGo l J k (i + 1) r now o
/-- What those after allow. -/
def bwdGo (sales:List Prt) (J k:Nat):Nat → Nat → List Nat → List Nat
  | 0,_,o=>o
  | i + 1,now,o=>bif (sales.getD i ⟨-1,0,0,0,false,0,0,0⟩).stock == (k:Int) then bwdGo sales J k i (nearN (o.getD i 0 &&& now) J) (o.set i (o.getD i 0 &&& now)) else bwdGo sales J k i now o
def lvlGo (sales:List Prt) (l:List Int) (J:Nat):Nat → List Stk → List Nat → Option (List Nat)
  | _,[],o=>some o
  | k,s :: r,o=>bif (fwdGo l J k 0 sales (startN s) o).1 == 0 then none else lvlGo sales l J (k + 1) r (bwdGo sales J k sales.length (fwdGo l J k 0 sales (startN s) o).1 (fwdGo l J k 0 sales (startN s) o).2)
def levelsN (b:Brd) (sales:List Prt) (l:List Int) (J:Nat):Option (List Nat):=lvlGo sales l J 0 b.stocks (List.replicate sales.length 0)
@[reducible] def lvsT (ms:List Nat):List TV:=(ms.map lvE).flatten.map .d
@[reducible] def lvsD (r:Option (List Nat)):D:=.slice 800 ((r.getD []).map lvE)
theorem kJ {ms:List Nat}:∀ r ∈ ms.map lvE,r.length = 800:=fun r h=>by
  obtain ⟨m,_,rfl⟩:=List.mem_map.1 h
  exact zv m
theorem zCy {ms:List Nat}:(lvsT ms).length = ms.length * 800:=by rw [List.length_map,zAe kJ,List.length_map]
theorem zE0 (n:Nat):(List.replicate n (lvT 0)).flatten = lvsT (List.replicate n 0):=by
  rw [lvsT,List.map_replicate,List.map_flatten,List.map_replicate]
theorem lvs_le {ms:List Nat} {i:Nat} (h:i < ms.length):0 + i * 800 + 800 ≤ (lvsT ms).length:=by rw [zCy]; omega
theorem lvs_put {ms:List Nat} {i m:Nat} (h:i < ms.length):(lvsT ms).take (0 + i * 800) ++ (TV.d (.agg (lvE m))).cells ++ (lvsT ms).drop (0 + i * 800 + 800) = lvsT (ms.set i m):=by
  have:=congrArg (List.map TV.d) (zF4 (i:=i) (x:=lvE m) kJ (by rw [List.length_map]; exact h))
  rw [List.map_append,List.map_append,List.map_take,List.map_drop] at this
  rw [Nat.zero_add,lvsT,lvsT,List.map_set]
  exact this
theorem zGb {ms:List Nat} {i m p:Nat} (h:ms[i]? = some m) (hp:p < 800):(lvsT ms)[0 + i * 800 + p * 1]? = some (.d (.bool (m.testBit p))):=by
  rw [Nat.zero_add,Nat.mul_one,List.getElem?_map,zEE kJ (show (ms.map lvE)[i]? = some (lvE m) by rw [List.getElem?_map,h]; rfl) hp,y5 hp]
  rfl
theorem lvs_set {ms:List Nat} {i m p:Nat} {b:Bool} (h:ms[i]? = some m) (hp:p < 800):(lvsT ms).set (0 + i * 800 + p * 1) (.d (.bool b)) = lvsT (ms.set i (putB m p b)):=by
  have h1:=zDH (c:=D.bool b) kJ (show (ms.map lvE)[i]? = some (lvE m) by rw [List.getElem?_map,h]; rfl) hp
  have h2:(lvE m).set p (.bool b) = lvE (putB m p b):=by
    have:=zGQ (m:=m) (b:=b) hp
    rw [lvT,← List.map_set] at this
    exact (List.map_inj_right fun x y h=>by cases h; rfl).1 this
  rw [Nat.zero_add,Nat.mul_one]
  show ((ms.map lvE).flatten.map TV.d).set (i * 800 + p) (TV.d (.bool b)) = ((ms.set i (putB m p b)).map lvE).flatten.map TV.d
  rw [← List.map_set,h1,h2,← List.map_set]
theorem lvs_seg {ms:List Nat} {i m:Nat} (h:ms[i]? = some m):allD (((lvsT ms).drop (0 + i * 800)).take 800) = some (lvE m):=by
  rw [Nat.zero_add,lvsT,← List.map_drop,← List.map_take,zHA kJ (show (ms.map lvE)[i]? = some (lvE m) by rw [List.getElem?_map,h]; rfl)]
  exact z8 _
theorem lvT_get1 {m p:Nat} (h:p < 800):(lvT m)[0 + p * 1]? = some (.d (.bool (m.testBit p))):=by rw [Nat.zero_add,Nat.mul_one]; exact zEh h
theorem zAj {k:Nat}:∀ {rows:List (List D)},(∀ r ∈ rows,r.length = k) → chunk k rows.length rows.flatten = rows
  | [],_=>rfl
  | r :: rows,h=>by
    have hr:=h r List.mem_cons_self
    rw [List.length_cons,chunk,List.flatten_cons,List.take_append_of_le_length (by omega),List.take_of_length_le (by omega),List.drop_append_of_le_length (by omega),List.drop_of_length_le (l:=r) (by omega),List.nil_append,zAj fun x hx=>h x (List.mem_cons_of_mem _ hx)]
theorem zBe {ms:List Nat} {i m:Nat} (h:ms[i]? = some m):ms.set i m = ms:=by
  obtain ⟨hlt,rfl⟩:=List.getElem?_eq_some_iff.1 h
  exact List.set_getElem_self hlt
theorem zEC {ms:List Nat} {i m:Nat} (h:i < ms.length):(ms.set i m)[i]? = some m:=by rw [List.getElem?_set,if_pos rfl,if_pos h]
theorem zEt {ms:List Nat} {i m p:Nat} {b:Bool} (h:i < ms.length) (hp:p < 800):(lvsT (ms.set i m)).set (0 + i * 800 + p * 1) (.d (.bool b)) = lvsT (ms.set i (putB m p b)):=by rw [lvs_set (zEC h) hp,List.set_set]
theorem and_end {o now m1:Nat} (h1:Can m1) (h2:Can o) (h:∀ q,q < 800 → m1.testBit q = if q < 800 then o.testBit q && now.testBit q else o.testBit q):m1 = o &&& now :=
  zFj h1 (zGr h2) fun q hq=>by rw [h q hq,if_pos hq,Nat.testBit_and]
theorem zP {α:Type} {l:List α} {i:Nat} {x d:α} (h:l[i]? = some x):l.getD i d = x:=by rw [List.getD_eq_getElem?_getD,h]; rfl
theorem zBo {l:List Nat} {i m:Nat} {P:Nat → Prop} (h:∀ x ∈ l,P x) (hm:P m):∀ x ∈ l.set i m,P x:=fun x hx=>by
  rcases List.mem_or_eq_of_mem_set hx with hx | rfl
  · exact h x hx
  · exact hm
/-- What the program knows of minutes: from before, no later bound decreases. -/
def minF:List Prt → Int → List (Int × Int)
  | [],_=>[]
  | s :: r,lo=>(max (s.minute - s.lhi) lo,s.minute - s.llo) :: minF r (max (s.minute - s.lhi) lo)
def minB:List (Int × Int) → List (Int × Int)
  | []=>[]
  | x :: r=>(x.1,match minB r with
    | []=>x.2
    | y :: _=>min x.2 y.2) :: minB r
def minI (sales:List Prt):List (Int × Int):=minB (minF sales (-9999))
def rightB (l:List (Int × Int)):Bool:=l.all fun r=>decide (r.1 ≤ r.2)
/-- What is so of each sale that is read. -/
structure PrtOK (b:Brd) (p:Prt):Prop where
  st:0 ≤ p.stock ∧ p.stock < b.stocks.length
  nm:1 ≤ p.nlo ∧ p.nlo ≤ p.nhi ∧ p.nhi ≤ 99
  fg:0 ≤ p.fig ∧ p.fig ≤ 8000
  mi:0 ≤ p.minute ∧ p.minute ≤ 600
  la:0 ≤ p.llo ∧ p.llo ≤ p.lhi ∧ p.lhi ≤ 60
@[reducible] def rngT (l:List (Int × Int)):List TV:=(l.map rngE).flatten.map .d
theorem kW {l:List (Int × Int)}:∀ r ∈ l.map rngE,r.length = 2:=fun r h=>by
  obtain ⟨m,_,rfl⟩:=List.mem_map.1 h
  rfl
theorem zDL {l:List (Int × Int)}:(rngT l).length = l.length * 2:=by rw [List.length_map,zAe kW,List.length_map]
theorem rng_zero (n:Nat):(List.replicate n [TV.d (.int .i64 0),.d (.int .i64 0)]).flatten = rngT (List.replicate n (0,0)):=by
  rw [rngT,List.map_replicate,List.map_flatten,List.map_replicate]; rfl
theorem rng_put {l:List (Int × Int)} {i:Nat} {a b:Int} (h:i < l.length):(rngT l).take (0 + i * 2) ++ (TV.d (.agg (rngE (a,b)))).cells ++ (rngT l).drop (0 + i * 2 + 2) = rngT (l.set i (a,b)):=by
  have:=congrArg (List.map TV.d) (zF4 (i:=i) (x:=rngE (a,b)) kW (by rw [List.length_map]; exact h))
  rw [List.map_append,List.map_append,List.map_take,List.map_drop] at this
  rw [Nat.zero_add,rngT,rngT,List.map_set]
  exact this
theorem rng_le {l:List (Int × Int)} {i:Nat} (h:i < l.length):0 + i * 2 + 2 ≤ (rngT l).length:=by rw [zDL]; omega
theorem zEk {l:List (Int × Int)} {i:Nat} {r:Int × Int} (h:l[i]? = some r):(rngT l)[0 + i * 2 + 0]? = some (.d (.int .i64 r.1)):=by
  rw [Nat.zero_add,List.getElem?_map,zEE kW (show (l.map rngE)[i]? = some (rngE r) by rw [List.getElem?_map,h]; rfl) (by omega)]
  rfl
theorem zEL {l:List (Int × Int)} {i:Nat} {r:Int × Int} (h:l[i]? = some r):(rngT l)[0 + i * 2 + 1]? = some (.d (.int .i64 r.2)):=by
  rw [Nat.zero_add,List.getElem?_map,zEE kW (show (l.map rngE)[i]? = some (rngE r) by rw [List.getElem?_map,h]; rfl) (by omega)]
  rfl
theorem rng_setlo {l:List (Int × Int)} {i:Nat} {r:Int × Int} {a:Int} (h:l[i]? = some r):(rngT l).set (0 + i * 2 + 0) (.d (.int .i64 a)) = rngT (l.set i (a,r.2)):=by
  have h1:=zDH (j:=0) (c:=D.int .i64 a) kW (show (l.map rngE)[i]? = some (rngE r) by rw [List.getElem?_map,h]; rfl) (by omega)
  rw [Nat.zero_add]
  show ((l.map rngE).flatten.map TV.d).set (i * 2 + 0) (TV.d (.int .i64 a)) = ((l.set i (a,r.2)).map rngE).flatten.map TV.d
  rw [← List.map_set,h1,List.map_set]; rfl
theorem rng_sethi {l:List (Int × Int)} {i:Nat} {r:Int × Int} {a:Int} (h:l[i]? = some r):(rngT l).set (0 + i * 2 + 1) (.d (.int .i64 a)) = rngT (l.set i (r.1,a)):=by
  have h1:=zDH (j:=1) (c:=D.int .i64 a) kW (show (l.map rngE)[i]? = some (rngE r) by rw [List.getElem?_map,h]; rfl) (by omega)
  rw [Nat.zero_add]
  show ((l.map rngE).flatten.map TV.d).set (i * 2 + 1) (TV.d (.int .i64 a)) = ((l.set i (r.1,a)).map rngE).flatten.map TV.d
  rw [← List.map_set,h1,List.map_set]; rfl
theorem bt185:BT Tryz.prog 185 (.agg (Array.replicate 800 (.bool false))) (fun i=>some (i * 1,1)):=zEu underlying185 zr185 sz4
theorem g148:Tryz.prog.eqGuardType Tryz.prog.depth 185 = false:=by kernel_rfl
theorem c148:Tryz.prog.cellsOf 4 = 1:=by kernel_rfl
theorem i148:(Tryz.prog.info? 4).isSome = true:=by kernel_rfl
theorem and_step {o now m1 q : Nat} (hq : q < 800) (h : ∀ r, r < 800 → m1.testBit r = if r < q then o.testBit r && now.testBit r else o.testBit r) :
    ∀ r,r < 800 → (putB m1 q (m1.testBit q && now.testBit q)).testBit r = if r < q + 1 then o.testBit r && now.testBit r else o.testBit r:=by
  intro r hr
  rw [yv]
  by_cases e:r = q
  · subst e
    rw [if_pos rfl,if_pos (by omega),h r hr,if_neg (by omega)]
  · rw [if_neg e,h r hr]
    by_cases e2:r < q
    · rw [if_pos e2,if_pos (by omega)]
    · rw [if_neg e2,if_neg (by omega)]
theorem levels_eff (bb:Nat) (b:Brd) (sales:List Prt) (vo:Value) (l:List Int) (hV:VecV vo 1 (intsT l)) (J:Nat) (hJ:b.jump = (J:Nat)) (hJ4:J ≤ 40) (hsl:sales.length ≤ 8) (hbl:b.stocks.length ≤ 1000):EffAt Tryz.prog 80 [.val (.pointer (some ⟨bb,0,none⟩))] (bookRs bb b sales vo l) (X:=Unit) (fun _=>.d (.tup [lvsD (levelsN b sales l J),.bool (levelsN b sales l J).isSome])) (fun _=>bookRs bb b sales vo l):=by
 refine EffAt.of_awp Tryz.func80 rfl (by kernel_rfl) rfl fun Γ hn=>?_
 refine Zu (Zt 2 [] hn rfl (Zv (Zu (Zt 5 [1070] hn rfl (stepW (kC (n:=sales.length) 16 rfl rfl rfl (nb hn rfl) underlying181 (show _ = some (some (.agg (Array.replicate 800 (.bool false))),800,800) from by kernel_rfl) zero800a zero800b (by kernel_rfl) (by decide) rfl rfl (by rw [List.length_map]) (by rw [List.length_map]) (by omega) (by omega) (by omega)) fun b16=>?_)))))
 refine Zt 1 [] hn rfl (Zv (zB (Zu (Zt 7 [1070] hn rfl (Zv (zK (awp_loop_on (ι:={x:Nat × List Nat // x.1 ≤ b.stocks.length ∧ x.2.length = sales.length ∧ (∀ m ∈ x.2,Can m) ∧ lvlGo sales l J x.1 (b.stocks.drop x.1) x.2 = levelsN b sales l J}) (fun x=>(23,true,.d (.int .i64 (x.1.1:Nat))) :: anys [24,25,5,26,27,28,6,29,30,31,32,33,34,35,36,37,38,8,7,39,40,41,42,43,44,45,46,47,48,49,50,51,52,53,54,55,56,57,58,59,60,61,62,9,63,64,67,68,69,70,71,72,73,74,75,76,77,78,79,10,80,81,82,83,84,85,86,87,88,89,90,91,92,93,94,95,96,97,98,99,100,101,102,65,66,103]) (fun x=>(16,.box b16 185 (lvsT x.1.2)) :: (1070,.box bb 214 (bookC b sales vo)) :: (1072,vecRes 3 vo 1 (intsT l)) :: gones [6,8]) (fun x=>b.stocks.length - x.1.1) ⟨(0,List.replicate sales.length 0),Nat.zero_le _,by simp,fun m hm=>by rw [(List.mem_replicate.1 hm).2]; exact zAM,rfl⟩ ⟨.inl rfl,zE _⟩ ⟨.inl (congrArg (fun z=>some (Res.box b16 185 z)) (zE0 _)),.inl rfl,.inl rfl,zR _⟩ ?_)))))))
 rintro ⟨⟨k,ms⟩,hk,hms,hcan,hgo⟩
 dsimp only
 dsimp only at hk hms hcan hgo
 refine Zu (Zt 1 [] hn rfl (Zv (zB (zG rfl (fun hb0=>?_) (fun hb0=>?_)))))
 have hlt:k < b.stocks.length:=by simp at hb0; omega
 obtain ⟨s,hst⟩:=zT hlt
 refine zI (zA (zB (zK (Zu (Zt 2 [] hn rfl (Zv (Zu (Zt 2 [] hn rfl ?_))))))))
 refine stepW (s_callE (start_eff bb b sales vo l hV s k hst) rfl rfl rfl (nb hn rfl) (.d rfl) rfl (.refl _) ⟨rfl,rfl,trivial⟩ (fun _=>rfl) (fun _ _=>trivial)) fun _=>?_
 refine stepW (yF 6 rfl rfl rfl (nb hn rfl) zr185 zero800a zero800b) fun b6=>?_
 refine stepW (zz rfl rfl rfl rfl rfl rfl (id:=6) rfl sz185 (by rw [show (TV.cells (.d (.agg (lvE (startN s))))) = lvT (startN s) from rfl,zW]) (by rw [zW]; decide) (yI _ (zW 0)) trivial) fun _=>?_
 refine Zv (zB (Zu (Zt 6 [1070] hn rfl (Zv (zK (awp_loop_on (ι:={x:Nat × Nat × List Nat // x.1 ≤ sales.length ∧ x.2.2.length = sales.length ∧ Can x.2.1 ∧ (∀ m ∈ x.2.2,Can m) ∧ fwdGo l J k x.1 (sales.drop x.1) x.2.1 x.2.2 = fwdGo l J k 0 sales (startN s) ms}) (fun x=>(34,true,.d (.int .i64 (x.1.1:Nat))) :: anys [35,36,37,38,8,7,39,40,41,42,43,44,45,46,47,48,49,50,51,52,53]) (fun x=>(6,.box b6 185 (lvT x.1.2.1)) :: (16,.box b16 185 (lvsT x.1.2.2)) :: (1070,.box bb 214 (bookC b sales vo)) :: (1072,vecRes 3 vo 1 (intsT l)) :: gones [8]) (fun x=>sales.length - x.1.1) ⟨(0,startN s,ms),Nat.zero_le _,hms,zCA _,hcan,rfl⟩ ⟨.inl rfl,zE _⟩ ⟨.inl rfl,.inl rfl,.inl rfl,.inl rfl,zR _⟩ ?_))))))
 rintro ⟨⟨i,now,ms1⟩,hi,hms1,hc1,hcan1,hfw⟩
 dsimp only
 dsimp only at hi hms1 hc1 hcan1 hfw
 refine Zu (Zt 1 [] hn rfl (Zv (zB (zG rfl (fun hb1=>?_) (fun hb1=>?_)))))
 have hil:i < sales.length:=by simp at hb1; omega
 obtain ⟨p,hsp⟩:=zT hil
 refine zI (zA (zB (zK (Zu (Zt 1 [] hn rfl (Zi (i:=i) hn rfl rfl (mget hsp) ?_))))))
 refine Zt 1 [] hn rfl (Zb 8 hn rfl fun b8=>Zt 2 [8] hn rfl (Zv (Zu (Zt 4 [8] hn rfl (Zv (zG rfl (fun hb2=>?_) (fun hb2=>?_)))))))
 have q2:(p.stock == (k:Int)) = true:=hb2
 refine Zu (Zt 3 [] hn rfl (Zs hn (zl rfl rfl (id:=6) rfl underlying185 rfl sz185 (yE now) (zv now) sees0) ?_))
 refine stepW (s_callE (zE7 bb b sales vo l hV J hJ hJ4 now) rfl rfl rfl (nb hn rfl) (.d rfl) rfl (.refl _) ⟨rfl,rfl,trivial⟩ (fun _=>rfl) (fun _ _=>trivial)) fun _=>?_
 refine stepW (s_callE (own_eff bb b sales vo l hV p i (nearN now J) hsp) rfl rfl rfl (nb hn rfl) (.d rfl) rfl (.refl _) ⟨rfl,rfl,trivial⟩ (fun _=>rfl) (fun _ _=>trivial)) fun _=>?_
 refine stepW (zz rfl rfl rfl rfl rfl rfl (id:=6) rfl sz185 (zW _) (by rw [zW]; decide) (yI _ (zW _)) trivial) fun _=>?_
 refine Zv (zF (Zt 2 [] hn rfl (Zs hn (zl rfl rfl (id:=6) rfl underlying185 rfl sz185 (yE _) (zv _) sees0) ?_)))
 refine Zs hn (q_indexV (i:=i) rfl rfl rfl underlying181 sz185 rfl (by omega)) ?_
 refine stepW (zz rfl rfl rfl rfl rfl rfl (id:=16) rfl sz185 (zW _) (lvs_le (ms:=ms1) (i:=i) (by omega)) (lvs_put (ms:=ms1) (i:=i) (by omega)) trivial) fun _=>?_
 refine zQ (zO (zA (zF (Zs hn (za rfl rfl rfl (r:=((i + 1:Nat):Int)) (i64w (by omega) (by omega))) ?_))))
 refine Zt 1 [] hn rfl (zQ ?_)
 exact Zr ⟨(i + 1,ownN p i l (nearN now J),ms1.set i (ownN p i l (nearN now J))),by simp only; omega,by simp only; rw [List.length_set]; exact hms1,zER _ _ _ _,zBo hcan1 (zER _ _ _ _),by simp only; rw [← hfw,zk hsp,fwdGo,q2]; rfl⟩ ⟨.inl rfl,zE _⟩ ⟨.inl rfl,.inl rfl,.inl rfl,.inl rfl,zR _⟩ (by simp only; omega)
 have q2:(p.stock == (k:Int)) = false:=hb2
 refine zI (zO (zA (zF (Zs hn (za rfl rfl rfl (r:=((i + 1:Nat):Int)) (i64w (by omega) (by omega))) ?_))))
 refine Zt 1 [] hn rfl (zQ ?_)
 exact Zr ⟨(i + 1,now,ms1),by simp only; omega,hms1,hc1,hcan1,by simp only; rw [← hfw,zk hsp,fwdGo,q2]; rfl⟩ ⟨.inl rfl,zE _⟩ ⟨.inl rfl,.inl rfl,.inl rfl,.inl rfl,zR _⟩ (by simp only; omega)
 have hie:i = sales.length:=by simp at hb1; omega
 rw [hie,List.drop_length] at hfw
 have hf1:(fwdGo l J k 0 sales (startN s) ms).1 = now:=by rw [← hfw]; rfl
 have hf2:(fwdGo l J k 0 sales (startN s) ms).2 = ms1:=by rw [← hfw]; rfl
 refine zU (zD (zD (zL (zA (zB (Zu (Zs hn (zl rfl rfl (id:=6) rfl underlying185 rfl sz185 (yE _) (zv _) sees0) ?_)))))))
 refine Zs hn (yt (ds:=lvE 0) rfl bt185 zero800a zero800b rfl rfl (z8 _)) ?_
 refine Zs hn (zHB underlying185 underlying4 i148 c148 g148 rfl rfl rfl) ?_
 refine Zv ?_
 rw [zE3 hc1]
 refine zG rfl (fun hb3=>?_) (fun hb3=>?_)
 have hz:(now == 0) = true:=hb3
 have hlv:levelsN b sales l J = none:=by rw [← hgo,zk hst,lvlGo,hf1,hz]; rfl
 rw [hlv]
 refine Zu (Zt 2 [] hn rfl (Zv (zJ (zC (zN (zC (zC (zN (zC ?_)))))))))
 exact ret_E (.inl rfl) () ((zp rfl (.tmp rfl) (.tmp rfl)).le (.tup (.cons (.nil 800) (.refl _)))) ⟨rfl,rfl,trivial⟩
 have hz:(now == 0) = false:=hb3
 refine zI (zA (Zu (Zt 5 [1070] hn rfl (Zs hn (z6 rfl rfl rfl (r:=(sales.length:Int) - 1) (by rw [List.length_map]; exact i64w (by omega) rfl)) ?_))))
 refine Zt 1 [] hn rfl (Zv (zK (awp_loop_on (ι:={x:Nat × Nat × List Nat // x.1 ≤ sales.length ∧ x.2.2.length = sales.length ∧ (∀ m ∈ x.2.2,Can m) ∧ bwdGo sales J k x.1 x.2.1 x.2.2 = bwdGo sales J k sales.length now ms1}) (fun x=>(9,true,.d (.int .i64 ((x.1.1:Nat) - 1))) :: anys [63,64,67,68,69,70,71,72,73,74,75,76,77,78,79,10,80,81,82,83,84,85,86,87,88,89,90,91,92,93,94,95,96,97,98,99,100,101,102,65,66]) (fun x=>[(6,.box b6 185 (lvT x.1.2.1)),(16,.box b16 185 (lvsT x.1.2.2)),(1070,.box bb 214 (bookC b sales vo)),(1072,vecRes 3 vo 1 (intsT l))]) (fun x=>x.1.1) ⟨(sales.length,now,ms1),Nat.le_refl _,hms1,hcan1,rfl⟩ ⟨.inl rfl,zE _⟩ ⟨.inl rfl,.inl rfl,.inl rfl,.inl rfl,trivial⟩ ?_)))
 rintro ⟨⟨j1,now2,ms2⟩,hj,hms2,hcan2,hbw⟩
 dsimp only
 dsimp only at hj hms2 hcan2 hbw
 refine zB (Zu (Zt 2 [] hn rfl (Zv (zG rfl (fun hb4=>?_) (fun hb4=>?_)))))
 obtain ⟨j,rfl⟩:∃ j,j1 = j + 1:=⟨j1 - 1,by simp at hb4; omega⟩
 obtain ⟨p,hsj⟩:=zT (show j < sales.length by omega)
 obtain ⟨o,ho⟩:=zT (show j < ms2.length by omega)
 have hco:=hcan2 o (List.mem_of_getElem? ho)
 refine zI (zA (zB (zK (zB (Zu (Zt 5 [1070] hn rfl (Zs hn (q_index (i:=j) rfl rfl rfl underlying39 sz71 (by omega) (mget hsj)) ?_)))))))
 refine Zt 4 [] hn rfl (Zv (zG rfl (fun hb5=>?_) (fun hb5=>?_)))
 have q5:(p.stock == (k:Int)) = false:=by simpa using hb5
 refine zU (zD (zL (zA (zF (Zt 1 [] hn rfl (Zs hn (z6 rfl rfl rfl (r:=((j:Nat):Int) - 1) (by rw [show (((j + 1:Nat):Int) - 1 - 1) = ((j:Nat):Int) - 1 by omega]; exact i64w (by omega) rfl)) ?_))))))
 refine Zt 1 [] hn rfl (zQ ?_)
 exact Zr ⟨(j,now2,ms2),by simp only; omega,hms2,hcan2,by simp only; rw [← hbw,bwdGo,zP hsj,q5]; rfl⟩ ⟨.inl rfl,zE _⟩ ⟨.inl rfl,.inl rfl,.inl rfl,.inl rfl,trivial⟩ (by simp only; omega)
 have q5:(p.stock == (k:Int)) = true:=by simpa using hb5
 refine zI (zA (zB (Zu (Zt 1 [] hn rfl (Zv (zK (awp_loop_on (ι:={x:Nat × Nat // x.1 ≤ 800 ∧ Can x.2 ∧ ∀ q,q < 800 → x.2.testBit q = if q < x.1 then o.testBit q && now2.testBit q else o.testBit q}) (fun x=>(77,true,.d (.int .i64 (x.1.1:Nat))) :: anys [78,79,10,80,81,82,83,84,85,86,87,88,89,90,91,92,93,94,95,96]) (fun x=>[(16,.box b16 185 (lvsT (ms2.set j x.1.2)))]) (fun x=>800 - x.1.1) ⟨(0,o),by simp,hco,fun q _=>by simp⟩ ⟨.inl rfl,zE _⟩ ⟨.inl (by rw [zBe ho]; rfl),trivial⟩ ?_)))))))
 rintro ⟨⟨q,m1⟩,hq,hcm,hm1⟩
 dsimp only
 dsimp only at hq hcm hm1
 refine Zu (Zt 1 [] hn rfl (Zv (zB (zG rfl (fun hb6=>?_) (fun hb6=>?_)))))
 have hql:q < 800:=by simp at hb6; omega
 refine zI (zA (zB (zK (Zu (Zt 2 [] hn rfl (Zv (zh (W:=fun b=>b ≠ b6) fmo ?_)))))))
 refine Zy [0,1,2,3,4,5] [] hn rfl (Zd 6 rfl hn (q_indexV (i:=j) rfl rfl rfl underlying181 sz185 (by omega) (by omega)) ?_)
 refine Zd 7 rfl hn (q_indexA (i:=q) rfl rfl rfl underlying185 sz4 rfl hql) ?_
 refine Zd 14 rfl hn (q_indexV (i:=j) rfl rfl rfl underlying181 sz185 (by omega) (by omega)) ?_
 refine zH (Zo 8 rfl (Zw hn (zi rfl rfl (id:=16) rfl underlying4 rfl (zGb (zEC (by omega)) hql) sees0)) fun _=>?_)
 refine d2_of_d1 (Zy [9,10] [] hn rfl ?_)
 refine Zg 11 [(90,_)] rfl (zM rfl rfl rfl) hn (fun hc=>⟨⟨_,rfl,hc⟩,trivial⟩) (fun hc=>q_indexA (i:=q) rfl rfl rfl underlying185 sz4 rfl hql) ?_
 refine Zg 12 [(91,_)] rfl (zM rfl rfl rfl) hn (fun hc=>⟨⟨_,rfl,hc⟩,trivial⟩) (fun hc=>zi rfl rfl (id:=6) rfl underlying4 rfl (lvT_get1 hql) (seesA (by simp))) ?_
 refine Zy [13] [] hn rfl (Zd 15 rfl hn (q_indexA (i:=q) rfl rfl rfl underlying185 sz4 rfl hql) ?_)
 refine zH (yN (i:=16) (j:=6) rfl rfl rfl (fun hne16_6=>?_))
 refine Zo 16 rfl (s_store1 rfl rfl rfl rfl rfl rfl (id:=16) rfl sz4 (by rw [zCy,List.length_set]; omega) (zEt (ms:=ms2) (i:=j) (by omega) hql) (fun e=>hne16_6 _ rfl (congrArg some e.symm))) fun _=>?_
 refine d2_of_d1 (zH (zf (by kernel_rfl) ?_))
 refine zO (zA (zF (Zs hn (za rfl rfl rfl (r:=((q + 1:Nat):Int)) (i64w (by omega) (by omega))) ?_)))
 refine Zt 1 [] hn rfl (zQ ?_)
 exact Zr ⟨(q + 1,putB m1 q (m1.testBit q && now2.testBit q)),by simp only; omega,zEY hcm hql,and_step hql hm1⟩ ⟨.inl rfl,zE _⟩ ⟨.inl rfl,trivial⟩ (by simp only; omega)
 have hqe:q = 800:=by simp at hb6; omega
 subst hqe
 obtain rfl:=and_end hcm hco hm1
 refine zU (zD (zD (zL (zA (zF (Zt 3 [] hn rfl (Zs hn (q_indexV (i:=j) rfl rfl rfl underlying181 sz185 (by omega) (by omega)) ?_)))))))
 refine Zs hn (zl rfl rfl (id:=16) rfl underlying185 rfl sz185 (lvs_seg (zEC (by omega))) (zv _) sees0) ?_
 refine stepW (s_callE (zE7 bb b sales vo l hV J hJ hJ4 (o &&& now2)) rfl rfl rfl (nb hn rfl) (.d rfl) rfl (.refl _) ⟨rfl,rfl,trivial⟩ (fun _=>rfl) (fun _ _=>trivial)) fun _=>?_
 refine stepW (zz rfl rfl rfl rfl rfl rfl (id:=6) rfl sz185 (zW _) (by rw [zW]; decide) (yI _ (zW _)) trivial) fun _=>?_
 refine zQ (zO (zA (zF (Zt 1 [] hn rfl (Zs hn (z6 rfl rfl rfl (r:=((j:Nat):Int) - 1) (by rw [show (((j + 1:Nat):Int) - 1 - 1) = ((j:Nat):Int) - 1 by omega]; exact i64w (by omega) rfl)) ?_)))))
 refine Zt 1 [] hn rfl (zQ ?_)
 exact Zr ⟨(j,nearN (o &&& now2) J,ms2.set j (o &&& now2)),by simp only; omega,by simp only; rw [List.length_set]; exact hms2,zBo hcan2 (zGr hco),by simp only; rw [← hbw,bwdGo,zP hsj,q5,zP ho]; rfl⟩ ⟨.inl rfl,zE _⟩ ⟨.inl rfl,.inl rfl,.inl rfl,.inl rfl,trivial⟩ (by simp only; omega)
 obtain rfl:j1 = 0:=by simp at hb4; omega
 have hb2:bwdGo sales J k sales.length now ms1 = ms2:=hbw.symm
 refine zU (zD (zD (zL (zO (zA (zF (Zs hn (za rfl rfl rfl (r:=((k + 1:Nat):Int)) (i64w (by omega) (by omega))) ?_)))))))
 refine Zt 1 [] hn rfl (zQ ?_)
 exact Zr ⟨(k + 1,ms2),by simp only; omega,hms2,hcan2,by simp only; rw [← hgo,zk hst,lvlGo,hf1,hf2,hz,cond_false,hb2]⟩ ⟨.inl rfl,zE _⟩ ⟨.inl rfl,.inl rfl,.inl rfl,zR _⟩ (by simp only; omega)
 have hke:k = b.stocks.length:=by simp at hb0; omega
 rw [hke,List.drop_length] at hgo
 have hlv:levelsN b sales l J = some ms:=hgo.symm
 rw [hlv]
 refine zU (zD (zD (zL (zA (Zu (Zt 3 [] hn rfl (Zv (zJ (ya (g_freezeV (t:=2) (sz:=800) (n:=sales.length) (es:=ms.map lvE) 16 rfl rfl (z8 _) (by rw [zAe kJ,List.length_map,hms]) (by rw [← hms,← List.length_map (f:=lvE)]; exact zAj kJ) (Nat.le_refl _) (by simp only [maxLen]; omega)) ?_)))))))))
 exact ret_E (.inl rfl) () (zp rfl (.tmp rfl) (.tmp rfl)) ⟨rfl,rfl,trivial⟩
end Go.Proofs.YticlpkgpmmhemaaGreatDoor
namespace Go.Proofs.YticlpkgpmmhemaaGreatDoor
open Go.Proofs.Tryz
open Go.RowKit
set_option maxRecDepth 20000
set_option linter.all false
theorem kZ:∀ (l:List Prt) (lo:Int),(minF l lo).length = l.length
  | [],_=>rfl
  | s :: r,lo=>by rw [minF,List.length_cons,kZ r,List.length_cons]
theorem kz:∀ {l:List Prt} {lo:Int} {i:Nat} {s:Prt},l[i]? = some s → (minF l lo)[i]? = some (max (s.minute - s.lhi) (if i = 0 then lo else ((minF l lo).getD (i - 1) (0,0)).1),s.minute - s.llo)
  | [],_,_,_,h=>by simp at h
  | x :: r,lo,0,s,h=>by simp at h; subst h; rfl
  | x :: r,lo,i + 1,s,h=>by
    have h':r[i]? = some s:=h
    rw [minF,List.getElem?_cons_succ,kz h']
    cases i with
    | zero=>rfl
    | succ i=>rfl
theorem zAB:∀ (l:List (Int × Int)),(minB l).length = l.length
  | []=>rfl
  | x :: r=>by rw [minB,List.length_cons,zAB r,List.length_cons]
theorem zA7 : ∀ {l : List (Int × Int)} {i : Nat} {x : Int × Int}, l[i]? = some x → (minB l)[i]? = some (x.1, match (minB l)[i + 1]? with
    | none=>x.2
    | some y=>min x.2 y.2)
  | [],_,_,h=>by simp at h
  | x :: r,0,y,h=>by
    simp at h; subst h
    rw [minB,List.getElem?_cons_zero,List.getElem?_cons_succ]
    cases hr:minB r with
    | nil=>rfl
    | cons a t=>rfl
  | x :: r,i + 1,y,h=>by
    have h':r[i]? = some y:=h
    rw [minB,List.getElem?_cons_succ,List.getElem?_cons_succ,zA7 h']
theorem min_one {sales:List Prt} {l:List (Int × Int)} {i:Nat} {s:Prt} (hs:sales[i]? = some s) (h:∀ j,j < i → l[j]? = (minF sales (-9999))[j]?) (hlo:-9999 ≤ s.minute - s.lhi) (h0:i = 0):(minF sales (-9999))[i]? = some (s.minute - s.lhi,s.minute - s.llo):=by
  rw [kz hs,if_pos h0]; congr 2; omega
theorem min_two {sales:List Prt} {l:List (Int × Int)} {i:Nat} {s:Prt} {r:Int × Int} (hs:sales[i + 1]? = some s) (h:l[i]? = (minF sales (-9999))[i]?) (hr:l[i]? = some r):(minF sales (-9999))[i + 1]? = some (max (s.minute - s.lhi) r.1,s.minute - s.llo):=by
  rw [kz hs,if_neg (by omega),Nat.add_sub_cancel,zP (h.symm.trans hr)]
theorem zGx {l M:List (Int × Int)} {i:Nat} {x:Int × Int} (h:∀ j,j < i → l[j]? = M[j]?) (hi:i < l.length) (hx:M[i]? = some x):∀ j,j < i + 1 → (l.set i x)[j]? = M[j]?:=fun j hj=>by
  rw [List.getElem?_set]
  by_cases e:i = j
  · subst e; rw [if_pos rfl,if_pos hi,hx]
  · rw [if_neg e]; exact h j (by omega)
theorem all_eq {l M:List (Int × Int)} {i:Nat} (h:∀ j,j < i → l[j]? = M[j]?) (hl:l.length = i) (hM:M.length = i):l = M:=by
  apply List.ext_getElem?
  intro j
  by_cases hj:j < i
  · exact h j hj
  · rw [List.getElem?_eq_none (by omega),List.getElem?_eq_none (by omega)]
structure Mid (l M B:List (Int × Int)) (z:Int):Prop where
  len:l.length = M.length
  lo:∀ j:Nat,(j:Int) ≤ z → l[j]? = M[j]?
  hi:∀ j:Nat,z < (j:Int) → l[j]? = B[j]?
theorem mid_start {M:List (Int × Int)}:Mid M M (minB M) ((M.length:Int) - 2):=⟨rfl,fun _ _=>rfl,fun j hj=>by
  by_cases h:j < M.length
  · rw [zA7 (List.getElem?_eq_getElem h),List.getElem?_eq_none (l:=minB M) (by rw [zAB]; omega),List.getElem?_eq_getElem h]
  · rw [List.getElem?_eq_none (by omega),List.getElem?_eq_none (by rw [zAB]; omega)]⟩
theorem mid_step {l M:List (Int × Int)} {i:Nat} {x y:Int × Int} (h:Mid l M (minB M) (i:Nat)) (hx:l[i]? = some x) (hy:l[i + 1]? = some y):Mid (l.set i (x.1,min x.2 y.2)) M (minB M) ((i:Nat) - 1):=by
  have hxM:=(h.lo i (by omega)).symm.trans hx
  have hyB:=(h.hi (i + 1) (by omega)).symm.trans hy
  have hil:=(List.getElem?_eq_some_iff.1 hx).1
  refine ⟨by rw [List.length_set]; exact h.len,fun j hj=>?_,fun j hj=>?_⟩
  · rw [List.getElem?_set,if_neg (by omega)]; exact h.lo j (by omega)
  · rw [List.getElem?_set]
    by_cases e:i = j
    · subst e
      rw [if_pos rfl,if_pos hil,zA7 hxM,hyB]
    · rw [if_neg e]; exact h.hi j (by omega)
theorem mid_end {l M:List (Int × Int)} {z:Int} (h:Mid l M (minB M) z) (hz:z < 0):l = minB M:=List.ext_getElem? fun j=>h.hi j (by omega)
theorem right1_ok (r:Int × Int):PureAt Tryz.prog 150 [rngD r] (.bool (decide (r.1 ≤ r.2))):=by
 refine Zp Tryz.func150 rfl fun Γ hn hl=>?_
 refine Zu ?_
 refine Zb 1 hn rfl fun b1=>?_
 refine Zt 1 [] hn rfl ?_
 refine Zv (Zu ?_)
 refine Zt 6 [1,1] hn rfl ?_
 refine Zv (zJ ?_)
 exact zX (.inl rfl) hl rfl (.tmp rfl)
theorem minutes_eff (bb:Nat) (b:Brd) (sales:List Prt) (vo:Value) (l:List Int) (hV:VecV vo 1 (intsT l)) (hsl:sales.length ≤ 8) (hpo:∀ p ∈ sales,PrtOK b p):EffAt Tryz.prog 89 [.val (.pointer (some ⟨bb,0,none⟩))] (bookRs bb b sales vo l) (X:=Unit) (fun _=>.d (.tup [rngsD (minI sales),.bool (rightB (minI sales))])) (fun _=>bookRs bb b sales vo l):=by
 refine EffAt.of_awp Tryz.func89 rfl (by kernel_rfl) rfl fun Γ hn=>?_
 refine Zu (Zt 2 [] hn rfl (Zv (Zu (Zt 5 [1070] hn rfl (stepW (kC (n:=sales.length) 13 rfl rfl rfl (nb hn rfl) underlying43 (show _ = some (some (.agg #[(.int .i64 0),(.int .i64 0)]),2,16) from by kernel_rfl) rfl rfl rfl (by decide) rfl rfl (by rw [List.length_map]) (by rw [List.length_map]) (by omega) (by omega) (by omega)) fun b13=>?_)))))
 refine Zt 1 [] hn rfl (Zv (zB (Zu (Zt 6 [1070] hn rfl (Zv (zK (awp_loop_on (ι:={x:Nat × List (Int × Int) // x.1 ≤ sales.length ∧ x.2.length = sales.length ∧ ∀ j,j < x.1 → x.2[j]? = (minF sales (-9999))[j]?}) (fun x=>(19,true,.d (.int .i64 (x.1.1:Nat))) :: anys [20,21,22,23,6,5,24,25,26,27,28,29,30,31,32,33,34,35,36,37,38,39,40,41,42,43,44,45,46,47,48,49,50,51,52,53,54,55,56,57,58]) (fun x=>(13,.box b13 65 (rngT x.1.2)) :: gones [6]) (fun x=>sales.length - x.1.1) ⟨(0,List.replicate sales.length (0,0)),Nat.zero_le _,by simp,fun j hj=>by omega⟩ ⟨.inl rfl,zE _⟩ ⟨.inl (congrArg (fun z=>some (Res.box b13 65 z)) (rng_zero _)),zR _⟩ ?_)))))))
 rintro ⟨⟨i,l1⟩,hi,hl1,hpre⟩
 dsimp only
 dsimp only at hi hl1 hpre
 refine Zu (Zt 1 [] hn rfl (Zv (zB (zG rfl (fun hb0=>?_) (fun hb0=>?_)))))
 have hil:i < sales.length:=by simp at hb0; omega
 obtain ⟨s,hs⟩:=zT hil
 have hp:=hpo s (List.mem_of_getElem? hs)
 have hpm:=hp.mi
 have hpl:=hp.la
 refine zI (zA (zB (zK (Zu (Zt 1 [] hn rfl (Zi (i:=i) hn rfl rfl (mget hs) ?_))))))
 refine Zt 1 [] hn rfl (Zb 6 hn rfl fun b6=>Zt 2 [6] hn rfl (Zv (Zu (Zt 7 [6,6] hn rfl (Zs hn (z6 rfl rfl rfl (r:=s.minute - s.lhi) (i64w (by omega) rfl)) ?_)))))
 refine Zt 5 [6,6] hn rfl (Zs hn (z6 rfl rfl rfl (r:=s.minute - s.llo) (i64w (by omega) rfl)) ?_)
 refine Zt 1 [] hn rfl (Zs hn (q_indexV (i:=i) rfl rfl rfl underlying43 sz65 rfl (by omega)) ?_)
 refine stepW (zz rfl rfl rfl rfl rfl rfl (id:=13) rfl sz65 rfl (rng_le (l:=l1) (i:=i) (by omega)) (rng_put (l:=l1) (i:=i) (by omega)) trivial) fun _=>?_
 refine Zv (Zu (Zt 2 [] hn rfl (Zv (zG rfl (fun hb1=>?_) (fun hb1=>?_)))))
 obtain ⟨i,rfl⟩:∃ k,i = k + 1:=⟨i - 1,by simp at hb1; omega⟩
 obtain ⟨y,hy⟩:=zT (show i < l1.length by omega)
 have hy1:(l1.set (i + 1) (s.minute - s.lhi,s.minute - s.llo))[i]? = some y:=by rw [List.getElem?_set,if_neg (by omega)]; exact hy
 have hx1:(l1.set (i + 1) (s.minute - s.lhi,s.minute - s.llo))[i + 1]? = some (s.minute - s.lhi,s.minute - s.llo):=by rw [List.getElem?_set,if_pos rfl,if_pos (by omega)]
 refine zj (e:=.normal) (ι:=Unit) (fun u0=>anys [42,43,44,45,46,47,48,49,50,51,52,53,54,55,56,57]) (fun u0=>[(13,.box b13 65 (rngT (l1.set (i + 1) (max (s.minute - s.lhi) y.1,s.minute - s.llo))))]) (fun hJ2=>?_) ?_
 ·
  refine zh (W:=fun b=>True) fmo ?_
  refine Zy [0,1,2,3] [] hn rfl (Zd 4 rfl hn (q_indexV (i:=i + 1) rfl rfl rfl underlying43 sz65 rfl (by omega)) ?_)
  refine Zy [5,7,8] [] hn rfl (Zd 9 rfl hn (z6 rfl rfl rfl (r:=((i:Nat):Int)) (by rw [show ((i + 1:Nat):Int) - 1 = (i:Nat) by omega]; exact i64w (by omega) rfl)) ?_)
  refine Zd 10 rfl hn (q_indexV (i:=i) rfl rfl rfl underlying43 sz65 rfl (by omega)) ?_
  refine Zy [11] [] hn rfl (zH ?_)
  refine yD 6 [12] (by kernel_rfl) ⟨?_,?_,trivial⟩
  refine br rfl (Zw hn (zi rfl rfl (id:=13) rfl underlying3 rfl (zEk hx1) sees0)) fun _=>?_
  refine d2_of_d1 (zH (Zo 12 rfl (Zw hn (zi rfl rfl (id:=13) rfl underlying3 rfl (zEk hy1) sees0)) fun _=>?_))
  rotate_left
  refine br rfl (Zw hn (zi rfl rfl (id:=13) rfl underlying3 rfl (zEk hy1) sees0)) fun _=>?_
  refine d2_of_d1 (zH (Zo 6 rfl (Zw hn (zi rfl rfl (id:=13) rfl underlying3 rfl (zEk hx1) sees0)) fun _=>?_))
  rotate_left
  all_goals
   refine d2_of_d1 (Zd 13 rfl hn (kK rfl rfl rfl) ?_)
   refine Zd 14 rfl hn (q_indexV (i:=i + 1) rfl rfl rfl underlying43 sz65 rfl (by omega)) ?_
   refine Zy [15] [] hn rfl (zH (Zo 16 rfl (s_store1 rfl rfl rfl rfl rfl rfl (id:=13) rfl sz3 (by show 0 + (i + 1) * 2 + 0 < _; rw [zDL,List.length_set]; omega) ((rng_setlo hx1).trans (by rw [List.set_set])) trivial) fun _=>?_))
   refine d2_of_d1 (zH (zf (by kernel_rfl) ?_))
   exact Zj hJ2 () (zE _) ⟨.inl rfl,trivial⟩
 rintro _
 refine zO (zA (zF (Zs hn (za rfl rfl rfl (r:=((i + 1 + 1:Nat):Int)) (i64w (by omega) (by omega))) ?_)))
 refine Zt 1 [] hn rfl (zQ ?_)
 exact Zr ⟨(i + 1 + 1,l1.set (i + 1) (max (s.minute - s.lhi) y.1,s.minute - s.llo)),by simp only; omega,by simp only; rw [List.length_set]; exact hl1,zGx hpre (by omega) (min_two hs (hpre i (by omega)) hy)⟩ ⟨.inl rfl,zE _⟩ ⟨.inl rfl,zR _⟩ (by simp only; omega)
 have hi0:i = 0:=by simp at hb1; omega
 refine zI (zO (zA (zF (Zs hn (za rfl rfl rfl (r:=((i + 1:Nat):Int)) (i64w (by omega) (by omega))) ?_))))
 refine Zt 1 [] hn rfl (zQ ?_)
 exact Zr ⟨(i + 1,l1.set i (s.minute - s.lhi,s.minute - s.llo)),by simp only; omega,by simp only; rw [List.length_set]; exact hl1,zGx hpre (by omega) (min_one hs hpre (by omega) hi0)⟩ ⟨.inl rfl,zE _⟩ ⟨.inl rfl,zR _⟩ (by simp only; omega)
 have hie:i = sales.length:=by simp at hb0; omega
 obtain rfl:=all_eq hpre (hl1.trans hie.symm) ((kZ _ _).trans hie.symm)
 refine zU (zD (zD (zL (zA (zB (Zu (Zt 2 [] hn rfl (Zs hn (z6 rfl rfl rfl (r:=(sales.length:Int) - 2) (i64w (by omega) rfl)) ?_))))))))
 refine Zt 1 [] hn rfl (Zv (zK (awp_loop_on (ι:={x:Int × List (Int × Int) // -2 ≤ x.1 ∧ x.1 ≤ (sales.length:Int) - 2 ∧ Mid x.2 (minF sales (-9999)) (minB (minF sales (-9999))) x.1}) (fun x=>(7,true,.d (.int .i64 x.1.1)) :: anys [62,63,66,67,68,69,70,71,72,73,74,75,76,77,78,79,80,81,82,64,65]) (fun x=>[(13,.box b13 65 (rngT x.1.2))]) (fun x=>(x.1.1 + 2).toNat) ⟨((sales.length:Int) - 2,minF sales (-9999)),by simp only; omega,by simp only; omega,by have:=mid_start (M:=minF sales (-9999)); rw [kZ] at this; exact this⟩ ⟨.inl rfl,zE _⟩ ⟨.inl rfl,trivial⟩ ?_)))
 rintro ⟨⟨z,l2⟩,hz2,hzn,hmid⟩
 dsimp only
 dsimp only at hz2 hzn hmid
 have hl2:=hmid.len
 rw [kZ] at hl2
 refine zB (Zu (Zt 2 [] hn rfl (Zv (zG rfl (fun hb3=>?_) (fun hb3=>?_)))))
 obtain ⟨i,rfl⟩:∃ i:Nat,z = i:=⟨z.toNat,by simp at hb3; omega⟩
 obtain ⟨x,hx⟩:=zT (show i < l2.length by omega)
 obtain ⟨y,hy⟩:=zT (show i + 1 < l2.length by omega)
 refine zI (zA (zB (zK (zj (e:=.normal) (ι:=Unit) (fun u0=>anys [66,67,68,69,70,71,72,73,74,75,76,77,78,79,80,81,82]) (fun u0=>[(13,.box b13 65 (rngT (l2.set i (x.1,min x.2 y.2))))]) (fun hJ4=>?_) ?_))))
 ·
  refine zh (W:=fun b=>True) fmo ?_
  refine Zy [0,1,2,3] [] hn rfl (Zd 4 rfl hn (q_indexV (i:=i) rfl rfl rfl underlying43 sz65 rfl (by omega)) ?_)
  refine Zy [5,7,8] [] hn rfl (Zd 9 rfl hn (za rfl rfl rfl (r:=((i + 1:Nat):Int)) (i64w (by omega) (by omega))) ?_)
  refine Zd 10 rfl hn (q_indexV (i:=i + 1) rfl rfl rfl underlying43 sz65 rfl (by omega)) ?_
  refine Zy [11] [] hn rfl (zH ?_)
  refine yD 6 [12] (by kernel_rfl) ⟨?_,?_,trivial⟩
  refine br rfl (Zw hn (zi rfl rfl (id:=13) rfl underlying3 rfl (zEL hx) sees0)) fun _=>?_
  refine d2_of_d1 (zH (Zo 12 rfl (Zw hn (zi rfl rfl (id:=13) rfl underlying3 rfl (zEL hy) sees0)) fun _=>?_))
  rotate_left
  refine br rfl (Zw hn (zi rfl rfl (id:=13) rfl underlying3 rfl (zEL hy) sees0)) fun _=>?_
  refine d2_of_d1 (zH (Zo 6 rfl (Zw hn (zi rfl rfl (id:=13) rfl underlying3 rfl (zEL hx) sees0)) fun _=>?_))
  rotate_left
  all_goals
   refine d2_of_d1 (zH (Zo 13 rfl (zS rfl rfl rfl (nb hn rfl) underlying29 sz3 zr3 rfl rfl rfl (show _ = [.d (.int .i64 0),.d (.int .i64 0)] from by kernel_rfl) (by kernel_rfl) rfl rfl rfl rfl rfl) fun _=>?_))
   refine d2_of_d1 (zH (Ze1 14 rfl hn rfl (kL _ _) (d2_of_d1 (Zd 15 rfl hn (q_indexV (i:=i) rfl rfl rfl underlying43 sz65 rfl (by omega)) ?_))))
   refine Zy [16] [] hn rfl (zH (Zo 17 rfl (s_store1 rfl rfl rfl rfl rfl rfl (id:=13) rfl sz3 (by show 0 + i * 2 + 1 < _; rw [zDL]; omega) (rng_sethi hx) trivial) fun _=>?_))
   refine d2_of_d1 (zH (zf (by kernel_rfl) ?_))
   exact Zj hJ4 () (zE _) ⟨.inl rfl,trivial⟩
 rintro _
 refine zO (zA (zF (Zt 1 [] hn rfl (Zs hn (z6 rfl rfl rfl (r:=((i:Nat):Int) - 1) (i64w (by omega) rfl)) ?_))))
 refine Zt 1 [] hn rfl (zQ ?_)
 exact Zr ⟨((i:Nat) - 1,l2.set i (x.1,min x.2 y.2)),by simp only; omega,by simp only; omega,mid_step hmid hx hy⟩ ⟨.inl rfl,zE _⟩ ⟨.inl rfl,trivial⟩ (by simp only; omega)
 have hz:z < 0:=by simp at hb3; omega
 obtain rfl:=mid_end hmid hz
 refine zU (zD (zD (zL (zA (zB (zq (g_freezeV (t:=4) (sz:=2) (n:=sales.length) (es:=(minB (minF sales (-9999))).map rngE) 13 rfl rfl (z8 _) (by rw [zAe kW,List.length_map,zAB,kZ]) (by rw [show sales.length = ((minB (minF sales (-9999))).map rngE).length by rw [List.length_map,zAB,kZ]]; exact zAj kW) (Nat.le_refl _) (by simp only [maxLen]; omega)) ?_))))))
 refine zF (Zt 2 [] hn rfl (Zk hn rfl (all_rng (minB (minF sales (-9999))) (fun r=>decide (r.1 ≤ r.2)) 150 [] [] (fun r _=>right1_ok r)) (Zt 2 [] hn rfl (Zv (zJ ?_)))))
 exact ret_E (.inl rfl) () (zp rfl (.tmp rfl) (.tmp rfl)) ⟨rfl,rfl,trivial⟩
end Go.Proofs.YticlpkgpmmhemaaGreatDoor
namespace Go.Proofs.YticlpkgpmmhemaaGreatDoor
open Go.RowKit
set_option linter.all false
structure BrdOK (b:Brd):Prop where
  n1:1 ≤ b.stocks.length
  n4:b.stocks.length ≤ 4
  j0:0 ≤ b.jump
  j4:b.jump ≤ 40
  s1:1 ≤ b.small
  s9:b.small ≤ 9
  al:b.stocks.all (stockB b) = true
theorem zAq {b:Brd} (h:checkT b = 0):BrdOK b:=by
  unfold checkT at h
  cases h1:limT b <;> rw [h1] at h
  · cases h2:argT b <;> rw [h2] at h
    · simp only [limT,decide_eq_false_iff_not] at h1
      simp only [argT,Bool.or_eq_false_iff,Bool.not_eq_false',beq_eq_false_iff_ne,withinB,Bool.and_eq_true,decide_eq_true_eq] at h2
      obtain ⟨⟨⟨g1,g2⟩,g3⟩,g4⟩:=h2
      exact ⟨by omega,by omega,g2.1,g2.2,g3.1,g3.2,g4⟩
    · cases h
  · cases h
theorem zEI {b:Brd} (v:BrdOK b) {s:Stk} (h:s ∈ b.stocks):1 ≤ s.lo ∧ s.lo ≤ s.hi ∧ s.hi ≤ 799 ∧ namedB s.name = true:=by
  have:=List.all_eq_true.1 v.al s h
  unfold stockB spansB at this
  simp only [Bool.and_eq_true,decide_eq_true_eq] at this
  exact ⟨this.2.1.1,this.2.1.2,this.2.2,this.1.2⟩
structure TokOK (t:Tok):Prop where
  num:t.kind = 2 → 1 ≤ t.fst ∧ t.fst ≤ 99
  sho:t.kind = 3 → 0 ≤ t.fst ∧ t.fst ≤ 8000
  lon:t.kind = 4 → 1 ≤ t.fst ∧ t.fst ≤ 799
  min:t.kind = 5 → 0 ≤ t.fst ∧ t.fst ≤ 600
  lat:t.kind = 6 → 0 ≤ t.fst ∧ t.fst ≤ t.snd ∧ t.snd ≤ 60
theorem zAG {c:Bool} {x y:Tok} (hx:c = true → TokOK x) (hy:c = false → TokOK y):TokOK (bif c then x else y):=by
  cases c
  · exact hy rfl
  · exact hx rfl
theorem zCw {c:Bool} {k:Int} {f s:Int} {x:List UInt8} (h:c = true → TokOK ⟨k,f,s,x⟩):TokOK ⟨bif c then k else 0,f,s,x⟩:=by
  cases c
  · exact ⟨fun h=>(by cases h),fun h=>(by cases h),fun h=>(by cases h),fun h=>(by cases h),fun h=>(by cases h)⟩
  · exact h rfl
theorem zFn {k:Int} (h:k < 2 ∨ 6 < k) {f s:Int} {x:List UInt8}:TokOK ⟨k,f,s,x⟩:=⟨fun h=>by simp only at h; omega,fun h=>by simp only at h; omega,fun h=>by simp only at h; omega,fun h=>by simp only at h; omega,fun h=>by simp only at h; omega⟩
theorem priced_bd (s:List UInt8):pricedI s ≤ 8000:=by
  have h1:=zBl (Lib.cut s [46]).1
  have h2:=zBl (Lib.cut s [46]).2.1
  unfold pricedI
  cases h:(!(Lib.cut s [46]).2.2 || decide (digI (Lib.cut s [46]).1 < 0) || !(withinB (digI (Lib.cut s [46]).2.1) 0 7))
  · simp only [cond_false]
    simp only [withinB,Bool.or_eq_false_iff,Bool.not_eq_false',Bool.and_eq_true,decide_eq_true_eq] at h
    omega
  · simp only [cond_true]; omega
theorem zm {n a b:Int}:withinB n a b = true ↔ a ≤ n ∧ n ≤ b:=by simp [withinB]
theorem readT_ok (s:List UInt8):TokOK (readT s):=by
  unfold readT
  refine zAG (fun _=>zFn (.inl (by omega))) fun _=>zAG (fun _=>zFn (.inr (by omega))) fun _=>zAG (fun _=>zFn (.inr (by omega))) fun _=>zAG (fun _=>zFn (.inl (by omega))) fun _ =>
    zAG (fun _=>zCw fun h=>?_) fun _=>zAG (fun _=>zCw fun h=>?_) fun _=>zAG (fun _=>zCw fun h=>?_) fun _=>zAG (fun _=>zCw fun h=>?_) fun _=>zCw fun h=>?_
  · exact ⟨fun e=>by simp at e,fun e=>by simp at e,fun _=>zm.1 h,fun e=>by simp at e,fun e=>by simp at e⟩
  · exact ⟨fun e=>by simp at e,fun e=>by simp at e,fun e=>by simp at e,fun _=>zm.1 h,fun e=>by simp at e⟩
  · simp only [spansB,Bool.and_eq_true,decide_eq_true_eq] at h
    exact ⟨fun e=>by simp at e,fun e=>by simp at e,fun e=>by simp at e,fun e=>by simp at e,fun _=>⟨h.2.1.1,h.2.1.2,h.2.2⟩⟩
  · exact ⟨fun _=>zm.1 h,fun e=>by simp at e,fun e=>by simp at e,fun e=>by simp at e,fun e=>by simp at e⟩
  · simp only [Bool.and_eq_true,decide_eq_true_eq] at h
    exact ⟨fun e=>by simp at e,fun _=>⟨h.2,priced_bd s⟩,fun e=>by simp at e,fun e=>by simp at e,fun e=>by simp at e⟩
theorem zFC:∀ (n:Nat) (s:List UInt8),∀ t ∈ toksN n s,TokOK t ∧ KindOK t
  | 0,_,_,h=>by cases h
  | n + 1,s,t,h=>by
    unfold toksN at h
    cases hs:s == [] <;> rw [hs] at h
    · simp only [cond_false] at h
      rcases List.mem_cons.1 h with rfl | h
      · exact ⟨readT_ok _,zAh _⟩
      · cases hc:((Lib.cut s [32]).2.2 && ((Lib.cut s [32]).2.1 == [])) <;> rw [hc] at h
        · exact zFC n _ t h
        · simp only [cond_true,List.mem_singleton] at h
          subst h; exact ⟨zFn (.inl (by omega)),0,rfl,by omega⟩
    · cases h
structure WrkOK (b:Brd) (w:Wrk):Prop where
  st:-1 ≤ w.stock ∧ w.stock < b.stocks.length
  nm:0 ≤ w.number ∧ w.number ≤ 99
  mi:0 ≤ w.minute ∧ w.minute ≤ 600
  la:0 ≤ w.llo ∧ w.llo ≤ w.lhi ∧ w.lhi ≤ 60
  out:∀ p ∈ w.out,PrtOK b p
  len:w.out.length ≤ 8
theorem idx_bd {α:Type} {p:α → Bool} {l:List α}:-1 ≤ idxOf p l ∧ idxOf p l < l.length:=by
  unfold idxOf
  split
  · rename_i i h
    rw [List.findIdx?_eq_some_iff_getElem] at h
    obtain ⟨h,_⟩:=h
    omega
  · omega
theorem wrk0_ok {b:Brd} (v:BrdOK b):WrkOK b wrk0:=⟨by have:=v.n1; simp only [wrk0]; omega,by simp only [wrk0]; omega,by simp only [wrk0]; omega,by simp only [wrk0]; omega,fun _ h=>(by cases h),by decide⟩
theorem actW_ok {b:Brd} (v:BrdOK b) {w:Wrk} {t:Tok} (h:WrkOK b w) (ht:TokOK t) (hk:KindOK t) (he:(actE b w t != 0) = false):WrkOK b (actW b w t):=by
  obtain ⟨k,hk1,hk8⟩:=hk
  have sale:(t.kind = 3 ∨ t.kind = 4) → actE b w t = saleE w → WrkOK b (saleW w b t):=fun hkk e=>by
    rw [e] at he
    unfold saleW
    unfold saleE at he
    cases h1:decide (w.stock < 0) <;> rw [h1] at he
    · cases h2:((w.out.length:Int) == 8) <;> rw [h2] at he
      · simp only [cond_false]
        have h1':=of_decide_eq_false h1
        have h2':w.out.length ≠ 8:=fun e=>by rw [e] at h2; cases h2
        have hs1:=v.s1
        have hs9:=v.s9
        have hst:=h.st
        have hnm:=h.nm
        have hln:=h.len
        refine ⟨h.st,⟨by simp,by simp⟩,h.mi,h.la,fun p hp=>?_,by simp; omega⟩
        rcases List.mem_append.1 hp with hp | hp
        · exact h.out p hp
        · simp only [List.mem_singleton] at hp
          subst hp
          refine ⟨⟨by simp only [saleP]; omega,by simp only [saleP]; omega⟩,?_,?_,h.mi,h.la⟩
          · simp only [saleP,saleN]
            cases h3:decide (0 < w.number)
            · cases w.rush <;> simp <;> omega
            · have:=of_decide_eq_true h3; simp; omega
          · simp only [saleP]
            rcases hkk with h4 | h4
            · exact ht.sho h4
            · have:=ht.lon h4; omega
      · cases he
    · cases he
  have hcast:t.kind.toNat = k:=by rw [hk1]; rfl
  unfold actW
  rw [hcast]
  match k,hk8 with
  | 0,_=>exact h
  | 1,_ =>
    show WrkOK b (namedW w b t)
    unfold namedW
    have:=idx_bd (p:=fun s:Stk=>s.name == t.text) (l:=b.stocks)
    cases hn:decide (nameI b t < 0)
    · exact ⟨this,h.nm,h.mi,h.la,h.out,h.len⟩
    · exact h
  | 2,_ =>
    have:=ht.num (by rw [hk1]; rfl)
    exact ⟨h.st,⟨by simp only [numW]; omega,this.2⟩,h.mi,h.la,h.out,h.len⟩
  | 3,_=>exact sale (.inl (by rw [hk1]; rfl)) (by unfold actE; rw [hcast]; rfl)
  | 4,_=>exact sale (.inr (by rw [hk1]; rfl)) (by unfold actE; rw [hcast]; rfl)
  | 5,_=>exact ⟨h.st,h.nm,ht.min (by rw [hk1]; rfl),h.la,h.out,h.len⟩
  | 6,_=>exact ⟨h.st,h.nm,h.mi,ht.lat (by rw [hk1]; rfl),h.out,h.len⟩
  | 7,_=>exact ⟨h.st,h.nm,h.mi,h.la,h.out,h.len⟩
  | 8,_=>exact ⟨h.st,h.nm,h.mi,h.la,h.out,h.len⟩
theorem zHV {b:Brd} (v:BrdOK b):∀ {l:List Tok} {w:Wrk},(∀ t ∈ l,TokOK t ∧ KindOK t) → WrkOK b w → WrkOK b (actsGo b l w).2
  | [],_,_,h=>h
  | t :: l,w,ht,h=>by
    unfold actsGo
    cases he:(actE b w t != 0)
    · exact zHV v (fun x hx=>ht x (List.mem_cons_of_mem _ hx)) (actW_ok v h (ht t List.mem_cons_self).1 (ht t List.mem_cons_self).2 he)
    · exact h
theorem yS {b:Brd} {s:List UInt8}:(∀ p ∈ (readI b s).1,PrtOK b p) ∧ (readI b s).1.length ≤ 8:=by
  have no:∀ e:Int,(∀ p ∈ (([],e):List Prt × Int).1,PrtOK b p) ∧ (([],e):List Prt × Int).1.length ≤ 8:=fun e=>⟨fun _ h=>(by cases h),by simp⟩
  unfold readI
  cases hc:(checkT b != 0)
  · have v:BrdOK b:=zAq (by simpa using hc)
    have h:=zHV v (fun t ht=>zFC _ _ t ht) (wrk0_ok v) (l:=toksOf s)
    simp only [cond_false]
    cases decide (160 < (s.length:Int))
    · cases ((actsGo b (toksOf s) wrk0).1 != 0)
      · cases decide (0 < (actsGo b (toksOf s) wrk0).2.number)
        · exact ⟨h.out,h.len⟩
        · exact no _
      · exact no _
    · exact no _
  · exact no _
theorem yU {b:Brd} {s:List UInt8} (h:(readI b s).2 = 0):BrdOK b:=by
  unfold readI at h
  cases hc:(checkT b != 0) <;> rw [hc] at h
  · exact zAq (by simpa using hc)
  · exact zAq h
end Go.Proofs.YticlpkgpmmhemaaGreatDoor
namespace Go.Proofs.YticlpkgpmmhemaaGreatDoor
open Go.Proofs.Tryz
open Go.RowKit
set_option maxRecDepth 20000
set_option linter.all false
theorem zA3 (m:Nat):(lvE m).take 800 = lvE m:=List.take_of_length_le (by rw [zv]; omega)
theorem zEU {Γ:Cx} {σ:St} (id:Nat):Ghost Γ σ (σ.rput id .gone):=fun a w F hs=>⟨F,hs.rput (i:=id) (r:=.gone) trivial fun _ h=>h.elim,fun _ _ h=>h⟩
theorem zEV (b:Brd) (s:List UInt8) (hN:NamesOK b) (h5:s.length ≤ 4294967000):PureAt Tryz.prog 20 [brdD b,strD s] (.tup [prtsD (readI b s).1,.int .i64 (readI b s).2]):=PureAt.of_eff (ds:=[brdD b,strD s]) (Read_eff b s hN h5)
def levelsI (b:Brd) (sales:List Prt) (l:List Int):Option (List Nat):=levelsN b sales l b.jump.toNat
theorem zCi (bb : Nat) (b : Brd) (sales : List Prt) (vo : Value) (l : List Int) (hV : VecV vo 1 (intsT l)) (v : BrdOK b) (hsl : sales.length ≤ 8) :
    EffAt Tryz.prog 80 [.val (.pointer (some ⟨bb,0,none⟩))] (bookRs bb b sales vo l) (X:=Unit) (fun _=>.d (.tup [lvsD (levelsI b sales l),.bool (levelsI b sales l).isSome])) (fun _=>bookRs bb b sales vo l) :=
  levels_eff bb b sales vo l hV b.jump.toNat (by have:=v.j0; omega) (by have:=v.j4; omega) hsl (by have:=v.n4; omega)
def minutesI (b:Brd) (s:List UInt8):List (Int × Int) × Int:=bif (readI b s).2 != 0 then ([],(readI b s).2) else bif rightB (minI (readI b s).1) then (minI (readI b s).1,0) else ([],11)
def pricesI (b:Brd) (s:List UInt8):List (Int × Int) × Int:=bif (readI b s).2 != 0 then ([],(readI b s).2) else match levelsI b (readI b s).1 [] with
  | none=>([],11)
  | some ms=>(ms.map bndN,0)
theorem addR {l:List Nat} {i m:Nat} (h:l[i]? = some m):((l.take i).map bndN).map rngE ++ [rngE (bndN m)] = ((l.take (i + 1)).map bndN).map rngE:=by rw [List.take_add_one,h]; simp
theorem zDl {sales:List Prt} {l:List Int} {J:Nat}:∀ {st:List Stk} {k:Nat} {o ms:List Nat},lvlGo sales l J k st o = some ms → ms.length = o.length
  | [],k,o,ms,h=>by cases h; rfl
  | s :: r,k,o,ms,h=>by
    unfold lvlGo at h
    cases hc:((fwdGo l J k 0 sales (startN s) o).1 == 0) <;> rw [hc] at h
    · have h1:=zDl h
      have f:∀ (sl:List Prt) (i now:Nat) (o:List Nat),(fwdGo l J k i sl now o).2.length = o.length:=fun sl=>by
        induction sl with
        | nil=>intro i now o; rfl
        | cons x sl ih =>
          intro i now o
          unfold fwdGo
          cases x.stock == (k:Int) <;> simp [ih]
      have g:∀ (i now:Nat) (o:List Nat),(bwdGo sales J k i now o).length = o.length:=fun i=>by
        induction i with
        | zero=>intro now o; rfl
        | succ i ih =>
          intro now o
          unfold bwdGo
          cases (sales.getD i ⟨-1,0,0,0,false,0,0,0⟩).stock == (k:Int) <;> simp [ih]
      rw [h1,g,f]
    · cases h
theorem zBQ {b:Brd} {sales:List Prt} {l:List Int} {ms:List Nat} (h:levelsI b sales l = some ms):ms.length = sales.length:=by
  rw [zDl h,List.length_replicate]
theorem elt43:ElT Tryz.prog 43 65 2 16:=zAA underlying43 (z:=(.agg #[(.int .i64 0),(.int .i64 0)])) (by kernel_rfl) rfl (by decide)
theorem zCT (b:Brd) (s:List UInt8) (hN:NamesOK b) (h5:s.length ≤ 4294967000) (h0:(readI b s).2 = 0):EffAt Tryz.prog 79 [.d (brdD b),.d (strD s)] [] (X:=Nat) (fun bb=>.tup [.val (.pointer (some ⟨bb,0,none⟩)),.d (.int .i64 0)]) (fun bb=>bookRs bb b (readI b s).1 (.slice none 0 0) []):=by
 refine EffAt.of_awp Tryz.func79 rfl (by kernel_rfl) rfl fun Γ hn=>?_
 refine Zu (Zb 2 hn rfl fun b2=>Zt 2 [] hn rfl (Zv (Zu (Zt 2 [2] hn rfl (Zk hn rfl (zEV b s hN h5) (Zt 5 [] hn rfl (Zv (zB (Zu (Zt 2 [] hn rfl (Zv (zG rfl (fun hb0=>?_) (fun hb0=>?_)))))))))))))
 rw [h0] at hb0; exact absurd hb0 (by decide)
 refine zI (zA (Zu (Zt 3 [2] hn rfl (Zb 1070 hn rfl fun b20=>Zt 2 [] hn rfl (Zv (zJ (ya (gh_nilcell (id:=1070) (k:=4) 1079 3 1 rfl rfl) ?_)))))))
 refine ya (zEU 1072) ?_
 exact ret_E (.inl rfl) b20 (zAi rfl (.tmp rfl) (.tmp rfl)) ⟨rfl,rfl,trivial⟩
theorem zEn (b:Brd) (s:List UInt8) (hN:NamesOK b) (h5:s.length ≤ 4294967000) (h0:(readI b s).2 ≠ 0):EffAt Tryz.prog 79 [.d (brdD b),.d (strD s)] [] (X:=Unit) (fun _=>.d (.tup [.nilp,.int .i64 (readI b s).2])) (fun _=>[]):=by
 refine EffAt.of_awp Tryz.func79 rfl (by kernel_rfl) rfl fun Γ hn=>?_
 refine Zu (Zb 2 hn rfl fun b2=>Zt 2 [] hn rfl (Zv (Zu (Zt 2 [2] hn rfl (Zk hn rfl (zEV b s hN h5) (Zt 5 [] hn rfl (Zv (zB (Zu (Zt 2 [] hn rfl (Zv (zG rfl (fun hb0=>?_) (fun hb0=>?_)))))))))))))
 refine Zu (Zt 3 [] hn rfl (Zv (zJ (zC ?_))))
 exact ret_E (.inl rfl) () (zp rfl (.tmp rfl) (.tmp rfl)) trivial
 exact absurd hb0 (by simp [h0])
theorem Minutes_no (b:Brd) (s:List UInt8) (hN:NamesOK b) (h5:s.length ≤ 4294967000) (h0:(readI b s).2 ≠ 0):EffAt Tryz.prog 138 [.d (brdD b),.d (strD s)] [] (X:=Unit) (fun _=>.d (.tup [rngsD [],.int .i64 (readI b s).2])) (fun _=>[]):=by
 refine EffAt.of_awp Tryz.func138 rfl (by kernel_rfl) rfl fun Γ hn=>?_
 refine Zu (Zb 2 hn rfl fun b2=>Zt 2 [] hn rfl (Zv (Zu (Zt 2 [2] hn rfl (stepW (s_callE (zEn b s hN h5 h0) rfl rfl rfl (nb hn rfl) (.d rfl) rfl (.refl _) trivial (fun _=>rfl) (fun _ _=>trivial)) fun _=>?_)))))
 refine Zt 5 [] hn rfl (Zv (zB (Zu (Zt 2 [] hn rfl (Zv (zG rfl (fun hb0=>?_) (fun hb0=>?_)))))))
 refine Zu (Zt 3 [] hn rfl (Zv (zJ (zC ?_))))
 exact ret_E (.inl rfl) () ((zp rfl (.tmp rfl) (.tmp rfl)).le (.tup (.cons (.nil 2) (.refl _)))) trivial
 exact absurd hb0 (by simp [h0])
theorem Minutes_ok1 (b:Brd) (s:List UInt8) (hN:NamesOK b) (h5:s.length ≤ 4294967000) (h0:(readI b s).2 = 0):EffAt Tryz.prog 138 [.d (brdD b),.d (strD s)] [] (X:=Unit) (fun _=>.d (.tup [rngsD (minutesI b s).1,.int .i64 (minutesI b s).2])) (fun _=>[]):=by
 have v:=yU h0
 obtain ⟨hpo,hsl⟩:=yS (b:=b) (s:=s)
 have hV:VecV (.slice none 0 0) 1 (intsT []):=VecV.nil 1
 refine EffAt.of_awp Tryz.func138 rfl (by kernel_rfl) rfl fun Γ hn=>?_
 refine Zu (Zb 2 hn rfl fun b2=>Zt 2 [] hn rfl (Zv (Zu (Zt 2 [2] hn rfl (stepW (s_callE (zCT b s hN h5 h0) rfl rfl rfl (nb hn rfl) (.d rfl) rfl (.refl _) trivial (fun _=>rfl) (fun _ _=>trivial)) fun bb=>?_)))))
 refine Zt 5 [] hn rfl (Zv (zB (Zu (Zt 2 [] hn rfl (Zv (zG rfl (fun hb0=>?_) (fun hb0=>?_)))))))
 exact absurd hb0 (by decide)
 refine zI (zA (Zu (Zt 1 [] hn rfl ?_)))
 refine stepW (s_callE (minutes_eff bb b (readI b s).1 (.slice none 0 0) [] hV hsl hpo) rfl rfl rfl (nb hn rfl) (.d rfl) rfl (.refl _) ⟨rfl,rfl,trivial⟩ (fun _=>rfl) (fun _ _=>trivial)) fun _=>?_
 refine Zt 5 [] hn rfl (Zv (zB (Zu (Zt 2 [] hn rfl (Zv (zG rfl (fun hb1=>?_) (fun hb1=>?_)))))))
 have q1:rightB (minI (readI b s).1) = false:=by simpa using hb1
 have e1:minutesI b s = ([],11):=by unfold minutesI; rw [h0,q1]; rfl
 rw [e1]
 refine Zu (Zt 2 [] hn rfl (Zv (zJ (zC ?_))))
 exact ret_E (.inl rfl) () ((zp rfl (.tmp rfl) (.tmp rfl)).le (.tup (.cons (.nil 2) (.refl _)))) trivial
 have q1:rightB (minI (readI b s).1) = true:=by simpa using hb1
 have e1:minutesI b s = (minI (readI b s).1,0):=by unfold minutesI; rw [h0,q1]; rfl
 rw [e1]
 refine zI (zA (Zu (Zt 3 [] hn rfl (Zv (zJ ?_)))))
 exact ret_E (.inl rfl) () (zp rfl (.tmp rfl) (.tmp rfl)) trivial
theorem Prices_no (b:Brd) (s:List UInt8) (hN:NamesOK b) (h5:s.length ≤ 4294967000) (h0:(readI b s).2 ≠ 0):EffAt Tryz.prog 21 [.d (brdD b),.d (strD s)] [] (X:=Unit) (fun _=>.d (.tup [rngsD [],.int .i64 (readI b s).2])) (fun _=>[]):=by
 refine EffAt.of_awp Tryz.func21 rfl (by kernel_rfl) rfl fun Γ hn=>?_
 refine Zu (Zb 2 hn rfl fun b2=>Zt 2 [] hn rfl (Zv (Zu (Zt 2 [2] hn rfl (stepW (s_callE (zEn b s hN h5 h0) rfl rfl rfl (nb hn rfl) (.d rfl) rfl (.refl _) trivial (fun _=>rfl) (fun _ _=>trivial)) fun _=>?_)))))
 refine Zt 5 [] hn rfl (Zv (zB (Zu (Zt 2 [] hn rfl (Zv (zG rfl (fun hb0=>?_) (fun hb0=>?_)))))))
 refine Zu (Zt 3 [] hn rfl (Zv (zJ (zC ?_))))
 exact ret_E (.inl rfl) () ((zp rfl (.tmp rfl) (.tmp rfl)).le (.tup (.cons (.nil 2) (.refl _)))) trivial
 exact absurd hb0 (by simp [h0])
theorem Prices_ok1 (b:Brd) (s:List UInt8) (hN:NamesOK b) (h5:s.length ≤ 4294967000) (h0:(readI b s).2 = 0):EffAt Tryz.prog 21 [.d (brdD b),.d (strD s)] [] (X:=Unit) (fun _=>.d (.tup [rngsD (pricesI b s).1,.int .i64 (pricesI b s).2])) (fun _=>[]):=by
 have v:=yU h0
 obtain ⟨hpo,hsl⟩:=yS (b:=b) (s:=s)
 have hV:VecV (.slice none 0 0) 1 (intsT []):=VecV.nil 1
 refine EffAt.of_awp Tryz.func21 rfl (by kernel_rfl) rfl fun Γ hn=>?_
 refine Zu (Zb 2 hn rfl fun b2=>Zt 2 [] hn rfl (Zv (Zu (Zt 2 [2] hn rfl (stepW (s_callE (zCT b s hN h5 h0) rfl rfl rfl (nb hn rfl) (.d rfl) rfl (.refl _) trivial (fun _=>rfl) (fun _ _=>trivial)) fun bb=>?_)))))
 refine Zt 5 [] hn rfl (Zv (zB (Zu (Zt 2 [] hn rfl (Zv (zG rfl (fun hb0=>?_) (fun hb0=>?_)))))))
 exact absurd hb0 (by decide)
 refine zI (zA (Zu (Zt 1 [] hn rfl ?_)))
 refine stepW (s_callE (zCi bb b (readI b s).1 (.slice none 0 0) [] hV v hsl) rfl rfl rfl (nb hn rfl) (.d rfl) rfl (.refl _) ⟨rfl,rfl,trivial⟩ (fun _=>rfl) (fun _ _=>trivial)) fun _=>?_
 refine Zt 5 [] hn rfl (Zv (zB (Zu (Zt 2 [] hn rfl (Zv (zG rfl (fun hb1=>?_) (fun hb1=>?_)))))))
 have q1:levelsI b (readI b s).1 [] = none:=by cases h:levelsI b (readI b s).1 [] <;> simp [h] at hb1 ⊢
 have e1:pricesI b s = ([],11):=by unfold pricesI; rw [h0,q1]; rfl
 rw [e1]
 refine Zu (Zt 2 [] hn rfl (Zv (zJ (zC ?_))))
 exact ret_E (.inl rfl) () ((zp rfl (.tmp rfl) (.tmp rfl)).le (.tup (.cons (.nil 2) (.refl _)))) trivial
 obtain ⟨ms,q1⟩:∃ ms,levelsI b (readI b s).1 [] = some ms:=by cases h:levelsI b (readI b s).1 [] <;> simp [h] at hb1 ⊢
 have e1:pricesI b s = (ms.map bndN,0):=by unfold pricesI; rw [h0,q1]; rfl
 rw [e1]
 have hml:=zBQ q1
 rw [q1]
 have hlen:((ms.map lvE).length:Int) = (ms.length:Nat):=by simp
 simp only [Option.getD_some]
 refine zI (zA (Zu (Zt 1 [] hn rfl (Zv (zB (zB (zq (g_nil (t:=10) (id:=10) 65 2 rfl (nb hn rfl)) ?_)))))))
 refine zF (Zt 3 [] hn rfl (Zv (zK (awp_loop_on (ι:={x:Nat × Value // x.1 ≤ ms.length}) (fun x=>(31,true,.d (.int .i64 (x.1.1:Nat))) :: (10,true,.val x.1.2) :: anys [32,33,34,12,35,36,37,38,39,40]) (fun x=>(10,.row x.1.2 65 2 (((ms.take x.1.1).map bndN).map rngE)) :: gones [12]) (fun x=>ms.length - x.1.1) ⟨(0,_),Nat.zero_le _⟩ ⟨.inl rfl,.inl rfl,zE _⟩ ⟨.inl rfl,zR _⟩ ?_))))
 rintro ⟨⟨i,vv⟩,hi⟩
 dsimp only
 dsimp only at hi
 refine Zu (Zt 1 [] hn rfl (Zv (zB (zG rfl (fun hb2=>?_) (fun hb2=>?_)))))
 have hil:i < ms.length:=by simp at hb2; omega
 obtain ⟨m,hm⟩:=zT hil
 refine zI (zA (zB (zK (Zu (Zi (i:=i) hn rfl rfl (mget hm) ?_)))))
 refine Zs hn (yQ rfl rfl underlying185 rfl sz185 (zA3 m) (zv m) seesF0) ?_
 refine stepW (yF 12 rfl rfl rfl (nb hn rfl) zr185 zero800a zero800b) fun b12=>?_
 refine stepW (zz rfl rfl rfl rfl rfl rfl (id:=12) rfl sz185 (zW _) (by rw [zW]; decide) (yI _ (zW _)) trivial) fun _=>?_
 refine Zv (zF (Zt 1 [] hn rfl (Zs hn (zl rfl rfl (id:=12) rfl underlying185 rfl sz185 (yE _) (zv _) sees0) ?_)))
 refine Zk hn rfl (zB9 m) (stepW (zS rfl rfl rfl (nb hn rfl) underlying43 sz65 zr65 rfl rfl rfl (show _ = [.d (.int .i64 0),.d (.int .i64 0)] from by kernel_rfl) (by kernel_rfl) rfl rfl rfl rfl rfl) fun _=>?_)
 refine stepW (s_append (id:=10) rfl rfl rfl (nb hn rfl) elt43 trivial rfl rfl rfl (by simp [chunk]; omega) (by simp [chunk]; omega) (fun b hb=>trivial)) fun v39=>?_
 refine Zt 1 [] hn rfl (zQ (zO (zA (zF (Zs hn (za rfl rfl rfl (r:=((i + 1:Nat):Int)) (i64w (by omega) (by omega))) ?_)))))
 refine Zt 1 [] hn rfl (zQ ?_)
 exact Zr ⟨(i + 1,v39),by simp only; omega⟩ ⟨.inl rfl,.inl rfl,zE _⟩ ⟨.inl (congrArg (fun z=>some (Res.row v39 65 2 z)) (addR hm)),zR _⟩ (by simp only; omega)
 have hie:i = ms.length:=by simp at hb2; omega
 subst hie
 rw [List.take_length]
 refine zU (zD (zD (zL (zA (Zu (Zt 3 [] hn rfl (Zv (zJ (ya (g_row (t:=4) (id:=10) rfl rfl) ?_)))))))))
 exact ret_E (.inl rfl) () (zp rfl (.tmp rfl) (.tmp rfl)) trivial
theorem zCd (b:Brd) (s:List UInt8) (hN:NamesOK b) (h5:s.length ≤ 4294967000):PureAt Tryz.prog 138 [brdD b,strD s] (.tup [rngsD (minutesI b s).1,.int .i64 (minutesI b s).2]):=by
  by_cases h0:(readI b s).2 = 0
  · exact PureAt.of_eff (ds:=[brdD b,strD s]) (Minutes_ok1 b s hN h5 h0)
  · have h1:((readI b s).2 != 0) = true:=by simpa using h0
    rw [show minutesI b s = ([],(readI b s).2) from by unfold minutesI; rw [h1]; rfl]
    exact PureAt.of_eff (ds:=[brdD b,strD s]) (Minutes_no b s hN h5 h0)
theorem Prices_ok (b:Brd) (s:List UInt8) (hN:NamesOK b) (h5:s.length ≤ 4294967000):PureAt Tryz.prog 21 [brdD b,strD s] (.tup [rngsD (pricesI b s).1,.int .i64 (pricesI b s).2]):=by
  by_cases h0:(readI b s).2 = 0
  · exact PureAt.of_eff (ds:=[brdD b,strD s]) (Prices_ok1 b s hN h5 h0)
  · have h1:((readI b s).2 != 0) = true:=by simpa using h0
    rw [show pricesI b s = ([],(readI b s).2) from by unfold pricesI; rw [h1]; rfl]
    exact PureAt.of_eff (ds:=[brdD b,strD s]) (Prices_no b s hN h5 h0)
theorem zFy {n:Int} (h:-9223372036854775808 ≤ n ∧ n ≤ 9223372036854775807):(Lit.int .i64 n).wf = true:=by
  have e1:IntKind.i64.min = -9223372036854775808:=by decide
  have e2:IntKind.i64.max = 9223372036854775807:=by decide
  simp only [Lit.wf,e1,e2,Bool.and_eq_true,decide_eq_true_eq]
  exact h
theorem elt29:ElT Tryz.prog 29 3 1 8:=zAA underlying29 (z:=(.int .i64 0)) (by kernel_rfl) rfl (by decide)
end Go.Proofs.YticlpkgpmmhemaaGreatDoor
namespace Go.Proofs.YticlpkgpmmhemaaGreatDoor
open Go.RowKit
set_option maxRecDepth 20000
set_option linter.all false
theorem vec_one {v:Value} {cs:List TV} (hV:VecV v 1 cs):(TV.val v).one = true:=by
  rcases hV with ⟨rfl,_⟩ | ⟨b,n,cap,rfl,_⟩ <;> rfl
end Go.Proofs.YticlpkgpmmhemaaGreatDoor
