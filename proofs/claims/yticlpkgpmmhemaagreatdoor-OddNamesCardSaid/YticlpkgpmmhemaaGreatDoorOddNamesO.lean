/-
  A part of the proof that contangolaw.OddNames returns true: what the last text needs, and no more. No condition: no statement of the seat is proved here.
-/
import Derived.Laws.StructEq
import Derived.Test.YticlpkgpmmhemaaGreatDoorOddNamesN
namespace Go.Proofs.YticlpkgpmmhemaaGreatDoor
open Go.Proofs.Tryz
open Go.RowKit
set_option maxRecDepth 20000
set_option linter.all false
/-- A truth of a desk whose tape is read, in words. -/
structure TruW (d:Dsk) (l:List Prt) (t:Tru):Prop where
  pl:t.prices.length = l.length
  tr:TruF d.b l 0 fun k=>t.prices.getD k 0
  ml:t.minutes.length = l.length
  rm:RightM l fun k=>t.minutes.getD k 0
  ol:t.orders.length = d.orders.length
  od:∀ j,j < d.orders.length → (d.orders.getD j ord0).mlo ≤ t.orders.getD j 0 ∧ t.orders.getD j 0 ≤ (d.orders.getD j ord0).mhi
theorem zBC {d:Dsk} {t:Tru} (h0:(readI d.b d.tape).2 = 0):truthW d (readI d.b d.tape).1 t = true ↔ TruW d (readI d.b d.tape).1 t:=by
  unfold truthW
  rw [zAE,h0]
  constructor
  · intro h
    cases h1:isTruthB d.b (readI d.b d.tape).1 t.prices 0 <;> rw [h1] at h
    · cases h
    · cases h2:(t.minutes.length:Int) != ((readI d.b d.tape).1.length:Int) <;> rw [h2] at h
      · cases h3:(t.orders.length:Int) != (d.orders.length:Int) <;> rw [h3] at h
        · have h4:(rightGo t.minutes 0 (readI d.b d.tape).1 && comeB d.orders t.orders d.orders.length) = true:=h
          rw [Bool.and_eq_true_iff,zCq,zCS] at h4
          obtain ⟨h5,h6⟩:=zB3.1 h1
          exact ⟨h5,h6,by simp at h2; omega,h4.1,by simp at h3; omega,h4.2⟩
        · cases h
      · cases h
  · rintro ⟨h1,h2,h3,h4,h5,h6⟩
    rw [zB3.2 ⟨h1,h2⟩,show ((t.minutes.length:Int) != ((readI d.b d.tape).1.length:Int)) = false by simp [h3],show ((t.orders.length:Int) != (d.orders.length:Int)) = false by simp [h5],zCq.2 h4,zCS.2 h6]
    rfl
theorem TruW.pb {d:Dsk} {l:List Prt} {t:Tru} (h:TruW d l t):∀ p ∈ t.prices,0 ≤ p ∧ p ≤ 1000:=fun p hp=>by
  obtain ⟨i,hi⟩:=List.getElem?_of_mem hp
  have hil:=(List.getElem?_eq_some_iff.1 hi).1
  have:=(h.tr i (by have:=h.pl; omega)).bd
  rw [zQ hi] at this
  omega
theorem kX {d:Dsk} (h:deskI d = 0):(readI d.b d.tape).2 = 0 ∧ d.orders.length ≤ 5 ∧ (0 ≤ d.fee ∧ d.fee ≤ 4) ∧ ∀ o ∈ d.orders,ordB d.b o = true:=by
  unfold deskI at h
  cases h1:(readI d.b d.tape).2 != 0 <;> rw [h1] at h
  · cases h2:decide (5 < (d.orders.length:Int)) <;> rw [h2] at h
    · cases h3:!(withinB d.fee 0 4) || !(d.orders.all (ordB d.b)) <;> rw [h3] at h
      · simp only [Bool.or_eq_false_iff,Bool.not_eq_false'] at h3
        have h4:=zi.1 h3.1
        simp only [decide_eq_false_iff_not] at h2
        exact ⟨by simpa using h1,by omega,h4,fun o ho=>List.all_eq_true.1 h3.2 o ho⟩
      · cases h
    · cases h
  · rw [cond_true] at h
    rw [h] at h1; cases h1
theorem zBs {b:Brd} {o:Ord} (h:ordB b o = true):(0 ≤ o.stock ∧ o.stock < b.stocks.length) ∧ (1 ≤ o.number ∧ o.number ≤ 99) ∧ (0 ≤ o.limit ∧ o.limit ≤ 799) ∧ 0 ≤ o.mlo ∧ o.mlo ≤ o.mhi ∧ o.mhi ≤ 600:=by
  unfold ordB at h
  simp only [Bool.and_eq_true_iff,zi,decide_eq_true_eq] at h
  omega
theorem zEZ {l:List Int} {i:Nat} (h:i < l.length):(intsT l)[0 + i * 1]? = some (.d (.int .i64 (l.getD i 0))):=by
  obtain ⟨x,hx⟩:=zW h
  rw [Nat.zero_add,Nat.mul_one,List.getElem?_map,hx,zQ hx]; rfl
theorem zFd {l:List Int} {i:Nat} {x:Int}:(intsT l).set (0 + i * 1) (.d (.int .i64 x)) = intsT (l.set i x):=by
  rw [Nat.zero_add,Nat.mul_one,intsT,intsT,List.map_set]
/-- What the house has by the first orders. -/
def hasN (os:List Ord) (fs:List (Int × Int)) (n:Nat):Nat → List Int × Int
  | 0=>(List.replicate n 0,0)
  | i + 1=>bif (fs.getD i (-1,0)).1 == -1 then hasN os fs n i else
    ((hasN os fs n i).1.set (os.getD i ord0).stock.toNat ((hasN os fs n i).1.getD (os.getD i ord0).stock.toNat 0 + (bif (os.getD i ord0).buy then -(os.getD i ord0).number else (os.getD i ord0).number)),(hasN os fs n i).2 - (bif (os.getD i ord0).buy then -(os.getD i ord0).number else (os.getD i ord0).number) * (fs.getD i (-1,0)).2)
def hasI (d:Dsk) (t:Tru):List Int × Int × Int:=bif (playI d t).2 != 0 then ([],0,(playI d t).2) else ((hasN d.orders (playI d t).1 d.b.stocks.length (playI d t).1.length).1,(hasN d.orders (playI d t).1 d.b.stocks.length (playI d t).1.length).2,0)
theorem zAm {os:List Ord} {fs:List (Int × Int)} {n:Nat}:∀ i,(hasN os fs n i).1.length = n
  | 0=>by simp [hasN]
  | i + 1=>by
    rw [hasN]
    cases (fs.getD i (-1,0)).1 == -1
    · rw [cond_false,List.length_set]; exact zAm i
    · exact zAm i
theorem zFP {fee:Int} {o:Ord} {m:Int} {ps ms:List Int} (hf:0 ≤ fee ∧ fee ≤ 4) (hp:∀ p ∈ ps,0 ≤ p ∧ p ≤ 1000):∀ {l:List Prt} {i:Nat},0 ≤ (fillGo fee o m ps ms i l).2 ∧ (fillGo fee o m ps ms i l).2 ≤ 1004
  | [],i=>by simp [fillGo]
  | s :: r,i=>by
    rw [fillGo]
    cases (s.stock == o.stock && decide (m < ms.getD i 0)) && letsB fee o (ps.getD i 0)
    · exact zFP hf hp
    · have h1 : 0 ≤ ps.getD i 0 ∧ ps.getD i 0 ≤ 1000 := by
        by_cases h:i < ps.length
        · obtain ⟨x,hx⟩:=zW h
          rw [zQ hx]; exact hp x (List.mem_of_getElem? hx)
        · rw [List.getD_eq_getElem?_getD,List.getElem?_eq_none (by omega)]; simp
      rw [cond_true]
      unfold priceO
      cases o.buy <;> simp only [cond_true,cond_false] <;> omega
theorem zCb {fee:Int} {l:List Prt} {t:Tru} {os:List Ord}:∀ {n i:Nat},i < n → (fillsN fee l t os n)[i]? = some (fillGo fee (os.getD i ord0) (t.orders.getD i 0) t.prices t.minutes 0 l)
  | 0,i,h=>by omega
  | n + 1,i,h=>by
    rw [fillsN]
    by_cases e:i = n
    · subst e
      rw [List.getElem?_append_right (by rw [yo]; exact Nat.le_refl _),yo,Nat.sub_self]; rfl
    · rw [List.getElem?_append_left (by rw [yo]; omega)]
      exact zCb (by omega)
theorem play_ok0 {d:Dsk} {t:Tru} (h:(playI d t).2 = 0):deskI d = 0 ∧ TruW d (readI d.b d.tape).1 t ∧ (playI d t).1 = fillsN d.fee (readI d.b d.tape).1 t d.orders d.orders.length:=by
  unfold playI at h ⊢
  cases h1:deskI d != 0 <;> rw [h1] at h
  · have h0:deskI d = 0:=by simpa using h1
    cases h2:truthW d (readI d.b d.tape).1 t <;> rw [h2] at h
    · cases h
    · exact ⟨h0,(zBC (kX h0).1).1 h2,rfl⟩
  · rw [cond_true] at h
    rw [show deskI d = 0 from h] at h1; cases h1
theorem zEq {os:List Ord} {fs:List (Int × Int)} {n:Nat} (ho:∀ o ∈ os,1 ≤ o.number ∧ o.number ≤ 99) (hf:∀ f ∈ fs,0 ≤ f.2 ∧ f.2 ≤ 1004):∀ i:Nat,i ≤ os.length → i ≤ fs.length → (∀ j,-99 * (i:Int) ≤ (hasN os fs n i).1.getD j 0 ∧ (hasN os fs n i).1.getD j 0 ≤ 99 * (i:Int)) ∧ -100000 * (i:Int) ≤ (hasN os fs n i).2 ∧ (hasN os fs n i).2 ≤ 100000 * (i:Int)
  | 0,_,_=>by
    refine ⟨fun j=>?_,by simp [hasN],by simp [hasN]⟩
    have:(List.replicate n (0:Int)).getD j 0 = 0:=by
      rw [List.getD_eq_getElem?_getD,List.getElem?_replicate]; split <;> rfl
    simp only [hasN]; rw [this]; omega
  | i + 1,h1,h2=>by
    obtain ⟨ih1,ih2,ih3⟩:=zEq (n:=n) ho hf i (by omega) (by omega)
    obtain ⟨o,hoi⟩:=zW (show i < os.length by omega)
    obtain ⟨f,hfi⟩:=zW (show i < fs.length by omega)
    have hob:=ho o (List.mem_of_getElem? hoi)
    have hfb:=hf f (List.mem_of_getElem? hfi)
    rw [hasN,zQ hoi,zQ hfi]
    cases f.1 == -1
    · rw [cond_false]
      have hq:-99 ≤ (bif o.buy then -o.number else o.number) ∧ (bif o.buy then -o.number else o.number) ≤ 99:=by
        cases o.buy <;> simp only [cond_true,cond_false] <;> omega
      generalize (bif o.buy then -o.number else o.number) = q at hq
      have hm:-100000 ≤ q * f.2 ∧ q * f.2 ≤ 100000:=by
        have e1:q * f.2 ≤ 99 * f.2:=Int.mul_le_mul_of_nonneg_right hq.2 hfb.1
        have e2:-99 * f.2 ≤ q * f.2:=Int.mul_le_mul_of_nonneg_right hq.1 hfb.1
        omega
      refine ⟨fun j=>?_,by simp only; omega,by simp only; omega⟩
      simp only
      have hj:=ih1 j
      have hk:=ih1 o.stock.toNat
      rw [List.getD_eq_getElem?_getD,List.getElem?_set]
      split
      · split
        · simp only [Option.getD_some]; omega
        · simp only [Option.getD_none]; omega
      · rw [← List.getD_eq_getElem?_getD]; omega
    · rw [cond_true]
      exact ⟨fun j=>by have:=ih1 j; omega,by omega,by omega⟩
theorem fill4_ok (d:Dsk) (l:List Prt) (o:Ord) (m:Int) (t:Tru) (hf:0 ≤ d.fee ∧ d.fee ≤ 4) (hpb:∀ p ∈ t.prices,0 ≤ p ∧ p ≤ 1000) (hpl:t.prices.length = l.length) (hml:t.minutes.length = l.length) (hl8:l.length ≤ 8):PureAt Tryz.prog 87 [.ptr (wk4C d l),ordD o,.int .i64 m,truD t] (.agg (filE (fillGo d.fee o m t.prices t.minutes 0 l))) :=
  PureAt.of_eff (ds:=[.ptr (wk4C d l),ordD o,.int .i64 m,truD t]) (fill4_eff d l o m t hf hpb hpl hml hl8)
theorem sz56:Sz Tryz.prog 56 3:=(by kernel_rfl:(Tryz.prog.info? 56).map (·.size) = some 3)
theorem elt53:ElT Tryz.prog 53 68 2 16:=zBh underlying53 (z:=(.agg #[(.int .i64 0),(.int .i64 0)])) (by kernel_rfl) rfl (by decide)
theorem zCs (d:Dsk) (hN:NamesOK d.b) (h5:d.tape.length ≤ 4294967000) (ho:d.orders.length ≤ 1000)(t:Tru):PureAt Tryz.prog 58 [dskD d,truD t] (.bool (deskI d == 0 && truthW d (readI d.b d.tape).1 t)):=by
 refine Zp Tryz.func58 rfl fun Γ hn hl=>?_
 refine Zu (Zb 2 hn rfl fun b2=>Zb 3 hn rfl fun b3=>Zt 1 [] hn rfl (Zv (zB ?_)))
 rcases hq:deskI d != 0 with _ | _
 have h0:deskI d = 0:=by simpa using hq
 have hdv:=kX h0
 obtain ⟨hpo,hl8⟩:=y9 (b:=d.b) (s:=d.tape)
 refine zG (Zt 1 [2] hn rfl (Zk hn rfl ((by have h:=zAG d hN h5 ho; unfold opP at h; rw [hq] at h; exact h)) ?_))
 refine Zt 5 [] hn rfl (Zv (Zu (Zt 5 [3] hn rfl (Zkg hn rfl (fun hc=>zCn d (readI d.b d.tape).1 t hpo hl8 hN h5 ho) (Zt 2 [] hn rfl (Zv (zI ?_)))))))
 exact za (.inl rfl) hl rfl (.tmp rfl)
 refine zG (Zt 1 [2] hn rfl (Zk hn rfl ((by have h:=zAG d hN h5 ho; unfold opP at h; rw [hq] at h; exact h)) ?_))
 refine Zt 5 [] hn rfl (Zv (Zu (Zt 5 [3] hn rfl (Zkg hn rfl (fun hc=>(show PureAt Tryz.prog 86 [_,_] (.bool false) from absurd hc (by rw [show (deskI d == 0) = false by simpa using hq]; decide))) (Zt 2 [] hn rfl (Zv (zI (ze (za (.inl rfl) hl rfl (.tmp rfl)) ?_))))))))
 rw [show (deskI d == 0) = false by simpa using hq]; rfl
theorem fills_add {fee:Int} {l:List Prt} {t:Tru} {os:List Ord} {i:Nat} {o:Ord} {m:Int} (h1:os.getD i ord0 = o) (h2:t.orders.getD i 0 = m):(fillsN fee l t os i).map filE ++ [filE (fillGo fee o m t.prices t.minutes 0 l)] = (fillsN fee l t os (i + 1)).map filE:=by
  rw [fillsN,List.map_append,h1,h2]; rfl
theorem zBN (d:Dsk) (hN:NamesOK d.b) (h5:d.tape.length ≤ 4294967000) (ho:d.orders.length ≤ 1000)(t:Tru):PureAt Tryz.prog 24 [dskD d,truD t] (.tup [filsD (playI d t).1,.int .i64 (playI d t).2]):=by
 refine Zp Tryz.func24 rfl fun Γ hn hl=>?_
 refine Zu (Zb 2 hn rfl fun b2=>Zb 3 hn rfl fun b3=>Zt 2 [] hn rfl (Zv (zB ?_)))
 rcases hq:deskI d != 0 with _ | _
 have h0:deskI d = 0:=by simpa using hq
 obtain ⟨hr0,ho5,hf,hob⟩:=kX h0
 obtain ⟨hpo,hl8⟩:=y9 (b:=d.b) (s:=d.tape)
 refine zG (Zt 1 [2] hn rfl (Zk hn rfl ((by have h:=zAG d hN h5 ho; unfold opP at h; rw [hq] at h; exact h)) ?_))
 refine Zt 5 [] hn rfl (Zv (zB (zL (Zu (Zt 3 [] hn rfl (Zv (zH rfl (fun hb0=>?_) (fun hb0=>?_))))))))
 exact absurd hb0 (by rw [h0]; decide)
 refine Zu (Zt 2 [3] hn rfl (Zk hn rfl (zCn d (readI d.b d.tape).1 t hpo hl8 hN h5 ho) (Zt 2 [] hn rfl (Zv (zH rfl (fun hb1=>?_) (fun hb1=>?_))))))
 have q1:(!(truthW d (readI d.b d.tape).1 t)) = true:=hb1
 refine Zu (Zt 2 [] hn rfl (Zv (zI (zP (zF (zEX (zA4 (.inl rfl) hl rfl (.tmp rfl) (.tmp rfl)) ?_))))))
 unfold playI; rw [hq,q1]; exact .tup (.cons (.nil 2) (.refl _))
 have q1:(!(truthW d (readI d.b d.tape).1 t)) = false:=hb1
 have hw:=(zBC hr0).1 ((Bool.not_eq_false' (b:=truthW d (readI d.b d.tape).1 t)).mp q1)
 have hol:=hw.ol
 refine zK (zN (zA (Zu (Zt 1 [] hn rfl (Zv (zB (zB (zq (g_nil (t:=8) (id:=8) 68 2 rfl (nb hn rfl)) ?_))))))))
 refine zG (Zt 4 [2] hn rfl (Zv (zL (awp_loop_on (ι:={x:Nat × Value // x.1 ≤ d.orders.length}) (fun x=>(28,true,.d (.int .i64 (x.1.1:Nat))) :: (8,true,.val x.1.2) :: anys [29,30,31,32,10,9,33,34,35,36,37,38,39,40,41,42,43,44,45]) (fun x=>(8,.row x.1.2 68 2 ((fillsN d.fee (readI d.b d.tape).1 t d.orders x.1.1).map filE)) :: gones [10]) (fun x=>d.orders.length - x.1.1) ⟨(0,_),Nat.zero_le _⟩ ⟨.inl rfl,.inl rfl,zE _⟩ ⟨.inl rfl,zR _⟩ ?_))))
 rintro ⟨⟨i,vv⟩,hi⟩
 dsimp only
 dsimp only at hi
 refine Zu (Zt 1 [] hn rfl (Zv (zB (zH rfl (fun hb2=>?_) (fun hb2=>?_)))))
 have hil:i < d.orders.length:=by simp at hb2; omega
 obtain ⟨o,hod⟩:=zW hil
 obtain ⟨mo,hto⟩:=zW (show i < t.orders.length by omega)
 refine zK (zA (zB (zL (Zu (Zt 1 [] hn rfl (Zi (i:=i) hn rfl rfl (mget hod) ?_))))))
 refine Zt 1 [] hn rfl (Zb 10 hn rfl fun b10=>Zt 2 [10] hn rfl (Zv (zo (W:=fun b=>b ≠ b3 ∧ b ≠ b10) fmo ?_)))
 refine Zy [0,1,2,3,4,5] [10,3] hn rfl (Zd 6 rfl hn (q_index (i:=i) rfl rfl rfl underlying29 sz3 rfl (mget hto)) ?_)
 refine Zy [7,8] [3] hn rfl (zD (Ze1 9 rfl hn rfl (fill4_ok d (readI d.b d.tape).1 o mo t hf hw.pb hw.pl hw.ml hl8) (d2_of_d1 (zD (Zo 10 rfl (zO rfl rfl rfl (nb hn rfl) underlying53 sz68 zr68 rfl rfl rfl (show _ = [.d (.int .i64 0),.d (.int .i64 0)] from by kernel_rfl) (by kernel_rfl) rfl rfl rfl rfl rfl) fun _=>?_)))))
 refine d2_of_d1 (zD (yV (i:=8) (j:=3) rfl rfl rfl (fun hne8_3=>?_)))
 refine yV (i:=8) (j:=10) rfl rfl rfl (fun hne8_10=>?_)
 refine Zo 11 rfl (s_append (id:=8) rfl rfl rfl (nb hn rfl) elt53 trivial rfl rfl rfl (by simp [chunk,yo]; omega) (by simp [chunk,yo]; omega) (fun b hb=>⟨fun e=>hne8_3 _ hb (congrArg some e.symm),fun e=>hne8_10 _ hb (congrArg some e.symm)⟩)) fun v44=>?_
 refine d2_of_d1 (Zy [12] [] hn rfl (zD (zl (by kernel_rfl) ?_)))
 refine zN (zA (zG (Zs hn (zr rfl rfl rfl (r:=((i + 1:Nat):Int)) (i64w (by omega) (by omega))) ?_)))
 refine Zt 1 [] hn rfl (zT ?_)
 exact Zr ⟨(i + 1,v44),by simp only; omega⟩ ⟨.inl rfl,.inl rfl,zE _⟩ ⟨.inl (congrArg (fun z=>some (Res.row v44 68 2 z)) (fills_add (zQ hod) (zQ hto))),zR _⟩ (by simp only; omega)
 obtain rfl:i = d.orders.length:=by simp at hb2; omega
 refine zY (zC (zC (zM (zA (Zu (Zt 3 [] hn rfl (Zv (zI (y7 (g_row (t:=4) (id:=8) rfl rfl) ?_)))))))))
 refine zEX (zA4 (.inl rfl) hl rfl (.tmp rfl) (.tmp rfl)) ?_
 unfold playI; rw [hq,q1]; exact .refl _
 refine zG (Zt 1 [2] hn rfl (Zk hn rfl ((by have h:=zAG d hN h5 ho; unfold opP at h; rw [hq] at h; exact h)) ?_))
 refine Zt 5 [] hn rfl (Zv (zB (zL (Zu (Zt 3 [] hn rfl (Zv (zH rfl (fun hb3=>?_) (fun hb3=>?_))))))))
 refine Zu (Zt 3 [] hn rfl (Zv (zI (zP (zF (zEX (zA4 (.inl rfl) hl rfl (.tmp rfl) (.tmp rfl)) ?_))))))
 unfold playI; rw [hq]; exact .tup (.cons (.nil 2) (.refl _))
 exact absurd hb3 (by rw [hq]; decide)
/-- What is known of a desk for sure. -/
structure SurH (d:Dsk) (l:List Prt) (mm:List (Int × Int)):Prop where
  hr:readI d.b d.tape = (l,0)
  hmi:minutesI d.b d.tape = (mm,0)
  dk:deskI d = 0
  v:BrdOK d.b
  po:∀ p ∈ l,PrtOK d.b p
  l8:l.length ≤ 8
  o5:d.orders.length ≤ 5
  fe:0 ≤ d.fee ∧ d.fee ≤ 4
  ob:∀ o ∈ d.orders,ordB d.b o = true
  mt:mm = timL l l.length
  tb:timesB l = true
  ex:∃ g,TruF d.b l 0 g
theorem kZ {d:Dsk} {os:List Int} (h:sureO d os = 0):SurH d (readI d.b d.tape).1 (minutesI d.b d.tape).1 ∧ (∀ n ∈ os,0 ≤ n ∧ n < d.orders.length) ∧ sureP d os = .ptr (wk4C d (readI d.b d.tape).1):=by
  unfold sureO at h
  cases h1:deskI d != 0 <;> rw [h1] at h
  · have h0:deskI d = 0:=by simpa using h1
    obtain ⟨hr0,ho5,hf,hob⟩:=kX h0
    cases h2:!(os.all fun n=>withinB n 0 ((d.orders.length:Int) - 1)) <;> rw [h2] at h
    · cases h3:(pricesI d.b d.tape).2 != 0 <;> rw [h3] at h
      · have hm:(minutesI d.b d.tape).2 = 0:=h
        have v:=yw hr0
        obtain ⟨hpo,hl8⟩:=y9 (b:=d.b) (s:=d.tape)
        have h4:∀ n ∈ os,0 ≤ n ∧ n < d.orders.length:=fun n hn=>by
          have:=zi.1 (List.all_eq_true.1 (by simpa using h2:(os.all fun n=>withinB n 0 ((d.orders.length:Int) - 1)) = true) n hn)
          omega
        have h5:rightB (minI (readI d.b d.tape).1) = true ∧ (minutesI d.b d.tape).1 = minI (readI d.b d.tape).1:=by
          unfold minutesI at hm ⊢
          rw [show ((readI d.b d.tape).2 != 0) = false by simpa using hr0] at hm ⊢
          cases hq:rightB (minI (readI d.b d.tape).1) <;> rw [hq] at hm
          · cases hm
          · exact ⟨rfl,rfl⟩
        have h6:∃ g,TruF d.b (readI d.b d.tape).1 0 g:=by
          refine (kB (out:=[]) kQ v hpo).1.1 ?_
          unfold pricesI at h3
          rw [show ((readI d.b d.tape).2 != 0) = false by simpa using hr0] at h3
          cases hl:levelsI d.b (readI d.b d.tape).1 [] with
          | some ms=>rfl
          | none=>rw [hl] at h3; cases h3
        refine ⟨⟨Prod.ext rfl hr0,Prod.ext rfl hm,h0,v,hpo,hl8,ho5,hf,hob,by rw [h5.2,zEE hpo],by rw [← right_tim hpo]; exact h5.1,h6⟩,h4,?_⟩
        unfold sureP
        rw [h1,h2,h3]; rfl
      · rw [cond_true] at h
        rw [show (pricesI d.b d.tape).2 = 0 from h] at h3; cases h3
    · cases h
  · rw [cond_true] at h
    rw [show deskI d = 0 from h] at h1; cases h1
theorem SurH.ml {d:Dsk} {l:List Prt} {mm:List (Int × Int)} (h:SurH d l mm):mm.length = l.length:=by rw [h.mt,zEs]
theorem SurH.mb {d:Dsk} {l:List Prt} {mm:List (Int × Int)} (h:SurH d l mm):∀ x ∈ mm,-10000 ≤ x.1 ∧ x.1 ≤ 10000 ∧ -10000 ≤ x.2 ∧ x.2 ≤ 10000:=fun x hx=>by
  rw [h.mt] at hx
  obtain ⟨i,hi,rfl⟩:=List.mem_map.1 hx
  rw [List.mem_range] at hi
  have h1:=(tim_mono h.po h.tb hi).1
  have h2:=prt_bd h.po hi
  omega
theorem SurH.stk {d:Dsk} {l:List Prt} {mm:List (Int × Int)} (h:SurH d l mm) {o:Ord} (ho:ordB d.b o = true):∃ (k:Nat) (s:Stk),o.stock = (k:Nat) ∧ d.b.stocks[k]? = some s:=by
  have h1:=(zBs ho).1
  obtain ⟨s,hs⟩:=zW (show o.stock.toNat < d.b.stocks.length by omega)
  exact ⟨o.stock.toNat,s,by omega,hs⟩
theorem SurH.ok {d:Dsk} {l:List Prt} {mm:List (Int × Int)} (h:SurH d l mm) {o:Ord} (ho:ordB d.b o = true):OddOK d.b l o:=⟨h.v,h.po,(zBs ho).1,h.ex⟩
theorem zDP (d : Dsk) (l : List Prt) (mm : List (Int × Int)) (h : SurH d l mm) (hN : NamesOK d.b) (h5 : d.tape.length ≤ 4294967000) (o : Ord) (q : Nat) (ho : d.orders[q]? = some o) :
    EffAt Tryz.prog 83 [.d (.ptr (wk4C d l)),.d (.int .i64 (q:Nat))] [] (X:=Nat) (fun b=>.tup [.d (.ptr (askC d l o mm b)),.d (.int .i64 0)]) (fun b=>[(1060,mapRes KW b (cnM (canO d.b l d.fee o mm)))]):=by
  obtain ⟨k,s,hk,hs⟩:=h.stk (h.ob o (List.mem_of_getElem? ho))
  exact ask_eff d l o mm q ho h.hr h.hmi hN h5 h.fe d.b.jump.toNat (by have:=h.v.j0; omega) (by have:=h.v.j4; omega) h.l8 s k hk hs h.ml h.mb
theorem zFh (d:Dsk) (l:List Prt) (o:Ord) (mm:List (Int × Int)) (b:Nat)(hf:0 ≤ d.fee ∧ d.fee ≤ 4):EffAt Tryz.prog 84 [.d (.ptr (askC d l o mm b))] [(1060,mapRes KW b (cnM (canO d.b l d.fee o mm)))] (X:=Unit) (fun _=>.tup [.d (rngD (bndI d.b l d.fee o mm).1),.d (.bool (bndI d.b l d.fee o mm).2)]) (fun _=>[(1060,mapRes KW b (cnM (canO d.b l d.fee o mm)))]) :=
  (zE4 d l o mm b hf (canO d.b l d.fee o mm)).imp (fun _=>()) (fun x=>by rw [zD6 x.2 (zDe d.b l d.fee o mm)]) (fun _=>rfl)
theorem verd_pk (d:Dsk) (l:List Prt) (o:Ord) (mm:List (Int × Int)) (b:Nat)(hf:0 ≤ d.fee ∧ d.fee ≤ 4):EffAt Tryz.prog 108 [.d (.ptr (askC d l o mm b))] [(1060,mapRes KW b (cnM (canO d.b l d.fee o mm)))] (X:=Unit) (fun _=>.d (.int .i64 (verdI d.b l d.fee o mm))) (fun _=>[(1060,mapRes KW b (cnM (canO d.b l d.fee o mm)))]) :=
  (verd_eff d l o mm b hf (canO d.b l d.fee o mm)).imp (fun _=>()) (fun x=>by
    have h1:x.1.1 = missI d.b l d.fee o mm:=Bool.eq_iff_iff.2 (x.2.1.trans missI_iff.symm)
    have h2:=zD6 x.2.2 (zDe d.b l d.fee o mm)
    unfold verdI
    rw [h1,h2]) (fun _=>rfl)
def salesI (d:Dsk) (q:Int):List Int × Int:=bif sureO d [q] != 0 then ([],sureO d [q]) else (salesO d.b (readI d.b d.tape).1 d.fee (d.orders.getD q.toNat ord0) (minutesI d.b d.tape).1,0)
def boundsI (d:Dsk):List (Int × Int) × Int:=bif sureO d [] != 0 then ([],sureO d []) else (d.orders.map fun o=>(bndI d.b (readI d.b d.tape).1 d.fee o (minutesI d.b d.tape).1).1,0)
def verdsI (d:Dsk):List Int × Int:=bif sureO d [] != 0 then ([],sureO d []) else (d.orders.map fun o=>verdI d.b (readI d.b d.tape).1 d.fee o (minutesI d.b d.tape).1,0)
theorem zEp {F:Nat → Int → Option Nat} {fr:Nat} {c:Int} {r:Option D} (h1:∀ d,r = some d → cnM F (waitD (fr:Nat) c) d) (h2:r = none → ∀ d,¬ cnM F (waitD (fr:Nat) c) d):r.getD (.agg (lvE 0)) = .agg (lvE ((F fr c).getD 0)) ∧ r.isSome = (F fr c).isSome:=by
  cases r with
  | none =>
    have:F fr c = none:=by
      cases h:F fr c with
      | none=>rfl
      | some m=>exact (h2 rfl _ ⟨fr,c,m,h,rfl,rfl⟩).elim
    rw [this]; exact ⟨rfl,rfl⟩
  | some d =>
    obtain ⟨f,c',m,h3,h4,rfl⟩:=h1 d rfl
    obtain ⟨e1,rfl⟩:=zAB h4
    obtain rfl:f = fr:=by omega
    rw [h3]; exact ⟨rfl,rfl⟩
theorem zEt {Γ:Cx} {P:Program} {σ:St} {fn:Func} {rv rv' rv2:ResultVar} {d d' d2:D} (h:fn.results = #[rv,rv',rv2]) (hr:ResT P σ rv (.d d)) (hr':ResT P σ rv' (.d d')) (hr2:ResT P σ rv2 (.d d2)):Hands Γ P fn σ (.d (.tup [d,d',d2])):=fun a w F hs=>by
  obtain ⟨v,h1,h2⟩:=hr.run hs
  obtain ⟨v',h1',h2'⟩:=hr'.run hs
  obtain ⟨v2,h12,h22⟩:=hr2.run hs
  exact ⟨.tuple #[v,v',v2],by rw [yd h]; simp [h1,h1',h12],[v,v',v2],rfl,v,[v',v2],rfl,h2,v',[v2],rfl,h2',v2,[],rfl,h22,rfl⟩
theorem has_zero {os:List Ord} {fs:List (Int × Int)} {n:Nat}:(List.replicate n [TV.d (D.int .i64 0)]).flatten = intsT (hasN os fs n 0).1:=by
  rw [hasN,intsT,List.map_replicate]
  induction n with
  | zero=>rfl
  | succ n ih=>rw [List.replicate_succ,List.flatten_cons,ih,List.replicate_succ]; rfl
theorem has_step {os : List Ord} {fs : List (Int × Int)} {n i k : Nat} {o : Ord} {f : Int × Int} (h1 : os.getD i ord0 = o) (h2 : fs.getD i (-1, 0) = f) (h3 : (f.1 == -1) = false) (h4 : o.stock.toNat = k) :
    hasN os fs n (i + 1) = ((hasN os fs n i).1.set k ((hasN os fs n i).1.getD k 0 + (bif o.buy then -o.number else o.number)),(hasN os fs n i).2 - (bif o.buy then -o.number else o.number) * f.2):=by
  rw [hasN,h1,h2,h3,h4]; rfl
theorem mul_bd {q x:Int} (hq:-99 ≤ q ∧ q ≤ 99) (hx:0 ≤ x ∧ x ≤ 1004):-100000 ≤ q * x ∧ q * x ≤ 100000:=by
  have e1:q * x ≤ 99 * x:=Int.mul_le_mul_of_nonneg_right hq.2 hx.1
  have e2:-99 * x ≤ q * x:=Int.mul_le_mul_of_nonneg_right hq.1 hx.1
  omega
theorem zE0 (l:List Int):allD (intsT l) = some (l.map fun n=>D.int .i64 n):=by
  rw [show intsT l = (l.map fun n=>D.int .i64 n).map .d by simp [intsT]]; exact zy _
theorem zCe {l:List Int} {n:Nat} (h:l.length = n):chunk 1 n (l.map fun n=>D.int .i64 n) = l.map intE:=by
  subst h
  induction l with
  | nil=>rfl
  | cons a l ih=>rw [List.map_cons,List.length_cons,chunk,List.take_succ_cons,List.take_zero,List.drop_succ_cons,List.drop_zero,ih]; rfl
theorem Has4_eff (d:Dsk) (hN:NamesOK d.b) (h5:d.tape.length ≤ 4294967000) (ho:d.orders.length ≤ 1000)(t:Tru):EffAt Tryz.prog 65 [.d (dskD d),.d (truD t)] [] (X:=Unit) (fun _=>.d (.tup [ints (hasI d t).1,.int .i64 (hasI d t).2.1,.int .i64 (hasI d t).2.2])) (fun _=>[]):=by
 refine EffAt.of_awp Tryz.func65 rfl (by kernel_rfl) rfl fun Γ hn=>?_
 refine Zu (Zb 2 hn rfl fun b2=>Zb 3 hn rfl fun b3=>Zt 3 [] hn rfl (Zv (Zu (Zt 2 [2,3] hn rfl (Zk hn rfl (zBN d hN h5 ho t) (Zt 5 [] hn rfl (Zv (zB (Zu (Zt 2 [] hn rfl (Zv (zH rfl (fun hb0=>?_) (fun hb0=>?_)))))))))))))
 have q0:((playI d t).2 != 0) = true:=hb0
 have e1:hasI d t = ([],0,(playI d t).2):=by unfold hasI; rw [q0]; rfl
 rw [e1]
 refine Zu (Zt 4 [] hn rfl (Zv (zI (zF ?_))))
 exact ret_E (.inl rfl) () ((zEt rfl (.tmp rfl) (.tmp rfl) (.tmp rfl)).le (.tup (.cons (.nil 1) (.refl _)))) trivial
 have q0:((playI d t).2 != 0) = false:=hb0
 have e1:hasI d t = ((hasN d.orders (playI d t).1 d.b.stocks.length (playI d t).1.length).1,(hasN d.orders (playI d t).1 d.b.stocks.length (playI d t).1.length).2,0):=by unfold hasI; rw [q0]; rfl
 rw [e1]
 obtain ⟨hdk,hw,hpe⟩:=play_ok0 (by simpa using q0)
 obtain ⟨hr0,ho5,hf,hob⟩:=kX hdk
 have v:=yw hr0
 have hn4:=v.n4
 have hplen:(playI d t).1.length = d.orders.length:=by rw [hpe,yo]
 have hfb:∀ f ∈ (playI d t).1,0 ≤ f.2 ∧ f.2 ≤ 1004:=fun f hf1=>by rw [hpe] at hf1; obtain ⟨i,hi⟩:=List.getElem?_of_mem hf1; have hil:=(List.getElem?_eq_some_iff.1 hi).1; rw [yo] at hil; rw [zCb hil] at hi; cases hi; exact zFP hf hw.pb
 have hhb:=fun i h1 h2=>zEq (n:=d.b.stocks.length) (fun o ho1=>(zBs (hob o ho1)).2.1) hfb i h1 h2
 refine zK (zA (Zu (Zt 4 [2] hn rfl (stepW (kM (n:=d.b.stocks.length) 25 rfl rfl rfl (nb hn rfl) underlying29 (show _ = some (some (.int .i64 0),1,8) from by kernel_rfl) rfl rfl rfl (by decide) rfl rfl (by simp) (by simp) (by omega) (by omega) (by omega)) fun b25=>?_))))
 refine km (gh_req (id:=25) rfl (congrArg (Res.box b25 3) (has_zero (os:=d.orders) (fs:=(playI d t).1) (n:=d.b.stocks.length)))) ?_
 refine Zt 1 [] hn rfl (Zv (zB (Zu (Zt 3 [] hn rfl (Zv (zL (awp_loop_on (ι:={i:Nat // i ≤ (playI d t).1.length}) (fun x=>(28,true,.d (.int .i64 (x.1:Nat))) :: (5,true,.d (.int .i64 (hasN d.orders (playI d t).1 d.b.stocks.length x.1).2)) :: anys [29,30,31,32,9,8,33,34,35,36,37,10,38,39,11,41,42,43,40,45,46,44,47,48,49,50,51,52,53,54,55,56,57,58,59,60,61,62,63]) (fun x=>(25,.box b25 3 (intsT (hasN d.orders (playI d t).1 d.b.stocks.length x.1).1)) :: gones [9,10]) (fun x=>(playI d t).1.length - x.1) ⟨0,Nat.zero_le _⟩ ⟨.inl rfl,.inl rfl,zE _⟩ ⟨.inl rfl,zR _⟩ ?_)))))))
 rintro ⟨i,hi⟩
 dsimp only
 refine Zu (Zt 1 [] hn rfl (Zv (zB (zH rfl (fun hb1=>?_) (fun hb1=>?_)))))
 have hil:i < (playI d t).1.length:=by simp at hb1; omega
 obtain ⟨f,hfi⟩:=zW hil
 obtain ⟨o,hoi⟩:=zW (show i < d.orders.length by omega)
 have hbi:=hhb i (by omega) (by omega)
 have hbo:=zBs (hob o (List.mem_of_getElem? hoi))
 have hbf:=hfb f (List.mem_of_getElem? hfi)
 have hsl:=zAm (os:=d.orders) (fs:=(playI d t).1) (n:=d.b.stocks.length) i
 obtain ⟨k,hk⟩:∃ k:Nat,o.stock = k:=⟨o.stock.toNat,by omega⟩
 have hkl:k < d.b.stocks.length:=by omega
 have hbk:=hbi.1 k
 refine zK (zA (zB (zL (Zu (Zt 1 [] hn rfl (Zi (i:=i) hn rfl rfl (mget hfi) ?_))))))
 refine Zt 1 [] hn rfl (Zb 9 hn rfl fun b9=>Zt 2 [9] hn rfl (Zv (Zu (Zt 3 [2] hn rfl (Zi (i:=i) hn rfl rfl (mget hoi) ?_)))))
 refine Zt 1 [] hn rfl (Zb 10 hn rfl fun b10=>Zt 1 [10] hn rfl (Zv (Zu (Zt 3 [10] hn rfl (Zv (zB (zL (Zu (Zt 4 [9] hn rfl (Zv (zH rfl (fun hb2=>?_) (fun hb2=>?_))))))))))))
 have q2:(f.1 == -1) = true:=hb2
 have e2:hasN d.orders (playI d t).1 d.b.stocks.length (i + 1) = hasN d.orders (playI d t).1 d.b.stocks.length i:=by rw [hasN,zQ hfi,q2]; rfl
 refine zY (ye rfl (zC (zM (zA (zG (Zs hn (zr rfl rfl rfl (r:=((i + 1:Nat):Int)) (i64w (by omega) (by omega))) ?_))))))
 refine Zt 1 [] hn rfl (zT ?_)
 exact Zr ⟨i + 1,by omega⟩ ⟨.inl rfl,.inl (by simp only; rw [e2]; rfl),zE _⟩ ⟨.inl (by simp only; rw [e2]; rfl),zR _⟩ (by simp only; omega)
 have q2:(f.1 == -1) = false:=hb2
 refine Zu (Zt 3 [10] hn rfl (Zv (zp (e:=.normal) (ι:=Unit) (fun u0=>(11,true,.d (.int .i64 (bif o.buy then -o.number else o.number))) :: anys [47,48]) (fun u0=>[]) (fun hJ3=>?_) ?_)))
 ·
  refine zH rfl (fun hb3=>?_) (fun hb3=>?_)
  have q3:o.buy = true:=hb3
  refine zG (Zt 1 [] hn rfl (Zs hn (q_neg rfl rfl (r:=-o.number) (i64w (by omega) (by omega))) ?_))
  refine Zt 1 [] hn rfl (zT ?_)
  rotate_left
  have q3:o.buy = false:=hb3
  refine zK ?_
  rotate_left
  all_goals
   exact Zj hJ3 () ⟨.inl (by rw [q3]; rfl),zE _⟩ trivial
 rintro _
 have hqb:-99 ≤ (bif o.buy then -o.number else o.number) ∧ (bif o.buy then -o.number else o.number) ≤ 99:=by cases o.buy <;> simp only [cond_true,cond_false] <;> omega
 have e2:=has_step (n:=d.b.stocks.length) (os:=d.orders) (fs:=(playI d t).1) (i:=i) (zQ hoi) (zQ hfi) q2 (show o.stock.toNat = k by omega)
 generalize (bif o.buy then -o.number else o.number) = z at hqb e2 ⊢
 have hmb:-100000 ≤ z * f.2 ∧ z * f.2 ≤ 100000:=mul_bd hqb hbf
 refine zN (zA (Zu (Zt 3 [10] hn rfl (Zs hn (q_indexV (i:=k) rfl rfl rfl underlying29 sz3 hk (by omega)) ?_))))
 refine Zs hn (zb rfl rfl (id:=25) rfl underlying3 rfl (zEZ (by omega)) sees0) ?_
 refine Zt 1 [] hn rfl (Zs hn (zr rfl rfl rfl (i64w (by omega) rfl)) ?_)
 refine Zs hn (q_indexV (i:=k) rfl rfl rfl underlying29 sz3 hk (by omega)) ?_
 refine stepW (s_store1 rfl rfl rfl rfl rfl rfl (id:=25) rfl sz3 (by rw [List.length_map]; omega) zFd trivial) fun _=>?_
 refine Zv (zG (Zt 4 [9] hn rfl (Zs hn (zFl rfl rfl rfl (i64w (by omega) rfl)) ?_)))
 refine Zs hn (yZ rfl rfl rfl (i64w (by omega) rfl)) ?_
 refine Zt 1 [] hn rfl (zT (zN (zA (zG (Zs hn (zr rfl rfl rfl (r:=((i + 1:Nat):Int)) (i64w (by omega) (by omega))) ?_)))))
 refine Zt 1 [] hn rfl (zT ?_)
 exact Zr ⟨i + 1,by omega⟩ ⟨.inl rfl,.inl (by simp only; rw [e2]; rfl),zE _⟩ ⟨.inl (by simp only; rw [e2]; rfl),zR _⟩ (by simp only; omega)
 obtain rfl:i = (playI d t).1.length:=by simp at hb1; omega
 refine zY (zC (zC (zM (zA (Zu (Zt 5 [] hn rfl (Zv (zI (y7 (g_freezeV (t:=4) (sz:=1) (n:=d.b.stocks.length) (es:=(hasN d.orders (playI d t).1 d.b.stocks.length (playI d t).1.length).1.map intE) 25 rfl rfl (zE0 _) (by rw [List.length_map,zAm,Nat.mul_one]) (zCe (zAm _)) (Nat.le_refl _) (by simp only [maxLen]; omega)) ?_)))))))))
 exact ret_E (.inl rfl) () (zEt rfl (.tmp rfl) (.tmp rfl) (.tmp rfl)) trivial
def salesU (b:Brd) (l:List Prt) (fee:Int) (o:Ord) (mm:List (Int × Int)) (i:Nat):List Int:=((List.range i).filter (saleB b l fee o mm)).map fun i:Nat=>(i:Int)
theorem salesU_t {b:Brd} {l:List Prt} {fee:Int} {o:Ord} {mm:List (Int × Int)} {i:Nat} (h:saleB b l fee o mm i = true):(salesU b l fee o mm i).map intE ++ [intE (i:Int)] = (salesU b l fee o mm (i + 1)).map intE:=by
  unfold salesU
  rw [List.range_succ,List.filter_append,List.filter_cons,h,if_pos rfl]; simp
theorem salesU_f {b:Brd} {l:List Prt} {fee:Int} {o:Ord} {mm:List (Int × Int)} {i:Nat} (h:saleB b l fee o mm i = false):salesU b l fee o mm i = salesU b l fee o mm (i + 1):=by
  unfold salesU
  rw [List.range_succ,List.filter_append,List.filter_cons,h]; simp
theorem salesU_len {b:Brd} {l:List Prt} {fee:Int} {o:Ord} {mm:List (Int × Int)} (i:Nat):(salesU b l fee o mm i).length ≤ i:=by
  unfold salesU
  rw [List.length_map]
  exact Nat.le_trans (List.length_filter_le _ _) (by rw [List.length_range]; exact Nat.le_refl _)
theorem any_hit {f:Nat → Bool} {i j:Nat} (hj:j < i) (h:f j = true):(List.range i).any f = true:=List.any_eq_true.2 ⟨j,List.mem_range.2 hj,h⟩
theorem any_succ {f:Nat → Bool} {j:Nat} (h:(List.range j).any f = false) (h1:f j = false):(List.range (j + 1)).any f = false:=by
  rw [List.range_succ,List.any_append,h]; simp [h1]
theorem elt46:ElT Tryz.prog 46 66 2 16:=zBh underlying46 (z:=(.agg #[(.int .i64 0),(.int .i64 0)])) (by kernel_rfl) rfl (by decide)
theorem Sales4_eff (d:Dsk) (hN:NamesOK d.b) (h5:d.tape.length ≤ 4294967000) (ho:d.orders.length ≤ 1000) (q:Int):EffAt Tryz.prog 26 [.d (dskD d),.d (.int .i64 q)] [] (X:=Unit) (fun _=>.d (.tup [ints (salesI d q).1,.int .i64 (salesI d q).2])) (fun _=>[]):=by
 refine EffAt.of_awp Tryz.func26 rfl (by kernel_rfl) rfl fun Γ hn=>?_
 refine Zu (Zb 2 hn rfl fun b2=>Zt 2 [] hn rfl (Zv (Zu (Zt 2 [2] hn rfl (stepW (zO rfl rfl rfl (nb hn rfl) underlying29 sz3 zr3 rfl rfl rfl (show _ = [.d (.int .i64 0)] from by kernel_rfl) (by kernel_rfl) rfl rfl rfl rfl rfl) fun _=>?_)))))
 refine Zk hn rfl (zBZ d hN h5 ho [q] (by simp)) (Zt 5 [] hn rfl (Zv (zB (Zu (Zt 2 [] hn rfl (Zv (zH rfl (fun hb0=>?_) (fun hb0=>?_))))))))
 have q0:(sureO d [q] != 0) = true:=hb0
 have e1:salesI d q = ([],sureO d [q]):=by unfold salesI; rw [q0]; rfl
 rw [e1]
 refine Zu (Zt 3 [] hn rfl (Zv (zI (zF ?_))))
 exact ret_E (.inl rfl) () ((z8 rfl (.tmp rfl) (.tmp rfl)).le (.tup (.cons (.nil 1) (.refl _)))) trivial
 have q0:(sureO d [q] != 0) = false:=hb0
 obtain ⟨H,hq,hP⟩:=kZ (show sureO d [q] = 0 by simpa using q0)
 rw [hP]
 have hqq:=hq q List.mem_cons_self
 obtain ⟨q,rfl⟩:∃ k:Nat,q = k:=⟨q.toNat,by omega⟩
 obtain ⟨o,hoq⟩:=zW (show q < d.orders.length by omega)
 have hl8:=H.l8
 have hob:=H.ob o (List.mem_of_getElem? hoq)
 have e1:salesI d (q:Nat) = (salesU d.b (readI d.b d.tape).1 d.fee o (minutesI d.b d.tape).1 (readI d.b d.tape).1.length,0):=by unfold salesI; rw [q0,Int.toNat_natCast,zQ hoq]; rfl
 rw [e1]
 refine zK (zA (Zu (Zt 2 [] hn rfl (stepW (s_callE (zDP d _ _ H hN h5 o q hoq) rfl rfl rfl (nb hn rfl) (.d rfl) rfl (.refl _) trivial (fun _=>rfl) (fun _ _=>trivial)) fun bm=>?_))))
 refine Zt 5 [] hn rfl (Zv (zB (Zu (Zt 2 [] hn rfl (Zv (zH rfl (fun hb1=>?_) (fun hb1=>?_)))))))
 exact absurd hb1 (by decide)
 refine zK (zA (Zu (Zt 1 [] hn rfl (Zv (zB (zB (zq (g_nil (t:=9) (id:=9) 3 1 rfl (nb hn rfl)) ?_)))))))
 refine zG (Zt 6 [] hn rfl (Zv (zL (awp_loop_on (ι:={x:Nat × Value // x.1 ≤ (readI d.b d.tape).1.length}) (fun x=>(38,true,.d (.int .i64 (x.1.1:Nat))) :: (9,true,.val x.1.2) :: anys [39,40,10,41,42,43,44,45,11,47,48,49,50,51,52,53,54,46,55,56,12,13,57,58,59,60,61,62,63]) (fun x=>(9,.row x.1.2 3 1 ((salesU d.b (readI d.b d.tape).1 d.fee o (minutesI d.b d.tape).1 x.1.1).map intE)) :: gones [12]) (fun x=>(readI d.b d.tape).1.length - x.1.1) ⟨(0,_),Nat.zero_le _⟩ ⟨.inl rfl,.inl rfl,zE _⟩ ⟨.inl rfl,zR _⟩ ?_))))
 rintro ⟨⟨i,vv⟩,hi⟩
 dsimp only
 dsimp only at hi
 refine Zu (Zt 1 [] hn rfl (Zv (zB (zH rfl (fun hb2=>?_) (fun hb2=>?_)))))
 have hil:i < (readI d.b d.tape).1.length:=by simp at hb2; omega
 have hul:=salesU_len (b:=d.b) (l:=(readI d.b d.tape).1) (fee:=d.fee) (o:=o) (mm:=(minutesI d.b d.tape).1) i
 refine zK (zA (zB (zL (Zu (Zt 2 [] hn rfl (Zv (Zu (Zt 1 [] hn rfl (Zs hn (zr rfl rfl rfl (r:=((i + 1:Nat):Int)) (i64w (by omega) (by omega))) ?_)))))))))
 refine Zt 1 [] hn rfl (Zv (zL (awp_loop_on (ι:={j:Nat // j ≤ i + 1 ∧ ((List.range j).any fun fr=>(canO d.b (readI d.b d.tape).1 d.fee o (minutesI d.b d.tape).1 fr (i:Nat)).isSome) = false}) (fun x=>(43,true,.d (.int .i64 (x.1:Nat))) :: (9,true,.val vv) :: anys [44,45,11,47,48,49,50,51,52,53,54,46,55,56,12,13,57,58,59,60,61,62]) (fun x=>(9,.row vv 3 1 ((salesU d.b (readI d.b d.tape).1 d.fee o (minutesI d.b d.tape).1 i).map intE)) :: gones [12]) (fun x=>i + 1 - x.1) ⟨0,Nat.zero_le _,rfl⟩ ⟨.inl rfl,.inl rfl,zE _⟩ ⟨.inl rfl,zR _⟩ ?_)))
 rintro ⟨j,hj,hno⟩
 dsimp only
 refine Zu (Zt 1 [] hn rfl (Zv (zB (zH rfl (fun hb3=>?_) (fun hb3=>?_)))))
 have hjl:j < i + 1:=by simp at hb3; omega
 refine zK (zA (zB (zL (Zu (Zt 2 [] hn rfl (Zv (Zu (Zt 7 [] hn rfl ?_))))))))
 refine stepW (zAC (id:=1060) (zd:=.agg (lvE 0)) rfl rfl rfl (nb hn rfl) zBT underlying202 zr200 zBD (.d rfl) rfl rfl (zB7 (by omega) (by omega)) rfl) fun ⟨r,hr1,hr2⟩=>?_
 obtain ⟨hv1,hv2⟩:=zEp hr1 hr2
 dsimp only [cond_true]
 rw [hv1,hv2]
 refine Zt 3 [] hn rfl (stepW (yN 12 rfl rfl rfl (nb hn rfl) zr200 zero800a zero800b) fun b12=>?_)
 refine stepW (z7 rfl rfl rfl rfl rfl rfl (id:=12) rfl sz200 (zU ((canO d.b (readI d.b d.tape).1 d.fee o (minutesI d.b d.tape).1 j (i:Nat)).getD 0)) (by rw [zU]; decide) (yD ((canO d.b (readI d.b d.tape).1 d.fee o (minutesI d.b d.tape).1 j (i:Nat)).getD 0) (zU _)) trivial) fun _=>?_
 refine Zt 1 [] hn rfl (Zv (Zu (Zt 1 [] hn rfl (Zv (zH rfl (fun hb4=>?_) (fun hb4=>?_))))))
 have hsb:saleB d.b (readI d.b d.tape).1 d.fee o (minutesI d.b d.tape).1 i = true:=any_hit hjl hb4
 refine Zu (Zt 2 [] hn rfl (stepW (zO rfl rfl rfl (nb hn rfl) underlying29 sz3 zr3 rfl rfl rfl (show _ = [.d (.int .i64 0)] from by kernel_rfl) (by kernel_rfl) rfl rfl rfl rfl rfl) fun _=>?_))
 refine stepW (s_append (id:=9) rfl rfl rfl (nb hn rfl) elt29 trivial rfl rfl rfl (by simp [chunk]; omega) (by simp [chunk]; omega) (fun b hb=>trivial)) fun v61=>?_
 refine Zt 1 [] hn rfl (Zv (zY (ye rfl (zC (zC (zM (zN (zA (zG (Zs hn (zr rfl rfl rfl (r:=((i + 1:Nat):Int)) (i64w (by omega) (by omega))) ?_))))))))))
 refine Zt 1 [] hn rfl (zT ?_)
 exact Zr ⟨(i + 1,v61),by simp only; omega⟩ ⟨.inl rfl,.inl rfl,zE _⟩ ⟨.inl (congrArg (fun z=>some (Res.row v61 3 1 z)) (salesU_t hsb)),zR _⟩ (by simp only; omega)
 have hnj:(canO d.b (readI d.b d.tape).1 d.fee o (minutesI d.b d.tape).1 j (i:Nat)).isSome = false:=hb4
 refine zK (zN (zA (zG (Zs hn (zr rfl rfl rfl (r:=((j + 1:Nat):Int)) (i64w (by omega) (by omega))) ?_))))
 refine Zt 1 [] hn rfl (zT ?_)
 exact Zr ⟨j + 1,by omega,any_succ hno hnj⟩ ⟨.inl rfl,.inl rfl,zE _⟩ ⟨.inl rfl,zR _⟩ (by simp only; omega)
 obtain rfl:j = i + 1:=by simp at hb3; omega
 have hsb:saleB d.b (readI d.b d.tape).1 d.fee o (minutesI d.b d.tape).1 i = false:=hno
 refine zY (zC (zC (zM (zN (zA (zG (Zs hn (zr rfl rfl rfl (r:=((i + 1:Nat):Int)) (i64w (by omega) (by omega))) ?_)))))))
 refine Zt 1 [] hn rfl (zT ?_)
 exact Zr ⟨(i + 1,vv),by simp only; omega⟩ ⟨.inl rfl,.inl rfl,zE _⟩ ⟨.inl (congrArg (fun z:List Int=>some (Res.row vv 3 1 (z.map intE))) (salesU_f hsb)),zR _⟩ (by simp only; omega)
 obtain rfl:i = (readI d.b d.tape).1.length:=by simp at hb2; omega
 refine zY (zC (zC (zM (zA (Zu (Zt 3 [] hn rfl (Zv (zI (y7 (g_row (t:=4) (id:=9) rfl rfl) ?_)))))))))
 exact ret_E (.inl rfl) () (z8 rfl (.tmp rfl) (.tmp rfl)) trivial
theorem Bounds4_eff (d:Dsk) (hN:NamesOK d.b) (h5:d.tape.length ≤ 4294967000) (ho:d.orders.length ≤ 1000):EffAt Tryz.prog 22 [.d (dskD d)] [] (X:=Unit) (fun _=>.d (.tup [rngsD (boundsI d).1,.int .i64 (boundsI d).2])) (fun _=>[]):=by
 refine EffAt.of_awp Tryz.func22 rfl (by kernel_rfl) rfl fun Γ hn=>?_
 refine Zu (Zb 1 hn rfl fun b1=>Zt 2 [] hn rfl (Zv (Zu (Zt 1 [1] hn rfl (stepW (s_call [] (fun _=>zBZ d hN h5 ho [] (by simp)) rfl (zz rfl) rfl (nb hn rfl) (fun _=>trivial) rfl rfl (by first | exact .refl _ | (repeat (first | exact .refl _ | exact .nil _ | refine .cons ?_ ?_ | refine .agg ?_ | refine .tup ?_)))) fun _=>?_)))))
 refine Zt 5 [] hn rfl (Zv (zB (Zu (Zt 2 [] hn rfl (Zv (zH rfl (fun hb0=>?_) (fun hb0=>?_)))))))
 have q0:(sureO d [] != 0) = true:=hb0
 have e1:boundsI d = ([],sureO d []):=by unfold boundsI; rw [q0]; rfl
 rw [e1]
 refine Zu (Zt 3 [] hn rfl (Zv (zI (zF ?_))))
 exact ret_E (.inl rfl) () ((z8 rfl (.tmp rfl) (.tmp rfl)).le (.tup (.cons (.nil 2) (.refl _)))) trivial
 have q0:(sureO d [] != 0) = false:=hb0
 obtain ⟨H,_,hP⟩:=kZ (show sureO d [] = 0 by simpa using q0)
 rw [hP]
 have hl8:=H.l8
 have ho5:=H.o5
 have e1:boundsI d = (d.orders.map fun o=>(bndI d.b (readI d.b d.tape).1 d.fee o (minutesI d.b d.tape).1).1,0):=by unfold boundsI; rw [q0]; rfl
 rw [e1]
 refine zK (zA (Zu (Zt 1 [] hn rfl (Zv (zB (zB (zq (g_nil (t:=6) (id:=6) 66 2 rfl (nb hn rfl)) ?_)))))))
 refine zG (Zt 4 [1] hn rfl (Zv (zL (awp_loop_on (ι:={x:Nat × Value // x.1 ≤ d.orders.length}) (fun x=>(23,true,.d (.int .i64 (x.1.1:Nat))) :: (6,true,.val x.1.2) :: anys [24,25,7,27,28,29,26,30,31,8,9,32,33,36,37,35,38,39,10,11,40,41,42,43,44]) (fun x=>(6,.row x.1.2 66 2 (((d.orders.take x.1.1).map fun o=>(bndI d.b (readI d.b d.tape).1 d.fee o (minutesI d.b d.tape).1).1).map rngE)) :: gones [1060,10]) (fun x=>d.orders.length - x.1.1) ⟨(0,_),Nat.zero_le _⟩ ⟨.inl rfl,.inl rfl,zE _⟩ ⟨.inl rfl,zR _⟩ ?_))))
 rintro ⟨⟨i,vv⟩,hi⟩
 dsimp only
 dsimp only at hi
 refine Zu (Zt 1 [] hn rfl (Zv (zB (zH rfl (fun hb1=>?_) (fun hb1=>?_)))))
 have hil:i < d.orders.length:=by simp at hb1; omega
 obtain ⟨o,hoq⟩:=zW hil
 refine zK (zA (zB (zL (Zu (Zt 2 [] hn rfl (Zv (Zu (Zt 2 [] hn rfl (stepW (s_callE (zDP d _ _ H hN h5 o i hoq) rfl rfl rfl (nb hn rfl) (.d rfl) rfl (.refl _) trivial (fun _=>rfl) (fun _ _=>trivial)) fun bm=>?_)))))))))
 refine Zt 5 [] hn rfl (Zv (zB (Zu (Zt 2 [] hn rfl (Zv (zH rfl (fun hb2=>?_) (fun hb2=>?_)))))))
 exact absurd hb2 (by decide)
 refine zK (zA (Zu (Zt 1 [] hn rfl ?_)))
 refine stepW (s_callE (zFh d _ o _ bm H.fe) rfl rfl rfl (nb hn rfl) (.d rfl) rfl (.refl _) ⟨rfl,trivial⟩ (fun _=>rfl) (fun _ _=>trivial)) fun _=>?_
 refine Zt 3 [] hn rfl (Zb 10 hn rfl fun b10=>Zt 2 [10] hn rfl (Zv (zG (Zt 2 [10] hn rfl (stepW (zO rfl rfl rfl (nb hn rfl) underlying46 sz66 zr66 rfl rfl rfl (show _ = [.d (.int .i64 0),.d (.int .i64 0)] from by kernel_rfl) (by kernel_rfl) rfl rfl rfl rfl rfl) fun _=>?_)))))
 refine stepW (s_append (id:=6) rfl rfl rfl (nb hn rfl) elt46 trivial rfl rfl rfl (by simp [chunk]; omega) (by simp [chunk]; omega) (fun b hb=>trivial)) fun v43=>?_
 refine Zt 1 [] hn rfl (zT (zN (zA (zG (Zs hn (zr rfl rfl rfl (r:=((i + 1:Nat):Int)) (i64w (by omega) (by omega))) ?_)))))
 refine Zt 1 [] hn rfl (zT ?_)
 exact Zr ⟨(i + 1,v43),by simp only; omega⟩ ⟨.inl rfl,.inl rfl,zE _⟩ ⟨.inl (congrArg (fun z=>some (Res.row v43 66 2 z)) (by rw [List.take_add_one,hoq]; simp; rfl)),zR _⟩ (by simp only; omega)
 obtain rfl:i = d.orders.length:=by simp at hb1; omega
 rw [List.take_length]
 refine zY (zC (zC (zM (zA (Zu (Zt 3 [] hn rfl (Zv (zI (y7 (g_row (t:=2) (id:=6) rfl rfl) ?_)))))))))
 exact ret_E (.inl rfl) () (z8 rfl (.tmp rfl) (.tmp rfl)) trivial
theorem Verdicts4_eff (d:Dsk) (hN:NamesOK d.b) (h5:d.tape.length ≤ 4294967000) (ho:d.orders.length ≤ 1000):EffAt Tryz.prog 51 [.d (dskD d)] [] (X:=Unit) (fun _=>.d (.tup [ints (verdsI d).1,.int .i64 (verdsI d).2])) (fun _=>[]):=by
 refine EffAt.of_awp Tryz.func51 rfl (by kernel_rfl) rfl fun Γ hn=>?_
 refine Zu (Zb 1 hn rfl fun b1=>Zt 2 [] hn rfl (Zv (Zu (Zt 1 [1] hn rfl (stepW (s_call [] (fun _=>zBZ d hN h5 ho [] (by simp)) rfl (zz rfl) rfl (nb hn rfl) (fun _=>trivial) rfl rfl (by first | exact .refl _ | (repeat (first | exact .refl _ | exact .nil _ | refine .cons ?_ ?_ | refine .agg ?_ | refine .tup ?_)))) fun _=>?_)))))
 refine Zt 5 [] hn rfl (Zv (zB (Zu (Zt 2 [] hn rfl (Zv (zH rfl (fun hb0=>?_) (fun hb0=>?_)))))))
 have q0:(sureO d [] != 0) = true:=hb0
 have e1:verdsI d = ([],sureO d []):=by unfold verdsI; rw [q0]; rfl
 rw [e1]
 refine Zu (Zt 3 [] hn rfl (Zv (zI (zF ?_))))
 exact ret_E (.inl rfl) () ((z8 rfl (.tmp rfl) (.tmp rfl)).le (.tup (.cons (.nil 1) (.refl _)))) trivial
 have q0:(sureO d [] != 0) = false:=hb0
 obtain ⟨H,_,hP⟩:=kZ (show sureO d [] = 0 by simpa using q0)
 rw [hP]
 have hl8:=H.l8
 have ho5:=H.o5
 have e1:verdsI d = (d.orders.map fun o=>verdI d.b (readI d.b d.tape).1 d.fee o (minutesI d.b d.tape).1,0):=by unfold verdsI; rw [q0]; rfl
 rw [e1]
 refine zK (zA (Zu (Zt 1 [] hn rfl (Zv (zB (zB (zq (g_nil (t:=6) (id:=6) 3 1 rfl (nb hn rfl)) ?_)))))))
 refine zG (Zt 4 [1] hn rfl (Zv (zL (awp_loop_on (ι:={x:Nat × Value // x.1 ≤ d.orders.length}) (fun x=>(21,true,.d (.int .i64 (x.1.1:Nat))) :: (6,true,.val x.1.2) :: anys [22,23,7,25,26,27,24,28,29,8,9,30,31,33,34,35,36,37,38]) (fun x=>(6,.row x.1.2 3 1 (((d.orders.take x.1.1).map fun o=>verdI d.b (readI d.b d.tape).1 d.fee o (minutesI d.b d.tape).1).map intE)) :: gones [1060]) (fun x=>d.orders.length - x.1.1) ⟨(0,_),Nat.zero_le _⟩ ⟨.inl rfl,.inl rfl,zE _⟩ ⟨.inl rfl,zR _⟩ ?_))))
 rintro ⟨⟨i,vv⟩,hi⟩
 dsimp only
 dsimp only at hi
 refine Zu (Zt 1 [] hn rfl (Zv (zB (zH rfl (fun hb1=>?_) (fun hb1=>?_)))))
 have hil:i < d.orders.length:=by simp at hb1; omega
 obtain ⟨o,hoq⟩:=zW hil
 refine zK (zA (zB (zL (Zu (Zt 2 [] hn rfl (Zv (Zu (Zt 2 [] hn rfl (stepW (s_callE (zDP d _ _ H hN h5 o i hoq) rfl rfl rfl (nb hn rfl) (.d rfl) rfl (.refl _) trivial (fun _=>rfl) (fun _ _=>trivial)) fun bm=>?_)))))))))
 refine Zt 5 [] hn rfl (Zv (zB (Zu (Zt 2 [] hn rfl (Zv (zH rfl (fun hb2=>?_) (fun hb2=>?_)))))))
 exact absurd hb2 (by decide)
 refine zK (zA (zG (Zt 2 [] hn rfl ?_)))
 refine stepW (s_callE (verd_pk d _ o _ bm H.fe) rfl rfl rfl (nb hn rfl) (.d rfl) rfl (.refl _) ⟨rfl,trivial⟩ (fun _=>rfl) (fun _ _=>trivial)) fun _=>?_
 refine stepW (zO rfl rfl rfl (nb hn rfl) underlying29 sz3 zr3 rfl rfl rfl (show _ = [.d (.int .i64 0)] from by kernel_rfl) (by kernel_rfl) rfl rfl rfl rfl rfl) fun _=>?_
 refine stepW (s_append (id:=6) rfl rfl rfl (nb hn rfl) elt29 trivial rfl rfl rfl (by simp [chunk]; omega) (by simp [chunk]; omega) (fun b hb=>trivial)) fun v37=>?_
 refine Zt 1 [] hn rfl (zT (zN (zA (zG (Zs hn (zr rfl rfl rfl (r:=((i + 1:Nat):Int)) (i64w (by omega) (by omega))) ?_)))))
 refine Zt 1 [] hn rfl (zT ?_)
 exact Zr ⟨(i + 1,v37),by simp only; omega⟩ ⟨.inl rfl,.inl rfl,zE _⟩ ⟨.inl (congrArg (fun z=>some (Res.row v37 3 1 z)) (by rw [List.take_add_one,hoq]; simp; rfl)),zR _⟩ (by simp only; omega)
 obtain rfl:i = d.orders.length:=by simp at hb1; omega
 rw [List.take_length]
 refine zY (zC (zC (zM (zA (Zu (Zt 3 [] hn rfl (Zv (zI (y7 (g_row (t:=2) (id:=6) rfl rfl) ?_)))))))))
 exact ret_E (.inl rfl) () (z8 rfl (.tmp rfl) (.tmp rfl)) trivial
theorem zAy (d:Dsk) (hN:NamesOK d.b) (h5:d.tape.length ≤ 4294967000) (ho:d.orders.length ≤ 1000) (q:Int):PureAt Tryz.prog 26 [dskD d,.int .i64 q] (.tup [ints (salesI d q).1,.int .i64 (salesI d q).2]):=PureAt.of_eff (ds:=[dskD d,.int .i64 q]) (Sales4_eff d hN h5 ho q)
theorem zCQ (d:Dsk) (hN:NamesOK d.b) (h5:d.tape.length ≤ 4294967000) (ho:d.orders.length ≤ 1000):PureAt Tryz.prog 22 [dskD d] (.tup [rngsD (boundsI d).1,.int .i64 (boundsI d).2]):=PureAt.of_eff (ds:=[dskD d]) (Bounds4_eff d hN h5 ho)
theorem zAI (d:Dsk) (hN:NamesOK d.b) (h5:d.tape.length ≤ 4294967000) (ho:d.orders.length ≤ 1000):PureAt Tryz.prog 51 [dskD d] (.tup [ints (verdsI d).1,.int .i64 (verdsI d).2]):=PureAt.of_eff (ds:=[dskD d]) (Verdicts4_eff d hN h5 ho)
theorem zEi (d:Dsk) (hN:NamesOK d.b) (h5:d.tape.length ≤ 4294967000) (ho:d.orders.length ≤ 1000)(t:Tru):PureAt Tryz.prog 65 [dskD d,truD t] (.tup [ints (hasI d t).1,.int .i64 (hasI d t).2.1,.int .i64 (hasI d t).2.2]):=PureAt.of_eff (ds:=[dskD d,truD t]) (Has4_eff d hN h5 ho t)
def lowF (m:Nat):Option Nat:=(List.range 800).find? fun p=>m.testBit p
theorem zEV {f:Nat → Bool} {p:Nat}:∀ (n i:Nat),i ≤ p → p < i + n → f p = true → (∀ q,i ≤ q → q < p → f q = false) → (List.range' i n).find? f = some p
  | 0,i,h1,h2,_,_=>by omega
  | n + 1,i,h1,h2,h3,h4=>by
    rw [List.range'_succ,List.find?_cons]
    by_cases e:i = p
    · subst e; rw [h3]
    · rw [h4 i (Nat.le_refl _) (by omega)]
      exact zEV n (i + 1) (by omega) (by omega) h3 fun q hq1 hq2=>h4 q (by omega) hq2
theorem low_hit {m p:Nat} (hp:p < 800) (h:m.testBit p = true) (hno:∀ q,q < p → m.testBit q = false):lowF m = some p:=by
  unfold lowF
  rw [List.range_eq_range']
  exact zEV 800 0 (Nat.zero_le _) (by omega) h fun q _ hq=>hno q hq
theorem low_miss {m:Nat} (h:∀ q,q < 800 → m.testBit q = false):lowF m = none:=by
  unfold lowF
  rw [List.find?_eq_none]
  intro q hq
  rw [h q (List.mem_range.1 hq)]; decide
def onlO (out:List Int) (i:Nat):Option Nat → List Int
  | none=>out
  | some p=>out.set i (p:Nat)
/-- Sale by sale the smallest price that can be. -/
def onlGo (l:List Prt) (J:Nat) (ms:List Nat):List Nat → Nat → List Int → List Int
  | [],_,out=>out
  | i :: r,bf,out=>onlGo l J ms r (putB 0 ((onlO out i (lowF (kepN (l.getD i prt0) (fun y=>(nearN bf J).testBit y) (ms.getD i 0)))).getD i 0).toNat true) (onlO out i (lowF (kepN (l.getD i prt0) (fun y=>(nearN bf J).testBit y) (ms.getD i 0))))
theorem zDw {out:List Int} {i n:Nat} {x:Option Nat} (h:out.length = n):(onlO out i x).length = n:=by
  cases x with
  | none=>exact h
  | some p=>show (out.set i (p:Nat)).length = n; rw [List.length_set]; exact h
theorem onlO_bd {out:List Int} {i p:Nat} (h:∀ x ∈ out,0 ≤ x ∧ x < 800) (hp:p < 800):∀ x ∈ out.set i ((p:Nat):Int),0 ≤ x ∧ x < 800:=fun x hx=>by
  rcases List.mem_or_eq_of_mem_set hx with hx | rfl
  · exact h x hx
  · omega
theorem zFN {out:List Int} {i:Nat} (h:∀ x ∈ out,0 ≤ x ∧ x < 800):0 ≤ out.getD i 0 ∧ out.getD i 0 < 800:=by
  by_cases hi:i < out.length
  · obtain ⟨x,hx⟩:=zW hi
    rw [zQ hx]; exact h x (List.mem_of_getElem? hx)
  · rw [List.getD_eq_getElem?_getD,List.getElem?_eq_none (by omega)]; simp
theorem only1_ok (m p:Nat) (hp:p < 800):PureAt Tryz.prog 205 [.int .i64 (p:Nat),.ptr (lvE m)] (.bool (m.testBit p)):=by
 refine Zp Tryz.func205 rfl fun Γ hn hl=>?_
 refine Zu ?_
 refine Zt 1 [] hn rfl ?_
 refine Zv (Zu ?_)
 refine Zt 1 [] hn rfl ?_
 refine Zs hn (q_indexP (i:=p) rfl rfl rfl underlying200 sz4 rfl hp (zEk hp)) ?_
 refine Zt 2 [] hn rfl ?_
 refine Zv (zI ?_)
 exact za (.inl rfl) hl rfl (.tmp rfl)
theorem chain_yes (d:Dsk) (l:List Prt) (o:Ord) (mm:List (Int × Int)) (b:Nat)(hf:0 ≤ d.fee ∧ d.fee ≤ 4)(J:Nat) (hJ:d.b.jump = (J:Nat)) (hJ4:J ≤ 40) (hl8:l.length ≤ 8)(s:Stk) (k:Nat) (hk:o.stock = (k:Nat)) (hst:d.b.stocks[k]? = some s) (fr by_:Int) (c:List Nat) (hc:chainN d.b l d.fee o fr by_ = some c):EffAt Tryz.prog 140 [.d (.ptr (askC d l o mm b)),.d (waitD fr by_)] [] (X:=Nat) (fun bm=>.tup [chV bm (some c),.d (.bool true)]) (fun bm=>[(1050,chS l o.stock bm (some c))]):=by
  have h:=zBi d l o mm b hf J hJ hJ4 hl8 s k hk hst fr by_
  rw [hc] at h
  exact h
theorem zDQ {J:Nat} {k:Int} {l:List Prt} {n:Nat}:∀ {i:Nat} {lat:Option Nat} {ms:List Nat},ms.length = n → (bckGo J k l i lat ms).length = n
  | 0,lat,ms,h=>h
  | i + 1,lat,ms,h=>by
    rw [bckGo]
    cases (l.getD i prt0).stock == k
    · exact zDQ h
    · exact zDQ (by rw [List.length_set]; exact h)
theorem rep_ints (n:Nat):(List.replicate n [TV.d (D.int .i64 0)]).flatten = intsT (List.replicate n 0):=by
  rw [intsT,List.map_replicate]
  induction n with
  | zero=>rfl
  | succ n ih=>rw [List.replicate_succ,List.flatten_cons,ih,List.replicate_succ]; rfl
theorem only_eff (d:Dsk) (l:List Prt) (o:Ord) (mm:List (Int × Int)) (b:Nat)(hf:0 ≤ d.fee ∧ d.fee ≤ 4)(J:Nat) (hJ:d.b.jump = (J:Nat)) (hJ4:J ≤ 40) (hl8:l.length ≤ 8)(s:Stk) (k:Nat) (hk:o.stock = (k:Nat)) (hst:d.b.stocks[k]? = some s) (fr:Int) (w price:Nat) (hw:w < l.length) (hwm:(l.getD w prt0).stock = o.stock) (hpr:price < 800) (c:List Nat) (hc:chainN d.b l d.fee o fr (w:Nat) = some c):EffAt Tryz.prog 166 [.d (.ptr (askC d l o mm b)),.d (waitD fr (w:Nat)),.d (.int .i64 (price:Nat))] [] (X:=Unit) (fun _=>.d (ints (onlGo l J (bckGo J o.stock l l.length none (c.set w (putB 0 price true))) (ofL l o.stock 0) (startN s) (List.replicate l.length 0)))) (fun _=>[]):=by
 have hcl:=zC2 hc
 have hwo:=(zBO (k:=o.stock) hw).2 hwm
 have hbl:(bckGo J o.stock l l.length none (c.set w (putB 0 price true))).length = l.length:=zDQ (zCD hcl)
 refine EffAt.of_awpM Tryz.func166 rfl (by kernel_rfl) rfl fun Γ hn=>?_
 refine Zu (Zb 3 hn rfl fun b3=>Zb 4 hn rfl fun b4=>Zt 1 [] hn rfl (Zv (zB (zq (zv (t:=3) 3 rfl (nb hn rfl) rfl rfl trivial) ?_))))
 refine zq (zv (t:=4) 4 rfl (nb hn rfl) rfl rfl trivial) ?_
 refine zG (Zt 2 [] hn rfl (stepW (s_callE (chain_yes d l o mm b hf J hJ hJ4 hl8 s k hk hst fr (w:Nat) c hc) rfl rfl rfl (nb hn rfl) (.d rfl) rfl (.refl _) trivial (fun _=>rfl) (fun _ _=>trivial)) fun bm=>?_))
 refine Zt 3 [] hn rfl (Zb 7 hn rfl fun b7=>stepW (s_store1 rfl rfl rfl rfl rfl rfl (id:=7) rfl sz266 (Nat.le_of_ble_eq_true rfl) rfl trivial) fun _=>?_)
 refine Zt 1 [] hn rfl (Zv (Zu (stepW (yN 9 rfl rfl rfl (nb hn rfl) zr200 zero800a zero800b) fun b9=>?_)))
 refine Zv (Zu (Zt 1 [] hn rfl (Zs hn (q_indexA (i:=price) rfl rfl rfl underlying200 sz4 rfl hpr) ?_)))
 refine stepW (s_store1 rfl rfl rfl rfl rfl rfl (id:=9) rfl sz4 (by rw [zU]; omega) (y1 hpr) trivial) fun _=>?_
 refine Zv (zB (zq (zv (t:=7) 7 rfl (nb hn rfl) rfl rfl trivial) ?_))
 refine zG (Zt 3 [] hn rfl (Zs hn (zf rfl rfl (id:=9) rfl underlying200 rfl sz200 (z6 _) (zm _) sees0) ?_))
 refine stepW (yz (id:=1050) rfl rfl rfl kp underlying266 (.d rfl) rfl rfl (zAW (by omega)) rfl (zBr _) rfl (zEY (by rw [hcl]; exact hw) (zED hwo)) trivial) fun _=>?_
 refine Zv (Zu (Zt 2 [] hn rfl ?_))
 refine stepW (s_callE (zEP d l o mm b J hJ hJ4 hl8 bm (c.set w (putB 0 price true)) (zCD hcl)) rfl rfl rfl (nb hn rfl) (.d rfl) rfl (.refl _) ⟨rfl,trivial⟩ (fun _=>rfl) (fun _ _=>trivial)) fun _=>?_
 refine Zv (Zu (Zt 8 [] hn rfl (stepW (kM (n:=l.length) 40 rfl rfl rfl (nb hn rfl) underlying29 (show _ = some (some (.int .i64 0),1,8) from by kernel_rfl) rfl rfl rfl (by decide) rfl rfl (by simp) (by simp) (by omega) (by omega) (by omega)) fun b40=>?_)))
 refine km (gh_req (id:=40) rfl (congrArg (Res.box b40 3) (rep_ints l.length))) ?_
 refine Zb 10 hn rfl fun b10=>stepW (s_store1 rfl rfl rfl rfl rfl rfl (id:=10) rfl sz29 (Nat.le_of_ble_eq_true rfl) rfl trivial) fun _=>?_
 refine Zv (Zu (Zt 1 [] hn rfl (Zk hn rfl (zC4 d l o mm b s k hk hst) (stepW (yN 11 rfl rfl rfl (nb hn rfl) zr200 zero800a zero800b) fun b11=>?_))))
 refine stepW (z7 rfl rfl rfl rfl rfl rfl (id:=11) rfl sz200 (zU _) (by rw [zU]; decide) (yD _ (zU _)) trivial) fun _=>?_
 refine Zv (zB (zB (zo (W:=fun b=>True) fmo ?_)))
 refine Zy [0,1,2,3,4,5,6,7,8] [] hn rfl (zD (Ze1 9 rfl hn rfl (zE3 d l o.stock 0) (d2_of_d1 (zD (zl (by kernel_rfl) ?_)))))
 refine zA (zL ?_)
 refine awp_rangeFunc (ι:={x:Nat × List Int // x.2.length = l.length ∧ ∀ y ∈ x.2,0 ≤ y ∧ y < 800}) (fun x=>[(11,.box b11 200 (lvT x.1.1)),(40,.box b40 3 (intsT x.1.2)),(10,.box b10 29 [.val (.slice (some ⟨b40,0,none⟩) l.length l.length)]),(1050,mapRes KI bm (inM (ofL l o.stock 0) (bckGo J o.stock l l.length none (c.set w (putB 0 price true)))))]) (fun j x=>onlGo l J (bckGo J o.stock l l.length none (c.set w (putB 0 price true))) ((ofL l o.stock 0).drop j) x.1.1 x.1.2 = onlGo l J (bckGo J o.stock l l.length none (c.set w (putB 0 price true))) (ofL l o.stock 0) (startN s) (List.replicate l.length 0)) (fun _ _=>False) ⟨(startN s,List.replicate l.length 0),by simp,fun y hy=>by rw [(List.mem_replicate.1 hy).2]; omega⟩ (zDF d l o.stock 0 hl8) rfl zBG (by rw [hn]; rfl) (.inl rfl) ⟨rfl,rfl,rfl,rfl,trivial⟩ (by rw [List.drop_zero]) (fun _=>rfl) (fun _=>rfl) rfl rfl ?_ ?_ ?_
 rintro l0 r0 Γr j0 x0 ⟨⟨bf,out⟩,hol,hob⟩ hnr hrd hx0 hA0
 dsimp only at hA0 hol hob
 obtain ⟨i,hi,rfl,hil,_,hik⟩:=zB6 hx0
 obtain ⟨p,hp⟩:=zW hil
 have hgp:l.getD i prt0 = p:=zQ hp
 rw [zw hi,onlGo,hgp] at hA0
 refine zZ (ZtI 1 [] (hnr.trans hn) rfl (zg (aend_begin hrd rfl (ya (zn (zZ (ZtI 1 [] (hnr.trans hn) rfl (sqI rfl rfl (hnr.trans hn) rfl (zf rfl rfl (id:=11) rfl underlying200 rfl sz200 (z6 _) (zm _) sees0) rfl ?_))))))))
 refine stepWI ((s_call [] (fun _=>zCR d l o mm b J hJ hJ4 bf) rfl (zz rfl) rfl (nb (hnr.trans hn) rfl) (fun _=>trivial) rfl rfl (.refl _)).i rfl) fun _=>?_
 refine stepWI ((yN 13 rfl rfl rfl (nb (hnr.trans hn) rfl) zr200 zero800a zero800b).i rfl) fun b13=>?_
 refine stepWI ((z7 rfl rfl rfl rfl rfl rfl (id:=13) rfl sz200 (show (TV.cells (.d (.agg (lvE (nearN bf J))))).length = 800 from zU _) (by rw [zU]; decide) (yD (nearN bf J) (zU _)) trivial).i rfl) fun _=>?_
 refine zg (zX (zn (gh_awi (zv (t:=13) 13 rfl (nb (hnr.trans hn) rfl) rfl (zy _) trivial) ?_)))
 refine zZ (ZtI 3 [] (hnr.trans hn) rfl ?_)
 refine stepWI ((zAC (id:=1050) (zd:=.agg (lvE 0)) rfl rfl rfl (nb (hnr.trans hn) rfl) kp underlying266 zr200 zBD (.d rfl) rfl rfl (zAW (by omega)) rfl).i rfl) fun ⟨r,hr1,hr2⟩=>?_
 obtain ⟨hv1,_⟩:=zDm hr1 hr2
 dsimp only [cond_false]
 rw [hv1,if_pos ((zBO hil).2 hik)]
 refine ZtI 1 [] (hnr.trans hn) rfl (sqI rfl rfl (hnr.trans hn) rfl (yC rfl rfl rfl) rfl ?_)
 refine stepWI ((s_call [] (fun _=>zDZ d l o mm b ((bckGo J o.stock l l.length none (c.set w (putB 0 price true))).getD i 0) i p hp (fun y=>(nearN bf J).testBit y) _ [] [.ptr (lvE (nearN bf J))] (fun y hy=>only1_ok (nearN bf J) y hy)) rfl (zz rfl) rfl (nb (hnr.trans hn) rfl) (fun _=>trivial) rfl rfl (.refl _)).i rfl) fun _=>?_
 refine stepWI ((yN 14 rfl rfl rfl (nb (hnr.trans hn) rfl) zr200 zero800a zero800b).i rfl) fun b14=>?_
 refine stepWI ((z7 rfl rfl rfl rfl rfl rfl (id:=14) rfl sz200 (show (TV.cells (.d (.agg (lvE (kepN p (fun y=>(nearN bf J).testBit y) ((bckGo J o.stock l l.length none (c.set w (putB 0 price true))).getD i 0)))))).length = 800 from zU _) (by rw [zU]; decide) (yD (kepN p (fun y=>(nearN bf J).testBit y) ((bckGo J o.stock l l.length none (c.set w (putB 0 price true))).getD i 0)) (zU _)) trivial).i rfl) fun _=>?_
 refine zg (zX (zn (zn ?_)))
 generalize hlv:kepN p (fun y=>(nearN bf J).testBit y) ((bckGo J o.stock l l.length none (c.set w (putB 0 price true))).getD i 0) = lv at hA0 ⊢
 refine zZ (sqI rfl rfl (hnr.trans hn) rfl (zf rfl rfl (id:=14) rfl underlying200 rfl sz200 (z6 _) (zm _) sees0) rfl ?_)
 refine ZtI 1 [] (hnr.trans hn) rfl (zg (zX (ya (zAU (ι:={y:Nat // y ≤ 800 ∧ ∀ q,q < y → lv.testBit q = false}) (fun x=>(65,true,.d (.int .i64 (x.1:Nat))) :: anys [66,67,68,15,16,69,70,71,72,73,74]) (fun x=>[(40,.box b40 3 (intsT out))]) (fun x=>800 - x.1) ⟨0,Nat.zero_le _,fun q hq=>by omega⟩ ⟨.inl rfl,zE _⟩ ⟨.inl rfl,trivial⟩ ?_))))
 rintro ⟨y,hy,hno⟩
 dsimp only
 refine zn (zZ (ZtI 1 [] (hnr.trans hn) rfl (zg (zX (zn (yi rfl (fun hb0=>?_) (fun hb0=>?_)))))))
 have hyl:y < 800:=by simp at hb0; omega
 refine yn (zX (zn (ya (zn (zZ (ZtI 1 [] (hnr.trans hn) rfl (sqI rfl rfl (hnr.trans hn) rfl (q_indexAgg rfl rfl rfl underlying200 underlying4 rfl sz4 rfl hyl (y4 hyl)) rfl ?_)))))))
 refine ZtI 2 [] (hnr.trans hn) rfl (zg (zX (zn (zZ (ZtI 1 [] (hnr.trans hn) rfl (zg (zX (yi rfl (fun hb1=>?_) (fun hb1=>?_)))))))))
 rw [low_hit hyl hb1 hno] at hA0
 have hob2:=onlO_bd (i:=i) hob hyl
 have hgb:=zFN (i:=i) hob2
 refine zn (zZ (ZtI 3 [10] (hnr.trans hn) rfl (sqI rfl rfl (hnr.trans hn) rfl (q_indexV (i:=i) rfl rfl rfl underlying29 sz3 rfl (by omega)) rfl ?_)))
 refine stepWI ((s_store1 rfl rfl rfl rfl rfl rfl (id:=40) rfl sz3 (by rw [List.length_map]; omega) zFd trivial).i rfl) fun _=>?_
 refine zg (zX (zAV (ye rfl (zC (zC (zM (zX (zn (zZ (sqI rfl rfl (hnr.trans hn) rfl (yl (ds:=lvE 0) rfl bt200 zero800a zero800b rfl rfl (zy _)) rfl ?_))))))))))
 refine stepWI ((z7 rfl rfl rfl rfl rfl rfl (id:=11) rfl sz200 (show (TV.cells (.d (.agg (lvE 0)))).length = 800 from zU 0) (by rw [zU]; decide) (yD 0 (zU _)) trivial).i rfl) fun _=>?_
 refine zg (zX (zZ (ZtI 2 [10] (hnr.trans hn) rfl (sqI rfl rfl (hnr.trans hn) rfl (q_indexV (i:=i) rfl rfl rfl underlying29 sz3 rfl (by omega)) rfl ?_))))
 refine sqI rfl rfl (hnr.trans hn) rfl (zb rfl rfl (id:=40) rfl underlying3 rfl (zEZ (by rw [List.length_set]; omega)) sees0) rfl ?_
 refine sqI rfl rfl (hnr.trans hn) rfl (q_indexA (i:=((out.set i ((y:Nat):Int)).getD i 0).toNat) rfl rfl rfl underlying200 sz4 (by omega) (by omega)) rfl ?_
 refine stepWI ((s_store1 rfl rfl rfl rfl rfl rfl (id:=11) rfl sz4 (by rw [zU]; omega) (y1 (by omega)) trivial).i rfl) fun _=>?_
 refine zg (zN ?_)
 exact yY ⟨(putB 0 ((out.set i ((y:Nat):Int)).getD i 0).toNat true,out.set i ((y:Nat):Int)),zDw (x:=some y) hol,hob2⟩ (by exact hA0) ⟨rfl,rfl,rfl,rfl,rfl,trivial⟩
 have hbt:lv.testBit y = false:=hb1
 refine yn (zN (zX (zZ (sqI rfl rfl (hnr.trans hn) rfl (zr rfl rfl rfl (r:=((y + 1:Nat):Int)) (i64w (by omega) (by omega))) rfl ?_))))
 refine ZtI 1 [] (hnr.trans hn) rfl (zg ?_)
 exact Zr ⟨y + 1,by omega,fun q hq=>by by_cases e:q = y; (subst e; exact hbt); exact hno q (by omega)⟩ ⟨.inl rfl,zE _⟩ ⟨.inl rfl,trivial⟩ (by simp only; omega)
 obtain rfl:y = 800:=by simp at hb0; omega
 rw [low_miss hno] at hA0
 have hgb:=zFN (i:=i) hob
 refine zAV (zC (zC (zM (zX (zn (zZ (sqI rfl rfl (hnr.trans hn) rfl (yl (ds:=lvE 0) rfl bt200 zero800a zero800b rfl rfl (zy _)) rfl ?_)))))))
 refine stepWI ((z7 rfl rfl rfl rfl rfl rfl (id:=11) rfl sz200 (show (TV.cells (.d (.agg (lvE 0)))).length = 800 from zU 0) (by rw [zU]; decide) (yD 0 (zU _)) trivial).i rfl) fun _=>?_
 refine zg (zX (zZ (ZtI 2 [10] (hnr.trans hn) rfl (sqI rfl rfl (hnr.trans hn) rfl (q_indexV (i:=i) rfl rfl rfl underlying29 sz3 rfl (by omega)) rfl ?_))))
 refine sqI rfl rfl (hnr.trans hn) rfl (zb rfl rfl (id:=40) rfl underlying3 rfl (zEZ (by omega)) sees0) rfl ?_
 refine sqI rfl rfl (hnr.trans hn) rfl (q_indexA (i:=(out.getD i 0).toNat) rfl rfl rfl underlying200 sz4 (by omega) (by omega)) rfl ?_
 refine stepWI ((s_store1 rfl rfl rfl rfl rfl rfl (id:=11) rfl sz4 (by rw [zU]; omega) (y1 (by omega)) trivial).i rfl) fun _=>?_
 refine zg (zN ?_)
 exact yY ⟨(putB 0 (out.getD i 0).toNat true,out),hol,hob⟩ (by exact hA0) ⟨rfl,rfl,rfl,rfl,rfl,trivial⟩
 rintro ⟨⟨bf,out⟩,hol,hob⟩ D0 hA0
 dsimp only at hA0 hol hob
 rw [zAw,List.drop_length,onlGo] at hA0
 rw [← hA0]
 refine zN (zA (Zu (Zt 2 [10] hn rfl (Zv (zI (y7 (g_freezeV (t:=6) (sz:=1) (n:=l.length) (es:=out.map intE) 40 rfl rfl (zE0 _) (by rw [List.length_map,hol,Nat.mul_one]) (zCe hol) (Nat.le_refl _) (by simp only [maxLen]; omega)) ?_))))))
 exact ret_M (.inl rfl) () (.inr rfl) (zu rfl (.tmp rfl)) trivial rfl
 exact fun _ _ _ h=>h.elim
theorem zFK {v:Value} {l:List Int} (h:VecV v 1 (intsT l)) (hl:0 < l.length):∃ b cap,v = .slice (some ⟨b,0,none⟩) l.length cap ∧ l.length ≤ cap ∧ cap ≤ maxLen:=by
  rcases h with ⟨_,h⟩ | ⟨b,n,cap,rfl,h1,h2,h3⟩
  · rw [List.map_eq_nil_iff] at h; subst h; simp at hl
  · rw [List.length_map,Nat.mul_one] at h3
    subst h3
    exact ⟨b,cap,rfl,h1,h2⟩
theorem vec_mk4 {l:List Int} {b cap:Nat} (h1:l.length ≤ cap) (h2:cap ≤ maxLen):VecV (.slice (some ⟨b,0,none⟩) l.length cap) 1 (intsT l):=.inr ⟨b,l.length,cap,rfl,h1,h2,by rw [List.length_map,Nat.mul_one]⟩
theorem zFS {l:List Int} {x:Int}:intsT l ++ [TV.d (.int .i64 x)] = intsT (l ++ [x]):=by simp [intsT]
theorem iT_last {l:List Int} {x:Int} {r:List TV}:(intsT (l ++ [x]) ++ r)[0 + l.length * 1]? = some (.d (.int .i64 x)):=by
  rw [Nat.zero_add,Nat.mul_one,List.getElem?_append_left (by simp),List.getElem?_map,List.getElem?_append_right (Nat.le_refl _),Nat.sub_self]; rfl
theorem Show_vec (b:Brd) (s:List UInt8) (hN:NamesOK b) (h5:s.length ≤ 4294967000) (h0:(readI b s).2 = 0) (k:Nat) (hi:Bool) (hkl:k < (readI b s).1.length) (hex:(levelsI b (readI b s).1 []).isSome = true):EffAt Tryz.prog 165 [.d (brdD b),.d (strD s),.d (.int .i64 (k:Nat)),.d (.bool hi)] [] (X:={x:Nat × Nat // (showGo b (readI b s).1.length (setP (readI b s).1 k (showP b (readI b s).1 k hi)) []).length = (readI b s).1.length ∧ (readI b s).1.length ≤ x.2 ∧ x.2 ≤ maxLen}) (fun x=>.tup [.val (.slice (some ⟨x.1.1,0,none⟩) (readI b s).1.length x.1.2),.d (.int .i64 0)]) (fun x=>[(1090,.box x.1.1 3 (intsT (showGo b (readI b s).1.length (setP (readI b s).1 k (showP b (readI b s).1 k hi)) []) ++ List.replicate (x.1.2 - (readI b s).1.length) .any))]):=by
 have v:=yw h0
 obtain ⟨hpo,hsl⟩:=y9 (b:=b) (s:=s)
 have hV:VecV (.slice none 0 0) 1 (intsT []):=VecV.nil 1
 obtain ⟨ms,hms⟩:=Option.isSome_iff_exists.1 hex
 have hml:=zBB hms
 obtain ⟨m,hm⟩:=zW (show k < ms.length by omega)
 obtain ⟨sp,hsp⟩:=zW hkl
 have hP:showP b (readI b s).1 k hi = bif hi then (bndN m).2 else (bndN m).1:=by unfold showP; rw [hms,Option.getD_some,zQ hm]
 have hinv:=ShInv.first v hpo hms hi hkl
 refine EffAt.of_awp Tryz.func165 rfl (by kernel_rfl) rfl fun Γ hn=>?_
 refine Zu (Zb 4 hn rfl fun b4=>Zt 2 [] hn rfl (Zv (Zu (Zt 2 [4] hn rfl (stepW (s_callE (zB8 b s hN h5 h0) rfl rfl rfl (nb hn rfl) (.d rfl) rfl (.refl _) trivial (fun _=>rfl) (fun _ _=>trivial)) fun bb=>?_)))))
 refine Zt 5 [] hn rfl (Zv (zB (Zu (Zt 2 [] hn rfl (Zv (zH rfl (fun hb0=>?_) (fun hb0=>?_)))))))
 exact absurd hb0 (by decide)
 refine zK (zA (zB (Zu (Zt 6 [1070] hn rfl (Zs hn (yZ rfl rfl rfl (r:=((readI b s).1.length:Int) - 1) (by rw [List.length_map]; exact i64w (by omega) rfl)) ?_)))))
 refine Zk hn rfl (yc _ _ _) (Zt 1 [] hn rfl (Zv (zH rfl (fun hb1=>?_) (fun hb1=>?_))))
 exact absurd hb1 (by rw [show withinB (k:Nat) 0 (((readI b s).1.length:Int) - 1) = true from zi.2 (by omega)]; decide)
 refine zK (zA (Zu (Zt 1 [] hn rfl ?_)))
 refine stepW (s_callE (zCi bb b (readI b s).1 (.slice none 0 0) [] hV v hsl) rfl rfl rfl (nb hn rfl) (.d rfl) rfl (.refl _) ⟨rfl,rfl,trivial⟩ (fun _=>rfl) (fun _ _=>trivial)) fun _=>?_
 refine Zt 5 [] hn rfl (Zv (zB (Zu (Zt 2 [] hn rfl (Zv (zH rfl (fun hb2=>?_) (fun hb2=>?_)))))))
 exact absurd hb2 (by rw [hms]; simp)
 rw [hms]
 try simp only [Option.getD_some]
 refine zK (zA (Zu (Zt 2 [] hn rfl (Zi (i:=k) hn rfl rfl (mget hm) ?_))))
 refine Zs hn (yQ rfl rfl underlying185 rfl sz185 (zAq m) (zm m) seesF0) ?_
 refine Zk hn rfl (zBm m) (Zb 14 hn rfl fun b14=>Zt 1 [14] hn rfl (Zv (Zu (Zt 4 [14] hn rfl (Zb 15 hn rfl fun b15=>Zt 1 [15] hn rfl (Zv (zB (Zu (Zt 1 [] hn rfl (Zv (zp (e:=.normal) (ι:=Unit) (fun u0=>anys [53,54,55]) (fun u0=>[(15,.box b15 212 [.d (.int .i64 (k:Nat)),.d (.int .i64 (showP b (readI b s).1 k hi))])]) (fun hJ3=>?_) ?_)))))))))))
 ·
  refine zH rfl (fun hb3=>?_) (fun hb3=>?_)
  have q3:hi = true:=hb3
  have e3:(bndN m).2 = showP b (readI b s).1 k hi:=by rw [hP,q3]; rfl
  refine zG (Zt 3 [14] hn rfl (stepW (s_store1 rfl rfl rfl rfl rfl rfl (id:=15) rfl sz3 (Nat.le_of_ble_eq_true rfl) rfl trivial) fun _=>?_))
  refine zT ?_
  rotate_left
  have q3:hi = false:=hb3
  have e3:(bndN m).1 = showP b (readI b s).1 k hi:=by rw [hP,q3]; rfl
  refine zK ?_
  rotate_left
  all_goals
   exact Zj hJ3 () (zE _) ⟨.inl (by rw [← e3]; rfl),trivial⟩
 rintro _
 refine zA (Zu (Zt 2 [15] hn rfl ?_))
 refine stepW (s_callE (zBy bb b (readI b s).1 (.slice none 0 0) [] hV k (showP b (readI b s).1 k hi) sp hsp hsl) rfl rfl rfl (nb hn rfl) (.d rfl) rfl (.refl _) ⟨rfl,rfl,trivial⟩ (fun _=>rfl) (fun _ _=>trivial)) fun bb2=>?_
 refine Zt 1 [] hn rfl (Zv (Zu (Zt 1 [] hn rfl (Zv (zB (zB (zq (zDJ 1090) ?_)))))))
 refine zq (g_nilV (t:=16) 1090 rfl) ?_
 refine zG (Zt 6 [1070] hn rfl (Zv (zL (awp_loop_on (ι:={x:Nat × List Prt × List Int × Value // x.2.1.length = (readI b s).1.length ∧ x.2.2.1.length ≤ (readI b s).1.length ∧ ShInv b x.2.1 ∧ VecV x.2.2.2 1 (intsT x.2.2.1) ∧ showGo b ((readI b s).1.length - x.2.2.1.length) x.2.1 x.2.2.1 = showGo b (readI b s).1.length (setP (readI b s).1 k (showP b (readI b s).1 k hi)) []}) (fun x=>(64,true,.d (.int .i64 (x.1.2.2.1.length:Nat))) :: (10,true,.val (.pointer (some ⟨x.1.1,0,none⟩))) :: (16,true,.val x.1.2.2.2) :: anys [65,66,17,68,69,67,70,71,12,72,73,74,75,76,77,78,79,80,81,82,83,84,85,86,87,88,89]) (fun x=>[(1070,.box x.1.1 214 (bookC b x.1.2.1 (.slice none 0 0))),(1072,vecRes 3 (.slice none 0 0) 1 (intsT [])),(1090,vecRes 3 x.1.2.2.2 1 (intsT x.1.2.2.1))]) (fun x=>(readI b s).1.length - x.1.2.2.1.length) ⟨(bb2,setP (readI b s).1 k (showP b (readI b s).1 k hi),[],.slice none 0 0),yf,Nat.zero_le _,hinv,hV,rfl⟩ ⟨.inl rfl,.inl rfl,.inl rfl,zE _⟩ ⟨.inl rfl,.inl rfl,.inl rfl,trivial⟩ ?_))))
 rintro ⟨⟨bc,X,out,vv⟩,hX,hol,hI,hVv,hgo⟩
 dsimp only
 dsimp only at hX hol hI hVv hgo
 refine Zu (Zt 1 [] hn rfl (Zv (zB (zH rfl (fun hb4=>?_) (fun hb4=>?_)))))
 ·
  have hil:out.length < (readI b s).1.length:=by simp [yf] at hb4; omega
  obtain ⟨mx,hmx⟩:=hI.lev v
  have hmxl:=zBB hmx
  obtain ⟨m2,hm2⟩:=zW (show out.length < mx.length by omega)
  obtain ⟨sx,hsx⟩:=zW (show out.length < X.length by omega)
  have esh:(bndN m2).1 = shL b X out.length:=by unfold shL; rw [hmx,Option.getD_some,zQ hm2]
  refine zK (zA (zB (zL (Zu (Zt 2 [] hn rfl (Zv (Zu (Zt 1 [] hn rfl ?_))))))))
  refine stepW (s_callE (zCi bc b X (.slice none 0 0) [] hV v (by omega)) rfl rfl rfl (nb hn rfl) (.d rfl) rfl (.refl _) ⟨rfl,rfl,trivial⟩ (fun _=>rfl) (fun _ _=>trivial)) fun _=>?_
  refine Zt 4 [] hn rfl (Zv (zB ?_))
  rw [hmx]
  try simp only [Option.getD_some]
  refine zG (Zt 3 [] hn rfl (Zi (i:=out.length) hn rfl rfl (mget hm2) ?_))
  refine Zs hn (yQ rfl rfl underlying185 rfl sz185 (zAq m2) (zm m2) seesF0) ?_
  refine Zk hn rfl (zBm m2) (Zs hn (q_fieldAgg rfl rfl underlying65 rfl underlying3 rfl rfl) ?_)
  refine stepW (zO rfl rfl rfl (nb hn rfl) underlying29 sz3 zr3 rfl rfl rfl (show _ = [.d (.int .i64 0)] from by kernel_rfl) (by kernel_rfl) rfl rfl rfl rfl rfl) fun _=>?_
  refine stepW (zC3 (id:=1090) rfl rfl rfl (nb hn rfl) elt29 zr3 rfl hVv rfl rfl rfl (by simp [chunk]; omega) (by simp [chunk]; omega) (fun _ _=>trivial)) fun ⟨vw,hVw⟩=>?_
  have hVx:VecV vw 1 (intsT (out ++ [shL b X out.length])):=by rw [← esh,← zFS]; exact hVw
  obtain ⟨bv,cv,rfl,hcv,hcm⟩:=zFK hVx (by simp)
  refine km (gh_req (id:=1090) rfl (show vecRes 3 (.slice (some ⟨bv,0,none⟩) (out ++ [shL b X out.length]).length cv) 1 (intsT out ++ [[D.int IntKind.i64 (bndN m2).1]].flatten.map .d) = Res.box bv 3 (intsT (out ++ [shL b X out.length]) ++ List.replicate ((cv - (out ++ [shL b X out.length]).length) * 1) .any) from by rw [← esh,← zFS]; rfl)) ?_
  refine Zt 1 [] hn rfl (Zv (zG (Zt 4 [] hn rfl (Zs hn (q_indexV (i:=out.length) rfl rfl rfl underlying29 sz3 rfl (by simp)) ?_))))
  refine Zs hn (zb rfl rfl (id:=1090) rfl underlying3 rfl iT_last sees0) ?_
  refine Zt 1 [] hn rfl ?_
  refine stepW (s_callE (zBy bc b X (.slice none 0 0) [] hV out.length (shL b X out.length) sx hsx (by omega)) rfl rfl rfl (nb hn rfl) (.d rfl) rfl (.refl _) ⟨rfl,rfl,trivial⟩ (fun _=>rfl) (fun _ _=>trivial)) fun bb3=>?_
  refine Zt 1 [] hn rfl (zT (zN (zA (zG (Zs hn (zr rfl rfl rfl (r:=((out.length + 1:Nat):Int)) (i64w (by omega) (by omega))) ?_)))))
  refine Zt 1 [] hn rfl (zT ?_)
  exact Zr ⟨(bb3,setP X out.length (shL b X out.length),out ++ [shL b X out.length],.slice (some ⟨bv,0,none⟩) (out ++ [shL b X out.length]).length cv),by simp only; rw [yf]; exact hX,by simp only [List.length_append,List.length_cons,List.length_nil]; omega,hI.step v (by omega),vec_mk4 hcv hcm,by simp only; rw [← hgo,show_step hil]⟩ ⟨.inl (congrArg (fun z=>some (true,TV.d (D.int .i64 z))) (by simp only [List.length_append,List.length_cons,List.length_nil])),.inl rfl,.inl rfl,zE _⟩ ⟨.inl rfl,.inl rfl,.inl rfl,trivial⟩ (by simp only [List.length_append,List.length_cons,List.length_nil]; omega)
 have hie:out.length = (readI b s).1.length:=by simp [yf] at hb4; omega
 have e2:out = showGo b (readI b s).1.length (setP (readI b s).1 k (showP b (readI b s).1 k hi)) []:=by rw [← hgo,hie,Nat.sub_self]; rfl
 obtain ⟨bz,cz,rfl,hcz,hczm⟩:=zFK hVv (by omega)
 refine zY (zC (zC (zM (zA (Zu (Zt 3 [] hn rfl (Zv (zI ?_))))))))
 exact ret_E (.inl rfl) ⟨(bz,cz),by rw [← e2]; exact hie,by rw [← hie]; exact hcz,hczm⟩ (zAS rfl (.tmp (congrArg (fun z=>some (true,TV.val (Value.slice (some ⟨bz,0,none⟩) z cz))) hie)) (.tmp rfl)) ⟨(congrArg some (by show Res.box bz 3 (intsT out ++ List.replicate ((cz - out.length) * 1) .any) = Res.box bz 3 (intsT (showGo b (readI b s).1.length (setP (readI b s).1 k (showP b (readI b s).1 k hi)) []) ++ List.replicate (cz - (readI b s).1.length) .any); rw [← e2,Nat.mul_one,← hie])),trivial⟩
/-- Prices of all stocks, but for one stock those of its own. -/
def prcU (l:List Prt) (k:Int) (own sh:List Int):Nat → List Int
  | 0=>sh
  | i + 1=>bif (l.getD i prt0).stock == k then (prcU l k own sh i).set i (own.getD i 0) else prcU l k own sh i
def minW (mm:List (Int × Int)) (fr i:Nat):Int:=bif decide ((i:Int) < (fr:Nat)) then (mm.getD i (0,0)).1 else (mm.getD i (0,0)).2
def minU (mm:List (Int × Int)) (fr i:Nat):List Int:=(List.range i).map (minW mm fr)
def ordW (os:List Ord) (mm:List (Int × Int)) (fr:Nat) (q:Int) (i:Nat):Int:=bif ((i:Int) == q) && decide ((0:Int) < (fr:Nat)) then max (os.getD i ord0).mlo (mm.getD (fr - 1) (0,0)).1 else (os.getD i ord0).mlo
def ordU (os:List Ord) (mm:List (Int × Int)) (fr:Nat) (q:Int) (i:Nat):List Int:=(List.range i).map (ordW os mm fr q)
theorem kk {l:List Prt} {k:Int} {own sh:List Int}:∀ i,(prcU l k own sh i).length = sh.length
  | 0=>rfl
  | i + 1=>by
    rw [prcU]
    cases (l.getD i prt0).stock == k
    · exact kk i
    · rw [cond_true,List.length_set]; exact kk i
theorem minU_add {mm:List (Int × Int)} {fr i:Nat}:(minU mm fr i).map intE ++ [intE (minW mm fr i)] = (minU mm fr (i + 1)).map intE:=by unfold minU; rw [List.range_succ]; simp
theorem ordU_add {os:List Ord} {mm:List (Int × Int)} {fr i:Nat} {q:Int}:(ordU os mm fr q i).map intE ++ [intE (ordW os mm fr q i)] = (ordU os mm fr q (i + 1)).map intE:=by unfold ordU; rw [List.range_succ]; simp
theorem iTr_set {l:List Int} {i:Nat} {x:Int} {r:List TV} (h:i < l.length):(intsT l ++ r).set (0 + i * 1) (.d (.int .i64 x)) = intsT (l.set i x) ++ r:=by
  rw [Nat.zero_add,Nat.mul_one,List.set_append_left _ _ (by simp; exact h),intsT,intsT,List.map_set]
theorem iT_d (l:List Int):intsT l = (l.map fun z=>D.int .i64 z).map .d:=by simp [intsT]
theorem zEz {l:List Prt} {J n:Nat} {ms:List Nat}:∀ {L:List Nat} {bf:Nat} {out:List Int},out.length = n → (onlGo l J ms L bf out).length = n
  | [],bf,out,h=>h
  | i :: r,bf,out,h=>by rw [onlGo]; exact zEz (zDw h)
theorem show_pk (d:Dsk) (l:List Prt) (hr:readI d.b d.tape = (l,0)) (hN:NamesOK d.b) (h5:d.tape.length ≤ 4294967000) (hpos:0 < l.length) (hex:(levelsI d.b l []).isSome = true):EffAt Tryz.prog 165 [.d (brdD d.b),.d (strD d.tape),.d (.int .i64 0),.d (.bool false)] [] (X:={x:Nat × Nat // (showGo d.b l.length (setP l 0 (showP d.b l 0 false)) []).length = l.length ∧ l.length ≤ x.2 ∧ x.2 ≤ maxLen}) (fun x=>.tup [.val (.slice (some ⟨x.1.1,0,none⟩) l.length x.1.2),.d (.int .i64 0)]) (fun x=>[(1090,.box x.1.1 3 (intsT (showGo d.b l.length (setP l 0 (showP d.b l 0 false)) []) ++ List.replicate (x.1.2 - l.length) .any))]):=by
  have hr1:(readI d.b d.tape).1 = l:=by rw [hr]
  have h:=Show_vec d.b d.tape hN h5 (by rw [hr]) 0 false (by rw [hr1]; exact hpos) (by rw [hr1]; exact hex)
  rw [hr1] at h
  exact h
theorem truth_eff (d:Dsk) (l:List Prt) (o:Ord) (mm:List (Int × Int)) (b:Nat)(hf:0 ≤ d.fee ∧ d.fee ≤ 4)(J:Nat) (hJ:d.b.jump = (J:Nat)) (hJ4:J ≤ 40) (hl8:l.length ≤ 8)(s:Stk) (k:Nat) (hk:o.stock = (k:Nat)) (hst:d.b.stocks[k]? = some s) (q:Int) (fr w price:Nat) (hw:w < l.length) (hwm:(l.getD w prt0).stock = o.stock) (hpr:price < 800) (c:List Nat) (hc:chainN d.b l d.fee o (fr:Nat) (w:Nat) = some c) (hml:mm.length = l.length) (hfr:fr ≤ l.length) (ho5:d.orders.length ≤ 5) (hr:readI d.b d.tape = (l,0)) (hex:(levelsI d.b l []).isSome = true) (hN:NamesOK d.b) (h5:d.tape.length ≤ 4294967000) (own:List Int) (how:onlGo l J (bckGo J o.stock l l.length none (c.set w (putB 0 price true))) (ofL l o.stock 0) (startN s) (List.replicate l.length 0) = own):EffAt Tryz.prog 112 [.d (.ptr (askC d l o mm b)),.d (.int .i64 q),.d (waitD (fr:Nat) (w:Nat)),.d (.int .i64 (price:Nat))] [] (X:=Unit) (fun _=>.d (truD ⟨prcU l o.stock own (showGo d.b l.length (setP l 0 (showP d.b l 0 false)) []) l.length,minU mm fr l.length,ordU d.orders mm fr q d.orders.length⟩)) (fun _=>[]):=by
 have hr1:(readI d.b d.tape).1 = l:=by rw [hr]
 have hr2:(readI d.b d.tape).2 = 0:=by rw [hr]
 have hpos:0 < l.length:=by omega
 have hol:own.length = l.length:=by rw [← how]; exact zEz (by simp)
 refine EffAt.of_awp Tryz.func112 rfl (by kernel_rfl) rfl fun Γ hn=>?_
 refine Zu (Zb 6 hn rfl fun b6=>Zb 8 hn rfl fun b8=>Zv (zB (zq (zv (t:=6) 6 rfl (nb hn rfl) rfl rfl trivial) ?_)))
 refine zG (Zb 9 hn rfl fun b9=>Zv (zB (zo (W:=fun b=>True) fmo ?_)))
 refine Zy [0,1,2,3,4,5,6,7,8,9,10,11,12,13,14,15] [] hn rfl (zD ?_)
 refine Zo 16 rfl (s_callE (show_pk d l hr hN h5 hpos hex) rfl rfl rfl (nb hn rfl) (.d rfl) rfl (.refl _) trivial (fun _=>rfl) (fun _ _=>trivial)) fun ⟨⟨bp,cp⟩,hshl,hcp,hcm⟩=>?_
 refine d2_of_d1 (Zy [17,18,19,20] [] hn rfl (zD (Zo 21 rfl (s_store1 rfl rfl rfl rfl rfl rfl (id:=9) rfl sz29 (Nat.le_of_ble_eq_true rfl) rfl trivial) fun _=>?_)))
 refine d2_of_d1 (zD (zl (by kernel_rfl) ?_))
 refine zA (Zu (Zt 3 [] hn rfl (Zk hn rfl ((by have h:=PureAt.of_eff (ds:=[.ptr (askC d l o mm b),waitD (fr:Nat) (w:Nat),.int .i64 (price:Nat)]) (only_eff d l o mm b hf J hJ hJ4 hl8 s k hk hst (fr:Nat) w price hw hwm hpr c hc); rw [how] at h; exact h)) ?_)))
 refine Zt 1 [] hn rfl (Zv (zB (zB ?_)))
 have hshl2:(showGo d.b l.length (setP l 0 (showP d.b l 0 false)) []).length = l.length:=hshl
 refine zq (gh_nilcell (id:=9) (k:=1) 1091 3 1 rfl rfl) ?_
 refine zq (gh_nilcell (id:=9) (k:=2) 1092 3 1 rfl rfl) ?_
 refine zG (Zt 9 [] hn rfl (Zv (zL (awp_loop_on (ι:={x:Nat × Value // x.1 ≤ l.length}) (fun x=>(50,true,.d (.int .i64 (x.1.1:Nat))) :: anys [51,52,53,54,12,11,55,56,57,58,59,60,61,62,13,63,64,65,66,67,68,69,70,71,72,73,74,75,76,77,78,79,80,81,82,83,84,85,86,87,88,89,90,91,92,93,94,95,96,97]) (fun x=>(9,.box b9 56 [.val (.slice (some ⟨bp,0,none⟩) l.length cp),.val x.1.2,.val (.slice none 0 0)]) :: (1091,.row x.1.2 3 1 ((minU mm fr x.1.1).map intE)) :: (1090,.box bp 3 (intsT (prcU l o.stock own (showGo d.b l.length (setP l 0 (showP d.b l 0 false)) []) x.1.1) ++ List.replicate (cp - l.length) TV.any)) :: gones [12]) (fun x=>l.length - x.1.1) ⟨(0,.slice none 0 0),Nat.zero_le _⟩ ⟨.inl rfl,zE _⟩ ⟨.inl rfl,.inl rfl,.inl rfl,zR _⟩ ?_))))
 rintro ⟨⟨i,vm⟩,hi⟩
 dsimp only
 dsimp only at hi
 refine Zu (Zt 1 [] hn rfl (Zv (zB (zH rfl (fun hb0=>?_) (fun hb0=>?_)))))
 have hil:i < l.length:=by simp at hb0; omega
 obtain ⟨p,hp⟩:=zW hil
 have hgp:l.getD i prt0 = p:=zQ hp
 obtain ⟨r1,hr1m⟩:=zW (show i < mm.length by omega)
 obtain ⟨ow,how1⟩:=zW (show i < own.length by omega)
 have hpu:=kk (l:=l) (k:=o.stock) (own:=own) (sh:=showGo d.b l.length (setP l 0 (showP d.b l 0 false)) []) i
 rw [hshl2] at hpu
 refine zK (zA (zB (zL (Zu (Zt 1 [] hn rfl (Zi (i:=i) hn rfl rfl (mget hp) ?_))))))
 refine Zt 1 [] hn rfl (Zb 12 hn rfl fun b12=>Zt 2 [12] hn rfl (Zv (Zu (Zt 5 [] hn rfl (Zi (i:=i) hn rfl rfl (mget hr1m) ?_)))))
 refine Zt 3 [] hn rfl (Zv (zB (Zu (Zt 4 [] hn rfl (Zv (zp (e:=.normal) (ι:=Unit) (fun u0=>(13,true,.d (.int .i64 (minW mm fr i))) :: anys [67,68,69,70,71,72,73,74]) (fun u0=>[]) (fun hJ1=>?_) ?_))))))
 ·
  refine zH rfl (fun hb1=>?_) (fun hb1=>?_)
  have q1:decide ((i:Int) < (fr:Nat)) = true:=hb1
  refine zG (Zt 5 [] hn rfl (Zi (i:=i) hn rfl rfl (mget hr1m) ?_))
  refine Zt 3 [] hn rfl (zT ?_)
  rotate_left
  have q1:decide ((i:Int) < (fr:Nat)) = false:=hb1
  refine zK ?_
  rotate_left
  all_goals
   exact Zj hJ1 () ⟨.inl (congrArg (fun z=>some (true,TV.d (D.int .i64 z))) (by unfold minW; rw [q1,zQ hr1m]; rfl)),zE _⟩ trivial
 rintro _
 refine zA (Zu (Zt 3 [9] hn rfl (stepW (zO rfl rfl rfl (nb hn rfl) underlying29 sz3 zr3 rfl rfl rfl (show _ = [.d (.int .i64 0)] from by kernel_rfl) (by kernel_rfl) rfl rfl rfl rfl rfl) fun _=>?_)))
 refine stepW (s_append (id:=1091) rfl rfl rfl (nb hn rfl) elt29 trivial rfl rfl rfl (by unfold minU; simp [chunk]; omega) (by unfold minU; simp [chunk]; omega) (fun b hb=>trivial)) fun v79=>?_
 refine Zt 1 [] hn rfl (stepW (s_storeRow rfl rfl rfl rfl rfl (rid:=1091) rfl (id:=9) rfl sz29 (Nat.le_of_ble_eq_true rfl) rfl trivial) fun _=>?_)
 refine Zv (zB (zo (W:=fun b=>b ≠ b12) fmo ?_))
 refine Zy [0,1,2,3,4,5,6,7] [12] hn rfl (zD (zl (by kernel_rfl) ?_))
 refine zA (zp (e:=.normal) (ι:=Unit) (fun u0=>anys [89,90,91,92,93,94,95,96]) (fun u0=>[(1090,.box bp 3 (intsT (prcU l o.stock own (showGo d.b l.length (setP l 0 (showP d.b l 0 false)) []) (i + 1)) ++ List.replicate (cp - l.length) TV.any))]) (fun hJ2=>?_) ?_)
 refine zH rfl (fun hb2=>?_) (fun hb2=>?_)
 have q2:(p.stock == o.stock) = true:=hb2
 refine zo (W:=fun b=>b ≠ b9) fmo ?_
 refine Zy [0,1,2,3,4] [9] hn rfl (Zd 5 rfl hn (q_index (i:=i) rfl rfl rfl underlying29 sz3 rfl (mget how1)) ?_)
 refine Zy [6] [] hn rfl (Zd 7 rfl hn (q_indexV (i:=i) rfl rfl rfl underlying29 sz3 rfl (by omega)) ?_)
 refine zD (yV (i:=1090) (j:=9) rfl rfl rfl (fun hne1090_9=>?_))
 refine Zo 8 rfl (s_store1 rfl rfl rfl rfl rfl rfl (id:=1090) rfl sz3 (by rw [List.length_append,List.length_map]; omega) (iTr_set (by omega)) (fun e=>hne1090_9 _ rfl (congrArg some e.symm))) fun _=>?_
 refine d2_of_d1 (zD (zl (by kernel_rfl) ?_))
 exact Zj hJ2 () (zE _) ⟨.inl (congrArg (fun z=>some (Res.box bp 3 (intsT z ++ List.replicate (cp - l.length) TV.any))) (by rw [prcU,hgp,q2,zQ how1]; rfl)),trivial⟩
 have q2:(p.stock == o.stock) = false:=hb2
 refine zK ?_
 exact Zj hJ2 () (zE _) ⟨.inl (congrArg (fun z=>some (Res.box bp 3 (intsT z ++ List.replicate (cp - l.length) TV.any))) (by rw [prcU,hgp,q2]; rfl)),trivial⟩
 rintro _
 refine zN (zA (zG (Zs hn (zr rfl rfl rfl (r:=((i + 1:Nat):Int)) (i64w (by omega) (by omega))) ?_)))
 refine Zt 1 [] hn rfl (zT ?_)
 exact Zr ⟨(i + 1,v79),by simp only; omega⟩ ⟨.inl rfl,zE _⟩ ⟨.inl rfl,.inl (congrArg (fun z=>some (Res.row v79 3 1 z)) minU_add),.inl rfl,zR _⟩ (by simp only; omega)
 obtain rfl:i = l.length:=by simp at hb0; omega
 refine zY (zC (zC (zM (zA (zB (Zu (Zt 10 [] hn rfl (Zv (zL (awp_loop_on (ι:={x:Nat × Value // x.1 ≤ d.orders.length}) (fun x=>(107,true,.d (.int .i64 (x.1.1:Nat))) :: anys [108,109,110,111,15,14,112,113,114,16,115,116,117,118,119,120,121,122,123,124,125,126,127,128,129,130,131,132,133,134,135,136,137,138,139,140,141]) (fun x=>(9,.box b9 56 [.val (.slice (some ⟨bp,0,none⟩) l.length cp),.val vm,.val x.1.2]) :: (1092,.row x.1.2 3 1 ((ordU d.orders mm fr q x.1.1).map intE)) :: gones [15]) (fun x=>d.orders.length - x.1.1) ⟨(0,.slice none 0 0),Nat.zero_le _⟩ ⟨.inl rfl,zE _⟩ ⟨.inl rfl,.inl rfl,zR _⟩ ?_))))))))))
 rintro ⟨⟨n,vo⟩,hn1⟩
 dsimp only
 dsimp only at hn1
 refine Zu (Zt 1 [] hn rfl (Zv (zB (zH rfl (fun hb3=>?_) (fun hb3=>?_)))))
 have hnl:n < d.orders.length:=by simp at hb3; omega
 obtain ⟨o2,ho2⟩:=zW hnl
 refine zK (zA (zB (zL (Zu (Zt 1 [] hn rfl (Zi (i:=n) hn rfl rfl (mget ho2) ?_))))))
 refine Zt 1 [] hn rfl (Zb 15 hn rfl fun b15=>Zt 2 [15] hn rfl (Zv (Zu (Zt 4 [15] hn rfl (Zv (zB (Zu (Zt 8 [] hn rfl (Zv (zp (e:=.normal) (ι:=Unit) (fun u0=>(16,true,.d (.int .i64 (ordW d.orders mm fr q n))) :: anys [123,124,125,126,127,128,129,130,131,132,133,134]) (fun u0=>[]) (fun hJ4=>?_) ?_))))))))))
 refine zH rfl (fun hb4=>?_) (fun hb4=>?_)
 have q4:((n:Int) == q && decide ((0:Int) < (fr:Nat))) = true:=hb4
 have hf0:0 < fr:=by simp at q4; omega
 obtain ⟨r2,hr2m⟩:=zW (show fr - 1 < mm.length by omega)
 refine zo (W:=fun b=>True) fmo ?_
 refine Zy [0,1,2,3,4,5,6] [] hn rfl (Zd 7 rfl hn (yZ rfl rfl rfl (r:=((fr - 1:Nat):Int)) (i64w (by omega) (by omega))) ?_)
 refine Zd 8 rfl hn (q_index (i:=fr - 1) rfl rfl rfl underlying43 sz65 rfl (mget hr2m)) ?_
 refine Zy [9,10] [] hn rfl (Zd 11 rfl hn (kq rfl rfl rfl) ?_)
 refine Zy [12] [] hn rfl (zD (zl (by kernel_rfl) ?_))
 exact Zj hJ4 () ⟨.inl (congrArg (fun z=>some (true,TV.d (D.int .i64 z))) (by unfold ordW; rw [q4,zQ ho2,zQ hr2m]; rfl)),zE _⟩ trivial
 have q4:((n:Int) == q && decide ((0:Int) < (fr:Nat))) = false:=hb4
 refine zK ?_
 exact Zj hJ4 () ⟨.inl (congrArg (fun z=>some (true,TV.d (D.int .i64 z))) (by unfold ordW; rw [q4,zQ ho2]; rfl)),zE _⟩ trivial
 rintro _
 refine zA (zG (Zt 3 [9] hn rfl (stepW (zO rfl rfl rfl (nb hn rfl) underlying29 sz3 zr3 rfl rfl rfl (show _ = [.d (.int .i64 0)] from by kernel_rfl) (by kernel_rfl) rfl rfl rfl rfl rfl) fun _=>?_)))
 refine stepW (s_append (id:=1092) rfl rfl rfl (nb hn rfl) elt29 trivial rfl rfl rfl (by unfold ordU; simp [chunk]; omega) (by unfold ordU; simp [chunk]; omega) (fun b hb=>trivial)) fun v139=>?_
 refine Zt 1 [] hn rfl (stepW (s_storeRow rfl rfl rfl rfl rfl (rid:=1092) rfl (id:=9) rfl sz29 (Nat.le_of_ble_eq_true rfl) rfl trivial) fun _=>?_)
 refine zT (zN (zA (zG (Zs hn (zr rfl rfl rfl (r:=((n + 1:Nat):Int)) (i64w (by omega) (by omega))) ?_))))
 refine Zt 1 [] hn rfl (zT ?_)
 exact Zr ⟨(n + 1,v139),by simp only; omega⟩ ⟨.inl rfl,zE _⟩ ⟨.inl rfl,.inl (congrArg (fun z=>some (Res.row v139 3 1 z)) ordU_add),zR _⟩ (by simp only; omega)
 obtain rfl:n = d.orders.length:=by simp at hb3; omega
 refine zY (zC (zC (zM (zA (zB (zq (gh_rowcell (id:=9) (k:=1) (rid:=1091) rfl rfl rfl) ?_))))))
 refine zq (gh_rowcell (id:=9) (k:=2) (rid:=1092) rfl rfl rfl) ?_
 refine zq (gh_veccell (id:=9) (k:=0) (rid:=1090) (ds:=(prcU l o.stock own (showGo d.b l.length (setP l 0 (showP d.b l 0 false)) []) l.length).map fun z=>D.int .i64 z) (rest:=List.replicate (cp - l.length) TV.any) (n:=l.length) (sz:=1) rfl rfl (show _ = some (Res.box bp 3 (((prcU l o.stock own (showGo d.b l.length (setP l 0 (showP d.b l 0 false)) []) l.length).map fun z=>D.int .i64 z).map .d ++ List.replicate (cp - l.length) TV.any)) from (congrArg (fun z=>some (Res.box bp 3 (z ++ List.replicate (cp - l.length) TV.any))) (iT_d _))) rfl (by rw [List.length_map,kk,hshl2,Nat.mul_one]) (zCe (by rw [kk,hshl2])) hcp hcm) ?_
 refine zG (Zt 2 [9,8] hn rfl (Zv (zI ?_)))
 exact ret_E (.inl rfl) () (zu rfl (.d (.cellA rfl (id:=8) rfl underlying56 rfl sz56 rfl rfl))) trivial
/-- The truth that is made of a wait. -/
def wtr (d:Dsk) (l:List Prt) (o:Ord) (mm:List (Int × Int)) (q:Int) (fr w price:Nat) (c:List Nat):Tru :=
  ⟨prcU l o.stock (onlGo l d.b.jump.toNat (bckGo d.b.jump.toNat o.stock l l.length none (c.set w (putB 0 price true))) (ofL l o.stock 0) (startN (d.b.stocks.getD o.stock.toNat stk0)) (List.replicate l.length 0)) (showGo d.b l.length (setP l 0 (showP d.b l 0 false)) []) l.length,minU mm fr l.length,ordU d.orders mm fr q d.orders.length⟩
/-- A wait with a price by which the order has a price. -/
structure GoodW (d:Dsk) (l:List Prt) (o:Ord) (mm:List (Int × Int)) (side:Int) (fr w p:Nat):Prop where
  ex:∃ m,canO d.b l d.fee o mm fr (w:Nat) = some m ∧ m.testBit p = true
  p8:p < 800
  pr:priceO d.fee o (p:Nat) = side
theorem ki {b:Brd} {l:List Prt} {fee:Int} {o:Ord} {mm:List (Int × Int)} {fr w m:Nat} (h:canO b l fee o mm fr (w:Nat) = some m):fr ≤ w ∧ w < l.length ∧ (l.getD w prt0).stock = o.stock ∧ waitsB o mm fr = true ∧ ∃ c,chainN b l fee o (fr:Nat) (w:Nat) = some c ∧ (backN b l o c).getD w 0 = m:=by
  unfold canO at h
  cases h1:(decide (fr ≤ l.length) && waitsB o mm fr) <;> rw [h1] at h
  · cases h
  · simp only [Bool.and_eq_true_iff,decide_eq_true_eq] at h1
    rw [cond_true,show (((w:Nat):Int) == -1) = false by simp,cond_false] at h
    cases h3:(decide ((fr:Int) ≤ (w:Nat)) && decide (((w:Nat):Int) < (l.length:Int)) && ((l.getD ((w:Nat):Int).toNat prt0).stock == o.stock)) <;> rw [h3] at h
    · cases h
    · simp only [Bool.and_eq_true_iff,decide_eq_true_eq,beq_iff_eq,Int.toNat_natCast] at h3
      rw [cond_true,Int.toNat_natCast] at h
      obtain ⟨c,hc,he⟩:=Option.map_eq_some_iff.1 h
      exact ⟨by omega,by omega,h3.2,h1.2,c,hc,he⟩
/-- What 'Show' gives. -/
inductive ShowR (d:Dsk) (q:Int) (high:Bool):Tru → Int → Prop
  | bad (h:sureO d [q] ≠ 0):ShowR d q high ⟨[],[],[]⟩ (sureO d [q])
  | no (h:sureO d [q] = 0) (hb:(bndI d.b (readI d.b d.tape).1 d.fee (d.orders.getD q.toNat ord0) (minutesI d.b d.tape).1).2 = false):ShowR d q high ⟨[],[],[]⟩ 2
  | yes (h : sureO d [q] = 0) (hb : (bndI d.b (readI d.b d.tape).1 d.fee (d.orders.getD q.toNat ord0) (minutesI d.b d.tape).1).2 = true) (fr w p : Nat) (c : List Nat)
      (hg:GoodW d (readI d.b d.tape).1 (d.orders.getD q.toNat ord0) (minutesI d.b d.tape).1 (bif high then (bndI d.b (readI d.b d.tape).1 d.fee (d.orders.getD q.toNat ord0) (minutesI d.b d.tape).1).1.2 else (bndI d.b (readI d.b d.tape).1 d.fee (d.orders.getD q.toNat ord0) (minutesI d.b d.tape).1).1.1) fr w p)
      (hc:chainN d.b (readI d.b d.tape).1 d.fee (d.orders.getD q.toNat ord0) (fr:Nat) (w:Nat) = some c):ShowR d q high (wtr d (readI d.b d.tape).1 (d.orders.getD q.toNat ord0) (minutesI d.b d.tape).1 q fr w p c) 0
theorem good_ex {d:Dsk} {l:List Prt} {o:Ord} {mm:List (Int × Int)} {high:Bool} (h:(bndI d.b l d.fee o mm).2 = true):∃ fr w p,GoodW d l o mm (bif high then (bndI d.b l d.fee o mm).1.2 else (bndI d.b l d.fee o mm).1.1) fr w p:=by
  rcases zDe d.b l d.fee o mm with ⟨h1,_⟩ | ⟨_,⟨h1,_⟩ | ⟨_,h2,h3,_⟩⟩
  · rw [h1] at h; cases h
  · rw [h1] at h; cases h
  · have key : ∀ {x : Int}, PriS (canO d.b l d.fee o mm) d.fee o (fun _ => True) x → ∃ fr w p, GoodW d l o mm x fr w p := fun {x} hx => by
      obtain ⟨fr,c,m,p,e1,e2,_,e3,e4,e5⟩:=hx
      obtain ⟨_,e6 | ⟨i,rfl,_,_⟩⟩:=zCH e1
      · exact (e2 e6).elim
      · exact ⟨fr,i,p,⟨m,e1,e4⟩,e3,e5.symm⟩
    cases high
    · exact key h2
    · exact key h3
theorem truth_pk (d : Dsk) (l : List Prt) (mm : List (Int × Int)) (h : SurH d l mm) (hN : NamesOK d.b) (h5 : d.tape.length ≤ 4294967000) (o : Ord) (hob : ordB d.b o = true) (b : Nat) (q : Int) (fr w price : Nat) (hpr : price < 800) (m : Nat) (hm : canO d.b l d.fee o mm fr (w : Nat) = some m) (c : List Nat) (hc : chainN d.b l d.fee o (fr : Nat) (w : Nat) = some c) :
    EffAt Tryz.prog 112 [.d (.ptr (askC d l o mm b)),.d (.int .i64 q),.d (waitD (fr:Nat) (w:Nat)),.d (.int .i64 (price:Nat))] [] (X:=Unit) (fun _=>.d (truD (wtr d l o mm q fr w price c))) (fun _=>[]):=by
  obtain ⟨k,s,hk,hs⟩:=h.stk hob
  obtain ⟨h1,h2,h3,_⟩:=ki hm
  have e:d.b.stocks.getD o.stock.toNat stk0 = s:=by rw [hk,Int.toNat_natCast]; exact zQ hs
  unfold wtr
  rw [e]
  exact truth_eff d l o mm b h.fe d.b.jump.toNat (by have:=h.v.j0; omega) (by have:=h.v.j4; omega) h.l8 s k hk hs q fr w price h2 h3 hpr c hc h.ml (by omega) h.o5 h.hr ((kB (out:=[]) kQ h.v h.po).1.2 h.ex) hN h5 _ rfl
theorem low4_ok (a b:Int):PureAt Tryz.prog 109 [.agg [.int .i64 a,.int .i64 b]] (.int .i64 a):=by
 refine Zp Tryz.func109 rfl fun Γ hn hl=>?_
 refine Zu ?_
 refine Zb 1 hn rfl fun b1=>?_
 refine Zt 1 [] hn rfl ?_
 refine Zv (Zu ?_)
 refine Zt 3 [1] hn rfl ?_
 refine Zv (zI ?_)
 exact za (.inl rfl) hl rfl (.tmp rfl)
theorem high4_ok (a b:Int):PureAt Tryz.prog 110 [.agg [.int .i64 a,.int .i64 b]] (.int .i64 b):=by
 refine Zp Tryz.func110 rfl fun Γ hn hl=>?_
 refine Zu ?_
 refine Zb 1 hn rfl fun b1=>?_
 refine Zt 1 [] hn rfl ?_
 refine Zv (Zu ?_)
 refine Zt 3 [1] hn rfl ?_
 refine Zv (zI ?_)
 exact za (.inl rfl) hl rfl (.tmp rfl)
theorem side_ok (high:Bool) (r:Int × Int):PureAt Tryz.prog (bif high then 110 else 109) ([] ++ [rngD r] ++ []) (.int .i64 (bif high then r.2 else r.1)):=by
  cases high
  · exact low4_ok r.1 r.2
  · exact high4_ok r.1 r.2
theorem gw_w {d:Dsk} {l:List Prt} {o:Ord} {mm:List (Int × Int)} {side:Int} {fr w p:Nat} (h:GoodW d l o mm side fr w p):w < l.length:=by
  obtain ⟨m,hm,_⟩:=h.ex
  exact (ki hm).2.1
theorem gw_fr {d:Dsk} {l:List Prt} {o:Ord} {mm:List (Int × Int)} {side:Int} {fr w p:Nat} (h:GoodW d l o mm side fr w p):fr < l.length:=by
  obtain ⟨m,hm,_⟩:=h.ex
  have:=ki hm; omega
theorem gw_of {d:Dsk} {l:List Prt} {o:Ord} {mm:List (Int × Int)} {side:Int} {fr w p:Nat} (hp:p < 800) (h:(((canO d.b l d.fee o mm fr (w:Nat)).getD 0).testBit p && (priceO d.fee o (p:Nat) == side)) = true):GoodW d l o mm side fr w p:=by
  simp only [Bool.and_eq_true_iff,beq_iff_eq] at h
  cases hc:canO d.b l d.fee o mm fr (w:Nat) with
  | none=>rw [hc] at h; simp at h
  | some m=>rw [hc] at h; exact ⟨⟨m,hc,h.1⟩,hp,h.2⟩
theorem gw_to {d:Dsk} {l:List Prt} {o:Ord} {mm:List (Int × Int)} {side:Int} {fr w p:Nat} (h:GoodW d l o mm side fr w p):(((canO d.b l d.fee o mm fr (w:Nat)).getD 0).testBit p && (priceO d.fee o (p:Nat) == side)) = true:=by
  obtain ⟨m,hm,hb⟩:=h.ex
  rw [hm,Option.getD_some,hb,h.pr]; simp
theorem zBn (d:Dsk) (hN:NamesOK d.b) (h5:d.tape.length ≤ 4294967000) (ho:d.orders.length ≤ 1000) (q:Int) (high:Bool):EffAt Tryz.prog 52 [.d (dskD d),.d (.int .i64 q),.d (.bool high)] [] (X:={x:Tru × Int // ShowR d q high x.1 x.2}) (fun x=>.d (.tup [truD x.1.1,.int .i64 x.1.2])) (fun _=>[]):=by
 refine EffAt.of_awp Tryz.func52 rfl (by kernel_rfl) rfl fun Γ hn=>?_
 refine Zu (Zb 3 hn rfl fun b3=>Zb 6 hn rfl fun b6=>Zt 1 [] hn rfl (Zv (Zu (Zt 2 [3] hn rfl (stepW (zO rfl rfl rfl (nb hn rfl) underlying29 sz3 zr3 rfl rfl rfl (show _ = [.d (.int .i64 0)] from by kernel_rfl) (by kernel_rfl) rfl rfl rfl rfl rfl) fun _=>?_)))))
 refine Zk hn rfl (zBZ d hN h5 ho [q] (by simp)) (Zt 5 [] hn rfl (Zv (zB (Zu (Zt 2 [] hn rfl (Zv (zH rfl (fun hb0=>?_) (fun hb0=>?_))))))))
 have q0:(sureO d [q] != 0) = true:=hb0
 refine Zu (Zt 4 [6] hn rfl (Zv (zI (zF ?_))))
 exact ret_E (.inl rfl) ⟨(⟨[],[],[]⟩,sureO d [q]),.bad (by simpa using q0)⟩ ((z8 rfl (.d (.cellA rfl (id:=6) rfl underlying56 rfl sz56 rfl rfl)) (.tmp rfl)).le (.tup (.cons (.agg (.cons (.nil 1) (.cons (.nil 1) (.cons (.nil 1) (.refl _))))) (.refl _)))) trivial
 have q0:(sureO d [q] != 0) = false:=hb0
 have q00:sureO d [q] = 0:=by simpa using q0
 obtain ⟨H,hq,hP⟩:=kZ q00
 rw [hP]
 have hqq:=hq q List.mem_cons_self
 obtain ⟨q,rfl⟩:∃ k:Nat,q = k:=⟨q.toNat,by omega⟩
 obtain ⟨o,hoq⟩:=zW (show q < d.orders.length by omega)
 have hl8:=H.l8
 have hob:=H.ob o (List.mem_of_getElem? hoq)
 have hgo:d.orders.getD ((q:Nat):Int).toNat ord0 = o:=by rw [Int.toNat_natCast]; exact zQ hoq
 refine zK (zA (Zu (Zt 2 [] hn rfl (stepW (s_callE (zDP d _ _ H hN h5 o q hoq) rfl rfl rfl (nb hn rfl) (.d rfl) rfl (.refl _) trivial (fun _=>rfl) (fun _ _=>trivial)) fun bm=>?_))))
 refine Zt 5 [] hn rfl (Zv (zB (Zu (Zt 2 [] hn rfl (Zv (zH rfl (fun hb1=>?_) (fun hb1=>?_)))))))
 exact absurd hb1 (by decide)
 refine zK (zA (Zu (Zt 1 [] hn rfl ?_)))
 refine stepW (s_callE (zFh d _ o _ bm H.fe) rfl rfl rfl (nb hn rfl) (.d rfl) rfl (.refl _) ⟨rfl,trivial⟩ (fun _=>rfl) (fun _ _=>trivial)) fun _=>?_
 refine Zt 3 [] hn rfl (Zb 11 hn rfl fun b11=>Zt 2 [11] hn rfl (Zv (zB (Zu (Zt 2 [] hn rfl (Zv (zH rfl (fun hb2=>?_) (fun hb2=>?_))))))))
 have q2:(bndI d.b (readI d.b d.tape).1 d.fee o (minutesI d.b d.tape).1).2 = false:=by simpa using hb2
 refine Zu (Zt 3 [6] hn rfl (Zv (zI (zF ?_))))
 exact ret_E (.inl rfl) ⟨(⟨[],[],[]⟩,2),.no q00 (by rw [hgo]; exact q2)⟩ ((z8 rfl (.d (.cellA rfl (id:=6) rfl underlying56 rfl sz56 rfl rfl)) (.tmp rfl)).le (.tup (.cons (.agg (.cons (.nil 1) (.cons (.nil 1) (.cons (.nil 1) (.refl _))))) (.refl _)))) trivial
 have q2:(bndI d.b (readI d.b d.tape).1 d.fee o (minutesI d.b d.tape).1).2 = true:=by simpa using hb2
 refine zK (zA (Zu (Zt 1 [] hn rfl (Zb 13 hn rfl fun b13=>Zt 1 [13] hn rfl (Zv (zB (Zu (Zt 1 [] hn rfl (Zv (zp (e:=.normal) (ι:=Unit) (fun u0=>anys [49]) (fun u0=>[(13,.box b13 246 [.d (.fn (.func (bif high then 110 else 109)) [] [])])]) (fun hJ3=>?_) ?_))))))))))
 ·
  refine zH rfl (fun hb3=>?_) (fun hb3=>?_)
  have q3:high = true:=hb3
  refine zG (Zt 2 [13] hn rfl (zT ?_))
  rotate_left
  have q3:high = false:=hb3
  refine zK ?_
  rotate_left
  all_goals
   exact Zj hJ3 () (zE _) ⟨.inl (by rw [q3]; rfl),trivial⟩
 rintro _
 refine zA (zB (Zu (Zt 5 [] hn rfl (Zs hn (zr rfl rfl rfl (r:=(((readI d.b d.tape).1.length + 1:Nat):Int)) (by rw [List.length_map]; exact i64w (by omega) (by omega))) ?_))))
 refine Zt 1 [] hn rfl (Zv (zL (awp_loop_on (ι:={x:Nat // x ≤ (readI d.b d.tape).1.length + 1 ∧ ∀ f w p,f < x → ¬ GoodW d (readI d.b d.tape).1 o (minutesI d.b d.tape).1 (bif high then (bndI d.b (readI d.b d.tape).1 d.fee o (minutesI d.b d.tape).1).1.2 else (bndI d.b (readI d.b d.tape).1 d.fee o (minutesI d.b d.tape).1).1.1) f w p}) (fun x=>(56,true,.d (.int .i64 (x.1:Nat))) :: anys [57,58,14,59,60,61,62,63,64,65,66,15,67,68,69,70,71,72,73,74,75,76,77,78,16,17,79,80,81,82,83,84,85,86,87,88,89,90,91,92,93,94,95,96,97,98,99,107,108,109]) (fun x=>[]) (fun x=>(readI d.b d.tape).1.length + 1 - x.1) ⟨0,Nat.zero_le _,fun f w p hf=>by omega⟩ ⟨.inl rfl,zE _⟩ trivial ?_)))
 rintro ⟨fr,hfr,hno⟩
 dsimp only
 refine Zu (Zt 1 [] hn rfl (Zv (zB (zH rfl (fun hb4=>?_) (fun hb4=>?_)))))
 have hfl:fr ≤ (readI d.b d.tape).1.length:=by simp at hb4; omega
 refine zK (zA (zB (zL (Zu (Zt 2 [] hn rfl (Zv (Zu (Zt 6 [] hn rfl (Zv (zL (awp_loop_on (ι:={x:Nat // x ≤ (readI d.b d.tape).1.length ∧ ∀ w p,w < x → ¬ GoodW d (readI d.b d.tape).1 o (minutesI d.b d.tape).1 (bif high then (bndI d.b (readI d.b d.tape).1 d.fee o (minutesI d.b d.tape).1).1.2 else (bndI d.b (readI d.b d.tape).1 d.fee o (minutesI d.b d.tape).1).1.1) fr w p}) (fun x=>(64,true,.d (.int .i64 (x.1:Nat))) :: anys [65,66,15,67,68,69,70,71,72,73,74,75,76,77,78,16,17,79,80,81,82,83,84,85,86,87,88,89,90,91,92,93,94,95,96,97,98,99,107,108]) (fun x=>[]) (fun x=>(readI d.b d.tape).1.length - x.1) ⟨0,Nat.zero_le _,fun w p hf=>by omega⟩ ⟨.inl rfl,zE _⟩ trivial ?_)))))))))))
 rintro ⟨w,hw,hno1⟩
 dsimp only
 refine Zu (Zt 1 [] hn rfl (Zv (zB (zH rfl (fun hb5=>?_) (fun hb5=>?_)))))
 have hwl:w < (readI d.b d.tape).1.length:=by simp at hb5; omega
 refine zK (zA (zB (zL (Zu (Zt 2 [] hn rfl (Zv (Zu (Zt 7 [] hn rfl ?_))))))))
 refine stepW (zAC (id:=1060) (zd:=.agg (lvE 0)) rfl rfl rfl (nb hn rfl) zBT underlying202 zr200 zBD (.d rfl) rfl rfl (zB7 (by omega) (by omega)) rfl) fun ⟨r,hr1,hr2⟩=>?_
 obtain ⟨hv1,_⟩:=zEp hr1 hr2
 dsimp only [cond_false]
 rw [hv1]
 refine Zt 1 [] hn rfl (Zv (zL (awp_loop_on (ι:={x:Nat // x ≤ 800 ∧ ∀ p,p < x → ¬ GoodW d (readI d.b d.tape).1 o (minutesI d.b d.tape).1 (bif high then (bndI d.b (readI d.b d.tape).1 d.fee o (minutesI d.b d.tape).1).1.2 else (bndI d.b (readI d.b d.tape).1 d.fee o (minutesI d.b d.tape).1).1.1) fr w p}) (fun x=>(75,true,.d (.int .i64 (x.1:Nat))) :: anys [76,77,78,16,17,79,80,81,82,83,84,85,86,87,88,89,90,91,92,93,94,95,96,97,98,99,107]) (fun x=>[]) (fun x=>800 - x.1) ⟨0,Nat.zero_le _,fun p hf=>by omega⟩ ⟨.inl rfl,zE _⟩ trivial ?_)))
 rintro ⟨p,hp,hno2⟩
 dsimp only
 refine Zu (Zt 1 [] hn rfl (Zv (zB (zH rfl (fun hb6=>?_) (fun hb6=>?_)))))
 have hpl:p < 800:=by simp at hb6; omega
 refine zK (zA (zB (zL (Zu (Zt 1 [] hn rfl (Zs hn (q_indexAgg rfl rfl rfl underlying200 underlying4 rfl sz4 rfl hpl (y4 hpl)) ?_))))))
 refine Zt 2 [] hn rfl (Zv (zB (zo (W:=fun b=>b ≠ b11 ∧ b ≠ b13) fmo ?_)))
 refine Zy [0,1,2,3,4,5,6,7,8,9,10,11,12,13,15,16,17] [13,11] hn rfl (zD ?_)
 refine Zo 14 rfl (s_call [(87,_),(91,_),(92,_)] (fun hc=>zBl d o (p:Nat) H.fe (by omega)) rfl (zJ rfl rfl rfl) rfl (nb hn rfl) (fun hc=>⟨⟨_,rfl,hc⟩,⟨_,rfl,hc⟩,⟨_,rfl,hc⟩,trivial⟩) rfl rfl (.refl _)) fun _=>?_
 refine d2_of_d1 (zD ?_)
 refine Zo 18 rfl (s_call [(96,_),(95,_)] (fun hc=>side_ok high (bndI d.b (readI d.b d.tape).1 d.fee o (minutesI d.b d.tape).1).1) rfl (zJ rfl rfl rfl) rfl (nb hn rfl) (fun hc=>⟨⟨_,rfl,hc⟩,⟨_,rfl,hc⟩,trivial⟩) rfl rfl (.refl _)) fun _=>?_
 refine d2_of_d1 (Zy [19,20] [] hn rfl (zD (zl (by kernel_rfl) ?_)))
 refine zA (zH rfl (fun hb7=>?_) (fun hb7=>?_))
 have hg:GoodW d (readI d.b d.tape).1 o (minutesI d.b d.tape).1 (bif high then (bndI d.b (readI d.b d.tape).1 d.fee o (minutesI d.b d.tape).1).1.2 else (bndI d.b (readI d.b d.tape).1 d.fee o (minutesI d.b d.tape).1).1.1) fr w p:=gw_of hpl hb7
 obtain ⟨m,hm,hmb⟩:=hg.ex
 obtain ⟨_,_,_,_,c,hc,_⟩:=ki hm
 refine Zu (Zt 6 [] hn rfl (stepW (s_callE (truth_pk d _ _ H hN h5 o hob bm (q:Nat) fr w p hpl m hm c hc) rfl rfl rfl (nb hn rfl) (.d rfl) rfl (.refl _) trivial (fun _=>rfl) (fun _ _=>trivial)) fun _=>?_))
 refine Zt 2 [6] hn rfl (Zv (zI (zP (zF (zF (zP (zP (zF (zF (zP (zP (zF (zF (zP (zF ?_)))))))))))))))
 exact ret_E (.inl rfl) ⟨(wtr d _ o _ (q:Nat) fr w p c,0),by have h:=ShowR.yes (d:=d) (q:=(q:Nat)) (high:=high) q00 (by rw [hgo]; exact q2) fr w p c (by rw [hgo]; exact hg) (by rw [hgo]; exact hc); rw [hgo] at h; exact h⟩ (z8 rfl (.d (.cellA rfl (id:=6) rfl underlying56 rfl sz56 rfl rfl)) (.tmp rfl)) trivial
 have hng:¬ GoodW d (readI d.b d.tape).1 o (minutesI d.b d.tape).1 (bif high then (bndI d.b (readI d.b d.tape).1 d.fee o (minutesI d.b d.tape).1).1.2 else (bndI d.b (readI d.b d.tape).1 d.fee o (minutesI d.b d.tape).1).1.1) fr w p:=fun hg=>by rw [gw_to hg] at hb7; cases hb7
 refine zK (zN (zA (zG (Zs hn (zr rfl rfl rfl (r:=((p + 1:Nat):Int)) (i64w (by omega) (by omega))) ?_))))
 refine Zt 1 [] hn rfl (zT ?_)
 exact Zr ⟨p + 1,by omega,fun p2 hf hg=>by by_cases e:p2 = p; (subst e; exact hng hg); exact hno2 p2 (by omega) hg⟩ ⟨.inl rfl,zE _⟩ trivial (by simp only; omega)
 obtain rfl:p = 800:=by simp at hb6; omega
 refine zY (zC (zC (zM (zN (zA (zG (Zs hn (zr rfl rfl rfl (r:=((w + 1:Nat):Int)) (i64w (by omega) (by omega))) ?_)))))))
 refine Zt 1 [] hn rfl (zT ?_)
 exact Zr ⟨w + 1,by omega,fun w2 p hf hg=>by by_cases e:w2 = w; (subst e; exact hno2 p hg.p8 hg); exact hno1 w2 p (by omega) hg⟩ ⟨.inl rfl,zE _⟩ trivial (by simp only; omega)
 obtain rfl:w = (readI d.b d.tape).1.length:=by simp at hb5; omega
 refine zY (zC (zC (zM (zN (zA (zG (Zs hn (zr rfl rfl rfl (r:=((fr + 1:Nat):Int)) (i64w (by omega) (by omega))) ?_)))))))
 refine Zt 1 [] hn rfl (zT ?_)
 exact Zr ⟨fr + 1,by omega,fun f w p hf hg=>by by_cases e:f = fr; (subst e; exact hno1 w p (gw_w hg) hg); exact hno f w p (by omega) hg⟩ ⟨.inl rfl,zE _⟩ trivial (by simp only; omega)
 exact (by obtain ⟨f,w,p,hg⟩:=good_ex (high:=high) q2; exact (hno f w p (by have:=gw_fr hg; simp at hb4; omega) hg).elim)
end Go.Proofs.YticlpkgpmmhemaaGreatDoor
namespace Go.Proofs.YticlpkgpmmhemaaGreatDoor
open Go.RowKit
set_option linter.all false
/-- What the last sale of the stock before i can be, as the pass has it. -/
def LastB (l:List Prt) (k:Int) (st:Stk) (i bf:Nat) (out:List Int):Prop:=∀ p,p < 800 → (bf.testBit p = true ↔ (aheadGo l k i < 0 ∧ st.lo ≤ (p:Int) ∧ (p:Int) ≤ st.hi) ∨ ∃ a:Nat,aheadGo l k i = (a:Nat) ∧ out.getD a 0 = (p:Nat))
/-- A truth of the stock goes on with what is chosen. -/
def GoesW (b:Brd) (l:List Prt) (T:Nat → Nat → Bool) (k:Int) (w x i:Nat) (out:List Int):Prop:=∃ g,PreT b l T k l.length g ∧ g w = (x:Nat) ∧ ∀ j,j < i → (l.getD j prt0).stock = k → g j = out.getD j 0
theorem zAD {l:List Int} {i j:Nat} {x:Int} (h:i < l.length):(l.set i x).getD j 0 = if i = j then x else l.getD j 0:=by
  rw [List.getD_eq_getElem?_getD,List.getElem?_set]
  by_cases e:i = j
  · subst e; rw [if_pos rfl,if_pos h,if_pos rfl]; rfl
  · rw [if_neg e,if_neg e,← List.getD_eq_getElem?_getD]
theorem start_last {l:List Prt} {k:Int} {st:Stk} {out:List Int}:LastB l k st 0 (startN st) out:=fun p hp=>by
  unfold startN
  rw [yI,decide_eq_true hp,Bool.true_and,zi]
  constructor
  · exact fun h=>.inl ⟨by unfold aheadGo; omega,h⟩
  · rintro (h | ⟨a,ha,_⟩)
    · exact h.2
    · unfold aheadGo at ha; omega
/-- The pass takes one step. -/
theorem onl_one {b : Brd} {l : List Prt} {T : Nat → Nat → Bool} {st : Stk} {k J i bf w x : Nat} {s : Prt} {ms : List Nat} {lat : Option Nat} {out : List Int} (hJ : b.jump = (J : Nat)) (hst : b.stocks[k]? = some st) (hso : 1 ≤ st.lo ∧ st.lo ≤ st.hi ∧ st.hi ≤ 799) (hw : WOK l (k : Int) (w : Nat)) (hB : BkI b l T (k : Int) (w : Nat) x 0 lat ms)
    (hs:l[i]? = some s) (hk:s.stock = (k:Int)) (ho:out.length = l.length) (hL:LastB l (k:Int) st i bf out) (hG:GoesW b l T (k:Int) w x i out) :
    ∃ p,p < 800 ∧ lowF (kepN s (fun y=>(nearN bf J).testBit y) (ms.getD i 0)) = some p ∧ GoesW b l T (k:Int) w x (i + 1) (out.set i (p:Nat)):=by
  have hil:=(List.getElem?_eq_some_iff.1 hs).1
  have hg:l.getD i prt0 = s:=zQ hs
  have hst2:(l.getD i prt0).stock = (k:Int):=by rw [hg]; exact hk
  have hai:aheadI l i = aheadGo l (k:Int) i:=by unfold aheadI; rw [hst2]
  have hbs:b.stocks.getD (l.getD i prt0).stock.toNat stk0 = st:=by rw [hst2,Int.toNat_natCast]; exact zQ hst
  obtain ⟨g,hgp,hgw,hgo⟩:=hG
  have h0:=hgp.1 i hil hst2
  have hb0:=h0.bd
  obtain ⟨q0,hq0⟩:∃ q:Nat,g i = (q:Nat):=⟨(g i).toNat,by omega⟩
  have hq8:q0 < 800:=by omega
  have hfit0:=h0.1
  rw [hg,hq0,fits0,Bool.and_eq_true_iff] at hfit0
  have hn0:(nearN bf J).testBit q0 = true:=by
    rw [y8]
    refine ⟨by omega,hq8,?_⟩
    by_cases ha:aheadGo l (k:Int) i < 0
    · have h1:=(zAF (by omega) hbs).1 h0
      rw [hq0] at h1
      refine ⟨(max st.lo (min st.hi (q0:Int))).toNat,by omega,?_,by omega,by omega⟩
      exact (hL _ (by omega)).2 (.inl ⟨ha,by omega,by omega⟩)
    · obtain ⟨a,haa,hai2⟩:=k9 (l:=l) (st:=(k:Int)) (i:=i) (by omega)
      have h1:=(kH (k:=a) (by omega)).1 h0
      obtain ⟨a1,a2,_⟩:=yK.1 haa
      have hba:=(hgp.1 a (by omega) a2).bd
      obtain ⟨q,hq⟩:∃ q:Nat,g a = (q:Nat):=⟨(g a).toNat,by omega⟩
      rw [hq0,hq] at h1
      rw [hq] at hba
      exact ⟨q,by omega,(hL q (by omega)).2 (.inr ⟨a,haa,by rw [← hgo a (by omega) a2]; exact hq⟩),by omega,by omega⟩
  have hm0:(ms.getD i 0).testBit q0 = true:=(hB.hi i (Nat.zero_le _) hil hst2 q0 hq8).2 ⟨g,hgp,fun _=>hgw,hq0⟩
  have hK0:(kepN s (fun y=>(nearN bf J).testBit y) (ms.getD i 0)).testBit q0 = true:=by
    rw [zB5 hq8,hm0,hfit0.2,hn0]; rfl
  obtain ⟨p,hp⟩:∃ p,lowF (kepN s (fun y=>(nearN bf J).testBit y) (ms.getD i 0)) = some p:=by
    cases he:lowF (kepN s (fun y=>(nearN bf J).testBit y) (ms.getD i 0)) with
    | some p=>exact ⟨p,rfl⟩
    | none =>
      unfold lowF at he
      rw [List.find?_eq_none] at he
      exact (he q0 (List.mem_range.2 hq8) hK0).elim
  have hp1:(kepN s (fun y=>(nearN bf J).testBit y) (ms.getD i 0)).testBit p = true:=by
    have h:=List.find?_some (show (List.range 800).find? (fun p=>(kepN s (fun y=>(nearN bf J).testBit y) (ms.getD i 0)).testBit p) = some p from hp); exact h
  have hp8:p < 800:=List.mem_range.1 (List.mem_of_find?_eq_some (show (List.range 800).find? (fun p=>(kepN s (fun y=>(nearN bf J).testBit y) (ms.getD i 0)).testBit p) = some p from hp))
  refine ⟨p,hp8,hp,?_⟩
  rw [zB5 hp8,Bool.and_eq_true_iff,Bool.and_eq_true_iff] at hp1
  obtain ⟨⟨hpm,hpf⟩,hpn⟩:=hp1
  rw [y8] at hpn
  obtain ⟨hp1,_,y,hy8,hyb,hn1,hn2⟩:=hpn
  obtain ⟨h,hh,hhw,hhi⟩:=(hB.hi i (Nat.zero_le _) hil hst2 p hp8).1 hpm
  have hfit:refFits s i (p:Nat) 0 = true:=by rw [fits0,hpf,Bool.and_true]; exact zi.2 ⟨by omega,by omega⟩
  refine ⟨fun j=>if j < i then g j else h j,⟨fun j hj hjs=>?_,fun j hj hjs=>?_⟩,?_,fun j hj hjs=>?_⟩
  · rcases Nat.lt_trichotomy j i with h3 | h3 | h3
    · refine (hgp.1 j hj hjs).congr (by (try dsimp only); rw [if_pos h3]) fun a ha=>?_
      have ha':aheadGo l (l.getD j prt0).stock j = (a:Nat):=ha
      have hlt:=kN (l:=l) (st:=(l.getD j prt0).stock) (i:=j)
      rw [if_pos (by omega)]
    · subst h3
      rcases (hL y hy8).1 hyb with ⟨h4,h5,h6⟩ | ⟨a,ha,hoa⟩
      · refine (zAF (by omega) hbs).2 ?_
        rw [if_neg (by omega),hhi,hg]
        exact ⟨hfit,by omega,by omega⟩
      · obtain ⟨a1,a2,_⟩:=yK.1 ha
        refine (kH (k:=a) (by omega)).2 ?_
        rw [if_neg (by omega),if_pos a1,hgo a a1 a2,hoa,hhi,hg]
        exact ⟨hfit,by omega,by omega⟩
    · refine (hh.1 j hj hjs).congr (by (try dsimp only); rw [if_neg (by omega)]) fun a ha=>?_
      have ha':aheadGo l (l.getD j prt0).stock j = (a:Nat):=ha
      obtain ⟨a1,a2,a3⟩:=yK.1 ha'
      have:i ≤ a:=by
        rcases Nat.lt_or_ge a i with h4 | h4
        · exact (a3 i h4 h3 (hst2.trans hjs.symm)).elim
        · exact h4
      rw [if_neg (by omega)]
  · (try dsimp only)
    by_cases h3:j < i
    · rw [if_pos h3]; exact hgp.2 j hj hjs
    · rw [if_neg h3]; exact hh.2 j hj hjs
  · (try dsimp only)
    by_cases h3:w < i
    · rw [if_pos h3]; exact hgw
    · rw [if_neg h3]
      have h4:=hhw (by omega)
      rw [Int.toNat_natCast] at h4; exact h4
  · (try dsimp only)
    rw [zAD (by omega)]
    by_cases e:j = i
    · subst e; rw [if_neg (by omega),if_pos rfl,hhi]
    · rw [if_pos (by omega),if_neg (by omega)]; exact hgo j (by omega) hjs
theorem zDM {b : Brd} {l : List Prt} {T : Nat → Nat → Bool} {st : Stk} {k J w x : Nat} {ms : List Nat} {lat : Option Nat} (hJ : b.jump = (J : Nat)) (hst : b.stocks[k]? = some st) (hso : 1 ≤ st.lo ∧ st.lo ≤ st.hi ∧ st.hi ≤ 799) (hw : WOK l (k : Int) (w : Nat)) (hB : BkI b l T (k : Int) (w : Nat) x 0 lat ms) :
    ∀ (n i bf:Nat) (out:List Int),i + n = l.length → out.length = l.length → LastB l (k:Int) st i bf out → GoesW b l T (k:Int) w x i out →
      GoesW b l T (k:Int) w x l.length (onlGo l J ms ((List.range' i n).filter fun j:Nat=>decide ((0:Int) ≤ (j:Int)) && ((l.getD j prt0).stock == (k:Int))) bf out)
  | 0,i,bf,out,h,_,_,hG=>by
    obtain rfl:i = l.length:=by omega
    exact hG
  | n + 1,i,bf,out,h,ho,hL,hG=>by
    obtain ⟨s,hs⟩:=zW (show i < l.length by omega)
    have hg:l.getD i prt0 = s:=zQ hs
    rw [List.range'_succ,List.filter_cons,show decide ((0:Int) ≤ (i:Int)) = true by simp,Bool.true_and,hg]
    cases hk:s.stock == (k:Int)
    · have hne:(l.getD i prt0).stock ≠ (k:Int):=by rw [hg]; simpa using hk
      refine zDM hJ hst hso hw hB n (i + 1) bf out (by omega) ho (fun p hp=>?_) ?_
      · rw [hL p hp,zAP hne]
      · obtain ⟨g,h1,h2,h3⟩:=hG
        refine ⟨g,h1,h2,fun j hj hjs=>?_⟩
        rcases Nat.lt_or_ge j i with h4 | h4
        · exact h3 j h4 hjs
        · obtain rfl:j = i:=by omega
          exact (hne hjs).elim
    · have hk':s.stock = (k:Int):=by simpa using hk
      have hst2:(l.getD i prt0).stock = (k:Int):=by rw [hg]; exact hk'
      obtain ⟨p,hp8,hp,hG2⟩:=onl_one hJ hst hso hw hB hs hk' ho hL hG
      rw [if_pos rfl,onlGo,hg,hp]
      dsimp only [onlO]
      refine zDM hJ hst hso hw hB n (i + 1) _ _ (by omega) (by rw [List.length_set]; exact ho) (fun q hq=>?_) hG2
      rw [zAD (by omega),if_pos rfl,Int.toNat_natCast,yq,kg hst2]
      constructor
      · intro h1
        by_cases e:q = p
        · subst e
          exact .inr ⟨i,rfl,by rw [zAD (by omega),if_pos rfl]⟩
        · rw [if_neg e] at h1; simp at h1
      · rintro (h1 | ⟨a,ha,hoa⟩)
        · omega
        · obtain rfl:i = a:=by omega
          rw [zAD (by omega),if_pos rfl] at hoa
          rw [if_pos (by omega)]
theorem onl_law {b : Brd} {l : List Prt} {o : Ord} (h : OddOK b l o) {fee : Int} {fr w x : Nat} {c : List Nat} (hc : chainN b l fee o (fr : Nat) (w : Nat) = some c) (hwl : w < l.length) (hws : (l.getD w prt0).stock = o.stock) (hx : x < 800) (hm : ((backN b l o c).getD w 0).testBit x = true) :
    ∃ g,PreT b l (tstO fee o (fr:Nat) (w:Nat)) o.stock l.length g ∧ g w = (x:Nat) ∧ ∀ j,j < l.length → (l.getD j prt0).stock = o.stock → g j = (onlGo l b.jump.toNat (bckGo b.jump.toNat o.stock l l.length none (c.set w (putB 0 x true))) (ofL l o.stock 0) (startN (b.stocks.getD o.stock.toNat stk0)) (List.replicate l.length 0)).getD j 0:=by
  obtain ⟨f,hf,hft,hfw⟩:=(chain_bit h hc hwl hws hx).1 hm
  obtain ⟨k,st,hk,hst,hgd,hso⟩:=h.stk
  have hJ:b.jump = (b.jump.toNat:Nat):=by have:=h.v.j0; omega
  have hI:=ch_is (l:=l) (T:=tstO fee o (fr:Nat) (w:Nat)) hJ hst hso
  have hc2:=hc
  unfold chainN at hc2
  rw [hgd,hk] at hc2
  rw [hc2] at hI
  obtain ⟨now,_,hI⟩:=hI
  have hpre:PreT b l (tstO fee o (fr:Nat) (w:Nat)) o.stock l.length f:=⟨fun j hj hjs=>hf j hj,hft⟩
  rw [hk] at hpre hws
  have hcb:(c.getD w 0).testBit x = true:=(hI.lv w hwl hws x hx).2 ⟨f,hpre.mono (by omega),hfw⟩
  have hW:WOK l (k:Int) (w:Nat):=.inr ⟨by omega,by rw [Int.toNat_natCast]; exact hws⟩
  obtain ⟨lat,hB⟩:=zDU hW hJ l.length none _ (Nat.le_refl _) (bk_start1 hx hwl hcb hws hI)
  have h1:=zDM hJ hst hso hW hB l.length 0 (startN st) (List.replicate l.length 0) (by omega) (by simp) start_last ⟨f,hpre,hfw,fun j hj=>by omega⟩
  rw [hgd,hk]
  unfold ofL ofP
  rw [List.range_eq_range']
  exact h1
theorem show_tru {b:Brd} {l:List Prt} (v:BrdOK b) (hpo:∀ p ∈ l,PrtOK b p) (hex:∃ g,TruF b l 0 g) (hpos:0 < l.length):(showGo b l.length (setP l 0 (showP b l 0 false)) []).length = l.length ∧ TruF b l 0 fun j=>(showGo b l.length (setP l 0 (showP b l 0 false)) []).getD j 0:=by
  obtain ⟨ms,hms⟩:∃ ms,levelsI b l [] = some ms:=Option.isSome_iff_exists.1 ((kB (out:=[]) (o:=0) kQ v hpo).1.2 hex)
  have h1:=ShInv.first v hpo hms false hpos
  have h2:=zEK v (setP l 0 (showP b l 0 false)).length (setP l 0 (showP b l 0 false)) (setP l 0 (showP b l 0 false)) [] (by simp) rfl h1.po (fun f=>⟨fun h=>⟨h,fun j hj=>by simp at hj⟩,fun h=>h.1⟩) h1.ex (fun i hi=>by simp at hi)
  rw [yf] at h2
  obtain ⟨h3,h4,_⟩:=h2
  rw [yf] at h3
  obtain ⟨lo,hi2,e,⟨f1,hf1,hf1k⟩,_,_⟩:=lvl_bnd kQ v hpo hms hpos
  have esh:showP b l 0 false = (lo:Int):=by unfold showP; rw [hms,Option.getD_some,e]; rfl
  refine ⟨h3,((kz hpos ⟨f1,hf1,?_⟩).1 h4).1⟩
  rw [esh]; exact hf1k
theorem zD2 {l:List Prt} {k:Int} {own sh:List Int}:∀ {i j:Nat},i ≤ sh.length → j < sh.length → (prcU l k own sh i).getD j 0 = if j < i ∧ (l.getD j prt0).stock = k then own.getD j 0 else sh.getD j 0
  | 0,j,_,_=>by rw [prcU,if_neg (by omega)]
  | i + 1,j,hi,hj=>by
    rw [prcU]
    have ih:=zD2 (l:=l) (k:=k) (own:=own) (sh:=sh) (i:=i) (j:=j) (by omega) hj
    cases hk:(l.getD i prt0).stock == k
    · rw [cond_false,ih]
      have hne:(l.getD i prt0).stock ≠ k:=by simpa using hk
      by_cases e:j = i
      · subst e; rw [if_neg (fun h=>hne h.2),if_neg (fun h=>hne h.2)]
      · by_cases h1:j < i ∧ (l.getD j prt0).stock = k
        · rw [if_pos h1,if_pos ⟨by omega,h1.2⟩]
        · rw [if_neg h1,if_neg (fun h=>h1 ⟨by omega,h.2⟩)]
    · rw [cond_true,zAD (by rw [kk]; omega),ih]
      by_cases e:i = j
      · subst e; rw [if_pos rfl,if_pos ⟨by omega,by simpa using hk⟩]
      · rw [if_neg e]
        by_cases h1:j < i ∧ (l.getD j prt0).stock = k
        · rw [if_pos h1,if_pos ⟨by omega,h1.2⟩]
        · rw [if_neg h1,if_neg (fun h=>h1 ⟨by omega,h.2⟩)]
theorem zDK {n j:Nat} {f:Nat → Int} (h:j < n):((List.range n).map f).getD j 0 = f j:=zQ (by rw [List.getElem?_map,List.getElem?_range h]; rfl)
theorem RightM.congr {l:List Prt} {m n:Nat → Int} (h:RightM l m) (e:∀ j,j < l.length → m j = n j):RightM l n :=
  ⟨fun j hj=>by rw [← e j hj]; exact h.own j hj,fun j h0 hj=>by rw [← e j hj,← e (j - 1) (by omega)]; exact h.up j h0 hj⟩
theorem TruF.congr {b:Brd} {l:List Prt} {o:Nat} {f g:Nat → Int} (h:TruF b l o f) (e:∀ j,j < l.length → f j = g j):TruF b l o g:=fun j hj=>(h j hj).congr (e j hj) fun k hk=>e k (by
  have ha':aheadGo l (l.getD j prt0).stock j = (k:Nat):=hk
  obtain ⟨a1,_,_⟩:=yK.1 ha'
  omega)
theorem wtr_law {d : Dsk} {l : List Prt} {mm : List (Int × Int)} (h : SurH d l mm) {q : Nat} {o : Ord} (hod : d.orders[q]? = some o) {side : Int} {fr w p : Nat} {c : List Nat} (hg : GoodW d l o mm side fr w p) (hc : chainN d.b l d.fee o (fr : Nat) (w : Nat) = some c) :
    TruW d l (wtr d l o mm (q:Nat) fr w p c) ∧ fillGo d.fee o ((wtr d l o mm (q:Nat) fr w p c).orders.getD q 0) (wtr d l o mm (q:Nat) fr w p c).prices (wtr d l o mm (q:Nat) fr w p c).minutes 0 l = (((w:Nat):Int),side):=by
  have hob:=zBs (h.ob o (List.mem_of_getElem? hod))
  have hok:OddOK d.b l o:=⟨h.v,h.po,hob.1,h.ex⟩
  obtain ⟨m,hm,hmb⟩:=hg.ex
  obtain ⟨hfw,hwl,hws,hwt,c2,hc2,hbk⟩:=ki hm
  obtain rfl:c = c2:=by rw [hc] at hc2; cases hc2; rfl
  rw [← hbk] at hmb
  obtain ⟨g,hgp,hgw,hgo⟩:=onl_law hok hc hwl hws hg.p8 hmb
  have hq:q < d.orders.length:=(List.getElem?_eq_some_iff.1 hod).1
  have hpos:0 < l.length:=by omega
  obtain ⟨hsl,hst⟩:=show_tru h.v h.po h.ex hpos
  have hmm:=h.mt
  subst hmm
  obtain ⟨hr1,hr2,hr3⟩:=of_wait h.po h.tb (show fr ≤ l.length by omega) (show o.mlo ≤ o.mhi by omega) hwt
  have hget:∀ j,j < l.length → (wtr d l o (timL l l.length) (q:Nat) fr w p c).prices.getD j 0 = if (l.getD j prt0).stock = o.stock then g j else (showGo d.b l.length (setP l 0 (showP d.b l 0 false)) []).getD j 0:=fun j hj=>by
    unfold wtr
    dsimp only
    rw [zD2 (by omega) (by omega)]
    by_cases e:(l.getD j prt0).stock = o.stock
    · rw [if_pos ⟨hj,e⟩,if_pos e,hgo j hj e]
    · rw [if_neg (fun h=>e h.2),if_neg e]
  have htr:TruF d.b l 0 fun j=>(wtr d l o (timL l l.length) (q:Nat) fr w p c).prices.getD j 0:=(zEF hgp.1 hst).congr fun j hj=>(hget j hj).symm
  have hmg:∀ j,j < l.length → (wtr d l o (timL l l.length) (q:Nat) fr w p c).minutes.getD j 0 = waitM l fr j:=fun j hj=>by
    unfold wtr minU
    dsimp only
    rw [zDK hj]
    unfold minW waitM
    rw [zBb hj]
    by_cases e:j < fr
    · rw [decide_eq_true (by omega),if_pos e]; rfl
    · rw [decide_eq_false (by omega),if_neg e]; rfl
  have hog:(wtr d l o (timL l l.length) (q:Nat) fr w p c).orders.getD q 0 = comeM o l fr:=by
    unfold wtr ordU
    dsimp only
    rw [zDK hq]
    unfold ordW comeM
    rw [zQ hod]
    by_cases e:0 < fr
    · rw [decide_eq_true (show (0:Int) < (fr:Nat) by omega),if_pos e,show ((q:Int) == (q:Nat)) = true by simp,zBb (by omega)]; rfl
    · rw [decide_eq_false (show ¬ (0:Int) < (fr:Nat) by omega),if_neg e,Bool.and_false]; rfl
  refine ⟨⟨?_,htr,?_,?_,?_,fun j hj=>?_⟩,?_⟩
  · unfold wtr; dsimp only; rw [kk]; exact hsl
  · unfold wtr minU; simp
  · exact hr1.congr fun j hj=>(hmg j hj).symm
  · unfold wtr ordU; simp
  · by_cases e:j = q
    · subst e; rw [hog,zQ hod]; exact hr2
    · obtain ⟨o2,ho2⟩:=zW hj
      have hb2:=zBs (h.ob o2 (List.mem_of_getElem? ho2))
      have:(wtr d l o (timL l l.length) (q:Nat) fr w p c).orders.getD j 0 = o2.mlo:=by
        unfold wtr ordU
        dsimp only
        rw [zDK hj]
        unfold ordW
        rw [show ((j:Int) == (q:Nat)) = false by simp; omega,Bool.false_and,cond_false,zQ ho2]
      rw [this,zQ ho2]; omega
  · have hH : HitP d.fee o l (fun j => (wtr d l o (timL l l.length) (q : Nat) fr w p c).prices.getD j 0) fr w := by
      refine (tst_hit hfw hwl hws fun j hj=>((htr j hj).bd).1).1 fun j hj hjs=>?_
      have h1:=hgp.2 j hj hjs
      rw [hget j hj,if_pos hjs]; exact h1
    rcases fill_is (fee:=d.fee) (o:=o) (a:=(wtr d l o (timL l l.length) (q:Nat) fr w p c).orders.getD q 0) (ps:=(wtr d l o (timL l l.length) (q:Nat) fr w p c).prices) (ms:=(wtr d l o (timL l l.length) (q:Nat) fr w p c).minutes) (l:=l) (fr:=fr) (fun j hj=>by rw [hmg j hj,hog]; exact hr3 j hj) with ⟨k,h1,h2⟩ | ⟨_,h2⟩
    · obtain rfl:=hit_uniq h2 hH
      rw [h1,hget k hwl,if_pos hws,hgw,hg.pr]
    · exact (hit_miss hH h2).elim
/-- What 'Show' gives, if it gives a truth. -/
theorem show_yes {d : Dsk} {q : Nat} {o : Ord} {high : Bool} {t : Tru} (hod : d.orders[q]? = some o) (h : ShowR d (q : Nat) high t 0) :
    sureO d [(q:Int)] = 0 ∧ TruW d (readI d.b d.tape).1 t ∧ ∃ w:Nat,fillGo d.fee o (t.orders.getD q 0) t.prices t.minutes 0 (readI d.b d.tape).1 = ((w:Int),bif high then (bndI d.b (readI d.b d.tape).1 d.fee o (minutesI d.b d.tape).1).1.2 else (bndI d.b (readI d.b d.tape).1 d.fee o (minutesI d.b d.tape).1).1.1):=by
  have hgo:d.orders.getD ((q:Nat):Int).toNat ord0 = o:=by rw [Int.toNat_natCast]; exact zQ hod
  generalize he:(0:Int) = e at h
  cases h with
  | bad h1=>exact (h1 he.symm).elim
  | no=>omega
  | yes h1 h2 fr w p c hg hc =>
    rw [hgo] at hg hc ⊢
    obtain ⟨hS,_⟩:=kZ h1
    obtain ⟨a1,a2⟩:=wtr_law hS hod hg hc
    exact ⟨by rw [h1,← he],a1,w,a2⟩
end Go.Proofs.YticlpkgpmmhemaaGreatDoor
namespace Go.Proofs.YticlpkgpmmhemaaGreatDoor
open Go.Proofs.Tryz
open Go.RowKit
set_option linter.all false
set_option maxRecDepth 20000
theorem eqveql66 (a b c e:Int) (w:World):(binOp .eql 66 (.agg #[.int .i64 a,.int .i64 b]) (.agg #[.int .i64 c,.int .i64 e])).run Tryz.prog w = .ok (.bool ((a == c && b == e))) w:=by
  have u3:=underlying3
  have a3:=isAgg3
  have z3:=sizeOf3
  have hS:Tryz.prog.underlying 66 = some (.struct (Tryz.prog.fieldsOf 66)):=by kernel_rfl
  have hp:Tryz.prog.stoodInHeld 66 = false:=by kernel_rfl
  rw [run_eql_struct,show (10000:Nat) = 9999 + 1 from rfl,run_equalIn_agg w 9999 66 _ _ hS hp]
  simp only [Program.fieldsOf,underlying66]
  go_simp
  by_cases h1:a = c <;> by_cases h2:b = e <;> simp [h1,h2]
theorem zDE {Γ : Cx} {σ : St} {o : Oper} {R : Rel} {x y : Operand} {t' : TypeId} {a b c d : Int} (h : o.op = .binOp .eql 66 x y t') (hx : σ.ev x = some (true, .d (.agg [.int .i64 a, .int .i64 b]))) (hy : σ.ev y = some (true, .d (.agg [.int .i64 c, .int .i64 d]))) :
    QV Γ Tryz.prog σ o R (.d (.bool ((a == c && b == d)))):=fun A w F hs=>by
  obtain ⟨vs,e1,h1,_⟩:=hs.ev hx
  obtain ⟨us,e2,h2,_⟩:=hs.ev hy
  obtain ⟨v1,vs1,rfl,q1,v2,vs2,rfl,q2,q3⟩:=h1
  obtain ⟨u1,us1,rfl,p1,u2,us2,rfl,p2,p3⟩:=h2
  simp only [Rep,RepVals] at q1 q2 q3 p1 p2 p3
  subst q1 q2 q3 p1 p2 p3
  exact ⟨.bool ((a == c && b == d)),rfl,fun w' _=>by
    simp only [execOp,h,e1,e2,Sem.run_bind,run_eqGuard_agg w' .eql 66 x y _ _ (show Tryz.prog.eqGuardType Tryz.prog.depth 66 = false by kernel_rfl),Result.andThen_ok,eqveql66,Sem.run_pure]⟩
theorem eqveql68 (a b c e:Int) (w:World):(binOp .eql 68 (.agg #[.int .i64 a,.int .i64 b]) (.agg #[.int .i64 c,.int .i64 e])).run Tryz.prog w = .ok (.bool ((a == c && b == e))) w:=by
  have u3:=underlying3
  have a3:=isAgg3
  have z3:=sizeOf3
  have hS:Tryz.prog.underlying 68 = some (.struct (Tryz.prog.fieldsOf 68)):=by kernel_rfl
  have hp:Tryz.prog.stoodInHeld 68 = false:=by kernel_rfl
  rw [run_eql_struct,show (10000:Nat) = 9999 + 1 from rfl,run_equalIn_agg w 9999 68 _ _ hS hp]
  simp only [Program.fieldsOf,underlying68]
  go_simp
  by_cases h1:a = c <;> by_cases h2:b = e <;> simp [h1,h2]
theorem zDI {Γ : Cx} {σ : St} {o : Oper} {R : Rel} {x y : Operand} {t' : TypeId} {a b c d : Int} (h : o.op = .binOp .eql 68 x y t') (hx : σ.ev x = some (true, .d (.agg [.int .i64 a, .int .i64 b]))) (hy : σ.ev y = some (true, .d (.agg [.int .i64 c, .int .i64 d]))) :
    QV Γ Tryz.prog σ o R (.d (.bool ((a == c && b == d)))):=fun A w F hs=>by
  obtain ⟨vs,e1,h1,_⟩:=hs.ev hx
  obtain ⟨us,e2,h2,_⟩:=hs.ev hy
  obtain ⟨v1,vs1,rfl,q1,v2,vs2,rfl,q2,q3⟩:=h1
  obtain ⟨u1,us1,rfl,p1,u2,us2,rfl,p2,p3⟩:=h2
  simp only [Rep,RepVals] at q1 q2 q3 p1 p2 p3
  subst q1 q2 q3 p1 p2 p3
  exact ⟨.bool ((a == c && b == d)),rfl,fun w' _=>by
    simp only [execOp,h,e1,e2,Sem.run_bind,run_eqGuard_agg w' .eql 68 x y _ _ (show Tryz.prog.eqGuardType Tryz.prog.depth 68 = false by kernel_rfl),Result.andThen_ok,eqveql68,Sem.run_pure]⟩
end Go.Proofs.YticlpkgpmmhemaaGreatDoor
namespace Go.Proofs.YticlpkgpmmhemaaGreatDoor
open Go.Proofs.Tryz
open Go.RowKit
set_option maxRecDepth 20000
set_option linter.all false
theorem zAj (a b:List Int):PureAt Tryz.prog 50 [ints a,ints b] (.bool (intsB a b)):=by
 refine PureAt.of_awp' Tryz.func50 rfl (by kernel_rfl) rfl fun hlen Γ hn hl=>?_
 have hl1:=hlen.1; have hl2:=hlen.2.1
 simp only [List.length_map] at hl1 hl2
 refine Zu (Zt 1 [] hn rfl (Zv (zB (Zu (Zt 5 [] hn rfl (Zv (zH rfl (fun hb0=>?_) (fun hb0=>?_))))))))
 have hne:a ≠ b:=fun e=>by subst e; simp at hb0
 refine Zu (Zt 1 [] hn rfl (Zv (zI (zF (ze (za (.inl rfl) hl rfl (.tmp rfl)) ?_)))))
 rw [show intsB a b = false from by rw [Bool.eq_false_iff]; exact fun q=>hne (zAu.1 q)]
 have hle:a.length = b.length:=by simp at hb0; omega
 refine zK (zA (zB (Zu (Zt 1 [] hn rfl (Zv (zL (awp_loop_on (ι:={i:Nat // i ≤ a.length ∧ ∀ j,j < i → a[j]? = b[j]?}) (fun x=>(5,true,.d (.int .i64 (x.1:Nat))) :: anys [11,12,13,14,17,18,19,20,21,22,23,24,25,15,16]) (fun x=>[]) (fun x=>a.length - x.1) ⟨0,Nat.zero_le _,fun j hj=>by omega⟩ ⟨.inl rfl,zE _⟩ trivial ?_)))))))
 rintro ⟨i,hi,hall⟩
 dsimp only
 refine zB (Zu (Zt 4 [] hn rfl (Zv (zH rfl (fun hb1=>?_) (fun hb1=>?_)))))
 have hlt:i < a.length:=by simp at hb1; omega
 obtain ⟨x,hx⟩:=zW hlt
 obtain ⟨y,hy⟩:=zW (show i < b.length by omega)
 refine zK (zA (zB (zL (zB (zo (W:=fun b=>True) fmo ?_)))))
 refine Zy [0,1] [] hn rfl (Zd 2 rfl hn (q_index (i:=i) rfl rfl rfl underlying29 sz3 rfl (mget hx)) ?_)
 refine Zy [3,4,5] [] hn rfl (Zd 6 rfl hn (q_index (i:=i) rfl rfl rfl underlying29 sz3 rfl (mget hy)) ?_)
 refine Zy [7,8] [] hn rfl (zD (zl (by kernel_rfl) ?_))
 refine zA (zH rfl (fun hb2=>?_) (fun hb2=>?_))
 have hne:a ≠ b:=fun e=>by (subst e; rw [hx] at hy; cases hy; simp at hb2)
 refine Zu (Zt 1 [] hn rfl (Zv (zI (zP (zF (zF (zP (zF (ze (za (.inl rfl) hl rfl (.tmp rfl)) ?_)))))))))
 rw [show intsB a b = false from by rw [Bool.eq_false_iff]; exact fun q=>hne (zAu.1 q)]
 have hxy:x = y:=by simpa using hb2
 refine zK (zN (zA (zG (Zt 1 [] hn rfl (Zs hn (zr rfl rfl rfl (r:=((i + 1:Nat):Int)) (i64w (by omega) (by omega))) ?_)))))
 refine Zt 1 [] hn rfl (zT ?_)
 exact Zr ⟨i + 1,by omega,fun j hj=>by (by_cases e:j = i; (subst e; rw [hx,hy,hxy]); exact hall j (by omega))⟩ ⟨.inl rfl,zE _⟩ trivial (by simp only; omega)
 have hie:i = a.length:=by simp at hb1; omega
 refine zY (zC (zC (zM (zA (Zu (Zt 1 [] hn rfl (Zv (zI (ze (za (.inl rfl) hl rfl (.tmp rfl)) ?_)))))))))
 rw [show intsB a b = true from zAu.2 (List.ext_getElem? fun j=>by (by_cases e:j < i; exact hall j e; rw [List.getElem?_eq_none (by omega),List.getElem?_eq_none (by omega)]))]
theorem yO (a b:Int):PureAt Tryz.prog 53 [.int .i64 a,.int .i64 b] (rngD (a,b)):=by
 refine Zp Tryz.func53 rfl fun Γ hn hl=>?_
 refine Zu ?_
 refine Zb 4 hn rfl fun b4=>?_
 refine Zv (Zu ?_)
 refine Zt 4 [4] hn rfl ?_
 refine Zv (zI ?_)
 exact za (.inl rfl) hl rfl (.cellA rfl (id:=4) rfl underlying66 rfl sz66 rfl rfl)
end Go.Proofs.YticlpkgpmmhemaaGreatDoor
namespace Go.Proofs.YticlpkgpmmhemaaGreatDoor
open Go.Proofs.Tryz
open Go.RowKit
set_option maxRecDepth 20000
set_option linter.all false
set_option maxHeartbeats 4000000
def lateS:List UInt8:=[64,53,32,65,66,32,51,115,32,56,46,50,32,76,49,45,50,32,64,55,32,56,46,53,32,67,32,48,46,49,32,33,32,64,56,32,48,46,55,32,63]
def latL4:List Prt:=[⟨0,3,3,66,false,5,0,0⟩,⟨0,1,1,69,false,7,1,2⟩,⟨1,1,1,1,false,7,1,2⟩,⟨1,1,4,7,false,8,1,2⟩]
def twoB:Brd:=⟨[⟨[65,66],300,310⟩,⟨[67],75,79⟩],10,4⟩
def thrO:List Ord:=[⟨true,0,10,0,4,5⟩,⟨false,0,20,308,5,5⟩,⟨true,1,30,85,4,6⟩]
def threeD:Dsk:=⟨twoB,lateS,1,thrO⟩
def toldT:Tru:=⟨[306,309,81,87],[5,6,6,7],[5,5,6]⟩
def lateM:List (Int × Int):=[(5,5),(5,6),(5,6),(6,7)]
theorem zBg:checkT twoB = 0:=by kernel_rfl
theorem yX:readI twoB lateS = (latL4,0):=by rw [← zCF zBg]; kernel_rfl
theorem zDv:(pricesI twoB lateS).2 = 0:=by unfold pricesI; rw [yX]; kernel_rfl
theorem yh:minutesI twoB lateS = (lateM,0):=by unfold minutesI; rw [yX]; kernel_rfl
theorem zAg:deskI threeD = 0:=by unfold deskI; rw [show readI threeD.b threeD.tape = (latL4,0) from yX]; kernel_rfl
theorem zBp (os:List Int) (h:(os.all fun n=>withinB n 0 ((threeD.orders.length:Int) - 1)) = true):sureO threeD os = 0:=by
  unfold sureO
  rw [zAg,h,show (pricesI threeD.b threeD.tape).2 = 0 from zDv,show minutesI threeD.b threeD.tape = (lateM,0) from yh]; rfl
theorem t_sales0:salesI threeD 0 = ([0,1],0):=by
  unfold salesI
  rw [zBp [0] (by kernel_rfl),show readI threeD.b threeD.tape = (latL4,0) from yX,show minutesI threeD.b threeD.tape = (lateM,0) from yh]; kernel_rfl
theorem t_bounds:boundsI threeD = ([(307,310),(308,308),(82,82)],0):=by
  unfold boundsI
  rw [zBp [] (by kernel_rfl),show readI threeD.b threeD.tape = (latL4,0) from yX,show minutesI threeD.b threeD.tape = (lateM,0) from yh]; kernel_rfl
theorem t_verds:verdsI threeD = ([3,3,3],0):=by
  unfold verdsI
  rw [zBp [] (by kernel_rfl),show readI threeD.b threeD.tape = (latL4,0) from yX,show minutesI threeD.b threeD.tape = (lateM,0) from yh]; kernel_rfl
theorem zEj:truthW threeD (readI threeD.b threeD.tape).1 toldT = true:=by
  unfold truthW
  rw [zAE,show readI threeD.b threeD.tape = (latL4,0) from yX]; kernel_rfl
theorem zFT:playI threeD toldT = ([(1,310),(1,308),(-1,0)],0):=by
  unfold playI
  rw [zAg,zEj,show readI threeD.b threeD.tape = (latL4,0) from yX]; kernel_rfl
theorem t_has:hasI threeD toldT = ([10,0],-3060,0):=by unfold hasI; rw [zFT]; kernel_rfl
theorem t_show {x:Tru × Int} (h:ShowR threeD 0 true x.1 x.2):∃ t,x = (t,0) ∧ (deskI threeD == 0 && truthW threeD (readI threeD.b threeD.tape).1 t) = true:=by
  have hb:(bndI threeD.b (readI threeD.b threeD.tape).1 threeD.fee (threeD.orders.getD (0:Int).toNat ord0) (minutesI threeD.b threeD.tape).1).2 = true:=by
    rw [show readI threeD.b threeD.tape = (latL4,0) from yX,show minutesI threeD.b threeD.tape = (lateM,0) from yh]; kernel_rfl
  obtain ⟨t,e⟩:=x
  have he:e = 0:=by
    change ShowR threeD 0 true t e at h
    cases h with
    | bad h1=>exact (h1 (zBp [0] (by kernel_rfl))).elim
    | no _ h2=>rw [hb] at h2; cases h2
    | yes=>rfl
  subst he
  obtain ⟨_,hT,_⟩:=show_yes (d:=threeD) (q:=0) (o:=⟨true,0,10,0,4,5⟩) (high:=true) rfl h
  exact ⟨t,rfl,by rw [zAg,(zBC (by rw [show readI threeD.b threeD.tape = (latL4,0) from yX])).2 hT]; rfl⟩
theorem yB:NamesOK threeD.b:=fun s hs=>by
  have hs:s ∈ [(⟨[65,66],300,310⟩:Stk),⟨[67],75,79⟩]:=hs
  simp only [List.mem_cons,List.not_mem_nil,or_false] at hs
  rcases hs with rfl | rfl <;> simp
theorem yG :PureAt Tryz.prog 69 [] (dskD threeD):=by
 refine Zp Tryz.func69 rfl fun Γ hn hl=>?_
 refine Zu ?_
 refine Zb 0 hn rfl fun b0=>?_
 refine Zv (Zu ?_)
 refine Zt 4 [] hn rfl ?_
 refine stepW (zO rfl rfl rfl (nb hn rfl) underlying22 sz98 zr98 rfl rfl rfl (show _ = [.d (.str ⟨#[]⟩),.d (.int .i64 0),.d (.int .i64 0),.d (.str ⟨#[]⟩),.d (.int .i64 0),.d (.int .i64 0)] from by kernel_rfl) (by kernel_rfl) rfl rfl rfl rfl rfl) fun _=>?_
 refine Zt 1 [] hn rfl ?_
 refine Zk hn rfl (zCc twoB (by decide)) ?_
 refine Zk hn rfl (yO _ _) ?_
 refine Zt 1 [] hn rfl ?_
 refine Zk hn rfl (yO _ _) ?_
 refine Zt 1 [] hn rfl ?_
 refine Zk hn rfl (yO _ _) ?_
 refine Zt 1 [] hn rfl ?_
 refine stepW (zO rfl rfl rfl (nb hn rfl) underlying49 sz152 zr152 rfl rfl rfl (show _ = [.d (.bool false),.d (.int .i64 0),.d (.int .i64 0),.d (.int .i64 0),.d (.int .i64 0),.d (.int .i64 0),.d (.bool false),.d (.int .i64 0),.d (.int .i64 0),.d (.int .i64 0),.d (.int .i64 0),.d (.int .i64 0),.d (.bool false),.d (.int .i64 0),.d (.int .i64 0),.d (.int .i64 0),.d (.int .i64 0),.d (.int .i64 0)] from by kernel_rfl) (by kernel_rfl) rfl rfl rfl rfl rfl) fun _=>?_
 refine Zt 2 [0] hn rfl ?_
 refine Zv (zI ?_)
 exact za (.inl rfl) hl rfl (.cellA rfl (id:=0) rfl underlying51 rfl sz51 rfl rfl)
theorem zCT :PureAt Tryz.prog 70 [] (truD toldT):=by
 refine Zp Tryz.func70 rfl fun Γ hn hl=>?_
 refine Zu ?_
 refine Zb 0 hn rfl fun b0=>?_
 refine Zv (Zu ?_)
 refine stepW (zO rfl rfl rfl (nb hn rfl) underlying29 sz3 zr3 rfl rfl rfl (show _ = [.d (.int .i64 0),.d (.int .i64 0),.d (.int .i64 0),.d (.int .i64 0)] from by kernel_rfl) (by kernel_rfl) rfl rfl rfl rfl rfl) fun _=>?_
 refine stepW (zO rfl rfl rfl (nb hn rfl) underlying29 sz3 zr3 rfl rfl rfl (show _ = [.d (.int .i64 0),.d (.int .i64 0),.d (.int .i64 0),.d (.int .i64 0)] from by kernel_rfl) (by kernel_rfl) rfl rfl rfl rfl rfl) fun _=>?_
 refine stepW (zO rfl rfl rfl (nb hn rfl) underlying29 sz3 zr3 rfl rfl rfl (show _ = [.d (.int .i64 0),.d (.int .i64 0),.d (.int .i64 0)] from by kernel_rfl) (by kernel_rfl) rfl rfl rfl rfl rfl) fun _=>?_
 refine Zt 2 [0] hn rfl ?_
 refine Zv (zI ?_)
 exact za (.inl rfl) hl rfl (.cellA rfl (id:=0) rfl underlying56 rfl sz56 rfl rfl)
theorem awake4_eff :EffAt Tryz.prog 45 [] [] (X:=Unit) (fun _=>.d (.bool true)) (fun _=>[]):=by
 refine EffAt.of_awp Tryz.func45 rfl (by kernel_rfl) rfl fun Γ hn=>?_
 refine Zu ?_
 refine Zt 1 [] hn rfl ?_
 refine Zv (Zu ?_)
 refine Zk hn rfl (yG) ?_
 refine Zk hn rfl ((by have h:=zAy threeD yB (by decide) (by decide) 0; rw [t_sales0] at h; exact h)) ?_
 refine Zt 5 [] hn rfl ?_
 refine Zv (Zu ?_)
 refine Zk hn rfl (yG) ?_
 refine Zk hn rfl ((by have h:=zCQ threeD yB (by decide) (by decide); rw [t_bounds] at h; exact h)) ?_
 refine Zt 5 [] hn rfl ?_
 refine Zv (Zu ?_)
 refine Zk hn rfl (yG) ?_
 refine Zk hn rfl ((by have h:=zAI threeD yB (by decide) (by decide); rw [t_verds] at h; exact h)) ?_
 refine Zt 5 [] hn rfl ?_
 refine Zv (Zu ?_)
 refine Zk hn rfl (yG) ?_
 refine Zk hn rfl (zCT) ?_
 refine Zk hn rfl ((by have h:=zBN threeD yB (by decide) (by decide) toldT; rw [zFT] at h; exact h)) ?_
 refine Zt 5 [] hn rfl ?_
 refine Zv (Zu ?_)
 refine Zk hn rfl (yG) ?_
 refine Zk hn rfl (zCT) ?_
 refine Zk hn rfl ((by have h:=zEi threeD yB (by decide) (by decide) toldT; rw [t_has] at h; exact h)) ?_
 refine Zt 7 [] hn rfl ?_
 refine Zv (Zu ?_)
 refine Zk hn rfl (yG) ?_
 refine stepW (s_callE (zBn threeD yB (by decide) (by decide) 0 true) rfl rfl rfl (nb hn rfl) (.d rfl) rfl (.refl _) trivial (fun _=>rfl) (fun _ _=>trivial)) fun ⟨xx,hxx⟩=>?_
 obtain ⟨tt,rfl,hpt⟩:=t_show hxx
 refine Zt 3 [] hn rfl ?_
 refine Zb 12 hn rfl fun b12=>?_
 refine Zt 2 [12] hn rfl ?_
 refine Zv (zB ?_)
 refine zo (W:=fun b=>b ≠ b12) fmo ?_
 refine d1q (i:=0) rfl (by as_aux_lemma=>kernel_rfl) (fun _ _ _ _ h=>h) rfl rfl hn rfl (zh rfl rfl) ?_
 refine d1q (i:=1) rfl (by as_aux_lemma=>kernel_rfl) (fun _ _ _ _ h=>h) rfl rfl hn rfl (yR (tv':=.d (.bool true)) (zAi rfl rfl rfl) rfl) ?_
 refine d1q (i:=2) rfl (by as_aux_lemma=>kernel_rfl) (fun _ _ _ _ h=>h) rfl rfl hn rfl (zh rfl rfl) ?_
 refine d1g (i:=3) [] rfl (by as_aux_lemma=>kernel_rfl) (fun _ _ _ _ h=>h) (zJ rfl rfl rfl) rfl hn rfl (fun hc=>trivial) (fun hc=>zh rfl rfl) ?_
 refine zD ?_
 refine y2 (i:=4) (by as_aux_lemma=>kernel_rfl) rfl (zBF (zJ rfl rfl rfl) rfl (nb hn rfl) (zO rfl rfl rfl (nb hn rfl) underlying29 sz3 zr3 rfl rfl rfl (show _ = [.d (.int .i64 0),.d (.int .i64 0)] from by kernel_rfl) (by kernel_rfl) rfl rfl rfl rfl rfl)) fun _=>?_
 refine d2_of_d1 (zD ?_)
 refine y2 (i:=5) (by as_aux_lemma=>kernel_rfl) rfl (s_call [(50,_),(51,_)] (fun hc=>zAj [0,1] [0,1]) rfl (zJ rfl rfl rfl) rfl (nb hn rfl) (fun hc=>⟨⟨_,rfl,hc⟩,⟨_,rfl,hc⟩,trivial⟩) rfl rfl (.refl _)) fun _=>?_
 refine d2_of_d1 ?_
 refine d1q (i:=6) rfl (by as_aux_lemma=>kernel_rfl) (fun _ _ _ _ h=>h) rfl rfl hn rfl (yR (tv':=.d (.bool true)) (y0 rfl rfl rfl (by intro hB; first | (rw [hB]; rfl) | (rw [hB,hc]; rfl) | simp_all)) rfl) ?_
 refine d1q (i:=7) rfl (by as_aux_lemma=>kernel_rfl) (fun _ _ _ _ h=>h) rfl rfl hn rfl (zh rfl rfl) ?_
 refine d1g (i:=8) [] rfl (by as_aux_lemma=>kernel_rfl) (fun _ _ _ _ h=>h) (zJ rfl rfl rfl) rfl hn rfl (fun hc=>trivial) (fun hc=>zh rfl rfl) ?_
 refine d1g (i:=9) [(55,_)] rfl (by as_aux_lemma=>kernel_rfl) (fun _ _ _ _ h=>h) (zJ rfl rfl rfl) rfl hn rfl (fun hc=>⟨⟨_,rfl,hc⟩,trivial⟩) (fun hc=>yR (tv':=.d (.bool true)) (zAi rfl rfl rfl) rfl) ?_
 refine d1q (i:=10) rfl (by as_aux_lemma=>kernel_rfl) (fun _ _ _ _ h=>h) rfl rfl hn rfl (yR (tv':=.d (.bool true)) (y0 rfl rfl rfl (by intro hB; first | (rw [hB]; rfl) | (rw [hB,hc]; rfl) | simp_all)) rfl) ?_
 refine d1q (i:=11) rfl (by as_aux_lemma=>kernel_rfl) (fun _ _ _ _ h=>h) rfl rfl hn rfl (zh rfl rfl) ?_
 refine d1g (i:=12) [] rfl (by as_aux_lemma=>kernel_rfl) (fun _ _ _ _ h=>h) (zJ rfl rfl rfl) rfl hn rfl (fun hc=>trivial) (fun hc=>zh rfl rfl) ?_
 refine d1g (i:=13) [(59,_)] rfl (by as_aux_lemma=>kernel_rfl) (fun _ _ _ _ h=>h) (zJ rfl rfl rfl) rfl hn rfl (fun hc=>⟨⟨_,rfl,hc⟩,trivial⟩) (fun hc=>zFe rfl rfl underlying46) ?_
 refine d1g (i:=14) [(60,_)] rfl (by as_aux_lemma=>kernel_rfl) (fun _ _ _ _ h=>h) (zJ rfl rfl rfl) rfl hn rfl (fun hc=>⟨⟨_,rfl,hc⟩,trivial⟩) (fun hc=>yR (tv':=.d (.bool true)) (zAi rfl rfl rfl) rfl) ?_
 refine d1q (i:=15) rfl (by as_aux_lemma=>kernel_rfl) (fun _ _ _ _ h=>h) rfl rfl hn rfl (yR (tv':=.d (.bool true)) (y0 rfl rfl rfl (by intro hB; first | (rw [hB]; rfl) | (rw [hB,hc]; rfl) | simp_all)) rfl) ?_
 refine d1q (i:=16) rfl (by as_aux_lemma=>kernel_rfl) (fun _ _ _ _ h=>h) rfl rfl hn rfl (zh rfl rfl) ?_
 refine d1g (i:=17) [] rfl (by as_aux_lemma=>kernel_rfl) (fun _ _ _ _ h=>h) (zJ rfl rfl rfl) rfl hn rfl (fun hc=>trivial) (fun hc=>zh rfl rfl) ?_
 refine d1g (i:=18) [(64,_)] rfl (by as_aux_lemma=>kernel_rfl) (fun _ _ _ _ h=>h) (zJ rfl rfl rfl) rfl hn rfl (fun hc=>⟨⟨_,rfl,hc⟩,trivial⟩) (fun hc=>q_index (i:=0) rfl rfl rfl underlying46 sz66 rfl rfl) ?_
 refine d1g (i:=19) [(65,_)] rfl (by as_aux_lemma=>kernel_rfl) (fun _ _ _ _ h=>h) (zJ rfl rfl rfl) rfl hn rfl (fun hc=>⟨⟨_,rfl,hc⟩,trivial⟩) (fun hc=>yQ rfl rfl underlying66 rfl sz66 rfl rfl seesFA) ?_
 refine zD ?_
 refine y2 (i:=20) (by as_aux_lemma=>kernel_rfl) rfl (s_call [] (fun hc=>yO _ _) rfl (zJ rfl rfl rfl) rfl (nb hn rfl) (fun hc=>trivial) rfl rfl (.refl _)) fun _=>?_
 refine d2_of_d1 ?_
 refine d1g (i:=21) [(66,_),(67,_)] rfl (by as_aux_lemma=>kernel_rfl) (fun _ _ _ _ h=>h) (zJ rfl rfl rfl) rfl hn rfl (fun hc=>⟨⟨_,rfl,hc⟩,⟨_,rfl,hc⟩,trivial⟩) (fun hc=>yR (tv':=.d (.bool true)) (zDE rfl rfl rfl) rfl) ?_
 refine d1q (i:=22) rfl (by as_aux_lemma=>kernel_rfl) (fun _ _ _ _ h=>h) rfl rfl hn rfl (yR (tv':=.d (.bool true)) (y0 rfl rfl rfl (by intro hB; first | (rw [hB]; rfl) | (rw [hB,hc]; rfl) | simp_all)) rfl) ?_
 refine d1q (i:=23) rfl (by as_aux_lemma=>kernel_rfl) (fun _ _ _ _ h=>h) rfl rfl hn rfl (zh rfl rfl) ?_
 refine d1g (i:=24) [] rfl (by as_aux_lemma=>kernel_rfl) (fun _ _ _ _ h=>h) (zJ rfl rfl rfl) rfl hn rfl (fun hc=>trivial) (fun hc=>zh rfl rfl) ?_
 refine d1g (i:=25) [(71,_)] rfl (by as_aux_lemma=>kernel_rfl) (fun _ _ _ _ h=>h) (zJ rfl rfl rfl) rfl hn rfl (fun hc=>⟨⟨_,rfl,hc⟩,trivial⟩) (fun hc=>q_index (i:=1) rfl rfl rfl underlying46 sz66 rfl rfl) ?_
 refine d1g (i:=26) [(72,_)] rfl (by as_aux_lemma=>kernel_rfl) (fun _ _ _ _ h=>h) (zJ rfl rfl rfl) rfl hn rfl (fun hc=>⟨⟨_,rfl,hc⟩,trivial⟩) (fun hc=>yQ rfl rfl underlying66 rfl sz66 rfl rfl seesFA) ?_
 refine zD ?_
 refine y2 (i:=27) (by as_aux_lemma=>kernel_rfl) rfl (s_call [] (fun hc=>yO _ _) rfl (zJ rfl rfl rfl) rfl (nb hn rfl) (fun hc=>trivial) rfl rfl (.refl _)) fun _=>?_
 refine d2_of_d1 ?_
 refine d1g (i:=28) [(73,_),(74,_)] rfl (by as_aux_lemma=>kernel_rfl) (fun _ _ _ _ h=>h) (zJ rfl rfl rfl) rfl hn rfl (fun hc=>⟨⟨_,rfl,hc⟩,⟨_,rfl,hc⟩,trivial⟩) (fun hc=>yR (tv':=.d (.bool true)) (zDE rfl rfl rfl) rfl) ?_
 refine d1q (i:=29) rfl (by as_aux_lemma=>kernel_rfl) (fun _ _ _ _ h=>h) rfl rfl hn rfl (yR (tv':=.d (.bool true)) (y0 rfl rfl rfl (by intro hB; first | (rw [hB]; rfl) | (rw [hB,hc]; rfl) | simp_all)) rfl) ?_
 refine d1q (i:=30) rfl (by as_aux_lemma=>kernel_rfl) (fun _ _ _ _ h=>h) rfl rfl hn rfl (zh rfl rfl) ?_
 refine d1g (i:=31) [] rfl (by as_aux_lemma=>kernel_rfl) (fun _ _ _ _ h=>h) (zJ rfl rfl rfl) rfl hn rfl (fun hc=>trivial) (fun hc=>zh rfl rfl) ?_
 refine d1g (i:=32) [(78,_)] rfl (by as_aux_lemma=>kernel_rfl) (fun _ _ _ _ h=>h) (zJ rfl rfl rfl) rfl hn rfl (fun hc=>⟨⟨_,rfl,hc⟩,trivial⟩) (fun hc=>q_index (i:=2) rfl rfl rfl underlying46 sz66 rfl rfl) ?_
 refine d1g (i:=33) [(79,_)] rfl (by as_aux_lemma=>kernel_rfl) (fun _ _ _ _ h=>h) (zJ rfl rfl rfl) rfl hn rfl (fun hc=>⟨⟨_,rfl,hc⟩,trivial⟩) (fun hc=>yQ rfl rfl underlying66 rfl sz66 rfl rfl seesFA) ?_
 refine zD ?_
 refine y2 (i:=34) (by as_aux_lemma=>kernel_rfl) rfl (s_call [] (fun hc=>yO _ _) rfl (zJ rfl rfl rfl) rfl (nb hn rfl) (fun hc=>trivial) rfl rfl (.refl _)) fun _=>?_
 refine d2_of_d1 ?_
 refine d1g (i:=35) [(80,_),(81,_)] rfl (by as_aux_lemma=>kernel_rfl) (fun _ _ _ _ h=>h) (zJ rfl rfl rfl) rfl hn rfl (fun hc=>⟨⟨_,rfl,hc⟩,⟨_,rfl,hc⟩,trivial⟩) (fun hc=>yR (tv':=.d (.bool true)) (zDE rfl rfl rfl) rfl) ?_
 refine d1q (i:=36) rfl (by as_aux_lemma=>kernel_rfl) (fun _ _ _ _ h=>h) rfl rfl hn rfl (yR (tv':=.d (.bool true)) (y0 rfl rfl rfl (by intro hB; first | (rw [hB]; rfl) | (rw [hB,hc]; rfl) | simp_all)) rfl) ?_
 refine d1q (i:=37) rfl (by as_aux_lemma=>kernel_rfl) (fun _ _ _ _ h=>h) rfl rfl hn rfl (zh rfl rfl) ?_
 refine d1g (i:=38) [] rfl (by as_aux_lemma=>kernel_rfl) (fun _ _ _ _ h=>h) (zJ rfl rfl rfl) rfl hn rfl (fun hc=>trivial) (fun hc=>zh rfl rfl) ?_
 refine d1g (i:=39) [(85,_)] rfl (by as_aux_lemma=>kernel_rfl) (fun _ _ _ _ h=>h) (zJ rfl rfl rfl) rfl hn rfl (fun hc=>⟨⟨_,rfl,hc⟩,trivial⟩) (fun hc=>yR (tv':=.d (.bool true)) (zAi rfl rfl rfl) rfl) ?_
 refine d1q (i:=40) rfl (by as_aux_lemma=>kernel_rfl) (fun _ _ _ _ h=>h) rfl rfl hn rfl (yR (tv':=.d (.bool true)) (y0 rfl rfl rfl (by intro hB; first | (rw [hB]; rfl) | (rw [hB,hc]; rfl) | simp_all)) rfl) ?_
 refine d1q (i:=41) rfl (by as_aux_lemma=>kernel_rfl) (fun _ _ _ _ h=>h) rfl rfl hn rfl (zh rfl rfl) ?_
 refine d1g (i:=42) [] rfl (by as_aux_lemma=>kernel_rfl) (fun _ _ _ _ h=>h) (zJ rfl rfl rfl) rfl hn rfl (fun hc=>trivial) (fun hc=>zh rfl rfl) ?_
 refine zD ?_
 refine y2 (i:=43) (by as_aux_lemma=>kernel_rfl) rfl (zBF (zJ rfl rfl rfl) rfl (nb hn rfl) (zO rfl rfl rfl (nb hn rfl) underlying29 sz3 zr3 rfl rfl rfl (show _ = [.d (.int .i64 0),.d (.int .i64 0),.d (.int .i64 0)] from by kernel_rfl) (by kernel_rfl) rfl rfl rfl rfl rfl)) fun _=>?_
 refine d2_of_d1 (zD ?_)
 refine y2 (i:=44) (by as_aux_lemma=>kernel_rfl) rfl (s_call [(89,_),(90,_)] (fun hc=>zAj [3,3,3] [3,3,3]) rfl (zJ rfl rfl rfl) rfl (nb hn rfl) (fun hc=>⟨⟨_,rfl,hc⟩,⟨_,rfl,hc⟩,trivial⟩) rfl rfl (.refl _)) fun _=>?_
 refine d2_of_d1 ?_
 refine d1q (i:=45) rfl (by as_aux_lemma=>kernel_rfl) (fun _ _ _ _ h=>h) rfl rfl hn rfl (yR (tv':=.d (.bool true)) (y0 rfl rfl rfl (by intro hB; first | (rw [hB]; rfl) | (rw [hB,hc]; rfl) | simp_all)) rfl) ?_
 refine d1q (i:=46) rfl (by as_aux_lemma=>kernel_rfl) (fun _ _ _ _ h=>h) rfl rfl hn rfl (zh rfl rfl) ?_
 refine d1g (i:=47) [] rfl (by as_aux_lemma=>kernel_rfl) (fun _ _ _ _ h=>h) (zJ rfl rfl rfl) rfl hn rfl (fun hc=>trivial) (fun hc=>zh rfl rfl) ?_
 refine d1g (i:=48) [(94,_)] rfl (by as_aux_lemma=>kernel_rfl) (fun _ _ _ _ h=>h) (zJ rfl rfl rfl) rfl hn rfl (fun hc=>⟨⟨_,rfl,hc⟩,trivial⟩) (fun hc=>yR (tv':=.d (.bool true)) (zAi rfl rfl rfl) rfl) ?_
 refine d1q (i:=49) rfl (by as_aux_lemma=>kernel_rfl) (fun _ _ _ _ h=>h) rfl rfl hn rfl (yR (tv':=.d (.bool true)) (y0 rfl rfl rfl (by intro hB; first | (rw [hB]; rfl) | (rw [hB,hc]; rfl) | simp_all)) rfl) ?_
 refine d1q (i:=50) rfl (by as_aux_lemma=>kernel_rfl) (fun _ _ _ _ h=>h) rfl rfl hn rfl (zh rfl rfl) ?_
 refine d1g (i:=51) [] rfl (by as_aux_lemma=>kernel_rfl) (fun _ _ _ _ h=>h) (zJ rfl rfl rfl) rfl hn rfl (fun hc=>trivial) (fun hc=>zh rfl rfl) ?_
 refine d1g (i:=52) [(98,_)] rfl (by as_aux_lemma=>kernel_rfl) (fun _ _ _ _ h=>h) (zJ rfl rfl rfl) rfl hn rfl (fun hc=>⟨⟨_,rfl,hc⟩,trivial⟩) (fun hc=>zFe rfl rfl underlying53) ?_
 refine d1g (i:=53) [(99,_)] rfl (by as_aux_lemma=>kernel_rfl) (fun _ _ _ _ h=>h) (zJ rfl rfl rfl) rfl hn rfl (fun hc=>⟨⟨_,rfl,hc⟩,trivial⟩) (fun hc=>yR (tv':=.d (.bool true)) (zAi rfl rfl rfl) rfl) ?_
 refine d1q (i:=54) rfl (by as_aux_lemma=>kernel_rfl) (fun _ _ _ _ h=>h) rfl rfl hn rfl (yR (tv':=.d (.bool true)) (y0 rfl rfl rfl (by intro hB; first | (rw [hB]; rfl) | (rw [hB,hc]; rfl) | simp_all)) rfl) ?_
 refine d1q (i:=55) rfl (by as_aux_lemma=>kernel_rfl) (fun _ _ _ _ h=>h) rfl rfl hn rfl (zh rfl rfl) ?_
 refine d1g (i:=56) [] rfl (by as_aux_lemma=>kernel_rfl) (fun _ _ _ _ h=>h) (zJ rfl rfl rfl) rfl hn rfl (fun hc=>trivial) (fun hc=>zh rfl rfl) ?_
 refine d1g (i:=57) [(103,_)] rfl (by as_aux_lemma=>kernel_rfl) (fun _ _ _ _ h=>h) (zJ rfl rfl rfl) rfl hn rfl (fun hc=>⟨⟨_,rfl,hc⟩,trivial⟩) (fun hc=>q_index (i:=0) rfl rfl rfl underlying53 sz68 rfl rfl) ?_
 refine d1g (i:=58) [(104,_)] rfl (by as_aux_lemma=>kernel_rfl) (fun _ _ _ _ h=>h) (zJ rfl rfl rfl) rfl hn rfl (fun hc=>⟨⟨_,rfl,hc⟩,trivial⟩) (fun hc=>yQ rfl rfl underlying68 rfl sz68 rfl rfl seesFA) ?_
 refine d1g (i:=59) [] rfl (by as_aux_lemma=>kernel_rfl) (fun _ _ _ _ h=>h) (zJ rfl rfl rfl) rfl hn rfl (fun hc=>trivial) (fun hc=>yl rfl bt68 rfl rfl rfl rfl rfl) ?_
 refine d1g (i:=60) [(105,_),(106,_)] rfl (by as_aux_lemma=>kernel_rfl) (fun _ _ _ _ h=>h) (zJ rfl rfl rfl) rfl hn rfl (fun hc=>⟨⟨_,rfl,hc⟩,⟨_,rfl,hc⟩,trivial⟩) (fun hc=>yR (tv':=.d (.bool true)) (zDI rfl rfl rfl) rfl) ?_
 refine d1q (i:=61) rfl (by as_aux_lemma=>kernel_rfl) (fun _ _ _ _ h=>h) rfl rfl hn rfl (yR (tv':=.d (.bool true)) (y0 rfl rfl rfl (by intro hB; first | (rw [hB]; rfl) | (rw [hB,hc]; rfl) | simp_all)) rfl) ?_
 refine d1q (i:=62) rfl (by as_aux_lemma=>kernel_rfl) (fun _ _ _ _ h=>h) rfl rfl hn rfl (zh rfl rfl) ?_
 refine d1g (i:=63) [] rfl (by as_aux_lemma=>kernel_rfl) (fun _ _ _ _ h=>h) (zJ rfl rfl rfl) rfl hn rfl (fun hc=>trivial) (fun hc=>zh rfl rfl) ?_
 refine d1g (i:=64) [(110,_)] rfl (by as_aux_lemma=>kernel_rfl) (fun _ _ _ _ h=>h) (zJ rfl rfl rfl) rfl hn rfl (fun hc=>⟨⟨_,rfl,hc⟩,trivial⟩) (fun hc=>q_index (i:=1) rfl rfl rfl underlying53 sz68 rfl rfl) ?_
 refine d1g (i:=65) [(111,_)] rfl (by as_aux_lemma=>kernel_rfl) (fun _ _ _ _ h=>h) (zJ rfl rfl rfl) rfl hn rfl (fun hc=>⟨⟨_,rfl,hc⟩,trivial⟩) (fun hc=>yQ rfl rfl underlying68 rfl sz68 rfl rfl seesFA) ?_
 refine d1g (i:=66) [] rfl (by as_aux_lemma=>kernel_rfl) (fun _ _ _ _ h=>h) (zJ rfl rfl rfl) rfl hn rfl (fun hc=>trivial) (fun hc=>yl rfl bt68 rfl rfl rfl rfl rfl) ?_
 refine d1g (i:=67) [(112,_),(113,_)] rfl (by as_aux_lemma=>kernel_rfl) (fun _ _ _ _ h=>h) (zJ rfl rfl rfl) rfl hn rfl (fun hc=>⟨⟨_,rfl,hc⟩,⟨_,rfl,hc⟩,trivial⟩) (fun hc=>yR (tv':=.d (.bool true)) (zDI rfl rfl rfl) rfl) ?_
 refine d1q (i:=68) rfl (by as_aux_lemma=>kernel_rfl) (fun _ _ _ _ h=>h) rfl rfl hn rfl (yR (tv':=.d (.bool true)) (y0 rfl rfl rfl (by intro hB; first | (rw [hB]; rfl) | (rw [hB,hc]; rfl) | simp_all)) rfl) ?_
 refine d1q (i:=69) rfl (by as_aux_lemma=>kernel_rfl) (fun _ _ _ _ h=>h) rfl rfl hn rfl (zh rfl rfl) ?_
 refine d1g (i:=70) [] rfl (by as_aux_lemma=>kernel_rfl) (fun _ _ _ _ h=>h) (zJ rfl rfl rfl) rfl hn rfl (fun hc=>trivial) (fun hc=>zh rfl rfl) ?_
 refine d1g (i:=71) [(117,_)] rfl (by as_aux_lemma=>kernel_rfl) (fun _ _ _ _ h=>h) (zJ rfl rfl rfl) rfl hn rfl (fun hc=>⟨⟨_,rfl,hc⟩,trivial⟩) (fun hc=>q_index (i:=2) rfl rfl rfl underlying53 sz68 rfl rfl) ?_
 refine d1g (i:=72) [(118,_)] rfl (by as_aux_lemma=>kernel_rfl) (fun _ _ _ _ h=>h) (zJ rfl rfl rfl) rfl hn rfl (fun hc=>⟨⟨_,rfl,hc⟩,trivial⟩) (fun hc=>yQ rfl rfl underlying68 rfl sz68 rfl rfl seesFA) ?_
 refine d1g (i:=73) [] rfl (by as_aux_lemma=>kernel_rfl) (fun _ _ _ _ h=>h) (zJ rfl rfl rfl) rfl hn rfl (fun hc=>trivial) (fun hc=>yl rfl bt68 rfl rfl rfl rfl rfl) ?_
 refine d1g (i:=74) [(119,_),(120,_)] rfl (by as_aux_lemma=>kernel_rfl) (fun _ _ _ _ h=>h) (zJ rfl rfl rfl) rfl hn rfl (fun hc=>⟨⟨_,rfl,hc⟩,⟨_,rfl,hc⟩,trivial⟩) (fun hc=>yR (tv':=.d (.bool true)) (zDI rfl rfl rfl) rfl) ?_
 refine d1q (i:=75) rfl (by as_aux_lemma=>kernel_rfl) (fun _ _ _ _ h=>h) rfl rfl hn rfl (yR (tv':=.d (.bool true)) (y0 rfl rfl rfl (by intro hB; first | (rw [hB]; rfl) | (rw [hB,hc]; rfl) | simp_all)) rfl) ?_
 refine d1q (i:=76) rfl (by as_aux_lemma=>kernel_rfl) (fun _ _ _ _ h=>h) rfl rfl hn rfl (zh rfl rfl) ?_
 refine d1g (i:=77) [] rfl (by as_aux_lemma=>kernel_rfl) (fun _ _ _ _ h=>h) (zJ rfl rfl rfl) rfl hn rfl (fun hc=>trivial) (fun hc=>zh rfl rfl) ?_
 refine d1g (i:=78) [(124,_)] rfl (by as_aux_lemma=>kernel_rfl) (fun _ _ _ _ h=>h) (zJ rfl rfl rfl) rfl hn rfl (fun hc=>⟨⟨_,rfl,hc⟩,trivial⟩) (fun hc=>yR (tv':=.d (.bool true)) (zAi rfl rfl rfl) rfl) ?_
 refine d1q (i:=79) rfl (by as_aux_lemma=>kernel_rfl) (fun _ _ _ _ h=>h) rfl rfl hn rfl (yR (tv':=.d (.bool true)) (y0 rfl rfl rfl (by intro hB; first | (rw [hB]; rfl) | (rw [hB,hc]; rfl) | simp_all)) rfl) ?_
 refine d1q (i:=80) rfl (by as_aux_lemma=>kernel_rfl) (fun _ _ _ _ h=>h) rfl rfl hn rfl (zh rfl rfl) ?_
 refine d1g (i:=81) [] rfl (by as_aux_lemma=>kernel_rfl) (fun _ _ _ _ h=>h) (zJ rfl rfl rfl) rfl hn rfl (fun hc=>trivial) (fun hc=>zh rfl rfl) ?_
 refine zD ?_
 refine y2 (i:=82) (by as_aux_lemma=>kernel_rfl) rfl (zBF (zJ rfl rfl rfl) rfl (nb hn rfl) (zO rfl rfl rfl (nb hn rfl) underlying29 sz3 zr3 rfl rfl rfl (show _ = [.d (.int .i64 0),.d (.int .i64 0)] from by kernel_rfl) (by kernel_rfl) rfl rfl rfl rfl rfl)) fun _=>?_
 refine d2_of_d1 (zD ?_)
 refine y2 (i:=83) (by as_aux_lemma=>kernel_rfl) rfl (s_call [(128,_),(129,_)] (fun hc=>zAj [10,0] [10,0]) rfl (zJ rfl rfl rfl) rfl (nb hn rfl) (fun hc=>⟨⟨_,rfl,hc⟩,⟨_,rfl,hc⟩,trivial⟩) rfl rfl (.refl _)) fun _=>?_
 refine d2_of_d1 ?_
 refine d1q (i:=84) rfl (by as_aux_lemma=>kernel_rfl) (fun _ _ _ _ h=>h) rfl rfl hn rfl (yR (tv':=.d (.bool true)) (y0 rfl rfl rfl (by intro hB; first | (rw [hB]; rfl) | (rw [hB,hc]; rfl) | simp_all)) rfl) ?_
 refine d1q (i:=85) rfl (by as_aux_lemma=>kernel_rfl) (fun _ _ _ _ h=>h) rfl rfl hn rfl (zh rfl rfl) ?_
 refine d1g (i:=86) [] rfl (by as_aux_lemma=>kernel_rfl) (fun _ _ _ _ h=>h) (zJ rfl rfl rfl) rfl hn rfl (fun hc=>trivial) (fun hc=>zh rfl rfl) ?_
 refine d1g (i:=87) [(133,_)] rfl (by as_aux_lemma=>kernel_rfl) (fun _ _ _ _ h=>h) (zJ rfl rfl rfl) rfl hn rfl (fun hc=>⟨⟨_,rfl,hc⟩,trivial⟩) (fun hc=>yR (tv':=.d (.bool true)) (zAi rfl rfl rfl) rfl) ?_
 refine d1q (i:=88) rfl (by as_aux_lemma=>kernel_rfl) (fun _ _ _ _ h=>h) rfl rfl hn rfl (yR (tv':=.d (.bool true)) (y0 rfl rfl rfl (by intro hB; first | (rw [hB]; rfl) | (rw [hB,hc]; rfl) | simp_all)) rfl) ?_
 refine d1q (i:=89) rfl (by as_aux_lemma=>kernel_rfl) (fun _ _ _ _ h=>h) rfl rfl hn rfl (zh rfl rfl) ?_
 refine d1g (i:=90) [] rfl (by as_aux_lemma=>kernel_rfl) (fun _ _ _ _ h=>h) (zJ rfl rfl rfl) rfl hn rfl (fun hc=>trivial) (fun hc=>zh rfl rfl) ?_
 refine d1g (i:=91) [(137,_)] rfl (by as_aux_lemma=>kernel_rfl) (fun _ _ _ _ h=>h) (zJ rfl rfl rfl) rfl hn rfl (fun hc=>⟨⟨_,rfl,hc⟩,trivial⟩) (fun hc=>yR (tv':=.d (.bool true)) (zAi rfl rfl rfl) rfl) ?_
 refine d1q (i:=92) rfl (by as_aux_lemma=>kernel_rfl) (fun _ _ _ _ h=>h) rfl rfl hn rfl (yR (tv':=.d (.bool true)) (y0 rfl rfl rfl (by intro hB; first | (rw [hB]; rfl) | (rw [hB,hc]; rfl) | simp_all)) rfl) ?_
 refine d1q (i:=93) rfl (by as_aux_lemma=>kernel_rfl) (fun _ _ _ _ h=>h) rfl rfl hn rfl (zh rfl rfl) ?_
 refine d1g (i:=95) [] rfl (by as_aux_lemma=>kernel_rfl) (fun _ _ _ _ h=>h) (zJ rfl rfl rfl) rfl hn rfl (fun hc=>trivial) (fun hc=>zf rfl rfl (id:=12) rfl underlying56 rfl sz56 rfl rfl (seesA (by simp))) ?_
 refine zD ?_
 refine y2 (i:=94) (by as_aux_lemma=>kernel_rfl) rfl (s_call [] (fun hc=>yG) rfl (zJ rfl rfl rfl) rfl (nb hn rfl) (fun hc=>trivial) rfl rfl (.refl _)) fun _=>?_
 refine d2_of_d1 (zD ?_)
 refine y2 (i:=96) (by as_aux_lemma=>kernel_rfl) rfl (s_call [(141,_),(142,_)] (fun hc=>(by have h:=zCs threeD yB (by decide) (by decide) tt; rw [hpt] at h; exact h)) rfl (zJ rfl rfl rfl) rfl (nb hn rfl) (fun hc=>⟨⟨_,rfl,hc⟩,⟨_,rfl,hc⟩,trivial⟩) rfl rfl (.refl _)) fun _=>?_
 refine d2_of_d1 ?_
 refine d1q (i:=97) rfl (by as_aux_lemma=>kernel_rfl) (fun _ _ _ _ h=>h) rfl rfl hn rfl (yR (tv':=.d (.bool true)) (y0 rfl rfl rfl (by intro hB; first | (rw [hB]; rfl) | (rw [hB,hc]; rfl) | simp_all)) rfl) ?_
 refine d1q (i:=98) rfl (by as_aux_lemma=>kernel_rfl) (fun _ _ _ _ h=>h) rfl rfl hn rfl (zBK rfl rfl) ?_
 refine zD ?_
 refine zl (by as_aux_lemma=>kernel_rfl) ?_
 refine zA (zI ?_)
 exact ret_E (.inl rfl) () ((zu rfl (.tmp rfl)).eq (by rfl)) trivial
theorem awake4_ok:PureAt Tryz.prog 45 [] (.bool true):=PureAt.of_eff (ds:=[]) awake4_eff
end Go.Proofs.YticlpkgpmmhemaaGreatDoor
namespace Go.Proofs.YticlpkgpmmhemaaGreatDoor
open Go.RowKit
set_option linter.all false
/-- What the program answers about a desk with a truth. -/
structure TldF (x:Dsk) (t:Tru) (l:List Prt) (mm:List (Int × Int)) (fs bs:List (Int × Int)) (vs:List Int):Prop where
  S:SurH x l mm
  T:TruW x l t
  hl:(readI x.b x.tape).1 = l
  p:playI x t = (fs,0)
  b:boundsI x = (bs,0)
  v:verdsI x = (vs,0)
  fl:fs.length = x.orders.length
  bl:bs.length = x.orders.length
  vl:vs.length = x.orders.length
  pv:(deskI x == 0 && truthW x (readI x.b x.tape).1 t) = true
  su:∀ j:Nat,j < x.orders.length → sureO x [(j:Int)] = 0
  at_:∀ j o,x.orders[j]? = some o → fs[j]? = some (fillGo x.fee o (t.orders.getD j 0) t.prices t.minutes 0 l) ∧ bs[j]? = some (bndI x.b l x.fee o mm).1 ∧ vs[j]? = some (verdI x.b l x.fee o mm) ∧ salesI x (j:Nat) = (salesO x.b l x.fee o mm,0)
def ordT (l:List Ord):List TV:=(l.map ordE).flatten.map .d
theorem zC6 {l:List Ord}:∀ c ∈ l.map ordE,c.length = 6:=fun c hc=>by obtain ⟨x,_,rfl⟩:=List.mem_map.1 hc; rfl
theorem zEB {k:Nat}:∀ {rows:List (List D)},(∀ r ∈ rows,r.length = k) → rows.flatten.length = rows.length * k
  | [],_=>by simp
  | r :: rows,h=>by
    rw [List.flatten_cons,List.length_append,zEB (rows:=rows) fun x hx=>h x (List.mem_cons_of_mem _ hx),h r (List.mem_cons_self ..),List.length_cons,Nat.succ_mul]; omega
theorem zBx {k:Nat}:∀ {rows:List (List D)},(∀ r ∈ rows,r.length = k) → chunk k rows.length rows.flatten = rows
  | [],_=>rfl
  | r :: rows,h=>by
    have hr:=h r (List.mem_cons_self ..)
    rw [List.length_cons,chunk,List.flatten_cons,List.take_append_of_le_length (by omega),List.take_of_length_le (by omega),List.drop_append_of_le_length (by omega),List.drop_of_length_le (by omega),List.nil_append,zBx fun x hx=>h x (List.mem_cons_of_mem _ hx)]
@[reducible] def wideO (o:Ord) (a c:Int):Ord:=⟨o.buy,o.stock,o.number,o.limit,max 0 (o.mlo - a),min 600 (o.mhi + c)⟩
structure WideF (b:Brd) (l:List Prt) (fee:Int) (o:Ord) (mm:List (Int × Int)) (a c:Int):Prop where
  sub:∀ i:Nat,(salesO b l fee o mm)[i]? = none ∨ ∃ k:Int,(salesO b l fee o mm)[i]? = some k ∧ ((salesO b l fee (wideO o a c) mm).any fun x=>x == k) = true
  bd:verdI b l fee o mm ≠ 2 → (bndI b l fee (wideO o a c) mm).1.1 ≤ (bndI b l fee o mm).1.1 ∧ (bndI b l fee o mm).1.2 ≤ (bndI b l fee (wideO o a c) mm).1.2
  op:verdI b l fee o mm = 3 → verdI b l fee (wideO o a c) mm = 3
end Go.Proofs.YticlpkgpmmhemaaGreatDoor
namespace Go.Proofs.YticlpkgpmmhemaaGreatDoor
open Go.Proofs.Tryz
open Go.RowKit
set_option maxRecDepth 20000
set_option linter.all false
set_option maxHeartbeats 4000000
section
variable {Γ:Cx} {P:Program} {σ:St} {fn:Func}
theorem zAr {t b off id n : Nat} {ty bt : TypeId} {cs seg : List TV} {desc : TypeDesc} (h : fn.results = #[.cell t ty]) (ht : σ.get t = some (true, .val (.pointer (some ⟨b, off, none⟩)))) (hr : σ.rget id = some (.box b bt cs))
    (hu:P.underlying ty = some desc) (hd:rowD desc = true) (hz:Sz P ty n) (hc:(cs.drop off).take n = seg) (hn:seg.length = n):Hands Γ P fn σ (.agg seg):=fun a w F hs=>by
  have h1:=(hs.tm _ true _ ht).1 rfl
  simp only [TRep] at h1
  obtain ⟨_,_,vs,hh,hvs,hone⟩:=hs.rs _ _ hr
  have hseg:TReps F w seg ((vs.drop off).take n):=by rw [← hc]; exact (hvs.drop off).take n
  have hlen:=hseg.length
  have hl:=yt (P:=P) (w:=w) (b:=b) (o:=off) (vs:=(vs.drop off).take n) hu hd (by rw [hlen,hn]; exact hz) (fun j v hv=>by
    have:vs[off + j]? = some v:=by
      rw [List.getElem?_take] at hv
      split at hv
      · rwa [List.getElem?_drop] at hv
      · cases hv
    exact (y6 hh).trans this)
  have hone1:(resOne a.tmps (.cell t ty)).run P w = .ok (.agg ((vs.drop off).take n).toArray) w:=by simp only [resOne,h1,asAddr,Sem.run_bind,Sem.run_pure,Result.andThen_ok,hl]
  exact ⟨.agg ((vs.drop off).take n).toArray,by rw [yd h]; simp [hone1],_,rfl,hseg,fun u hu=>hone u (List.mem_of_mem_drop (List.mem_of_mem_take hu))⟩
end
theorem nofl {l:List Ord} {n:Nat} (h:l.length = n):((l.map ordE).flatten).length = n * 6:=by
  rw [zEB zC6,List.length_map,h]
theorem noch {l:List Ord} {n:Nat} (h:l.length = n):chunk 6 n (l.map ordE).flatten = l.map ordE:=by
  have:=zBx (k:=6) (rows:=l.map ordE) zC6
  rw [List.length_map,h] at this; exact this
def nmS:List UInt8:=[64,53,32,65,66,32,51,115,32,56,46,50,32,56,46,53,32,76,49,45,50,32,67,32,48,46,49,32,33,32,64,55,32,48,46,55,32,63]
def nmL:List Prt:=[⟨0,3,3,66,false,5,0,0⟩,⟨0,1,1,69,false,5,0,0⟩,⟨1,1,1,1,false,5,1,2⟩,⟨1,1,4,7,false,7,1,2⟩]
def nmN:List UInt8:=[65,66,32,51,46,48]
def nmE:Dsk:=⟨twoB,nmS,1,thrO⟩
def nmO:Dsk:=⟨twoB,nmN,1,thrO⟩
def nmF:Dsk:=⟨twoB,lateS,5,thrO⟩
def nmM:Dsk:=⟨twoB,lateS,1,List.replicate 6 ord0⟩
def nmK:Dsk:=⟨twoB,lateS,1,[⟨true,2,10,0,4,5⟩,⟨false,0,20,308,5,5⟩,⟨true,1,30,85,4,6⟩]⟩
def nmT:Dsk:=⟨twoB,lateS,1,[⟨true,0,10,0,4,5⟩,⟨false,0,20,309,5,5⟩,⟨true,1,30,85,4,6⟩]⟩
def nmZ:Dsk:=⟨⟨[],0,0⟩,[],0,[]⟩
def tr1:Tru:=⟨[306,308,81,87],[5,6,6,7],[5,5,6]⟩
def tr2:Tru:=⟨[306,309,81,87],[5,4,6,7],[5,5,6]⟩
def tr3:Tru:=⟨[306,309,81,87],[5,6,6,7],[5,5,7]⟩
theorem n_s1:salesI threeD 1 = ([1],0):=by
  unfold salesI
  rw [zBp [1] (by kernel_rfl),show readI threeD.b threeD.tape = (latL4,0) from yX,show minutesI threeD.b threeD.tape = (lateM,0) from yh]; kernel_rfl
theorem n_s2:salesI threeD 2 = ([2],0):=by
  unfold salesI
  rw [zBp [2] (by kernel_rfl),show readI threeD.b threeD.tape = (latL4,0) from yX,show minutesI threeD.b threeD.tape = (lateM,0) from yh]; kernel_rfl
theorem n_u3:sureO threeD [3] = 2:=by
  unfold sureO
  rw [zAg]; rfl
theorem n_s3:salesI threeD 3 = ([],2):=by
  unfold salesI
  rw [n_u3]; rfl
theorem n_pv:(deskI threeD == 0 && truthW threeD (readI threeD.b threeD.tape).1 toldT) = true:=by rw [zAg,zEj]; rfl
theorem n_p1:playI threeD tr1 = ([],2):=by
  unfold playI truthW
  rw [zAg,zAE,show readI threeD.b threeD.tape = (latL4,0) from yX]; kernel_rfl
theorem n_p2:playI threeD tr2 = ([],2):=by
  unfold playI truthW
  rw [zAg,zAE,show readI threeD.b threeD.tape = (latL4,0) from yX]; kernel_rfl
theorem n_h2:hasI threeD tr2 = ([],0,2):=by unfold hasI; rw [n_p2]; rfl
theorem n_p3:playI threeD tr3 = ([],2):=by
  unfold playI truthW
  rw [zAg,zAE,show readI threeD.b threeD.tape = (latL4,0) from yX]; kernel_rfl
theorem n_rE:readI twoB nmS = (nmL,0):=by rw [← zCF zBg]; kernel_rfl
theorem n_rO:readI twoB nmN = ([⟨0,1,1,24,false,0,0,0⟩],0):=by rw [← zCF zBg]; kernel_rfl
theorem n_dE:deskI nmE = 0:=by unfold deskI; rw [show readI nmE.b nmE.tape = (nmL,0) from n_rE]; kernel_rfl
theorem n_dO:deskI nmO = 0:=by unfold deskI; rw [show readI nmO.b nmO.tape = ([⟨0,1,1,24,false,0,0,0⟩],0) from n_rO]; kernel_rfl
theorem n_uE:sureO nmE [] = 11:=by
  unfold sureO pricesI minutesI
  rw [n_dE,show readI nmE.b nmE.tape = (nmL,0) from n_rE]; kernel_rfl
theorem n_bE:boundsI nmE = ([],11):=by unfold boundsI; rw [n_uE]; rfl
theorem zFi:sureO nmE [3] = 2:=by
  unfold sureO
  rw [n_dE]; rfl
theorem n_uO:sureO nmO [] = 11:=by
  unfold sureO pricesI minutesI
  rw [n_dO,show readI nmO.b nmO.tape = ([⟨0,1,1,24,false,0,0,0⟩],0) from n_rO]; kernel_rfl
theorem n_vO:verdsI nmO = ([],11):=by unfold verdsI; rw [n_uO]; rfl
theorem n_dT:deskI nmT = 0:=by unfold deskI; rw [show readI nmT.b nmT.tape = (latL4,0) from yX]; kernel_rfl
theorem n_uT (os:List Int) (h:(os.all fun n=>withinB n 0 ((nmT.orders.length:Int) - 1)) = true):sureO nmT os = 0:=by
  unfold sureO
  rw [n_dT,h,show (pricesI nmT.b nmT.tape).2 = 0 from zDv,show minutesI nmT.b nmT.tape = (lateM,0) from yh]; rfl
theorem n_vT:verdsI nmT = ([3,2,3],0):=by
  unfold verdsI
  rw [n_uT [] (by kernel_rfl),show readI nmT.b nmT.tape = (latL4,0) from yX,show minutesI nmT.b nmT.tape = (lateM,0) from yh]; kernel_rfl
theorem n_bT:(bndI nmT.b (readI nmT.b nmT.tape).1 nmT.fee (nmT.orders.getD (1:Int).toNat ord0) (minutesI nmT.b nmT.tape).1).2 = false:=by
  rw [show readI nmT.b nmT.tape = (latL4,0) from yX,show minutesI nmT.b nmT.tape = (lateM,0) from yh]; kernel_rfl
theorem n_shT {x:Tru × Int} (h:ShowR nmT 1 true x.1 x.2):x.2 = 2:=by
  obtain ⟨t,e⟩:=x
  change ShowR nmT 1 true t e at h
  cases h with
  | bad h1=>exact (h1 (n_uT [1] (by kernel_rfl))).elim
  | no _ h2=>rfl
  | yes _ h2=>rw [n_bT] at h2; cases h2
theorem n_shE {x:Tru × Int} (h:ShowR nmE 3 true x.1 x.2):x.2 = 2:=by
  obtain ⟨t,e⟩:=x
  change ShowR nmE 3 true t e at h
  cases h with
  | bad h1=>exact zFi
  | no h1=>exact absurd (zFi.symm.trans h1) (by decide)
  | yes h1=>exact absurd (zFi.symm.trans h1) (by decide)
theorem n_cF:deskI nmF = 1:=by unfold deskI; rw [show readI nmF.b nmF.tape = (latL4,0) from yX]; kernel_rfl
theorem n_cM:deskI nmM = 3:=by unfold deskI; rw [show readI nmM.b nmM.tape = (latL4,0) from yX]; kernel_rfl
theorem n_cK:deskI nmK = 1:=by unfold deskI; rw [show readI nmK.b nmK.tape = (latL4,0) from yX]; kernel_rfl
theorem n_cZ:deskI nmZ = 1:=by kernel_rfl
theorem yj {s:List UInt8} {f:Int} {os:List Ord}:NamesOK (⟨twoB,s,f,os⟩:Dsk).b:=yB
theorem z_names:NamesOK nmZ.b:=fun s hs=>by cases hs
theorem three_v1 :EffAt Tryz.prog 69 [] [] (X:=Nat) (fun x=>.agg [.d (stksD twoB.stocks),.d (.int .i64 10),.d (.int .i64 4),.d (strD lateS),.d (.int .i64 1),.val (.slice (some ⟨x,0,none⟩) 3 3)]) (fun x=>[(1104,.box x 152 (ordT thrO))]):=by
 refine EffAt.of_awp Tryz.func69 rfl (by kernel_rfl) rfl fun Γ hn=>?_
 refine Zu ?_
 refine Zb 0 hn rfl fun b0=>?_
 refine Zv (Zu ?_)
 refine Zt 4 [] hn rfl ?_
 refine stepW (zO rfl rfl rfl (nb hn rfl) underlying22 sz98 zr98 rfl rfl rfl (show _ = [.d (.str ⟨#[]⟩),.d (.int .i64 0),.d (.int .i64 0),.d (.str ⟨#[]⟩),.d (.int .i64 0),.d (.int .i64 0)] from by kernel_rfl) (by kernel_rfl) rfl rfl rfl rfl rfl) fun _=>?_
 refine Zt 1 [] hn rfl ?_
 refine Zk hn rfl (zCc twoB (by decide)) ?_
 refine Zk hn rfl (yO _ _) ?_
 refine Zt 1 [] hn rfl ?_
 refine Zk hn rfl (yO _ _) ?_
 refine Zt 1 [] hn rfl ?_
 refine Zk hn rfl (yO _ _) ?_
 refine Zt 1 [] hn rfl ?_
 refine stepW (kG 1104 rfl rfl rfl (nb hn rfl) underlying49 sz152 zr152 rfl rfl (show _ = [.d (.bool false),.d (.int .i64 0),.d (.int .i64 0),.d (.int .i64 0),.d (.int .i64 0),.d (.int .i64 0),.d (.bool false),.d (.int .i64 0),.d (.int .i64 0),.d (.int .i64 0),.d (.int .i64 0),.d (.int .i64 0),.d (.bool false),.d (.int .i64 0),.d (.int .i64 0),.d (.int .i64 0),.d (.int .i64 0),.d (.int .i64 0)] from by kernel_rfl) (by kernel_rfl) rfl rfl) fun b14=>?_
 refine Zs hn (zAR rfl bt51 rfl rfl rfl rfl) ?_
 refine Zt 1 [0] hn rfl ?_
 refine Zv (zI ?_)
 exact ret_E (.inl rfl) b14 (zAr (id:=0) rfl rfl rfl underlying51 rfl sz51 rfl rfl) ⟨rfl,trivial⟩
theorem three_v2 :EffAt Tryz.prog 69 [] [] (X:=Nat) (fun x=>.agg [.d (stksD twoB.stocks),.d (.int .i64 10),.d (.int .i64 4),.d (strD lateS),.d (.int .i64 1),.val (.slice (some ⟨x,0,none⟩) 3 3)]) (fun x=>[(1105,.box x 152 (ordT thrO))]):=by
 refine EffAt.of_awp Tryz.func69 rfl (by kernel_rfl) rfl fun Γ hn=>?_
 refine Zu ?_
 refine Zb 0 hn rfl fun b0=>?_
 refine Zv (Zu ?_)
 refine Zt 4 [] hn rfl ?_
 refine stepW (zO rfl rfl rfl (nb hn rfl) underlying22 sz98 zr98 rfl rfl rfl (show _ = [.d (.str ⟨#[]⟩),.d (.int .i64 0),.d (.int .i64 0),.d (.str ⟨#[]⟩),.d (.int .i64 0),.d (.int .i64 0)] from by kernel_rfl) (by kernel_rfl) rfl rfl rfl rfl rfl) fun _=>?_
 refine Zt 1 [] hn rfl ?_
 refine Zk hn rfl (zCc twoB (by decide)) ?_
 refine Zk hn rfl (yO _ _) ?_
 refine Zt 1 [] hn rfl ?_
 refine Zk hn rfl (yO _ _) ?_
 refine Zt 1 [] hn rfl ?_
 refine Zk hn rfl (yO _ _) ?_
 refine Zt 1 [] hn rfl ?_
 refine stepW (kG 1105 rfl rfl rfl (nb hn rfl) underlying49 sz152 zr152 rfl rfl (show _ = [.d (.bool false),.d (.int .i64 0),.d (.int .i64 0),.d (.int .i64 0),.d (.int .i64 0),.d (.int .i64 0),.d (.bool false),.d (.int .i64 0),.d (.int .i64 0),.d (.int .i64 0),.d (.int .i64 0),.d (.int .i64 0),.d (.bool false),.d (.int .i64 0),.d (.int .i64 0),.d (.int .i64 0),.d (.int .i64 0),.d (.int .i64 0)] from by kernel_rfl) (by kernel_rfl) rfl rfl) fun b14=>?_
 refine Zs hn (zAR rfl bt51 rfl rfl rfl rfl) ?_
 refine Zt 1 [0] hn rfl ?_
 refine Zv (zI ?_)
 exact ret_E (.inl rfl) b14 (zAr (id:=0) rfl rfl rfl underlying51 rfl sz51 rfl rfl) ⟨rfl,trivial⟩
theorem told_v1 :EffAt Tryz.prog 70 [] [] (X:=Nat) (fun x=>.agg [.val (.slice (some ⟨x,0,none⟩) 4 4),.d (ints [5,6,6,7]),.d (ints [5,5,6])]) (fun x=>[(1106,.box x 3 (intsT [306,309,81,87]))]):=by
 refine EffAt.of_awp Tryz.func70 rfl (by kernel_rfl) rfl fun Γ hn=>?_
 refine Zu ?_
 refine Zb 0 hn rfl fun b0=>?_
 refine Zv (Zu ?_)
 refine stepW (kG 1106 rfl rfl rfl (nb hn rfl) underlying29 sz3 zr3 rfl rfl (show _ = [.d (.int .i64 0),.d (.int .i64 0),.d (.int .i64 0),.d (.int .i64 0)] from by kernel_rfl) (by kernel_rfl) rfl rfl) fun b1=>?_
 refine stepW (zO rfl rfl rfl (nb hn rfl) underlying29 sz3 zr3 rfl rfl rfl (show _ = [.d (.int .i64 0),.d (.int .i64 0),.d (.int .i64 0),.d (.int .i64 0)] from by kernel_rfl) (by kernel_rfl) rfl rfl rfl rfl rfl) fun _=>?_
 refine stepW (zO rfl rfl rfl (nb hn rfl) underlying29 sz3 zr3 rfl rfl rfl (show _ = [.d (.int .i64 0),.d (.int .i64 0),.d (.int .i64 0)] from by kernel_rfl) (by kernel_rfl) rfl rfl rfl rfl rfl) fun _=>?_
 refine Zs hn (zAR rfl bt56 rfl rfl rfl rfl) ?_
 refine Zt 1 [0] hn rfl ?_
 refine Zv (zI ?_)
 exact ret_E (.inl rfl) b1 (zAr (id:=0) rfl rfl rfl underlying56 rfl sz56 rfl rfl) ⟨rfl,trivial⟩
theorem told_v2 :EffAt Tryz.prog 70 [] [] (X:=Nat) (fun x=>.agg [.d (ints [306,309,81,87]),.val (.slice (some ⟨x,0,none⟩) 4 4),.d (ints [5,5,6])]) (fun x=>[(1107,.box x 3 (intsT [5,6,6,7]))]):=by
 refine EffAt.of_awp Tryz.func70 rfl (by kernel_rfl) rfl fun Γ hn=>?_
 refine Zu ?_
 refine Zb 0 hn rfl fun b0=>?_
 refine Zv (Zu ?_)
 refine stepW (zO rfl rfl rfl (nb hn rfl) underlying29 sz3 zr3 rfl rfl rfl (show _ = [.d (.int .i64 0),.d (.int .i64 0),.d (.int .i64 0),.d (.int .i64 0)] from by kernel_rfl) (by kernel_rfl) rfl rfl rfl rfl rfl) fun _=>?_
 refine stepW (kG 1107 rfl rfl rfl (nb hn rfl) underlying29 sz3 zr3 rfl rfl (show _ = [.d (.int .i64 0),.d (.int .i64 0),.d (.int .i64 0),.d (.int .i64 0)] from by kernel_rfl) (by kernel_rfl) rfl rfl) fun b2=>?_
 refine stepW (zO rfl rfl rfl (nb hn rfl) underlying29 sz3 zr3 rfl rfl rfl (show _ = [.d (.int .i64 0),.d (.int .i64 0),.d (.int .i64 0)] from by kernel_rfl) (by kernel_rfl) rfl rfl rfl rfl rfl) fun _=>?_
 refine Zs hn (zAR rfl bt56 rfl rfl rfl rfl) ?_
 refine Zt 1 [0] hn rfl ?_
 refine Zv (zI ?_)
 exact ret_E (.inl rfl) b2 (zAr (id:=0) rfl rfl rfl underlying56 rfl sz56 rfl rfl) ⟨rfl,trivial⟩
theorem told_v3 :EffAt Tryz.prog 70 [] [] (X:=Nat) (fun x=>.agg [.d (ints [306,309,81,87]),.d (ints [5,6,6,7]),.val (.slice (some ⟨x,0,none⟩) 3 3)]) (fun x=>[(1108,.box x 3 (intsT [5,5,6]))]):=by
 refine EffAt.of_awp Tryz.func70 rfl (by kernel_rfl) rfl fun Γ hn=>?_
 refine Zu ?_
 refine Zb 0 hn rfl fun b0=>?_
 refine Zv (Zu ?_)
 refine stepW (zO rfl rfl rfl (nb hn rfl) underlying29 sz3 zr3 rfl rfl rfl (show _ = [.d (.int .i64 0),.d (.int .i64 0),.d (.int .i64 0),.d (.int .i64 0)] from by kernel_rfl) (by kernel_rfl) rfl rfl rfl rfl rfl) fun _=>?_
 refine stepW (zO rfl rfl rfl (nb hn rfl) underlying29 sz3 zr3 rfl rfl rfl (show _ = [.d (.int .i64 0),.d (.int .i64 0),.d (.int .i64 0),.d (.int .i64 0)] from by kernel_rfl) (by kernel_rfl) rfl rfl rfl rfl rfl) fun _=>?_
 refine stepW (kG 1108 rfl rfl rfl (nb hn rfl) underlying29 sz3 zr3 rfl rfl (show _ = [.d (.int .i64 0),.d (.int .i64 0),.d (.int .i64 0)] from by kernel_rfl) (by kernel_rfl) rfl rfl) fun b3=>?_
 refine Zs hn (zAR rfl bt56 rfl rfl rfl rfl) ?_
 refine Zt 1 [0] hn rfl ?_
 refine Zv (zI ?_)
 exact ret_E (.inl rfl) b3 (zAr (id:=0) rfl rfl rfl underlying56 rfl sz56 rfl rfl) ⟨rfl,trivial⟩
theorem OddNames_eff :EffAt Tryz.prog 16 [] [] (X:=Unit) (fun _=>.d (.bool true)) (fun _=>[]):=by
 refine EffAt.of_awp Tryz.func16 rfl (by kernel_rfl) rfl fun Γ hn=>?_
 refine Zu (Zt 1 [] hn rfl (Zv (Zu (Zk hn rfl (yG) (Zk hn rfl ((by have h:=zAy threeD yB (by decide) (by decide) 1; rw [n_s1] at h; exact h)) ?_)))))
 refine Zt 5 [] hn rfl (Zv (Zu (Zk hn rfl (yG) (Zk hn rfl ((by have h:=zAy threeD yB (by decide) (by decide) 2; rw [n_s2] at h; exact h)) ?_))))
 refine Zt 5 [] hn rfl (Zv (zB (Zu (Zt 4 [] hn rfl (stepW (zBF (zJ rfl rfl rfl) rfl (nb hn rfl) (zO rfl rfl rfl (nb hn rfl) underlying29 sz3 zr3 rfl rfl rfl (show _ = [.d (.int .i64 0)] from by kernel_rfl) (by kernel_rfl) rfl rfl rfl rfl rfl)) fun _=>?_)))))
 refine Zkg hn rfl (fun hc=>zAj [1] [1]) (Zt 8 [] hn rfl (stepW (zBF (zJ rfl rfl rfl) rfl (nb hn rfl) (zO rfl rfl rfl (nb hn rfl) underlying29 sz3 zr3 rfl rfl rfl (show _ = [.d (.int .i64 0)] from by kernel_rfl) (by kernel_rfl) rfl rfl rfl rfl rfl)) fun _=>?_))
 refine Zkg hn rfl (fun hc=>zAj [2] [2]) (Zt 3 [] hn rfl (Zkg hn rfl (fun hc=>yG) (Zkg hn rfl (fun hc=>zCT) (Zkg hn rfl (fun hc=>(by have h:=zCs threeD yB (by decide) (by decide) toldT; rw [n_pv] at h; exact h)) (Zt 2 [] hn rfl (Zv (zH rfl (fun hb0=>?_) (fun hb0=>?_))))))))
 exact absurd (show false = true from hb0) (by decide)
 refine zK (zA (Zu (stepW (s_callE (told_v1) rfl rfl rfl (nb hn rfl) (.d rfl) rfl (.refl _) trivial (fun _=>rfl) (fun _ _=>trivial)) fun b62=>?_)))
 refine stepW (s_callE (told_v2) rfl rfl rfl (nb hn rfl) (.d rfl) rfl (.refl _) trivial (fun _=>rfl) (fun _ _=>trivial)) fun b63=>?_
 refine stepW (s_callE (told_v3) rfl rfl rfl (nb hn rfl) (.d rfl) rfl (.refl _) trivial (fun _=>rfl) (fun _ _=>trivial)) fun b64=>?_
 refine Zb 5 hn rfl fun b5=>Zb 6 hn rfl fun b6=>Zb 7 hn rfl fun b7=>Zt 3 [5,6,7] hn rfl (Zv (Zu (Zt 2 [5] hn rfl (Zs hn (q_indexV (i:=1) rfl rfl rfl underlying29 sz3 rfl (by omega)) ?_))))
 refine stepW (s_store1 rfl rfl rfl rfl rfl rfl (id:=1106) rfl sz3 (Nat.le_of_ble_eq_true rfl) rfl trivial) fun _=>?_
 refine Zv (Zu (Zt 2 [6] hn rfl (Zs hn (q_indexV (i:=1) rfl rfl rfl underlying29 sz3 rfl (by omega)) ?_)))
 refine stepW (s_store1 rfl rfl rfl rfl rfl rfl (id:=1107) rfl sz3 (Nat.le_of_ble_eq_true rfl) rfl trivial) fun _=>?_
 refine Zv (Zu (Zt 2 [7] hn rfl (Zs hn (q_indexV (i:=2) rfl rfl rfl underlying29 sz3 rfl (by omega)) ?_)))
 refine stepW (s_store1 rfl rfl rfl rfl rfl rfl (id:=1108) rfl sz3 (Nat.le_of_ble_eq_true rfl) rfl trivial) fun _=>?_
 refine Zv (zB (zq (gh_veccell (id:=5) (k:=0) (rid:=1106) (ds:=(tr1.prices.map intE).flatten) (rest:=[]) (n:=4) (sz:=1) rfl rfl rfl rfl rfl rfl (Nat.le_refl _) (by decide)) ?_))
 refine zq (gh_veccell (id:=6) (k:=1) (rid:=1107) (ds:=(tr2.minutes.map intE).flatten) (rest:=[]) (n:=4) (sz:=1) rfl rfl rfl rfl rfl rfl (Nat.le_refl _) (by decide)) ?_
 refine zq (gh_veccell (id:=7) (k:=2) (rid:=1108) (ds:=(tr3.orders.map intE).flatten) (rest:=[]) (n:=3) (sz:=1) rfl rfl rfl rfl rfl rfl (Nat.le_refl _) (by decide)) ?_
 refine zo (W:=fun b=>b ≠ b5) fmo ?_
 refine Zy [1] [5] hn rfl (zD (Ze1 0 rfl hn rfl (yG) (d2_of_d1 (zD (Ze1 2 rfl hn rfl ((by have h:=zBN threeD yB (by decide) (by decide) tr1; rw [n_p1] at h; exact h)) ?_)))))
 refine d2_of_d1 (Zy [3,4,5,6] [] hn rfl (zD (zl (by kernel_rfl) ?_)))
 refine zA (zB (zo (W:=fun b=>b ≠ b6) fmo ?_))
 refine Zy [1] [6] hn rfl (zD (Ze1 0 rfl hn rfl (yG) (d2_of_d1 (zD (Ze1 2 rfl hn rfl ((by have h:=zEi threeD yB (by decide) (by decide) tr2; rw [n_h2] at h; exact h)) ?_)))))
 refine d2_of_d1 (Zy [3,4,5,6,7] [] hn rfl (zD (zl (by kernel_rfl) ?_)))
 refine zA (zB (zo (W:=fun b=>b ≠ b7) fmo ?_))
 refine Zy [1] [7] hn rfl (zD (Ze1 0 rfl hn rfl (yG) (d2_of_d1 (zD (Ze1 2 rfl hn rfl ((by have h:=zBN threeD yB (by decide) (by decide) tr3; rw [n_p3] at h; exact h)) ?_)))))
 refine d2_of_d1 (Zy [3,4,5,6,7] [] hn rfl (zD (zl (by kernel_rfl) ?_)))
 refine zA (Zu (Zk hn rfl (yG) (Zk hn rfl ((by have h:=zAy threeD yB (by decide) (by decide) 3; rw [n_s3] at h; exact h)) ?_)))
 refine Zt 5 [] hn rfl (Zv (Zu (Zk hn rfl (yG) (Zk hn rfl (yG) (Zk hn rfl (yG) (Zk hn rfl (yG) (stepW (s_callE (three_v1) rfl rfl rfl (nb hn rfl) (.d rfl) rfl (.refl _) trivial (fun _=>rfl) (fun _ _=>trivial)) fun b102=>?_)))))))
 refine stepW (s_callE (three_v2) rfl rfl rfl (nb hn rfl) (.d rfl) rfl (.refl _) trivial (fun _=>rfl) (fun _ _=>trivial)) fun b103=>?_
 refine Zb 12 hn rfl fun b12=>Zb 13 hn rfl fun b13=>Zb 14 hn rfl fun b14=>Zb 15 hn rfl fun b15=>Zb 16 hn rfl fun b16=>Zb 17 hn rfl fun b17=>Zt 6 [12,13,14,15,16,17] hn rfl (Zv (Zu (Zt 1 [] hn rfl (stepW (s_store1 rfl rfl rfl rfl rfl rfl (id:=12) rfl sz9 (Nat.le_of_ble_eq_true rfl) rfl trivial) fun _=>?_))))
 refine Zv (Zu (Zt 1 [] hn rfl (stepW (s_store1 rfl rfl rfl rfl rfl rfl (id:=13) rfl sz9 (Nat.le_of_ble_eq_true rfl) rfl trivial) fun _=>?_)))
 refine Zv (Zu (Zt 1 [] hn rfl (stepW (s_store1 rfl rfl rfl rfl rfl rfl (id:=14) rfl sz3 (Nat.le_of_ble_eq_true rfl) rfl trivial) fun _=>?_)))
 refine Zv (Zu (stepW (kM (n:=6) 107 rfl rfl rfl (nb hn rfl) underlying49 (show _ = some (some (.agg #[(.bool false),(.int .i64 0),(.int .i64 0),(.int .i64 0),(.int .i64 0),(.int .i64 0)]),6,48) from by kernel_rfl) rfl rfl rfl (by decide) rfl rfl rfl rfl (by omega) (by omega) (by omega)) fun b107=>?_))
 refine Zt 1 [] hn rfl (stepW (s_store1 rfl rfl rfl rfl rfl rfl (id:=15) rfl sz49 (Nat.le_of_ble_eq_true rfl) rfl trivial) fun _=>?_)
 refine Zv (Zu (Zt 2 [16] hn rfl (Zs hn (q_indexV (i:=0) rfl rfl rfl underlying49 sz152 rfl (by omega)) ?_)))
 refine Zt 1 [] hn rfl (stepW (s_store1 rfl rfl rfl rfl rfl rfl (id:=1104) rfl sz3 (Nat.le_of_ble_eq_true rfl) rfl trivial) fun _=>?_)
 refine Zv (Zu (Zt 2 [17] hn rfl (Zs hn (q_indexV (i:=1) rfl rfl rfl underlying49 sz152 rfl (by omega)) ?_)))
 refine Zt 1 [] hn rfl (stepW (s_store1 rfl rfl rfl rfl rfl rfl (id:=1105) rfl sz3 (Nat.le_of_ble_eq_true rfl) rfl trivial) fun _=>?_)
 refine Zv (zB (zq (gh_veccell (id:=16) (k:=5) (rid:=1104) (ds:=(nmK.orders.map ordE).flatten) (rest:=[]) (n:=3) (sz:=6) rfl rfl rfl rfl (nofl rfl) (noch rfl) (Nat.le_refl _) (by decide)) ?_))
 refine zq (gh_veccell (id:=17) (k:=5) (rid:=1105) (ds:=(nmT.orders.map ordE).flatten) (rest:=[]) (n:=3) (sz:=6) rfl rfl rfl rfl (nofl rfl) (noch rfl) (Nat.le_refl _) (by decide)) ?_
 refine zq (gh_veccell (id:=15) (k:=5) (rid:=107) (ds:=(nmM.orders.map ordE).flatten) (rest:=[]) (n:=6) (sz:=6) rfl rfl rfl rfl (nofl rfl) (noch rfl) (Nat.le_refl _) (by decide)) ?_
 refine zG (Zt 1 [12] hn rfl (Zk hn rfl ((by have h:=zCQ nmE yj (by decide) (by decide); rw [n_bE] at h; exact h)) ?_))
 refine Zt 5 [] hn rfl (Zv (Zu (Zt 1 [13] hn rfl (Zk hn rfl ((by have h:=zAI nmO yj (by decide) (by decide); rw [n_vO] at h; exact h)) ?_))))
 refine Zt 5 [] hn rfl (Zv (Zu (Zt 1 [17] hn rfl ?_)))
 refine stepW (s_callE (zBn nmT yj (by decide) (by decide) 1 true) rfl rfl rfl (nb hn rfl) (.d rfl) rfl (.refl _) trivial (fun _=>rfl) (fun _ _=>trivial)) fun ⟨⟨t2,e2⟩,hs2⟩=>?_
 obtain rfl:e2 = 2:=n_shT hs2
 dsimp only
 refine Zt 3 [] hn rfl (Zb 22 hn rfl fun b22=>Zt 2 [22] hn rfl (Zv (Zu (Zt 1 [17] hn rfl (Zk hn rfl ((by have h:=zAI nmT yj (by decide) (by decide); rw [n_vT] at h; exact h)) ?_)))))
 refine Zt 5 [] hn rfl (Zv (Zu (Zt 1 [12] hn rfl ?_)))
 refine stepW (s_callE (zBn nmE yj (by decide) (by decide) 3 true) rfl rfl rfl (nb hn rfl) (.d rfl) rfl (.refl _) trivial (fun _=>rfl) (fun _ _=>trivial)) fun ⟨⟨t3,e3⟩,hs3⟩=>?_
 obtain rfl:e3 = 2:=n_shE hs3
 dsimp only
 refine Zt 3 [] hn rfl (Zb 26 hn rfl fun b26=>Zt 2 [26] hn rfl (Zv (Zu (Zt 37 [] hn rfl ?_))))
 refine Zh [(178,_)] (zJ rfl rfl rfl) hn (fun hc=>⟨⟨_,rfl,hc⟩,trivial⟩) (fun hc=>q_index (i:=1) rfl rfl rfl underlying29 sz3 rfl rfl) ?_
 refine Zt 9 [14] hn rfl (Zkg hn rfl (fun hc=>(by have h:=kR nmF yj (by decide) (by decide); rw [n_cF] at h; exact h)) (Zt 4 [15] hn rfl (Zkg hn rfl (fun hc=>(by have h:=kR nmM yj (by decide) (by decide); rw [n_cM] at h; exact h)) (Zt 4 [16] hn rfl (Zkg hn rfl (fun hc=>(by have h:=kR nmK yj (by decide) (by decide); rw [n_cK] at h; exact h)) (Zt 4 [] hn rfl ?_))))))
 refine stepW (s_call [(203,_)] (fun hc=>(by have h:=kR nmZ z_names (by decide) (by decide); rw [n_cZ] at h; exact h)) rfl (zJ rfl rfl rfl) rfl (nb hn rfl) (fun hc=>⟨⟨_,rfl,hc⟩,trivial⟩) rfl rfl (by first | exact .refl _ | (repeat (first | exact .refl _ | exact .nil _ | refine .cons ?_ ?_ | refine .agg ?_ | refine .tup ?_)))) fun _=>?_
 refine Zt 3 [] hn rfl (Zkg hn rfl (fun hc=>awake4_ok) (Zt 2 [] hn rfl (Zv (zI ?_))))
 exact ret_E (.inl rfl) () ((zu rfl (.tmp rfl)).eq (by rfl)) trivial
theorem OddNames_ok:PureAt Tryz.prog 16 [] (.bool true):=PureAt.of_eff (ds:=[]) OddNames_eff
end Go.Proofs.YticlpkgpmmhemaaGreatDoor
