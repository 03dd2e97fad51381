/-
  A part of the proof that contangolaw.TopTicked returns true: what the last text needs, and no more. No condition: no statement of the seat is proved here.
-/
import Derived.Test.YticlpkgpmmhemaaGreatDoorChecked
import Derived.Lib.AppendIntMem
import Derived.Lib.ItoaMem
import Derived.Test.YticlpkgpmmhemaaGreatDoorTopTickedI
namespace Go.Proofs.YticlpkgpmmhemaaGreatDoor
open Go.RowKit
set_option linter.all false
theorem zDe (s sep:List UInt8) (h:s.length ≤ 4294967000):PureAt Tryz.prog 121 [strD s,strD sep] (.tup [strD (Lib.cut s sep).1,strD (Lib.cut s sep).2.1,.bool (Lib.cut s sep).2.2]):=by
  refine PureAt.of_calls (yo Tryz.func121 rfl rfl) fun w F vs hF hG hr=>?_
  obtain ⟨u1,us,rfl,h1,u2,us2,rfl,h2,h3⟩:=hr
  cases h1; cases h2; cases h3
  obtain ⟨_,_,x,hx,m,t,f,rfl⟩:=hG (0,_) List.mem_cons_self
  refine (Tryz.strings_Cut ⟨s.toArray⟩ ⟨sep.toArray⟩ m w (by rw [zU]; omega) (by simp [World.cell?,hx])).mono ?_
  rintro e w' ⟨rfl,n,rfl⟩
  exact ⟨_,rfl,⟨_,rfl,_,_,rfl,rfl,_,_,rfl,rfl,_,_,rfl,rfl,rfl⟩,⟨rfl,rfl,rfl,Nat.le_refl _,fun _ _=>rfl⟩⟩
theorem HasSuffix_ok (s p:List UInt8) (h:s.length ≤ 4294967000):PureAt Tryz.prog 173 [strD s,strD p] (.bool (Lib.hasSuffix s p)):=by
  refine PureAt.of_calls (yo Tryz.func173 rfl rfl) fun w F vs hF hG hr=>?_
  obtain ⟨u1,us,rfl,h1,u2,us2,rfl,h2,h3⟩:=hr
  cases h1; cases h2; cases h3
  refine (Tryz.strings_HasSuffix ⟨s.toArray⟩ ⟨p.toArray⟩ w (by rw [zU]; omega)).mono ?_
  rintro e w' ⟨rfl,rfl⟩
  exact ⟨_,rfl,rfl,Below.refl _ _⟩
theorem zAJ (n:Int) (h0:-9223372036854775808 ≤ n) (h1:n ≤ 9223372036854775807):PureAt Tryz.prog 99 [.int .i64 n] (strD (Lib.itoa n)):=by
  refine PureAt.of_calls (yo Tryz.func99 rfl rfl) fun w F vs hF hG hr=>?_
  obtain ⟨u1,us,rfl,e1,e2⟩:=hr
  cases e1; cases e2
  obtain ⟨_,_,x,hx,t,f,rfl⟩:=hG (1,_) (List.mem_cons_of_mem _ List.mem_cons_self)
  have hT : Lib.TabIs Tryz.prog w "internal/strconv.uint64pow10" .u64 Lib.pow10Tab := by
    unfold Lib.TabIs World.var?
    rw [show Tryz.prog.globalNamed "internal/strconv.uint64pow10" = some 1 from by kernel_rfl]
    simp only [Option.bind_some,hx,Lib.pow10Tab,List.map_map]
    rfl
  refine (Tryz.strconv_Itoa n h0 h1 w hT).mono ?_
  rintro e w' ⟨rfl,k,os,rfl⟩
  exact ⟨_,rfl,rfl,Lib.below_grow _ _ (Nat.le_refl _) _ _⟩
/-- What Atoi hands back. -/
def AtoiX (s:List UInt8):Type:={x:Int × Value // ((Lib.atoiAll s = .ok x.1 ∧ x.2 = .nilIface) ∨ ((∀ v,Lib.atoiAll s ≠ .ok v) ∧ ∃ t p,x.2 = .iface t p)) ∧ -9223372036854775808 ≤ x.1 ∧ x.1 ≤ 9223372036854775807}
theorem Atoi_eff (s:List UInt8) (h:s.length ≤ 4294967000):EffAt Tryz.prog 209 [.d (strD s)] [] (X:=AtoiX s) (fun x=>.d (.tup [.int .i64 x.1.1,.raw x.1.2])) (fun _=>[]):=by
  refine EffAt.of_calls (ds:=[strD s]) (r:=fun x:AtoiX s=>.tup [.int .i64 x.1.1,.raw x.1.2]) (yo Tryz.func209 rfl rfl) fun w F vs hF hG hr=>?_
  obtain ⟨u1,us,rfl,e1,e2⟩:=hr
  cases e1; cases e2
  obtain ⟨_,_,x2,hx2,v2,t2,f2,rfl,k2⟩:=hG (2,_) (List.mem_cons_of_mem _ (List.mem_cons_of_mem _ List.mem_cons_self))
  obtain ⟨_,_,x3,hx3,v3,t3,f3,rfl,k3⟩:=hG (3,_) (List.mem_cons_of_mem _ (List.mem_cons_of_mem _ (List.mem_cons_of_mem _ List.mem_cons_self)))
  have key:(∃ v,Lib.atoiAll s = .ok v) ∨ ((∀ v,Lib.atoiAll s ≠ .ok v) ∧ Lib.atoiAll s ≠ .range) ∨ Lib.atoiAll s = .range:=by
    by_cases h1:∃ v,Lib.atoiAll s = .ok v
    · exact .inl h1
    · by_cases h2:Lib.atoiAll s = .range
      · exact .inr (.inr h2)
      · exact .inr (.inl ⟨fun v hv=>h1 ⟨v,hv⟩,h2⟩)
  rcases key with ⟨v,ha⟩ | ⟨ha,ha2⟩ | ha
  · skip
    refine (Tryz.strconv_Atoi_ok ⟨s.toArray⟩ (by rw [zU]; omega) v (by simpa using ha) w).mono ?_
    rintro e w' ⟨rfl,hw⟩
    obtain ⟨vb0,vb1⟩:=Lib.atoiAll_bounds ha
    refine ⟨⟨(v,.nilIface),.inl ⟨ha,rfl⟩,by show _ ≤ v; omega,by show v ≤ _; omega⟩,_,rfl,⟨_,rfl,_,_,rfl,rfl,_,_,rfl,rfl,rfl⟩,?_⟩
    rcases hw with rfl | ⟨t,rfl⟩
    · exact Below.refl _ _
    · exact Lib.bytesWorld_below _ _ _
  · skip
    refine (Tryz.strconv_Atoi_synt ⟨s.toArray⟩ (by rw [zU]; omega) (by simpa using ha) (by simpa using ha2) v2 w (by simp [World.cell?,hx2]) k2).mono ?_
    rintro e w' ⟨N,rfl,_,_,hb⟩
    exact ⟨⟨(0,_),.inr ⟨ha,_,_,rfl⟩,by show _ ≤ (0:Int); omega,by show (0:Int) ≤ _; omega⟩,_,rfl,⟨_,rfl,_,_,rfl,rfl,_,_,rfl,rfl,rfl⟩,hb⟩
  · skip
    refine (Tryz.strconv_Atoi_range ⟨s.toArray⟩ (by rw [zU]; omega) (by simpa using ha) v3 w (by simp [World.cell?,hx3]) k3).mono ?_
    rintro e w' ⟨N,rfl,_,_,hb⟩
    obtain ⟨sb0,sb1⟩:=Lib.atoiSat_bounds s
    exact ⟨⟨(Lib.atoiSat s,_),.inr ⟨fun v hv=>(by rw [ha] at hv; cases hv),_,_,rfl⟩,by show _ ≤ Lib.atoiSat s; omega,by show Lib.atoiSat s ≤ _; omega⟩,_,rfl,⟨_,rfl,_,_,rfl,rfl,_,_,rfl,rfl,rfl⟩,hb⟩
theorem zB7 {α : Type} {F : Nat → Nat → Prop} {w : World} {f : α → List D} {d : α → D} {g : α → Value} (hf : ∀ x, f x = [d x]) (hg : ∀ x v, Rep F w (d x) v → v = g x) {l : List α} {b o j : Nat} {x : α} (h : RepRows F w (l.map f) b o 1) (hj : l[j]? = some x) :
    w.cell? ⟨b,o + j,none⟩ = some (g x):=by
  obtain ⟨_,h2⟩:=h.get (i:=j) (c:=f x) (by rw [List.getElem?_map,hj]; rfl)
  rw [hf] at h2
  obtain ⟨⟨_,v,h3,_,h4⟩,_⟩:=h2
  rw [Nat.mul_one] at h3
  rw [h3,hg x v h4]
theorem Min_ok (l:List Int) (h0:l ≠ []):PureAt Tryz.prog 177 [ints l] (.int .i64 (Lib.minOf l)):=by
  refine PureAt.of_calls (yo Tryz.func177 rfl rfl) fun w F vs hF hG hr=>?_
  obtain ⟨u1,us,rfl,⟨ad,cap,rfl,hle,hcm,hrow⟩,h3⟩:=hr
  cases h3
  obtain ⟨b,o,rfl,hrr⟩:=hrow.resolve_left (by simpa using h0)
  rw [List.length_map] at hle ⊢
  refine (Tryz.slices_Min_int b o l.length cap l w (List.length_pos_iff.2 h0) (Nat.le_refl _) (by simp only [maxLen] at hcm; omega) fun j hj=>?_).mono ?_
  · rw [zB7 (d:=fun n=>.int .i64 n) (g:=fun n=>.int .i64 n) (fun _=>rfl) (fun x v h=>h) hrr (List.getElem?_eq_getElem hj)]
    simp [List.getD_eq_getElem?_getD,List.getElem?_eq_getElem hj]
  · rintro e w' ⟨rfl,rfl⟩
    rw [List.take_length]
    exact ⟨_,rfl,rfl,Below.refl _ _⟩
@[reducible] def strsD (l:List (List UInt8)):D:=.slice 1 (l.map fun s=>[strD s])
theorem Join_ok (l:List (List UInt8)) (sep:List UInt8) (hb:(Lib.join l sep).length ≤ 140737488355328) (hl:l.length ≤ 140737488355328):PureAt Tryz.prog 100 [strsD l,strD sep] (strD (Lib.join l sep)):=by
  refine PureAt.of_calls (yo Tryz.func100 rfl rfl) fun w F vs hF hG hr=>?_
  obtain ⟨u1,us,rfl,⟨ad,cap,rfl,hle,hcm,hrow⟩,u2,us2,rfl,h2,h3⟩:=hr
  cases h2; cases h3
  by_cases h0:l = []
  · subst h0
    refine (Tryz.strings_Join_none ad cap ⟨sep.toArray⟩ w).mono ?_
    rintro e w' ⟨rfl,rfl⟩
    exact ⟨_,rfl,rfl,Below.refl _ _⟩
  · obtain ⟨b,o,rfl,hrr⟩:=hrow.resolve_left (by simpa using h0)
    rw [List.length_map] at hle ⊢
    have hm:(l.map fun s:List UInt8=>ByteArray.mk s.toArray).map (·.data.toList) = l:=by
      rw [List.map_map]
      exact (List.map_congr_left fun s _=>rfl).trans (List.map_id l)
    have hc:∀ (j:Nat) x,(l.map fun s:List UInt8=>ByteArray.mk s.toArray)[j]? = some x → w.cell? ⟨b,o + j,none⟩ = some (.string x):=fun j x hj=>by
      rw [List.getElem?_map] at hj
      cases hs:l[j]? with
      | none=>rw [hs] at hj; cases hj
      | some s =>
        rw [hs] at hj
        cases hj
        exact zB7 (d:=fun s=>strD s) (g:=fun s=>.string ⟨s.toArray⟩) (fun _=>rfl) (fun x v h=>h) hrr hs
    have hbk:b < w.heap.size:=World.block_lt_of_cell? w ⟨b,o + 0,none⟩ (hc 0 _ (by rw [List.getElem?_map,List.getElem?_eq_getElem (List.length_pos_iff.2 h0)]; rfl))
    have hcall:=Tryz.strings_Join b o cap (l.map fun s:List UInt8=>ByteArray.mk s.toArray) ⟨sep.toArray⟩ w hc hbk (by simpa using hl) (by simpa using hle) (by rw [hm]; simpa using hb)
    rw [hm,List.length_map] at hcall
    refine hcall.mono ?_
    rintro e w' ⟨rfl,hbl⟩
    exact ⟨_,rfl,rfl,hbl⟩
theorem AtoiX.v {s:List UInt8} (x:AtoiX s):x.1.2 = .nilIface ∨ ∃ u p,x.1.2 = .iface u p:=x.2.1.imp (fun h=>h.2) (fun h=>h.2)
/-- What the program's digits hands back. -/
def digI (s:List UInt8):Int:=match Lib.atoiAll s with
  | .ok v=>bif decide (v < 0) || decide (3 < (s.length:Int)) || (Lib.itoa v != s) then -1 else v
  | _=>-1
theorem dig_of' {s:List UInt8} {n:Int} {v:Value} (h:(Lib.atoiAll s = .ok n ∧ v = .nilIface) ∨ ((∀ v,Lib.atoiAll s ≠ .ok v) ∧ ∃ t p,v = .iface t p)):(bif ifc v || decide (n < 0) || decide (3 < (s.length:Int)) || (Lib.itoa n != s) then -1 else n) = digI s:=by
  unfold digI
  rcases h with ⟨h1,h2⟩ | ⟨h1,t,p,h2⟩
  · rw [h1,h2]; rfl
  · rw [h2]
    cases ha:Lib.atoiAll s with
    | ok v=>exact (h1 v ha).elim
    | range=>rfl
    | _=>rfl
theorem zEh {s:List UInt8} (x:AtoiX s):(bif ifc x.1.2 || decide (x.1.1 < 0) || decide (3 < (s.length:Int)) || (Lib.itoa x.1.1 != s) then -1 else x.1.1) = digI s:=dig_of' x.2.1
theorem zAa (s:List UInt8):-1 ≤ digI s ∧ digI s ≤ 999:=by
  unfold digI
  split
  · rename_i v hv
    cases hc:(decide (v < 0) || decide (3 < (s.length:Int)) || (Lib.itoa v != s)) with
    | true=>simp
    | false =>
      simp only [Bool.or_eq_false_iff,decide_eq_false_iff_not,bne_eq_false_iff_eq] at hc
      obtain ⟨⟨h1,h2⟩,h3⟩:=hc
      obtain ⟨u,rfl⟩:∃ u:Nat,v = (u:Int):=⟨v.toNat,by omega⟩
      rw [Lib.itoa_nonneg] at h3
      have h4:=Lib.decDigits_length u
      rw [h3] at h4
      have h5:=Lib.lt_pow_nDigits u
      have h6:=Nat.pow_le_pow_right (n:=10) (by omega) (show Lib.nDigits u ≤ 3 by omega)
      simp only [cond_false]
      omega
  · omega
end Go.Proofs.YticlpkgpmmhemaaGreatDoor
namespace Go.Proofs.YticlpkgpmmhemaaGreatDoor
open Go.Proofs.Tryz
open Go.RowKit
set_option maxRecDepth 20000
set_option linter.all false
def pricedI (s:List UInt8):Int:=bif !(Lib.cut s [46]).2.2 || decide (digI (Lib.cut s [46]).1 < 0) || !(withinB (digI (Lib.cut s [46]).2.1) 0 7) then -1 else digI (Lib.cut s [46]).1 * 8 + digI (Lib.cut s [46]).2.1
def readT (s:List UInt8):Tok :=
  bif s == [] then ⟨0,0,0,s⟩ else bif s == [33] then ⟨7,0,0,s⟩ else bif s == [63] then ⟨8,0,0,s⟩ else bif namedB s then ⟨1,0,0,s⟩
  else bif s.getD 0 0 == 36 then ⟨bif withinB (pricedI (s.drop 1)) 1 799 then 4 else 0,pricedI (s.drop 1),0,s⟩
  else bif s.getD 0 0 == 64 then ⟨bif withinB (digI (s.drop 1)) 0 600 then 5 else 0,digI (s.drop 1),0,s⟩
  else bif s.getD 0 0 == 76 then ⟨bif (Lib.cut (s.drop 1) [45]).2.2 && spansB (digI (Lib.cut (s.drop 1) [45]).1) (digI (Lib.cut (s.drop 1) [45]).2.1) 0 60 then 6 else 0,digI (Lib.cut (s.drop 1) [45]).1,digI (Lib.cut (s.drop 1) [45]).2.1,s⟩
  else bif Lib.hasSuffix s [115] then ⟨bif withinB (digI (s.take (s.length - 1))) 1 99 then 2 else 0,digI (s.take (s.length - 1)),0,s⟩
  else ⟨bif ((s.length:Int) == 3) && decide (0 ≤ pricedI s) then 3 else 0,pricedI s,0,s⟩
theorem spans_ok2 (x y lo hi:Int):PureAt Tryz.prog 148 [.agg [.int .i64 x,.int .i64 y],.int .i64 lo,.int .i64 hi] (.bool (spansB x y lo hi)):=zCt (x,y) lo hi
theorem zCU (a b:UInt8):(a == b) = ((a.toNat:Int) == (b.toNat:Int)):=by
  rw [Bool.eq_iff_iff,beq_iff_eq,beq_iff_eq]
  constructor
  · rintro rfl; rfl
  · intro h; exact UInt8.toNat_inj.1 (by omega)
theorem zCS (s p:List UInt8):(Lib.cut s p).1.length ≤ s.length ∧ (Lib.cut s p).2.1.length ≤ s.length:=by
  unfold Lib.cut
  split
  · exact ⟨by rw [List.length_take]; exact Nat.min_le_right _ _,by rw [List.length_drop]; omega⟩
  · exact ⟨Nat.le_refl _,Nat.zero_le _⟩
theorem sz172:Sz Tryz.prog 172 4:=(by kernel_rfl:(Tryz.prog.info? 172).map (·.size) = some 4)
theorem digits_eff (s:List UInt8) (h5:s.length ≤ 4294967000):EffAt Tryz.prog 172 [.d (strD s)] [] (X:=Unit) (fun _=>.d (.int .i64 (digI s))) (fun _=>[]):=by
 refine EffAt.of_awp Tryz.func172 rfl (by kernel_rfl) rfl fun Γ hn=>?_
 refine Zu (Zt 1 [] hn rfl (Zv (Zu (Zt 1 [] hn rfl (stepW (s_callE (Atoi_eff s h5) rfl rfl rfl (nb hn rfl) (.d rfl) rfl (.refl _) trivial (fun _=>rfl) (fun _ _=>trivial)) fun x1=>?_)))))
 refine Zt 5 [] hn rfl (Zv (zD (Zu (Zt 1 [] hn rfl (Zs hn (q_neqNilI x1.v rfl rfl (by kernel_rfl)) ?_)))))
 refine Zt 11 [] hn rfl (Zkg hn rfl (fun hc=>zAJ x1.1.1 x1.2.2.1 x1.2.2.2) (Zt 1 [] hn rfl ?_))
 refine Zh [(23,_),(24,_)] (zK rfl rfl rfl) hn (fun hc=>⟨⟨_,rfl,hc⟩,⟨_,rfl,hc⟩,trivial⟩) (fun hc=>zEl rfl rfl rfl) ?_
 refine Zt 1 [] hn rfl (Zv (zG rfl (fun hb0=>?_) (fun hb0=>?_)))
 rw [zU] at hb0
 have hd:=zEh x1
 rw [hb0] at hd
 refine Zu (Zt 1 [] hn rfl (Zv (zI (zB ?_))))
 rotate_left
 rw [zU] at hb0
 have hd:=zEh x1
 rw [hb0] at hd
 refine zJ (zA (Zu (Zt 2 [] hn rfl (Zv (zI ?_)))))
 rotate_left
 all_goals
  exact ret_E (.inl rfl) () ((zj rfl (.tmp rfl)).eq (by rw [← hd]; rfl)) trivial
theorem yz (s:List UInt8) (h5:s.length ≤ 4294967000):PureAt Tryz.prog 172 [strD s] (.int .i64 (digI s)):=PureAt.of_eff (ds:=[strD s]) (digits_eff s h5)
theorem zB3 (s:List UInt8) (h5:s.length ≤ 4294967000):PureAt Tryz.prog 171 [strD s] (.int .i64 (pricedI s)):=by
 refine Zp Tryz.func171 rfl fun Γ hn hl=>?_
 have hcl:=zCS s [46]
 have hd1:=zAa (Lib.cut s [46]).1
 have hd2:=zAa (Lib.cut s [46]).2.1
 refine Zu (Zt 1 [] hn rfl (Zv (Zu (Zt 1 [] hn rfl (Zk hn rfl (zDe s [46] h5) (Zt 7 [] hn rfl (Zv (Zu (Zt 1 [] hn rfl (Zk hn rfl (yz (Lib.cut s [46]).1 (by omega)) (Zt 1 [] hn rfl (Zk hn rfl (yz (Lib.cut s [46]).2.1 (by omega)) (Zt 2 [] hn rfl (Zv (zD (Zu (Zt 8 [] hn rfl (Zkg hn rfl (fun hc=>zz _ _ _) (Zt 2 [] hn rfl (Zv (zG rfl (fun hb0=>?_) (fun hb0=>?_))))))))))))))))))))))
 refine Zu (Zt 1 [] hn rfl (Zv (zI (zB (ze (za (.inl rfl) hl rfl (.tmp rfl)) ?_)))))
 rw [show pricedI s = -1 from by unfold pricedI; rw [hb0]; rfl]
 refine zJ (zA (Zu (Zt 1 [] hn rfl (Zs hn (zDL rfl rfl rfl (i64w (by omega) rfl)) ?_))))
 refine Zt 1 [] hn rfl (Zs hn (zh rfl rfl rfl (i64w (by omega) rfl)) ?_)
 refine Zt 1 [] hn rfl (Zv (zI (ze (za (.inl rfl) hl rfl (.tmp rfl)) ?_)))
 rw [show pricedI s = digI (Lib.cut s [46]).1 * 8 + digI (Lib.cut s [46]).2.1 from by unfold pricedI; rw [hb0]; rfl]
theorem read_ok (s:List UInt8) (h5:s.length ≤ 4294967000):PureAt Tryz.prog 122 [strD s] (.agg (tokE (readT s))):=by
 refine Zp Tryz.func122 rfl fun Γ hn hl=>?_
 have hcl:=zCS (s.drop 1) [45]
 have hdl:(s.drop 1).length ≤ s.length:=by rw [List.length_drop]; omega
 refine Zu (Zb 2 hn rfl fun b2=>Zv (Zu (Zt 3 [] hn rfl (Zv (zD (zN (Zu (Zt 1 [] hn rfl (Zs hn (yt rfl rfl rfl) ?_)))))))))
 refine Zt 1 [] hn rfl (Zv (zG rfl (fun hb0=>?_) (fun hb0=>?_)))
 have q0:(s == []) = true:=hb0
 refine zJ (zM (zA (Zu (Zt 6 [2] hn rfl (Zv (zI (ze (za (.inl rfl) hl rfl (.cellA rfl (id:=2) rfl underlying172 rfl sz172 rfl rfl)) ?_)))))))
 simp only [readT,hb0,cond_true,cond_false]
 have q0:(s == []) = false:=hb0
 obtain ⟨b,hb⟩:∃ b,s[0]? = some b:=zV (by cases s with | nil=>simp at q0 | cons _ _=>simp)
 have hl1:1 ≤ s.length:=(List.getElem?_eq_some_iff.1 hb).1
 have hg:s.getD 0 0 = b:=by rw [List.getD_eq_getElem?_getD,hb]; rfl
 have k36:(b == 36) = ((b.toNat:Int) == 36):=zCU b 36
 have k64:(b == 64) = ((b.toNat:Int) == 64):=zCU b 64
 have k76:(b == 76) = ((b.toNat:Int) == 76):=zCU b 76
 refine Zu (Zt 1 [] hn rfl (Zs hn (yt rfl rfl rfl) ?_))
 refine Zt 1 [] hn rfl (Zv (zG rfl (fun hb1=>?_) (fun hb1=>?_)))
 refine zH (Zt 1 [] hn rfl (zQ (zM (zA (Zu (Zt 6 [2] hn rfl (Zv (zI (ze (za (.inl rfl) hl rfl (.cellA rfl (id:=2) rfl underlying172 rfl sz172 rfl rfl)) ?_)))))))))
 simp only [readT,q0,hb1,cond_true,cond_false]
 refine Zu (Zt 1 [] hn rfl (Zs hn (yt rfl rfl rfl) ?_))
 refine Zt 1 [] hn rfl (Zv (zG rfl (fun hb2=>?_) (fun hb2=>?_)))
 refine zH (Zt 1 [] hn rfl (zQ (zM (zA (Zu (Zt 6 [2] hn rfl (Zv (zI (ze (za (.inl rfl) hl rfl (.cellA rfl (id:=2) rfl underlying172 rfl sz172 rfl rfl)) ?_)))))))))
 simp only [readT,q0,hb1,hb2,cond_true,cond_false]
 refine Zu (Zt 1 [] hn rfl (Zk hn rfl (zDQ _ (by omega)) (Zt 1 [] hn rfl (Zv (zG rfl (fun hb3=>?_) (fun hb3=>?_))))))
 refine zH (Zt 1 [] hn rfl (zQ (zM (zA (Zu (Zt 6 [2] hn rfl (Zv (zI (ze (za (.inl rfl) hl rfl (.cellA rfl (id:=2) rfl underlying172 rfl sz172 rfl rfl)) ?_)))))))))
 simp only [readT,q0,hb1,hb2,hb3,cond_true,cond_false]
 refine Zu (Zt 1 [] hn rfl (Zs hn (z8 (i:=0) rfl rfl rfl underlying9 rfl hb) ?_))
 refine Zt 2 [] hn rfl (Zv (zG rfl (fun hb4=>?_) (fun hb4=>?_)))
 ·
  refine Zu (Zt 1 [] hn rfl (Zs hn (yy (i:=1) rfl rfl rfl underlying9 rfl hl1 rfl) ?_))
  refine Zk hn rfl (zB3 (s.drop 1) (by omega)) (Zt 1 [] hn rfl (Zv (Zu (Zt 1 [] hn rfl (Zk hn rfl (zz _ _ _) (Zv (zG rfl (fun hb5=>?_) (fun hb5=>?_))))))))
  refine zH (Zt 1 [] hn rfl (zQ (zM (zA (Zu ?_)))))
  rotate_left
  refine zJ (zM (zA (Zu ?_)))
  rotate_left
  all_goals
   refine Zt 6 [2] hn rfl (Zv (zI (ze (za (.inl rfl) hl rfl (.cellA rfl (id:=2) rfl underlying172 rfl sz172 rfl rfl)) ?_)))
   simp only [readT,q0,hb1,hb2,hb3,hg,k36,hb4,hb5,cond_true,cond_false]
 refine Zu (Zt 1 [] hn rfl (Zs hn (z8 (i:=0) rfl rfl rfl underlying9 rfl hb) ?_))
 refine Zt 2 [] hn rfl (Zv (zG rfl (fun hb6=>?_) (fun hb6=>?_)))
 ·
  refine Zu (Zt 1 [] hn rfl (Zs hn (yy (i:=1) rfl rfl rfl underlying9 rfl hl1 rfl) ?_))
  refine Zk hn rfl (yz (s.drop 1) (by omega)) (Zt 1 [] hn rfl (Zv (Zu (Zt 1 [] hn rfl (Zk hn rfl (zz _ _ _) (Zv (zG rfl (fun hb7=>?_) (fun hb7=>?_))))))))
  refine zH (Zt 1 [] hn rfl (zQ (zM (zA (Zu ?_)))))
  rotate_left
  refine zJ (zM (zA (Zu ?_)))
  rotate_left
  all_goals
   refine Zt 6 [2] hn rfl (Zv (zI (ze (za (.inl rfl) hl rfl (.cellA rfl (id:=2) rfl underlying172 rfl sz172 rfl rfl)) ?_)))
   simp only [readT,q0,hb1,hb2,hb3,hg,k36,k64,hb4,hb6,hb7,cond_true,cond_false]
 refine Zu (Zt 1 [] hn rfl (Zs hn (z8 (i:=0) rfl rfl rfl underlying9 rfl hb) ?_))
 refine Zt 2 [] hn rfl (Zv (zG rfl (fun hb8=>?_) (fun hb8=>?_)))
 ·
  refine Zu (Zt 1 [] hn rfl (Zs hn (yy (i:=1) rfl rfl rfl underlying9 rfl hl1 rfl) ?_))
  refine Zk hn rfl (zDe (s.drop 1) [45] (by omega)) (Zt 7 [] hn rfl (Zv (Zu (Zt 1 [] hn rfl (Zk hn rfl (yz (Lib.cut (s.drop 1) [45]).1 (by omega)) (Zt 1 [] hn rfl (Zk hn rfl (yz (Lib.cut (s.drop 1) [45]).2.1 (by omega)) (Zt 2 [] hn rfl (Zv (Zu (Zt 5 [] hn rfl (Zkg hn rfl (fun hc=>spans_ok2 _ _ _ _) (Zt 1 [] hn rfl (Zv (zG rfl (fun hb9=>?_) (fun hb9=>?_))))))))))))))))
  refine zH (Zt 1 [] hn rfl (zQ (zM (zA (Zu ?_)))))
  rotate_left
  refine zJ (zM (zA (Zu ?_)))
  rotate_left
  all_goals
   refine Zt 6 [2] hn rfl (Zv (zI (ze (za (.inl rfl) hl rfl (.cellA rfl (id:=2) rfl underlying172 rfl sz172 rfl rfl)) ?_)))
   simp only [readT,q0,hb1,hb2,hb3,hg,k36,k64,k76,hb4,hb6,hb8,hb9,cond_true,cond_false]
 refine Zu (Zt 1 [] hn rfl (Zk hn rfl (HasSuffix_ok s [115] h5) (Zt 1 [] hn rfl (Zv (zG rfl (fun hb10=>?_) (fun hb10=>?_))))))
 ·
  refine Zu (Zt 3 [] hn rfl (Zs hn (yB rfl rfl rfl (r:=((s.length - 1:Nat):Int)) (i64w (by rw [zU]; omega) (by rw [zU]; omega))) ?_))
  refine Zs hn (zAp (i:=s.length - 1) rfl rfl rfl underlying9 rfl (by omega) rfl) ?_
  refine Zk hn rfl (yz (s.take (s.length - 1)) (by rw [List.length_take]; omega)) (Zt 1 [] hn rfl (Zv (Zu (Zt 1 [] hn rfl (Zk hn rfl (zz _ _ _) (Zv (zG rfl (fun hb11=>?_) (fun hb11=>?_))))))))
  refine zH (Zt 1 [] hn rfl (zQ (zM (zA (Zu ?_)))))
  rotate_left
  refine zJ (zM (zA (Zu ?_)))
  rotate_left
  all_goals
   refine Zt 6 [2] hn rfl (Zv (zI (ze (za (.inl rfl) hl rfl (.cellA rfl (id:=2) rfl underlying172 rfl sz172 rfl rfl)) ?_)))
   simp only [readT,q0,hb1,hb2,hb3,hg,k36,k64,k76,hb4,hb6,hb8,hb10,hb11,cond_true,cond_false]
 refine Zu (Zt 1 [] hn rfl (Zk hn rfl (zB3 _ (by omega)) (Zt 1 [] hn rfl (Zv (Zu (Zt 7 [] hn rfl (Zv (zG rfl (fun hb12=>?_) (fun hb12=>?_)))))))))
 rw [zU] at hb12
 refine zH (Zt 1 [] hn rfl (zQ (zM (zA (Zu ?_)))))
 rotate_left
 rw [zU] at hb12
 refine zJ (zM (zA (Zu ?_)))
 rotate_left
 all_goals
  refine Zt 6 [2] hn rfl (Zv (zI (ze (za (.inl rfl) hl rfl (.cellA rfl (id:=2) rfl underlying172 rfl sz172 rfl rfl)) ?_)))
  simp only [readT,q0,hb1,hb2,hb3,hg,k36,k64,k76,hb4,hb6,hb8,hb10,hb12,cond_true,cond_false]
end Go.Proofs.YticlpkgpmmhemaaGreatDoor
namespace Go.Proofs.YticlpkgpmmhemaaGreatDoor
open Go.Proofs.Tryz
open Go.RowKit
set_option maxRecDepth 20000
set_option linter.all false
set_option maxHeartbeats 4000000
/-- A tape at work. -/
structure Wrk where
  stock:Int
  minute:Int
  number:Int
  llo:Int
  lhi:Int
  rush:Bool
  out:List Prt
@[reducible] def wrkC (w:Wrk) (brd:Brd) (v:Value):List TV:=[.d (.int .i64 w.stock),.d (.int .i64 w.minute),.d (.int .i64 w.number),.d (.int .i64 w.llo),.d (.int .i64 w.lhi),.d (.bool w.rush),.d (stksD brd.stocks),.d (.int .i64 brd.jump),.d (.int .i64 brd.small),.val v]
@[reducible] def wrkRs (b:Nat) (brd:Brd) (w:Wrk) (v:Value):List (Nat × Res):=[(1050,.box b 167 (wrkC w brd v)),(1051,.row v 71 8 (w.out.map prtE))]
def aloneE (w:Wrk) (wrong:Bool):Int:=bif wrong || decide (0 < w.number) then 8 else 0
def nameI (brd:Brd) (t:Tok):Int:=idxOf (fun s:Stk=>s.name == t.text) brd.stocks
def namedW (w:Wrk) (brd:Brd) (t:Tok):Wrk:=bif decide (nameI brd t < 0) then w else { w with stock:=nameI brd t }
def namedE (w:Wrk) (brd:Brd) (t:Tok):Int:=bif decide (nameI brd t < 0) then 5 else aloneE w false
def saleN (w:Wrk) (brd:Brd):Int × Int:=bif decide (0 < w.number) then (w.number,w.number) else bif w.rush then (1,brd.small) else (1,1)
def saleP (w:Wrk) (brd:Brd) (t:Tok):Prt:=⟨w.stock,(saleN w brd).1,(saleN w brd).2,t.fst,t.kind == 4,w.minute,w.llo,w.lhi⟩
def saleE (w:Wrk):Int:=bif decide (w.stock < 0) then 8 else bif ((w.out.length:Int) == 8) then 3 else 0
def saleW (w:Wrk) (brd:Brd) (t:Tok):Wrk:=bif decide (w.stock < 0) then w else bif ((w.out.length:Int) == 8) then w else { w with number:=0,out:=w.out ++ [saleP w brd t] }
theorem addP {l:List Prt} {x:Prt}:l.map prtE ++ [prtE x] = (l ++ [x]).map prtE:=by simp
def timedW (w:Wrk) (t:Tok):Wrk:={ w with minute:=t.fst }
def lateW (w:Wrk) (t:Tok):Wrk:={ w with llo:=t.fst,lhi:=t.snd }
def rushW (w:Wrk) (r:Bool):Wrk:={ w with rush:=r }
def numW (w:Wrk) (t:Tok):Wrk:={ w with number:=t.fst }
theorem ye (bw:Nat) (brd:Brd) (w:Wrk) (v:Value) (wrong:Bool):EffAt Tryz.prog 176 [.val (.pointer (some ⟨bw,0,none⟩)),.d (.bool wrong)] (wrkRs bw brd w v) (X:=Unit) (fun _=>.d (.int .i64 (aloneE w wrong))) (fun _=>wrkRs bw brd w v):=by
 refine EffAt.of_awp Tryz.func176 rfl (by kernel_rfl) rfl fun Γ hn=>?_
 refine Zu (Zt 1 [] hn rfl (Zv (zD (Zu (Zt 9 [1050] hn rfl (Zv (zG rfl (fun hb0=>?_) (fun hb0=>?_))))))))
 refine Zu (Zt 1 [] hn rfl (Zv (zI (zB ?_))))
 rotate_left
 refine zJ (zA (Zu (Zt 1 [] hn rfl (Zv (zI ?_)))))
 rotate_left
 all_goals
  exact ret_E (.inl rfl) () ((zj rfl (.tmp rfl)).eq (by unfold aloneE; rw [hb0]; rfl)) ⟨rfl,rfl,trivial⟩
theorem none_eff (bw:Nat) (brd:Brd) (w:Wrk) (v:Value) (t:Tok):EffAt Tryz.prog 123 [.val (.pointer (some ⟨bw,0,none⟩)),.d (.agg (tokE t))] (wrkRs bw brd w v) (X:=Unit) (fun _=>.d (.int .i64 (4))) (fun _=>wrkRs bw brd w v):=by
 refine EffAt.of_awp Tryz.func123 rfl (by kernel_rfl) rfl fun Γ hn=>?_
 refine Zu ?_
 refine Zb 3 hn rfl fun b3=>?_
 refine Zt 1 [] hn rfl ?_
 refine Zv (Zu ?_)
 refine Zt 1 [] hn rfl ?_
 refine Zv (zI ?_)
 exact ret_E (.inl rfl) () (zj rfl (.tmp rfl)) ⟨rfl,rfl,trivial⟩
theorem timed_eff (bw:Nat) (brd:Brd) (w:Wrk) (v:Value) (t:Tok):EffAt Tryz.prog 127 [.val (.pointer (some ⟨bw,0,none⟩)),.d (.agg (tokE t))] (wrkRs bw brd w v) (X:=Unit) (fun _=>.d (.int .i64 (aloneE w (decide (t.fst < w.minute))))) (fun _=>wrkRs bw brd (timedW w t) v):=by
 refine EffAt.of_awp Tryz.func127 rfl (by kernel_rfl) rfl fun Γ hn=>?_
 refine Zu ?_
 refine Zb 3 hn rfl fun b3=>?_
 refine Zt 1 [] hn rfl ?_
 refine Zv (zD ?_)
 refine zo (W:=fun b=>True) fmo ?_
 refine Zy [0,1,3,4,5,6] [] hn rfl ?_
 refine zE ?_
 refine zm 2 [7] (by kernel_rfl) ⟨?_,?_,trivial⟩
 ·
  refine br rfl (Zw hn (zY rfl rfl (id:=3) rfl underlying3 rfl rfl sees0)) fun _=>?_
  refine d2_of_d1 (zE ?_)
  refine Ze [7] [1050] hn rfl ?_
  refine d2_of_d1 ?_
  refine Zy [8] [] hn rfl ?_
  refine zE ?_
  refine Zo 9 rfl (s_callE (ye bw brd w v (decide (t.fst < w.minute))) rfl rfl rfl (nb hn rfl) (.d rfl) rfl (.refl _) ⟨rfl,rfl,trivial⟩ (fun _=>rfl) (fun _ _=>trivial)) fun _=>?_
  refine d2_of_d1 ?_
  refine Zy [10] [] hn rfl ?_
  refine zE ?_
  refine zl (by kernel_rfl) ?_
  refine zA (Zu ?_)
  refine Zt 6 [3] hn rfl ?_
  refine stepW (s_store1 rfl rfl rfl rfl rfl rfl (id:=1050) rfl sz3 (Nat.le_of_ble_eq_true rfl) rfl trivial) fun _=>?_
  refine Zv (Zu ?_)
  refine Zt 2 [] hn rfl ?_
  refine Zv (zI ?_)
  exact ret_E (.inl rfl) () (zj rfl (.tmp rfl)) ⟨rfl,rfl,trivial⟩
 ·
  refine br rfl (Zw hn (zY rfl rfl (id:=1050) rfl underlying3 rfl rfl sees0)) fun _=>?_
  refine d2_of_d1 (zE ?_)
  refine Ze [2] [3] hn rfl ?_
  refine d2_of_d1 ?_
  refine Zy [8] [] hn rfl ?_
  refine zE ?_
  refine Zo 9 rfl (s_callE (ye bw brd w v (decide (t.fst < w.minute))) rfl rfl rfl (nb hn rfl) (.d rfl) rfl (.refl _) ⟨rfl,rfl,trivial⟩ (fun _=>rfl) (fun _ _=>trivial)) fun _=>?_
  refine d2_of_d1 ?_
  refine Zy [10] [] hn rfl ?_
  refine zE ?_
  refine zl (by kernel_rfl) ?_
  refine zA (Zu ?_)
  refine Zt 6 [3] hn rfl ?_
  refine stepW (s_store1 rfl rfl rfl rfl rfl rfl (id:=1050) rfl sz3 (Nat.le_of_ble_eq_true rfl) rfl trivial) fun _=>?_
  refine Zv (Zu ?_)
  refine Zt 2 [] hn rfl ?_
  refine Zv (zI ?_)
  exact ret_E (.inl rfl) () (zj rfl (.tmp rfl)) ⟨rfl,rfl,trivial⟩
theorem late_eff (bw:Nat) (brd:Brd) (w:Wrk) (v:Value) (t:Tok):EffAt Tryz.prog 128 [.val (.pointer (some ⟨bw,0,none⟩)),.d (.agg (tokE t))] (wrkRs bw brd w v) (X:=Unit) (fun _=>.d (.int .i64 (aloneE w false))) (fun _=>wrkRs bw brd (lateW w t) v):=by
 refine EffAt.of_awp Tryz.func128 rfl (by kernel_rfl) rfl fun Γ hn=>?_
 refine Zu ?_
 refine Zb 3 hn rfl fun b3=>?_
 refine Zt 1 [] hn rfl ?_
 refine Zv (Zu ?_)
 refine Zt 10 [3,3,1050] hn rfl ?_
 refine Zv (Zu ?_)
 refine Zt 1 [] hn rfl ?_
 refine stepW (s_callE (ye bw brd (lateW w t) v false) rfl rfl rfl (nb hn rfl) (.d rfl) rfl (.refl _) ⟨rfl,rfl,trivial⟩ (fun _=>rfl) (fun _ _=>trivial)) fun _=>?_
 refine Zt 1 [] hn rfl ?_
 refine Zv (zI ?_)
 exact ret_E (.inl rfl) () (zj rfl (.tmp rfl)) ⟨rfl,rfl,trivial⟩
theorem rushed_eff (bw:Nat) (brd:Brd) (w:Wrk) (v:Value) (t:Tok):EffAt Tryz.prog 129 [.val (.pointer (some ⟨bw,0,none⟩)),.d (.agg (tokE t))] (wrkRs bw brd w v) (X:=Unit) (fun _=>.d (.int .i64 (aloneE w w.rush))) (fun _=>wrkRs bw brd (rushW w true) v):=by
 refine EffAt.of_awp Tryz.func129 rfl (by kernel_rfl) rfl fun Γ hn=>?_
 refine Zu ?_
 refine Zb 3 hn rfl fun b3=>?_
 refine Zt 1 [] hn rfl ?_
 refine Zv (Zu ?_)
 refine Zt 6 [1050] hn rfl ?_
 refine stepW (s_callE (ye bw brd w v w.rush) rfl rfl rfl (nb hn rfl) (.d rfl) rfl (.refl _) ⟨rfl,rfl,trivial⟩ (fun _=>rfl) (fun _ _=>trivial)) fun _=>?_
 refine Zt 1 [] hn rfl ?_
 refine Zv (Zu ?_)
 refine Zt 4 [] hn rfl ?_
 refine stepW (s_store1 rfl rfl rfl rfl rfl rfl (id:=1050) rfl sz4 (Nat.le_of_ble_eq_true rfl) rfl trivial) fun _=>?_
 refine Zv (Zu ?_)
 refine Zt 2 [] hn rfl ?_
 refine Zv (zI ?_)
 exact ret_E (.inl rfl) () (zj rfl (.tmp rfl)) ⟨rfl,rfl,trivial⟩
theorem calmed_eff (bw:Nat) (brd:Brd) (w:Wrk) (v:Value) (t:Tok):EffAt Tryz.prog 130 [.val (.pointer (some ⟨bw,0,none⟩)),.d (.agg (tokE t))] (wrkRs bw brd w v) (X:=Unit) (fun _=>.d (.int .i64 (aloneE w (!w.rush)))) (fun _=>wrkRs bw brd (rushW w false) v):=by
 refine EffAt.of_awp Tryz.func130 rfl (by kernel_rfl) rfl fun Γ hn=>?_
 refine Zu ?_
 refine Zb 3 hn rfl fun b3=>?_
 refine Zt 1 [] hn rfl ?_
 refine Zv (Zu ?_)
 refine Zt 7 [1050] hn rfl ?_
 refine stepW (s_callE (ye bw brd w v (!w.rush)) rfl rfl rfl (nb hn rfl) (.d rfl) rfl (.refl _) ⟨rfl,rfl,trivial⟩ (fun _=>rfl) (fun _ _=>trivial)) fun _=>?_
 refine Zt 1 [] hn rfl ?_
 refine Zv (Zu ?_)
 refine Zt 4 [] hn rfl ?_
 refine stepW (s_store1 rfl rfl rfl rfl rfl rfl (id:=1050) rfl sz4 (Nat.le_of_ble_eq_true rfl) rfl trivial) fun _=>?_
 refine Zv (Zu ?_)
 refine Zt 2 [] hn rfl ?_
 refine Zv (zI ?_)
 exact ret_E (.inl rfl) () (zj rfl (.tmp rfl)) ⟨rfl,rfl,trivial⟩
theorem numbered_eff (bw:Nat) (brd:Brd) (w:Wrk) (v:Value) (t:Tok):EffAt Tryz.prog 125 [.val (.pointer (some ⟨bw,0,none⟩)),.d (.agg (tokE t))] (wrkRs bw brd w v) (X:=Unit) (fun _=>.d (.int .i64 (aloneE w false))) (fun _=>wrkRs bw brd (numW w t) v):=by
 refine EffAt.of_awp Tryz.func125 rfl (by kernel_rfl) rfl fun Γ hn=>?_
 refine Zu ?_
 refine Zb 3 hn rfl fun b3=>?_
 refine Zt 1 [] hn rfl ?_
 refine Zv (Zu ?_)
 refine Zt 1 [] hn rfl ?_
 refine stepW (s_callE (ye bw brd w v false) rfl rfl rfl (nb hn rfl) (.d rfl) rfl (.refl _) ⟨rfl,rfl,trivial⟩ (fun _=>rfl) (fun _ _=>trivial)) fun _=>?_
 refine Zt 1 [] hn rfl ?_
 refine Zv (Zu ?_)
 refine Zt 6 [3] hn rfl ?_
 refine stepW (s_store1 rfl rfl rfl rfl rfl rfl (id:=1050) rfl sz3 (Nat.le_of_ble_eq_true rfl) rfl trivial) fun _=>?_
 refine Zv (Zu ?_)
 refine Zt 2 [] hn rfl ?_
 refine Zv (zI ?_)
 exact ret_E (.inl rfl) () (zj rfl (.tmp rfl)) ⟨rfl,rfl,trivial⟩
theorem named1_ok (s:Stk) (t:Tok):PureAt Tryz.prog 175 [.agg (stkE s),.ptr (tokE t)] (.bool (s.name == t.text)):=by
 refine Zp Tryz.func175 rfl fun Γ hn hl=>?_
 refine Zu ?_
 refine Zb 2 hn rfl fun b2=>?_
 refine Zt 1 [] hn rfl ?_
 refine Zv (Zu ?_)
 refine Zt 4 [2] hn rfl ?_
 refine Zs hn (yt rfl rfl rfl) ?_
 refine Zt 1 [] hn rfl ?_
 refine Zv (zI ?_)
 exact za (.inl rfl) hl rfl (.tmp rfl)
theorem named_eff (bw:Nat) (brd:Brd) (w:Wrk) (v:Value) (t:Tok):EffAt Tryz.prog 124 [.val (.pointer (some ⟨bw,0,none⟩)),.d (.agg (tokE t))] (wrkRs bw brd w v) (X:=Unit) (fun _=>.d (.int .i64 (namedE w brd t))) (fun _=>wrkRs bw brd (namedW w brd t) v):=by
 refine EffAt.of_awp Tryz.func124 rfl (by kernel_rfl) rfl fun Γ hn=>?_
 refine Zu (Zb 3 hn rfl fun b3=>Zt 1 [] hn rfl (Zv (Zu (Zt 5 [1050] hn rfl (yd (kn (t:=3) 3 rfl (nb hn rfl) rfl rfl trivial) ?_)))))
 refine Zs hn (yW rfl rfl rfl) ?_
 refine Zk hn rfl (zAA brd.stocks (fun s=>s.name == t.text) 175 [] [.ptr (tokE t)] (fun x _=>named1_ok x t)) (Zt 1 [] hn rfl (Zv (zD (Zu (Zt 2 [] hn rfl (Zv (zG rfl (fun hb0=>?_) (fun hb0=>?_))))))))
 have hneg:decide (nameI brd t < 0) = true:=hb0
 have e1:namedW w brd t = w:=by unfold namedW; rw [hneg]; rfl
 have e2:namedE w brd t = 5:=by unfold namedE; rw [hneg]; rfl
 rw [e1,e2]
 refine Zu (Zt 1 [] hn rfl (Zv (zI (zB ?_))))
 rotate_left
 have hneg:decide (nameI brd t < 0) = false:=hb0
 have e1:namedW w brd t = { w with stock:=nameI brd t }:=by unfold namedW; rw [hneg]; rfl
 have e2:namedE w brd t = aloneE w false:=by unfold namedE; rw [hneg]; rfl
 rw [e1,e2]
 refine zJ (zA (Zu (Zt 5 [] hn rfl (stepW (s_store1 rfl rfl rfl rfl rfl rfl (id:=1050) rfl sz3 (Nat.le_of_ble_eq_true rfl) rfl trivial) fun _=>?_))))
 refine Zv (Zu (Zt 1 [] hn rfl ?_))
 refine stepW (s_callE (ye bw brd { w with stock:=nameI brd t } v false) rfl rfl rfl (nb hn rfl) (.d rfl) rfl (.refl _) ⟨rfl,rfl,trivial⟩ (fun _=>rfl) (fun _ _=>trivial)) fun _=>?_
 refine Zt 1 [] hn rfl (Zv (zI ?_))
 rotate_left
 all_goals
  exact ret_E (.inl rfl) () (zj rfl (.tmp rfl)) ⟨rfl,rfl,trivial⟩
theorem sz39:Sz Tryz.prog 39 1:=(by kernel_rfl:(Tryz.prog.info? 39).map (·.size) = some 1)
theorem sz71:Sz Tryz.prog 71 8:=(by kernel_rfl:(Tryz.prog.info? 71).map (·.size) = some 8)
theorem elt39:ElT Tryz.prog 39 71 8 64:=kP underlying39 (z:=(.agg #[(.int .i64 0),(.int .i64 0),(.int .i64 0),(.int .i64 0),(.bool false),(.int .i64 0),(.int .i64 0),(.int .i64 0)])) (by kernel_rfl) rfl (by decide)
theorem zCq (bw:Nat) (brd:Brd) (w:Wrk) (v:Value) (t:Tok) (h8:w.out.length ≤ 8):EffAt Tryz.prog 126 [.val (.pointer (some ⟨bw,0,none⟩)),.d (.agg (tokE t))] (wrkRs bw brd w v) (X:=Value) (fun _=>.d (.int .i64 (saleE w))) (fun x=>wrkRs bw brd (saleW w brd t) x):=by
 refine EffAt.of_awp Tryz.func126 rfl (by kernel_rfl) rfl fun Γ hn=>?_
 refine Zu (Zb 3 hn rfl fun b3=>Zt 1 [] hn rfl (Zv (zD (zN (Zu (Zt 7 [1050] hn rfl (Zv (zG rfl (fun hb0=>?_) (fun hb0=>?_)))))))))
 have q0:decide (w.stock < 0) = true:=hb0
 have e1:saleW w brd t = w:=by unfold saleW; rw [q0]; rfl
 have e2:saleE w = 8:=by unfold saleE; rw [q0]; rfl
 rw [e1,e2]
 refine Zu (Zt 1 [] hn rfl (Zv (zI (zL (zB ?_)))))
 exact ret_E (.inl rfl) v (zj rfl (.tmp rfl)) ⟨rfl,rfl,trivial⟩
 have q0:decide (w.stock < 0) = false:=hb0
 refine Zu (Zt 4 [1050] hn rfl (Zs hn (zEd rfl rfl (id:=1051) rfl underlying39) ?_))
 refine Zt 2 [] hn rfl (Zv (zG rfl (fun hb1=>?_) (fun hb1=>?_)))
 have q1:((w.out.length:Int) == 8) = true:=by simpa using hb1
 have e1:saleW w brd t = w:=by unfold saleW; rw [q0,q1]; rfl
 have e2:saleE w = 3:=by unfold saleE; rw [q0,q1]; rfl
 rw [e1,e2]
 refine Zu (Zt 1 [] hn rfl (Zv (zI (zL (zB ?_)))))
 exact ret_E (.inl rfl) v (zj rfl (.tmp rfl)) ⟨rfl,rfl,trivial⟩
 have q1:((w.out.length:Int) == 8) = false:=by simpa using hb1
 refine zJ (zM (zA (Zu (Zt 1 [] hn rfl (Zb 5 hn rfl fun b5=>Zt 1 [5] hn rfl (Zv (zD (zN (Zu (Zt 7 [1050] hn rfl (Zv (zb (e:=.normal) (ι:=Unit) (fun x=>anys [28,29,30,31,32,33,34,35,36,37,38,40,41,42,43,44,39,45,46,47,48,49,50]) (fun x=>[(5,.box b5 65 [.d (.int .i64 (saleN w brd).1),.d (.int .i64 (saleN w brd).2)])]) (fun hJ2=>?_) ?_))))))))))))
 ·
  refine zG rfl (fun hb2=>?_) (fun hb2=>?_)
  have q2:decide (0 < w.number) = true:=hb2
  have e3:saleN w brd = (w.number,w.number):=by unfold saleN; rw [q2]; rfl
  refine zo (W:=fun b=>b ≠ bw) fmo ?_
  refine Zy [0,1,2,3,4,5,6,7,8,9,10] [1050,1050] hn rfl (zE (z7 (i:=5) (j:=1050) rfl rfl rfl (fun hne5_1050=>?_)))
  refine Zo 11 rfl (yN rfl rfl rfl rfl rfl rfl (id:=5) rfl sz65 rfl (Nat.le_of_ble_eq_true rfl) rfl (fun e=>hne5_1050 _ rfl (congrArg some e.symm))) fun _=>?_
  refine d2_of_d1 (zE (zl (by kernel_rfl) ?_))
  rotate_left
  focus
   have q2:decide (0 < w.number) = false:=hb2
   refine Zu (Zt 6 [1050] hn rfl (Zv (zG rfl (fun hb3=>?_) (fun hb3=>?_))))
   have q3:w.rush = true:=hb3
   have e3:saleN w brd = (1,brd.small):=by unfold saleN; rw [q2,q3]; rfl
   refine zH (Zt 6 [1050] hn rfl (stepW (s_store1 rfl rfl rfl rfl rfl rfl (id:=5) rfl sz3 (Nat.le_of_ble_eq_true rfl) rfl trivial) fun _=>?_))
   refine zQ ?_
   rotate_left
   have q3:w.rush = false:=hb3
   have e3:saleN w brd = (1,1):=by unfold saleN; rw [q2,q3]; rfl
   refine zJ ?_
   rotate_left
  rotate_left 2
  all_goals
   exact Zj hJ2 () (zF _) ⟨.inl (by rw [e3]; rfl),trivial⟩
 rintro _
 refine zM (zA (zD (zb (e:=.normal) (ι:=Value) (fun x=>anys [51,52,53,54,55,56,57,58,59,60,61,62,63,64,65,66,67,68,69,70,71,72,73,74,75,76,77,78,79,80,81]) (fun x=>[(1050,.box bw 167 (wrkC { w with out:=w.out ++ [saleP w brd t] } brd x)),(1051,.row x 71 8 ((w.out ++ [saleP w brd t]).map prtE))]) (fun hJ4=>?_) ?_)))
 ·
  refine zo (W:=fun b=>b ≠ b3 ∧ b ≠ b5) fmo ?_
  refine Zy [0,1,2,3,5,6,7,8,10,11,12,13,14,15,16,17,18,19,21,22,23,24] [5,3,3] hn rfl (zE ?_)
  refine zm 4 [9,20,25] (by kernel_rfl) ⟨?_,?_,?_,?_,trivial⟩
  focus
   refine br rfl (Zw hn (zY rfl rfl (id:=1050) rfl underlying39 rfl rfl sees0)) fun _=>?_
   refine d2_of_d1 (zE ?_)
   refine zm 9 [20,25] (by kernel_rfl) ⟨?_,?_,?_,trivial⟩
   focus
    refine br rfl (Zw hn (zY rfl rfl (id:=1050) rfl underlying3 rfl rfl sees0)) fun _=>?_
    refine d2_of_d1 (zE ?_)
    refine zm 20 [25] (by kernel_rfl) ⟨?_,?_,trivial⟩
    refine br rfl (Zw hn (zY rfl rfl (id:=1050) rfl underlying3 rfl rfl sees0)) fun _=>?_
    refine d2_of_d1 (zE (Ze [25] [1050] hn rfl ?_))
    rotate_left
    refine br rfl (Zw hn (zu rfl rfl (id:=1050) rfl underlying65 rfl sz65 rfl rfl sees0)) fun _=>?_
    refine d2_of_d1 (zE (Ze [20] [1050] hn rfl ?_))
    rotate_left
   rotate_left 2
   focus
    refine br rfl (Zw hn (zY rfl rfl (id:=1050) rfl underlying3 rfl rfl sees0)) fun _=>?_
    refine d2_of_d1 (zE ?_)
    refine zm 9 [25] (by kernel_rfl) ⟨?_,?_,trivial⟩
    refine br rfl (Zw hn (zY rfl rfl (id:=1050) rfl underlying3 rfl rfl sees0)) fun _=>?_
    refine d2_of_d1 (zE (Ze [25] [1050] hn rfl ?_))
    rotate_left
    refine br rfl (Zw hn (zu rfl rfl (id:=1050) rfl underlying65 rfl sz65 rfl rfl sees0)) fun _=>?_
    refine d2_of_d1 (zE (Ze [9] [1050] hn rfl ?_))
    rotate_left
   rotate_left 2
   focus
    refine br rfl (Zw hn (zu rfl rfl (id:=1050) rfl underlying65 rfl sz65 rfl rfl sees0)) fun _=>?_
    refine d2_of_d1 (zE ?_)
    refine zm 9 [20] (by kernel_rfl) ⟨?_,?_,trivial⟩
    refine br rfl (Zw hn (zY rfl rfl (id:=1050) rfl underlying3 rfl rfl sees0)) fun _=>?_
    refine d2_of_d1 (zE (Ze [20] [1050] hn rfl ?_))
    rotate_left
    refine br rfl (Zw hn (zY rfl rfl (id:=1050) rfl underlying3 rfl rfl sees0)) fun _=>?_
    refine d2_of_d1 (zE (Ze [9] [1050] hn rfl ?_))
    rotate_left
   rotate_left 2
   all_goals
    refine d2_of_d1 (Zy [26] [] hn rfl (zE (Zo 27 rfl (zP rfl rfl rfl (nb hn rfl) underlying39 sz71 zr71 rfl rfl rfl (show _ = [.d (.int .i64 0),.d (.int .i64 0),.d (.int .i64 0),.d (.int .i64 0),.d (.bool false),.d (.int .i64 0),.d (.int .i64 0),.d (.int .i64 0)] from by kernel_rfl) (by kernel_rfl) rfl (zk (by kernel_rfl) rfl) (zv _) (zq rfl) (zg rfl)) fun _=>?_)))
  rotate_left 6
  focus
   refine br rfl (Zw hn (zY rfl rfl (id:=1050) rfl underlying3 rfl rfl sees0)) fun _=>?_
   refine d2_of_d1 (zE ?_)
   refine zm 4 [20,25] (by kernel_rfl) ⟨?_,?_,?_,trivial⟩
   focus
    refine br rfl (Zw hn (zY rfl rfl (id:=1050) rfl underlying39 rfl rfl sees0)) fun _=>?_
    refine d2_of_d1 (zE ?_)
    refine zm 20 [25] (by kernel_rfl) ⟨?_,?_,trivial⟩
    refine br rfl (Zw hn (zY rfl rfl (id:=1050) rfl underlying3 rfl rfl sees0)) fun _=>?_
    refine d2_of_d1 (zE (Ze [25] [1050] hn rfl ?_))
    rotate_left
    refine br rfl (Zw hn (zu rfl rfl (id:=1050) rfl underlying65 rfl sz65 rfl rfl sees0)) fun _=>?_
    refine d2_of_d1 (zE (Ze [20] [1050] hn rfl ?_))
    rotate_left
    all_goals
     refine d2_of_d1 (Zy [26] [] hn rfl (zE (Zo 27 rfl (zP rfl rfl rfl (nb hn rfl) underlying39 sz71 zr71 rfl rfl rfl (show _ = [.d (.int .i64 0),.d (.int .i64 0),.d (.int .i64 0),.d (.int .i64 0),.d (.bool false),.d (.int .i64 0),.d (.int .i64 0),.d (.int .i64 0)] from by kernel_rfl) (by kernel_rfl) rfl (zk (by kernel_rfl) rfl) (zv _) (zq rfl) (zg rfl)) fun _=>?_)))
   rotate_left 2
   focus
    refine br rfl (Zw hn (zY rfl rfl (id:=1050) rfl underlying3 rfl rfl sees0)) fun _=>?_
    refine d2_of_d1 (zE ?_)
    refine zm 4 [25] (by kernel_rfl) ⟨?_,?_,trivial⟩
    refine br rfl (Zw hn (zY rfl rfl (id:=1050) rfl underlying39 rfl rfl sees0)) fun _=>?_
    refine d2_of_d1 (zE (Ze [25] [1050] hn rfl (d2_of_d1 (Zy [26] [] hn rfl (zE (Zo 27 rfl (zP rfl rfl rfl (nb hn rfl) underlying39 sz71 zr71 rfl rfl rfl (show _ = [.d (.int .i64 0),.d (.int .i64 0),.d (.int .i64 0),.d (.int .i64 0),.d (.bool false),.d (.int .i64 0),.d (.int .i64 0),.d (.int .i64 0)] from by kernel_rfl) (by kernel_rfl) rfl (zk (by kernel_rfl) rfl) (zv _) (zq rfl) (zg rfl)) fun _=>?_))))))
    rotate_left
    focus
     refine br rfl (Zw hn (zu rfl rfl (id:=1050) rfl underlying65 rfl sz65 rfl rfl sees0)) fun _=>?_
     refine d2_of_d1 (Zy [26] [] hn rfl (zE ?_))
     refine zm 4 [27] (by kernel_rfl) ⟨?_,?_,trivial⟩
     refine br rfl (Zw hn (zY rfl rfl (id:=1050) rfl underlying39 rfl rfl sees0)) fun _=>?_
     refine d2_of_d1 (zE (Zo 27 rfl (zP rfl rfl rfl (nb hn rfl) underlying39 sz71 zr71 rfl rfl rfl (show _ = [.d (.int .i64 0),.d (.int .i64 0),.d (.int .i64 0),.d (.int .i64 0),.d (.bool false),.d (.int .i64 0),.d (.int .i64 0),.d (.int .i64 0)] from by kernel_rfl) (by kernel_rfl) rfl (zk (by kernel_rfl) rfl) (zv _) (zq rfl) (zg rfl)) fun _=>?_))
     rotate_left
     refine br rfl (zP rfl rfl rfl (nb hn rfl) underlying39 sz71 zr71 rfl rfl rfl (show _ = [.d (.int .i64 0),.d (.int .i64 0),.d (.int .i64 0),.d (.int .i64 0),.d (.bool false),.d (.int .i64 0),.d (.int .i64 0),.d (.int .i64 0)] from by kernel_rfl) (by kernel_rfl) rfl (zk (by kernel_rfl) rfl) (zv _) (zq rfl) (zg rfl)) fun _=>?_
     refine d2_of_d1 (zE (Ze [4] [1050] hn rfl ?_))
     rotate_left
    rotate_left 2
   rotate_left 3
   focus
    refine br rfl (Zw hn (zu rfl rfl (id:=1050) rfl underlying65 rfl sz65 rfl rfl sees0)) fun _=>?_
    refine d2_of_d1 (zE ?_)
    refine zm 4 [20] (by kernel_rfl) ⟨?_,?_,trivial⟩
    refine br rfl (Zw hn (zY rfl rfl (id:=1050) rfl underlying39 rfl rfl sees0)) fun _=>?_
    refine d2_of_d1 (zE (Ze [20] [1050] hn rfl (d2_of_d1 (Zy [26] [] hn rfl (zE (Zo 27 rfl (zP rfl rfl rfl (nb hn rfl) underlying39 sz71 zr71 rfl rfl rfl (show _ = [.d (.int .i64 0),.d (.int .i64 0),.d (.int .i64 0),.d (.int .i64 0),.d (.bool false),.d (.int .i64 0),.d (.int .i64 0),.d (.int .i64 0)] from by kernel_rfl) (by kernel_rfl) rfl (zk (by kernel_rfl) rfl) (zv _) (zq rfl) (zg rfl)) fun _=>?_))))))
    rotate_left
    focus
     refine br rfl (Zw hn (zY rfl rfl (id:=1050) rfl underlying3 rfl rfl sees0)) fun _=>?_
     refine d2_of_d1 (Zy [26] [] hn rfl (zE ?_))
     refine zm 4 [27] (by kernel_rfl) ⟨?_,?_,trivial⟩
     refine br rfl (Zw hn (zY rfl rfl (id:=1050) rfl underlying39 rfl rfl sees0)) fun _=>?_
     refine d2_of_d1 (zE (Zo 27 rfl (zP rfl rfl rfl (nb hn rfl) underlying39 sz71 zr71 rfl rfl rfl (show _ = [.d (.int .i64 0),.d (.int .i64 0),.d (.int .i64 0),.d (.int .i64 0),.d (.bool false),.d (.int .i64 0),.d (.int .i64 0),.d (.int .i64 0)] from by kernel_rfl) (by kernel_rfl) rfl (zk (by kernel_rfl) rfl) (zv _) (zq rfl) (zg rfl)) fun _=>?_))
     rotate_left
     refine br rfl (zP rfl rfl rfl (nb hn rfl) underlying39 sz71 zr71 rfl rfl rfl (show _ = [.d (.int .i64 0),.d (.int .i64 0),.d (.int .i64 0),.d (.int .i64 0),.d (.bool false),.d (.int .i64 0),.d (.int .i64 0),.d (.int .i64 0)] from by kernel_rfl) (by kernel_rfl) rfl (zk (by kernel_rfl) rfl) (zv _) (zq rfl) (zg rfl)) fun _=>?_
     refine d2_of_d1 (zE (Ze [4] [1050] hn rfl ?_))
     rotate_left
    rotate_left 2
   rotate_left 3
  rotate_left 8
  focus
   refine br rfl (Zw hn (zY rfl rfl (id:=1050) rfl underlying3 rfl rfl sees0)) fun _=>?_
   refine d2_of_d1 (zE ?_)
   refine zm 4 [9,25] (by kernel_rfl) ⟨?_,?_,?_,trivial⟩
   focus
    refine br rfl (Zw hn (zY rfl rfl (id:=1050) rfl underlying39 rfl rfl sees0)) fun _=>?_
    refine d2_of_d1 (zE ?_)
    refine zm 9 [25] (by kernel_rfl) ⟨?_,?_,trivial⟩
    refine br rfl (Zw hn (zY rfl rfl (id:=1050) rfl underlying3 rfl rfl sees0)) fun _=>?_
    refine d2_of_d1 (zE (Ze [25] [1050] hn rfl ?_))
    rotate_left
    refine br rfl (Zw hn (zu rfl rfl (id:=1050) rfl underlying65 rfl sz65 rfl rfl sees0)) fun _=>?_
    refine d2_of_d1 (zE (Ze [9] [1050] hn rfl ?_))
    rotate_left
    all_goals
     refine d2_of_d1 (Zy [26] [] hn rfl (zE (Zo 27 rfl (zP rfl rfl rfl (nb hn rfl) underlying39 sz71 zr71 rfl rfl rfl (show _ = [.d (.int .i64 0),.d (.int .i64 0),.d (.int .i64 0),.d (.int .i64 0),.d (.bool false),.d (.int .i64 0),.d (.int .i64 0),.d (.int .i64 0)] from by kernel_rfl) (by kernel_rfl) rfl (zk (by kernel_rfl) rfl) (zv _) (zq rfl) (zg rfl)) fun _=>?_)))
   rotate_left 2
   focus
    refine br rfl (Zw hn (zY rfl rfl (id:=1050) rfl underlying3 rfl rfl sees0)) fun _=>?_
    refine d2_of_d1 (zE ?_)
    refine zm 4 [25] (by kernel_rfl) ⟨?_,?_,trivial⟩
    refine br rfl (Zw hn (zY rfl rfl (id:=1050) rfl underlying39 rfl rfl sees0)) fun _=>?_
    refine d2_of_d1 (zE (Ze [25] [1050] hn rfl (d2_of_d1 (Zy [26] [] hn rfl (zE (Zo 27 rfl (zP rfl rfl rfl (nb hn rfl) underlying39 sz71 zr71 rfl rfl rfl (show _ = [.d (.int .i64 0),.d (.int .i64 0),.d (.int .i64 0),.d (.int .i64 0),.d (.bool false),.d (.int .i64 0),.d (.int .i64 0),.d (.int .i64 0)] from by kernel_rfl) (by kernel_rfl) rfl (zk (by kernel_rfl) rfl) (zv _) (zq rfl) (zg rfl)) fun _=>?_))))))
    rotate_left
    focus
     refine br rfl (Zw hn (zu rfl rfl (id:=1050) rfl underlying65 rfl sz65 rfl rfl sees0)) fun _=>?_
     refine d2_of_d1 (Zy [26] [] hn rfl (zE ?_))
     refine zm 4 [27] (by kernel_rfl) ⟨?_,?_,trivial⟩
     refine br rfl (Zw hn (zY rfl rfl (id:=1050) rfl underlying39 rfl rfl sees0)) fun _=>?_
     refine d2_of_d1 (zE (Zo 27 rfl (zP rfl rfl rfl (nb hn rfl) underlying39 sz71 zr71 rfl rfl rfl (show _ = [.d (.int .i64 0),.d (.int .i64 0),.d (.int .i64 0),.d (.int .i64 0),.d (.bool false),.d (.int .i64 0),.d (.int .i64 0),.d (.int .i64 0)] from by kernel_rfl) (by kernel_rfl) rfl (zk (by kernel_rfl) rfl) (zv _) (zq rfl) (zg rfl)) fun _=>?_))
     rotate_left
     refine br rfl (zP rfl rfl rfl (nb hn rfl) underlying39 sz71 zr71 rfl rfl rfl (show _ = [.d (.int .i64 0),.d (.int .i64 0),.d (.int .i64 0),.d (.int .i64 0),.d (.bool false),.d (.int .i64 0),.d (.int .i64 0),.d (.int .i64 0)] from by kernel_rfl) (by kernel_rfl) rfl (zk (by kernel_rfl) rfl) (zv _) (zq rfl) (zg rfl)) fun _=>?_
     refine d2_of_d1 (zE (Ze [4] [1050] hn rfl ?_))
     rotate_left
    rotate_left 2
   rotate_left 3
   focus
    refine br rfl (Zw hn (zu rfl rfl (id:=1050) rfl underlying65 rfl sz65 rfl rfl sees0)) fun _=>?_
    refine d2_of_d1 (zE ?_)
    refine zm 4 [9] (by kernel_rfl) ⟨?_,?_,trivial⟩
    refine br rfl (Zw hn (zY rfl rfl (id:=1050) rfl underlying39 rfl rfl sees0)) fun _=>?_
    refine d2_of_d1 (zE (Ze [9] [1050] hn rfl (d2_of_d1 (Zy [26] [] hn rfl (zE (Zo 27 rfl (zP rfl rfl rfl (nb hn rfl) underlying39 sz71 zr71 rfl rfl rfl (show _ = [.d (.int .i64 0),.d (.int .i64 0),.d (.int .i64 0),.d (.int .i64 0),.d (.bool false),.d (.int .i64 0),.d (.int .i64 0),.d (.int .i64 0)] from by kernel_rfl) (by kernel_rfl) rfl (zk (by kernel_rfl) rfl) (zv _) (zq rfl) (zg rfl)) fun _=>?_))))))
    rotate_left
    focus
     refine br rfl (Zw hn (zY rfl rfl (id:=1050) rfl underlying3 rfl rfl sees0)) fun _=>?_
     refine d2_of_d1 (Zy [26] [] hn rfl (zE ?_))
     refine zm 4 [27] (by kernel_rfl) ⟨?_,?_,trivial⟩
     refine br rfl (Zw hn (zY rfl rfl (id:=1050) rfl underlying39 rfl rfl sees0)) fun _=>?_
     refine d2_of_d1 (zE (Zo 27 rfl (zP rfl rfl rfl (nb hn rfl) underlying39 sz71 zr71 rfl rfl rfl (show _ = [.d (.int .i64 0),.d (.int .i64 0),.d (.int .i64 0),.d (.int .i64 0),.d (.bool false),.d (.int .i64 0),.d (.int .i64 0),.d (.int .i64 0)] from by kernel_rfl) (by kernel_rfl) rfl (zk (by kernel_rfl) rfl) (zv _) (zq rfl) (zg rfl)) fun _=>?_))
     rotate_left
     refine br rfl (zP rfl rfl rfl (nb hn rfl) underlying39 sz71 zr71 rfl rfl rfl (show _ = [.d (.int .i64 0),.d (.int .i64 0),.d (.int .i64 0),.d (.int .i64 0),.d (.bool false),.d (.int .i64 0),.d (.int .i64 0),.d (.int .i64 0)] from by kernel_rfl) (by kernel_rfl) rfl (zk (by kernel_rfl) rfl) (zv _) (zq rfl) (zg rfl)) fun _=>?_
     refine d2_of_d1 (zE (Ze [4] [1050] hn rfl ?_))
     rotate_left
    rotate_left 2
   rotate_left 3
  rotate_left 8
  focus
   refine br rfl (Zw hn (zu rfl rfl (id:=1050) rfl underlying65 rfl sz65 rfl rfl sees0)) fun _=>?_
   refine d2_of_d1 (zE ?_)
   refine zm 4 [9,20] (by kernel_rfl) ⟨?_,?_,?_,trivial⟩
   focus
    refine br rfl (Zw hn (zY rfl rfl (id:=1050) rfl underlying39 rfl rfl sees0)) fun _=>?_
    refine d2_of_d1 (zE ?_)
    refine zm 9 [20] (by kernel_rfl) ⟨?_,?_,trivial⟩
    refine br rfl (Zw hn (zY rfl rfl (id:=1050) rfl underlying3 rfl rfl sees0)) fun _=>?_
    refine d2_of_d1 (zE (Ze [20] [1050] hn rfl ?_))
    rotate_left
    refine br rfl (Zw hn (zY rfl rfl (id:=1050) rfl underlying3 rfl rfl sees0)) fun _=>?_
    refine d2_of_d1 (zE (Ze [9] [1050] hn rfl ?_))
    rotate_left
    all_goals
     refine d2_of_d1 (Zy [26] [] hn rfl (zE (Zo 27 rfl (zP rfl rfl rfl (nb hn rfl) underlying39 sz71 zr71 rfl rfl rfl (show _ = [.d (.int .i64 0),.d (.int .i64 0),.d (.int .i64 0),.d (.int .i64 0),.d (.bool false),.d (.int .i64 0),.d (.int .i64 0),.d (.int .i64 0)] from by kernel_rfl) (by kernel_rfl) rfl (zk (by kernel_rfl) rfl) (zv _) (zq rfl) (zg rfl)) fun _=>?_)))
   rotate_left 2
   focus
    refine br rfl (Zw hn (zY rfl rfl (id:=1050) rfl underlying3 rfl rfl sees0)) fun _=>?_
    refine d2_of_d1 (zE ?_)
    refine zm 4 [20] (by kernel_rfl) ⟨?_,?_,trivial⟩
    refine br rfl (Zw hn (zY rfl rfl (id:=1050) rfl underlying39 rfl rfl sees0)) fun _=>?_
    refine d2_of_d1 (zE (Ze [20] [1050] hn rfl (d2_of_d1 (Zy [26] [] hn rfl (zE (Zo 27 rfl (zP rfl rfl rfl (nb hn rfl) underlying39 sz71 zr71 rfl rfl rfl (show _ = [.d (.int .i64 0),.d (.int .i64 0),.d (.int .i64 0),.d (.int .i64 0),.d (.bool false),.d (.int .i64 0),.d (.int .i64 0),.d (.int .i64 0)] from by kernel_rfl) (by kernel_rfl) rfl (zk (by kernel_rfl) rfl) (zv _) (zq rfl) (zg rfl)) fun _=>?_))))))
    rotate_left
    focus
     refine br rfl (Zw hn (zY rfl rfl (id:=1050) rfl underlying3 rfl rfl sees0)) fun _=>?_
     refine d2_of_d1 (Zy [26] [] hn rfl (zE ?_))
     refine zm 4 [27] (by kernel_rfl) ⟨?_,?_,trivial⟩
     refine br rfl (Zw hn (zY rfl rfl (id:=1050) rfl underlying39 rfl rfl sees0)) fun _=>?_
     refine d2_of_d1 (zE (Zo 27 rfl (zP rfl rfl rfl (nb hn rfl) underlying39 sz71 zr71 rfl rfl rfl (show _ = [.d (.int .i64 0),.d (.int .i64 0),.d (.int .i64 0),.d (.int .i64 0),.d (.bool false),.d (.int .i64 0),.d (.int .i64 0),.d (.int .i64 0)] from by kernel_rfl) (by kernel_rfl) rfl (zk (by kernel_rfl) rfl) (zv _) (zq rfl) (zg rfl)) fun _=>?_))
     rotate_left
     refine br rfl (zP rfl rfl rfl (nb hn rfl) underlying39 sz71 zr71 rfl rfl rfl (show _ = [.d (.int .i64 0),.d (.int .i64 0),.d (.int .i64 0),.d (.int .i64 0),.d (.bool false),.d (.int .i64 0),.d (.int .i64 0),.d (.int .i64 0)] from by kernel_rfl) (by kernel_rfl) rfl (zk (by kernel_rfl) rfl) (zv _) (zq rfl) (zg rfl)) fun _=>?_
     refine d2_of_d1 (zE (Ze [4] [1050] hn rfl ?_))
     rotate_left
    rotate_left 2
   rotate_left 3
   focus
    refine br rfl (Zw hn (zY rfl rfl (id:=1050) rfl underlying3 rfl rfl sees0)) fun _=>?_
    refine d2_of_d1 (zE ?_)
    refine zm 4 [9] (by kernel_rfl) ⟨?_,?_,trivial⟩
    refine br rfl (Zw hn (zY rfl rfl (id:=1050) rfl underlying39 rfl rfl sees0)) fun _=>?_
    refine d2_of_d1 (zE (Ze [9] [1050] hn rfl (d2_of_d1 (Zy [26] [] hn rfl (zE (Zo 27 rfl (zP rfl rfl rfl (nb hn rfl) underlying39 sz71 zr71 rfl rfl rfl (show _ = [.d (.int .i64 0),.d (.int .i64 0),.d (.int .i64 0),.d (.int .i64 0),.d (.bool false),.d (.int .i64 0),.d (.int .i64 0),.d (.int .i64 0)] from by kernel_rfl) (by kernel_rfl) rfl (zk (by kernel_rfl) rfl) (zv _) (zq rfl) (zg rfl)) fun _=>?_))))))
    rotate_left
    focus
     refine br rfl (Zw hn (zY rfl rfl (id:=1050) rfl underlying3 rfl rfl sees0)) fun _=>?_
     refine d2_of_d1 (Zy [26] [] hn rfl (zE ?_))
     refine zm 4 [27] (by kernel_rfl) ⟨?_,?_,trivial⟩
     refine br rfl (Zw hn (zY rfl rfl (id:=1050) rfl underlying39 rfl rfl sees0)) fun _=>?_
     refine d2_of_d1 (zE (Zo 27 rfl (zP rfl rfl rfl (nb hn rfl) underlying39 sz71 zr71 rfl rfl rfl (show _ = [.d (.int .i64 0),.d (.int .i64 0),.d (.int .i64 0),.d (.int .i64 0),.d (.bool false),.d (.int .i64 0),.d (.int .i64 0),.d (.int .i64 0)] from by kernel_rfl) (by kernel_rfl) rfl (zk (by kernel_rfl) rfl) (zv _) (zq rfl) (zg rfl)) fun _=>?_))
     rotate_left
     refine br rfl (zP rfl rfl rfl (nb hn rfl) underlying39 sz71 zr71 rfl rfl rfl (show _ = [.d (.int .i64 0),.d (.int .i64 0),.d (.int .i64 0),.d (.int .i64 0),.d (.bool false),.d (.int .i64 0),.d (.int .i64 0),.d (.int .i64 0)] from by kernel_rfl) (by kernel_rfl) rfl (zk (by kernel_rfl) rfl) (zv _) (zq rfl) (zg rfl)) fun _=>?_
     refine d2_of_d1 (zE (Ze [4] [1050] hn rfl ?_))
     rotate_left
    rotate_left 2
   rotate_left 3
  rotate_left 8
  all_goals
   refine d2_of_d1 (zE (z7 (i:=1051) (j:=3) rfl rfl rfl (fun hne1051_3=>?_)))
   refine z7 (i:=1051) (j:=5) rfl rfl rfl (fun hne1051_5=>?_)
   refine Zo 28 rfl (s_append (id:=1051) rfl rfl rfl (nb hn rfl) elt39 trivial rfl rfl rfl (by simp [chunk]; omega) (by simp [chunk]; omega) (fun b hb=>⟨fun e=>hne1051_3 _ hb (congrArg some e.symm),fun e=>hne1051_5 _ hb (congrArg some e.symm)⟩)) fun v79=>?_
   refine d2_of_d1 (Zy [29,30] [] hn rfl (zE (z7 (i:=1050) (j:=3) rfl rfl rfl (fun hne1050_3=>?_))))
   refine z7 (i:=1050) (j:=5) rfl rfl rfl (fun hne1050_5=>?_)
   refine Zo 31 rfl (s_storeRow rfl rfl rfl rfl rfl (rid:=1051) rfl (id:=1050) rfl sz39 (Nat.le_of_ble_eq_true rfl) rfl ⟨fun e=>hne1050_3 _ rfl (congrArg some e.symm),fun e=>hne1050_5 _ rfl (congrArg some e.symm)⟩) fun _=>?_
   refine d2_of_d1 (zE (zl (by kernel_rfl) ?_))
   exact Zj hJ4 v79 (zF _) ⟨.inl rfl,.inl (congrArg (fun z=>some (Res.row v79 71 8 z)) (addP (x:=saleP w brd t))),trivial⟩
 rintro v9
 refine zA (zD ?_)
 have e1:saleW w brd t = { w with number:=0,out:=w.out ++ [saleP w brd t] }:=by unfold saleW; rw [q0,q1]; rfl
 have e2:saleE w = 0:=by unfold saleE; rw [q0,q1]; rfl
 rw [e1,e2]
 refine zH (Zt 4 [] hn rfl (stepW (s_store1 rfl rfl rfl rfl rfl rfl (id:=1050) rfl sz3 (Nat.le_of_ble_eq_true rfl) rfl trivial) fun _=>?_))
 refine Zv (Zu (Zt 1 [] hn rfl (Zv (zI ?_))))
 exact ret_E (.inl rfl) v9 (zj rfl (.tmp rfl)) ⟨rfl,rfl,trivial⟩
end Go.Proofs.YticlpkgpmmhemaaGreatDoor
namespace Go.Proofs.YticlpkgpmmhemaaGreatDoor
open Go.RowKit
set_option linter.all false
set_option maxRecDepth 20000
set_option exponentiation.threshold 2000
def full8:Nat:=2 ^ 800 - 1
theorem yX (p:Nat):full8.testBit p = decide (p < 800):=Nat.testBit_two_pow_sub_one 800 p
def lvE (m:Nat):List D:=(List.range 800).map fun p=>.bool (m.testBit p)
@[reducible] def lvT (m:Nat):List TV:=(lvE m).map .d
theorem yI (m:Nat):(lvE m).length = 800:=by simp [lvE]
theorem zt (m:Nat):(lvT m).length = 800:=by simp [lvT,lvE]
theorem zCc {m p:Nat} (h:p < 800):(lvT m)[p]? = some (.d (.bool (m.testBit p))):=by
  simp [lvT,lvE,List.getElem?_map,List.getElem?_range h]
theorem zA9 {m p:Nat} (h:p < 800):(lvE m)[p]? = some (.bool (m.testBit p)):=by
  simp [lvE,List.getElem?_map,List.getElem?_range h]
theorem zDd {m m':Nat} (h:∀ p,p < 800 → m.testBit p = m'.testBit p):lvE m = lvE m':=by
  unfold lvE
  apply List.map_congr_left
  intro p hp
  rw [h p (List.mem_range.1 hp)]
theorem zET {m m':Nat} (h:m &&& full8 = m) (h':m' &&& full8 = m') (e:∀ p,p < 800 → m.testBit p = m'.testBit p):m = m':=by
  apply Nat.eq_of_testBit_eq
  intro p
  by_cases hp:p < 800
  · exact e p hp
  · have h1:m.testBit p = false:=by rw [← h,Nat.testBit_and,yX]; simp [hp]
    have h2:m'.testBit p = false:=by rw [← h',Nat.testBit_and,yX]; simp [hp]
    rw [h1,h2]
/-- One bit is set. -/
def putB (m p:Nat) (b:Bool):Nat:=bif m.testBit p == b then m else m ^^^ 2 ^ p
theorem kN (m p:Nat) (b:Bool) (q:Nat):(putB m p b).testBit q = if q = p then b else m.testBit q:=by
  unfold putB
  by_cases h:q = p
  · subst h
    cases hb:(m.testBit q == b)
    · simp only [cond_false,Nat.testBit_xor,Nat.testBit_two_pow_self,if_pos rfl]
      cases h1:m.testBit q <;> cases b <;> simp_all
    · simpa using hb
  · rw [if_neg h]
    cases hb:(m.testBit p == b)
    · simp only [cond_false,Nat.testBit_xor]
      rw [Nat.testBit_two_pow_of_ne (by omega)]
      simp
    · rfl
theorem zD7 {m p:Nat} {b:Bool} (h:p < 800):(lvT m).set p (.d (.bool b)) = lvT (putB m p b):=by
  apply List.ext_getElem?
  intro q
  by_cases hq:q < 800
  · rw [List.getElem?_set,zCc hq,zCc hq,kN,zt]
    by_cases e:p = q
    · subst e; rw [if_pos rfl,if_pos h,if_pos rfl]
    · rw [if_neg e,if_neg (fun x=>e x.symm)]
  · rw [List.getElem?_eq_none (by rw [List.length_set,zt]; omega),List.getElem?_eq_none (by rw [zt]; omega)]
theorem lvE_zero:lvE 0 = List.replicate 800 (.bool false):=by
  apply List.ext_getElem?
  intro q
  by_cases hq:q < 800
  · rw [zA9 hq,List.getElem?_replicate,if_pos hq,Nat.zero_testBit]
  · rw [List.getElem?_eq_none (by simp [yI]; omega),List.getElem?_eq_none (by rw [List.length_replicate]; omega)]
/-- The number whose bits are those below n that are so. -/
def maskOf (f:Nat → Bool):Nat → Nat
  | 0=>0
  | n + 1=>bif f n then maskOf f n ||| 2 ^ n else maskOf f n
theorem yF (f:Nat → Bool):∀ n p,(maskOf f n).testBit p = (decide (p < n) && f p)
  | 0,p=>by simp [maskOf]
  | n + 1,p=>by
    unfold maskOf
    by_cases e:p = n
    · subst e
      cases h:f p
      · simp [yF f p,h]
      · simp [yF f p,h,Nat.testBit_or]
    · have:decide (p < n + 1) = decide (p < n):=by simp only [decide_eq_decide]; omega
      rw [this]
      cases h:f n
      · simp [yF f n]
      · simp only [cond_true,Nat.testBit_or,yF f n]
        rw [Nat.testBit_two_pow_of_ne (by omega)]
        simp
theorem maskOf_full (f:Nat → Bool):maskOf f 800 &&& full8 = maskOf f 800:=by
  apply Nat.eq_of_testBit_eq
  intro p
  rw [Nat.testBit_and,yX,yF]
  cases decide (p < 800) <;> simp
def spreadN (l:Nat):Nat → Nat
  | 0=>l
  | j + 1=>spreadN l j ||| (l <<< (j + 1) ||| l >>> (j + 1))
theorem zA5 (l:Nat):∀ (j q:Nat),(spreadN l j).testBit q = true ↔ ∃ p,l.testBit p = true ∧ p ≤ q + j ∧ q ≤ p + j
  | 0,q=>by
    unfold spreadN
    constructor
    · exact fun h=>⟨q,h,by omega,by omega⟩
    · rintro ⟨p,h,h1,h2⟩; rwa [show q = p by omega]
  | j + 1,q=>by
    unfold spreadN
    rw [Nat.testBit_or,Nat.testBit_or,Nat.testBit_shiftLeft,Nat.testBit_shiftRight]
    simp only [Bool.or_eq_true,Bool.and_eq_true,decide_eq_true_eq,zA5 l j q]
    constructor
    · rintro (⟨p,h,h1,h2⟩ | ⟨h1,h⟩ | h)
      · exact ⟨p,h,by omega,by omega⟩
      · exact ⟨_,h,by omega,by omega⟩
      · exact ⟨_,h,by omega,by omega⟩
    · rintro ⟨p,h,h1,h2⟩
      by_cases e1:q = p + (j + 1)
      · exact .inr (.inl ⟨by omega,by rwa [show q - (j + 1) = p by omega]⟩)
      · by_cases e2:p = q + (j + 1)
        · exact .inr (.inr (by rwa [show j + 1 + q = p by omega]))
        · exact .inl ⟨p,h,by omega,by omega⟩
/-- The prices that differ from some of a level by at most j. -/
def nearN (l j:Nat):Nat:=spreadN (l &&& full8) j &&& (full8 ^^^ 1)
theorem zAr (l j q:Nat):(nearN l j).testBit q = true ↔ 1 ≤ q ∧ q < 800 ∧ ∃ p,p < 800 ∧ l.testBit p = true ∧ p ≤ q + j ∧ q ≤ p + j:=by
  unfold nearN
  rw [Nat.testBit_and,Nat.testBit_xor,yX,show (1:Nat).testBit q = decide (q = 0) from by cases q <;> simp [Nat.testBit_succ],Bool.and_eq_true,zA5]
  constructor
  · rintro ⟨⟨p,h1,h2,h3⟩,h4⟩
    rw [Nat.testBit_and,yX] at h1
    simp at h1 h4
    exact ⟨by omega,by omega,p,h1.2,h1.1,h2,h3⟩
  · rintro ⟨h1,h2,p,h3,h4,h5,h6⟩
    refine ⟨⟨p,?_,h5,h6⟩,?_⟩
    · rw [Nat.testBit_and,yX]; simp [h3,h4]
    · simp; omega
section
variable {α:Type} {k:Nat}
theorem zCM:∀ {rows:List (List α)},(∀ r ∈ rows,r.length = k) → rows.flatten.length = rows.length * k
  | [],_=>by simp
  | r :: rows,h=>by
    rw [List.flatten_cons,List.length_append,zCM fun x hx=>h x (List.mem_cons_of_mem _ hx),h r List.mem_cons_self,List.length_cons,Nat.add_mul,Nat.one_mul,Nat.add_comm]
theorem zCZ:∀ {rows:List (List α)} {i:Nat},(∀ r ∈ rows,r.length = k) → rows.flatten.drop (i * k) = (rows.drop i).flatten
  | [],_,_=>by simp
  | r :: rows,0,_=>by simp
  | r :: rows,i + 1,h=>by
    have hr:=h r List.mem_cons_self
    rw [List.flatten_cons,Nat.add_mul,Nat.one_mul,Nat.add_comm,← List.drop_drop,List.drop_append_of_le_length (by omega),List.drop_of_length_le (l:=r) (by omega),List.nil_append,zCZ fun x hx=>h x (List.mem_cons_of_mem _ hx)]
    rfl
theorem zDs:∀ {rows:List (List α)} {i:Nat},(∀ r ∈ rows,r.length = k) → rows.flatten.take (i * k) = (rows.take i).flatten
  | [],_,_=>by simp
  | r :: rows,0,_=>by simp
  | r :: rows,i + 1,h=>by
    have hr:=h r List.mem_cons_self
    rw [List.flatten_cons,List.take_succ_cons,List.flatten_cons,Nat.add_mul,Nat.one_mul,Nat.add_comm,List.take_append,List.take_of_length_le (l:=r) (by omega),hr,Nat.add_sub_cancel_left,zDs fun x hx=>h x (List.mem_cons_of_mem _ hx)]
theorem zEk {rows:List (List α)} {i:Nat} {r:List α} (h:∀ r ∈ rows,r.length = k) (hi:rows[i]? = some r):(rows.flatten.drop (i * k)).take k = r:=by
  obtain ⟨hlt,rfl⟩:=List.getElem?_eq_some_iff.1 hi
  have hr:=h _ (List.getElem_mem hlt)
  rw [zCZ h,List.drop_eq_getElem_cons hlt,List.flatten_cons,List.take_append_of_le_length (by omega),List.take_of_length_le (by omega)]
theorem zEX {rows:List (List α)} {i j:Nat} {r:List α} (h:∀ r ∈ rows,r.length = k) (hi:rows[i]? = some r) (hj:j < k):rows.flatten[i * k + j]? = r[j]?:=by
  rw [← zEk h hi,List.getElem?_take,if_pos hj,List.getElem?_drop]
theorem zEY {rows:List (List α)} {i:Nat} {x:List α} (h:∀ r ∈ rows,r.length = k) (hi:i < rows.length):rows.flatten.take (i * k) ++ x ++ rows.flatten.drop (i * k + k) = (rows.set i x).flatten:=by
  rw [show i * k + k = (i + 1) * k by rw [Nat.add_mul,Nat.one_mul],zDs h,zCZ h,List.set_eq_take_append_cons_drop,if_pos hi,List.flatten_append,List.flatten_cons,List.append_assoc]
theorem fl_set {rows:List (List α)} {i j:Nat} {r:List α} {c:α} (h:∀ r ∈ rows,r.length = k) (hi:rows[i]? = some r) (hj:j < k):rows.flatten.set (i * k + j) c = (rows.set i (r.set j c)).flatten:=by
  obtain ⟨hlt,rfl⟩:=List.getElem?_eq_some_iff.1 hi
  have hr:=h _ (List.getElem_mem hlt)
  rw [← zEY h hlt]
  apply List.ext_getElem?
  intro n
  have hfl:=zCM h
  have hik:i * k + k ≤ rows.flatten.length:=by
    rw [hfl]
    calc i * k + k = (i + 1) * k:=by rw [Nat.add_mul,Nat.one_mul]
      _ ≤ rows.length * k:=Nat.mul_le_mul_right k hlt
  have hl1:(rows.flatten.take (i * k)).length = i * k:=by rw [List.length_take]; omega
  have hl2:(rows[i].set j c).length = k:=by rw [List.length_set]; exact hr
  rw [List.getElem?_set,List.append_assoc]
  by_cases h1:n < i * k
  · rw [if_neg (by omega),List.getElem?_append_left (by omega),List.getElem?_take,if_pos h1]
  · rw [List.getElem?_append_right (by omega),hl1]
    by_cases h2:n < i * k + k
    · rw [List.getElem?_append_left (by omega),List.getElem?_set,hr]
      by_cases e:i * k + j = n
      · rw [if_pos e,if_pos (by omega),if_pos (by omega),if_pos (by omega)]
      · rw [if_neg e,if_neg (by omega)]
        have:=zEX h hi (show n - i * k < k by omega)
        rw [show i * k + (n - i * k) = n by omega] at this
        exact this
    · rw [List.getElem?_append_right (by omega),hl2,List.getElem?_drop,if_neg (by omega),show i * k + k + (n - i * k - k) = n by omega]
end
end Go.Proofs.YticlpkgpmmhemaaGreatDoor
namespace Go.Proofs.YticlpkgpmmhemaaGreatDoor
open Go.Proofs.Tryz
open Go.RowKit
set_option maxRecDepth 20000
set_option linter.all false
/-- Which function a kind of tokens has. -/
def actF (k:Int):FuncId:=match k.toNat with
  | 0=>123 | 1=>124 | 2=>125 | 3=>126 | 4=>126 | 5=>127 | 6=>128 | 7=>129 | _=>130
def actsL:List (List D):=(List.range 9).map fun k=>[.int .i64 (k:Nat),.fn (.func (actF (k:Nat))) [] []]
def actE (brd:Brd) (w:Wrk) (t:Tok):Int:=match t.kind.toNat with
  | 0=>4 | 1=>namedE w brd t | 2=>aloneE w false | 3=>saleE w | 4=>saleE w | 5=>aloneE w (decide (t.fst < w.minute)) | 6=>aloneE w false | 7=>aloneE w w.rush | _=>aloneE w (!w.rush)
def actW (brd:Brd) (w:Wrk) (t:Tok):Wrk:=match t.kind.toNat with
  | 0=>w | 1=>namedW w brd t | 2=>numW w t | 3=>saleW w brd t | 4=>saleW w brd t | 5=>timedW w t | 6=>lateW w t | 7=>rushW w true | _=>rushW w false
def KindOK (t:Tok):Prop:=∃ k:Nat,t.kind = k ∧ k ≤ 8
theorem acts_get {k:Nat} (h:k ≤ 8):actsL[k]? = some [.int .i64 (k:Nat),.fn (.func (actF (k:Nat))) [] []]:=by
  unfold actsL; rw [List.getElem?_map,List.getElem?_range (by omega)]; rfl
theorem act_eff (bw : Nat) (brd : Brd) (w : Wrk) (v : Value) (t : Tok) (h8 : w.out.length ≤ 8) (ht : KindOK t) :
    EffAt Tryz.prog (actF t.kind) [.val (.pointer (some ⟨bw,0,none⟩)),.d (.agg (tokE t))] (wrkRs bw brd w v) (X:=Value) (fun _=>.d (.int .i64 (actE brd w t))) (fun x=>wrkRs bw brd (actW brd w t) x):=by
  obtain ⟨k,hk,hk8⟩:=ht
  obtain ⟨kd,f,s,x⟩:=t
  dsimp only at hk
  subst hk
  match k,hk8 with
  | 0,_=>exact (none_eff bw brd w v _).imp (fun _=>v) (fun _=>rfl) (fun _=>rfl)
  | 1,_=>exact (named_eff bw brd w v _).imp (fun _=>v) (fun _=>rfl) (fun _=>rfl)
  | 2,_=>exact (numbered_eff bw brd w v _).imp (fun _=>v) (fun _=>rfl) (fun _=>rfl)
  | 3,_=>exact zCq bw brd w v _ h8
  | 4,_=>exact zCq bw brd w v _ h8
  | 5,_=>exact (timed_eff bw brd w v _).imp (fun _=>v) (fun _=>rfl) (fun _=>rfl)
  | 6,_=>exact (late_eff bw brd w v _).imp (fun _=>v) (fun _=>rfl) (fun _=>rfl)
  | 7,_=>exact (rushed_eff bw brd w v _).imp (fun _=>v) (fun _=>rfl) (fun _=>rfl)
  | 8,_=>exact (calmed_eff bw brd w v _).imp (fun _=>v) (fun _=>rfl) (fun _=>rfl)
theorem act_k (bw : Nat) (brd : Brd) (w : Wrk) (v : Value) (t : Tok) (h8 : w.out.length ≤ 8) (k : Nat) (hk : t.kind = (k : Nat)) (hk8 : k ≤ 8) :
    EffAt Tryz.prog (actF ((k:Nat):Int)) [.val (.pointer (some ⟨bw,0,none⟩)),.d (.agg (tokE t))] (wrkRs bw brd w v) (X:=Value) (fun _=>.d (.int .i64 (actE brd w t))) (fun x=>wrkRs bw brd (actW brd w t) x):=by
  have:=act_eff bw brd w v t h8 ⟨k,hk,hk8⟩
  rwa [hk] at this
theorem saleW_len {w:Wrk} {brd:Brd} {t:Tok} (h:w.out.length ≤ 8):(saleW w brd t).out.length ≤ 8:=by
  unfold saleW
  cases decide (w.stock < 0)
  · cases he:((w.out.length:Int) == 8)
    · have:w.out.length ≠ 8:=fun e=>by rw [e] at he; cases he
      simp; omega
    · simpa using h
  · exact h
theorem zCz {w:Wrk} {brd:Brd} {t:Tok} (h:w.out.length ≤ 8):(actW brd w t).out.length ≤ 8:=by
  unfold actW
  split <;> first | exact h | exact saleW_len h | skip
  unfold namedW
  cases decide (nameI brd t < 0) <;> exact h
theorem ym {b:Bool} {x y:Tok} (hx:KindOK x) (hy:KindOK y):KindOK (bif b then x else y):=by cases b; exact hy; exact hx
theorem zAd {b:Bool} {k:Nat} (h:k ≤ 8) {f s:Int} {x:List UInt8}:KindOK ⟨bif b then ((k:Nat):Int) else 0,f,s,x⟩:=by cases b; exact ⟨0,rfl,by omega⟩; exact ⟨k,rfl,h⟩
theorem zBB {k:Nat} (h:k ≤ 8) {f s:Int} {x:List UInt8}:KindOK ⟨((k:Nat):Int),f,s,x⟩:=⟨k,rfl,h⟩
theorem kU (s:List UInt8):KindOK (readT s):=by
  unfold readT
  exact ym (zBB (k:=0) (by omega)) (ym (zBB (k:=7) (by omega)) (ym (zBB (k:=8) (by omega)) (ym (zBB (k:=1) (by omega))
    (ym (zAd (k:=4) (by omega)) (ym (zAd (k:=5) (by omega)) (ym (zAd (k:=6) (by omega)) (ym (zAd (k:=2) (by omega)) (zAd (k:=3) (by omega)))))))))
/-- The tokens of a tape. -/
def toksN:Nat → List UInt8 → List Tok
  | 0,_=>[]
  | n + 1,s=>bif s == [] then [] else readT (Lib.cut s [32]).1 :: (bif (Lib.cut s [32]).2.2 && ((Lib.cut s [32]).2.1 == []) then [⟨0,0,0,[]⟩] else toksN n (Lib.cut s [32]).2.1)
def toksOf (s:List UInt8):List Tok:=toksN (s.length + 1) s
theorem zBR {s:List UInt8} (h:s ≠ []):(Lib.cut s [32]).2.1.length < s.length:=by
  have h0:0 < s.length:=List.length_pos_iff.2 h
  unfold Lib.cut
  split
  · rw [List.length_drop]
    have:([32]:List UInt8).length = 1:=rfl
    omega
  · exact h0
theorem zBy:∀ (n m:Nat) (s:List UInt8),s.length < n → s.length < m → toksN n s = toksN m s
  | 0,_,_,h,_=>by omega
  | _ + 1,0,_,_,h=>by omega
  | n + 1,m + 1,s,h1,h2=>by
    unfold toksN
    by_cases hs:s = []
    · subst hs; rfl
    · have:=zBR hs
      rw [zBy n m _ (by omega) (by omega)]
theorem toksOf_nil:toksOf [] = []:=rfl
theorem zA3 {s:List UInt8} (h:s ≠ []):toksOf s = readT (Lib.cut s [32]).1 :: (bif (Lib.cut s [32]).2.2 && ((Lib.cut s [32]).2.1 == []) then [⟨0,0,0,[]⟩] else toksOf (Lib.cut s [32]).2.1):=by
  have h1:=zBR h
  have h2:(s == []) = false:=by cases s; exact (h rfl).elim; rfl
  show toksN (s.length + 1) s = _
  rw [toksN,h2,cond_false,zBy s.length ((Lib.cut s [32]).2.1.length + 1) _ (by omega) (by omega)]
  rfl
theorem zBU:∀ (n:Nat) (s:List UInt8),∀ t ∈ toksN n s,KindOK t
  | 0,_,_,h=>by cases h
  | n + 1,s,t,h=>by
    unfold toksN at h
    cases hs:s == [] <;> rw [hs] at h
    · simp only [cond_false] at h
      rcases List.mem_cons.1 h with rfl | h
      · exact kU _
      · cases hc:((Lib.cut s [32]).2.2 && ((Lib.cut s [32]).2.1 == [])) <;> rw [hc] at h
        · exact zBU n _ t h
        · simp only [cond_true,List.mem_singleton] at h
          subst h; exact ⟨0,rfl,by omega⟩
    · cases h
theorem wrk_blks {bw b:Nat} {brd:Brd} {w:Wrk} {v:Value} (h:blks (wrkRs bw brd w v) b):b = bw ∨ (Res.row v 71 8 (w.out.map prtE)).blk = some b:=by
  obtain ⟨i,r,h1,h2⟩:=h
  rw [yu,yu] at h1
  split at h1
  · cases h1; exact .inl h2.symm
  · split at h1
    · cases h1; exact .inr h2
    · simp [lk] at h1
theorem zAZ {ro:Option Nat} {Γ:Cx} {P:Program} {σ:St} {Q:Exit → Act → World → Prop} {i j:Nat} {r r':Res} {ops:Array Oper} {W:Nat → Prop} {n:Nat} {listed:Array Bool} (hi:σ.rget i = some r) (hj:σ.rget j = some r') (hne:Nat.beq i j = false) (h:(∀ b,r.blk = some b → r'.blk ≠ some b) → D2I ro Γ P ops Q W n listed σ):D2I ro Γ P ops Q W n listed σ:=fun w1 F1 a w F hs =>
  h (fun b h1 h2=>by have:=hs.sep i j r r' b hi hj (kO h1) (kO h2); subst this; simp at hne) w1 F1 a w F hs
def tokX (t:Tok):List D:=[.agg (tokE t)]
theorem zCD {α:Type} {l r:List α} {x:α} {j:Nat} (h:l.drop j = x :: r):l[j]? = some x ∧ l.drop (j + 1) = r:=by
  constructor
  · have:=congrArg (fun z=>z[0]?) h
    simpa using this
  · have:=congrArg (List.drop 1) h
    simpa [List.drop_drop] using this
theorem zDJ {α:Type} {l:List α} {j:Nat} (h:l.drop j = []) (hj:j ≤ l.length):j = l.length:=by
  have:=congrArg List.length h
  simp at this; omega
theorem zEi {l:List Tok} {j:Nat} {t:Tok} (h:l[j]? = some t):(l.map tokX)[j]? = some (tokX t):=by simp [h]
theorem zEa {α:Type} {l:List α} {j:Nat} {x:α} (h:l[j]? = some x):j + 1 ≤ l.length:=(List.getElem?_eq_some_iff.1 h).1
/-- What is done with all tokens: the first error, and the tape's state. -/
def actsGo (brd:Brd):List Tok → Wrk → Int × Wrk
  | [],w=>(0,w)
  | t :: ts,w=>bif actE brd w t != 0 then (actE brd w t,w) else actsGo brd ts (actW brd w t)
def wrk0:Wrk:=⟨-1,0,0,0,0,false,[]⟩
/-- What Read hands back. -/
def readI (brd:Brd) (s:List UInt8):List Prt × Int :=
  bif checkT brd != 0 then ([],checkT brd) else bif decide (160 < (s.length:Int)) then ([],3) else
  bif (actsGo brd (toksOf s) wrk0).1 != 0 then ([],(actsGo brd (toksOf s) wrk0).1) else
  bif decide (0 < (actsGo brd (toksOf s) wrk0).2.number) then ([],8) else ((actsGo brd (toksOf s) wrk0).2.out,0)
theorem sz40:Sz Tryz.prog 40 1:=(by kernel_rfl:(Tryz.prog.info? 40).map (·.size) = some 1)
theorem sz163:Sz Tryz.prog 163 1:=(by kernel_rfl:(Tryz.prog.info? 163).map (·.size) = some 1)
theorem sz173:Sz Tryz.prog 173 1:=(by kernel_rfl:(Tryz.prog.info? 173).map (·.size) = some 1)
theorem sz175:Sz Tryz.prog 175 2:=(by kernel_rfl:(Tryz.prog.info? 175).map (·.size) = some 2)
theorem acts_ok :PureAt Tryz.prog 78 [] (.slice 2 actsL):=by
 refine Zp Tryz.func78 rfl fun Γ hn hl=>?_
 refine Zu ?_
 refine Zt 1 [] hn rfl ?_
 refine Zv (Zu ?_)
 refine Zt 9 [] hn rfl ?_
 refine stepW (zP rfl rfl rfl (nb hn rfl) underlying176 sz175 zr175 rfl rfl rfl (show _ = [.d (.int .i64 0),.val .nilFunc,.d (.int .i64 0),.val .nilFunc,.d (.int .i64 0),.val .nilFunc,.d (.int .i64 0),.val .nilFunc,.d (.int .i64 0),.val .nilFunc,.d (.int .i64 0),.val .nilFunc,.d (.int .i64 0),.val .nilFunc,.d (.int .i64 0),.val .nilFunc,.d (.int .i64 0),.val .nilFunc] from by kernel_rfl) (by kernel_rfl) rfl rfl rfl rfl rfl) fun _=>?_
 refine Zt 1 [] hn rfl ?_
 refine Zv (zI ?_)
 exact za (.inl rfl) hl rfl (.tmp rfl)
theorem tokens_eff (s:List UInt8):EffAt Tryz.prog 77 [.d (strD s)] [] (X:=Nat) (fun b=>.fn (.func 120) [] [.val (.pointer (some ⟨b,0,none⟩))]) (fun b=>[(1060,.box b 9 [.d (strD s)])]):=by
 refine EffAt.of_awp Tryz.func77 rfl (by kernel_rfl) rfl fun Γ hn=>?_
 refine Zu ?_
 refine Zb 1060 hn rfl fun b1=>?_
 refine Zt 1 [] hn rfl ?_
 refine Zv (Zu ?_)
 refine Zs hn (zAD rfl rfl rfl) ?_
 refine Zt 1 [] hn rfl ?_
 refine Zv (zI ?_)
 exact ret_E (.inl rfl) b1 (zj rfl (.tmp rfl)) ⟨rfl,trivial⟩
theorem toks1_ok (s:List UInt8) (bt:Nat) (h5:s.length ≤ 4294967000):SeqAtL Tryz.prog 120 [.val (.pointer (some ⟨bt,0,none⟩))] (1060,.box bt 9 [.d (strD s)]) ((toksOf s).map tokX):=by
 refine ⟨yo (fn:=Tryz.f120) (by kernel_rfl) rfl rfl,fun ι l R A B hy i0 hA0=>EffAt.of_awp Tryz.func120 rfl (by kernel_rfl) rfl fun Γ hn=>awi_wide.1 ?_⟩
 refine zAn (awi_loop_on (ι:={x:Nat × List UInt8 × ι // x.1 ≤ (toksOf s).length ∧ (toksOf s).drop x.1 = toksOf x.2.1 ∧ x.2.1.length ≤ s.length ∧ A x.1 x.2.2}) (fun x=>anys [6,7,9,10,8,11,12,13,3,4,5,14,15,16,17,18,19,20,21,22,23,27]) (fun x=>[(1060,.box bt 9 [.d (strD x.1.2.1)]),(7000,R x.1.2.2)]) (fun x=>x.1.2.1.length) ⟨(0,s,i0),Nat.zero_le _,rfl,Nat.le_refl _,hA0⟩ (zF _) ⟨.inl rfl,.inl rfl,trivial⟩ ?_)
 rintro ⟨⟨j,r,i⟩,hj,hd,hr,hA⟩
 dsimp only
 dsimp only at hj hd hr hA
 refine yb (yb (yG (ZtI 1 [1060] hn rfl (sqI rfl rfl hn rfl (zEl rfl rfl rfl) rfl ?_))))
 refine yY (yD (zAL rfl (fun hb0=>?_) (fun hb0=>?_)))
 have hne:r ≠ []:=by rintro rfl; exact absurd hb0 (by decide)
 have hcl:=zCS r [32]
 have hcs:=zBR hne
 rw [zA3 hne] at hd
 obtain ⟨hx1,hd1⟩:=zCD hd
 refine zAX (yD (zAn (yb (yG (ZtI 1 [1060] hn rfl (stepWI ((Zc hn (zDe r [32] (by omega))).i rfl) fun _=>?_))))))
 refine ZtI 7 [] hn rfl (yY (yD (yb (yb (yG (ZtI 2 [] hn rfl (stepWI ((Zc hn (read_ok (Lib.cut r [32]).1 (by omega))).i rfl) fun _=>?_)))))))
 refine stepWI (s_yield [] (i) (fun _=>hy j (tokX (readT (Lib.cut r [32]).1)) i (zEi hx1) hA) rfl (yA rfl) rfl (nb hn rfl) (fun _=>trivial) rfl rfl (.refl _) rfl (fun _ _=>trivial)) fun ⟨⟨b1,i1⟩,hp1,hp0⟩=>?_
 refine ZtI 1 [] hn rfl (yY (yD (zAL rfl (fun hb1=>?_) (fun hb1=>?_))))
 have hb1f:b1 = false:=by simpa using hb1
 have hB1:=(hp1 rfl).2 hb1f
 refine zCg (zB (zL (zB (zL ?_))))
 exact ret_E (.inl rfl) ⟨i1,.inr hB1⟩ (ko rfl) ⟨rfl,trivial⟩
 have hb1t:b1 = true:=by simpa using hb1
 have hA1:=(hp1 rfl).1 hb1t
 refine zAX (yD (yb (yb (yG (ZtI 2 [] hn rfl (stepGI [] (zK rfl rfl rfl) rfl (nb hn rfl) (fun hc=>trivial) (fun hc=>kY rfl rfl) rfl ?_))))))
 refine stepGI [(21,_)] (zK rfl rfl rfl) rfl (nb hn rfl) (fun hc=>⟨⟨_,rfl,hc⟩,trivial⟩) (fun hc=>yt rfl rfl rfl) rfl ?_
 refine ZtI 1 [] hn rfl (yY (yD (zAL rfl (fun hb2=>?_) (fun hb2=>?_))))
 rw [hb2] at hd1
 obtain ⟨hx2,hd2⟩:=zCD hd1
 have hje:=zDJ hd2 (zEa hx2)
 refine yb (yG (ZtI 2 [] hn rfl ?_))
 refine stepWI (s_yield [] (i1) (fun _=>hy (j + 1) (tokX ⟨0,0,0,[]⟩) i1 (zEi hx2) hA1) rfl (yA rfl) rfl (nb hn rfl) (fun _=>trivial) rfl rfl (.refl _) rfl (fun _ _=>trivial)) fun ⟨⟨b2,i2⟩,hq1,hq0⟩=>?_
 refine yY (yD (zCg (zB (zL (zB (zL ?_))))))
 exact ret_E (.inl rfl) ⟨i2,by cases b2; exact .inr ((hq1 rfl).2 rfl); exact .inl (by rw [List.length_map,← hje]; exact (hq1 rfl).1 rfl)⟩ (ko rfl) ⟨rfl,trivial⟩
 refine zAX (yD (yG (ZtI 1 [] hn rfl (stepWI ((s_store1 rfl rfl rfl rfl rfl rfl (id:=1060) rfl sz9 (Nat.le_of_ble_eq_true rfl) rfl trivial).i rfl) fun _=>?_))))
 refine yY (zM ?_)
 exact Zr ⟨(j + 1,(Lib.cut r [32]).2.1,i1),by have:=zEa hx1; omega,by simp only; rw [hd1,hb2]; rfl,by simp only; omega,hA1⟩ (zF _) ⟨.inl rfl,.inl rfl,trivial⟩ (by simp only; omega)
 obtain rfl:r = []:=by simpa using hb0
 rw [toksOf_nil] at hd
 have hje:=zDJ hd hj
 refine awi_exit (zC (zC (zO ?_)))
 exact ret_E (.inr rfl) ⟨i,.inl (by rw [List.length_map,← hje]; exact hA)⟩ (ko rfl) ⟨rfl,trivial⟩
theorem toks_len24 (s:List UInt8):∀ x ∈ (toksOf s).map tokX,x.length = (#[24]:Array Tmp).size:=fun x hx=>by
  obtain ⟨_,_,rfl⟩:=List.mem_map.1 hx
  rfl
theorem toks_get {l:List Tok} {j:Nat} {x:List D} (h:(l.map tokX)[j]? = some x):∃ t,l[j]? = some t ∧ tokX t = x:=by
  rw [List.getElem?_map] at h
  cases ht:l[j]? with
  | none=>rw [ht] at h; cases h
  | some t=>rw [ht] at h; cases h; exact ⟨t,rfl,rfl⟩
theorem zf {α:Type} {l:List α} {j:Nat} {x:α} (h:l[j]? = some x):l.drop j = x :: l.drop (j + 1):=by
  obtain ⟨hlt,rfl⟩:=List.getElem?_eq_some_iff.1 h
  rw [List.drop_eq_getElem_cons hlt]
theorem Read_eff (b:Brd) (s:List UInt8) (hN:NamesOK b) (h5:s.length ≤ 4294967000):EffAt Tryz.prog 20 [.d (brdD b),.d (strD s)] [] (X:=Unit) (fun _=>.d (.tup [prtsD (readI b s).1,.int .i64 (readI b s).2])) (fun _=>[]):=by
 refine EffAt.of_awpM Tryz.func20 rfl (by kernel_rfl) rfl fun Γ hn=>?_
 refine Zu (Zb 2 hn rfl fun b2=>Zb 4 hn rfl fun b4=>Zb 5 hn rfl fun b5=>Zv (zD (Zu (Zt 1 [2] hn rfl (Zk hn rfl (ky _ (by assumption)) (Zt 1 [] hn rfl (Zv (Zu (Zt 2 [] hn rfl (Zv (zG rfl (fun hb0=>?_) (fun hb0=>?_))))))))))))
 have q0:(checkT b != 0) = true:=hb0
 have e1:readI b s = ([],checkT b):=by unfold readI; rw [q0]; rfl
 rw [e1]
 refine Zu (Zt 1 [] hn rfl (stepW (s_store1 rfl rfl rfl rfl rfl rfl (id:=4) rfl sz39 (Nat.le_of_ble_eq_true rfl) rfl trivial) fun _=>?_))
 refine stepW (s_store1 rfl rfl rfl rfl rfl rfl (id:=5) rfl sz40 (Nat.le_of_ble_eq_true rfl) rfl trivial) fun _=>?_
 refine Zv (zI (zB ?_))
 exact ret_M (.inl rfl) () (.inl rfl) ((zr rfl (.cell rfl (id:=4) rfl underlying39 rfl rfl) (.cell rfl (id:=5) rfl underlying40 rfl rfl)).le (.tup (.cons (.nil 8) (.refl _)))) trivial rfl
 have q0:(checkT b != 0) = false:=hb0
 refine zJ (zA (zD (Zu (Zt 3 [] hn rfl (Zv (zG rfl (fun hb1=>?_) (fun hb1=>?_)))))))
 rw [zU] at hb1
 have e1:readI b s = ([],3):=by unfold readI; rw [q0,hb1]; rfl
 rw [e1]
 refine Zu (stepW (s_store1 rfl rfl rfl rfl rfl rfl (id:=4) rfl sz39 (Nat.le_of_ble_eq_true rfl) rfl trivial) fun _=>?_)
 refine stepW (s_store1 rfl rfl rfl rfl rfl rfl (id:=5) rfl sz40 (Nat.le_of_ble_eq_true rfl) rfl trivial) fun _=>?_
 refine Zv (zI (zB ?_))
 exact ret_M (.inl rfl) () (.inl rfl) ((zr rfl (.cell rfl (id:=4) rfl underlying39 rfl rfl) (.cell rfl (id:=5) rfl underlying40 rfl rfl)).le (.tup (.cons (.nil 8) (.refl _)))) trivial rfl
 rw [zU] at hb1
 have q1:decide (160 < (s.length:Int)) = false:=hb1
 refine zJ (zA (Zu (Zt 3 [2] hn rfl (Zb 1050 hn rfl fun b21=>Zb 7 hn rfl fun b7=>stepW (s_store1 rfl rfl rfl rfl rfl rfl (id:=7) rfl sz163 (Nat.le_of_ble_eq_true rfl) rfl trivial) fun _=>?_))))
 refine Zv (zD (zD (yH (gh_nilcell (id:=1050) (k:=9) 1051 71 8 rfl rfl) ?_)))
 refine zH (Zt 1 [] hn rfl (stepW (s_callE (tokens_eff s) rfl rfl rfl (nb hn rfl) (.d rfl) rfl (.refl _) trivial (fun _=>rfl) (fun _ _=>trivial)) fun bt=>?_))
 refine Zv (zN ?_)
 refine awp_rangeFuncL (n:=1060) (ι:=Wrk × Value × Int) (fun x=>[(4,.box b4 39 [.d .nil]),(5,.box b5 40 [.d (.int .i64 x.2.2)]),(7,.box b7 163 [.val (.pointer (some ⟨b21,0,none⟩))]),(1050,.box b21 167 (wrkC x.1 b x.2.1)),(1051,.row x.2.1 71 8 (x.1.out.map prtE))]) (fun j x=>x.2.2 = 0 ∧ x.1.out.length ≤ 8 ∧ actsGo b ((toksOf s).drop j) x.1 = actsGo b (toksOf s) wrk0) (fun c x=>c = .ret ∧ (x.2.2 != 0) = true ∧ (actsGo b (toksOf s) wrk0).1 = x.2.2) (wrk0,.slice none 0 0,0) (toks1_ok s bt h5) rfl (fun _=>rfl) (by decide) (by decide) (by decide) rfl (toks_len24 s) (by rw [hn]; rfl) (.inl rfl) ⟨rfl,rfl,rfl,rfl,rfl,trivial⟩ ⟨rfl,by decide,rfl⟩ (fun _=>rfl) (fun _=>rfl) rfl rfl ?_ ?_ ?_
 rintro l0 r0 Γr j0 x0 ⟨w,v,e⟩ hnr hrd hx0 hA0
 dsimp only at hA0
 obtain ⟨rfl,h8,hgo⟩:=hA0
 obtain ⟨t,ht,rfl⟩:=toks_get hx0
 have hk:=zBU _ _ t (List.mem_of_getElem? ht)
 obtain ⟨k,hk1,hk8⟩:=hk
 rw [zf ht] at hgo
 refine yG (stepWI ((yg 8 rfl rfl rfl (nb (hnr.trans hn) rfl) zr172 rfl rfl).i rfl) fun b8=>?_)
 refine stepWI ((Zx 8 sz172).i rfl) fun _=>?_
 refine yY (aend_begin hrd rfl (zAn (yb (d_startI (W:=fun b=>b ≠ b7 ∧ b ≠ b8) fmo ?_))))
 refine d1qI (i:=1) rfl (by kernel_rfl) rfl (fun _ _ _ _ h=>h) rfl rfl (hnr.trans hn) rfl (zA4 rfl rfl underlying172 rfl sz3) ?_
 refine d1qI (i:=2) rfl (by kernel_rfl) rfl (fun _ _ _ _ h=>h) rfl rfl (hnr.trans hn) rfl (zY rfl rfl (id:=8) rfl underlying3 rfl rfl (seesA (by simp))) ?_
 refine d1qI (i:=6) rfl (by kernel_rfl) rfl (fun _ _ _ _ h=>h) rfl rfl (hnr.trans hn) rfl (zY rfl rfl (id:=7) rfl underlying163 rfl rfl (seesA (by simp))) ?_
 refine d1qI (i:=7) rfl (by kernel_rfl) rfl (fun _ _ _ _ h=>h) rfl rfl (hnr.trans hn) rfl (zu rfl rfl (id:=8) rfl underlying172 rfl sz172 rfl rfl (seesA (by simp))) ?_
 refine zAm (zEC (i:=0) (by kernel_rfl) rfl ((s_call [] (fun _=>acts_ok) rfl (yA rfl) rfl (nb (hnr.trans hn) rfl) (fun _=>trivial) rfl rfl (.refl _)).i rfl) fun _=>?_)
 refine zCF (d1qI (i:=3) rfl (by kernel_rfl) rfl (fun _ _ _ _ h=>h) rfl rfl (hnr.trans hn) rfl (q_index (i:=k) rfl rfl rfl underlying176 sz175 (by rw [hk1]) (acts_get hk8)) ?_)
 refine d1qI (i:=4) rfl (by kernel_rfl) rfl (fun _ _ _ _ h=>h) rfl rfl (hnr.trans hn) rfl (zAQ rfl rfl underlying175 rfl sz173 rfl) ?_
 refine d1qI (i:=5) rfl (by kernel_rfl) rfl (fun _ _ _ _ h=>h) rfl rfl (hnr.trans hn) rfl (zDq rfl rfl underlying173 rfl seesFA) ?_
 refine zAm (zAZ (i:=1050) (j:=7) rfl rfl rfl (fun hne1050_7=>?_))
 refine zAZ (i:=1050) (j:=8) rfl rfl rfl (fun hne1050_8=>?_)
 refine zAZ (i:=1051) (j:=7) rfl rfl rfl (fun hne1051_7=>?_)
 refine zAZ (i:=1051) (j:=8) rfl rfl rfl (fun hne1051_8=>?_)
 refine zEC (i:=8) (by kernel_rfl) rfl ((s_callE (act_k b21 b w v t h8 k hk1 hk8) rfl rfl rfl (nb (hnr.trans hn) rfl) (.d rfl) rfl (.refl _) ⟨rfl,rfl,trivial⟩ (fun _=>rfl) (fun b hb=>(wrk_blks hb).elim (fun e=>e ▸ ⟨fun q=>hne1050_7 _ rfl (congrArg some q.symm),fun q=>hne1050_8 _ rfl (congrArg some q.symm)⟩) (fun e=>⟨fun q=>hne1051_7 _ e (congrArg some q.symm),fun q=>hne1051_8 _ e (congrArg some q.symm)⟩))).i rfl) fun v1=>?_
 refine zCF (d1qI (i:=9) rfl (by kernel_rfl) rfl (fun _ _ _ _ h=>h) rfl rfl (hnr.trans hn) rfl (zBq rfl rfl) ?_)
 refine zAm (d2_doneI (by kernel_rfl) ?_)
 refine yD (yb (yG (ZtI 2 [] (hnr.trans hn) rfl (yY (yD (zAL rfl (fun hb2=>?_) (fun hb2=>?_)))))))
 have q4:(actE b w t != 0) = true:=hb2
 refine yb (yG (ZtI 1 [] (hnr.trans hn) rfl (stepWI ((s_store1 rfl rfl rfl rfl rfl rfl (id:=4) rfl sz39 (Nat.le_of_ble_eq_true rfl) rfl trivial).i rfl) fun _=>?_)))
 refine stepWI ((s_store1 rfl rfl rfl rfl rfl rfl (id:=5) rfl sz40 (Nat.le_of_ble_eq_true rfl) rfl trivial).i rfl) fun _=>?_
 refine yY (yD (zCg (zL ?_)))
 exact aend_round_ret (actW b w t,v1,actE b w t) ⟨rfl,q4,by rw [← hgo,actsGo,q4]; rfl⟩ ⟨rfl,rfl,rfl,rfl,rfl,rfl,trivial⟩
 have q4:(actE b w t != 0) = false:=hb2
 refine zAX (zM ?_)
 exact aend_round_go (actW b w t,v1,0) ⟨rfl,zCz h8,by rw [← hgo,actsGo,q4]; rfl⟩ ⟨rfl,rfl,rfl,rfl,rfl,rfl,trivial⟩
 rintro ⟨w,v,e⟩ D0 hA0
 dsimp only at hA0
 obtain ⟨rfl,h8,hgo⟩:=hA0
 rw [List.length_map,List.drop_length] at hgo
 have q2:((actsGo b (toksOf s) wrk0).1 != 0) = false:=by rw [← hgo]; rfl
 have q3:(actsGo b (toksOf s) wrk0).2 = w:=by rw [← hgo]; rfl
 refine zM (zA (zD (Zu (Zt 6 [7,1050] hn rfl (Zv (zG rfl (fun hb3=>?_) (fun hb3=>?_)))))))
 have q5:decide (0 < w.number) = true:=hb3
 have e1:readI b s = ([],8):=by unfold readI; rw [q0,q1,q2,q3,q5]; rfl
 rw [e1]
 refine Zu (stepW (s_store1 rfl rfl rfl rfl rfl rfl (id:=4) rfl sz39 (Nat.le_of_ble_eq_true rfl) rfl trivial) fun _=>?_)
 refine stepW (s_store1 rfl rfl rfl rfl rfl rfl (id:=5) rfl sz40 (Nat.le_of_ble_eq_true rfl) rfl trivial) fun _=>?_
 refine Zv (zI (zB ?_))
 exact ret_M (.inl rfl) () (.inr rfl) ((zr rfl (.cell rfl (id:=4) rfl underlying39 rfl rfl) (.cell rfl (id:=5) rfl underlying40 rfl rfl)).le (.tup (.cons (.nil 8) (.refl _)))) trivial rfl
 have q5:decide (0 < w.number) = false:=hb3
 have e1:readI b s = (w.out,0):=by unfold readI; rw [q0,q1,q2,q3,q5]; rfl
 rw [e1]
 refine zJ (zA (Zu (Zt 4 [7,1050] hn rfl (yd (g_row (t:=46) (id:=1051) rfl rfl) ?_))))
 refine stepW (s_store1 rfl rfl rfl rfl rfl rfl (id:=4) rfl sz39 (Nat.le_of_ble_eq_true rfl) rfl trivial) fun _=>?_
 refine stepW (s_store1 rfl rfl rfl rfl rfl rfl (id:=5) rfl sz40 (Nat.le_of_ble_eq_true rfl) rfl trivial) fun _=>?_
 refine Zv (zI ?_)
 exact ret_M (.inl rfl) () (.inr rfl) (zr rfl (.cell rfl (id:=4) rfl underlying39 rfl rfl) (.cell rfl (id:=5) rfl underlying40 rfl rfl)) trivial rfl
 rintro c0 ⟨w,v,e⟩ D0 hB0
 dsimp only at hB0
 obtain ⟨rfl,he,hgo⟩:=hB0
 have e1:readI b s = ([],e):=by unfold readI; rw [q0,q1,hgo,he]; rfl
 rw [e1]
 refine zI (zL (zB ?_))
 exact ret_M (.inl rfl) () (.inr rfl) ((zr rfl (.cell rfl (id:=4) rfl underlying39 rfl rfl) (.cell rfl (id:=5) rfl underlying40 rfl rfl)).le (.tup (.cons (.nil 8) (.refl _)))) trivial rfl
end Go.Proofs.YticlpkgpmmhemaaGreatDoor
namespace Go.Proofs.YticlpkgpmmhemaaGreatDoor
open Go.Proofs.Tryz
open Go.RowKit
set_option maxRecDepth 20000
set_option linter.all false
set_option exponentiation.threshold 2000
theorem zDk (a b:Int):PureAt Tryz.prog 177 [.slice 1 [[.int .i64 a],[.int .i64 b]]] (.int .i64 (min a b)):=by
  have h:=Min_ok [a,b] (by simp)
  have e:Lib.minOf [a,b] = min a b:=by
    simp [Lib.minOf,List.foldl]
  rw [e] at h
  exact h
@[reducible] def intsT (l:List Int):List TV:=l.map fun n=>.d (.int .i64 n)
@[reducible] def bookC (b:Brd) (sales:List Prt) (vo:Value):List TV:=[.d (stksD b.stocks),.d (.int .i64 b.jump),.d (.int .i64 b.small),.d (prtsD sales),.val vo]
@[reducible] def bookRs (bb:Nat) (b:Brd) (sales:List Prt) (vo:Value) (l:List Int):List (Nat × Res):=[(1070,.box bb 214 (bookC b sales vo)),(1072,vecRes 3 vo 1 (intsT l))]
/-- Contains, of a list that is written. -/
theorem Contains_vec (vo:Value) (l:List Int) (x:Int) (hV:VecV vo 1 (intsT l)):EffAt Tryz.prog 163 [.val vo,.d (.int .i64 x)] [(1072,vecRes 3 vo 1 (intsT l))] (X:=Unit) (fun _=>.d (.bool (l.contains x))) (fun _=>[(1072,vecRes 3 vo 1 (intsT l))]):=by
  refine ⟨yo Tryz.func163 rfl rfl,fun w F vs hr hh=>?_⟩
  obtain ⟨u1,us,rfl,h1,u2,us2,rfl,h2,h3⟩:=hr
  cases h1; cases h2; cases h3
  have fin:∀ {e w'},e = .returned (.bool (l.contains x)) ∧ w' = w → EndsE (callCx w F [(1072,vecRes 3 vo 1 (intsT l))]) (X:=Unit) (fun _=>.d (.bool (l.contains x))) (fun _=>[(1072,vecRes 3 vo 1 (intsT l))]) e w':=by
    rintro e w' ⟨rfl,rfl⟩
    exact ⟨(),_,F,rfl,rfl,hh⟩
  rcases hV with ⟨rfl,hc⟩ | ⟨b,n,cap,rfl,hn,hcap,hl⟩
  · obtain rfl:l = []:=by simpa using hc
    exact (Tryz.slices_Contains_int_empty none 0 x w).mono fun e w' h=>fin h
  · have hl:l.length = n:=by simpa using hl
    obtain ⟨_,_,us,hb,hus,_⟩:=hh.res 1072 _ (zR _ _ _)
    refine (Tryz.slices_Contains_int b 0 n cap l x w (by omega) (by simp only [maxLen] at hcap; omega) fun j hj=>?_).mono fun e w' h=>fin (by rw [← hl,List.take_length] at h; exact h)
    have hj':(intsT l ++ List.replicate ((cap - n) * 1) .any)[j]? = some (.d (.int .i64 (l.getD j 0))):=by
      rw [List.getElem?_append_left (by simp; omega),List.getElem?_map,List.getElem?_eq_getElem (by omega)]
      simp [List.getD_eq_getElem?_getD,List.getElem?_eq_getElem (show j < l.length by omega)]
    obtain ⟨v,hv,hrep⟩:=hus.get hj'
    cases hrep
    simp [World.cell?,hb,hv]
/-- Whether a price can be that of a sale, by itself. -/
def fitsB (s:Prt) (i p:Int) (l:List Int):Bool:=bif l.contains i then true else bif s.full then p == s.fig else p.tmod 80 == s.fig
/-- The least and the greatest price of a level below n. -/
def bndGo (m:Nat):Nat → Int × Int
  | 0=>(799,0)
  | n + 1=>bif m.testBit n then (min (bndGo m n).1 (n:Nat),max (bndGo m n).2 (n:Nat)) else bndGo m n
def bndN (m:Nat):Int × Int:=bndGo m 800
def ownN (s:Prt) (i:Nat) (l:List Int) (m:Nat):Nat:=maskOf (fun p=>m.testBit p && fitsB s (i:Nat) (p:Nat) l) 800
def startN (s:Stk):Nat:=maskOf (fun p=>withinB (p:Nat) s.lo s.hi) 800
theorem zero800a:(Value.agg (Array.replicate 800 (Value.bool false))).cells.toList.map constTV = lvT 0:=by
  show List.map constTV (Array.replicate 800 (Value.bool false)).toList = lvT 0
  rw [Array.toList_replicate,List.map_replicate,lvT,lvE_zero,List.map_replicate]
  rfl
theorem zero800b:(Value.agg (Array.replicate 800 (Value.bool false))).cells.toList.all (·.oneCell') = true:=by
  show (Array.replicate 800 (Value.bool false)).toList.all (·.oneCell') = true
  rw [Array.toList_replicate]
  exact List.all_eq_true.2 fun x hx=>by rw [(List.mem_replicate.1 hx).2]; rfl
theorem zBM {m p:Nat} {b:Bool} (h:p < 800):(lvT m).set (0 + p * 1) (.d (.bool b)) = lvT (putB m p b):=by rw [Nat.zero_add,Nat.mul_one]; exact zD7 h
theorem take_flat {cs:List TV} (h:cs.length = 800):(cs.drop 0).take 800 = cs:=by rw [List.drop_zero,List.take_of_length_le (by omega)]
theorem ya (m:Nat):allD (((lvT m).drop 0).take 800) = some (lvE m):=by rw [take_flat (zt m)]; exact zv _
theorem kH {cs:List TV} (m:Nat) (h:cs.length = 800):cs.take 0 ++ (TV.d (.agg (lvE m))).cells ++ cs.drop (0 + 800) = lvT m:=by
  rw [List.take_zero,List.nil_append,List.drop_of_length_le (by omega),List.append_nil]; rfl
theorem near_in {a q:Nat} {m1 m2:Nat} (h0:a ≤ q) (h:∀ q2,q2 < 800 → (m2.testBit q2 = true ↔ m1.testBit q2 = true ∨ (a ≤ q2 ∧ q2 < q))):∀ q2,q2 < 800 → ((putB m2 q true).testBit q2 = true ↔ m1.testBit q2 = true ∨ (a ≤ q2 ∧ q2 < q + 1)):=by
  intro q2 hq2
  rw [kN]
  by_cases e:q2 = q
  · rw [if_pos e]
    exact ⟨fun _=>.inr ⟨by omega,by omega⟩,fun _=>rfl⟩
  · rw [if_neg e,h q2 hq2]
    constructor
    · rintro (h | h)
      · exact .inl h
      · exact .inr ⟨by omega,by omega⟩
    · rintro (h | h)
      · exact .inl h
      · exact .inr ⟨by omega,by omega⟩
theorem near_up {a b q:Nat} {m1 m2:Nat} (hq:q = max a b) (h:∀ q2,q2 < 800 → (m2.testBit q2 = true ↔ m1.testBit q2 = true ∨ (a ≤ q2 ∧ q2 < q))):∀ q2,q2 < 800 → (m2.testBit q2 = true ↔ m1.testBit q2 = true ∨ (a ≤ q2 ∧ q2 < b)):=by
  intro q2 hq2
  rw [h q2 hq2]
  constructor
  · rintro (h | h)
    · exact .inl h
    · exact .inr ⟨by omega,by omega⟩
  · rintro (h | h)
    · exact .inl h
    · exact .inr ⟨by omega,by omega⟩
theorem near_step {l J p : Nat} {m m2 : Nat} (hp : p < 800) (hl : l.testBit p = true) (h : ∀ q, q < 800 → (m.testBit q = true ↔ 1 ≤ q ∧ ∃ p', p' < p ∧ l.testBit p' = true ∧ p' ≤ q + J ∧ q ≤ p' + J))
    (h2:∀ q,q < 800 → (m2.testBit q = true ↔ m.testBit q = true ∨ (max 1 (p - J) ≤ q ∧ q < min 799 (p + J) + 1))):∀ q,q < 800 → (m2.testBit q = true ↔ 1 ≤ q ∧ ∃ p',p' < p + 1 ∧ l.testBit p' = true ∧ p' ≤ q + J ∧ q ≤ p' + J):=by
  intro q hq
  rw [h2 q hq,h q hq]
  constructor
  · rintro (⟨h1,p',k1,k2,k3,k4⟩ | ⟨h1,h2⟩)
    · exact ⟨h1,p',by omega,k2,k3,k4⟩
    · exact ⟨by omega,p,by omega,hl,by omega,by omega⟩
  · rintro ⟨h1,p',k1,k2,k3,k4⟩
    by_cases e:p' = p
    · subst e; exact .inr ⟨by omega,by omega⟩
    · exact .inl ⟨h1,p',by omega,k2,k3,k4⟩
theorem near_skip {l J p : Nat} {m : Nat} (hl : l.testBit p = false) (h : ∀ q, q < 800 → (m.testBit q = true ↔ 1 ≤ q ∧ ∃ p', p' < p ∧ l.testBit p' = true ∧ p' ≤ q + J ∧ q ≤ p' + J)) :
    ∀ q,q < 800 → (m.testBit q = true ↔ 1 ≤ q ∧ ∃ p',p' < p + 1 ∧ l.testBit p' = true ∧ p' ≤ q + J ∧ q ≤ p' + J):=by
  intro q hq
  rw [h q hq]
  constructor
  · rintro ⟨h1,p',k1,k2,k3,k4⟩; exact ⟨h1,p',by omega,k2,k3,k4⟩
  · rintro ⟨h1,p',k1,k2,k3,k4⟩
    by_cases e:p' = p
    · subst e; rw [hl] at k2; cases k2
    · exact ⟨h1,p',by omega,k2,k3,k4⟩
theorem near_end {l J m:Nat} (h:∀ q,q < 800 → (m.testBit q = true ↔ 1 ≤ q ∧ ∃ p',p' < 800 ∧ l.testBit p' = true ∧ p' ≤ q + J ∧ q ≤ p' + J)):lvE m = lvE (nearN l J):=zDd fun q hq=>by
  rw [Bool.eq_iff_iff,h q hq,zAr]
  exact ⟨fun ⟨h1,h2⟩=>⟨h1,hq,h2⟩,fun ⟨h1,_,h2⟩=>⟨h1,h2⟩⟩
theorem sz29:Sz Tryz.prog 29 1:=(by kernel_rfl:(Tryz.prog.info? 29).map (·.size) = some 1)
theorem sz185:Sz Tryz.prog 185 800:=(by kernel_rfl:(Tryz.prog.info? 185).map (·.size) = some 800)
theorem zr3:(Tryz.prog.info? 3).map (·.zero) = some (some (.int .i64 0)):=by kernel_rfl
theorem zr185:(Tryz.prog.info? 185).map (·.zero) = some (some (.agg (Array.replicate 800 (.bool false)))):=by kernel_rfl
theorem minimum_ok (a b:Int):PureAt Tryz.prog 134 [.slice 1 [[.int .i64 a],[.int .i64 b]]] (.int .i64 (min a b)):=by
 refine Zp Tryz.func134 rfl fun Γ hn hl=>?_
 refine Zu ?_
 refine Zt 1 [] hn rfl ?_
 refine Zv (Zu ?_)
 refine Zt 1 [] hn rfl ?_
 refine Zk hn rfl (zDk a b) ?_
 refine Zt 1 [] hn rfl ?_
 refine Zv (zI ?_)
 exact za (.inl rfl) hl rfl (.tmp rfl)
theorem zC0 (bb:Nat) (b:Brd) (sales:List Prt) (vo:Value) (l:List Int) (hV:VecV vo 1 (intsT l)) (s:Prt) (i:Nat) (p:Int) (hs:sales[i]? = some s):EffAt Tryz.prog 103 [.val (.pointer (some ⟨bb,0,none⟩)),.d (.agg [.int .i64 (i:Nat),.int .i64 p])] (bookRs bb b sales vo l) (X:=Unit) (fun _=>.d (.bool (fitsB s i p l))) (fun _=>bookRs bb b sales vo l):=by
 refine EffAt.of_awp Tryz.func103 rfl (by kernel_rfl) rfl fun Γ hn=>?_
 refine Zu (Zb 3 hn rfl fun b3=>Zt 1 [] hn rfl (Zv (zD ?_)))
 refine zb (e:=.normal) (ι:=Nat) (fun b5=>(5,true,.val (.pointer (some ⟨b5,0,none⟩))) :: anys [6,7,8,9,10,11,12,13]) (fun b5=>[(5,.box b5 71 ((prtE s).map .d))]) (fun hJ0=>?_) ?_
 refine zo (W:=fun b=>b ≠ b3 ∧ b ≠ bb) fmo ?_
 refine Zy [0,1,2,3,4,5] [1070,3] hn rfl (Zd 6 rfl hn (q_index (i:=i) rfl rfl rfl underlying39 sz71 rfl (mget hs)) ?_)
 refine Zy [7] [] hn rfl (zE (Zo 8 rfl (yg 5 rfl rfl rfl (nb hn rfl) zr71 rfl rfl) fun b5=>?_))
 refine d2_of_d1 (zE (z7 (i:=5) (j:=3) rfl rfl rfl (fun hne5_3=>?_)))
 refine z7 (i:=5) (j:=1070) rfl rfl rfl (fun hne5_1070=>?_)
 refine Zo 9 rfl (yN rfl rfl rfl rfl rfl rfl (id:=5) rfl sz71 rfl (Nat.le_of_ble_eq_true rfl) rfl ⟨fun e=>hne5_3 _ rfl (congrArg some e.symm),fun e=>hne5_1070 _ rfl (congrArg some e.symm)⟩) fun _=>?_
 refine d2_of_d1 (zE (zl (by kernel_rfl) ?_))
 exact Zj hJ0 b5 ⟨.inl rfl,zF _⟩ ⟨.inl rfl,trivial⟩
 rintro b5
 refine zA (zD (zN (zD (zb (e:=.normal) (ι:=Unit) (fun x=>(14,true,.d (.bool (l.contains ((i:Nat):Int)))) :: anys [15,16,17,18,19,20,21]) (fun x=>[(1072,vecRes 3 vo 1 (intsT l))]) (fun hJ1=>?_) ?_))))
 ·
  refine zo (W:=fun b=>True) fmo ?_
  refine Zy [0,1,2,4] [] hn rfl (zE ?_)
  refine zm 3 [5] (by kernel_rfl) ⟨?_,?_,trivial⟩
  refine br rfl (Zw hn (zY rfl rfl (id:=1070) rfl underlying29 rfl rfl sees0)) fun _=>?_
  refine d2_of_d1 (zE (Ze [5] [3] hn rfl ?_))
  rotate_left
  refine br rfl (Zw hn (zY rfl rfl (id:=3) rfl underlying3 rfl rfl sees0)) fun _=>?_
  refine d2_of_d1 (zE (Ze [3] [1070] hn rfl ?_))
  rotate_left
  all_goals
   refine d2_of_d1 (zE ?_)
   refine Zo 6 rfl (s_callE (Contains_vec vo l (i:Nat) hV) rfl rfl rfl (nb hn rfl) (.d rfl) rfl (.refl _) ⟨rfl,trivial⟩ (fun _=>rfl) (fun _ _=>trivial)) fun _=>?_
   refine d2_of_d1 (Zy [7] [] hn rfl (zE (zl (by kernel_rfl) ?_)))
   exact Zj hJ1 () ⟨.inl rfl,zF _⟩ ⟨.inl rfl,trivial⟩
 rintro _
 refine zA (zG rfl (fun hb2=>?_) (fun hb2=>?_))
 refine Zu (Zt 1 [] hn rfl (Zv (zI (zL (zB ?_)))))
 exact ret_E (.inl rfl) () ((zj rfl (.tmp rfl)).eq (by unfold fitsB; rw [hb2]; rfl)) ⟨rfl,rfl,trivial⟩
 refine Zu (Zt 3 [5] hn rfl (Zv (zG rfl (fun hb3=>?_) (fun hb3=>?_))))
 refine Zu (Zt 6 [3,5] hn rfl (Zv (zI (zL (zB ?_)))))
 rotate_left
 refine zJ (zM (zA (Zu (Zt 2 [3] hn rfl (Zs hn (zAT rfl rfl rfl (by omega) rfl) ?_)))))
 refine Zt 4 [5] hn rfl (Zv (zI ?_))
 rotate_left
 all_goals
  exact ret_E (.inl rfl) () ((zj rfl (.tmp rfl)).eq (by unfold fitsB; rw [hb2,hb3]; rfl)) ⟨rfl,rfl,trivial⟩
theorem own_eff (bb:Nat) (b:Brd) (sales:List Prt) (vo:Value) (l:List Int) (hV:VecV vo 1 (intsT l)) (s:Prt) (i:Nat) (m:Nat) (hs:sales[i]? = some s):EffAt Tryz.prog 132 [.val (.pointer (some ⟨bb,0,none⟩)),.d (.int .i64 (i:Nat)),.d (.agg (lvE m))] (bookRs bb b sales vo l) (X:=Unit) (fun _=>.d (.agg (lvE (ownN s i l m)))) (fun _=>bookRs bb b sales vo l):=by
 refine EffAt.of_awp Tryz.func132 rfl (by kernel_rfl) rfl fun Γ hn=>?_
 refine Zu (Zb 5 hn rfl fun b5=>stepW (yg 6 rfl rfl rfl (nb hn rfl) zr185 zero800a zero800b) fun b6=>?_)
 refine Zv (zD (Zu (Zs hn (zu rfl rfl (id:=5) rfl underlying185 rfl sz185 (ya m) (yI m) sees0) ?_)))
 refine Zt 1 [] hn rfl (Zv (zN (awp_loop_on (ι:={x:Nat × Nat // x.1 ≤ 800 ∧ ∀ q,q < 800 → x.2.testBit q = if q < x.1 then m.testBit q && fitsB s (i:Nat) (q:Nat) l else m.testBit q}) (fun x=>(10,true,.d (.int .i64 (x.1.1:Nat))) :: anys [11,12,13,7,8,14,15,16,17,18,19,20,21,22,23,24]) (fun x=>[(5,.box b5 185 (lvT x.1.2)),(1070,.box bb 214 (bookC b sales vo)),(1072,vecRes 3 vo 1 (intsT l))]) (fun x=>800 - x.1.1) ⟨(0,m),by simp,fun q _=>by simp⟩ ⟨.inl rfl,zF _⟩ ⟨.inl rfl,.inl rfl,.inl rfl,trivial⟩ ?_)))
 rintro ⟨⟨p,m1⟩,hp,hm1⟩
 dsimp only
 dsimp only at hp hm1
 refine Zu (Zt 1 [] hn rfl (Zv (zD (zG rfl (fun hb0=>?_) (fun hb0=>?_)))))
 have hlt:p < 800:=by simp at hb0; omega
 refine zJ (zA (zD (zN (Zu (Zt 1 [] hn rfl (Zs hn (q_indexAgg rfl rfl rfl underlying185 underlying4 rfl sz4 rfl hlt (zA9 hlt)) ?_))))))
 refine Zt 2 [] hn rfl (Zv (zH (Zt 7 [] hn rfl ?_)))
 refine stepW (s_callEg [(17,_),(20,_)] () (fun hc=>zC0 bb b sales vo l hV s i (p:Nat) hs) rfl (zK rfl rfl rfl) rfl (nb hn rfl) (fun hc=>⟨⟨_,rfl,hc⟩,⟨_,rfl,hc⟩,trivial⟩) (.d rfl) rfl (.refl _) ⟨rfl,rfl,trivial⟩ (fun _=>rfl) (fun _ _=>trivial) ⟨rfl,rfl,trivial⟩) fun _=>?_
 refine Zt 1 [] hn rfl (Zs hn (q_indexA rfl rfl rfl underlying185 sz4 rfl (by omega)) ?_)
 refine stepW (s_store1 rfl rfl rfl rfl rfl rfl (id:=5) rfl sz4 (by rw [zt]; omega) (zBM hlt) trivial) fun _=>?_
 refine zQ (zM (zA (zH (Zs hn (zh rfl rfl rfl (r:=((p + 1:Nat):Int)) (i64w (by omega) (by omega))) ?_))))
 refine Zt 1 [] hn rfl (zQ ?_)
 exact Zr ⟨(p + 1,putB m1 p (m.testBit p && fitsB s (i:Nat) (p:Nat) l)),by simp only; omega,fun q hq=>by simp only; rw [kN,hm1 q hq]; by_cases e:q = p; (subst e; simp); (by_cases e2:q < p; simp [e,e2,show q < p + 1 by omega]; simp [e,e2,show ¬ q < p + 1 by omega])⟩ ⟨.inl rfl,zF _⟩ ⟨.inl rfl,.inl rfl,.inl rfl,trivial⟩ (by simp only; omega)
 have hpe:p = 800:=by simp at hb0; omega
 subst hpe
 have hlv:lvE m1 = lvE (ownN s i l m):=zDd fun q hq=>by rw [hm1 q hq,if_pos hq]; unfold ownN; rw [yF]; simp [hq]
 refine zX (zC (zC (zO (zA (Zu (Zs hn (zu rfl rfl (id:=5) rfl underlying185 rfl sz185 (ya m1) (yI m1) sees0) ?_))))))
 refine stepW (yN rfl rfl rfl rfl rfl rfl (id:=6) rfl sz185 (by rw [show (TV.cells (.d (.agg (lvE m1)))) = lvT m1 from rfl,zt]) (by rw [zt]; decide) (kH m1 (zt 0)) trivial) fun _=>?_
 refine Zv (zI ?_)
 exact ret_E (.inl rfl) () (zj rfl (.d (.cellA rfl (id:=6) rfl underlying185 rfl sz185 ((ya m1).trans (congrArg some hlv)) (yI _)))) ⟨rfl,rfl,trivial⟩
theorem zC8 (bb:Nat) (b:Brd) (sales:List Prt) (vo:Value) (l:List Int) (hV:VecV vo 1 (intsT l)) (J:Nat) (hJ:b.jump = (J:Nat)) (hJ4:J ≤ 40) (m:Nat):EffAt Tryz.prog 133 [.val (.pointer (some ⟨bb,0,none⟩)),.d (.agg (lvE m))] (bookRs bb b sales vo l) (X:=Unit) (fun _=>.d (.agg (lvE (nearN m J)))) (fun _=>bookRs bb b sales vo l):=by
 refine EffAt.of_awp Tryz.func133 rfl (by kernel_rfl) rfl fun Γ hn=>?_
 refine Zu (Zb 3 hn rfl fun b3=>stepW (yg 4 rfl rfl rfl (nb hn rfl) zr185 zero800a zero800b) fun b4=>?_)
 refine Zv (zD (Zu (Zs hn (zu rfl rfl (id:=3) rfl underlying185 rfl sz185 (ya m) (yI m) sees0) ?_)))
 refine Zt 1 [] hn rfl (Zv (zN (awp_loop_on (ι:={x:Nat × Nat // x.1 ≤ 800 ∧ ∀ q,q < 800 → (x.2.testBit q = true ↔ 1 ≤ q ∧ ∃ p,p < x.1 ∧ m.testBit p = true ∧ p ≤ q + J ∧ q ≤ p + J)}) (fun x=>(9,true,.d (.int .i64 (x.1.1:Nat))) :: anys [10,11,12,5,6,13,14,15,16,17,18,19,20,21,22,7,23,24,25,26,27,28,29,30,31,32,33,36,37,34,35,38]) (fun x=>[(4,.box b4 185 (lvT x.1.2))]) (fun x=>800 - x.1.1) ⟨(0,0),by simp,fun q _=>by simp⟩ ⟨.inl rfl,zF _⟩ ⟨.inl rfl,trivial⟩ ?_)))
 rintro ⟨⟨p,m1⟩,hp,hm1⟩
 dsimp only
 dsimp only at hp hm1
 refine Zu (Zt 1 [] hn rfl (Zv (zD (zG rfl (fun hb0=>?_) (fun hb0=>?_)))))
 have hlt:p < 800:=by simp at hb0; omega
 refine zJ (zA (zD (zN (Zu (Zt 1 [] hn rfl (Zs hn (q_indexAgg rfl rfl rfl underlying185 underlying4 rfl sz4 rfl hlt (zA9 hlt)) ?_))))))
 refine Zt 2 [] hn rfl (Zv (zD (Zu (Zt 2 [] hn rfl (Zv (zG rfl (fun hb1=>?_) (fun hb1=>?_)))))))
 have hbit:m.testBit p = false:=by simpa using hb1
 refine zX (zC (zO (zA (zH (Zs hn (zh rfl rfl rfl (r:=((p + 1:Nat):Int)) (i64w (by omega) (by omega))) ?_)))))
 refine Zt 1 [] hn rfl (zQ ?_)
 exact Zr ⟨(p + 1,m1),by simp only; omega,near_skip hbit hm1⟩ ⟨.inl rfl,zF _⟩ ⟨.inl rfl,trivial⟩ (by simp only; omega)
 have hbit:m.testBit p = true:=by simpa using hb1
 refine zJ (zA (Zu (Zt 6 [1070] hn rfl (Zs hn (yB rfl rfl rfl (r:=(p:Int) - (J:Int)) (by rw [hJ]; exact i64w (by omega) rfl)) ?_))))
 refine Zs hn (zEq rfl rfl rfl) ?_
 refine Zt 1 [] hn rfl (Zv (zN (awp_loop_on (ι:={x:Nat × Nat // max 1 (p - J) ≤ x.1 ∧ x.1 ≤ max (max 1 (p - J)) (min 799 (p + J) + 1) ∧ ∀ q,q < 800 → (x.2.testBit q = true ↔ m1.testBit q = true ∨ (max 1 (p - J) ≤ q ∧ q < x.1))}) (fun x=>(7,true,.d (.int .i64 (x.1.1:Nat))) :: anys [23,24,25,26,27,28,29,30,31,32,33,36,37,34,35]) (fun x=>[(4,.box b4 185 (lvT x.1.2))]) (fun x=>801 - x.1.1) ⟨(max 1 (p - J),m1),Nat.le_refl _,by simp only; omega,fun q _=>⟨.inl,fun h=>h.elim id fun h=>absurd h.2 (by have:=h.1; simp only at this ⊢; omega)⟩⟩ ⟨.inl (congrArg (fun z=>some (true,TV.d (D.int IntKind.i64 z))) (by omega:max (1:Int) ((p:Int) - (J:Int)) = ((max 1 (p - J):Nat):Int))),zF _⟩ ⟨.inl rfl,trivial⟩ ?_)))
 rintro ⟨⟨q,m2⟩,hq0,hq1,hm2⟩
 dsimp only
 dsimp only at hq0 hq1 hm2
 refine zD (Zu (Zt 7 [1070] hn rfl (Zs hn (zh rfl rfl rfl (r:=(p:Int) + (J:Int)) (by rw [hJ]; exact i64w (by omega) rfl)) ?_)))
 refine stepW (zP rfl rfl rfl (nb hn rfl) underlying29 sz3 zr3 rfl rfl rfl (show _ = [.d (.int .i64 0),.d (.int .i64 0)] from by kernel_rfl) (by kernel_rfl) rfl rfl rfl rfl rfl) fun _=>?_
 refine Zk hn rfl (minimum_ok _ _) (Zt 1 [] hn rfl (Zv (zG rfl (fun hb2=>?_) (fun hb2=>?_))))
 have hq:q < 800 ∧ q ≤ p + J:=by simp at hb2; omega
 refine zJ (zA (zD (zN (zH (Zt 1 [] hn rfl (Zs hn (q_indexA (i:=q) rfl rfl rfl underlying185 sz4 rfl hq.1) ?_))))))
 refine stepW (s_store1 rfl rfl rfl rfl rfl rfl (id:=4) rfl sz4 (by rw [zt]; omega) (zBM hq.1) trivial) fun _=>?_
 refine zQ (zM (zA (zH (Zt 1 [] hn rfl (Zs hn (zh rfl rfl rfl (r:=((q + 1:Nat):Int)) (i64w (by omega) (by omega))) ?_)))))
 refine Zt 1 [] hn rfl (zQ ?_)
 exact Zr ⟨(q + 1,putB m2 q true),by simp only; omega,by simp only; omega,near_in hq0 hm2⟩ ⟨.inl rfl,zF _⟩ ⟨.inl rfl,trivial⟩ (by simp only; omega)
 have hq:q = max (max 1 (p - J)) (min 799 (p + J) + 1):=by simp at hb2; omega
 have hm3:=near_up hq hm2
 refine zX (zC (zC (zO (zM (zA (zH (Zs hn (zh rfl rfl rfl (r:=((p + 1:Nat):Int)) (i64w (by omega) (by omega))) ?_)))))))
 refine Zt 1 [] hn rfl (zQ ?_)
 exact Zr ⟨(p + 1,m2),by simp only; omega,near_step hlt hbit hm1 hm3⟩ ⟨.inl rfl,zF _⟩ ⟨.inl rfl,trivial⟩ (by simp only; omega)
 have hpe:p = 800:=by simp at hb0; omega
 subst hpe
 have hlv:=near_end hm1
 refine zX (zC (zC (zO (zA (Zu (Zs hn (zu rfl rfl (id:=4) rfl underlying185 rfl sz185 (ya m1) (yI m1) sees0) ?_))))))
 refine stepW (yN rfl rfl rfl rfl rfl rfl (id:=4) rfl sz185 (by rw [show (TV.cells (.d (.agg (lvE m1)))) = lvT m1 from rfl,zt]) (by rw [zt]; decide) (kH m1 (zt m1)) trivial) fun _=>?_
 refine Zv (zI ?_)
 exact ret_E (.inl rfl) () (zj rfl (.d (.cellA rfl (id:=4) rfl underlying185 rfl sz185 ((ya m1).trans (congrArg some hlv)) (yI _)))) ⟨rfl,rfl,trivial⟩
theorem start_eff (bb:Nat) (b:Brd) (sales:List Prt) (vo:Value) (l:List Int) (hV:VecV vo 1 (intsT l)) (s:Stk) (k:Nat) (hs:b.stocks[k]? = some s):EffAt Tryz.prog 131 [.val (.pointer (some ⟨bb,0,none⟩)),.d (.int .i64 (k:Nat))] (bookRs bb b sales vo l) (X:=Unit) (fun _=>.d (.agg (lvE (startN s)))) (fun _=>bookRs bb b sales vo l):=by
 refine EffAt.of_awp Tryz.func131 rfl (by kernel_rfl) rfl fun Γ hn=>?_
 refine Zu (stepW (yg 4 rfl rfl rfl (nb hn rfl) zr185 zero800a zero800b) fun b4=>?_)
 refine Zv (zD (Zu (Zt 1 [] hn rfl (Zv (zN (awp_loop_on (ι:={x:Nat × Nat // x.1 ≤ 800 ∧ ∀ q,q < 800 → x.2.testBit q = (decide (q < x.1) && withinB (q:Nat) s.lo s.hi)}) (fun x=>(6,true,.d (.int .i64 (x.1.1:Nat))) :: anys [7,8,5,9,10,11,12,13,14,15,16,17,18,19,20,21,22]) (fun x=>[(4,.box b4 185 (lvT x.1.2))]) (fun x=>800 - x.1.1) ⟨(0,0),by simp,fun q _=>by simp⟩ ⟨.inl rfl,zF _⟩ ⟨.inl rfl,trivial⟩ ?_))))))
 rintro ⟨⟨p,m1⟩,hp,hm1⟩
 dsimp only
 dsimp only at hp hm1
 refine Zu (Zt 1 [] hn rfl (Zv (zD (zG rfl (fun hb0=>?_) (fun hb0=>?_)))))
 have hlt:p < 800:=by simp at hb0; omega
 refine zJ (zA (zD (zN (Zu (Zt 2 [] hn rfl (Zv (zH (Zt 7 [1070] hn rfl (Zi (i:=k) hn rfl rfl (mget hs) ?_)))))))))
 refine Zt 3 [] hn rfl (Zk hn rfl (rhas_ok (s.lo,s.hi) (p:Nat)) (Zs hn (q_indexA (i:=p) rfl rfl rfl underlying185 sz4 rfl hlt) ?_))
 refine stepW (s_store1 rfl rfl rfl rfl rfl rfl (id:=4) rfl sz4 (by rw [zt]; omega) (zBM hlt) trivial) fun _=>?_
 refine zQ (zM (zA (zH (Zs hn (zh rfl rfl rfl (r:=((p + 1:Nat):Int)) (i64w (by omega) (by omega))) ?_))))
 refine Zt 1 [] hn rfl (zQ ?_)
 exact Zr ⟨(p + 1,putB m1 p (withinB (p:Nat) s.lo s.hi)),by simp only; omega,fun q hq=>by simp only; rw [kN]; by_cases e:q = p; (subst e; simp); (rw [if_neg e,hm1 q hq,show decide (q < p + 1) = decide (q < p) by simp only [decide_eq_decide]; omega])⟩ ⟨.inl rfl,zF _⟩ ⟨.inl rfl,trivial⟩ (by simp only; omega)
 have hpe:p = 800:=by simp at hb0; omega
 subst hpe
 have hlv:lvE m1 = lvE (startN s):=zDd fun q hq=>by rw [hm1 q hq]; unfold startN; rw [yF]
 refine zX (zC (zC (zO (zA (Zu (Zs hn (zu rfl rfl (id:=4) rfl underlying185 rfl sz185 (ya m1) (yI m1) sees0) ?_))))))
 refine stepW (yN rfl rfl rfl rfl rfl rfl (id:=4) rfl sz185 (by rw [show (TV.cells (.d (.agg (lvE m1)))) = lvT m1 from rfl,zt]) (by rw [zt]; decide) (kH m1 (zt m1)) trivial) fun _=>?_
 refine Zv (zI ?_)
 exact ret_E (.inl rfl) () (zj rfl (.d (.cellA rfl (id:=4) rfl underlying185 rfl sz185 ((ya m1).trans (congrArg some hlv)) (yI _)))) ⟨rfl,rfl,trivial⟩
end Go.Proofs.YticlpkgpmmhemaaGreatDoor
