/-
  A part of the proof that contangolaw.OddBounds returns true: what the last text needs, and no more. No condition: no statement of the seat is proved here.
-/
import Derived.Test.YticlpkgpmmhemaaGreatDoorOddBoundsO
namespace Go.Proofs.YticlpkgpmmhemaaGreatDoor
open Go.RowKit
set_option linter.all false
def nxP (b:Brd) (l:List Prt) (i:Nat) (ps:List Int):Nat → List (List Int)
  | 0=>[]
  | n + 1=>bif refFits (l.getD i prt0) i ((n + 1:Nat):Int) 0 && stepsB b l i ((n + 1:Nat):Int) ps then nxP b l i ps n ++ [ps ++ [((n + 1:Nat):Int)]] else nxP b l i ps n
def nxK (b:Brd) (l:List Prt) (i:Nat) (all:List (List Int)):Nat → List (List Int)
  | 0=>[]
  | k + 1=>nxK b l i all k ++ nxP b l i (all.getD k []) 799
def trsN (b:Brd) (l:List Prt) (most:Int):Nat → Option (List (List Int))
  | 0=>some [[]]
  | i + 1=>match trsN b l most i with
    | none=>none
    | some all=>bif decide (most < ((nxK b l i all all.length).length:Int)) then none else some (nxK b l i all all.length)
theorem zCR {b:Brd} {l:List Prt} {i:Nat} {ps qs:List Int}:∀ n,qs ∈ nxP b l i ps n ↔ ∃ p:Nat,1 ≤ p ∧ p ≤ n ∧ refFits (l.getD i prt0) i (p:Nat) 0 = true ∧ stepsB b l i (p:Nat) ps = true ∧ qs = ps ++ [(p:Int)]
  | 0=>⟨fun h=>(by cases h),fun ⟨p,h1,h2,_⟩=>by omega⟩
  | n + 1=>by
    unfold nxP
    cases h:refFits (l.getD i prt0) i ((n + 1:Nat):Int) 0 && stepsB b l i ((n + 1:Nat):Int) ps
    · simp only [cond_false]
      rw [zCR n]
      constructor
      · rintro ⟨p,h1,h2,h3⟩; exact ⟨p,h1,by omega,h3⟩
      · rintro ⟨p,h1,h2,h3,h4,h5⟩
        by_cases e:p = n + 1
        · subst e; rw [h3,h4] at h; cases h
        · exact ⟨p,h1,by omega,h3,h4,h5⟩
    · simp only [cond_true]
      rw [List.mem_append,zCR n,List.mem_singleton]
      obtain ⟨a1,a2⟩:=Bool.and_eq_true_iff.1 h
      constructor
      · rintro (⟨p,h1,h2,h3⟩ | h)
        · exact ⟨p,h1,by omega,h3⟩
        · exact ⟨n + 1,by omega,Nat.le_refl _,a1,a2,h⟩
      · rintro ⟨p,h1,h2,h3,h4,h5⟩
        by_cases e:p = n + 1
        · subst e; exact .inr h5
        · exact .inl ⟨p,h1,by omega,h3,h4,h5⟩
theorem zCY {b:Brd} {l:List Prt} {i:Nat} {ps:List Int}:∀ n,(nxP b l i ps n).length ≤ n
  | 0=>Nat.le_refl _
  | n + 1=>by
    unfold nxP
    cases refFits (l.getD i prt0) i ((n + 1:Nat):Int) 0 && stepsB b l i ((n + 1:Nat):Int) ps
    · simp only [cond_false]; have:=zCY (b:=b) (l:=l) (i:=i) (ps:=ps) n; omega
    · simp only [cond_true,List.length_append,List.length_singleton]; have:=zCY (b:=b) (l:=l) (i:=i) (ps:=ps) n; omega
theorem zEJ {b:Brd} {l:List Prt} {i:Nat} {all:List (List Int)}:∀ k,(nxK b l i all k).length ≤ k * 799
  | 0=>Nat.le_refl _
  | k + 1=>by
    unfold nxK
    have h1:=zEJ (b:=b) (l:=l) (i:=i) (all:=all) k
    have h2:=zCY (b:=b) (l:=l) (i:=i) (ps:=all.getD k []) 799
    rw [List.length_append]; omega
theorem zGo {b:Brd} {l:List Prt} {i:Nat} {all:List (List Int)} {qs:List Int}:∀ k,k ≤ all.length → (qs ∈ nxK b l i all k ↔ ∃ j,j < k ∧ qs ∈ nxP b l i (all.getD j []) 799)
  | 0,_=>⟨fun h=>(by cases h),fun ⟨p,h1,_⟩=>by omega⟩
  | k + 1,hk=>by
    unfold nxK
    rw [List.mem_append,zGo k (by omega)]
    constructor
    · rintro (⟨j,h1,h2⟩ | h)
      · exact ⟨j,by omega,h2⟩
      · exact ⟨k,by omega,h⟩
    · rintro ⟨j,h1,h2⟩
      by_cases e:j = k
      · subst e; exact .inr h2
      · exact .inl ⟨j,by omega,h2⟩
theorem zD6 {b:Brd} {l:List Prt} {most:Int}:∀ (i:Nat) {all:List (List Int)},i ≤ l.length → trsN b l most i = some all → ∀ ps:List Int,ps ∈ all ↔ ps.length = i ∧ ∀ j,j < i → OkF b l 0 j fun k=>ps.getD k 0
  | 0,all,_,h,ps=>by
    cases h
    rw [List.mem_singleton]
    exact ⟨fun e=>by subst e; exact ⟨rfl,fun j hj=>by omega⟩,fun ⟨e,_⟩=>List.eq_nil_of_length_eq_zero e⟩
  | i + 1,all,hi,h,ps=>by
    unfold trsN at h
    cases h0:trsN b l most i with
    | none=>rw [h0] at h; cases h
    | some al =>
      rw [h0] at h
      dsimp only at h
      cases h1:decide (most < ((nxK b l i al al.length).length:Int)) <;> rw [h1] at h
      · cases h
        have ih:=zD6 i (by omega) h0
        rw [zGo _ (Nat.le_refl _)]
        constructor
        · rintro ⟨j,hj,hm⟩
          obtain ⟨p,p1,p2,p3,p4,rfl⟩:=(zCR 799).1 hm
          obtain ⟨qs,hq⟩:=zT hj
          rw [zP hq] at p4 ⊢
          obtain ⟨e,hok⟩:=(ih qs).1 (List.mem_of_getElem? hq)
          refine ⟨by simp [e],fun j hj=>?_⟩
          have eq:∀ k,k < i → (fun k=>(qs ++ [(p:Int)]).getD k 0) k = qs.getD k 0:=fun k hk=>yk (by omega)
          have en:(fun k=>(qs ++ [(p:Int)]).getD k 0) i = (p:Int):=by
            have:=y0 (ts:=qs) (p:=(p:Int)); rw [e] at this; exact this
          by_cases e2:j = i
          · subst e2
            exact ⟨by rw [en]; exact p3,by rw [← zAP en eq]; exact p4⟩
          · exact (hok j (by omega)).congr (eq j (by omega)).symm fun k hk => by
              have ha:aheadGo l (l.getD j prt0).stock j = (k:Nat):=hk
              obtain ⟨a1,_⟩:=yA.1 ha
              exact (eq k (by omega)).symm
        · rintro ⟨e,hok⟩
          have hne:ps ≠ []:=by rintro rfl; simp at e
          obtain ⟨qs,p,rfl⟩:∃ qs p,ps = qs ++ [p]:=⟨ps.dropLast,ps.getLast hne,(List.dropLast_concat_getLast hne).symm⟩
          simp at e
          have eq:∀ k,k < i → (fun k=>(qs ++ [p]).getD k 0) k = qs.getD k 0:=fun k hk=>yk (by omega)
          have en:(fun k=>(qs ++ [p]).getD k 0) i = p:=by
            have:=y0 (ts:=qs) (p:=p); rw [e] at this; exact this
          have hq:qs ∈ al:=(ih qs).2 ⟨e,fun j hj=>(hok j (by omega)).congr (eq j hj) fun k hk=>by
            have ha:aheadGo l (l.getD j prt0).stock j = (k:Nat):=hk
            obtain ⟨a1,_⟩:=yA.1 ha
            exact eq k (by omega)⟩
          obtain ⟨j,hj⟩:=List.getElem?_of_mem hq
          have hok2:=hok i (by omega)
          have h9:(qs ++ [p]).getD i 0 = p:=en
          have hb:1 ≤ p ∧ p ≤ 799:=by have h8:1 ≤ (qs ++ [p]).getD i 0 ∧ (qs ++ [p]).getD i 0 ≤ 799:=hok2.bd; rw [h9] at h8; exact h8
          refine ⟨j,(List.getElem?_eq_some_iff.1 hj).1,(zCR 799).2 ⟨p.toNat,by omega,by omega,?_,?_,by rw [show ((p.toNat:Nat):Int) = p by omega,zP hj]⟩⟩
          · rw [show ((p.toNat:Nat):Int) = p by omega]
            have h8:refFits (l.getD i prt0) i ((qs ++ [p]).getD i 0) 0 = true:=hok2.1; rw [h9] at h8; exact h8
          · rw [show ((p.toNat:Nat):Int) = p by omega,zP hj,zAP en eq]; exact hok2.2
      · cases h
theorem zHS {b:Brd} {l:List Prt} {most:Int} {all:List (List Int)} (h:trsN b l most l.length = some all) (ps:List Int):ps ∈ all ↔ ps.length = l.length ∧ TruF b l 0 fun k=>ps.getD k 0:=zD6 l.length (Nat.le_refl _) h ps
def canW (o:Ord) (mm:List (Int × Int)) (n s:Nat):Nat → Bool
  | 0=>false
  | j + 1=>canW o mm n s j || (((s:Int) == 0 || decide ((mm.getD (s - 1) (0,0)).1 ≤ o.mlo + (j:Nat))) && ((s:Int) == (n:Int) || decide (o.mlo + (j:Nat) < (mm.getD s (0,0)).2)))
def waitB (o:Ord) (mm:List (Int × Int)) (n s:Nat):Bool:=canW o mm n s (o.mhi - o.mlo + 1).toNat
def waitL (o:Ord) (mm:List (Int × Int)) (n:Nat):Nat → List Int
  | 0=>[]
  | s + 1=>bif waitB o mm n s then waitL o mm n s ++ [(s:Int)] else waitL o mm n s
theorem zFd {o:Ord} {mm:List (Int × Int)} {n s:Nat}:∀ j,canW o mm n s j = true ↔ ∃ i,i < j ∧ (s = 0 ∨ (mm.getD (s - 1) (0,0)).1 ≤ o.mlo + (i:Nat)) ∧ (s = n ∨ o.mlo + (i:Nat) < (mm.getD s (0,0)).2)
  | 0=>⟨fun h=>(by cases h),fun ⟨_,h,_⟩=>by omega⟩
  | j + 1=>by
    unfold canW
    rw [Bool.or_eq_true,zFd j,Bool.and_eq_true,Bool.or_eq_true,Bool.or_eq_true,decide_eq_true_eq,decide_eq_true_eq,beq_iff_eq,beq_iff_eq,show ((s:Int) = 0 ↔ s = 0) by omega,show ((s:Int) = (n:Int) ↔ s = n) by omega]
    constructor
    · rintro (⟨i,h1,h2⟩ | h)
      · exact ⟨i,by omega,h2⟩
      · exact ⟨j,by omega,h⟩
    · rintro ⟨i,h1,h2⟩
      by_cases e:i = j
      · subst e; exact .inr h2
      · exact .inl ⟨i,by omega,h2⟩
theorem zFO {o:Ord} {mm:List (Int × Int)} {s:Nat} (ho:o.mlo ≤ o.mhi) (hs:s ≤ mm.length):waitB o mm mm.length s = waitsB o mm s:=by
  rw [Bool.eq_iff_iff]
  unfold waitB waitsB
  rw [zFd,decide_eq_true_eq]
  constructor
  · rintro ⟨i,h1,h2,h3⟩
    by_cases e1:0 < s <;> by_cases e2:s < mm.length
    · rw [decide_eq_true e1,decide_eq_true e2,cond_true,cond_true]; omega
    · rw [decide_eq_true e1,decide_eq_false e2,cond_true,cond_false]; omega
    · rw [decide_eq_false e1,decide_eq_true e2,cond_true,cond_false]; omega
    · rw [decide_eq_false e1,decide_eq_false e2,cond_false,cond_false]; omega
  · intro h
    by_cases e1:0 < s <;> by_cases e2:s < mm.length
    · rw [decide_eq_true e1,decide_eq_true e2,cond_true,cond_true] at h
      exact ⟨(max o.mlo (mm.getD (s - 1) (0,0)).1 - o.mlo).toNat,by omega,by omega,by omega⟩
    · rw [decide_eq_true e1,decide_eq_false e2,cond_true,cond_false] at h
      exact ⟨(max o.mlo (mm.getD (s - 1) (0,0)).1 - o.mlo).toNat,by omega,by omega,by omega⟩
    · rw [decide_eq_false e1,decide_eq_true e2,cond_true,cond_false] at h
      exact ⟨0,by omega,by omega,by omega⟩
    · exact ⟨0,by omega,by omega,by omega⟩
theorem kp {o:Ord} {mm:List (Int × Int)} {n:Nat} {x:Int}:∀ m,x ∈ waitL o mm n m ↔ ∃ s:Nat,x = (s:Int) ∧ s < m ∧ waitB o mm n s = true
  | 0=>⟨fun h=>(by cases h),fun ⟨_,_,h,_⟩=>by omega⟩
  | m + 1=>by
    unfold waitL
    cases h:waitB o mm n m
    · rw [cond_false,kp m]
      constructor
      · rintro ⟨s,h1,h2,h3⟩; exact ⟨s,h1,by omega,h3⟩
      · rintro ⟨s,h1,h2,h3⟩
        by_cases e:s = m
        · subst e; rw [h] at h3; cases h3
        · exact ⟨s,h1,by omega,h3⟩
    · rw [cond_true,List.mem_append,kp m,List.mem_singleton]
      constructor
      · rintro (⟨s,h1,h2,h3⟩ | rfl)
        · exact ⟨s,h1,by omega,h3⟩
        · exact ⟨m,rfl,by omega,h⟩
      · rintro ⟨s,h1,h2,h3⟩
        by_cases e:s = m
        · subst e; exact .inr h1
        · exact .inl ⟨s,h1,by omega,h3⟩
theorem zBy {o:Ord} {mm:List (Int × Int)} {n:Nat}:∀ m,(waitL o mm n m).length ≤ m
  | 0=>Nat.le_refl _
  | m + 1=>by
    unfold waitL
    have:=zBy (o:=o) (mm:=mm) (n:=n) m
    cases waitB o mm n m <;> simp <;> omega
/-- The first sale from one on at which the order trades, found from the last one on. -/
def akN (fee:Int) (o:Ord) (l:List Prt) (ps:List Int):Nat → Int
  | 0=>-1
  | j + 1=>bif (l.getD (l.length - 1 - j) prt0).stock == o.stock && letsB fee o (ps.getD (l.length - 1 - j) 0) then ((l.length - 1 - j:Nat):Int) else akN fee o l ps j
def akI (fee:Int) (o:Ord) (l:List Prt) (ps:List Int) (fr:Nat):Int:=akN fee o l ps (l.length - fr)
theorem zHU {fee:Int} {o:Ord} {l:List Prt} {ps:List Int}:∀ j,j ≤ l.length → (akN fee o l ps j = -1 ∧ ∀ i,l.length - j ≤ i → i < l.length → (l.getD i prt0).stock = o.stock → letsB fee o (ps.getD i 0) = false) ∨ ∃ k:Nat,akN fee o l ps j = (k:Int) ∧ HitP fee o l (fun i=>ps.getD i 0) (l.length - j) k
  | 0,_=>.inl ⟨rfl,fun i h1 h2=>by omega⟩
  | j + 1,hj=>by
    unfold akN
    have e:l.length - 1 - j = l.length - (j + 1):=by omega
    rw [e]
    cases h:(l.getD (l.length - (j + 1)) prt0).stock == o.stock && letsB fee o (ps.getD (l.length - (j + 1)) 0)
    · rw [cond_false]
      have hn:∀ i,i = l.length - (j + 1) → (l.getD i prt0).stock = o.stock → letsB fee o (ps.getD i 0) = false:=fun i hi hs=>by
        subst hi
        cases hl:letsB fee o (ps.getD (l.length - (j + 1)) 0)
        · rfl
        · rw [hl,hs] at h; simp at h
      rcases zHU (fee:=fee) (o:=o) (l:=l) (ps:=ps) j (by omega) with ⟨h1,h2⟩ | ⟨k,h1,k1,k2,k3,k4,k5⟩
      · refine .inl ⟨h1,fun i i1 i2 i3=>?_⟩
        by_cases ei:i = l.length - (j + 1)
        · exact hn i ei i3
        · exact h2 i (by omega) i2 i3
      · refine .inr ⟨k,h1,by omega,k2,k3,k4,fun i i1 i2 i3=>?_⟩
        by_cases ei:i = l.length - (j + 1)
        · exact hn i ei i3
        · exact k5 i (by omega) i2 i3
    · rw [cond_true]
      simp only [Bool.and_eq_true_iff,beq_iff_eq] at h
      exact .inr ⟨_,rfl,Nat.le_refl _,by omega,h.1,h.2,fun i i1 i2=>by omega⟩
structure Akd where
  sales:List Bool
  low:Int
  top:Int
  some_:Bool
  missed:Bool
@[reducible] def akdE (x:Akd):List D:=[.slice 1 (x.sales.map fun q=>[.bool q]),.int .i64 x.low,.int .i64 x.top,.bool x.some_,.bool x.missed]
def askS (fee:Int) (o:Ord) (l:List Prt) (ps:List Int) (fr:Nat) (x:Akd):Akd :=
  bif decide (akI fee o l ps fr < 0) then { x with missed:=true } else
  ⟨x.sales.set (akI fee o l ps fr).toNat true,min x.low (priceO fee o (ps.getD (akI fee o l ps fr).toNat 0)),max x.top (priceO fee o (ps.getD (akI fee o l ps fr).toNat 0)),true,x.missed⟩
def askN (fee:Int) (o:Ord) (l:List Prt) (all:List (List Int)) (fr:Nat) (x:Akd):Nat → Akd
  | 0=>x
  | n + 1=>askS fee o l (all.getD n []) fr (askN fee o l all fr x n)
def akd0 (n:Nat):Akd:=⟨List.replicate n false,9999,-1,false,false⟩
def askK (fee:Int) (o:Ord) (l:List Prt) (all:List (List Int)) (w:List Int):Nat → Akd
  | 0=>akd0 l.length
  | k + 1=>askN fee o l all (w.getD k 0).toNat (askK fee o l all w k) all.length
def askI (fee:Int) (o:Ord) (l:List Prt) (all:List (List Int)) (mm:List (Int × Int)):Akd:=askK fee o l all (waitL o mm l.length (l.length + 1)) (waitL o mm l.length (l.length + 1)).length
/-- What the answer says, of those pairs of waits and truths that were looked at. -/
structure AkP (fee:Int) (o:Ord) (l:List Prt) (C:Nat → List Int → Prop) (x:Akd):Prop where
  len:x.sales.length = l.length
  s1:∀ i,x.sales.getD i false = true → ∃ fr ps,C fr ps ∧ HitP fee o l (fun i=>ps.getD i 0) fr i
  s2:∀ fr ps i,C fr ps → HitP fee o l (fun i=>ps.getD i 0) fr i → x.sales.getD i false = true ∧ x.some_ = true ∧ x.low ≤ priceO fee o (ps.getD i 0) ∧ priceO fee o (ps.getD i 0) ≤ x.top
  so:x.some_ = true → (∃ fr ps i,C fr ps ∧ HitP fee o l (fun i=>ps.getD i 0) fr i ∧ priceO fee o (ps.getD i 0) = x.low) ∧ ∃ fr ps i,C fr ps ∧ HitP fee o l (fun i=>ps.getD i 0) fr i ∧ priceO fee o (ps.getD i 0) = x.top
  no:x.some_ = false → x.low = 9999 ∧ x.top = -1
  m1:x.missed = true → ∃ fr ps,C fr ps ∧ MissP fee o l (fun i=>ps.getD i 0) fr
  m2:∀ fr ps,C fr ps → MissP fee o l (fun i=>ps.getD i 0) fr → x.missed = true
theorem HitP.uniq {fee:Int} {o:Ord} {l:List Prt} {f:Nat → Int} {fr i j:Nat} (h:HitP fee o l f fr i) (h':HitP fee o l f fr j):i = j:=by
  rcases Nat.lt_trichotomy i j with e | e | e
  · have:=h'.2.2.2.2 i h.1 e h.2.2.1; rw [h.2.2.2.1] at this; cases this
  · exact e
  · have:=h.2.2.2.2 j h'.1 e h'.2.2.1; rw [h'.2.2.2.1] at this; cases this
theorem zDf {fee:Int} {o:Ord} {l:List Prt} {f:Nat → Int} {fr i:Nat} (h:HitP fee o l f fr i) (hm:MissP fee o l f fr):False:=by
  have:=hm i h.1 h.2.1 h.2.2.1; rw [h.2.2.2.1] at this; cases this
theorem bset {l:List Bool} {i j:Nat} (h:i < l.length):(l.set i true).getD j false = (decide (i = j) || l.getD j false):=by
  rw [List.getD_eq_getElem?_getD,List.getElem?_set]
  by_cases e:i = j
  · subst e; rw [if_pos rfl,if_pos h,decide_eq_true rfl]; rfl
  · rw [if_neg e,decide_eq_false e,← List.getD_eq_getElem?_getD]; rfl
theorem askS_ok {fee:Int} {o:Ord} {l:List Prt} {C:Nat → List Int → Prop} {x:Akd} (hp:∀ ps i,(∃ fr,C fr ps) → i < l.length → -1 < priceO fee o (ps.getD i 0) ∧ priceO fee o (ps.getD i 0) < 9999) {ps:List Int} {fr:Nat} (hfr:fr ≤ l.length) (hb:∀ i,i < l.length → -1 < priceO fee o (ps.getD i 0) ∧ priceO fee o (ps.getD i 0) < 9999) (h:AkP fee o l C x):AkP fee o l (fun f q=>C f q ∨ (f = fr ∧ q = ps)) (askS fee o l ps fr x):=by
  have hat:=zHU (fee:=fee) (o:=o) (l:=l) (ps:=ps) (l.length - fr) (by omega)
  rw [show l.length - (l.length - fr) = fr by omega] at hat
  unfold askS
  have ea:akI fee o l ps fr = akN fee o l ps (l.length - fr):=rfl
  rw [ea]
  rcases hat with ⟨h1,h2⟩ | ⟨k,h1,hH⟩
  · rw [h1,show decide ((-1:Int) < 0) = true from rfl,cond_true]
    have hM:MissP fee o l (fun i=>ps.getD i 0) fr:=fun j j1 j2 j3=>h2 j j1 j2 j3
    refine ⟨h.len,fun i hi=>?_,fun f q i hc hh=>?_,fun hs=>?_,h.no,fun _=>⟨fr,ps,.inr ⟨rfl,rfl⟩,hM⟩,fun _ _ _ _=>rfl⟩
    · obtain ⟨f,q,c,hh⟩:=h.s1 i hi; exact ⟨f,q,.inl c,hh⟩
    · rcases hc with hc | ⟨rfl,rfl⟩
      · exact h.s2 f q i hc hh
      · exact (zDf hh hM).elim
    · obtain ⟨⟨f,q,i,c,a⟩,⟨f2,q2,i2,c2,a2⟩⟩:=h.so hs
      exact ⟨⟨f,q,i,.inl c,a⟩,⟨f2,q2,i2,.inl c2,a2⟩⟩
  · rw [h1,show decide (((k:Nat):Int) < 0) = false from decide_eq_false (by omega),cond_false,Int.toNat_natCast]
    have hk:=hH.2.1
    have hbk:=hb k hk
    generalize hpr:priceO fee o (ps.getD k 0) = pr at hbk
    refine ⟨by simp only [List.length_set]; exact h.len,fun i hi=>?_,fun f q i hc hh=>?_,fun _=>?_,fun e=>(by cases e),fun hm=>?_,fun f q hc hm=>?_⟩
    · simp only [bset (by rw [h.len]; exact hk:k < x.sales.length),Bool.or_eq_true,decide_eq_true_eq] at hi
      rcases hi with rfl | hi
      · exact ⟨fr,ps,.inr ⟨rfl,rfl⟩,hH⟩
      · obtain ⟨f,q,c,hh⟩:=h.s1 i hi; exact ⟨f,q,.inl c,hh⟩
    · simp only [bset (by rw [h.len]; exact hk:k < x.sales.length),Bool.or_eq_true,decide_eq_true_eq]
      rcases hc with hc | ⟨rfl,rfl⟩
      · obtain ⟨a1,_,a3,a4⟩:=h.s2 f q i hc hh
        exact ⟨.inr a1,trivial,by omega,by omega⟩
      · obtain rfl:=hh.uniq hH
        rw [hpr]
        exact ⟨.inl rfl,trivial,by omega,by omega⟩
    · cases hs:x.some_
      · obtain ⟨n1,n2⟩:=h.no hs
        refine ⟨⟨fr,ps,k,.inr ⟨rfl,rfl⟩,hH,?_⟩,⟨fr,ps,k,.inr ⟨rfl,rfl⟩,hH,?_⟩⟩
        · rw [hpr]; dsimp only; omega
        · rw [hpr]; dsimp only; omega
      · obtain ⟨⟨f,q,i,c,a,a'⟩,⟨f2,q2,i2,c2,a2,a2'⟩⟩:=h.so hs
        refine ⟨?_,?_⟩
        · by_cases e:x.low ≤ pr
          · exact ⟨f,q,i,.inl c,a,by dsimp only; omega⟩
          · exact ⟨fr,ps,k,.inr ⟨rfl,rfl⟩,hH,by rw [hpr]; dsimp only; omega⟩
        · by_cases e:pr ≤ x.top
          · exact ⟨f2,q2,i2,.inl c2,a2,by dsimp only; omega⟩
          · exact ⟨fr,ps,k,.inr ⟨rfl,rfl⟩,hH,by rw [hpr]; dsimp only; omega⟩
    · obtain ⟨f,q,c,hh⟩:=h.m1 hm; exact ⟨f,q,.inl c,hh⟩
    · rcases hc with hc | ⟨rfl,rfl⟩
      · exact h.m2 f q hc hm
      · exact (zDf hH hm).elim
theorem AkP.iff {fee:Int} {o:Ord} {l:List Prt} {C C':Nat → List Int → Prop} {x:Akd} (e:∀ f q,C f q ↔ C' f q) (h:AkP fee o l C x):AkP fee o l C' x:=by
  have:C = C':=funext fun f=>funext fun q=>propext (e f q)
  rw [← this]; exact h
theorem akd0_ok {fee:Int} {o:Ord} {l:List Prt}:AkP fee o l (fun _ _=>False) (akd0 l.length):=by
  refine ⟨by simp [akd0],fun i hi=>?_,fun _ _ _ h=>h.elim,fun h=>(by cases h),fun _=>⟨rfl,rfl⟩,fun h=>(by cases h),fun _ _ h=>h.elim⟩
  simp only [akd0] at hi
  rw [List.getD_eq_getElem?_getD,List.getElem?_replicate] at hi
  split at hi <;> cases hi
section
variable {fee:Int} {o:Ord} {l:List Prt} {all:List (List Int)}
theorem zGE {C:Nat → List Int → Prop} {x:Akd} {fr:Nat} (hfr:fr ≤ l.length) (hC:∀ f q,C f q → q ∈ all) (hb:∀ ps ∈ all,∀ i,i < l.length → -1 < priceO fee o (ps.getD i 0) ∧ priceO fee o (ps.getD i 0) < 9999) (h:AkP fee o l C x):∀ n,n ≤ all.length → AkP fee o l (fun f q=>C f q ∨ (f = fr ∧ ∃ j,j < n ∧ q = all.getD j [])) (askN fee o l all fr x n)
  | 0,_=>h.iff fun f q=>⟨.inl,fun e=>e.elim id fun ⟨_,j,hj,_⟩=>by omega⟩
  | n + 1,hn=>by
    unfold askN
    obtain ⟨ps,hps⟩:=zT (show n < all.length by omega)
    have hm:=List.mem_of_getElem? hps
    have ih:=zGE hfr hC hb h n (by omega)
    rw [zP hps]
    refine (askS_ok (fun q i hx hi=>?_) hfr (hb ps hm) ih).iff fun f q=>?_
    · obtain ⟨f,hc⟩:=hx
      rcases hc with hc | ⟨_,j,hj,rfl⟩
      · exact hb q (hC f q hc) i hi
      · obtain ⟨y,hy⟩:=zT (show j < all.length by omega)
        rw [zP hy]; exact hb y (List.mem_of_getElem? hy) i hi
    · constructor
      · rintro ((h | ⟨h1,j,h2,h3⟩) | ⟨h1,h2⟩)
        · exact .inl h
        · exact .inr ⟨h1,j,by omega,h3⟩
        · exact .inr ⟨h1,n,by omega,by rw [zP hps]; exact h2⟩
      · rintro (h | ⟨h1,j,h2,h3⟩)
        · exact .inl (.inl h)
        · by_cases e:j = n
          · subst e; rw [zP hps] at h3; exact .inr ⟨h1,h3⟩
          · exact .inl (.inr ⟨h1,j,by omega,h3⟩)
theorem zGL {w:List Int} (hw:∀ x ∈ w,0 ≤ x ∧ x ≤ l.length) (hb:∀ ps ∈ all,∀ i,i < l.length → -1 < priceO fee o (ps.getD i 0) ∧ priceO fee o (ps.getD i 0) < 9999):∀ k,k ≤ w.length → AkP fee o l (fun f q=>(∃ j,j < k ∧ w[j]? = some (f:Int)) ∧ q ∈ all) (askK fee o l all w k)
  | 0,_=>akd0_ok.iff fun f q=>⟨fun h=>h.elim,fun ⟨⟨j,h,_⟩,_⟩=>by omega⟩
  | k + 1,hk=>by
    unfold askK
    obtain ⟨x,hx⟩:=zT (show k < w.length by omega)
    have hwx:=hw x (List.mem_of_getElem? hx)
    rw [zP hx]
    refine (zGE (by omega) (fun f q h=>h.2) hb (zGL hw hb k (by omega)) all.length (Nat.le_refl _)).iff fun f q=>?_
    constructor
    · rintro (⟨⟨j,h1,h2⟩,h3⟩ | ⟨h1,j,h2,h3⟩)
      · exact ⟨⟨j,by omega,h2⟩,h3⟩
      · obtain ⟨y,hy⟩:=zT h2
        rw [zP hy] at h3
        subst h3
        exact ⟨⟨k,by omega,by rw [hx,h1]; simp; omega⟩,List.mem_of_getElem? hy⟩
    · rintro ⟨⟨j,h1,h2⟩,h3⟩
      by_cases e:j = k
      · subst e
        rw [hx] at h2
        obtain ⟨i,hi⟩:=List.getElem?_of_mem h3
        simp only [Option.some.injEq] at h2
        exact .inr ⟨by omega,i,(List.getElem?_eq_some_iff.1 hi).1,by rw [zP hi]⟩
      · exact .inl ⟨⟨j,by omega,h2⟩,h3⟩
end
/-- The answer of the reference about an order. -/
theorem askI_ok {fee:Int} {o:Ord} {l:List Prt} {all:List (List Int)} {mm:List (Int × Int)} (ho:o.mlo ≤ o.mhi) (hm:mm.length = l.length) (hb:∀ ps ∈ all,∀ i,i < l.length → -1 < priceO fee o (ps.getD i 0) ∧ priceO fee o (ps.getD i 0) < 9999):AkP fee o l (fun f q=>(f ≤ l.length ∧ waitsB o mm f = true) ∧ q ∈ all) (askI fee o l all mm):=by
  unfold askI
  have hw:∀ x ∈ waitL o mm l.length (l.length + 1),0 ≤ x ∧ x ≤ l.length:=fun x hx=>by
    obtain ⟨s,rfl,h,_⟩:=(kp _).1 hx; omega
  refine (zGL hw hb _ (Nat.le_refl _)).iff fun f q=>and_congr_left fun _=>?_
  constructor
  · rintro ⟨j,_,hj⟩
    obtain ⟨s,e,h1,h2⟩:=(kp _).1 (List.mem_of_getElem? hj)
    obtain rfl:f = s:=by omega
    exact ⟨by omega,by rw [← hm,zFO ho (by omega)] at h2; exact h2⟩
  · rintro ⟨h1,h2⟩
    have:((f:Nat):Int) ∈ waitL o mm l.length (l.length + 1):=(kp _).2 ⟨f,rfl,by omega,by rw [← hm,zFO ho (by omega)]; exact h2⟩
    obtain ⟨j,hj⟩:=List.getElem?_of_mem this
    exact ⟨j,(List.getElem?_eq_some_iff.1 hj).1,hj⟩
theorem zEF {f:Nat → Int} {n i:Nat} (h:i < n):((List.range n).map f).getD i 0 = f i:=by
  rw [List.getD_eq_getElem?_getD,List.getElem?_map,List.getElem?_range h]; rfl
theorem hit_congr {fee:Int} {o:Ord} {l:List Prt} {f g:Nat → Int} {fr k:Nat} (e:∀ i,i < l.length → f i = g i) (h:HitP fee o l f fr k):HitP fee o l g fr k :=
  ⟨h.1,h.2.1,h.2.2.1,by rw [← e k h.2.1]; exact h.2.2.2.1,fun j j1 j2 j3=>by rw [← e j (by have:=h.2.1; omega)]; exact h.2.2.2.2 j j1 j2 j3⟩
theorem price_bd9 {fee:Int} {o:Ord} {p:Int} (hf:0 ≤ fee ∧ fee ≤ 4) (hp:1 ≤ p ∧ p ≤ 799):-1 < priceO fee o p ∧ priceO fee o p < 9999:=by
  unfold priceO
  cases o.buy <;> simp only [cond_true,cond_false] <;> omega
/-- What the reference answers, and what the program does. -/
structure AskF (b:Brd) (l:List Prt) (fee:Int) (o:Ord) (mm:List (Int × Int)) (x:Akd):Prop where
  len:x.sales.length = l.length
  sl:∀ i,i < l.length → x.sales.getD i false = saleB b l fee o mm i
  so:x.some_ = (bndI b l fee o mm).2
  bd:x.some_ = true → (bndI b l fee o mm).1 = (x.low,x.top)
  mi:x.missed = missI b l fee o mm
theorem ask_law {d:Dsk} {l:List Prt} {mm:List (Int × Int)} (h:SurH d l mm) {j:Nat} {o:Ord} (hod:d.orders[j]? = some o) {most:Int} {all:List (List Int)} (ha:trsN d.b l most l.length = some all):AskF d.b l d.fee o mm (askI d.fee o l all mm):=by
  have hok:=odd_of h hod
  have hob:=zAf (h.ob o (List.mem_of_getElem? hod))
  have hml:mm.length = l.length:=by rw [h.mt]; simp [timL]
  have hall:=zHS ha
  have hA:=askI_ok (fee:=d.fee) (o:=o) (l:=l) (all:=all) (mm:=mm) (by omega) hml fun ps hps i hi=>price_bd9 h.fe (((hall ps).1 hps).2 i hi).bd
  generalize askI d.fee o l all mm = x at hA ⊢
  have toL:∀ {f:Nat → Int},TruF d.b l 0 f → ((List.range l.length).map f) ∈ all:=fun {f} hf=>(hall _).2 (kY.1 (truF_list hf))
  have pos:∀ {n:Int} {i:Nat},PosP d.b l d.fee o mm n i → ∃ fr ps,(fr ≤ l.length ∧ waitsB o mm fr = true) ∧ ps ∈ all ∧ HitP d.fee o l (fun i=>ps.getD i 0) fr i ∧ n = priceO d.fee o (ps.getD i 0):=by
    rintro n i ⟨fr,f,hw,hf,hH,hn⟩
    exact ⟨fr,_,⟨by have:=hH.1; have:=hH.2.1; omega,hw⟩,toL hf,hit_congr (fun i hi=>(zEF hi).symm) hH,by rw [zEF hH.2.1]; exact hn⟩
  have pos':∀ {fr:Nat} {ps:List Int} {i:Nat},waitsB o mm fr = true → ps ∈ all → HitP d.fee o l (fun i=>ps.getD i 0) fr i → PosP d.b l d.fee o mm (priceO d.fee o (ps.getD i 0)) i:=fun hw hp hH=>⟨_,_,hw,((hall _).1 hp).2,hH,rfl⟩
  have hsome:x.some_ = (bndI d.b l d.fee o mm).2:=by
    rw [Bool.eq_iff_iff,bnd_iff hok]
    constructor
    · intro hs
      obtain ⟨⟨fr,ps,i,c,hH,_⟩,_⟩:=hA.so hs
      exact ⟨_,i,pos' c.1.2 c.2 hH⟩
    · rintro ⟨n,i,hp⟩
      obtain ⟨fr,ps,c,hps,hH,_⟩:=pos hp
      exact (hA.s2 fr ps i ⟨c,hps⟩ hH).2.1
  refine ⟨hA.len,fun i hi=>?_,hsome,fun hs=>?_,?_⟩
  · rw [Bool.eq_iff_iff,sale_iff hok]
    constructor
    · intro hs
      obtain ⟨fr,ps,c,hH⟩:=hA.s1 i hs
      exact ⟨_,pos' c.1.2 c.2 hH⟩
    · rintro ⟨n,hp⟩
      obtain ⟨fr,ps,c,hps,hH,_⟩:=pos hp
      exact (hA.s2 fr ps i ⟨c,hps⟩ hH).1
  · obtain ⟨⟨i1,e1⟩,⟨i2,e2⟩,e3⟩:=bnd_ends hok (hsome ▸ hs)
    obtain ⟨⟨fr,ps,i,c,hH,q⟩,⟨fr2,ps2,i3,c2,hH2,q2⟩⟩:=hA.so hs
    have k1:=e3 _ _ (pos' c.1.2 c.2 hH)
    have k2:=e3 _ _ (pos' c2.1.2 c2.2 hH2)
    obtain ⟨fr3,ps3,c3,p3,hH3,n3⟩:=pos e1
    obtain ⟨fr4,ps4,c4,p4,hH4,n4⟩:=pos e2
    have k3:=(hA.s2 fr3 ps3 i1 ⟨c3,p3⟩ hH3).2.2
    have k4:=(hA.s2 fr4 ps4 i2 ⟨c4,p4⟩ hH4).2.2
    rw [← n3] at k3
    rw [← n4] at k4
    exact Prod.ext (by omega) (by omega)
  · rw [Bool.eq_iff_iff,miss_iff hok]
    constructor
    · intro hm
      obtain ⟨fr,ps,c,hM⟩:=hA.m1 hm
      exact ⟨fr,_,c.1.1,c.1.2,((hall _).1 c.2).2,hM⟩
    · rintro ⟨fr,f,h1,h2,hf,hM⟩
      exact hA.m2 fr _ ⟨⟨h1,h2⟩,toL hf⟩ fun j j1 j2 j3=>by
        dsimp only
        rw [zEF j2]; exact hM j j1 j2 j3
/-- The verdict of the reference. -/
def verdR (x:Akd):Int:=bif !x.missed then 1 else bif !x.some_ then 2 else 3
theorem verd_law {b:Brd} {l:List Prt} {fee:Int} {o:Ord} {mm:List (Int × Int)} {x:Akd} (h:AskF b l fee o mm x):verdR x = verdI b l fee o mm:=by
  unfold verdR verdI
  rw [h.mi,h.so]
end Go.Proofs.YticlpkgpmmhemaaGreatDoor
namespace Go.Proofs.YticlpkgpmmhemaaGreatDoor
open Go.Proofs.Tryz
open Go.RowKit
set_option maxRecDepth 20000
set_option linter.all false
set_option maxHeartbeats 4000000
@[reducible] def lstE (ps:List Int):List D:=[ints ps]
@[reducible] def lstD (l:List (List Int)):D:=.slice 1 (l.map lstE)
theorem nil_rows {F:Nat → Nat → Prop} {w:World} {v:Value} (h:Rep F w (.slice 1 [[.nil]]) v):Rep F w (.slice 1 [[.slice 1 []]]) v:=by
  obtain ⟨ad,cap,e,h1,h2,h3⟩:=h
  refine ⟨ad,cap,e,h1,h2,?_⟩
  rcases h3 with h3 | ⟨b,o,e2,h0,⟨⟨hf,u,hc,h6,hr⟩,h7⟩,h5⟩
  · cases h3
  · exact .inr ⟨b,o,e2,h0,⟨⟨hf,u,hc,h6,DLe.rep (.nil 1) hr⟩,h7⟩,h5⟩
theorem gh_rep {Γ:Cx} {σ:St} {t:Nat} {d d':D} (ht:σ.get t = some (true,.d d)) (h:∀ {F:Nat → Nat → Prop} {w:World} {v:Value},Rep F w d v → Rep F w d' v):Ghost Γ σ (σ.put t true (.d d')):=fun a w F hs=>⟨F,{
  hs with
  tm:=fun t' c tv hget=>by
    by_cases e:t = t'
    · subst e
      have:(true,TV.d d') = (c,tv):=by simpa [St.get,St.put,zV] using hget
      cases this
      have h2:=(hs.tm t true _ ht).1 rfl
      simp only [TRep] at h2
      exact ⟨fun _=>h h2,fun h=>by cases h⟩
    · exact hs.tm t' c tv (by simpa [St.get,St.put,zY _ _ e] using hget) },fun _ _ h=>h⟩
/-- All truths of the prices, or that there are more than 300. -/
def truR (b:Brd) (l:List Prt):List (List Int) × Bool:=match trsN b l 300 l.length with
  | none=>([],false)
  | some all=>(all,true)
theorem zFm {b:Brd} {l:List Prt} {most:Int} {i:Nat} (h:trsN b l most i = none):∀ k,trsN b l most (i + k) = none
  | 0=>h
  | k + 1=>by rw [← Nat.add_assoc,trsN,zFm h k]
theorem trR_no {b:Brd} {l:List Prt} {i:Nat} (h:trsN b l 300 i = none) (hi:i ≤ l.length):truR b l = ([],false):=by
  unfold truR
  rw [show l.length = i + (l.length - i) by omega,zFm h]
theorem zGm {b:Brd} {l:List Prt} {all:List (List Int)} (h:trsN b l 300 l.length = some all):truR b l = (all,true):=by
  unfold truR; rw [h]
theorem zGT {b:Brd} {l:List Prt} {i:Nat} {all:List (List Int)} (h:trsN b l 300 i = some all):trsN b l 300 (i + 1) = bif decide (300 < ((nxK b l i all all.length).length:Int)) then none else some (nxK b l i all all.length):=by
  rw [trsN,h]
theorem nx_add {b:Brd} {l:List Prt} {i n:Nat} {ps:List Int} {A:List (List Int)} {p:Int} (hp:p = ((n + 1:Nat):Int)) (h:(refFits (l.getD i prt0) i ((n + 1:Nat):Int) 0 && stepsB b l i ((n + 1:Nat):Int) ps) = true):(A ++ nxP b l i ps n).map lstE ++ [[.slice 1 ([] ++ ps.map intE ++ [intE p])]] = (A ++ nxP b l i ps (n + 1)).map lstE:=by
  subst hp
  rw [nxP,h]
  simp [lstE,ints]
theorem nx_not {b:Brd} {l:List Prt} {i n:Nat} {ps:List Int} {A:List (List Int)} (h:(refFits (l.getD i prt0) i ((n + 1:Nat):Int) 0 && stepsB b l i ((n + 1:Nat):Int) ps) = false):(A ++ nxP b l i ps n).map lstE = (A ++ nxP b l i ps (n + 1)).map lstE:=by
  rw [nxP,h]; rfl
theorem mgetR {l:List (Int × Int)} {i:Nat} (h:i < l.length):(l.map rngE)[i]? = some (rngE (l.getD i (0,0))):=by
  obtain ⟨x,hx⟩:=zT h
  rw [List.getElem?_map,hx,zP hx]; rfl
theorem wait_add {o:Ord} {mm:List (Int × Int)} {n s:Nat} (h:waitB o mm n s = true):(waitL o mm n s).map intE ++ [intE (s:Nat)] = (waitL o mm n (s + 1)).map intE:=by
  rw [waitL,h]; simp
theorem wait_not {o:Ord} {mm:List (Int × Int)} {n s:Nat} (h:waitB o mm n s = false):(waitL o mm n s).map intE = (waitL o mm n (s + 1)).map intE:=by
  rw [waitL,h]; rfl
@[reducible] def bolsT (l:List Bool):List TV:=l.map fun q=>.d (.bool q)
theorem bolsT_zero {n:Nat}:(List.replicate n [TV.d (D.bool false)]).flatten = bolsT (List.replicate n false):=by
  rw [bolsT,List.map_replicate]
  induction n with
  | zero=>rfl
  | succ n ih=>rw [List.replicate_succ,List.flatten_cons,ih,List.replicate_succ]; rfl
theorem bolsT_d (l:List Bool):bolsT l = (l.map D.bool).map .d ++ []:=by simp [bolsT]
theorem bolsT_set {l:List Bool} {i:Nat}:(bolsT l).set (0 + i * 1) (.d (.bool true)) = bolsT (l.set i true):=by
  rw [Nat.zero_add,Nat.mul_one,bolsT,bolsT,List.map_set]
theorem chunk_bl {l:List Bool} {n:Nat} (h:l.length = n):chunk 1 n (l.map D.bool) = l.map fun q=>[D.bool q]:=by
  subst h
  induction l with
  | nil=>rfl
  | cons x l ih=>rw [List.length_cons,List.map_cons,List.map_cons]; show [D.bool x] :: chunk 1 l.length (l.map D.bool) = _; rw [ih]
theorem ask_len {fee:Int} {o:Ord} {l:List Prt} {ps:List Int} {fr:Nat} {x:Akd} (h:x.sales.length = l.length):(askS fee o l ps fr x).sales.length = l.length:=by
  unfold askS
  cases decide (akI fee o l ps fr < 0)
  · simp only [cond_false,List.length_set]; exact h
  · simp only [cond_true]; exact h
theorem zCj {fee:Int} {o:Ord} {l:List Prt} {all:List (List Int)} {fr:Nat} {x:Akd} (h:x.sales.length = l.length):∀ n,(askN fee o l all fr x n).sales.length = l.length
  | 0=>h
  | n + 1=>ask_len (zCj h n)
theorem zC5 {fee:Int} {o:Ord} {l:List Prt} {all:List (List Int)} {w:List Int}:∀ k,(askK fee o l all w k).sales.length = l.length
  | 0=>by simp [askK,akd0]
  | k + 1=>zCj (zC5 k) _
theorem ask_bd {fee:Int} {o:Ord} {l:List Prt} {ps:List Int} {fr a:Nat} (h:akI fee o l ps fr = (a:Nat)) (hfr:fr ≤ l.length):a < l.length:=by
  rcases zHU (fee:=fee) (o:=o) (l:=l) (ps:=ps) (l.length - fr) (by omega) with ⟨h1,_⟩ | ⟨k,h1,h2⟩
  · have:akI fee o l ps fr = -1:=h1
    omega
  · have:akI fee o l ps fr = (k:Int):=h1
    have:=h2.2.1
    omega
theorem sz115:Sz Tryz.prog 115 5:=(by kernel_rfl:(Tryz.prog.info? 115).map (·.size) = some 5)
theorem bt115:BT Tryz.prog 115 (.agg #[(.slice none 0 0),(.int .i64 0),(.int .i64 0),(.bool false),(.bool false)]) (fun i=>([(0,1),(1,1),(2,1),(3,1),(4,1)]:List (Nat × Nat))[i]?):=zx underlying115 zr115 (by kernel_rfl)
theorem elt110:ElT Tryz.prog 110 29 1 24:=zAA underlying110 (z:=(.slice none 0 0)) (by kernel_rfl) rfl (by decide)
theorem Truths4_ok (b:Brd) (l:List Prt) (v:BrdOK b) (hpo:∀ p ∈ l,PrtOK b p) (hl8:l.length ≤ 8):PureAt Tryz.prog 105 [brdD b,prtsD l,.int .i64 300] (.tup [lstD (truR b l).1,.bool (truR b l).2]):=by
 refine Zp Tryz.func105 rfl fun Γ hn hl=>?_
 refine Zu (Zb 3 hn rfl fun b3=>Zt 2 [] hn rfl (Zv (Zu (stepW (zS rfl rfl rfl (nb hn rfl) underlying110 sz29 zr29 rfl rfl rfl (show _ = [.d .nil] from by kernel_rfl) (by kernel_rfl) rfl rfl rfl rfl rfl) fun _=>?_))))
 refine Zt 1 [] hn rfl (Zv (zB (Zu (Zt 1 [] hn rfl (Zv (zK (zq (gh_rep (t:=8) rfl nil_rows) ?_)))))))
 refine awp_loop_on (ι:={x:Nat × List (List Int) // x.1 ≤ l.length ∧ trsN b l 300 x.1 = some x.2 ∧ x.2.length ≤ 300}) (fun x=>(9,true,.d (.int .i64 (x.1.1:Nat))) :: (8,true,.d (lstD x.1.2)) :: anys [14,15,16,17,10,11,20,21,22,23,12,26,27,30,31,32,33,34,35,36,37,38,39,40,41,42,43,44,45,46,47,48,49,50,51,52,53,54,55,56,57,58,59,28,29,24,25,60,61,62,63,64,18,19]) (fun x=>gones [10,49]) (fun x=>l.length - x.1.1) ⟨(0,[[]]),Nat.zero_le _,rfl,by decide⟩ ⟨.inl rfl,.inl rfl,zE _⟩ (zR _) ?_
 rintro ⟨⟨i,all⟩,hi,hts,hal⟩
 dsimp only
 dsimp only at hi hts hal
 refine zB (Zu (Zt 4 [] hn rfl (Zv (zG rfl (fun hb0=>?_) (fun hb0=>?_)))))
 have hil:i < l.length:=by simp at hb0; omega
 obtain ⟨p,hp⟩:=zT hil
 have hgp:l.getD i prt0 = p:=zP hp
 have hmem:=zD6 i (by omega) hts
 refine zI (zA (zB (zK (Zu (Zt 1 [] hn rfl (Zv (zB (zB (zq (g_nil (t:=10) (id:=10) 29 1 rfl (nb hn rfl)) ?_)))))))))
 refine zF (Zt 1 [] hn rfl (Zv (zK (awp_loop_on (ι:={x:Nat × Value // x.1 ≤ all.length}) (fun x=>(11,true,.d (.int .i64 (x.1.1:Nat))) :: (10,true,.val x.1.2) :: anys [20,21,22,23,12,26,27,30,31,32,33,34,35,36,37,38,39,40,41,42,43,44,45,46,47,48,49,50,51,52,53,54,55,56,57,58,59,28,29,24,25]) (fun x=>(10,.row x.1.2 29 1 ((nxK b l i all x.1.1).map lstE)) :: gones [49]) (fun x=>all.length - x.1.1) ⟨(0,_),Nat.zero_le _⟩ ⟨.inl rfl,.inl rfl,zE _⟩ ⟨.inl rfl,zR _⟩ ?_))))
 rintro ⟨⟨k,v1⟩,hk⟩
 dsimp only
 dsimp only at hk
 refine zB (Zu (Zt 4 [] hn rfl (Zv (zG rfl (fun hb1=>?_) (fun hb1=>?_)))))
 have hkl:k < all.length:=by simp at hb1; omega
 obtain ⟨ps,hps⟩:=zT hkl
 obtain ⟨hpl,hok⟩:=(hmem ps).1 (List.mem_of_getElem? hps)
 have hpb:∀ q y,q < i → ps[q]? = some y → 1 ≤ y ∧ y ≤ 799:=fun q y hq hy=>by have h:=(hok q hq).bd; rw [zP hy] at h; exact h
 have hKl:=zEJ (b:=b) (l:=l) (i:=i) (all:=all) k
 refine zI (zA (zB (zK (Zu (Zt 1 [] hn rfl (Zv (zK (awp_loop_on (ι:={x:Nat × Value // x.1 ≤ 799}) (fun x=>(12,true,.d (.int .i64 ((x.1.1 + 1:Nat):Int))) :: (10,true,.val x.1.2) :: anys [26,27,30,31,32,33,34,35,36,37,38,39,40,41,42,43,44,45,46,47,48,49,50,51,52,53,54,55,56,57,58,59,28,29]) (fun x=>(10,.row x.1.2 29 1 ((nxK b l i all k ++ nxP b l i ps x.1.1).map lstE)) :: gones [49]) (fun x=>799 - x.1.1) ⟨(0,v1),Nat.zero_le _⟩ ⟨.inl rfl,.inl rfl,zE _⟩ ⟨.inl (congrArg (fun z:List (List Int)=>some (Res.row v1 29 1 (z.map lstE))) (List.append_nil _).symm),zR _⟩ ?_))))))))
 rintro ⟨⟨n,v2⟩,hn9⟩
 dsimp only
 dsimp only at hn9
 refine zB (Zu (Zt 2 [] hn rfl (Zv (zG rfl (fun hb2=>?_) (fun hb2=>?_)))))
 have hnl:n < 799:=by simp at hb2; omega
 have hPl:=zCY (b:=b) (l:=l) (i:=i) (ps:=ps) n
 refine zI (zA (zB (zK (zB (zh (W:=fun b=>b ≠ b3) fmo ?_)))))
 refine Zy [0,1] [] hn rfl (Zd 2 rfl hn (q_index (i:=i) rfl rfl rfl underlying109 sz139 rfl (mget hp)) ?_)
 refine Zy [3,4,5] [] hn rfl (zH (Ze1 6 rfl hn rfl (zEm p i ((n + 1:Nat):Int) 0 (by omega) (by decide)) (d2_of_d1 (Zy [7,8,9,10,11,12,13] [3] hn rfl ?_))))
 refine Zg 14 [(42,_),(43,_)] rfl (zM rfl rfl rfl) hn (fun hc=>⟨⟨_,rfl,hc⟩,⟨_,rfl,hc⟩,trivial⟩) (fun hc=>q_index (i:=k) rfl rfl rfl underlying110 sz29 rfl (mget hps)) ?_
 refine Zy [15] [] hn rfl (zH ?_)
 refine Zo 16 rfl (s_call [(38,_),(39,_),(40,_),(41,_),(45,_)] (fun hc=>zCm b l i ((n + 1:Nat):Int) ps v hpo (by omega) hil (by omega) (by omega) hpb) rfl (zM rfl rfl rfl) rfl (nb hn rfl) (fun hc=>⟨⟨_,rfl,hc⟩,⟨_,rfl,hc⟩,⟨_,rfl,hc⟩,⟨_,rfl,hc⟩,⟨_,rfl,hc⟩,trivial⟩) rfl rfl (.refl _)) fun _=>?_
 refine d2_of_d1 (Zy [17] [] hn rfl (zH (zf (by kernel_rfl) ?_)))
 refine zA (zG rfl (fun hb3=>?_) (fun hb3=>?_))
 have q3:(refFits p i ((n + 1:Nat):Int) 0 && stepsB b l i ((n + 1:Nat):Int) ps) = true:=hb3
 refine zF (Zt 1 [] hn rfl (stepW (s_buildRow 49 rfl rfl rfl (nb hn rfl) underlying29 sz3 zr3 rfl rfl rfl (show _ = [] from by kernel_rfl) (by kernel_rfl) rfl rfl (show allD _ = some [] from by kernel_rfl) rfl rfl) fun v49=>?_))
 refine Zt 2 [] hn rfl (Zi (i:=k) hn rfl rfl (mget hps) ?_)
 refine Zt 1 [] hn rfl (stepW (s_append (id:=49) rfl rfl rfl (nb hn rfl) elt29 trivial rfl rfl rfl (by simp [chunk]; omega) (by simp [chunk]; omega) (fun b hb=>trivial)) fun v54=>?_)
 refine Zt 1 [] hn rfl (stepW (zS rfl rfl rfl (nb hn rfl) underlying29 sz3 zr3 rfl rfl rfl (show _ = [.d (.int .i64 0)] from by kernel_rfl) (by kernel_rfl) rfl rfl rfl rfl rfl) fun _=>?_)
 refine stepW (s_append (id:=49) rfl rfl rfl (nb hn rfl) elt29 trivial rfl rfl rfl (by simp [chunk]; omega) (by simp [chunk]; omega) (fun b hb=>trivial)) fun v57=>?_
 refine yp (g_row (t:=57) (id:=49) rfl rfl) ?_
 refine stepW (zS rfl rfl rfl (nb hn rfl) underlying110 sz29 zr29 rfl rfl rfl (show _ = [.d .nil] from by kernel_rfl) (by kernel_rfl) rfl rfl rfl rfl rfl) fun _=>?_
 refine stepW (s_append (id:=10) rfl rfl rfl (nb hn rfl) elt110 trivial rfl rfl rfl (by simp [chunk]; omega) (by simp [chunk]; omega) (fun b hb=>trivial)) fun v59=>?_
 refine Zt 1 [] hn rfl (zQ (zO (zA (zF (Zt 1 [] hn rfl (Zs hn (za rfl rfl rfl (r:=((n + 1 + 1:Nat):Int)) (i64w (by omega) (by omega))) ?_))))))
 refine Zt 1 [] hn rfl (zQ ?_)
 exact Zr ⟨(n + 1,v59),by simp only; omega⟩ ⟨.inl rfl,.inl rfl,zE _⟩ ⟨.inl (congrArg (fun z=>some (Res.row v59 29 1 z)) (nx_add rfl (by rw [hgp]; exact q3))),zR _⟩ (by simp only; omega)
 have q3:(refFits p i ((n + 1:Nat):Int) 0 && stepsB b l i ((n + 1:Nat):Int) ps) = false:=hb3
 refine zI (zO (zA (zF (Zt 1 [] hn rfl (Zs hn (za rfl rfl rfl (r:=((n + 1 + 1:Nat):Int)) (i64w (by omega) (by omega))) ?_)))))
 refine Zt 1 [] hn rfl (zQ ?_)
 exact Zr ⟨(n + 1,v2),by simp only; omega⟩ ⟨.inl rfl,.inl rfl,zE _⟩ ⟨.inl (congrArg (fun z=>some (Res.row v2 29 1 z)) (nx_not (by rw [hgp]; exact q3))),zR _⟩ (by simp only; omega)
 obtain rfl:n = 799:=by simp at hb2; omega
 refine zU (zD (zD (zL (zO (zA (zF (Zt 1 [] hn rfl (Zs hn (za rfl rfl rfl (r:=((k + 1:Nat):Int)) (i64w (by omega) (by omega))) ?_))))))))
 refine Zt 1 [] hn rfl (zQ ?_)
 exact Zr ⟨(k + 1,v2),by simp only; omega⟩ ⟨.inl rfl,.inl rfl,zE _⟩ ⟨.inl (congrArg (fun z:List (List Int)=>some (Res.row v2 29 1 (z.map lstE))) (show nxK b l i all k ++ nxP b l i ps 799 = nxK b l i all (k + 1) by rw [nxK,zP hps])),zR _⟩ (by simp only; omega)
 obtain rfl:k = all.length:=by simp at hb1; omega
 have hKl:=zEJ (b:=b) (l:=l) (i:=i) (all:=all) all.length
 refine zU (zD (zD (zL (zA (zB (Zu (Zt 1 [] hn rfl (Zs hn (zEX rfl rfl (id:=10) rfl underlying110) ?_))))))))
 refine Zt 2 [] hn rfl (Zv (zG rfl (fun hb4=>?_) (fun hb4=>?_)))
 have q4:decide ((300:Int) < ((nxK b l i all all.length).length:Int)) = true:=by rw [List.length_map] at hb4; exact hb4
 refine Zu (Zt 2 [] hn rfl (Zv (zJ (zC (zN (zC (zC (zN (zC (kN (y1 (.inl rfl) hl rfl (.tmp rfl) (.tmp rfl)) ?_))))))))))
 rw [trR_no (by rw [zGT hts,q4]; rfl) hil]; exact .tup (.cons (.nil 1) (.refl _))
 have q4:decide ((300:Int) < ((nxK b l i all all.length).length:Int)) = false:=by rw [List.length_map] at hb4; exact hb4
 refine zI (zA (zF (yp (g_row (t:=10) (id:=10) rfl rfl) ?_)))
 refine Zt 2 [] hn rfl (zQ (zO (zA (zF (Zt 1 [] hn rfl (Zs hn (za rfl rfl rfl (r:=((i + 1:Nat):Int)) (i64w (by omega) (by omega))) ?_))))))
 refine Zt 1 [] hn rfl (zQ ?_)
 exact Zr ⟨(i + 1,nxK b l i all all.length),by simp only; omega,by simp only; rw [zGT hts,q4]; rfl,by have:=of_decide_eq_false q4; simp only; omega⟩ ⟨.inl rfl,.inl rfl,zE _⟩ (zR _) (by simp only; omega)
 obtain rfl:i = l.length:=by simp at hb0; omega
 refine zU (zD (zD (zL (zA (Zu (Zt 3 [] hn rfl (Zv (zJ (kN (y1 (.inl rfl) hl rfl (.tmp rfl) (.tmp rfl)) ?_)))))))))
 rw [zGm hts]; exact .refl _
theorem Waits4_ok (d:Dsk) (l:List Prt) (j:Nat) (o:Ord) (hod:d.orders[j]? = some o) (hob:0 ≤ o.mlo ∧ o.mlo ≤ o.mhi ∧ o.mhi ≤ 600) (hpo:∀ p ∈ l,PrtOK d.b p) (hl8:l.length ≤ 8) (htb:timesB l = true):PureAt Tryz.prog 106 [dskD d,prtsD l,.int .i64 (j:Nat)] (ints (waitL o (timL l l.length) l.length (l.length + 1))):=by
 refine Zp Tryz.func106 rfl fun Γ hn hl=>?_
 have hml:=zEf l
 refine Zu (Zb 3 hn rfl fun b3=>Zt 1 [] hn rfl (Zv (Zu (Zt 1 [] hn rfl (Zk hn rfl ((by have h:=zFa d.b l hpo hl8; rw [show timesI l = timL l l.length from by unfold timesI; rw [htb]; rfl,htb] at h; exact h)) ?_)))))
 refine Zt 5 [] hn rfl (Zv (Zu (Zt 3 [3] hn rfl (Zi (i:=j) hn rfl rfl (mget hod) ?_))))
 refine Zt 1 [] hn rfl (Zb 9 hn rfl fun b9=>Zt 1 [9] hn rfl (Zv (Zu (Zt 1 [] hn rfl (Zv (zB (zB (zq (g_nil (t:=10) (id:=10) 3 1 rfl (nb hn rfl)) ?_))))))))
 refine zF (Zt 1 [] hn rfl (Zv (zK (awp_loop_on (ι:={x:Nat × Value // x.1 ≤ l.length + 1}) (fun x=>(11,true,.d (.int .i64 (x.1.1:Nat))) :: (10,true,.val x.1.2) :: anys [26,27,28,29,12,32,33,34,13,35,36,37,38,39,42,43,44,45,46,47,48,49,50,51,52,53,14,54,55,56,57,58,59,60,61,62,63,64,65,66,15,67,68,69,70,71,72,73,40,41,74,75,76,77,78,30,31]) (fun x=>[(10,.row x.1.2 3 1 ((waitL o (timL l l.length) l.length x.1.1).map intE))]) (fun x=>l.length + 1 - x.1.1) ⟨(0,_),Nat.zero_le _⟩ ⟨.inl rfl,.inl rfl,zE _⟩ ⟨.inl rfl,trivial⟩ ?_))))
 rintro ⟨⟨s,v1⟩,hs⟩
 dsimp only
 dsimp only at hs
 refine zB (Zu (Zt 4 [] hn rfl (Zv (zG rfl (fun hb0=>?_) (fun hb0=>?_)))))
 have hsl:s ≤ l.length:=by simp at hb0; omega
 have hWl:=zBy (o:=o) (mm:=(timL l l.length)) (n:=l.length) s
 refine zI (zA (zB (zK (Zu (Zt 1 [] hn rfl (Zv (zB (Zu (Zt 4 [9] hn rfl (Zv (zK (awp_loop_on (ι:={q:Nat // q ≤ (o.mhi - o.mlo + 1).toNat}) (fun x=>(13,true,.d (.int .i64 (o.mlo + (x.1:Nat)))) :: (12,true,.d (.bool (canW o (timL l l.length) l.length s x.1))) :: anys [35,36,37,38,39,42,43,44,45,46,47,48,49,50,51,52,53,14,54,55,56,57,58,59,60,61,62,63,64,65,66,15,67,68,69,70,71,72,73,40,41]) (fun x=>[]) (fun x=>(o.mhi - o.mlo + 1).toNat - x.1) ⟨0,Nat.zero_le _⟩ ⟨.inl (congrArg (fun z=>some (true,TV.d (D.int .i64 z))) (by simp)),.inl rfl,zE _⟩ trivial ?_))))))))))))
 rintro ⟨q,hq⟩
 dsimp only
 refine zB (Zu (Zt 5 [9] hn rfl (Zv (zG rfl (fun hb1=>?_) (fun hb1=>?_)))))
 have hql:q < (o.mhi - o.mlo + 1).toNat:=by simp at hb1; omega
 refine zI (zA (zB (zK (Zu (Zt 5 [] hn rfl ?_)))))
 refine Zh [(46,_)] (zM rfl rfl rfl) hn (fun hc=>⟨⟨_,rfl,hc⟩,trivial⟩) (fun hc=>z6 rfl rfl rfl (r:=((s - 1:Nat):Int)) (i64w (by omega) (by have h0:0 < s:=(by simp at hc; omega); omega))) ?_
 refine Zh [(45,_),(47,_)] (zM rfl rfl rfl) hn (fun hc=>⟨⟨_,rfl,hc⟩,⟨_,rfl,hc⟩,trivial⟩) (fun hc=>q_index (i:=s - 1) rfl rfl rfl underlying155 sz59 rfl (mgetR (by have h0:0 < s:=(by simp at hc; omega); omega))) ?_
 refine Zt 6 [] hn rfl (Zv (Zu (Zt 7 [] hn rfl ?_)))
 refine Zh [(59,_),(60,_)] (zM rfl rfl rfl) hn (fun hc=>⟨⟨_,rfl,hc⟩,⟨_,rfl,hc⟩,trivial⟩) (fun hc=>q_index (i:=s) rfl rfl rfl underlying155 sz59 rfl (mgetR (by simp at hc; omega))) ?_
 refine Zt 6 [] hn rfl (Zv (zF (Zt 8 [] hn rfl (zQ (zO (zA (zF (Zt 1 [] hn rfl (Zs hn (za rfl rfl rfl (r:=o.mlo + ((q + 1:Nat):Int)) (i64w (by omega) (by omega))) ?_)))))))))
 refine Zt 1 [] hn rfl (zQ ?_)
 exact Zr ⟨q + 1,by omega⟩ ⟨.inl rfl,.inl (congrArg (fun z=>some (true,TV.d (D.bool z))) (by rw [canW,List.length_map])),zE _⟩ trivial (by simp only; omega)
 obtain rfl:q = (o.mhi - o.mlo + 1).toNat:=by simp at hb1; omega
 refine zU (zD (zD (zL (zA (Zu (Zt 1 [] hn rfl (Zv (zG rfl (fun hb2=>?_) (fun hb2=>?_)))))))))
 have q2:waitB o (timL l l.length) l.length s = true:=hb2
 refine zF (Zt 2 [] hn rfl (stepW (zS rfl rfl rfl (nb hn rfl) underlying29 sz3 zr3 rfl rfl rfl (show _ = [.d (.int .i64 0)] from by kernel_rfl) (by kernel_rfl) rfl rfl rfl rfl rfl) fun _=>?_))
 refine stepW (s_append (id:=10) rfl rfl rfl (nb hn rfl) elt29 trivial rfl rfl rfl (by simp [chunk]; omega) (by simp [chunk]; omega) (fun b hb=>trivial)) fun v78=>?_
 refine Zt 1 [] hn rfl (zQ (zO (zA (zF (Zt 1 [] hn rfl (Zs hn (za rfl rfl rfl (r:=((s + 1:Nat):Int)) (i64w (by omega) (by omega))) ?_))))))
 refine Zt 1 [] hn rfl (zQ ?_)
 exact Zr ⟨(s + 1,v78),by simp only; omega⟩ ⟨.inl rfl,.inl rfl,zE _⟩ ⟨.inl (congrArg (fun z=>some (Res.row v78 3 1 z)) (wait_add q2)),trivial⟩ (by simp only; omega)
 have q2:waitB o (timL l l.length) l.length s = false:=hb2
 refine zI (zO (zA (zF (Zt 1 [] hn rfl (Zs hn (za rfl rfl rfl (r:=((s + 1:Nat):Int)) (i64w (by omega) (by omega))) ?_)))))
 refine Zt 1 [] hn rfl (zQ ?_)
 exact Zr ⟨(s + 1,v1),by simp only; omega⟩ ⟨.inl rfl,.inl rfl,zE _⟩ ⟨.inl (congrArg (fun z=>some (Res.row v1 3 1 z)) (wait_not q2)),trivial⟩ (by simp only; omega)
 obtain rfl:s = l.length + 1:=by simp at hb0; omega
 refine zU (zD (zD (zL (zA (Zu (Zt 2 [] hn rfl (Zv (zJ (ya (g_row (t:=6) (id:=10) rfl rfl) ?_)))))))))
 exact zX (.inl rfl) hl rfl (.tmp rfl)
theorem Ask4_ok (d:Dsk) (l:List Prt) (j:Nat) (o:Ord) (hod:d.orders[j]? = some o) (hob:0 ≤ o.mlo ∧ o.mlo ≤ o.mhi ∧ o.mhi ≤ 600) (hpo:∀ p ∈ l,PrtOK d.b p) (hl8:l.length ≤ 8) (htb:timesB l = true) (hf:0 ≤ d.fee ∧ d.fee ≤ 4) (all:List (List Int)) (hall:∀ ps ∈ all,ps.length = l.length ∧ ∀ p ∈ ps,1 ≤ p ∧ p ≤ 799) (hal:all.length ≤ 1000):PureAt Tryz.prog 49 [dskD d,prtsD l,lstD all,.int .i64 (j:Nat)] (.agg (akdE (askI d.fee o l all (timL l l.length)))):=by
 refine Zp Tryz.func49 rfl fun Γ hn hl=>?_
 refine Zu (Zb 4 hn rfl fun b4=>Zb 8 hn rfl fun b8=>Zv (Zu (Zt 2 [] hn rfl (stepW (kC (n:=l.length) 1110 rfl rfl rfl (nb hn rfl) underlying113 (show _ = some (some (.bool false),1,1) from by kernel_rfl) rfl rfl rfl (by decide) rfl rfl (by simp) (by simp) (by omega) (by omega) (by omega)) fun b19=>?_))))
 refine yp (gh_req (id:=1110) rfl (congrArg (Res.box b19 4) (bolsT_zero (n:=l.length)))) ?_
 refine Zs hn (zEe rfl bt115 rfl rfl rfl rfl) ?_
 refine Zb 9 hn rfl fun b9=>Zt 1 [9] hn rfl (Zv (Zu (Zt 3 [4] hn rfl (Zi (i:=j) hn rfl rfl (mget hod) ?_))))
 refine Zt 1 [] hn rfl (Zb 10 hn rfl fun b10=>Zt 1 [10] hn rfl (Zv (Zu (Zt 3 [4] hn rfl (Zk hn rfl (Waits4_ok d l j o hod hob hpo hl8 htb) (Zt 1 [] hn rfl (Zv (zB (zB ?_)))))))))
 have hw:∀ x ∈ (waitL o (timL l l.length) l.length (l.length + 1)),0 ≤ x ∧ x ≤ l.length:=fun x hx=>by obtain ⟨s,rfl,h,_⟩:=(kp _).1 hx; omega
 have hwl:=zBy (o:=o) (mm:=(timL l l.length)) (n:=l.length) (l.length + 1)
 generalize hwd:(waitL o (timL l l.length) l.length (l.length + 1)) = w at hw hwl ⊢
 refine zF (Zt 1 [] hn rfl (Zv (zK (awp_loop_on (ι:={k:Nat // k ≤ w.length}) (fun x=>(12,true,.d (.int .i64 (x.1:Nat))) :: anys [30,31,32,33,13,36,37,38,39,14,42,43,44,15,45,46,47,48,49,50,53,54,55,56,57,58,59,60,61,62,63,64,65,66,67,68,69,70,71,72,73,51,52,74,75,76,77,78,79,80,81,82,83,84,85,86,16,87,88,89,90,91,92,93,94,95,96,97,98,99,100,101,40,41,34,35]) (fun x=>[(9,.box b9 115 [.val (.slice (some ⟨b19,0,none⟩) l.length l.length),.d (.int .i64 (askK d.fee o l all w x.1).low),.d (.int .i64 (askK d.fee o l all w x.1).top),.d (.bool (askK d.fee o l all w x.1).some_),.d (.bool (askK d.fee o l all w x.1).missed)]),(1110,.box b19 4 (bolsT (askK d.fee o l all w x.1).sales))]) (fun x=>w.length - x.1) ⟨0,Nat.zero_le _⟩ ⟨.inl rfl,zE _⟩ ⟨.inl rfl,.inl rfl,trivial⟩ ?_))))
 rintro ⟨k,hk⟩
 dsimp only
 refine zB (Zu (Zt 4 [] hn rfl (Zv (zG rfl (fun hb0=>?_) (fun hb0=>?_)))))
 have hkw:k < w.length:=by simp at hb0; omega
 obtain ⟨fi,hfi⟩:=zT hkw
 have hfb:=hw fi (List.mem_of_getElem? hfi)
 obtain ⟨fr,rfl⟩:∃ fr:Nat,fi = (fr:Int):=⟨fi.toNat,by omega⟩
 have hfl:fr ≤ l.length:=by omega
 have e7:askK d.fee o l all w (k + 1) = askN d.fee o l all fr (askK d.fee o l all w k) all.length:=by rw [askK,zP hfi,Int.toNat_natCast]
 refine zI (zA (zB (zK (Zu (Zt 1 [] hn rfl (Zv (zK (awp_loop_on (ι:={n:Nat // n ≤ all.length}) (fun x=>(13,true,.d (.int .i64 (x.1:Nat))) :: anys [36,37,38,39,14,42,43,44,15,45,46,47,48,49,50,53,54,55,56,57,58,59,60,61,62,63,64,65,66,67,68,69,70,71,72,73,51,52,74,75,76,77,78,79,80,81,82,83,84,85,86,16,87,88,89,90,91,92,93,94,95,96,97,98,99,100,101,40,41]) (fun x=>[(9,.box b9 115 [.val (.slice (some ⟨b19,0,none⟩) l.length l.length),.d (.int .i64 (askN d.fee o l all fr (askK d.fee o l all w k) x.1).low),.d (.int .i64 (askN d.fee o l all fr (askK d.fee o l all w k) x.1).top),.d (.bool (askN d.fee o l all fr (askK d.fee o l all w k) x.1).some_),.d (.bool (askN d.fee o l all fr (askK d.fee o l all w k) x.1).missed)]),(1110,.box b19 4 (bolsT (askN d.fee o l all fr (askK d.fee o l all w k) x.1).sales))]) (fun x=>all.length - x.1) ⟨0,Nat.zero_le _⟩ ⟨.inl rfl,zE _⟩ ⟨.inl rfl,.inl rfl,trivial⟩ ?_))))))))
 rintro ⟨n,hn9⟩
 dsimp only
 refine zB (Zu (Zt 4 [] hn rfl (Zv (zG rfl (fun hb1=>?_) (fun hb1=>?_)))))
 ·
  have hnl:n < all.length:=by simp at hb1; omega
  obtain ⟨ps,hps⟩:=zT hnl
  obtain ⟨hpl,hpb⟩:=hall ps (List.mem_of_getElem? hps)
  have hsl:=zCj (fee:=d.fee) (o:=o) (l:=l) (all:=all) (fr:=fr) (zC5 (fee:=d.fee) (o:=o) (l:=l) (all:=all) (w:=w) k) n
  have e4:(askN d.fee o l all fr (askK d.fee o l all w k) (n + 1)) = askS d.fee o l ps fr (askN d.fee o l all fr (askK d.fee o l all w k) n):=by rw [askN,zP hps]
  refine zI (zA (zB (zK (Zu (Zt 1 [] hn rfl (Zv (zB (Zu (Zt 2 [] hn rfl (Zs hn (z6 rfl rfl rfl (r:=(l.length:Int) - 1) (by rw [List.length_map]; exact i64w (by omega) rfl)) ?_))))))))))
  refine Zt 1 [] hn rfl (Zv (zK (awp_loop_on (ι:={q:Nat // q ≤ l.length - fr}) (fun x=>(15,true,.d (.int .i64 ((l.length:Int) - 1 - (x.1:Nat)))) :: (14,true,.d (.int .i64 (akN d.fee o l ps x.1))) :: anys [45,46,47,48,49,50,53,54,55,56,57,58,59,60,61,62,63,64,65,66,67,68,69,70,71,72,73,51,52]) (fun x=>[]) (fun x=>l.length - fr - x.1) ⟨0,Nat.zero_le _⟩ ⟨.inl (congrArg (fun z=>some (true,TV.d (D.int .i64 z))) (by simp)),.inl rfl,zE _⟩ trivial ?_)))
  rintro ⟨q,hq⟩
  dsimp only
  refine zB (Zu (Zt 3 [] hn rfl (Zi (i:=k) hn rfl rfl (mget hfi) ?_)))
  refine Zt 2 [] hn rfl (Zv (zG rfl (fun hb2=>?_) (fun hb2=>?_)))
  have hql:q < l.length - fr:=by simp at hb2; omega
  obtain ⟨i,hi⟩:∃ i,l.length - 1 - q = i:=⟨_,rfl⟩
  have hie:(l.length:Int) - 1 - (q:Nat) = (i:Nat):=by omega
  obtain ⟨p,hp⟩:=zT (show i < l.length by omega)
  obtain ⟨pi,hpi⟩:=zT (show i < ps.length by omega)
  have hpib:=hpb pi (List.mem_of_getElem? hpi)
  have e1:akN d.fee o l ps (q + 1) = bif p.stock == o.stock && letsB d.fee o pi then (i:Int) else akN d.fee o l ps q:=by rw [akN,hi,zP hp,zP hpi]
  refine zI (zA (zB (zK (zB (zh (W:=fun b=>b ≠ b4 ∧ b ≠ b10) fmo ?_)))))
  refine Zy [0,1] [] hn rfl (Zd 2 rfl hn (q_index (i:=i) rfl rfl rfl underlying109 sz139 hie (mget hp)) ?_)
  refine Zy [3,4,5,6,7,8,9,10,11,12] [10,4,10] hn rfl ?_
  refine Zg 13 [(64,_),(65,_)] rfl (zM rfl rfl rfl) hn (fun hc=>⟨⟨_,rfl,hc⟩,⟨_,rfl,hc⟩,trivial⟩) (fun hc=>q_index (i:=n) rfl rfl rfl underlying110 sz29 rfl (mget hps)) ?_
  refine Zy [14,15] [] hn rfl ?_
  refine Zg 16 [(67,_),(68,_)] rfl (zM rfl rfl rfl) hn (fun hc=>⟨⟨_,rfl,hc⟩,⟨_,rfl,hc⟩,trivial⟩) (fun hc=>q_index (i:=i) rfl rfl rfl underlying29 sz3 hie (mget hpi)) ?_
  refine Zy [17] [] hn rfl (zH ?_)
  refine Zo 18 rfl (s_call [(62,_),(63,_),(70,_)] (fun hc=>zFl d o pi hf (by omega)) rfl (zM rfl rfl rfl) rfl (nb hn rfl) (fun hc=>⟨⟨_,rfl,hc⟩,⟨_,rfl,hc⟩,⟨_,rfl,hc⟩,trivial⟩) rfl rfl (.refl _)) fun _=>?_
  refine d2_of_d1 (Zy [19] [] hn rfl (zH (zf (by kernel_rfl) ?_)))
  refine zA (zG rfl (fun hb3=>?_) (fun hb3=>?_))
  have q3:(p.stock == o.stock && letsB d.fee o pi) = true:=hb3
  refine zF (Zt 2 [] hn rfl (zQ (zO (zA (zF (Zt 1 [] hn rfl (Zs hn (z6 rfl rfl rfl (r:=(l.length:Int) - 1 - ((q + 1:Nat):Int)) (i64w (by omega) (by omega))) ?_)))))))
  refine Zt 1 [] hn rfl (zQ ?_)
  exact Zr ⟨q + 1,by omega⟩ ⟨.inl rfl,.inl (congrArg (fun z=>some (true,TV.d (D.int .i64 z))) (by rw [e1,q3]; exact hie)),zE _⟩ trivial (by simp only; omega)
  have q3:(p.stock == o.stock && letsB d.fee o pi) = false:=hb3
  refine zI (zO (zA (zF (Zt 1 [] hn rfl (Zs hn (z6 rfl rfl rfl (r:=(l.length:Int) - 1 - ((q + 1:Nat):Int)) (i64w (by omega) (by omega))) ?_)))))
  refine Zt 1 [] hn rfl (zQ ?_)
  exact Zr ⟨q + 1,by omega⟩ ⟨.inl rfl,.inl (congrArg (fun z=>some (true,TV.d (D.int .i64 z))) (by rw [e1,q3]; rfl)),zE _⟩ trivial (by simp only; omega)
  obtain rfl:q = l.length - fr:=by simp at hb2; omega
  have hak:akN d.fee o l ps (l.length - fr) = akI d.fee o l ps fr:=rfl
  rw [hak]
  refine zU (zD (zD (zL (zA (zB (Zu (Zt 2 [] hn rfl (Zv (zG rfl (fun hb4=>?_) (fun hb4=>?_))))))))))
  have q4:decide (akI d.fee o l ps fr < 0) = true:=hb4
  have e5:(askN d.fee o l all fr (askK d.fee o l all w k) (n + 1)) = { (askN d.fee o l all fr (askK d.fee o l all w k) n) with missed:=true }:=by rw [e4]; unfold askS; rw [q4]; rfl
  refine Zu (Zt 1 [] hn rfl (stepW (s_store1 rfl rfl rfl rfl rfl rfl (id:=9) rfl sz4 (Nat.le_of_ble_eq_true rfl) rfl trivial) fun _=>?_))
  refine Zv (zU (zD (zL (zA (zF ?_)))))
  rotate_left
  have q4:decide (akI d.fee o l ps fr < 0) = false:=hb4
  obtain ⟨a,ha⟩:∃ a:Nat,akI d.fee o l ps fr = (a:Int):=⟨(akI d.fee o l ps fr).toNat,by have:=of_decide_eq_false q4; omega⟩
  have hal2:=ask_bd ha hfl
  obtain ⟨pa,hpa⟩:=zT (show a < ps.length by omega)
  have hpab:=hpb pa (List.mem_of_getElem? hpa)
  have e5:(askN d.fee o l all fr (askK d.fee o l all w k) (n + 1)) = ⟨(askN d.fee o l all fr (askK d.fee o l all w k) n).sales.set a true,min (askN d.fee o l all fr (askK d.fee o l all w k) n).low (priceO d.fee o pa),max (askN d.fee o l all fr (askK d.fee o l all w k) n).top (priceO d.fee o pa),true,(askN d.fee o l all fr (askK d.fee o l all w k) n).missed⟩:=by rw [e4]; unfold askS; rw [q4,cond_false,ha,Int.toNat_natCast,zP hpa]
  refine zI (zA (zB (zh (W:=fun b=>b ≠ b4 ∧ b ≠ b10) fmo ?_)))
  refine Zy [0,1,2,3] [4,10] hn rfl (Zd 4 rfl hn (q_index (i:=n) rfl rfl rfl underlying110 sz29 rfl (mget hps)) ?_)
  refine Zy [5,6] [] hn rfl (Zd 7 rfl hn (q_index (i:=a) rfl rfl rfl underlying29 sz3 ha (mget hpa)) ?_)
  refine Zy [8] [] hn rfl (zH (Ze1 9 rfl hn rfl (zDW d o pa hf (by omega)) (d2_of_d1 (Zy [10] [] hn rfl (zH (zf (by kernel_rfl) ?_))))))
  refine zA (Zu (Zt 3 [9] hn rfl (Zs hn (q_indexV (i:=a) rfl rfl rfl underlying113 sz4 ha hal2) ?_)))
  refine stepW (s_store1 rfl rfl rfl rfl rfl rfl (id:=1110) rfl sz4 (by rw [List.length_map]; omega) bolsT_set trivial) fun _=>?_
  refine Zt 1 [] hn rfl (stepW (s_store1 rfl rfl rfl rfl rfl rfl (id:=9) rfl sz4 (Nat.le_of_ble_eq_true rfl) rfl trivial) fun _=>?_)
  refine Zv (zF (Zt 3 [9] hn rfl (Zs hn (zHT rfl rfl rfl) ?_)))
  refine Zt 3 [9] hn rfl (Zs hn (kK rfl rfl rfl) ?_)
  refine Zt 1 [] hn rfl (stepW (s_store1 rfl rfl rfl rfl rfl rfl (id:=9) rfl sz3 (Nat.le_of_ble_eq_true rfl) rfl trivial) fun _=>?_)
  refine Zt 1 [] hn rfl (stepW (s_store1 rfl rfl rfl rfl rfl rfl (id:=9) rfl sz3 (Nat.le_of_ble_eq_true rfl) rfl trivial) fun _=>?_)
  refine zQ (zO (zA (zF ?_)))
  rotate_left
  all_goals
   refine Zt 1 [] hn rfl (Zs hn (za rfl rfl rfl (r:=((n + 1:Nat):Int)) (i64w (by omega) (by omega))) ?_)
   refine Zt 1 [] hn rfl (zQ ?_)
   exact Zr ⟨n + 1,by omega⟩ ⟨.inl rfl,zE _⟩ ⟨.inl (by rw [e5]; rfl),.inl (by rw [e5]; rfl),trivial⟩ (by simp only; omega)
 obtain rfl:n = all.length:=by simp at hb1; omega
 refine zU (zD (zD (zL (zO (zA (zF (Zt 1 [] hn rfl (Zs hn (za rfl rfl rfl (r:=((k + 1:Nat):Int)) (i64w (by omega) (by omega))) ?_))))))))
 refine Zt 1 [] hn rfl (zQ ?_)
 exact Zr ⟨k + 1,by omega⟩ ⟨.inl rfl,zE _⟩ ⟨.inl (by rw [e7]; rfl),.inl (by rw [e7]; rfl),trivial⟩ (by simp only; omega)
 obtain rfl:k = w.length:=by simp at hb0; omega
 have hsl:=zC5 (fee:=d.fee) (o:=o) (l:=l) (all:=all) (w:=w) w.length
 refine zU (zD (zD (zL (zA (zB ?_)))))
 refine zq (gh_veccell (id:=9) (k:=0) (rid:=1110) (ds:=(askK d.fee o l all w w.length).sales.map D.bool) (rest:=[]) (n:=l.length) (sz:=1) rfl rfl (congrArg (fun z=>some (Res.box b19 4 z)) (bolsT_d _)) rfl (by rw [List.length_map,hsl,Nat.mul_one]) (chunk_bl hsl) (Nat.le_refl _) (by simp only [maxLen]; omega)) ?_
 refine zF (Zt 2 [9,8] hn rfl (Zv (zJ (zZ (zX (.inl rfl) hl rfl (.cellA rfl (id:=8) rfl underlying115 rfl sz115 rfl rfl)) ?_))))
 unfold askI; rw [hwd]
theorem Verdict4_ok (x:Akd):PureAt Tryz.prog 54 [.agg (akdE x)] (.int .i64 (verdR x)):=by
 refine Zp Tryz.func54 rfl fun Γ hn hl=>?_
 refine Zu (Zb 1 hn rfl fun b1=>Zt 1 [] hn rfl (Zv (zB (Zu (Zt 3 [1] hn rfl (Zv (zG rfl (fun hb0=>?_) (fun hb0=>?_))))))))
 have q0:(!x.missed) = true:=hb0
 refine Zu (Zt 1 [] hn rfl (Zv (zJ (zC (zZ (zX (.inl rfl) hl rfl (.tmp rfl)) ?_)))))
 rw [show verdR x = 1 from by unfold verdR; rw [q0]; rfl]
 have q0:(!x.missed) = false:=hb0
 refine zI (zA (zB (Zu (Zt 3 [1] hn rfl (Zv (zG rfl (fun hb1=>?_) (fun hb1=>?_)))))))
 have q1:(!x.some_) = true:=hb1
 refine Zu (Zt 1 [] hn rfl (Zv (zJ (zC (zZ (zX (.inl rfl) hl rfl (.tmp rfl)) ?_)))))
 rw [show verdR x = 2 from by unfold verdR; rw [q0,q1]; rfl]
 have q1:(!x.some_) = false:=hb1
 refine zI (zA (Zu (Zt 1 [] hn rfl (Zv (zJ (zZ (zX (.inl rfl) hl rfl (.tmp rfl)) ?_))))))
 rw [show verdR x = 3 from by unfold verdR; rw [q0,q1]; rfl]
def lateS:List UInt8:=[64,53,32,65,66,32,51,115,32,56,46,50,32,76,49,45,50,32,64,55,32,56,46,53,32,67,32,48,46,49,32,33,32,64,56,32,48,46,55,32,63]
def latL4:List Prt:=[⟨0,3,3,66,false,5,0,0⟩,⟨0,1,1,69,false,7,1,2⟩,⟨1,1,1,1,false,7,1,2⟩,⟨1,1,4,7,false,8,1,2⟩]
def twoB:Brd:=⟨[⟨[65,66],300,310⟩,⟨[67],75,79⟩],10,4⟩
def thrO:List Ord:=[⟨true,0,10,0,4,5⟩,⟨false,0,20,308,5,5⟩,⟨true,1,30,85,4,6⟩]
def threeD:Dsk:=⟨twoB,lateS,1,thrO⟩
def toldT:Tru:=⟨[306,309,81,87],[5,6,6,7],[5,5,6]⟩
def lateM:List (Int × Int):=[(5,5),(5,6),(5,6),(6,7)]
theorem two_valid:checkT twoB = 0:=by kernel_rfl
theorem zAI:readI twoB lateS = (latL4,0):=by rw [← zFN two_valid]; kernel_rfl
theorem t_prices:(pricesI twoB lateS).2 = 0:=by unfold pricesI; rw [zAI]; kernel_rfl
theorem zAR:minutesI twoB lateS = (lateM,0):=by unfold minutesI; rw [zAI]; kernel_rfl
theorem zF5:deskI threeD = 0:=by unfold deskI; rw [show readI threeD.b threeD.tape = (latL4,0) from zAI]; kernel_rfl
theorem zD5 (os:List Int) (h:(os.all fun n=>withinB n 0 ((threeD.orders.length:Int) - 1)) = true):sureO threeD os = 0:=by
  unfold sureO
  rw [zF5,h,show (pricesI threeD.b threeD.tape).2 = 0 from t_prices,show minutesI threeD.b threeD.tape = (lateM,0) from zAR]; rfl
theorem t_sales0:salesI threeD 0 = ([0,1],0):=by
  unfold salesI
  rw [zD5 [0] (by kernel_rfl),show readI threeD.b threeD.tape = (latL4,0) from zAI,show minutesI threeD.b threeD.tape = (lateM,0) from zAR]; kernel_rfl
theorem t_bounds:boundsI threeD = ([(307,310),(308,308),(82,82)],0):=by
  unfold boundsI
  rw [zD5 [] (by kernel_rfl),show readI threeD.b threeD.tape = (latL4,0) from zAI,show minutesI threeD.b threeD.tape = (lateM,0) from zAR]; kernel_rfl
theorem t_verds:verdsI threeD = ([3,3,3],0):=by
  unfold verdsI
  rw [zD5 [] (by kernel_rfl),show readI threeD.b threeD.tape = (latL4,0) from zAI,show minutesI threeD.b threeD.tape = (lateM,0) from zAR]; kernel_rfl
theorem t_truth:truthW threeD (readI threeD.b threeD.tape).1 toldT = true:=by
  unfold truthW
  rw [zDx,show readI threeD.b threeD.tape = (latL4,0) from zAI]; kernel_rfl
theorem zHH:playI threeD toldT = ([(1,310),(1,308),(-1,0)],0):=by
  unfold playI
  rw [zF5,t_truth,show readI threeD.b threeD.tape = (latL4,0) from zAI]; kernel_rfl
theorem t_has:hasI threeD toldT = ([10,0],-3060,0):=by unfold hasI; rw [zHH]; kernel_rfl
theorem t_show {x:Tru × Int} (h:ShowR threeD 0 true x.1 x.2):∃ t,x = (t,0) ∧ (deskI threeD == 0 && truthW threeD (readI threeD.b threeD.tape).1 t) = true:=by
  have hb:(bndI threeD.b (readI threeD.b threeD.tape).1 threeD.fee (threeD.orders.getD (0:Int).toNat ord0) (minutesI threeD.b threeD.tape).1).2 = true:=by
    rw [show readI threeD.b threeD.tape = (latL4,0) from zAI,show minutesI threeD.b threeD.tape = (lateM,0) from zAR]; kernel_rfl
  obtain ⟨t,e⟩:=x
  have he:e = 0:=by
    change ShowR threeD 0 true t e at h
    cases h with
    | bad h1=>exact (h1 (zD5 [0] (by kernel_rfl))).elim
    | no _ h2=>rw [hb] at h2; cases h2
    | yes=>rfl
  subst he
  obtain ⟨_,hT,_⟩:=show_yes (d:=threeD) (q:=0) (o:=⟨true,0,10,0,4,5⟩) (high:=true) rfl h
  exact ⟨t,rfl,by rw [zF5,(zBP (by rw [show readI threeD.b threeD.tape = (latL4,0) from zAI])).2 hT]; rfl⟩
theorem yx:NamesOK threeD.b:=fun s hs=>by
  have hs:s ∈ [(⟨[65,66],300,310⟩:Stk),⟨[67],75,79⟩]:=hs
  simp only [List.mem_cons,List.not_mem_nil,or_false] at hs
  rcases hs with rfl | rfl <;> simp
theorem kM :PureAt Tryz.prog 69 [] (dskD threeD):=by
 refine Zp Tryz.func69 rfl fun Γ hn hl=>?_
 refine Zu ?_
 refine Zb 0 hn rfl fun b0=>?_
 refine Zv (Zu ?_)
 refine Zt 4 [] hn rfl ?_
 refine stepW (zS rfl rfl rfl (nb hn rfl) underlying22 sz98 zr98 rfl rfl rfl (show _ = [.d (.str ⟨#[]⟩),.d (.int .i64 0),.d (.int .i64 0),.d (.str ⟨#[]⟩),.d (.int .i64 0),.d (.int .i64 0)] from by kernel_rfl) (by kernel_rfl) rfl rfl rfl rfl rfl) fun _=>?_
 refine Zt 1 [] hn rfl ?_
 refine Zk hn rfl (zCn twoB (by decide)) ?_
 refine Zk hn rfl (yg _ _) ?_
 refine Zt 1 [] hn rfl ?_
 refine Zk hn rfl (yg _ _) ?_
 refine Zt 1 [] hn rfl ?_
 refine Zk hn rfl (yg _ _) ?_
 refine Zt 1 [] hn rfl ?_
 refine stepW (zS rfl rfl rfl (nb hn rfl) underlying49 sz152 zr152 rfl rfl rfl (show _ = [.d (.bool false),.d (.int .i64 0),.d (.int .i64 0),.d (.int .i64 0),.d (.int .i64 0),.d (.int .i64 0),.d (.bool false),.d (.int .i64 0),.d (.int .i64 0),.d (.int .i64 0),.d (.int .i64 0),.d (.int .i64 0),.d (.bool false),.d (.int .i64 0),.d (.int .i64 0),.d (.int .i64 0),.d (.int .i64 0),.d (.int .i64 0)] from by kernel_rfl) (by kernel_rfl) rfl rfl rfl rfl rfl) fun _=>?_
 refine Zt 2 [0] hn rfl ?_
 refine Zv (zJ ?_)
 exact zX (.inl rfl) hl rfl (.cellA rfl (id:=0) rfl underlying51 rfl sz51 rfl rfl)
theorem zFP :PureAt Tryz.prog 70 [] (truD toldT):=by
 refine Zp Tryz.func70 rfl fun Γ hn hl=>?_
 refine Zu ?_
 refine Zb 0 hn rfl fun b0=>?_
 refine Zv (Zu ?_)
 refine stepW (zS rfl rfl rfl (nb hn rfl) underlying29 sz3 zr3 rfl rfl rfl (show _ = [.d (.int .i64 0),.d (.int .i64 0),.d (.int .i64 0),.d (.int .i64 0)] from by kernel_rfl) (by kernel_rfl) rfl rfl rfl rfl rfl) fun _=>?_
 refine stepW (zS rfl rfl rfl (nb hn rfl) underlying29 sz3 zr3 rfl rfl rfl (show _ = [.d (.int .i64 0),.d (.int .i64 0),.d (.int .i64 0),.d (.int .i64 0)] from by kernel_rfl) (by kernel_rfl) rfl rfl rfl rfl rfl) fun _=>?_
 refine stepW (zS rfl rfl rfl (nb hn rfl) underlying29 sz3 zr3 rfl rfl rfl (show _ = [.d (.int .i64 0),.d (.int .i64 0),.d (.int .i64 0)] from by kernel_rfl) (by kernel_rfl) rfl rfl rfl rfl rfl) fun _=>?_
 refine Zt 2 [0] hn rfl ?_
 refine Zv (zJ ?_)
 exact zX (.inl rfl) hl rfl (.cellA rfl (id:=0) rfl underlying56 rfl sz56 rfl rfl)
theorem awake4_eff :EffAt Tryz.prog 45 [] [] (X:=Unit) (fun _=>.d (.bool true)) (fun _=>[]):=by
 refine EffAt.of_awp Tryz.func45 rfl (by kernel_rfl) rfl fun Γ hn=>?_
 refine Zu ?_
 refine Zt 1 [] hn rfl ?_
 refine Zv (Zu ?_)
 refine Zk hn rfl (kM) ?_
 refine Zk hn rfl ((by have h:=Sales4_ok threeD yx (by decide) (by decide) 0; rw [t_sales0] at h; exact h)) ?_
 refine Zt 5 [] hn rfl ?_
 refine Zv (Zu ?_)
 refine Zk hn rfl (kM) ?_
 refine Zk hn rfl ((by have h:=zCt threeD yx (by decide) (by decide); rw [t_bounds] at h; exact h)) ?_
 refine Zt 5 [] hn rfl ?_
 refine Zv (Zu ?_)
 refine Zk hn rfl (kM) ?_
 refine Zk hn rfl ((by have h:=zBh threeD yx (by decide) (by decide); rw [t_verds] at h; exact h)) ?_
 refine Zt 5 [] hn rfl ?_
 refine Zv (Zu ?_)
 refine Zk hn rfl (kM) ?_
 refine Zk hn rfl (zFP) ?_
 refine Zk hn rfl ((by have h:=zE8 threeD yx (by decide) (by decide) toldT; rw [zHH] at h; exact h)) ?_
 refine Zt 5 [] hn rfl ?_
 refine Zv (Zu ?_)
 refine Zk hn rfl (kM) ?_
 refine Zk hn rfl (zFP) ?_
 refine Zk hn rfl ((by have h:=Has4_ok threeD yx (by decide) (by decide) toldT; rw [t_has] at h; exact h)) ?_
 refine Zt 7 [] hn rfl ?_
 refine Zv (Zu ?_)
 refine Zk hn rfl (kM) ?_
 refine stepW (s_callE (zDV threeD yx (by decide) (by decide) 0 true) rfl rfl rfl (nb hn rfl) (.d rfl) rfl (.refl _) trivial (fun _=>rfl) (fun _ _=>trivial)) fun ⟨xx,hxx⟩=>?_
 obtain ⟨tt,rfl,hpt⟩:=t_show hxx
 refine Zt 3 [] hn rfl ?_
 refine Zb 12 hn rfl fun b12=>?_
 refine Zt 2 [12] hn rfl ?_
 refine Zv (zB ?_)
 refine zh (W:=fun b=>b ≠ b12) fmo ?_
 refine d1q (i:=0) rfl (by as_aux_lemma=>kernel_rfl) (fun _ _ _ _ h=>h) rfl rfl hn rfl (zr rfl rfl) ?_
 refine d1q (i:=1) rfl (by as_aux_lemma=>kernel_rfl) (fun _ _ _ _ h=>h) rfl rfl hn rfl (yR (tv':=.d (.bool true)) (zBB rfl rfl rfl) rfl) ?_
 refine d1q (i:=2) rfl (by as_aux_lemma=>kernel_rfl) (fun _ _ _ _ h=>h) rfl rfl hn rfl (zr rfl rfl) ?_
 refine d1g (i:=3) [] rfl (by as_aux_lemma=>kernel_rfl) (fun _ _ _ _ h=>h) (zM rfl rfl rfl) rfl hn rfl (fun hc=>trivial) (fun hc=>zr rfl rfl) ?_
 refine zH ?_
 refine kI (i:=4) (by as_aux_lemma=>kernel_rfl) rfl (zEO (zM rfl rfl rfl) rfl (nb hn rfl) (zS rfl rfl rfl (nb hn rfl) underlying29 sz3 zr3 rfl rfl rfl (show _ = [.d (.int .i64 0),.d (.int .i64 0)] from by kernel_rfl) (by kernel_rfl) rfl rfl rfl rfl rfl)) fun _=>?_
 refine d2_of_d1 (zH ?_)
 refine kI (i:=5) (by as_aux_lemma=>kernel_rfl) rfl (s_call [(50,_),(51,_)] (fun hc=>zCv [0,1] [0,1]) rfl (zM rfl rfl rfl) rfl (nb hn rfl) (fun hc=>⟨⟨_,rfl,hc⟩,⟨_,rfl,hc⟩,trivial⟩) rfl rfl (.refl _)) fun _=>?_
 refine d2_of_d1 ?_
 refine d1q (i:=6) rfl (by as_aux_lemma=>kernel_rfl) (fun _ _ _ _ h=>h) rfl rfl hn rfl (yR (tv':=.d (.bool true)) (y9 rfl rfl rfl (by intro hB; first | (rw [hB]; rfl) | (rw [hB,hc]; rfl) | simp_all)) rfl) ?_
 refine d1q (i:=7) rfl (by as_aux_lemma=>kernel_rfl) (fun _ _ _ _ h=>h) rfl rfl hn rfl (zr rfl rfl) ?_
 refine d1g (i:=8) [] rfl (by as_aux_lemma=>kernel_rfl) (fun _ _ _ _ h=>h) (zM rfl rfl rfl) rfl hn rfl (fun hc=>trivial) (fun hc=>zr rfl rfl) ?_
 refine d1g (i:=9) [(55,_)] rfl (by as_aux_lemma=>kernel_rfl) (fun _ _ _ _ h=>h) (zM rfl rfl rfl) rfl hn rfl (fun hc=>⟨⟨_,rfl,hc⟩,trivial⟩) (fun hc=>yR (tv':=.d (.bool true)) (zBB rfl rfl rfl) rfl) ?_
 refine d1q (i:=10) rfl (by as_aux_lemma=>kernel_rfl) (fun _ _ _ _ h=>h) rfl rfl hn rfl (yR (tv':=.d (.bool true)) (y9 rfl rfl rfl (by intro hB; first | (rw [hB]; rfl) | (rw [hB,hc]; rfl) | simp_all)) rfl) ?_
 refine d1q (i:=11) rfl (by as_aux_lemma=>kernel_rfl) (fun _ _ _ _ h=>h) rfl rfl hn rfl (zr rfl rfl) ?_
 refine d1g (i:=12) [] rfl (by as_aux_lemma=>kernel_rfl) (fun _ _ _ _ h=>h) (zM rfl rfl rfl) rfl hn rfl (fun hc=>trivial) (fun hc=>zr rfl rfl) ?_
 refine d1g (i:=13) [(59,_)] rfl (by as_aux_lemma=>kernel_rfl) (fun _ _ _ _ h=>h) (zM rfl rfl rfl) rfl hn rfl (fun hc=>⟨⟨_,rfl,hc⟩,trivial⟩) (fun hc=>zHJ rfl rfl underlying46) ?_
 refine d1g (i:=14) [(60,_)] rfl (by as_aux_lemma=>kernel_rfl) (fun _ _ _ _ h=>h) (zM rfl rfl rfl) rfl hn rfl (fun hc=>⟨⟨_,rfl,hc⟩,trivial⟩) (fun hc=>yR (tv':=.d (.bool true)) (zBB rfl rfl rfl) rfl) ?_
 refine d1q (i:=15) rfl (by as_aux_lemma=>kernel_rfl) (fun _ _ _ _ h=>h) rfl rfl hn rfl (yR (tv':=.d (.bool true)) (y9 rfl rfl rfl (by intro hB; first | (rw [hB]; rfl) | (rw [hB,hc]; rfl) | simp_all)) rfl) ?_
 refine d1q (i:=16) rfl (by as_aux_lemma=>kernel_rfl) (fun _ _ _ _ h=>h) rfl rfl hn rfl (zr rfl rfl) ?_
 refine d1g (i:=17) [] rfl (by as_aux_lemma=>kernel_rfl) (fun _ _ _ _ h=>h) (zM rfl rfl rfl) rfl hn rfl (fun hc=>trivial) (fun hc=>zr rfl rfl) ?_
 refine d1g (i:=18) [(64,_)] rfl (by as_aux_lemma=>kernel_rfl) (fun _ _ _ _ h=>h) (zM rfl rfl rfl) rfl hn rfl (fun hc=>⟨⟨_,rfl,hc⟩,trivial⟩) (fun hc=>q_index (i:=0) rfl rfl rfl underlying46 sz66 rfl rfl) ?_
 refine d1g (i:=19) [(65,_)] rfl (by as_aux_lemma=>kernel_rfl) (fun _ _ _ _ h=>h) (zM rfl rfl rfl) rfl hn rfl (fun hc=>⟨⟨_,rfl,hc⟩,trivial⟩) (fun hc=>yQ rfl rfl underlying66 rfl sz66 rfl rfl seesFA) ?_
 refine zH ?_
 refine kI (i:=20) (by as_aux_lemma=>kernel_rfl) rfl (s_call [] (fun hc=>yg _ _) rfl (zM rfl rfl rfl) rfl (nb hn rfl) (fun hc=>trivial) rfl rfl (.refl _)) fun _=>?_
 refine d2_of_d1 ?_
 refine d1g (i:=21) [(66,_),(67,_)] rfl (by as_aux_lemma=>kernel_rfl) (fun _ _ _ _ h=>h) (zM rfl rfl rfl) rfl hn rfl (fun hc=>⟨⟨_,rfl,hc⟩,⟨_,rfl,hc⟩,trivial⟩) (fun hc=>yR (tv':=.d (.bool true)) (zEb rfl rfl rfl) rfl) ?_
 refine d1q (i:=22) rfl (by as_aux_lemma=>kernel_rfl) (fun _ _ _ _ h=>h) rfl rfl hn rfl (yR (tv':=.d (.bool true)) (y9 rfl rfl rfl (by intro hB; first | (rw [hB]; rfl) | (rw [hB,hc]; rfl) | simp_all)) rfl) ?_
 refine d1q (i:=23) rfl (by as_aux_lemma=>kernel_rfl) (fun _ _ _ _ h=>h) rfl rfl hn rfl (zr rfl rfl) ?_
 refine d1g (i:=24) [] rfl (by as_aux_lemma=>kernel_rfl) (fun _ _ _ _ h=>h) (zM rfl rfl rfl) rfl hn rfl (fun hc=>trivial) (fun hc=>zr rfl rfl) ?_
 refine d1g (i:=25) [(71,_)] rfl (by as_aux_lemma=>kernel_rfl) (fun _ _ _ _ h=>h) (zM rfl rfl rfl) rfl hn rfl (fun hc=>⟨⟨_,rfl,hc⟩,trivial⟩) (fun hc=>q_index (i:=1) rfl rfl rfl underlying46 sz66 rfl rfl) ?_
 refine d1g (i:=26) [(72,_)] rfl (by as_aux_lemma=>kernel_rfl) (fun _ _ _ _ h=>h) (zM rfl rfl rfl) rfl hn rfl (fun hc=>⟨⟨_,rfl,hc⟩,trivial⟩) (fun hc=>yQ rfl rfl underlying66 rfl sz66 rfl rfl seesFA) ?_
 refine zH ?_
 refine kI (i:=27) (by as_aux_lemma=>kernel_rfl) rfl (s_call [] (fun hc=>yg _ _) rfl (zM rfl rfl rfl) rfl (nb hn rfl) (fun hc=>trivial) rfl rfl (.refl _)) fun _=>?_
 refine d2_of_d1 ?_
 refine d1g (i:=28) [(73,_),(74,_)] rfl (by as_aux_lemma=>kernel_rfl) (fun _ _ _ _ h=>h) (zM rfl rfl rfl) rfl hn rfl (fun hc=>⟨⟨_,rfl,hc⟩,⟨_,rfl,hc⟩,trivial⟩) (fun hc=>yR (tv':=.d (.bool true)) (zEb rfl rfl rfl) rfl) ?_
 refine d1q (i:=29) rfl (by as_aux_lemma=>kernel_rfl) (fun _ _ _ _ h=>h) rfl rfl hn rfl (yR (tv':=.d (.bool true)) (y9 rfl rfl rfl (by intro hB; first | (rw [hB]; rfl) | (rw [hB,hc]; rfl) | simp_all)) rfl) ?_
 refine d1q (i:=30) rfl (by as_aux_lemma=>kernel_rfl) (fun _ _ _ _ h=>h) rfl rfl hn rfl (zr rfl rfl) ?_
 refine d1g (i:=31) [] rfl (by as_aux_lemma=>kernel_rfl) (fun _ _ _ _ h=>h) (zM rfl rfl rfl) rfl hn rfl (fun hc=>trivial) (fun hc=>zr rfl rfl) ?_
 refine d1g (i:=32) [(78,_)] rfl (by as_aux_lemma=>kernel_rfl) (fun _ _ _ _ h=>h) (zM rfl rfl rfl) rfl hn rfl (fun hc=>⟨⟨_,rfl,hc⟩,trivial⟩) (fun hc=>q_index (i:=2) rfl rfl rfl underlying46 sz66 rfl rfl) ?_
 refine d1g (i:=33) [(79,_)] rfl (by as_aux_lemma=>kernel_rfl) (fun _ _ _ _ h=>h) (zM rfl rfl rfl) rfl hn rfl (fun hc=>⟨⟨_,rfl,hc⟩,trivial⟩) (fun hc=>yQ rfl rfl underlying66 rfl sz66 rfl rfl seesFA) ?_
 refine zH ?_
 refine kI (i:=34) (by as_aux_lemma=>kernel_rfl) rfl (s_call [] (fun hc=>yg _ _) rfl (zM rfl rfl rfl) rfl (nb hn rfl) (fun hc=>trivial) rfl rfl (.refl _)) fun _=>?_
 refine d2_of_d1 ?_
 refine d1g (i:=35) [(80,_),(81,_)] rfl (by as_aux_lemma=>kernel_rfl) (fun _ _ _ _ h=>h) (zM rfl rfl rfl) rfl hn rfl (fun hc=>⟨⟨_,rfl,hc⟩,⟨_,rfl,hc⟩,trivial⟩) (fun hc=>yR (tv':=.d (.bool true)) (zEb rfl rfl rfl) rfl) ?_
 refine d1q (i:=36) rfl (by as_aux_lemma=>kernel_rfl) (fun _ _ _ _ h=>h) rfl rfl hn rfl (yR (tv':=.d (.bool true)) (y9 rfl rfl rfl (by intro hB; first | (rw [hB]; rfl) | (rw [hB,hc]; rfl) | simp_all)) rfl) ?_
 refine d1q (i:=37) rfl (by as_aux_lemma=>kernel_rfl) (fun _ _ _ _ h=>h) rfl rfl hn rfl (zr rfl rfl) ?_
 refine d1g (i:=38) [] rfl (by as_aux_lemma=>kernel_rfl) (fun _ _ _ _ h=>h) (zM rfl rfl rfl) rfl hn rfl (fun hc=>trivial) (fun hc=>zr rfl rfl) ?_
 refine d1g (i:=39) [(85,_)] rfl (by as_aux_lemma=>kernel_rfl) (fun _ _ _ _ h=>h) (zM rfl rfl rfl) rfl hn rfl (fun hc=>⟨⟨_,rfl,hc⟩,trivial⟩) (fun hc=>yR (tv':=.d (.bool true)) (zBB rfl rfl rfl) rfl) ?_
 refine d1q (i:=40) rfl (by as_aux_lemma=>kernel_rfl) (fun _ _ _ _ h=>h) rfl rfl hn rfl (yR (tv':=.d (.bool true)) (y9 rfl rfl rfl (by intro hB; first | (rw [hB]; rfl) | (rw [hB,hc]; rfl) | simp_all)) rfl) ?_
 refine d1q (i:=41) rfl (by as_aux_lemma=>kernel_rfl) (fun _ _ _ _ h=>h) rfl rfl hn rfl (zr rfl rfl) ?_
 refine d1g (i:=42) [] rfl (by as_aux_lemma=>kernel_rfl) (fun _ _ _ _ h=>h) (zM rfl rfl rfl) rfl hn rfl (fun hc=>trivial) (fun hc=>zr rfl rfl) ?_
 refine zH ?_
 refine kI (i:=43) (by as_aux_lemma=>kernel_rfl) rfl (zEO (zM rfl rfl rfl) rfl (nb hn rfl) (zS rfl rfl rfl (nb hn rfl) underlying29 sz3 zr3 rfl rfl rfl (show _ = [.d (.int .i64 0),.d (.int .i64 0),.d (.int .i64 0)] from by kernel_rfl) (by kernel_rfl) rfl rfl rfl rfl rfl)) fun _=>?_
 refine d2_of_d1 (zH ?_)
 refine kI (i:=44) (by as_aux_lemma=>kernel_rfl) rfl (s_call [(89,_),(90,_)] (fun hc=>zCv [3,3,3] [3,3,3]) rfl (zM rfl rfl rfl) rfl (nb hn rfl) (fun hc=>⟨⟨_,rfl,hc⟩,⟨_,rfl,hc⟩,trivial⟩) rfl rfl (.refl _)) fun _=>?_
 refine d2_of_d1 ?_
 refine d1q (i:=45) rfl (by as_aux_lemma=>kernel_rfl) (fun _ _ _ _ h=>h) rfl rfl hn rfl (yR (tv':=.d (.bool true)) (y9 rfl rfl rfl (by intro hB; first | (rw [hB]; rfl) | (rw [hB,hc]; rfl) | simp_all)) rfl) ?_
 refine d1q (i:=46) rfl (by as_aux_lemma=>kernel_rfl) (fun _ _ _ _ h=>h) rfl rfl hn rfl (zr rfl rfl) ?_
 refine d1g (i:=47) [] rfl (by as_aux_lemma=>kernel_rfl) (fun _ _ _ _ h=>h) (zM rfl rfl rfl) rfl hn rfl (fun hc=>trivial) (fun hc=>zr rfl rfl) ?_
 refine d1g (i:=48) [(94,_)] rfl (by as_aux_lemma=>kernel_rfl) (fun _ _ _ _ h=>h) (zM rfl rfl rfl) rfl hn rfl (fun hc=>⟨⟨_,rfl,hc⟩,trivial⟩) (fun hc=>yR (tv':=.d (.bool true)) (zBB rfl rfl rfl) rfl) ?_
 refine d1q (i:=49) rfl (by as_aux_lemma=>kernel_rfl) (fun _ _ _ _ h=>h) rfl rfl hn rfl (yR (tv':=.d (.bool true)) (y9 rfl rfl rfl (by intro hB; first | (rw [hB]; rfl) | (rw [hB,hc]; rfl) | simp_all)) rfl) ?_
 refine d1q (i:=50) rfl (by as_aux_lemma=>kernel_rfl) (fun _ _ _ _ h=>h) rfl rfl hn rfl (zr rfl rfl) ?_
 refine d1g (i:=51) [] rfl (by as_aux_lemma=>kernel_rfl) (fun _ _ _ _ h=>h) (zM rfl rfl rfl) rfl hn rfl (fun hc=>trivial) (fun hc=>zr rfl rfl) ?_
 refine d1g (i:=52) [(98,_)] rfl (by as_aux_lemma=>kernel_rfl) (fun _ _ _ _ h=>h) (zM rfl rfl rfl) rfl hn rfl (fun hc=>⟨⟨_,rfl,hc⟩,trivial⟩) (fun hc=>zHJ rfl rfl underlying53) ?_
 refine d1g (i:=53) [(99,_)] rfl (by as_aux_lemma=>kernel_rfl) (fun _ _ _ _ h=>h) (zM rfl rfl rfl) rfl hn rfl (fun hc=>⟨⟨_,rfl,hc⟩,trivial⟩) (fun hc=>yR (tv':=.d (.bool true)) (zBB rfl rfl rfl) rfl) ?_
 refine d1q (i:=54) rfl (by as_aux_lemma=>kernel_rfl) (fun _ _ _ _ h=>h) rfl rfl hn rfl (yR (tv':=.d (.bool true)) (y9 rfl rfl rfl (by intro hB; first | (rw [hB]; rfl) | (rw [hB,hc]; rfl) | simp_all)) rfl) ?_
 refine d1q (i:=55) rfl (by as_aux_lemma=>kernel_rfl) (fun _ _ _ _ h=>h) rfl rfl hn rfl (zr rfl rfl) ?_
 refine d1g (i:=56) [] rfl (by as_aux_lemma=>kernel_rfl) (fun _ _ _ _ h=>h) (zM rfl rfl rfl) rfl hn rfl (fun hc=>trivial) (fun hc=>zr rfl rfl) ?_
 refine d1g (i:=57) [(103,_)] rfl (by as_aux_lemma=>kernel_rfl) (fun _ _ _ _ h=>h) (zM rfl rfl rfl) rfl hn rfl (fun hc=>⟨⟨_,rfl,hc⟩,trivial⟩) (fun hc=>q_index (i:=0) rfl rfl rfl underlying53 sz68 rfl rfl) ?_
 refine d1g (i:=58) [(104,_)] rfl (by as_aux_lemma=>kernel_rfl) (fun _ _ _ _ h=>h) (zM rfl rfl rfl) rfl hn rfl (fun hc=>⟨⟨_,rfl,hc⟩,trivial⟩) (fun hc=>yQ rfl rfl underlying68 rfl sz68 rfl rfl seesFA) ?_
 refine d1g (i:=59) [] rfl (by as_aux_lemma=>kernel_rfl) (fun _ _ _ _ h=>h) (zM rfl rfl rfl) rfl hn rfl (fun hc=>trivial) (fun hc=>yt rfl bt68 rfl rfl rfl rfl rfl) ?_
 refine d1g (i:=60) [(105,_),(106,_)] rfl (by as_aux_lemma=>kernel_rfl) (fun _ _ _ _ h=>h) (zM rfl rfl rfl) rfl hn rfl (fun hc=>⟨⟨_,rfl,hc⟩,⟨_,rfl,hc⟩,trivial⟩) (fun hc=>yR (tv':=.d (.bool true)) (zEp rfl rfl rfl) rfl) ?_
 refine d1q (i:=61) rfl (by as_aux_lemma=>kernel_rfl) (fun _ _ _ _ h=>h) rfl rfl hn rfl (yR (tv':=.d (.bool true)) (y9 rfl rfl rfl (by intro hB; first | (rw [hB]; rfl) | (rw [hB,hc]; rfl) | simp_all)) rfl) ?_
 refine d1q (i:=62) rfl (by as_aux_lemma=>kernel_rfl) (fun _ _ _ _ h=>h) rfl rfl hn rfl (zr rfl rfl) ?_
 refine d1g (i:=63) [] rfl (by as_aux_lemma=>kernel_rfl) (fun _ _ _ _ h=>h) (zM rfl rfl rfl) rfl hn rfl (fun hc=>trivial) (fun hc=>zr rfl rfl) ?_
 refine d1g (i:=64) [(110,_)] rfl (by as_aux_lemma=>kernel_rfl) (fun _ _ _ _ h=>h) (zM rfl rfl rfl) rfl hn rfl (fun hc=>⟨⟨_,rfl,hc⟩,trivial⟩) (fun hc=>q_index (i:=1) rfl rfl rfl underlying53 sz68 rfl rfl) ?_
 refine d1g (i:=65) [(111,_)] rfl (by as_aux_lemma=>kernel_rfl) (fun _ _ _ _ h=>h) (zM rfl rfl rfl) rfl hn rfl (fun hc=>⟨⟨_,rfl,hc⟩,trivial⟩) (fun hc=>yQ rfl rfl underlying68 rfl sz68 rfl rfl seesFA) ?_
 refine d1g (i:=66) [] rfl (by as_aux_lemma=>kernel_rfl) (fun _ _ _ _ h=>h) (zM rfl rfl rfl) rfl hn rfl (fun hc=>trivial) (fun hc=>yt rfl bt68 rfl rfl rfl rfl rfl) ?_
 refine d1g (i:=67) [(112,_),(113,_)] rfl (by as_aux_lemma=>kernel_rfl) (fun _ _ _ _ h=>h) (zM rfl rfl rfl) rfl hn rfl (fun hc=>⟨⟨_,rfl,hc⟩,⟨_,rfl,hc⟩,trivial⟩) (fun hc=>yR (tv':=.d (.bool true)) (zEp rfl rfl rfl) rfl) ?_
 refine d1q (i:=68) rfl (by as_aux_lemma=>kernel_rfl) (fun _ _ _ _ h=>h) rfl rfl hn rfl (yR (tv':=.d (.bool true)) (y9 rfl rfl rfl (by intro hB; first | (rw [hB]; rfl) | (rw [hB,hc]; rfl) | simp_all)) rfl) ?_
 refine d1q (i:=69) rfl (by as_aux_lemma=>kernel_rfl) (fun _ _ _ _ h=>h) rfl rfl hn rfl (zr rfl rfl) ?_
 refine d1g (i:=70) [] rfl (by as_aux_lemma=>kernel_rfl) (fun _ _ _ _ h=>h) (zM rfl rfl rfl) rfl hn rfl (fun hc=>trivial) (fun hc=>zr rfl rfl) ?_
 refine d1g (i:=71) [(117,_)] rfl (by as_aux_lemma=>kernel_rfl) (fun _ _ _ _ h=>h) (zM rfl rfl rfl) rfl hn rfl (fun hc=>⟨⟨_,rfl,hc⟩,trivial⟩) (fun hc=>q_index (i:=2) rfl rfl rfl underlying53 sz68 rfl rfl) ?_
 refine d1g (i:=72) [(118,_)] rfl (by as_aux_lemma=>kernel_rfl) (fun _ _ _ _ h=>h) (zM rfl rfl rfl) rfl hn rfl (fun hc=>⟨⟨_,rfl,hc⟩,trivial⟩) (fun hc=>yQ rfl rfl underlying68 rfl sz68 rfl rfl seesFA) ?_
 refine d1g (i:=73) [] rfl (by as_aux_lemma=>kernel_rfl) (fun _ _ _ _ h=>h) (zM rfl rfl rfl) rfl hn rfl (fun hc=>trivial) (fun hc=>yt rfl bt68 rfl rfl rfl rfl rfl) ?_
 refine d1g (i:=74) [(119,_),(120,_)] rfl (by as_aux_lemma=>kernel_rfl) (fun _ _ _ _ h=>h) (zM rfl rfl rfl) rfl hn rfl (fun hc=>⟨⟨_,rfl,hc⟩,⟨_,rfl,hc⟩,trivial⟩) (fun hc=>yR (tv':=.d (.bool true)) (zEp rfl rfl rfl) rfl) ?_
 refine d1q (i:=75) rfl (by as_aux_lemma=>kernel_rfl) (fun _ _ _ _ h=>h) rfl rfl hn rfl (yR (tv':=.d (.bool true)) (y9 rfl rfl rfl (by intro hB; first | (rw [hB]; rfl) | (rw [hB,hc]; rfl) | simp_all)) rfl) ?_
 refine d1q (i:=76) rfl (by as_aux_lemma=>kernel_rfl) (fun _ _ _ _ h=>h) rfl rfl hn rfl (zr rfl rfl) ?_
 refine d1g (i:=77) [] rfl (by as_aux_lemma=>kernel_rfl) (fun _ _ _ _ h=>h) (zM rfl rfl rfl) rfl hn rfl (fun hc=>trivial) (fun hc=>zr rfl rfl) ?_
 refine d1g (i:=78) [(124,_)] rfl (by as_aux_lemma=>kernel_rfl) (fun _ _ _ _ h=>h) (zM rfl rfl rfl) rfl hn rfl (fun hc=>⟨⟨_,rfl,hc⟩,trivial⟩) (fun hc=>yR (tv':=.d (.bool true)) (zBB rfl rfl rfl) rfl) ?_
 refine d1q (i:=79) rfl (by as_aux_lemma=>kernel_rfl) (fun _ _ _ _ h=>h) rfl rfl hn rfl (yR (tv':=.d (.bool true)) (y9 rfl rfl rfl (by intro hB; first | (rw [hB]; rfl) | (rw [hB,hc]; rfl) | simp_all)) rfl) ?_
 refine d1q (i:=80) rfl (by as_aux_lemma=>kernel_rfl) (fun _ _ _ _ h=>h) rfl rfl hn rfl (zr rfl rfl) ?_
 refine d1g (i:=81) [] rfl (by as_aux_lemma=>kernel_rfl) (fun _ _ _ _ h=>h) (zM rfl rfl rfl) rfl hn rfl (fun hc=>trivial) (fun hc=>zr rfl rfl) ?_
 refine zH ?_
 refine kI (i:=82) (by as_aux_lemma=>kernel_rfl) rfl (zEO (zM rfl rfl rfl) rfl (nb hn rfl) (zS rfl rfl rfl (nb hn rfl) underlying29 sz3 zr3 rfl rfl rfl (show _ = [.d (.int .i64 0),.d (.int .i64 0)] from by kernel_rfl) (by kernel_rfl) rfl rfl rfl rfl rfl)) fun _=>?_
 refine d2_of_d1 (zH ?_)
 refine kI (i:=83) (by as_aux_lemma=>kernel_rfl) rfl (s_call [(128,_),(129,_)] (fun hc=>zCv [10,0] [10,0]) rfl (zM rfl rfl rfl) rfl (nb hn rfl) (fun hc=>⟨⟨_,rfl,hc⟩,⟨_,rfl,hc⟩,trivial⟩) rfl rfl (.refl _)) fun _=>?_
 refine d2_of_d1 ?_
 refine d1q (i:=84) rfl (by as_aux_lemma=>kernel_rfl) (fun _ _ _ _ h=>h) rfl rfl hn rfl (yR (tv':=.d (.bool true)) (y9 rfl rfl rfl (by intro hB; first | (rw [hB]; rfl) | (rw [hB,hc]; rfl) | simp_all)) rfl) ?_
 refine d1q (i:=85) rfl (by as_aux_lemma=>kernel_rfl) (fun _ _ _ _ h=>h) rfl rfl hn rfl (zr rfl rfl) ?_
 refine d1g (i:=86) [] rfl (by as_aux_lemma=>kernel_rfl) (fun _ _ _ _ h=>h) (zM rfl rfl rfl) rfl hn rfl (fun hc=>trivial) (fun hc=>zr rfl rfl) ?_
 refine d1g (i:=87) [(133,_)] rfl (by as_aux_lemma=>kernel_rfl) (fun _ _ _ _ h=>h) (zM rfl rfl rfl) rfl hn rfl (fun hc=>⟨⟨_,rfl,hc⟩,trivial⟩) (fun hc=>yR (tv':=.d (.bool true)) (zBB rfl rfl rfl) rfl) ?_
 refine d1q (i:=88) rfl (by as_aux_lemma=>kernel_rfl) (fun _ _ _ _ h=>h) rfl rfl hn rfl (yR (tv':=.d (.bool true)) (y9 rfl rfl rfl (by intro hB; first | (rw [hB]; rfl) | (rw [hB,hc]; rfl) | simp_all)) rfl) ?_
 refine d1q (i:=89) rfl (by as_aux_lemma=>kernel_rfl) (fun _ _ _ _ h=>h) rfl rfl hn rfl (zr rfl rfl) ?_
 refine d1g (i:=90) [] rfl (by as_aux_lemma=>kernel_rfl) (fun _ _ _ _ h=>h) (zM rfl rfl rfl) rfl hn rfl (fun hc=>trivial) (fun hc=>zr rfl rfl) ?_
 refine d1g (i:=91) [(137,_)] rfl (by as_aux_lemma=>kernel_rfl) (fun _ _ _ _ h=>h) (zM rfl rfl rfl) rfl hn rfl (fun hc=>⟨⟨_,rfl,hc⟩,trivial⟩) (fun hc=>yR (tv':=.d (.bool true)) (zBB rfl rfl rfl) rfl) ?_
 refine d1q (i:=92) rfl (by as_aux_lemma=>kernel_rfl) (fun _ _ _ _ h=>h) rfl rfl hn rfl (yR (tv':=.d (.bool true)) (y9 rfl rfl rfl (by intro hB; first | (rw [hB]; rfl) | (rw [hB,hc]; rfl) | simp_all)) rfl) ?_
 refine d1q (i:=93) rfl (by as_aux_lemma=>kernel_rfl) (fun _ _ _ _ h=>h) rfl rfl hn rfl (zr rfl rfl) ?_
 refine d1g (i:=95) [] rfl (by as_aux_lemma=>kernel_rfl) (fun _ _ _ _ h=>h) (zM rfl rfl rfl) rfl hn rfl (fun hc=>trivial) (fun hc=>zl rfl rfl (id:=12) rfl underlying56 rfl sz56 rfl rfl (seesA (by simp))) ?_
 refine zH ?_
 refine kI (i:=94) (by as_aux_lemma=>kernel_rfl) rfl (s_call [] (fun hc=>kM) rfl (zM rfl rfl rfl) rfl (nb hn rfl) (fun hc=>trivial) rfl rfl (.refl _)) fun _=>?_
 refine d2_of_d1 (zH ?_)
 refine kI (i:=96) (by as_aux_lemma=>kernel_rfl) rfl (s_call [(141,_),(142,_)] (fun hc=>(by have h:=Prove4_ok threeD yx (by decide) (by decide) tt; rw [hpt] at h; exact h)) rfl (zM rfl rfl rfl) rfl (nb hn rfl) (fun hc=>⟨⟨_,rfl,hc⟩,⟨_,rfl,hc⟩,trivial⟩) rfl rfl (.refl _)) fun _=>?_
 refine d2_of_d1 ?_
 refine d1q (i:=97) rfl (by as_aux_lemma=>kernel_rfl) (fun _ _ _ _ h=>h) rfl rfl hn rfl (yR (tv':=.d (.bool true)) (y9 rfl rfl rfl (by intro hB; first | (rw [hB]; rfl) | (rw [hB,hc]; rfl) | simp_all)) rfl) ?_
 refine d1q (i:=98) rfl (by as_aux_lemma=>kernel_rfl) (fun _ _ _ _ h=>h) rfl rfl hn rfl (zBW rfl rfl) ?_
 refine zH ?_
 refine zf (by as_aux_lemma=>kernel_rfl) ?_
 refine zA (zJ ?_)
 exact ret_E (.inl rfl) () ((zu rfl (.tmp rfl)).eq (by rfl)) trivial
theorem zCG:PureAt Tryz.prog 45 [] (.bool true):=PureAt.of_eff (ds:=[]) awake4_eff
end Go.Proofs.YticlpkgpmmhemaaGreatDoor
namespace Go.Proofs.YticlpkgpmmhemaaGreatDoor
open Go.RowKit
set_option maxRecDepth 20000
set_option linter.all false
set_option maxHeartbeats 4000000
theorem zGg {b:Brd} {n:Nat} (h:thinT b n = true):b.stocks.length ≤ 7 ∧ n ≤ 200:=by
  unfold thinT at h
  simp only [Bool.and_eq_true,decide_eq_true_eq] at h
  omega
theorem zF1 {d:Dsk} (h:deskI d = 0):fltI d = (readI d.b d.tape).1:=by unfold fltI; rw [h]; rfl
theorem flt_no {d:Dsk} (h:deskI d ≠ 0):fltI d = []:=by unfold fltI; rw [show (deskI d != 0) = true by simpa using h]; rfl
def allI (d:Dsk):List (List Int) × Bool:=bif deskI d != 0 then ([],false) else truR d.b (readI d.b d.tape).1
theorem zFw {d:Dsk} (h:deskI d = 0):allI d = truR d.b (readI d.b d.tape).1:=by unfold allI; rw [h]; rfl
theorem all_no {d:Dsk} (h:deskI d ≠ 0):allI d = ([],false):=by unfold allI; rw [show (deskI d != 0) = true by simpa using h]; rfl
def fewB (d:Dsk):Bool:=thin4 d && ((allI d).2 || deskI d != 0)
/-- The error that is due. -/
def sureR (d:Dsk):Int:=bif deskI d != 0 then deskI d else bif !(firstAll d.b (readI d.b d.tape).1 0).isSome || !(timesB (readI d.b d.tape).1) then 11 else 0
def wantR (d:Dsk) (q:Int):Int:=bif deskI d == 0 && !(withinB q 0 ((d.orders.length:Int) - 1)) then 2 else sureR d
theorem zGa {d:Dsk} (h:deskI d = 0):(bif (pricesI d.b d.tape).2 != 0 then (pricesI d.b d.tape).2 else (minutesI d.b d.tape).2) = bif !(firstAll d.b (readI d.b d.tape).1 0).isSome || !(timesB (readI d.b d.tape).1) then 11 else 0:=by
  have hr:=(yh h).1
  have hpo:=(yS (b:=d.b) (s:=d.tape)).1
  rw [(prices_law (b:=d.b) (s:=d.tape)).1]
  have e2:(minutesI d.b d.tape).2 = bif timesB (readI d.b d.tape).1 then 0 else 11:=by
    unfold minutesI
    rw [hr,zB1 hpo]
    cases timesB (readI d.b d.tape).1 <;> rfl
  rw [e2]
  unfold sureE
  rw [hr]
  cases (firstAll d.b (readI d.b d.tape).1 0).isSome <;> cases timesB (readI d.b d.tape).1 <;> rfl
theorem zBm (d:Dsk) (q:Int):sureO d [q] = wantR d q:=by
  unfold sureO wantR sureR
  by_cases h:deskI d = 0
  · rw [h,zGa h]
    cases hw:withinB q 0 ((d.orders.length:Int) - 1)
    · simp [hw]
    · simp [hw]
  · rw [show (deskI d != 0) = true by simpa using h,show (deskI d == 0) = false by simpa using h]; rfl
theorem zBn (d:Dsk):sureO d [] = sureR d:=by
  unfold sureO sureR
  by_cases h:deskI d = 0
  · rw [h,zGa h]; rfl
  · rw [show (deskI d != 0) = true by simpa using h]; rfl
/-- What is known of a desk that may be asked, with all truths of its prices. -/
structure FewF (d:Dsk) (l:List Prt) (mm:List (Int × Int)) (all:List (List Int)):Prop where
  S:SurH d l mm
  hl:(readI d.b d.tape).1 = l
  hm:(minutesI d.b d.tape).1 = mm
  ha:allI d = (all,true)
  ht:trsN d.b l 300 l.length = some all
  tb:timesB l = true
  mt:mm = timL l l.length
  hall:∀ ps ∈ all,ps.length = l.length ∧ ∀ p ∈ ps,1 ≤ p ∧ p ≤ 799
  al:all.length ≤ 1000
theorem trs_le {b:Brd} {l:List Prt}:∀ (i:Nat) {all:List (List Int)},trsN b l 300 i = some all → all.length ≤ 300
  | 0,all,h=>by cases h; decide
  | i + 1,all,h=>by
    unfold trsN at h
    cases h0:trsN b l 300 i with
    | none=>rw [h0] at h; cases h
    | some al =>
      rw [h0] at h
      dsimp only at h
      cases h1:decide ((300:Int) < ((nxK b l i al al.length).length:Int)) <;> rw [h1] at h
      · cases h
        have:=of_decide_eq_false h1
        omega
      · cases h
theorem zDv {d:Dsk} {os:List Int} (hf:fewB d = true) (hs:sureO d os = 0):∃ l mm all,FewF d l mm all:=by
  obtain ⟨hS,_,_⟩:=yw hs
  have h0:=hS.dk
  have h2:(allI d).2 = true:=by
    unfold fewB at hf
    rw [h0] at hf
    simpa using (Bool.and_eq_true_iff.1 hf).2
  rw [zFw h0] at h2
  cases ht:trsN d.b (readI d.b d.tape).1 300 (readI d.b d.tape).1.length with
  | none =>
    exfalso
    unfold truR at h2
    rw [ht] at h2; cases h2
  | some all =>
    refine ⟨_,_,all,hS,rfl,rfl,by rw [zFw h0]; exact zGm ht,ht,hS.tb,hS.mt,fun ps hp=>?_,by have:=trs_le _ ht; omega⟩
    obtain ⟨h3,h4⟩:=(zHS ht ps).1 hp
    refine ⟨h3,fun p hpp=>?_⟩
    obtain ⟨i,hi⟩:=List.getElem?_of_mem hpp
    have h5:=(h4 i (by rw [← h3]; exact (List.getElem?_eq_some_iff.1 hi).1)).bd
    rw [zP hi] at h5; exact h5
theorem FewF.ask {d:Dsk} {l:List Prt} {mm:List (Int × Int)} {all:List (List Int)} (h:FewF d l mm all) {j:Nat} {o:Ord} (hod:d.orders[j]? = some o):AskF d.b l d.fee o mm (askI d.fee o l all mm):=ask_law h.S hod h.ht
theorem zEv (d:Dsk) (hN:NamesOK d.b) (h5:d.tape.length ≤ 4294967000) (ho:d.orders.length ≤ 1000):PureAt Tryz.prog 48 [dskD d] (.tup [prtsD (fltI d),lstD (allI d).1,.bool (allI d).2]):=by
 refine Zp Tryz.func48 rfl fun Γ hn hl=>?_
 refine Zu (Zb 1 hn rfl fun b1=>Zt 3 [] hn rfl (Zv (Zu (Zt 1 [1] hn rfl (Zk hn rfl (zCC d hN h5 ho) (Zt 5 [] hn rfl (Zv (zB (Zu (Zt 2 [] hn rfl (Zv (zG rfl (fun hb0=>?_) (fun hb0=>?_)))))))))))))
 have q0:deskI d ≠ 0:=by simpa using hb0
 refine Zu (Zt 3 [] hn rfl (Zv (zJ (zC (kN (zAQ (.inl rfl) hl rfl (.tmp rfl) (.tmp rfl) (.tmp rfl)) ?_)))))
 rw [flt_no q0,all_no q0]; exact .tup (.cons (.nil 8) (.cons (.nil 1) (.refl _)))
 have q0:deskI d = 0:=by simpa using hb0
 have v:=yU (yh q0).1
 have hpo:=(yS (b:=d.b) (s:=d.tape)).1
 have hl8:=(yS (b:=d.b) (s:=d.tape)).2
 rw [zF1 q0]
 refine zI (zA (Zu (Zt 3 [1] hn rfl (Zk hn rfl (Truths4_ok d.b (readI d.b d.tape).1 v hpo hl8) (Zt 5 [] hn rfl (Zv (Zu (Zt 6 [] hn rfl (Zv (zJ (kN (zAQ (.inl rfl) hl rfl (.tmp rfl) (.tmp rfl) (.tmp rfl)) ?_)))))))))))
 rw [zFw q0]; exact .refl _
theorem few4_ok (d:Dsk) (hN:NamesOK d.b):PureAt Tryz.prog 44 [dskD d] (.bool (fewB d)):=by
 refine Zp Tryz.func44 rfl fun Γ hn hl=>?_
 refine Zu (Zb 1 hn rfl fun b1=>Zt 1 [] hn rfl (Zv (zB (Zu (Zt 1 [1] hn rfl (Zk hn rfl (Thin4_ok d hN) (Zt 1 [] hn rfl (Zv (zG rfl (fun hb0=>?_) (fun hb0=>?_))))))))))
 have q0:thin4 d = false:=by simpa using hb0
 refine Zu (Zt 1 [] hn rfl (Zv (zJ (zC (zZ (zX (.inl rfl) hl rfl (.tmp rfl)) ?_)))))
 rw [show fewB d = false from by unfold fewB; rw [q0]; rfl]
 have q0:thin4 d = true:=by simpa using hb0
 have hth:=q0
 unfold thin4 at hth
 simp only [Bool.and_eq_true_iff,decide_eq_true_eq] at hth
 obtain ⟨hb7,hs2⟩:=zGg hth.1
 have ho8:=hth.2
 refine zI (zA (Zu (Zt 1 [1] hn rfl (Zk hn rfl (zEv d hN (by omega) (by omega)) (Zt 7 [] hn rfl (Zv (Zu (Zt 3 [1] hn rfl (Zkg hn rfl (fun hc=>zD4 d hN (by omega) (by omega)) (Zt 3 [] hn rfl (Zv (zJ (zZ (zX (.inl rfl) hl rfl (.tmp rfl)) ?_)))))))))))))
 rw [show fewB d = ((allI d).2 || deskI d != 0) from by unfold fewB; rw [q0]; rfl]
theorem sureR4_ok (d:Dsk) (hN:NamesOK d.b) (h5:d.tape.length ≤ 4294967000) (ho:d.orders.length ≤ 1000):PureAt Tryz.prog 46 [dskD d] (.int .i64 (sureR d)):=by
 refine Zp Tryz.func46 rfl fun Γ hn hl=>?_
 refine Zu (Zb 1 hn rfl fun b1=>Zt 1 [] hn rfl (Zv (Zu (Zt 1 [1] hn rfl (Zk hn rfl (zCC d hN h5 ho) (Zt 5 [] hn rfl (Zv (zB (Zu (Zt 2 [] hn rfl (Zv (zG rfl (fun hb0=>?_) (fun hb0=>?_)))))))))))))
 have q0:deskI d ≠ 0:=by simpa using hb0
 refine Zu (Zt 2 [] hn rfl (Zv (zJ (zC (zZ (zX (.inl rfl) hl rfl (.tmp rfl)) ?_)))))
 rw [show sureR d = deskI d from by unfold sureR; rw [show (deskI d != 0) = true by simpa using q0]; rfl]
 have q0:deskI d = 0:=by simpa using hb0
 have v:=yU (yh q0).1
 have hpo:=(yS (b:=d.b) (s:=d.tape)).1
 have hl8:=(yS (b:=d.b) (s:=d.tape)).2
 rw [zF1 q0]
 refine zI (zA (Zu (Zt 3 [1] hn rfl (stepW (s_callE (First_all_eff d.b (readI d.b d.tape).1 0 0 v hpo hl8 (by decide)) rfl rfl rfl (nb hn rfl) (.d rfl) rfl (.refl _) trivial (fun _=>rfl) (fun _ _=>trivial)) fun _=>?_))))
 refine Zt 5 [] hn rfl (Zv (zB (Zu (Zt 1 [] hn rfl (Zk hn rfl (zFa d.b (readI d.b d.tape).1 hpo hl8) (Zt 5 [] hn rfl (Zv (Zu (Zt 6 [] hn rfl (Zv (zG rfl (fun hb1=>?_) (fun hb1=>?_))))))))))))
 have q1:(!(firstAll d.b (readI d.b d.tape).1 0).isSome || !(timesB (readI d.b d.tape).1)) = true:=hb1
 refine Zu (Zt 1 [] hn rfl (Zv (zJ (zC (zZ (zX (.inl rfl) hl rfl (.tmp rfl)) ?_)))))
 rw [show sureR d = 11 from by unfold sureR; rw [q0,q1]; rfl]
 have q1:(!(firstAll d.b (readI d.b d.tape).1 0).isSome || !(timesB (readI d.b d.tape).1)) = false:=hb1
 refine zI (zA (Zu (Zt 1 [] hn rfl (Zv (zJ (zZ (zX (.inl rfl) hl rfl (.tmp rfl)) ?_))))))
 rw [show sureR d = 0 from by unfold sureR; rw [q0,q1]; rfl]
end Go.Proofs.YticlpkgpmmhemaaGreatDoor
namespace Go.Proofs.YticlpkgpmmhemaaGreatDoor
open Go.Proofs.Tryz
open Go.RowKit
set_option maxRecDepth 20000
set_option linter.all false
set_option maxHeartbeats 4000000
theorem bnds_err (d:Dsk):(boundsI d).2 = sureR d ∧ (verdsI d).2 = sureR d:=by
  unfold boundsI verdsI
  rw [zBn]
  cases h:sureR d != 0
  · have:sureR d = 0:=by simpa using h
    rw [this]; exact ⟨rfl,rfl⟩
  · exact ⟨rfl,rfl⟩
theorem bnds_bad {d:Dsk} (h:sureR d ≠ 0):boundsI d = ([],sureR d) ∧ verdsI d = ([],sureR d):=by
  unfold boundsI verdsI
  rw [zBn,show (sureR d != 0) = true by simpa using h]; exact ⟨rfl,rfl⟩
theorem bnds_good {d:Dsk} {l:List Prt} {mm:List (Int × Int)} {all:List (List Int)} (h:sureR d = 0) (hF:FewF d l mm all):boundsI d = (d.orders.map fun o=>(bndI d.b l d.fee o mm).1,0) ∧ verdsI d = (d.orders.map fun o=>verdI d.b l d.fee o mm,0):=by
  unfold boundsI verdsI
  rw [zBn,h,hF.hl,hF.hm]; exact ⟨rfl,rfl⟩
theorem zCs {d:Dsk} {q:Int} {hi:Bool} {t:Tru} {e:Int} (h:ShowR d q hi t e) (hw:wantR d q ≠ 0):e = wantR d q ∧ t = ⟨[],[],[]⟩:=by
  cases h with
  | bad h1=>exact ⟨zBm d q,rfl⟩
  | no h1=>rw [zBm] at h1; exact (hw h1).elim
  | yes h1=>rw [zBm] at h1; exact (hw h1).elim
theorem zFD {d : Dsk} {j : Nat} {o : Ord} {hi : Bool} {t : Tru} {e : Int} {l : List Prt} {mm : List (Int × Int)} {all : List (List Int)} (hF : FewF d l mm all) (hod : d.orders[j]? = some o) (h : ShowR d (j : Nat) hi t e) :
    ((bndI d.b l d.fee o mm).2 = false ∧ t = ⟨[],[],[]⟩ ∧ e = 2) ∨ ((bndI d.b l d.fee o mm).2 = true ∧ e = 0 ∧ TruW d l t ∧ ∃ w:Nat,fillGo d.fee o (t.orders.getD j 0) t.prices t.minutes 0 l = ((w:Int),bif hi then (bndI d.b l d.fee o mm).1.2 else (bndI d.b l d.fee o mm).1.1)):=by
  have hj:=(List.getElem?_eq_some_iff.1 hod).1
  have hs:sureO d [((j:Nat):Int)] = 0:=sure_of hF.S.dk (t:=t) |> fun _=>by
    rw [zBm]
    unfold wantR
    rw [zm.2 (show (0:Int) ≤ (j:Nat) ∧ ((j:Nat):Int) ≤ (d.orders.length:Int) - 1 by omega),← zBn]
    simp only [Bool.not_true,Bool.and_false,cond_false]
    have:=hF.S.hmi
    unfold sureO
    rw [hF.S.dk]
    have h2:(pricesI d.b d.tape).2 = 0:=by
      obtain ⟨ms,hms⟩:=Option.isSome_iff_exists.1 ((yj (out:=[]) (o:=0) y7 hF.S.v hF.S.po).1.2 hF.S.ex)
      unfold pricesI
      rw [hF.S.hr]
      simp only [bne_self_eq_false,cond_false]
      rw [hms]
    rw [h2,hF.S.hmi]; rfl
  have h1:=show_law4 hs hod h
  rw [hF.hl,hF.hm] at h1
  exact h1
theorem show_len {d:Dsk} {q:Int} {hi:Bool} {t:Tru} {e:Int} (hf:fewB d = true) (h:ShowR d q hi t e):t.prices.length ≤ 8 ∧ t.minutes.length ≤ 8 ∧ t.orders.length ≤ 8:=by
  by_cases hw:wantR d q = 0
  · have hs:sureO d [q] = 0:=(zBm d q).trans hw
    obtain ⟨l,mm,all,hF⟩:=zDv hf hs
    have hqb:=(yw hs).2.1 q (by simp)
    obtain ⟨j,rfl⟩:∃ j:Nat,q = (j:Int):=⟨q.toNat,by omega⟩
    obtain ⟨o,hod⟩:=zT (show j < d.orders.length by omega)
    have hl8:=hF.S.l8
    have ho5:=hF.S.o5
    rcases zFD hF hod h with ⟨_,rfl,_⟩ | ⟨_,_,hT,_⟩
    · simp
    · have h1:=hT.pl
      have h2:=hT.ml
      have h3:=hT.ol
      omega
  · obtain ⟨_,rfl⟩:=zCs h hw
    simp
theorem show_bad {b v s w e2 n:Int} (e10:b = s) (e11:v = s) (h:w ≠ 0 → e2 = w ∧ n = 0):¬ ((b != s || v != s || (w != 0 && (e2 != w || decide (0 < n)))) = true):=by
  subst e10
  subst e11
  by_cases hw:w = 0
  · subst hw; simp
  · obtain ⟨rfl,rfl⟩:=h hw
    simp
theorem OddBounds_eff (d:Dsk) (q:Int) (hi:Bool) (hN:NamesOK d.b):EffAt Tryz.prog 6 [.d (dskD d),.d (.int .i64 q),.d (.bool hi)] [] (X:=Unit) (fun _=>.d (.bool true)) (fun _=>[]):=by
 refine EffAt.of_awp Tryz.func6 rfl (by kernel_rfl) rfl fun Γ hn=>?_
 refine Zu (Zb 3 hn rfl fun b3=>Zt 1 [] hn rfl (Zv (zB (Zu (Zt 1 [3] hn rfl (Zk hn rfl (few4_ok d hN) (Zt 1 [] hn rfl (Zv (zG rfl (fun hb0=>?_) (fun hb0=>?_))))))))))
 refine Zu (Zk hn rfl (zCG) (Zt 1 [] hn rfl (Zv (zJ (zC ?_)))))
 exact ret_E (.inl rfl) () (zu rfl (.tmp rfl)) trivial
 have hfw:fewB d = true:=by simpa using hb0
 have hth:=(Bool.and_eq_true_iff.1 hfw).1
 unfold thin4 at hth
 simp only [Bool.and_eq_true_iff,decide_eq_true_eq] at hth
 obtain ⟨hb7,hs2⟩:=zGg hth.1
 have ho8:=hth.2
 obtain ⟨e10,e11⟩:=bnds_err d
 refine zI (zA (Zu (Zt 1 [3] hn rfl (Zk hn rfl (zC7 d (by omega) (by omega)) (Zk hn rfl (zCt d hN (by omega) (by omega)) (Zt 5 [] hn rfl (Zv (Zu (Zt 1 [3] hn rfl (Zk hn rfl (zC7 d (by omega) (by omega)) (Zk hn rfl (zBh d hN (by omega) (by omega)) (Zt 5 [] hn rfl (Zv (Zu (Zt 1 [3] hn rfl (Zk hn rfl (zC7 d (by omega) (by omega)) (Zt 2 [] hn rfl ?_)))))))))))))))))
 refine stepW (s_callE (zDV d hN (by omega) (by omega) q hi) rfl rfl rfl (nb hn rfl) (.d rfl) rfl (.refl _) trivial (fun _=>rfl) (fun _ _=>trivial)) fun ⟨⟨t2,e2⟩,hsh⟩=>?_
 dsimp only at hsh ⊢
 obtain ⟨hp8,hm8,ho82⟩:=show_len hfw hsh
 have hqp:(t2.prices.map intE).length ≤ 8:=by rw [List.length_map]; exact hp8
 have hqm:(t2.minutes.map intE).length ≤ 8:=by rw [List.length_map]; exact hm8
 have hqo:(t2.orders.map intE).length ≤ 8:=by rw [List.length_map]; exact ho82
 refine Zt 3 [] hn rfl (Zb 11 hn rfl fun b11=>Zt 2 [11] hn rfl (Zv (Zu (Zt 1 [3] hn rfl (Zk hn rfl (sureR4_ok d hN (by omega) (by omega)) (Zt 1 [] hn rfl (Zv (Zu (Zt 2 [] hn rfl (Zv (zB (Zu (Zt 1 [3] hn rfl (Zk hn rfl (zD4 d hN (by omega) (by omega)) (Zt 6 [3] hn rfl ?_)))))))))))))))
 refine Zh [(56,_)] (zM rfl rfl rfl) hn (fun hc=>⟨⟨_,rfl,hc⟩,trivial⟩) (fun hc=>z6 rfl rfl rfl (r:=(d.orders.length:Int) - 1) (by rw [List.length_map]; exact i64w (by omega) rfl)) ?_
 refine Zkg hn rfl (fun hc=>kj _ _ _) (Zt 2 [] hn rfl (Zv (zj (e:=.normal) (ι:=Unit) (fun u0=>[(14,true,.d (.int .i64 (wantR d q)))]) (fun u0=>[]) (fun hJ1=>?_) ?_)))
 ·
  refine zG rfl (fun hb1=>?_) (fun hb1=>?_)
  have q1:(deskI d == 0 && !(withinB q 0 ((d.orders.length:Int) - 1))) = true:=hb1
  refine zF (Zt 1 [] hn rfl (zQ ?_))
  rotate_left
  have q1:(deskI d == 0 && !(withinB q 0 ((d.orders.length:Int) - 1))) = false:=hb1
  refine zI ?_
  rotate_left
  all_goals
   exact Zj hJ1 () ⟨.inl (congrArg (fun z=>some (true,TV.d (D.int .i64 z))) (by unfold wantR; rw [q1]; rfl)),trivial⟩ trivial
 rintro _
 refine zA (zB (Zu (Zt 22 [11,11] hn rfl ?_)))
 refine Zh [(79,_),(82,_)] (zM rfl rfl rfl) hn (fun hc=>⟨⟨_,rfl,hc⟩,⟨_,rfl,hc⟩,trivial⟩) (fun hc=>za rfl rfl rfl (i64w (by omega) rfl)) ?_
 refine Zt 3 [11] hn rfl ?_
 refine Zh [(83,_),(86,_)] (zM rfl rfl rfl) hn (fun hc=>⟨⟨_,rfl,hc⟩,⟨_,rfl,hc⟩,trivial⟩) (fun hc=>za rfl rfl rfl (i64w (by omega) rfl)) ?_
 refine Zt 4 [] hn rfl (Zv (zG rfl (fun hb2=>?_) (fun hb2=>?_)))
 exact absurd hb2 (show_bad e10 e11 fun hw=>⟨(zCs hsh hw).1,by rw [(zCs hsh hw).2]; rfl⟩)
 refine zI (zA (zB (Zu (Zt 2 [] hn rfl (Zv (zG rfl (fun hb3=>?_) (fun hb3=>?_)))))))
 have q3:sureR d ≠ 0:=by simpa using hb3
 obtain ⟨e12,e13⟩:=bnds_bad q3
 rw [e12,e13]
 refine Zu (Zt 4 [] hn rfl (Zs hn (za rfl rfl rfl (r:=0) (i64w (by simp) rfl)) ?_))
 refine Zt 2 [] hn rfl (Zkg hn rfl (fun hc=>zCG) (Zt 2 [] hn rfl (Zv (zJ (zC ?_)))))
 exact ret_E (.inl rfl) () ((zu rfl (.tmp rfl)).eq (by simp)) trivial
 have q3:sureR d = 0:=by simpa using hb3
 obtain ⟨l,mm,all,hF⟩:=zDv hfw ((zBn d).trans q3)
 obtain ⟨e12,e13⟩:=bnds_good q3 hF
 rw [e12,e13]
 have hl8:=hF.S.l8
 have ho5:=hF.S.o5
 refine zI (zA (zB (Zu (Zt 14 [3,3] hn rfl (Zv (zG rfl (fun hb4=>?_) (fun hb4=>?_)))))))
 exact absurd hb4 (by simp)
 refine zI (zA (Zu (Zt 1 [3] hn rfl (Zk hn rfl ((by have h:=zEv d hN (by omega) (by omega); rw [zF1 hF.S.dk,hF.hl,hF.ha] at h; exact h)) ?_))))
 refine Zt 7 [] hn rfl (Zv (zB (Zu (Zt 1 [] hn rfl (Zv (zK (awp_loop_on (ι:={i:Nat // i ≤ d.orders.length}) (fun x=>(18,true,.d (.int .i64 (x.1:Nat))) :: anys [123,124,125,126,129,130,131,132,133,19,134,20,135,136,137,138,139,140,141,142,143,144,145,146,147,148,149,150,151,152,153,154,155,156,157,158,159,160,161,162,163,164,165,166,167,168,169,170,171,172,173,174,175,176,177,178,179,180,181,182,183,184,185,186,187,188,189,190,191,192,193,194,195,196,197,198,199,200,201,21,202,203,204,205,206,207,208,209,210,211,212,213,214,215,216,217,218,219,220,221,222,223,224,225,127,128]) (fun x=>gones [19,20,21]) (fun x=>d.orders.length - x.1) ⟨0,Nat.zero_le _⟩ ⟨.inl rfl,zE _⟩ (zR _) ?_)))))))
 rintro ⟨i,hi9⟩
 dsimp only
 refine zB (Zu (Zt 4 [] hn rfl (Zv (zG rfl (fun hb5=>?_) (fun hb5=>?_)))))
 have hil:i < d.orders.length:=by simp at hb5; omega
 obtain ⟨o,hod⟩:=zT hil
 have hob:=zAf (hF.S.ob o (List.mem_of_getElem? hod))
 have hA:=hF.ask hod
 have hbi:(d.orders.map fun o=>(bndI d.b l d.fee o mm).1)[i]? = some (bndI d.b l d.fee o mm).1:=by rw [List.getElem?_map,hod]; rfl
 have hvi:(d.orders.map fun o=>verdI d.b l d.fee o mm)[i]? = some (verdI d.b l d.fee o mm):=by rw [List.getElem?_map,hod]; rfl
 refine zI (zA (zB (zK (Zu (Zt 4 [3] hn rfl (Zk hn rfl ((by have h:=Ask4_ok d l i o hod (by omega) hF.S.po hF.S.l8 hF.tb hF.S.fe all hF.hall hF.al; rw [← hF.mt] at h; exact h)) ?_))))))
 refine Zb 19 hn rfl fun b19=>Zt 1 [19] hn rfl (Zv (zB ?_))
 generalize hX:askI d.fee o l all mm = X at hA ⊢
 refine zF (Zk hn rfl (yg _ _) (Zb 20 hn rfl fun b20=>Zt 1 [20] hn rfl (Zv (zB (Zu (Zt 2 [19] hn rfl (Zv (zj (e:=.normal) (ι:=Unit) (fun u0=>anys [137,138,139,140,141]) (fun u0=>[(20,.box b20 66 [.d (.int .i64 (bndI d.b l d.fee o mm).1.1),.d (.int .i64 (bndI d.b l d.fee o mm).1.2)])]) (fun hJ6=>?_) ?_))))))))
 ·
  refine zG rfl (fun hb6=>?_) (fun hb6=>?_)
  have q6:X.some_ = true:=hb6
  have e14:=hA.bd q6
  refine zF (Zt 4 [19,19] hn rfl (Zk hn rfl (yg _ _) (Zt 1 [20] hn rfl (zQ ?_))))
  rotate_left
  have q6:X.some_ = false:=hb6
  have e14:(bndI d.b l d.fee o mm).1 = (0,0):=bnd_no (hA.so.symm.trans q6)
  refine zI ?_
  rotate_left
  all_goals
   exact Zj hJ6 () (zE _) ⟨.inl (by rw [e14]; rfl),trivial⟩
 rintro _
 refine zA (zB (zB (zj (e:=.normal) (ι:=Unit) (fun u0=>(156,true,.d (.bool false)) :: anys [142,143,144,145,146,147,148,149,150,151,152,153,154,155]) (fun u0=>[]) (fun hJ7=>?_) ?_)))
 refine zh (W:=fun b=>b ≠ b19 ∧ b ≠ b20) fmo ?_
 refine Zy [0,1] [] hn rfl (Zd 2 rfl hn (q_index (i:=i) rfl rfl rfl underlying46 sz66 rfl (mget hbi)) ?_)
 refine Zy [3,4] [20] hn rfl (Zd 5 rfl hn (q_neq66 rfl rfl rfl) ?_)
 refine Zy [6,7,8] [] hn rfl ?_
 refine Zg 9 [(149,_),(150,_)] rfl (zM rfl rfl rfl) hn (fun hc=>⟨⟨_,rfl,hc⟩,⟨_,rfl,hc⟩,trivial⟩) (fun hc=>q_index (i:=i) rfl rfl rfl underlying29 sz3 rfl (mget hvi)) ?_
 refine Zy [10,11] [19] hn rfl (zH ?_)
 refine Zo 12 rfl (s_call [(153,_)] (fun hc=>Verdict4_ok X) rfl (zM rfl rfl rfl) rfl (nb hn rfl) (fun hc=>⟨⟨_,rfl,hc⟩,trivial⟩) rfl rfl (.refl _)) fun _=>?_
 refine d2_of_d1 (Zy [13,14] [] hn rfl (zH (zf (by kernel_rfl) ?_)))
 exact Zj hJ7 () ⟨.inl (congrArg (fun z=>some (true,TV.d (D.bool z))) (by rw [verd_law hA]; simp)),zE _⟩ trivial
 rintro _
 refine zA (zG rfl (fun hb8=>?_) (fun hb8=>?_))
 exact absurd hb8 (by decide)
 refine zI (zA (zB (Zu (Zt 3 [] hn rfl (Zv (zG rfl (fun hb9=>?_) (fun hb9=>?_)))))))
 refine zU (zD (zL (zA (zF (Zt 1 [] hn rfl (Zs hn (za rfl rfl rfl (r:=((i + 1:Nat):Int)) (i64w (by omega) (by omega))) ?_))))))
 refine Zt 1 [] hn rfl (zQ ?_)
 exact Zr ⟨i + 1,by omega⟩ ⟨.inl rfl,zE _⟩ (zR _) (by simp only; omega)
 obtain rfl:q = (i:Int):=by simpa using Eq.symm (by simpa using hb9)
 have hL:=zFD hF hod hsh
 refine zI (zA (zB (Zu (Zt 3 [19] hn rfl (Zv (zG rfl (fun hb10=>?_) (fun hb10=>?_)))))))
 have q9:X.some_ = false:=by simpa using hb10
 obtain ⟨rfl,rfl⟩:t2 = ⟨[],[],[]⟩ ∧ e2 = 2:=by rcases hL with ⟨_,h1,h2⟩ | ⟨h1,_⟩; exact ⟨h1,h2⟩; rw [← hA.so,q9] at h1; cases h1
 refine zB (Zu (Zt 9 [11,11] hn rfl ?_))
 refine Zh [(168,_),(171,_)] (zM rfl rfl rfl) hn (fun hc=>⟨⟨_,rfl,hc⟩,⟨_,rfl,hc⟩,trivial⟩) (fun hc=>za rfl rfl rfl (r:=0) (i64w (by simp) rfl)) ?_
 refine Zt 3 [11] hn rfl ?_
 refine Zh [(172,_),(175,_)] (zM rfl rfl rfl) hn (fun hc=>⟨⟨_,rfl,hc⟩,⟨_,rfl,hc⟩,trivial⟩) (fun hc=>za rfl rfl rfl (r:=0) (i64w (by simp) rfl)) ?_
 refine Zt 2 [] hn rfl (Zv (zG rfl (fun hb11=>?_) (fun hb11=>?_)))
 exact absurd hb11 (by simp)
 refine zI (zA (zU (zD (zL (zA (zF (Zt 1 [] hn rfl (Zs hn (za rfl rfl rfl (r:=((i + 1:Nat):Int)) (i64w (by omega) (by omega))) ?_))))))))
 refine Zt 1 [] hn rfl (zQ ?_)
 exact Zr ⟨i + 1,by omega⟩ ⟨.inl rfl,zE _⟩ (zR _) (by simp only; omega)
 have q9:X.some_ = true:=by simpa using hb10
 obtain ⟨rfl,hT,w,hfl⟩:e2 = 0 ∧ TruW d l t2 ∧ ∃ w:Nat,fillGo d.fee o (t2.orders.getD i 0) t2.prices t2.minutes 0 l = ((w:Int),(bif hi then (bndI d.b l d.fee o mm).1.2 else (bndI d.b l d.fee o mm).1.1)):=by rcases hL with ⟨h1,_⟩ | ⟨_,h2⟩; rw [← hA.so,q9] at h1; cases h1; exact h2
 have hTp:=hT.pl
 have hTm:=hT.ml
 have hTo:=hT.ol
 obtain ⟨mo,hmo⟩:=zT (show i < t2.orders.length by omega)
 rw [zP hmo] at hfl
 have hpb:=tru_pb hT
 have e15:=hA.bd q9
 refine zI (zA (zB (zB (zh (W:=fun b=>b ≠ b3 ∧ b ≠ b11) fmo ?_))))
 refine Zy [0,1,2,3,4,5] [3,11] hn rfl (zH ?_)
 refine Zo 6 rfl (s_call [(184,_)] (fun hc=>Back5_ok t2 (by omega) (by omega) (by omega)) rfl (zM rfl rfl rfl) rfl (nb hn rfl) (fun hc=>⟨⟨_,rfl,hc⟩,trivial⟩) rfl rfl (.refl _)) fun _=>?_
 refine d2_of_d1 (zH ?_)
 refine Zo 7 rfl (s_call [(182,_),(183,_),(185,_)] (fun hc=>(by have h:=IsT4_ok d l t2 hF.S.v (by omega) hF.S.po hl8; rw [isT_iff.2 hT] at h; exact h)) rfl (zM rfl rfl rfl) rfl (nb hn rfl) (fun hc=>⟨⟨_,rfl,hc⟩,⟨_,rfl,hc⟩,⟨_,rfl,hc⟩,trivial⟩) rfl rfl (.refl _)) fun _=>?_
 refine d2_of_d1 (Zy [8,9] [] hn rfl (zH (zf (by kernel_rfl) ?_)))
 refine zA (zG rfl (fun hb12=>?_) (fun hb12=>?_))
 exact absurd hb12 (by simp)
 refine zI (zA (zB ?_))
 refine zj (e:=.normal) (ι:=Nat) (fun z=>(21,true,.val (.pointer (some ⟨z,0,none⟩))) :: anys [189,190,191,192,193,194,195,196,197,198,199,200,201]) (fun z=>[(21,.box z 126 [.d (.int .i64 (w:Nat)),.d (.int .i64 (bif hi then (bndI d.b l d.fee o mm).1.2 else (bndI d.b l d.fee o mm).1.1))])]) (fun hJ13=>?_) ?_
 ·
  refine zh (W:=fun b=>b ≠ b3 ∧ b ≠ b11) fmo ?_
  refine Zy [0,1,2,3,4,5] [3,11] hn rfl (Zd 6 rfl hn (q_index (i:=i) rfl rfl rfl underlying29 sz3 rfl (mget hmo)) ?_)
  refine Zy [7,8,9,10,11] [11,11] hn rfl (zH ?_)
  refine yD 12 [13] (by kernel_rfl) ⟨?_,?_,trivial⟩
  refine br rfl (Zc hn ((by have h:=zDe d l i mo t2.prices t2.minutes o hod (by omega) hF.S.fe hpb (by omega) (by omega) (by omega); rw [hfl] at h; exact h))) fun _=>?_
  refine d2_of_d1 (zH (Zo 13 rfl (yF 21 rfl rfl rfl (nb hn rfl) zr126 rfl rfl) fun b21=>?_))
  rotate_left
  refine br rfl (yF 21 rfl rfl rfl (nb hn rfl) zr126 rfl rfl) fun b21=>?_
  refine d2_of_d1 (zH (Ze1 12 rfl hn rfl ((by have h:=zDe d l i mo t2.prices t2.minutes o hod (by omega) hF.S.fe hpb (by omega) (by omega) (by omega); rw [hfl] at h; exact h)) ?_))
  rotate_left
  all_goals
   refine d2_of_d1 (zH (yN (i:=21) (j:=3) rfl rfl rfl (fun hne21_3=>?_)))
   refine yN (i:=21) (j:=11) rfl rfl rfl (fun hne21_11=>?_)
   refine Zo 14 rfl (zz rfl rfl rfl rfl rfl rfl (id:=21) rfl sz126 rfl (Nat.le_of_ble_eq_true rfl) rfl ⟨fun e=>hne21_3 _ rfl (congrArg some e.symm),fun e=>hne21_11 _ rfl (congrArg some e.symm)⟩) fun _=>?_
   refine d2_of_d1 (zH (zf (by kernel_rfl) ?_))
   exact Zj hJ13 b21 ⟨.inl rfl,zE _⟩ ⟨.inl rfl,trivial⟩
 rintro b21
 refine zA (Zu (Zt 24 [21,21,19,21,19] hn rfl (Zv (zG rfl (fun hb14=>?_) (fun hb14=>?_)))))
 exact absurd hb14 (by rw [e15]; cases hi <;> simp)
 refine zI (zO (zA (zF (Zt 1 [] hn rfl (Zs hn (za rfl rfl rfl (r:=((i + 1:Nat):Int)) (i64w (by omega) (by omega))) ?_)))))
 refine Zt 1 [] hn rfl (zQ ?_)
 exact Zr ⟨i + 1,by omega⟩ ⟨.inl rfl,zE _⟩ (zR _) (by simp only; omega)
 obtain rfl:i = d.orders.length:=by simp at hb5; omega
 refine zU (zD (zD (zL (zA (Zu (Zk hn rfl (zCG) (Zt 1 [] hn rfl (Zv (zJ ?_)))))))))
 exact ret_E (.inl rfl) () (zu rfl (.tmp rfl)) trivial
theorem OddBounds_ok (d:Dsk) (q:Int) (hi:Bool) (hN:NamesOK d.b):PureAt Tryz.prog 6 [dskD d,.int .i64 q,.bool hi] (.bool true):=PureAt.of_eff (ds:=[dskD d,.int .i64 q,.bool hi]) (OddBounds_eff d q hi hN)
end Go.Proofs.YticlpkgpmmhemaaGreatDoor
