/-
  A part of the proof that contangolaw.OddNames returns true: what the last text needs, and no more. No condition: no statement of the seat is proved here.
-/
import Derived.Lib.ItoaLen
import Derived.Test.YticlpkgpmmhemaaGreatDoorOddNamesL
namespace Go.Proofs.YticlpkgpmmhemaaGreatDoor
open Go.RowKit
set_option maxRecDepth 20000
set_option linter.all false
/-- Few short words. -/
structure WsOK (i:Nat) (ws:List (List UInt8)):Prop where
  n:ws.length ≤ 4 * i
  l:∀ w ∈ ws,w.length ≤ 60
end Go.Proofs.YticlpkgpmmhemaaGreatDoor
namespace Go.Proofs.YticlpkgpmmhemaaGreatDoor
open Go.RowKit
set_option linter.all false
/-- The number that a string is, as the document says. -/
def dig (s:List UInt8):Option Nat:=bif decide (1 ≤ s.length) && decide (s.length ≤ 3) && !(decide (1 < s.length) && s.getD 0 0 == 48) then Lib.decFrom 0 s else none
theorem tn {n:Nat} (h:n < 256):(UInt8.ofNat n).toNat = n:=by rw [UInt8.toNat_ofNat']; exact Nat.mod_eq_of_lt h
theorem kC {b:UInt8} {d:Nat} (h:Lib.digitVal b = some d):b = UInt8.ofNat (48 + d) ∧ d ≤ 9:=by
  obtain ⟨h1,h2,h3⟩:=Lib.digitVal_eq h
  refine ⟨?_,by omega⟩
  apply UInt8.toNat_inj.1
  rw [tn (by omega)]
  omega
theorem dd1 {m:Nat} (h:m < 10):Lib.decDigits m = [UInt8.ofNat (48 + m)]:=by rw [Lib.decDigits,dif_pos h]
theorem dd2 {m:Nat} (h:¬ m < 10):Lib.decDigits m = Lib.decDigits (m / 10) ++ [UInt8.ofNat (48 + m % 10)]:=by rw [Lib.decDigits,dif_neg h]
theorem dd_mem:∀ (m:Nat),∀ x ∈ Lib.decDigits m,48 ≤ x.toNat ∧ x.toNat ≤ 57:=by
  intro m
  induction m using Nat.strongRecOn with
  | _ m ih =>
    intro x hx
    by_cases h:m < 10
    · rw [dd1 h,List.mem_singleton] at hx
      subst hx
      rw [tn (by omega)]; omega
    · rw [dd2 h] at hx
      rcases List.mem_append.1 hx with hx | hx
      · exact ih (m / 10) (by omega) x hx
      · rw [List.mem_singleton] at hx
        subst hx
        rw [tn (by omega)]; omega
theorem dd_len2 {m:Nat} (h:m < 100):(Lib.decDigits m).length ≤ 2:=by
  by_cases h1:m < 10
  · rw [dd1 h1]; simp
  · rw [dd2 h1,dd1 (by omega)]; simp
theorem zE6 {s:List UInt8} {m:Nat} (h:Lib.decFrom 0 s = some m) (h1:1 ≤ s.length) (h3:s.length ≤ 3):Lib.decDigits m = s ↔ (decide (1 < s.length) && s.getD 0 0 == 48) = false:=by
  match s,h1,h3,h with
  | [a],_,_,h =>
    cases ha:Lib.digitVal a with
    | none=>simp [Lib.decFrom,ha] at h
    | some x =>
      obtain ⟨e1,e2⟩:=kC ha
      simp [Lib.decFrom,ha] at h
      subst h
      rw [dd1 (by omega),← e1]
      simp
  | [a,b],_,_,h =>
    cases ha:Lib.digitVal a with
    | none=>simp [Lib.decFrom,ha] at h
    | some x =>
      cases hb:Lib.digitVal b with
      | none=>simp [Lib.decFrom,ha,hb] at h
      | some y =>
        obtain ⟨e1,e2⟩:=kC ha
        obtain ⟨f1,f2⟩:=kC hb
        simp [Lib.decFrom,ha,hb] at h
        subst h
        by_cases hx:x = 0
        · subst hx
          rw [dd1 (by omega)]
          simp [e1]
        · rw [dd2 (by omega),dd1 (by omega),show (x * 10 + y) / 10 = x by omega,show (x * 10 + y) % 10 = y by omega,← e1,← f1]
          have hne:a ≠ 48:=fun e=>by
            have:=(Lib.digitVal_eq ha).2.2
            rw [e] at this
            exact hx (by simpa using this)
          simp [hne]
  | [a,b,c],_,_,h =>
    cases ha:Lib.digitVal a with
    | none=>simp [Lib.decFrom,ha] at h
    | some x =>
      cases hb:Lib.digitVal b with
      | none=>simp [Lib.decFrom,ha,hb] at h
      | some y =>
        cases hc:Lib.digitVal c with
        | none=>simp [Lib.decFrom,ha,hb,hc] at h
        | some z =>
          obtain ⟨e1,e2⟩:=kC ha
          obtain ⟨f1,f2⟩:=kC hb
          obtain ⟨g1,g2⟩:=kC hc
          simp [Lib.decFrom,ha,hb,hc] at h
          subst h
          by_cases hx:x = 0
          · subst hx
            constructor
            · intro q
              have:=dd_len2 (m:=(0 * 10 + y) * 10 + z) (by omega)
              rw [show (0 * 10 + y) * 10 + z = y * 10 + z by omega] at this
              have e:=congrArg List.length q
              simp at e this
              omega
            · intro q
              simp [e1] at q
          · rw [dd2 (by omega),dd2 (by omega),dd1 (by omega),show ((x * 10 + y) * 10 + z) / 10 = x * 10 + y by omega,show ((x * 10 + y) * 10 + z) % 10 = z by omega,show (x * 10 + y) / 10 = x by omega,show (x * 10 + y) % 10 = y by omega,← e1,← f1,← g1]
            have hne:a ≠ 48:=fun e=>by
              have:=(Lib.digitVal_eq ha).2.2
              rw [e] at this
              exact hx (by simpa using this)
            simp [hne]
theorem zAb (s : List UInt8) : digI s = match dig s with
    | some n=>(n:Int)
    | none=>-1:=by
  by_cases h3:s.length ≤ 3
  · cases s with
    | nil=>rw [show dig [] = none from rfl]; unfold digI; rw [Lib.atoiAll_short [] (by simp)]; rfl
    | cons b r =>
      have hd1:decide (1 ≤ (b :: r).length) = true:=by simp
      unfold digI dig
      rw [Lib.atoiAll_short _ (by omega),hd1,show decide ((b :: r).length ≤ 3) = true by simpa using h3,show decide (3 < ((b :: r).length:Int)) = false by simp only [decide_eq_false_iff_not]; omega]
      simp only [Bool.true_and,Bool.or_false,Bool.and_self]
      simp only [Lib.atoi]
      by_cases h45:b = 45
      · subst h45
        have hn:Lib.decFrom 0 (45 :: r) = none:=rfl
        rw [hn]
        simp only [beq_self_eq_true,if_true]
        cases hr:Lib.decNat r with
        | none=>cases (!(decide (1 < (45 :: r).length) && (45 :: r).getD 0 0 == 48)) <;> rfl
        | some m =>
          have e:(bif decide (-(m:Int) < 0) || (Lib.itoa (-(m:Int)) != 45 :: r) then (-1:Int) else -(m:Int)) = -1:=by
            cases m with
            | succ m=>rw [show decide (-((m + 1:Nat):Int) < 0) = true by simp only [decide_eq_true_eq]; omega]; rfl
            | zero =>
              have:(Lib.itoa (-((0:Nat):Int)) != 45 :: r) = true:=by
                rw [show (-((0:Nat):Int)) = ((0:Nat):Int) by omega,Lib.itoa_nonneg,dd1 (by omega)]
                simp
              rw [this]; simp
          cases (!(decide (1 < (45 :: r).length) && (45 :: r).getD 0 0 == 48)) <;> exact e
      · by_cases h43:b = 43
        · subst h43
          have hn:Lib.decFrom 0 (43 :: r) = none:=rfl
          rw [hn,show ((43:UInt8) == 45) = false from rfl]
          simp only [beq_self_eq_true,if_true,Bool.false_eq_true,if_false]
          cases hr:Lib.decNat r with
          | none=>cases (!(decide (1 < (43 :: r).length) && (43 :: r).getD 0 0 == 48)) <;> rfl
          | some m =>
            have:(Lib.itoa (m:Int) != 43 :: r) = true:=by
              rw [Lib.itoa_nonneg,bne_iff_ne]
              intro q
              have:=dd_mem m 43 (by rw [q]; exact List.mem_cons_self)
              revert this; decide
            have e:(bif decide ((m:Int) < 0) || (Lib.itoa (m:Int) != 43 :: r) then (-1:Int) else (m:Int)) = -1:=by rw [this]; simp
            cases (!(decide (1 < (43 :: r).length) && (43 :: r).getD 0 0 == 48)) <;> exact e
        · rw [show (b == 45) = false by simpa using h45,show (b == 43) = false by simpa using h43]
          simp only [Bool.false_eq_true,if_false]
          unfold Lib.decNat
          simp only [List.isEmpty_cons,Bool.false_eq_true,if_false]
          cases hr:Lib.decFrom 0 (b :: r) with
          | none=>cases (!(decide (1 < (b :: r).length) && (b :: r).getD 0 0 == 48)) <;> rfl
          | some m =>
            have hs:=zE6 hr (by simp) h3
            have e:(bif decide ((m:Int) < 0) || (Lib.itoa (m:Int) != b :: r) then (-1:Int) else (m:Int)) = bif (Lib.decDigits m != b :: r) then -1 else (m:Int):=by
              rw [Lib.itoa_nonneg,show decide ((m:Int) < 0) = false by simp only [decide_eq_false_iff_not]; omega]; rfl
            show (bif decide ((m:Int) < 0) || (Lib.itoa (m:Int) != b :: r) then (-1:Int) else (m:Int)) = _
            rw [e]
            cases hc:(decide (1 < (b :: r).length) && (b :: r).getD 0 0 == 48) with
            | false=>rw [show (Lib.decDigits m != b :: r) = false by rw [bne_eq_false_iff_eq]; exact hs.2 hc]; rfl
            | true =>
              rw [show (Lib.decDigits m != b :: r) = true by rw [bne_iff_ne]; intro q; rw [hs.1 q] at hc; cases hc]; rfl
  · have:dig s = none:=by unfold dig; rw [show decide (s.length ≤ 3) = false by simpa using h3]; simp
    rw [this]
    unfold digI
    cases Lib.atoiAll s with
    | ok v=>simp only; rw [show decide (3 < (s.length:Int)) = true by simp only [decide_eq_true_eq]; omega]; simp
    | range=>rfl
    | _=>rfl
theorem ko {s:List UInt8} {n:Nat} (h:dig s = some n):(∀ x ∈ s,48 ≤ x.toNat ∧ x.toNat ≤ 57) ∧ 1 ≤ s.length ∧ s.length ≤ 3 ∧ n ≤ 999:=by
  have hb:=zBP s
  rw [zAb,h] at hb
  unfold dig at h
  cases hc:(decide (1 ≤ s.length) && decide (s.length ≤ 3) && !(decide (1 < s.length) && s.getD 0 0 == 48)) <;> rw [hc] at h
  · cases h
  · simp only [Bool.and_eq_true,decide_eq_true_eq] at hc
    refine ⟨fun x hx=>?_,hc.1.1,hc.1.2,by simp only at hb; omega⟩
    obtain ⟨k,hk⟩:=List.getElem?_of_mem hx
    obtain ⟨d,hd⟩:=Lib.digit_of_decFrom s 0 n h k x hk
    have:=Lib.digitVal_eq hd
    omega
theorem zBW {s:List UInt8}:0 ≤ digI s ↔ ∃ n,dig s = some n:=by
  rw [zAb]
  cases dig s with
  | none=>simp
  | some n=>simp
theorem zEI {c:UInt8}:∀ {s:List UInt8},c ∉ s → Lib.index s [c] = -1
  | [],_=>rfl
  | b :: l,h=>by
    have h1:c ≠ b:=fun e=>h (e ▸ List.mem_cons_self)
    have h2:c ∉ l:=fun e=>h (List.mem_cons_of_mem _ e)
    unfold Lib.index
    rw [zEI h2,show ([c]:List UInt8).isPrefixOf (b :: l) = false by show (c == b && List.isPrefixOf [] l) = false; rw [show (c == b) = false by simpa using h1]; rfl]
    rfl
theorem zFM {c:UInt8} {b:List UInt8}:∀ {a:List UInt8},c ∉ a → Lib.index (a ++ c :: b) [c] = a.length
  | [],_=>by
    unfold Lib.index
    simp
  | x :: l,h=>by
    have h1:c ≠ x:=fun e=>h (e ▸ List.mem_cons_self)
    have h2:c ∉ l:=fun e=>h (List.mem_cons_of_mem _ e)
    show Lib.index (x :: (l ++ c :: b)) [c] = _
    unfold Lib.index
    rw [zFM h2,show ([c]:List UInt8).isPrefixOf (x :: (l ++ c :: b)) = false by show (c == x && List.isPrefixOf [] (l ++ c :: b)) = false; rw [show (c == x) = false by simpa using h1]; rfl]
    rw [show ((l.length:Int) == -1) = false by simp only [beq_eq_false_iff_ne]; omega]
    simp
theorem zCJ {c:UInt8} {s:List UInt8} (h:c ∉ s):Lib.cut s [c] = (s,[],false):=by
  unfold Lib.cut
  rw [zEI h]
  rfl
theorem zAQ {c:UInt8} {a b:List UInt8} (h:c ∉ a):Lib.cut (a ++ c :: b) [c] = (a,b,true):=by
  unfold Lib.cut
  rw [zFM h,if_pos (by omega)]
  simp
theorem zBR {c:UInt8}:∀ {s:List UInt8},c ∈ s → ∃ a b,s = a ++ c :: b ∧ c ∉ a
  | [],h=>by cases h
  | x :: l,h=>by
    by_cases e:c = x
    · subst e; exact ⟨[],l,rfl,by simp⟩
    · rcases List.mem_cons.1 h with h | h
      · exact (e h).elim
      · obtain ⟨a,b,rfl,h2⟩:=zBR h
        exact ⟨x :: a,b,rfl,fun q=>(List.mem_cons.1 q).elim e h2⟩
theorem dig_itoa {s:List UInt8} {n:Nat} (h:dig s = some n):Lib.decDigits n = s:=by
  obtain ⟨_,h1,h3,_⟩:=ko h
  unfold dig at h
  cases hc:(decide (1 ≤ s.length) && decide (s.length ≤ 3) && !(decide (1 < s.length) && s.getD 0 0 == 48)) <;> rw [hc] at h
  · cases h
  · simp only [Bool.and_eq_true] at hc
    exact (zE6 h h1 h3).2 (by have:=hc.2; revert this; cases (decide (1 < s.length) && s.getD 0 0 == 48) <;> simp)
theorem dig_bad {s:List UInt8} {x:UInt8} (hx:x ∈ s) (h:x.toNat < 48 ∨ 57 < x.toNat):dig s = none:=by
  cases hd:dig s with
  | none=>rfl
  | some n=>have:=(ko hd).1 x hx; omega
theorem dig_one {c:UInt8} (h:48 ≤ c.toNat ∧ c.toNat ≤ 57):dig [c] = some (c.toNat - 48):=by
  show Lib.decFrom 0 [c] = _
  simp [Lib.decFrom,Lib.digitVal,h]
theorem dig_small {b:List UInt8} {n:Nat} (h:dig b = some n) (hn:n ≤ 9):∃ c:UInt8,b = [c] ∧ 48 ≤ c.toNat ∧ c.toNat ≤ 57 ∧ n = c.toNat - 48:=by
  have h1:=dig_itoa h
  rw [dd1 (by omega)] at h1
  subst h1
  refine ⟨_,rfl,?_⟩
  rw [tn (by omega)]
  omega
/-- The numbers before and after the point of a price, as the document says. -/
def pointD (s:List UInt8):Int × Int × Bool:=bif decide (s.length < 3) || (s.getD (s.length - 2) 0 != 46) then (0,0,false) else
  (((dig (s.take (s.length - 2))).getD 0:Nat),((s.getD (s.length - 1) 0).toNat:Int) - 48,(dig (s.take (s.length - 2))).isSome && withinB (((s.getD (s.length - 1) 0).toNat:Int) - 48) 0 7)
theorem zAK {s:List UInt8} (h:(pointD s).2.2 = true):∃ a c d,s = a ++ [46,c] ∧ dig a = some d ∧ 48 ≤ c.toNat ∧ c.toNat ≤ 55 ∧ pointD s = (((d:Nat):Int),((c.toNat - 48:Nat):Int),true):=by
  unfold pointD at h ⊢
  cases hc:(decide (s.length < 3) || (s.getD (s.length - 2) 0 != 46)) <;> rw [hc] at h
  · simp only [cond_false,Bool.and_eq_true] at h ⊢
    simp only [Bool.or_eq_false_iff,decide_eq_false_iff_not,bne_eq_false_iff_eq] at hc
    obtain ⟨hl,hp⟩:=hc
    obtain ⟨h1,h2⟩:=h
    obtain ⟨d,hd⟩:=Option.isSome_iff_exists.1 h1
    have h2:=zi.1 h2
    obtain ⟨p,hp1⟩:=zW (show s.length - 2 < s.length by omega)
    obtain ⟨c,hc1⟩:=zW (show s.length - 1 < s.length by omega)
    rw [zQ hp1] at hp
    subst hp
    rw [zQ hc1] at h2 ⊢
    refine ⟨s.take (s.length - 2),c,d,?_,hd,by omega,by omega,?_⟩
    · have e1:=zw hp1
      have e2:=zw (show s[s.length - 2 + 1]? = some c by rw [show s.length - 2 + 1 = s.length - 1 by omega]; exact hc1)
      rw [e2,show s.length - 2 + 1 + 1 = s.length by omega,List.drop_length] at e1
      rw [← e1,List.take_append_drop]
    · rw [hd,show withinB ((c.toNat:Int) - 48) 0 7 = true from zi.2 h2]
      simp
      omega
  · cases h
theorem point_of {a:List UInt8} {c:UInt8} {d:Nat} (hd:dig a = some d) (hc:48 ≤ c.toNat ∧ c.toNat ≤ 55):pointD (a ++ [46,c]) = (((d:Nat):Int),((c.toNat - 48:Nat):Int),true):=by
  have hl:=(ko hd).2.1
  unfold pointD
  have e0:(a ++ [46,c]).length = a.length + 2:=by simp
  have e1:(a ++ [46,c]).getD (a.length + 2 - 2) 0 = 46:=by
    rw [show a.length + 2 - 2 = a.length by omega,List.getD_eq_getElem?_getD,List.getElem?_append_right (by omega)]; simp
  have e2:(a ++ [46,c]).getD (a.length + 2 - 1) 0 = c:=by
    rw [show a.length + 2 - 1 = a.length + 1 by omega,List.getD_eq_getElem?_getD,List.getElem?_append_right (by omega)]; simp
  have e3:(a ++ [46,c]).take (a.length + 2 - 2) = a:=by rw [show a.length + 2 - 2 = a.length by omega,List.take_left]
  rw [e0,e1,e2,e3,hd,show decide (a.length + 2 < 3) = false by simp only [decide_eq_false_iff_not]; omega,show withinB ((c.toNat:Int) - 48) 0 7 = true from zi.2 (by omega)]
  simp
  omega
theorem zAt {a:List UInt8} {d:Nat} {x:UInt8} (h:dig a = some d) (hx:x.toNat < 48 ∨ 57 < x.toNat):x ∉ a:=fun hm=>by have:=(ko h).1 x hm; omega
theorem kE {s:List UInt8} {n:Nat} (h:dig s = some n):digI s = n:=by rw [zAb,h]
theorem zBU (s:List UInt8):pricedI s = bif (pointD s).2.2 then 8 * (pointD s).1 + (pointD s).2.1 else -1:=by
  cases hp:(pointD s).2.2 with
  | true =>
    obtain ⟨a,c,d,rfl,hd,h1,h2,he⟩:=zAK hp
    have hc:=dig_one (c:=c) (by omega)
    unfold pricedI
    rw [zAQ (zAt hd (by decide)),he]
    simp only [kE hd,kE hc]
    rw [show decide ((d:Int) < 0) = false by simp only [decide_eq_false_iff_not]; omega,show withinB ((c.toNat - 48:Nat):Int) 0 7 = true from zi.2 (by omega)]
    simp only [Bool.not_true,Bool.or_false,Bool.or_self,cond_false,cond_true]
    omega
  | false =>
    unfold pricedI
    cases hc:(!(Lib.cut s [46]).2.2 || decide (digI (Lib.cut s [46]).1 < 0) || !(withinB (digI (Lib.cut s [46]).2.1) 0 7)) with
    | true=>rfl
    | false =>
      exfalso
      by_cases hm:(46:UInt8) ∈ s
      · obtain ⟨a,b,rfl,hn⟩:=zBR hm
        rw [zAQ hn] at hc
        simp only [Bool.or_eq_false_iff,decide_eq_false_iff_not,Bool.not_eq_false'] at hc
        obtain ⟨⟨_,h1⟩,h2⟩:=hc
        have h2:=zi.1 h2
        obtain ⟨d,hd⟩:=zBW.1 (show 0 ≤ digI a by omega)
        obtain ⟨e,he⟩:=zBW.1 h2.1
        rw [kE he] at h2
        obtain ⟨c,rfl,h3,h4,h5⟩:=dig_small he (by omega)
        have h6:=point_of hd (c:=c) (by omega)
        rw [h6] at hp
        cases hp
      · rw [zCJ hm] at hc
        cases hc
/-- What follows an L, as the document says. -/
def lateAt (s:List UInt8) (i:Nat):Option (Nat × Nat):=bif s.getD 0 0 == 76 && s.getD i 0 == 45 && (dig ((s.take i).drop 1)).isSome && (dig (s.drop (i + 1))).isSome && decide (((dig ((s.take i).drop 1)).getD 0:Int) ≤ ((dig (s.drop (i + 1))).getD 0:Int)) && decide (((dig (s.drop (i + 1))).getD 0:Int) ≤ 60)
  then some ((dig ((s.take i).drop 1)).getD 0,(dig (s.drop (i + 1))).getD 0) else none
def lateL (s:List UInt8):Option (Nat × Nat):=(List.range' 2 (s.length - 3)).findSome? (lateAt s)
theorem zCz {r:List UInt8} {i x y:Nat} (h:lateAt (76 :: r) i = some (x,y)):∃ a b,r = a ++ 45 :: b ∧ dig a = some x ∧ dig b = some y ∧ x ≤ y ∧ y ≤ 60 ∧ i = a.length + 1:=by
  unfold lateAt at h
  cases hc:((76 :: r).getD 0 0 == 76 && (76 :: r).getD i 0 == 45 && (dig (((76 :: r).take i).drop 1)).isSome && (dig ((76 :: r).drop (i + 1))).isSome && decide (((dig (((76 :: r).take i).drop 1)).getD 0:Int) ≤ ((dig ((76 :: r).drop (i + 1))).getD 0:Int)) && decide (((dig ((76 :: r).drop (i + 1))).getD 0:Int) ≤ 60)) <;> rw [hc] at h
  · cases h
  · simp only [cond_true,Option.some.injEq,Prod.mk.injEq] at h
    simp only [Bool.and_eq_true,decide_eq_true_eq,beq_iff_eq] at hc
    obtain ⟨⟨⟨⟨⟨_,h2⟩,h3⟩,h4⟩,h5⟩,h6⟩:=hc
    obtain ⟨a,ha⟩:=Option.isSome_iff_exists.1 h3
    obtain ⟨b,hb⟩:=Option.isSome_iff_exists.1 h4
    rw [ha,hb] at h h5
    rw [hb] at h6
    simp only [Option.getD_some] at h h5 h6
    obtain ⟨rfl,rfl⟩:=h
    cases i with
    | zero=>rw [List.take_zero] at ha; cases ha
    | succ j =>
      rw [List.take_succ_cons,List.drop_succ_cons,List.drop_zero] at ha
      rw [List.drop_succ_cons] at hb
      rw [List.getD_cons_succ] at h2
      have hj:j < r.length:=by
        by_cases hj:j < r.length
        · exact hj
        · rw [List.drop_of_length_le (by omega)] at hb; cases hb
      have hg:=List.getElem?_eq_getElem hj
      rw [zQ hg] at h2
      refine ⟨r.take j,r.drop (j + 1),?_,ha,hb,by omega,by omega,by rw [List.length_take]; omega⟩
      rw [← h2,← List.drop_eq_getElem_cons hj,List.take_append_drop]
theorem late_of {a b:List UInt8} {x y:Nat} (hx:dig a = some x) (hy:dig b = some y) (h1:x ≤ y) (h2:y ≤ 60):lateAt (76 :: (a ++ 45 :: b)) (a.length + 1) = some (x,y):=by
  unfold lateAt
  have e1:((76 :: (a ++ 45 :: b)).take (a.length + 1)).drop 1 = a:=by rw [List.take_succ_cons,List.drop_succ_cons,List.drop_zero,List.take_left]
  have e2:(76 :: (a ++ 45 :: b)).drop (a.length + 1 + 1) = b:=by
    rw [List.drop_succ_cons,show a.length + 1 = a.length + 1 from rfl,← List.drop_drop,List.drop_left]; rfl
  have e3:(76 :: (a ++ 45 :: b)).getD (a.length + 1) 0 = 45:=by
    rw [List.getD_cons_succ,List.getD_eq_getElem?_getD,List.getElem?_append_right (by omega)]; simp
  rw [e1,e2,e3,hx,hy]
  simp [h1]
  rw [show decide ((y:Int) ≤ 60) = true by simp only [decide_eq_true_eq]; omega]
  rfl
theorem find_uniq {α β:Type} {l:List α} {f:α → Option β} {v:β} (h1:∃ x ∈ l,f x = some v) (h2:∀ x ∈ l,∀ w,f x = some w → w = v):l.findSome? f = some v:=by
  cases h:l.findSome? f with
  | none =>
    obtain ⟨x,hx,hv⟩:=h1
    rw [List.findSome?_eq_none_iff.1 h x hx] at hv
    cases hv
  | some w =>
    obtain ⟨x,hx,hw⟩:=List.exists_of_findSome?_eq_some h
    rw [h2 x hx w hw]
theorem late_eq (r:List UInt8):lateL (76 :: r) = bif (Lib.cut r [45]).2.2 && spansB (digI (Lib.cut r [45]).1) (digI (Lib.cut r [45]).2.1) 0 60 then some ((digI (Lib.cut r [45]).1).toNat,(digI (Lib.cut r [45]).2.1).toNat) else none:=by
  cases hc:((Lib.cut r [45]).2.2 && spansB (digI (Lib.cut r [45]).1) (digI (Lib.cut r [45]).2.1) 0 60) with
  | true =>
    by_cases hm:(45:UInt8) ∈ r
    · obtain ⟨a,b,rfl,hn⟩:=zBR hm
      rw [zAQ hn] at hc ⊢
      simp only [Bool.true_and,spansB,Bool.and_eq_true,decide_eq_true_eq,cond_true] at hc ⊢
      obtain ⟨x,hx⟩:=zBW.1 hc.1.1
      obtain ⟨y,hy⟩:=zBW.1 (show 0 ≤ digI b by omega)
      rw [kE hx,kE hy] at hc ⊢
      have ha:=(ko hx).2.1
      have hb:=(ko hy).2.1
      refine find_uniq ⟨a.length + 1,?_,by rw [late_of hx hy (by omega) (by omega)]; simp⟩ fun i _ w hw=>?_
      · rw [List.mem_range'_1]
        simp only [List.length_cons,List.length_append]
        omega
      · obtain ⟨x',y'⟩:=w
        obtain ⟨a',b',e,hx',hy',_,_,_⟩:=zCz hw
        have h1:=zAQ (b:=b) hn
        rw [e,zAQ (zAt hx' (by decide))] at h1
        simp only [Prod.mk.injEq] at h1
        obtain ⟨rfl,rfl,_⟩:=h1
        rw [hx] at hx'; rw [hy] at hy'
        cases hx'; cases hy'
        simp
    · rw [zCJ hm] at hc; cases hc
  | false =>
    refine List.findSome?_eq_none_iff.2 fun i _=>?_
    cases hl:lateAt (76 :: r) i with
    | none=>rfl
    | some w =>
      obtain ⟨x,y⟩:=w
      obtain ⟨a,b,rfl,hx,hy,h1,h2,_⟩:=zCz hl
      rw [zAQ (zAt hx (by decide))] at hc
      simp only [Bool.true_and,kE hx,kE hy,spansB] at hc
      rw [show decide ((0:Int) ≤ x) = true by simp only [decide_eq_true_eq]; omega,show decide ((x:Int) ≤ y) = true by simp only [decide_eq_true_eq]; omega,show decide ((y:Int) ≤ 60) = true by simp only [decide_eq_true_eq]; omega] at hc
      cases hc
/-- A token as the document says. -/
def refTok (s:List UInt8):Tok :=
  bif s == [33] then ⟨7,0,0,s⟩ else bif s == [63] then ⟨8,0,0,s⟩ else bif namedB s then ⟨1,0,0,s⟩ else bif decide ((s.length:Int) < 2) then ⟨0,0,0,s⟩
  else bif (dig (s.take (s.length - 1))).isSome && s.getD (s.length - 1) 0 == 115 && withinB ((dig (s.take (s.length - 1))).getD 0:Nat) 1 99 then ⟨2,((dig (s.take (s.length - 1))).getD 0:Nat),0,s⟩
  else bif (pointD s).2.2 && (s.length:Int) == 3 then ⟨3,8 * (pointD s).1 + (pointD s).2.1,0,s⟩
  else bif (pointD (s.drop 1)).2.2 && s.getD 0 0 == 36 && withinB (8 * (pointD (s.drop 1)).1 + (pointD (s.drop 1)).2.1) 1 799 then ⟨4,8 * (pointD (s.drop 1)).1 + (pointD (s.drop 1)).2.1,0,s⟩
  else bif (dig (s.drop 1)).isSome && s.getD 0 0 == 64 && decide (((dig (s.drop 1)).getD 0:Int) ≤ 600) then ⟨5,((dig (s.drop 1)).getD 0:Nat),0,s⟩
  else match lateL s with
    | some (a,b)=>⟨6,a,b,s⟩
    | none=>⟨0,0,0,s⟩
structure TokSim (t t':Tok):Prop where
  kind:t.kind = t'.kind
  text:t.text = t'.text
  fst:1 < t.kind → t.kind < 7 → t.fst = t'.fst
  snd:t.kind = 6 → t.snd = t'.snd
theorem kb {f g x y:Int} {s:List UInt8}:TokSim ⟨0,f,g,s⟩ ⟨0,x,y,s⟩:=⟨rfl,rfl,fun h _=>by simp only at h; omega,fun h=>by simp only at h; omega⟩
theorem zAO {t:Tok}:TokSim t t:=⟨rfl,rfl,fun _ _=>rfl,fun _=>rfl⟩
theorem zA6 {b:UInt8} {r:List UInt8} (h:(pointD (b :: r)).2.2 = true):48 ≤ b.toNat ∧ b.toNat ≤ 57:=by
  obtain ⟨a,c,d,e,hd,_⟩:=zAK h
  have hl:=(ko hd).2.1
  cases a with
  | nil=>simp at hl
  | cons x a =>
    simp only [List.cons_append,List.cons.injEq] at e
    obtain ⟨rfl,_⟩:=e
    exact (ko hd).1 _ List.mem_cons_self
theorem zCY {b:UInt8} {r:List UInt8} (h2:2 ≤ (b :: r).length) (h:b.toNat < 48 ∨ 57 < b.toNat):dig ((b :: r).take ((b :: r).length - 1)) = none:=by
  apply dig_bad (x:=b) _ h
  cases r with
  | nil=>simp at h2
  | cons x r=>simp
theorem zBf {b:UInt8} {r:List UInt8} (h:b ≠ 76):lateL (b :: r) = none:=List.findSome?_eq_none_iff.2 fun i _=>by
  unfold lateAt
  rw [show ((b :: r).getD 0 0 == 76) = false by simpa using h]
  rfl
theorem suffix_last {s:List UInt8} (h:s ≠ []):Lib.hasSuffix s [115] = (s.getD (s.length - 1) 0 == 115):=by
  have hl:=List.length_pos_iff.2 h
  obtain ⟨c,hc⟩:=zW (show s.length - 1 < s.length by omega)
  rw [zQ hc]
  unfold Lib.hasSuffix
  have e:=zw hc
  rw [show s.length - 1 + 1 = s.length by omega,List.drop_length] at e
  have e2:s = s.take (s.length - 1) ++ [c]:=by rw [← e,List.take_append_drop]
  rw [Bool.eq_iff_iff,List.isSuffixOf_iff_suffix,beq_iff_eq]
  constructor
  · rintro ⟨t,ht⟩
    rw [e2] at ht
    have:=List.append_inj_right' ht rfl
    simpa using this.symm
  · rintro rfl
    exact ⟨_,e2.symm⟩
theorem point_last {s:List UInt8} (h:(pointD s).2.2 = true):s.getD (s.length - 1) 0 ≠ 115:=by
  obtain ⟨a,c,d,rfl,_,h1,h2,_⟩:=zAK h
  have:(a ++ [46,c]).getD ((a ++ [46,c]).length - 1) 0 = c:=by
    rw [show (a ++ [46,c]).length - 1 = a.length + 1 by simp,List.getD_eq_getElem?_getD,List.getElem?_append_right (by omega)]; simp
  rw [this]
  rintro rfl
  revert h2; decide
theorem tok_eq (s:List UInt8):TokSim (readT s) (refTok s):=by
  unfold readT refTok
  cases q0:s == [] with
  | true =>
    obtain rfl:s = []:=by simpa using q0
    exact kb
  | false =>
    cases q1:s == [33] with
    | true=>exact zAO
    | false =>
      cases q2:s == [63] with
      | true=>exact zAO
      | false =>
        cases q3:namedB s with
        | true=>exact zAO
        | false =>
          simp only [cond_false]
          cases s with
          | nil=>cases q0
          | cons b r =>
            simp only [List.drop_succ_cons,List.drop_zero,List.getD_cons_zero]
            by_cases h36:b = 36
            · subst h36
              rw [show ((36:UInt8) == 36) = true from rfl,show ((36:UInt8) == 64) = false from rfl,zBf (by decide)]
              simp only [cond_true,Bool.and_true,Bool.and_false,Bool.false_and,cond_false]
              cases r with
              | nil=>rw [show withinB (pricedI []) 1 799 = false from rfl]; exact kb
              | cons x r =>
                rw [zCY (by simp) (by decide),show decide (((36 :: x :: r).length:Int) < 2) = false by simp only [decide_eq_false_iff_not,List.length_cons]; omega]
                have h3:(pointD (36 :: x :: r)).2.2 = false:=by
                  cases h:(pointD (36 :: x :: r)).2.2 with
                  | false=>rfl
                  | true=>have:=zA6 h; revert this; decide
                rw [h3,zBU]
                simp only [Option.isSome_none,Bool.false_and,cond_false]
                cases hp:(pointD (x :: r)).2.2 with
                | false=>exact kb
                | true =>
                  simp only [cond_true,Bool.true_and]
                  cases withinB (8 * (pointD (x :: r)).1 + (pointD (x :: r)).2.1) 1 799
                  · exact kb
                  · exact zAO
            · rw [show (b == 36) = false by simpa using h36]
              by_cases h64:b = 64
              · subst h64
                rw [show ((64:UInt8) == 64) = true from rfl,zBf (by decide)]
                simp only [cond_true,Bool.and_true,Bool.and_false,Bool.false_and,cond_false]
                cases r with
                | nil=>exact kb
                | cons x r =>
                  rw [zCY (by simp) (by decide),show decide (((64 :: x :: r).length:Int) < 2) = false by simp only [decide_eq_false_iff_not,List.length_cons]; omega]
                  have h3:(pointD (64 :: x :: r)).2.2 = false:=by
                    cases h:(pointD (64 :: x :: r)).2.2 with
                    | false=>rfl
                    | true=>have:=zA6 h; revert this; decide
                  rw [h3,zAb]
                  simp only [Option.isSome_none,Bool.false_and,cond_false]
                  cases hd:dig (x :: r) with
                  | none=>exact kb
                  | some n =>
                    simp only [Option.isSome_some,Bool.true_and,Option.getD_some]
                    rw [show withinB (n:Int) 0 600 = decide ((n:Int) ≤ 600) by unfold withinB; rw [show decide ((0:Int) ≤ n) = true by simp only [decide_eq_true_eq]; omega]; rfl]
                    cases decide ((n:Int) ≤ 600)
                    · exact kb
                    · exact zAO
              · rw [show (b == 64) = false by simpa using h64]
                by_cases h76:b = 76
                · subst h76
                  rw [show ((76:UInt8) == 76) = true from rfl]
                  simp only [cond_true,Bool.and_false,Bool.false_and,cond_false]
                  cases r with
                  | nil=>exact kb
                  | cons x r =>
                    rw [zCY (by simp) (by decide),show decide (((76 :: x :: r).length:Int) < 2) = false by simp only [decide_eq_false_iff_not,List.length_cons]; omega]
                    have h3:(pointD (76 :: x :: r)).2.2 = false:=by
                      cases h:(pointD (76 :: x :: r)).2.2 with
                      | false=>rfl
                      | true=>have:=zA6 h; revert this; decide
                    rw [h3,late_eq]
                    simp only [Option.isSome_none,Bool.false_and,cond_false]
                    cases hc:((Lib.cut (x :: r) [45]).2.2 && spansB (digI (Lib.cut (x :: r) [45]).1) (digI (Lib.cut (x :: r) [45]).2.1) 0 60) with
                    | false=>exact kb
                    | true =>
                      simp only [Bool.and_eq_true,spansB,decide_eq_true_eq] at hc
                      refine ⟨rfl,rfl,fun _ _=>?_,fun _=>?_⟩
                      · show digI (Lib.cut (x :: r) [45]).1 = ((digI (Lib.cut (x :: r) [45]).1).toNat:Int); omega
                      · show digI (Lib.cut (x :: r) [45]).2.1 = ((digI (Lib.cut (x :: r) [45]).2.1).toNat:Int); omega
                · rw [show (b == 76) = false by simpa using h76,zBf h76,suffix_last (by simp)]
                  simp only [Bool.and_false,Bool.false_and,cond_false]
                  cases r with
                  | nil =>
                    cases hs:((b :: []).getD ((b :: []).length - 1) 0 == 115) with
                    | true=>exact kb
                    | false=>exact kb
                  | cons x r =>
                    rw [show decide (((b :: x :: r).length:Int) < 2) = false by simp only [decide_eq_false_iff_not,List.length_cons]; omega]
                    simp only [cond_false]
                    generalize hS:b :: x :: r = S
                    cases hs:(S.getD (S.length - 1) 0 == 115) with
                    | true =>
                      have h3:(pointD S).2.2 = false:=by
                        cases h:(pointD S).2.2 with
                        | false=>rfl
                        | true=>exact (point_last h (by simpa using hs)).elim
                      rw [h3,zAb]
                      simp only [Bool.and_true,Bool.false_and,cond_true,cond_false]
                      cases hd:dig (S.take (S.length - 1)) with
                      | none=>exact kb
                      | some n =>
                        simp only [Option.isSome_some,Bool.true_and,Option.getD_some]
                        cases withinB (n:Int) 1 99
                        · exact kb
                        · exact zAO
                    | false =>
                      simp only [Bool.and_false,Bool.false_and,cond_false]
                      rw [zBU]
                      cases hp:(pointD S).2.2 with
                      | false=>simp only [cond_false,Bool.false_and,Bool.and_false,show decide ((0:Int) ≤ -1) = false from rfl]; exact kb
                      | true =>
                        obtain ⟨a,c,d,_,_,h1,h2,he⟩:=zAK hp
                        have:decide (0 ≤ 8 * (pointD S).1 + (pointD S).2.1) = true:=by rw [he]; simp only [decide_eq_true_eq]; omega
                        simp only [cond_true,Bool.true_and]
                        rw [this,Bool.and_true]
                        cases (S.length:Int) == 3
                        · exact kb
                        · exact zAO
def splitGo:List UInt8 → List UInt8 → List (List UInt8)
  | [],cur=>[cur]
  | b :: r,cur=>bif b == 32 then cur :: splitGo r [] else splitGo r (cur ++ [b])
def refToks (s:List UInt8):List (List UInt8):=bif s == [] then [] else splitGo s []
theorem zAc {t:List UInt8}:∀ {a cur:List UInt8},(32:UInt8) ∉ a → splitGo (a ++ t) cur = splitGo t (cur ++ a)
  | [],cur,_=>by simp
  | x :: a,cur,h=>by
    have h1:(x == 32) = false:=by
      cases hx:x == 32
      · rfl
      · exact (h (by rw [beq_iff_eq] at hx; subst hx; exact List.mem_cons_self)).elim
    rw [List.cons_append,splitGo,h1,cond_false,zAc fun e=>h (List.mem_cons_of_mem _ e)]
    simp
theorem zCj:∀ (n:Nat) (s:List UInt8),s.length ≤ n → s ≠ [] → toksOf s = (splitGo s []).map readT
  | 0,s,h,hne=>(hne (List.eq_nil_of_length_eq_zero (by omega))).elim
  | n + 1,s,h,hne=>by
    rw [zB0 hne]
    by_cases hm:(32:UInt8) ∈ s
    · obtain ⟨a,b,rfl,hn⟩:=zBR hm
      rw [zAQ hn,zAc hn]
      simp only [Bool.true_and,List.nil_append]
      show _ = (bif (32:UInt8) == 32 then a :: splitGo b [] else splitGo b (a ++ [32])).map readT
      rw [show ((32:UInt8) == 32) = true from rfl,cond_true,List.map_cons]
      cases hb:b == [] with
      | true =>
        obtain rfl:b = []:=by simpa using hb
        rfl
      | false =>
        rw [cond_false,zCj n b (by simp at h; omega) (by rintro rfl; cases hb)]
    · rw [zCJ hm]
      simp only [Bool.false_and,cond_false]
      have:=zAc (t:=[]) (cur:=[]) hm
      rw [List.append_nil] at this
      rw [this]
      rfl
theorem toks_ref (s:List UInt8):toksOf s = (refToks s).map readT:=by
  unfold refToks
  cases hs:s == [] with
  | true =>
    obtain rfl:s = []:=by simpa using hs
    rfl
  | false=>rw [cond_false,zCj s.length s (Nat.le_refl _) (by rintro rfl; cases hs)]
/-- The number of the last stock of a name among the first; -1: none. -/
def nmUpto (b:Brd) (x:List UInt8):Nat → Int
  | 0=>-1
  | k + 1=>bif (b.stocks.getD k ⟨[],0,0⟩).name == x then (k:Nat) else nmUpto b x k
def nmI (b:Brd) (x:List UInt8):Int:=nmUpto b x b.stocks.length
def priceT (t:Tok):Bool:=t.kind == 3 || t.kind == 4
def refE (w:Wrk) (t:Tok) (nm:Int):Int :=
  bif t.kind == 0 then 4 else bif t.kind == 1 && decide (nm < 0) then 5
  else bif priceT t && decide (w.stock < 0) || !(priceT t) && decide (0 < w.number) || t.kind == 5 && decide (t.fst < w.minute) || t.kind == 7 && w.rush || t.kind == 8 && !w.rush then 8
  else bif priceT t && (w.out.length:Int) == 8 then 3 else 0
def refW (b:Brd) (w:Wrk) (t:Tok) (nm:Int):Wrk :=
  bif t.kind == 1 then { w with stock:=nm } else bif t.kind == 2 then numW w t else bif t.kind == 5 then timedW w t else bif t.kind == 6 then lateW w t else bif t.kind == 7 || t.kind == 8 then rushW w (t.kind == 7)
  else { w with number:=0,out:=w.out ++ [saleP w b t] }
def refGo (b:Brd):List (List UInt8) → Wrk → Int × Wrk
  | [],w=>(0,w)
  | x :: r,w=>bif refE w (refTok x) (nmI b x) != 0 then (refE w (refTok x) (nmI b x),w) else refGo b r (refW b w (refTok x) (nmI b x))
def refReadI (b:Brd) (s:List UInt8):List Prt × Int:=bif decide (160 < (s.length:Int)) then ([],3) else
  bif (refGo b (refToks s) wrk0).1 != 0 then ([],(refGo b (refToks s) wrk0).1) else bif decide (0 < (refGo b (refToks s) wrk0).2.number) then ([],8) else ((refGo b (refToks s) wrk0).2.out,0)
theorem nm_idx {b:Brd} (v:BrdOK b) (x:List UInt8):nmI b x = idxOf (fun s:Stk=>s.name == x) b.stocks:=by
  have huniq:∀ (i j:Nat) (s t:Stk),b.stocks[i]? = some s → b.stocks[j]? = some t → s.name = t.name → i = j:=by
    intro i j s t hi hj he
    have h1:=List.all_eq_true.1 v.al s (List.mem_of_getElem? hi)
    simp only [stockB,Bool.and_eq_true,beq_iff_eq] at h1
    have hcount:b.stocks.countP (eqN s) = 1:=by have:=h1.1.1; omega
    rcases Nat.lt_trichotomy i j with h | h | h
    · exfalso
      have e1:(b.stocks.take (i + 1)).countP (eqN s) = (b.stocks.take i).countP (eqN s) + 1:=by rw [yx hi,if_pos (by simp [eqN])]
      have e2:(b.stocks.take (j + 1)).countP (eqN s) = (b.stocks.take j).countP (eqN s) + 1:=by rw [yx hj,if_pos (by simp [eqN,he])]
      have e3:(b.stocks.take (i + 1)).countP (eqN s) ≤ (b.stocks.take j).countP (eqN s):=by
        rw [show b.stocks.take (i + 1) = (b.stocks.take j).take (i + 1) by rw [List.take_take,Nat.min_eq_left (by omega)]]
        exact (List.take_sublist _ _).countP_le
      have e4:(b.stocks.take (j + 1)).countP (eqN s) ≤ b.stocks.countP (eqN s):=(List.take_sublist _ _).countP_le
      omega
    · exact h
    · exfalso
      have e1:(b.stocks.take (i + 1)).countP (eqN s) = (b.stocks.take i).countP (eqN s) + 1:=by rw [yx hi,if_pos (by simp [eqN])]
      have e2:(b.stocks.take (j + 1)).countP (eqN s) = (b.stocks.take j).countP (eqN s) + 1:=by rw [yx hj,if_pos (by simp [eqN,he])]
      have e3:(b.stocks.take (j + 1)).countP (eqN s) ≤ (b.stocks.take i).countP (eqN s):=by
        rw [show b.stocks.take (j + 1) = (b.stocks.take i).take (j + 1) by rw [List.take_take,Nat.min_eq_left (by omega)]]
        exact (List.take_sublist _ _).countP_le
      have e4:(b.stocks.take (i + 1)).countP (eqN s) ≤ b.stocks.countP (eqN s):=(List.take_sublist _ _).countP_le
      omega
  have key:∀ k,k ≤ b.stocks.length → (nmUpto b x k = -1 ∧ ∀ j,j < k → ∀ s:Stk,b.stocks[j]? = some s → (s.name == x) = false) ∨ ∃ (i:Nat) (s:Stk),nmUpto b x k = i ∧ b.stocks[i]? = some s ∧ (s.name == x) = true:=by
    intro k
    induction k with
    | zero=>exact fun _=>.inl ⟨rfl,fun j hj=>by omega⟩
    | succ k ih =>
      intro hk
      obtain ⟨s,hs⟩:=zW (show k < b.stocks.length by omega)
      unfold nmUpto
      rw [zQ hs]
      cases hb:s.name == x
      · simp only [cond_false]
        rcases ih (by omega) with ⟨h1,h2⟩ | h
        · refine .inl ⟨h1,fun j hj t ht=>?_⟩
          by_cases e:j = k
          · subst e; rw [hs] at ht; cases ht; exact hb
          · exact h2 j (by omega) t ht
        · exact .inr h
      · exact .inr ⟨k,s,rfl,hs,hb⟩
  unfold nmI
  rcases key _ (Nat.le_refl _) with ⟨h1,h2⟩ | ⟨i,s,h1,h2,h3⟩
  · rw [h1,kD]
    rw [List.all_eq_true]
    intro s hs
    obtain ⟨j,hj⟩:=List.getElem?_of_mem hs
    simp [h2 j (List.getElem?_eq_some_iff.1 hj).1 s hj]
  · rw [h1,kV h2 ?_ h3]
    rw [List.all_eq_true]
    intro t ht
    obtain ⟨j,hj⟩:=List.getElem?_of_mem ht
    rw [List.getElem?_take] at hj
    split at hj
    · cases hb:t.name == x
      · rfl
      · have:=huniq j i t s hj h2 (by rw [beq_iff_eq] at hb h3; rw [hb,h3])
        omega
    · cases hj
theorem step_eq {b:Brd} (v:BrdOK b) {w:Wrk} {x:List UInt8} (h8:w.out.length ≤ 8):refE w (refTok x) (nmI b x) = actE b w (readT x) ∧ ((actE b w (readT x) != 0) = false → refW b w (refTok x) (nmI b x) = actW b w (readT x)):=by
  have hsim:=tok_eq x
  obtain ⟨k,hk,hk8⟩:=zA9 x
  have htext:(readT x).text = x:=by
    unfold readT
    cases x == [] <;> cases x == [33] <;> cases x == [63] <;> cases namedB x <;> cases x.getD 0 0 == 36 <;> cases x.getD 0 0 == 64 <;> cases x.getD 0 0 == 76 <;> cases Lib.hasSuffix x [115] <;> rfl
  rw [nm_idx v]
  generalize readT x = t at *
  generalize refTok x = t' at *
  obtain ⟨kd,f,g,tx⟩:=t
  obtain ⟨kd',f',g',tx'⟩:=t'
  obtain ⟨e1,e2,e3,e4⟩:=hsim
  dsimp only at e1 e2 e3 e4 hk htext
  subst e1; subst htext; subst hk
  have hal:∀ c:Bool,(bif c || decide (0 < w.number) then (8:Int) else 0) = aloneE w c:=fun c=>rfl
  have h3:∀ kd:Int,(bif decide (w.stock < 0) then (8:Int) else bif ((w.out.length:Int) == 8) then 3 else 0) = saleE w:=fun _=>rfl
  match k,hk8 with
  | 0,_=>exact ⟨rfl,fun h=>by cases h⟩
  | 1,_ =>
    show (bif decide (idxOf (fun s:Stk=>s.name == tx) b.stocks < 0) then (5:Int) else bif (false || (decide (0 < w.number)) || false || false || false) then 8 else 0) = namedE w b ⟨1,f,g,tx⟩ ∧ ((namedE w b ⟨1,f,g,tx⟩ != 0) = false → { w with stock:=idxOf (fun s:Stk=>s.name == tx) b.stocks } = namedW w b ⟨1,f,g,tx⟩)
    unfold namedE namedW nameI
    cases decide (idxOf (fun s:Stk=>s.name == tx) b.stocks < 0)
    · refine ⟨?_,fun _=>rfl⟩
      show (bif (false || decide (0 < w.number) || false || false || false) then (8:Int) else 0) = aloneE w false
      unfold aloneE; cases decide (0 < w.number) <;> rfl
    · exact ⟨rfl,fun h=>by cases h⟩
  | 2,_ =>
    refine ⟨?_,fun _=>?_⟩
    · show (bif (false || decide (0 < w.number) || false || false || false) then (8:Int) else 0) = aloneE w false
      unfold aloneE; cases decide (0 < w.number) <;> rfl
    · show numW w _ = numW w _
      unfold numW; rw [e3 (by simp) (by simp)]
  | 3,_ =>
    refine ⟨?_,fun h=>?_⟩
    · show (bif (decide (w.stock < 0) || false || false || false || false) then (8:Int) else bif ((w.out.length:Int) == 8) then 3 else 0) = saleE w
      unfold saleE; cases decide (w.stock < 0) <;> rfl
    · show ({ w with number:=0,out:=w.out ++ [saleP w b ⟨3,f',g',tx'⟩] }:Wrk) = saleW w b ⟨3,f,g,tx⟩
      have h:(saleE w != 0) = false:=h
      unfold saleE at h
      unfold saleW
      cases h1:decide (w.stock < 0) <;> rw [h1] at h
      · cases h2:((w.out.length:Int) == 8) <;> rw [h2] at h
        · simp only [cond_false]
          unfold saleP
          rw [e3 (by simp) (by simp)]
        · cases h
      · cases h
  | 4,_ =>
    refine ⟨?_,fun h=>?_⟩
    · show (bif (decide (w.stock < 0) || false || false || false || false) then (8:Int) else bif ((w.out.length:Int) == 8) then 3 else 0) = saleE w
      unfold saleE; cases decide (w.stock < 0) <;> rfl
    · show ({ w with number:=0,out:=w.out ++ [saleP w b ⟨4,f',g',tx'⟩] }:Wrk) = saleW w b ⟨4,f,g,tx⟩
      have h:(saleE w != 0) = false:=h
      unfold saleE at h
      unfold saleW
      cases h1:decide (w.stock < 0) <;> rw [h1] at h
      · cases h2:((w.out.length:Int) == 8) <;> rw [h2] at h
        · simp only [cond_false]
          unfold saleP
          rw [e3 (by simp) (by simp)]
        · cases h
      · cases h
  | 5,_ =>
    have e3:=e3 (by simp) (by simp)
    subst e3
    refine ⟨?_,fun _=>rfl⟩
    show (bif (false || decide (0 < w.number) || decide (f < w.minute) || false || false) then (8:Int) else 0) = aloneE w (decide (f < w.minute))
    unfold aloneE
    cases decide (f < w.minute) <;> cases decide (0 < w.number) <;> rfl
  | 6,_ =>
    refine ⟨?_,fun _=>?_⟩
    · show (bif (false || decide (0 < w.number) || false || false || false) then (8:Int) else 0) = aloneE w false
      unfold aloneE; cases decide (0 < w.number) <;> rfl
    · show lateW w _ = lateW w _
      unfold lateW; rw [e3 (by simp) (by simp),e4 rfl]
  | 7,_ =>
    refine ⟨?_,fun _=>rfl⟩
    show (bif (false || decide (0 < w.number) || false || w.rush || false) then (8:Int) else 0) = aloneE w w.rush
    unfold aloneE
    cases w.rush <;> cases decide (0 < w.number) <;> rfl
  | 8,_ =>
    refine ⟨?_,fun _=>rfl⟩
    show (bif (false || decide (0 < w.number) || false || false || !w.rush) then (8:Int) else 0) = aloneE w (!w.rush)
    unfold aloneE
    cases w.rush <;> cases decide (0 < w.number) <;> rfl
theorem zFr {b:Brd} (v:BrdOK b):∀ (l:List (List UInt8)) (w:Wrk),w.out.length ≤ 8 → refGo b l w = actsGo b (l.map readT) w
  | [],_,_=>rfl
  | x :: l,w,h=>by
    obtain ⟨e1,e2⟩:=step_eq (x:=x) v h
    rw [refGo,List.map_cons,actsGo,e1]
    cases he:(actE b w (readT x) != 0)
    · rw [cond_false,cond_false,e2 he,zFr v l _ (zEN h)]
    · rfl
theorem zCF {b:Brd} (h:checkT b = 0) (s:List UInt8):refReadI b s = readI b s:=by
  unfold refReadI readI
  rw [h,zFr (zBX h) _ _ (by decide),toks_ref]
  rfl
end Go.Proofs.YticlpkgpmmhemaaGreatDoor
