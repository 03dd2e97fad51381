/-
  A part of the proof that contangolaw.OddBounds returns true: what the last text needs, and no more. No condition: no statement of the seat is proved here.
-/
import Derived.Laws.StructEq
import Derived.Test.YticlpkgpmmhemaaGreatDoorOddBoundsN
namespace Go.Proofs.YticlpkgpmmhemaaGreatDoor
open Go.RowKit
set_option linter.all false
/-- Prices of the stock's sales before i, that pass the tests. -/
def PreT (b:Brd) (l:List Prt) (T:Nat → Nat → Bool) (k:Int) (i:Nat) (f:Nat → Int):Prop:=PreF b l 0 k i f ∧ ∀ j,j < i → (l.getD j prt0).stock = k → T j (f j).toNat = true
theorem PreT.mono {b:Brd} {l:List Prt} {T:Nat → Nat → Bool} {k:Int} {i j:Nat} {f:Nat → Int} (h:PreT b l T k i f) (hj:j ≤ i):PreT b l T k j f:=⟨h.1.mono hj,fun a ha hs=>h.2 a (by omega) hs⟩
theorem fits0 {s:Prt} {i:Nat} {x:Int}:refFits s i x 0 = (withinB x 1 799 && fitsO s x):=by
  unfold refFits fitsO
  rw [Nat.zero_testBit]
  cases s.full <;> simp
theorem zCX {s:Prt} {t:Nat → Bool} {m p:Nat} (hp:p < 800):(kepN s t m).testBit p = (m.testBit p && fitsO s (p:Nat) && t p):=by
  unfold kepN
  rw [yH,decide_eq_true hp,Bool.true_and]
theorem zD7 (s:Prt) (t:Nat → Bool) (m:Nat):Can (kepN s t m):=zA6 _
def FwdT (b:Brd) (l:List Prt) (T:Nat → Nat → Bool) (k:Int) (st:Stk) (i:Nat) (p:Nat):Prop:=∃ f:Nat → Int,PreT b l T k i f ∧ ((aheadGo l k i < 0 ∧ st.lo ≤ (p:Int) ∧ (p:Int) ≤ st.hi) ∨ ∃ a:Nat,aheadGo l k i = (a:Nat) ∧ f a = (p:Nat))
structure ChI (b:Brd) (l:List Prt) (T:Nat → Nat → Bool) (k:Int) (st:Stk) (i now:Nat) (ms:List Nat):Prop where
  len:ms.length = l.length
  nw:∀ p,p < 800 → (now.testBit p = true ↔ FwdT b l T k st i p)
  can:Can now
  cans:∀ m ∈ ms,Can m
  lv:∀ j,j < i → (l.getD j prt0).stock = k → ∀ p,p < 800 → ((ms.getD j 0).testBit p = true ↔ ∃ f,PreT b l T k (j + 1) f ∧ f j = (p:Nat))
theorem zHP {b : Brd} {l : List Prt} {T : Nat → Nat → Bool} {st : Stk} {k i J : Nat} {p : Nat} {s : Prt} {now : Nat} (hJ : b.jump = (J : Nat)) (hst : b.stocks[k]? = some st) (hso : 1 ≤ st.lo ∧ st.lo ≤ st.hi ∧ st.hi ≤ 799) (hs : l[i]? = some s) (hk : s.stock = (k : Int)) (hp : p < 800)
    (hn:∀ p,p < 800 → (now.testBit p = true ↔ FwdT b l T (k:Int) st i p)):(kepN s (T i) (nearN now J)).testBit p = true ↔ ∃ f,PreT b l T (k:Int) (i + 1) f ∧ f i = (p:Nat):=by
  rw [zCX hp,Bool.and_eq_true_iff,Bool.and_eq_true_iff,kT]
  have hg:l.getD i prt0 = s:=zP hs
  have hai:aheadI l i = aheadGo l (k:Int) i:=by unfold aheadI; rw [hg,hk]
  have hbs:b.stocks.getD (l.getD i prt0).stock.toNat stk0 = st:=by rw [hg,hk,Int.toNat_natCast]; exact zP hst
  have hst2:(l.getD i prt0).stock = (k:Int):=by rw [hg]; exact hk
  constructor
  · rintro ⟨⟨⟨h1,_,p',hp',hb,hn1,hn2⟩,hf⟩,hT⟩
    obtain ⟨f,hpre,hc⟩:=(hn p' hp').1 hb
    have hfit:refFits s i (p:Nat) 0 = true:=by rw [fits0,hf,Bool.and_true]; exact zm.2 ⟨by omega,by omega⟩
    refine ⟨fun j=>if j = i then (p:Nat) else f j,⟨fun j hj hjs=>?_,fun j hj hjs=>?_⟩,if_pos rfl⟩
    · by_cases e:j = i
      · subst e
        rcases hc with ⟨h2,h3,h4⟩ | ⟨a,ha,hfa⟩
        · refine (zAL (by omega) hbs).2 ?_
          rw [if_pos rfl,hg]
          exact ⟨hfit,by omega,by omega⟩
        · have hlt:=yo (l:=l) (st:=(k:Int)) (i:=j)
          refine (y3 (k:=a) (by omega)).2 ?_
          rw [if_pos rfl,if_neg (by omega),hfa,hg]
          exact ⟨hfit,by omega,by omega⟩
      · refine (hpre.1 j (by omega) hjs).congr (by (try dsimp only); rw [if_neg e]) fun a ha=>?_
        have ha':aheadGo l (l.getD j prt0).stock j = (a:Nat):=ha
        have hlt:=yo (l:=l) (st:=(l.getD j prt0).stock) (i:=j)
        rw [if_neg (by omega)]
    · by_cases e:j = i
      · subst e; dsimp only; rw [if_pos rfl,Int.toNat_natCast]; exact hT
      · dsimp only; rw [if_neg e]; exact hpre.2 j (by omega) hjs
  · rintro ⟨f,hpre,hfi⟩
    have h0:=hpre.1 i (by omega) hst2
    have hb0:=h0.bd
    rw [hfi] at hb0
    have hfit:=h0.1
    rw [hg,hfi,fits0,Bool.and_eq_true_iff] at hfit
    have hT:=hpre.2 i (by omega) hst2
    rw [hfi,Int.toNat_natCast] at hT
    refine ⟨⟨⟨by omega,by omega,?_⟩,hfit.2⟩,hT⟩
    by_cases ha:aheadGo l (k:Int) i < 0
    · have h1:=(zAL (by omega) hbs).1 h0
      rw [hfi] at h1
      refine ⟨(max st.lo (min st.hi (p:Int))).toNat,by omega,?_,by omega,by omega⟩
      exact (hn _ (by omega)).2 ⟨f,hpre.mono (by omega),.inl ⟨ha,by omega,by omega⟩⟩
    · obtain ⟨a,haa,hai2⟩:=kq (l:=l) (st:=(k:Int)) (i:=i) (by omega)
      have h1:=(y3 (k:=a) (by omega)).1 h0
      obtain ⟨_,a2,_⟩:=yA.1 haa
      have hba:=(hpre.1 a (by omega) a2).bd
      obtain ⟨q,hq⟩:∃ q:Nat,f a = (q:Nat):=⟨(f a).toNat,by omega⟩
      rw [hfi,hq] at h1
      rw [hq] at hba
      exact ⟨q,by omega,(hn q (by omega)).2 ⟨f,hpre.mono (by omega),.inr ⟨a,haa,hq⟩⟩,by omega,by omega⟩
theorem ChI.step {b : Brd} {l : List Prt} {T : Nat → Nat → Bool} {st : Stk} {k i J : Nat} {s : Prt} {now : Nat} {ms : List Nat} (hJ : b.jump = (J : Nat)) (hst : b.stocks[k]? = some st) (hso : 1 ≤ st.lo ∧ st.lo ≤ st.hi ∧ st.hi ≤ 799) (hs : l[i]? = some s) (hk : s.stock = (k : Int))
    (h:ChI b l T (k:Int) st i now ms):ChI b l T (k:Int) st (i + 1) (kepN s (T i) (nearN now J)) (ms.set i (kepN s (T i) (nearN now J))):=by
  have hil:=(List.getElem?_eq_some_iff.1 hs).1
  have hst2:(l.getD i prt0).stock = (k:Int):=by rw [zP hs]; exact hk
  have h1:=fun p (hp:p < 800)=>zHP (p:=p) hJ hst hso hs hk hp h.nw
  refine ⟨by rw [List.length_set]; exact h.len,fun p hp=>(h1 p hp).trans ?_,zD7 _ _ _,zBo h.cans (zD7 _ _ _),fun j hj hjs p hp=>?_⟩
  · unfold FwdT
    rw [k8 hst2]
    constructor
    · rintro ⟨f,hf,hfi⟩
      exact ⟨f,hf,.inr ⟨i,rfl,hfi⟩⟩
    · rintro ⟨f,hf,h2 | ⟨a,ha,hfa⟩⟩
      · omega
      · obtain rfl:i = a:=by omega
        exact ⟨f,hf,hfa⟩
  · rw [ym (by rw [h.len]; exact hil)]
    by_cases e:i = j
    · subst e; rw [if_pos rfl]; exact h1 p hp
    · rw [if_neg e]; exact h.lv j (by omega) hjs p hp
theorem PreT.skip {b:Brd} {l:List Prt} {T:Nat → Nat → Bool} {k:Int} {i:Nat} {f:Nat → Int} (hne:(l.getD i prt0).stock ≠ k) (h:PreT b l T k i f):PreT b l T k (i + 1) f:=by
  have hj:∀ j,j < i + 1 → (l.getD j prt0).stock = k → j < i:=fun j hj hjs=>by
    rcases Nat.lt_or_ge j i with h1 | h1
    · exact h1
    · obtain rfl:j = i:=by omega
      exact (hne hjs).elim
  exact ⟨fun j h1 h2=>h.1 j (hj j h1 h2) h2,fun j h1 h2=>h.2 j (hj j h1 h2) h2⟩
theorem ChI.skip {b:Brd} {l:List Prt} {T:Nat → Nat → Bool} {st:Stk} {k:Int} {i:Nat} {s:Prt} {now:Nat} {ms:List Nat} (hs:l[i]? = some s) (hk:s.stock ≠ k) (h:ChI b l T k st i now ms):ChI b l T k st (i + 1) now ms:=by
  have hne:(l.getD i prt0).stock ≠ k:=by rw [zP hs]; exact hk
  refine ⟨h.len,fun p hp=>(h.nw p hp).trans ?_,h.can,h.cans,fun j hj hjs p hp=>h.lv j ?_ hjs p hp⟩
  · unfold FwdT
    rw [zAY hne]
    constructor
    · rintro ⟨f,hf,hc⟩
      exact ⟨f,hf.skip hne,hc⟩
    · rintro ⟨f,hf,hc⟩
      exact ⟨f,hf.mono (by omega),hc⟩
  · rcases Nat.lt_or_ge j i with h1 | h1
    · exact h1
    · obtain rfl:j = i:=by omega
      exact (hne hjs).elim
theorem zFz {b : Brd} {l : List Prt} {T : Nat → Nat → Bool} {st : Stk} {k J : Nat} (hJ : b.jump = (J : Nat)) (hst : b.stocks[k]? = some st) (hso : 1 ≤ st.lo ∧ st.lo ≤ st.hi ∧ st.hi ≤ 799) : ∀ (n i now : Nat) (ms : List Nat), i + n = l.length → now ≠ 0 → ChI b l T (k : Int) st i now ms →
    match chnGo T J (k:Int) i (l.drop i) now ms with
    | some r=>∃ now2,now2 ≠ 0 ∧ ChI b l T (k:Int) st l.length now2 r
    | none=>¬ ∃ f,PreT b l T (k:Int) l.length f
  | 0,i,now,ms,h,h0,hI=>by
    obtain rfl:i = l.length:=by omega
    rw [List.drop_length]; exact ⟨now,h0,hI⟩
  | n + 1,i,now,ms,h,h0,hI=>by
    obtain ⟨s,hs⟩:=zT (show i < l.length by omega)
    rw [zk hs,chnGo]
    cases hk:s.stock == (k:Int)
    · exact zFz hJ hst hso n (i + 1) now ms (by omega) h0 (hI.skip hs (by simpa using hk))
    · have hk':s.stock = (k:Int):=by simpa using hk
      cases hz:kepN s (T i) (nearN now J) == 0
      · exact zFz hJ hst hso n (i + 1) _ _ (by omega) (by simpa using hz) (hI.step hJ hst hso hs hk')
      · rw [cond_true,cond_true]
        rintro ⟨f,hf⟩
        have hst2:(l.getD i prt0).stock = (k:Int):=by rw [zP hs]; exact hk'
        have hbd:=(hf.1 i (by omega) hst2).bd
        have h1:=(zHP (p:=(f i).toNat) hJ hst hso hs hk' (by omega) hI.nw).2 ⟨f,hf.mono (by omega),by omega⟩
        rw [show kepN s (T i) (nearN now J) = 0 by simpa using hz,Nat.zero_testBit] at h1
        cases h1
theorem ch_start {b:Brd} {l:List Prt} {T:Nat → Nat → Bool} {st:Stk} {k:Int}:ChI b l T k st 0 (startN st) (List.replicate l.length 0):=by
  refine ⟨by simp,fun p hp=>?_,zCA _,fun m hm=>by rw [(List.mem_replicate.1 hm).2]; exact zAM,fun j hj=>by omega⟩
  unfold startN FwdT
  rw [yH,decide_eq_true hp,Bool.true_and,zm]
  constructor
  · intro h
    exact ⟨fun _=>0,⟨fun j hj=>by omega,fun j hj=>by omega⟩,.inl ⟨by unfold aheadGo; omega,h.1,h.2⟩⟩
  · rintro ⟨f,hf,h | ⟨a,ha,_⟩⟩
    · exact ⟨h.2.1,h.2.2⟩
    · unfold aheadGo at ha; omega
/-- From the front: what is so behind a chain that goes through. -/
theorem ch_is {b : Brd} {l : List Prt} {T : Nat → Nat → Bool} {st : Stk} {k J : Nat} (hJ : b.jump = (J : Nat)) (hst : b.stocks[k]? = some st) (hso : 1 ≤ st.lo ∧ st.lo ≤ st.hi ∧ st.hi ≤ 799) :
    match chnGo T J (k:Int) 0 l (startN st) (List.replicate l.length 0) with
    | some r=>∃ now2,now2 ≠ 0 ∧ ChI b l T (k:Int) st l.length now2 r
    | none=>¬ ∃ f,PreT b l T (k:Int) l.length f:=by
  have hn:startN st ≠ 0:=fun e=>by
    have h1:(startN st).testBit st.lo.toNat = true:=by
      unfold startN
      rw [yH,decide_eq_true (by omega),Bool.true_and,zm]
      omega
    rw [e,Nat.zero_testBit] at h1
    cases h1
  have h:=zFz (T:=T) hJ hst hso l.length 0 (startN st) (List.replicate l.length 0) (by omega) hn ch_start
  rw [List.drop_zero] at h
  exact h
/-- If the chain goes through, there is a truth. -/
theorem ch_ex {b:Brd} {l:List Prt} {T:Nat → Nat → Bool} {st:Stk} {k:Int} {now:Nat} {ms:List Nat} (hz:now ≠ 0) (h:ChI b l T k st l.length now ms):∃ f,PreT b l T k l.length f:=by
  obtain ⟨p,hp⟩:∃ p,p < 800 ∧ now.testBit p = true:=Classical.byContradiction fun hne=>hz (zFj h.can zAM fun p hp=>by
    rw [Nat.zero_testBit]
    cases hb:now.testBit p
    · rfl
    · exact (hne ⟨p,hp,hb⟩).elim)
  obtain ⟨f,hf,_⟩:=(h.nw p hp.1).1 hp.2
  exact ⟨f,hf⟩
/-- In a truth that is meant, the sale w, if there is one, from j on, costs x. -/
def AtW (w:Int) (x:Nat) (f:Nat → Int) (j:Nat):Prop:=(j:Int) ≤ w → f w.toNat = (x:Nat)
def WOK (l:List Prt) (k w:Int):Prop:=w < 0 ∨ (w < l.length ∧ (l.getD w.toNat prt0).stock = k)
/-- What the later sales leave: `lat` is what the next one can be, in whole truths. -/
structure BkI (b:Brd) (l:List Prt) (T:Nat → Nat → Bool) (k w:Int) (x:Nat) (i:Nat) (lat:Option Nat) (ms:List Nat):Prop where
  len:ms.length = l.length
  cans:∀ m ∈ ms,Can m
  no:lat = none → ∀ j,i ≤ j → j < l.length → (l.getD j prt0).stock ≠ k
  yes:∀ q,lat = some q → ∃ c:Nat,i ≤ c ∧ c < l.length ∧ (l.getD c prt0).stock = k ∧ (∀ j,i ≤ j → j < c → (l.getD j prt0).stock ≠ k) ∧ ∀ p,p < 800 → (q.testBit p = true ↔ ∃ f,PreT b l T k l.length f ∧ AtW w x f c ∧ f c = (p:Nat))
  lo:∀ j,j < i → (l.getD j prt0).stock = k → ∀ p,p < 800 → ((ms.getD j 0).testBit p = true ↔ (∃ f,PreT b l T k (j + 1) f ∧ f j = (p:Nat)) ∧ ((j:Int) = w → p = x))
  hi:∀ j,i ≤ j → j < l.length → (l.getD j prt0).stock = k → ∀ p,p < 800 → ((ms.getD j 0).testBit p = true ↔ ∃ f,PreT b l T k l.length f ∧ AtW w x f j ∧ f j = (p:Nat))
theorem bk_start {b:Brd} {l:List Prt} {T:Nat → Nat → Bool} {st:Stk} {k:Int} {ms:List Nat} {now:Nat} {w:Int} {x:Nat} (hw:w < 0) (h:ChI b l T k st l.length now ms):BkI b l T k w x l.length none ms :=
  ⟨h.len,h.cans,fun _ j h1 h2=>by omega,fun q hq=>(by cases hq),fun j h1 h2 p hp=>(h.lv j h1 h2 p hp).trans ⟨fun h=>⟨h,fun e=>by omega⟩,fun h=>h.1⟩,fun j h1 h2=>by omega⟩
theorem bk_start1 {b:Brd} {l:List Prt} {T:Nat → Nat → Bool} {st:Stk} {k:Int} {ms:List Nat} {now i x:Nat} (hx:x < 800) (hi:i < l.length) (hc:(ms.getD i 0).testBit x = true) (hk:(l.getD i prt0).stock = k) (h:ChI b l T k st l.length now ms):BkI b l T k (i:Nat) x l.length none (ms.set i (putB 0 x true)):=by
  refine ⟨by rw [List.length_set]; exact h.len,zBo h.cans (zEY zAM hx),fun _ j h1 h2=>by omega,fun q hq=>(by cases hq),fun j h1 h2 p hp=>?_,fun j h1 h2=>by omega⟩
  rw [ym (by rw [h.len]; exact hi)]
  by_cases e:i = j
  · subst e
    rw [if_pos rfl,yv]
    by_cases e:p = x
    · subst e
      rw [if_pos rfl]
      exact ⟨fun _=>⟨(h.lv i h1 h2 p hp).1 hc,fun _=>rfl⟩,fun _=>rfl⟩
    · rw [if_neg e,Nat.zero_testBit]
      exact ⟨fun h=>(by cases h),fun h=>(e (h.2 rfl)).elim⟩
  · rw [if_neg e]
    exact (h.lv j h1 h2 p hp).trans ⟨fun h=>⟨h,fun e2=>(e (by omega)).elim⟩,fun h=>h.1⟩
theorem bk_skip {b:Brd} {l:List Prt} {T:Nat → Nat → Bool} {k:Int} {ms:List Nat} {lat:Option Nat} {i:Nat} {w:Int} {x:Nat} (hk:(l.getD i prt0).stock ≠ k) (h:BkI b l T k w x (i + 1) lat ms):BkI b l T k w x i lat ms:=by
  have hj:∀ j,i ≤ j → (l.getD j prt0).stock = k → i + 1 ≤ j:=fun j hj hs=>by
    rcases Nat.lt_or_ge i j with h1 | h1
    · omega
    · obtain rfl:j = i:=by omega
      exact (hk hs).elim
  refine ⟨h.len,h.cans,fun hl j h1 h2 hs=>h.no hl j (hj j h1 hs) h2 hs,fun q hq=>?_,fun j h1=>h.lo j (by omega),fun j h1 h2 hs=>h.hi j (hj j h1 hs) h2 hs⟩
  obtain ⟨c,c1,c2,c3,c4,c5⟩:=h.yes q hq
  exact ⟨c,by omega,c2,c3,fun j h1 h2 hs=>c4 j (hj j h1 hs) h2 hs,c5⟩
theorem zG9 {b : Brd} {l : List Prt} {T : Nat → Nat → Bool} {k : Int} {ms : List Nat} {lat : Option Nat} {i J : Nat} {s : Prt} {w : Int} {x : Nat} (hw : WOK l k w) (hJ : b.jump = (J : Nat)) (hs : l[i]? = some s) (hk : s.stock = k) (h : BkI b l T k w x (i + 1) lat ms) {p : Nat} (hp : p < 800) :
    (bckM s J (ms.getD i 0) lat).testBit p = true ↔ ∃ f,PreT b l T k l.length f ∧ AtW w x f i ∧ f i = (p:Nat):=by
  have hil:=(List.getElem?_eq_some_iff.1 hs).1
  have hg:l.getD i prt0 = s:=zP hs
  have hst2:(l.getD i prt0).stock = k:=by rw [hg]; exact hk
  have h1:=h.lo i (by omega) hst2 p hp
  cases lat with
  | none =>
    rw [bckM,h1]
    have hno:=h.no rfl
    have hj:∀ j,j < l.length → (l.getD j prt0).stock = k → j < i + 1:=fun j hj hs=>by
      rcases Nat.lt_or_ge j (i + 1) with h2 | h2
      · exact h2
      · exact (hno j h2 hj hs).elim
    constructor
    · rintro ⟨⟨f,hf,hfi⟩,hx⟩
      refine ⟨f,⟨fun j h2 h3=>hf.1 j (hj j h2 h3) h3,fun j h2 h3=>hf.2 j (hj j h2 h3) h3⟩,fun h2=>?_,hfi⟩
      rcases hw with hw | ⟨hw1,hw2⟩
      · omega
      · have:=hj w.toNat (by omega) hw2
        rw [← hx (by omega),← hfi]
        congr 1; omega
    · rintro ⟨f,hf,hE,hfi⟩
      refine ⟨⟨f,hf.mono (by omega),hfi⟩,fun e=>?_⟩
      have h2:=hE (by omega)
      rw [show w.toNat = i by omega,hfi] at h2
      omega
  | some q =>
    obtain ⟨c,c1,c2,c3,c4,c5⟩:=h.yes q rfl
    have hac:aheadI l c = (i:Nat):=yA.2 ⟨by omega,hst2.trans c3.symm,fun j h2 h3 hs=>c4 j (by omega) h3 (hs.trans c3)⟩
    rw [bckM,zCX hp,Bool.and_eq_true_iff,Bool.and_eq_true_iff,h1,kT]
    constructor
    · rintro ⟨⟨⟨⟨g,hg2,hgi⟩,hgx⟩,_⟩,h2,_,y,hy,hb,hn1,hn2⟩
      obtain ⟨f,hf,hfE,hfc⟩:=(c5 y hy).1 hb
      refine ⟨fun j=>if j ≤ i then g j else f j,⟨fun j hj hjs=>?_,fun j hj hjs=>?_⟩,fun hiw=>?_,(if_pos (Nat.le_refl _)).trans hgi⟩
      · rcases Nat.lt_or_ge i j with h3 | h3
        · by_cases e:j = c
          · subst e
            refine (y3 hac).2 ?_
            rw [if_neg (by omega),if_pos (Nat.le_refl _),hgi,hfc]
            have h4:=(hf.1 j hj hjs).1
            rw [hfc] at h4
            exact ⟨h4,by omega,by omega⟩
          · have hcj : c < j := by
              rcases Nat.lt_or_ge c j with h4 | h4
              · exact h4
              · exact (c4 j (by omega) (by omega) hjs).elim
            refine (hf.1 j hj hjs).congr (by (try dsimp only); rw [if_neg (by omega)]) fun a ha=>?_
            have ha':aheadGo l (l.getD j prt0).stock j = (a:Nat):=ha
            obtain ⟨a1,a2,a3⟩:=yA.1 ha'
            have:c ≤ a:=by
              rcases Nat.lt_or_ge a c with h4 | h4
              · exact (a3 c h4 hcj (c3.trans hjs.symm)).elim
              · exact h4
            rw [if_neg (by omega)]
        · refine (hg2.1 j (by omega) hjs).congr (by (try dsimp only); rw [if_pos h3]) fun a ha=>?_
          have ha':aheadGo l (l.getD j prt0).stock j = (a:Nat):=ha
          have hlt:=yo (l:=l) (st:=(l.getD j prt0).stock) (i:=j)
          rw [if_pos (by omega)]
      · (try dsimp only)
        by_cases h3:j ≤ i
        · rw [if_pos h3]; exact hg2.2 j (by omega) hjs
        · rw [if_neg h3]; exact hf.2 j hj hjs
      · (try dsimp only)
        rcases hw with hw | ⟨hw1,hw2⟩
        · omega
        · by_cases h3:w.toNat ≤ i
          · rw [if_pos h3,← hgx (by omega),← hgi]
            congr 1; omega
          · rw [if_neg h3]
            refine hfE ?_
            rcases Nat.lt_or_ge w.toNat c with h4 | h4
            · exact (c4 w.toNat (by omega) h4 hw2).elim
            · omega
    · rintro ⟨f,hf,hE,hfi⟩
      have h2:=(hf.1 i hil hst2)
      have hb2:=h2.bd
      have h3:=h2.1
      rw [hg,hfi,fits0,Bool.and_eq_true_iff] at h3
      have h4:=hf.1 c c2 c3
      have hb4:=h4.bd
      have h5:=(y3 hac).1 h4
      obtain ⟨y,hy⟩:∃ y:Nat,f c = (y:Nat):=⟨(f c).toNat,by omega⟩
      rw [hfi] at hb2
      rw [hfi,hy] at h5
      rw [hy] at hb4
      refine ⟨⟨⟨⟨f,hf.mono (by omega),hfi⟩,fun e=>?_⟩,h3.2⟩,by omega,hp,y,by omega,(c5 y (by omega)).2 ⟨f,hf,fun e=>hE (by omega),hy⟩,by omega,by omega⟩
      have h6:=hE (by omega)
      rw [show w.toNat = i by omega,hfi] at h6
      omega
theorem bk_step {b : Brd} {l : List Prt} {T : Nat → Nat → Bool} {k : Int} {ms : List Nat} {lat : Option Nat} {i J : Nat} {s : Prt} {w : Int} {x : Nat} (hw : WOK l k w) (hJ : b.jump = (J : Nat)) (hs : l[i]? = some s) (hk : s.stock = k) (h : BkI b l T k w x (i + 1) lat ms) :
    BkI b l T k w x i (some (bckM s J (ms.getD i 0) lat)) (ms.set i (bckM s J (ms.getD i 0) lat)):=by
  have hil:=(List.getElem?_eq_some_iff.1 hs).1
  have hst2:(l.getD i prt0).stock = k:=by rw [zP hs]; exact hk
  have hc:Can (bckM s J (ms.getD i 0) lat):=by
    cases lat with
    | none =>
      obtain ⟨m,hm⟩:=zT (show i < ms.length by rw [h.len]; exact hil)
      rw [bckM,zP hm]; exact h.cans m (List.mem_of_getElem? hm)
    | some q=>exact zD7 _ _ _
  refine ⟨by rw [List.length_set]; exact h.len,zBo h.cans hc,fun e=>(by cases e),fun q hq=>?_,fun j hj hjs p hp=>?_,fun j hj hjl hjs p hp=>?_⟩
  · obtain rfl:_ = q:=Option.some.inj hq
    exact ⟨i,Nat.le_refl _,hil,hst2,fun j h1 h2=>by omega,fun p hp=>zG9 hw hJ hs hk h hp⟩
  · rw [ym (by rw [h.len]; exact hil),if_neg (by omega)]
    exact h.lo j (by omega) hjs p hp
  · rw [ym (by rw [h.len]; exact hil)]
    by_cases e:i = j
    · subst e; rw [if_pos rfl]; exact zG9 hw hJ hs hk h hp
    · rw [if_neg e]; exact h.hi j (by omega) hjl hjs p hp
theorem zD9 {b:Brd} {l:List Prt} {T:Nat → Nat → Bool} {k J:Nat} {w:Int} {x:Nat} (hw:WOK l (k:Int) w) (hJ:b.jump = (J:Nat)):∀ (i:Nat) (lat:Option Nat) (ms:List Nat),i ≤ l.length → BkI b l T (k:Int) w x i lat ms → ∃ lat2,BkI b l T (k:Int) w x 0 lat2 (bckGo J (k:Int) l i lat ms)
  | 0,lat,ms,_,h=>⟨lat,h⟩
  | i + 1,lat,ms,hi,h=>by
    obtain ⟨s,hs⟩:=zT (show i < l.length by omega)
    have hgs:l.getD i prt0 = s:=zP hs
    rw [bckGo,hgs]
    cases hk:s.stock == (k:Int)
    · exact zD9 hw hJ i lat ms (by omega) (bk_skip (by rw [zP hs]; simpa using hk) h)
    · rw [cond_true]
      exact zD9 hw hJ i _ _ (by omega) (bk_step hw hJ hs (by simpa using hk) h)
/-- From a sale on, the first one that lets an order trade is i. -/
def HitP (fee:Int) (o:Ord) (l:List Prt) (f:Nat → Int) (fr i:Nat):Prop:=fr ≤ i ∧ i < l.length ∧ (l.getD i prt0).stock = o.stock ∧ letsB fee o (f i) = true ∧ ∀ j,fr ≤ j → j < i → (l.getD j prt0).stock = o.stock → letsB fee o (f j) = false
def MissP (fee:Int) (o:Ord) (l:List Prt) (f:Nat → Int) (fr:Nat):Prop:=∀ j,fr ≤ j → j < l.length → (l.getD j prt0).stock = o.stock → letsB fee o (f j) = false
/-- What is known of a desk whose tape is read, with one of its orders. -/
structure OddOK (b:Brd) (l:List Prt) (o:Ord):Prop where
  v:BrdOK b
  po:∀ p ∈ l,PrtOK b p
  st:0 ≤ o.stock ∧ o.stock < b.stocks.length
  ex:∃ g,TruF b l 0 g
theorem zFM {b:Brd} {l:List Prt} {k:Int} {f g:Nat → Int} (hf:PreF b l 0 k l.length f) (hg:TruF b l 0 g):TruF b l 0 fun j=>if (l.getD j prt0).stock = k then f j else g j:=fun j hj=>by
  by_cases h:(l.getD j prt0).stock = k
  · refine (hf j hj h).congr (by (try dsimp only); rw [if_pos h]) fun a ha=>?_
    have ha':aheadGo l (l.getD j prt0).stock j = (a:Nat):=ha
    obtain ⟨_,a2,_⟩:=yA.1 ha'
    (try dsimp only); rw [if_pos (a2.trans h)]
  · refine (hg j hj).congr (by (try dsimp only); rw [if_neg h]) fun a ha=>?_
    have ha':aheadGo l (l.getD j prt0).stock j = (a:Nat):=ha
    obtain ⟨_,a2,_⟩:=yA.1 ha'
    (try dsimp only); rw [if_neg (fun e=>h (a2.symm.trans e))]
/-- A truth of the stock with tests is one of the tape. -/
theorem preT_iff {b : Brd} {l : List Prt} {T : Nat → Nat → Bool} {k : Int} (hex : ∃ g, TruF b l 0 g) {R : (Nat → Int) → Prop} (hR : ∀ f g : Nat → Int, (∀ j, j < l.length → (l.getD j prt0).stock = k → f j = g j) → R f → R g) :
    (∃ f,PreT b l T k l.length f ∧ R f) ↔ ∃ f,TruF b l 0 f ∧ (∀ j,j < l.length → (l.getD j prt0).stock = k → T j (f j).toNat = true) ∧ R f:=by
  constructor
  · rintro ⟨f,hf,hr⟩
    obtain ⟨g,hg⟩:=hex
    have e:∀ j,j < l.length → (l.getD j prt0).stock = k → f j = (fun j=>if (l.getD j prt0).stock = k then f j else g j) j:=fun j _ hs=>by (try dsimp only); rw [if_pos hs]
    exact ⟨_,zFM hf.1 hg,fun j hj hs=>by have:=hf.2 j hj hs; rw [e j hj hs] at this; exact this,hR _ _ e hr⟩
  · rintro ⟨f,hf,ht,hr⟩
    exact ⟨f,⟨fun j hj _=>hf j hj,ht⟩,hr⟩
theorem zE4 {fee:Int} {o:Ord} {l:List Prt} {fr:Nat} {f:Nat → Int} (hb:∀ j,j < l.length → 1 ≤ f j):(∀ j,j < l.length → (l.getD j prt0).stock = o.stock → tstO fee o (fr:Nat) (-1) j (f j).toNat = true) ↔ MissP fee o l f fr:=by
  have key:∀ j,j < l.length → (tstO fee o (fr:Nat) (-1) j (f j).toNat = true ↔ (fr ≤ j → letsB fee o (f j) = false)):=fun j hj=>by
    have h1:=hb j hj
    unfold tstO
    rw [show (((f j).toNat:Nat):Int) = f j by omega,show ((-1:Int) != -1) = false from rfl,Bool.false_and,Bool.or_false]
    by_cases h:j < fr
    · rw [decide_eq_true (show (j:Int) < (fr:Nat) by omega),cond_true]
      exact ⟨fun _ h2=>by omega,fun _=>rfl⟩
    · rw [decide_eq_false (show ¬ (j:Int) < (fr:Nat) by omega),cond_false,show ((j:Int) == -1) = false by simp,cond_false]
      cases letsB fee o (f j) <;> simp; omega
  constructor
  · exact fun h j h1 h2 h3=>(key j h2).1 (h j h2 h3) h1
  · exact fun h j h2 h3=>(key j h2).2 fun h1=>h j h1 h2 h3
theorem zBu {fee:Int} {o:Ord} {l:List Prt} {fr i:Nat} {f:Nat → Int} (hfi:fr ≤ i) (hil:i < l.length) (hs:(l.getD i prt0).stock = o.stock) (hb:∀ j,j < l.length → 1 ≤ f j):(∀ j,j < l.length → (l.getD j prt0).stock = o.stock → tstO fee o (fr:Nat) (i:Nat) j (f j).toNat = true) ↔ HitP fee o l f fr i:=by
  have key:∀ j,j < l.length → (tstO fee o (fr:Nat) (i:Nat) j (f j).toNat = true ↔ (j = i → letsB fee o (f j) = true) ∧ (fr ≤ j → j < i → letsB fee o (f j) = false)):=fun j hj=>by
    have h1:=hb j hj
    unfold tstO
    rw [show (((f j).toNat:Nat):Int) = f j by omega,show (((i:Nat):Int) != -1) = true by simp,Bool.true_and]
    by_cases h:j < fr ∨ i < j
    · rw [show (decide ((j:Int) < (fr:Nat)) || decide (((i:Nat):Int) < (j:Int))) = true by simp; omega,cond_true]
      exact ⟨fun _=>⟨fun h2=>by omega,fun h2=>by omega⟩,fun _=>rfl⟩
    · rw [show (decide ((j:Int) < (fr:Nat)) || decide (((i:Nat):Int) < (j:Int))) = false by simp; omega,cond_false]
      by_cases e:j = i
      · subst e
        rw [show ((j:Int) == ((j:Nat):Int)) = true by simp,cond_true]
        exact ⟨fun h2=>⟨fun _=>h2,fun _ h3=>by omega⟩,fun h2=>h2.1 rfl⟩
      · rw [show ((j:Int) == ((i:Nat):Int)) = false by simp; omega,cond_false]
        cases hl:letsB fee o (f j)
        · exact ⟨fun _=>⟨fun h2=>(e h2).elim,fun _ _=>rfl⟩,fun _=>rfl⟩
        · exact ⟨fun h2=>(by cases h2),fun h2=>absurd (h2.2 (by omega) (by omega)) (by decide)⟩
  constructor
  · exact fun h=>⟨hfi,hil,hs,((key i hil).1 (h i hil hs)).1 rfl,fun j h1 h2 h3=>((key j (by omega)).1 (h j (by omega) h3)).2 h1 h2⟩
  · rintro ⟨_,_,_,h4,h5⟩ j hj h3
    exact (key j hj).2 ⟨fun e=>by subst e; exact h4,fun h1 h2=>h5 j h1 h2 h3⟩
theorem OddOK.stk {b:Brd} {l:List Prt} {o:Ord} (h:OddOK b l o):∃ (k:Nat) (st:Stk),o.stock = (k:Int) ∧ b.stocks[k]? = some st ∧ b.stocks.getD o.stock.toNat stk0 = st ∧ 1 ≤ st.lo ∧ st.lo ≤ st.hi ∧ st.hi ≤ 799:=by
  have h1:=h.st
  obtain ⟨st,hst⟩:=zT (show o.stock.toNat < b.stocks.length by omega)
  have hs:=zEI h.v (List.mem_of_getElem? hst)
  exact ⟨o.stock.toNat,st,by omega,hst,zP hst,hs.1,hs.2.1,hs.2.2.1⟩
/-- A chain goes through just if there is a truth that passes the tests. -/
theorem chain_some {b:Brd} {l:List Prt} {o:Ord} (h:OddOK b l o) (fee fr by_:Int):(chainN b l fee o fr by_).isSome = true ↔ ∃ f,TruF b l 0 f ∧ ∀ j,j < l.length → (l.getD j prt0).stock = o.stock → tstO fee o fr by_ j (f j).toNat = true:=by
  obtain ⟨k,st,hk,hst,hgd,hso⟩:=h.stk
  have hJ:b.jump = (b.jump.toNat:Nat):=by have:=h.v.j0; omega
  have hc:=ch_is (l:=l) (T:=tstO fee o fr by_) hJ hst hso
  have hp:=preT_iff (T:=tstO fee o fr by_) (k:=o.stock) h.ex (R:=fun _=>True) fun _ _ _ _=>trivial
  simp only [and_true] at hp
  rw [← hp]
  unfold chainN
  rw [hgd,hk]
  rw [hk] at hp
  cases hr:chnGo (tstO fee o fr by_) b.jump.toNat (k:Int) 0 l (startN st) (List.replicate l.length 0) with
  | none =>
    rw [hr] at hc
    exact ⟨fun h=>(by cases h),fun h=>(hc h).elim⟩
  | some r =>
    rw [hr] at hc
    refine ⟨fun _=>?_,fun _=>rfl⟩
    obtain ⟨now,h0,hI⟩:=hc
    exact ch_ex h0 hI
/-- What a chain, cut from the back, has at a sale of the stock. -/
theorem chain_bit {b : Brd} {l : List Prt} {o : Ord} (h : OddOK b l o) {fee fr by_ : Int} {c : List Nat} (hc : chainN b l fee o fr by_ = some c) {i : Nat} (hi : i < l.length) (hs : (l.getD i prt0).stock = o.stock) {p : Nat} (hp : p < 800) :
    ((backN b l o c).getD i 0).testBit p = true ↔ ∃ f,TruF b l 0 f ∧ (∀ j,j < l.length → (l.getD j prt0).stock = o.stock → tstO fee o fr by_ j (f j).toNat = true) ∧ f i = (p:Nat):=by
  obtain ⟨k,st,hk,hst,hgd,hso⟩:=h.stk
  have hJ:b.jump = (b.jump.toNat:Nat):=by have:=h.v.j0; omega
  have hI:=ch_is (l:=l) (T:=tstO fee o fr by_) hJ hst hso
  unfold chainN at hc
  rw [hgd,hk] at hc
  rw [hc] at hI
  obtain ⟨now,_,hI⟩:=hI
  obtain ⟨lat,hB⟩:=zD9 (w:=-1) (x:=0) (.inl (by decide)) hJ l.length none c (Nat.le_refl _) (bk_start (by decide) hI)
  have h1:=hB.hi i (Nat.zero_le _) hi (by rw [hs,hk]) p hp
  unfold backN
  rw [hk,h1,← hk]
  refine Iff.trans ⟨fun ⟨f,a1,_,a3⟩=>⟨f,a1,a3⟩,fun ⟨f,a1,a3⟩=>⟨f,a1,fun e=>by omega,a3⟩⟩ (preT_iff (T:=tstO fee o fr by_) (k:=o.stock) h.ex (R:=fun f=>f i = (p:Nat)) fun f g e hr=>by rw [← e i hi hs]; exact hr)
theorem zCF {b:Brd} {l:List Prt} {f:Nat → Int} (h:TruF b l 0 f) (j:Nat) (hj:j < l.length):1 ≤ f j:=(h j hj).bd.1
theorem zFq {b:Brd} {l:List Prt} {o:Ord} (h:OddOK b l o) (fee:Int) (mm:List (Int × Int)) (fr:Nat):(canO b l fee o mm fr (-1)).isSome = true ↔ fr ≤ l.length ∧ waitsB o mm fr = true ∧ ∃ f,TruF b l 0 f ∧ MissP fee o l f fr:=by
  unfold canO
  rw [show ((-1:Int) == -1) = true from rfl,cond_true]
  cases hw:(decide (fr ≤ l.length) && waitsB o mm fr)
  · rw [cond_false]
    refine ⟨fun h=>(by cases h),fun ⟨h1,h2,_⟩=>?_⟩
    rw [decide_eq_true h1,h2] at hw; cases hw
  · rw [cond_true,Option.isSome_map,chain_some h]
    rw [Bool.and_eq_true_iff,decide_eq_true_eq] at hw
    constructor
    · rintro ⟨f,hf,ht⟩
      exact ⟨hw.1,hw.2,f,hf,(zE4 (zCF hf)).1 ht⟩
    · rintro ⟨_,_,f,hf,hm⟩
      exact ⟨f,hf,(zE4 (zCF hf)).2 hm⟩
theorem zCU {b : Brd} {l : List Prt} {o : Ord} (h : OddOK b l o) (fee : Int) (mm : List (Int × Int)) (fr i : Nat) :
    ((canO b l fee o mm fr (i:Nat)).isSome = true ↔ waitsB o mm fr = true ∧ ∃ f,TruF b l 0 f ∧ HitP fee o l f fr i) ∧
    ∀ m,canO b l fee o mm fr (i:Nat) = some m → ∀ p,p < 800 → (m.testBit p = true ↔ ∃ f,TruF b l 0 f ∧ HitP fee o l f fr i ∧ f i = (p:Nat)):=by
  unfold canO
  rw [show (((i:Nat):Int) == -1) = false by simp,cond_false,Int.toNat_natCast]
  cases hw:(decide (fr ≤ l.length) && waitsB o mm fr)
  · rw [cond_false]
    refine ⟨⟨fun h=>(by cases h),fun ⟨h2,f,hf,hh⟩=>?_⟩,fun m hm=>by cases hm⟩
    rw [decide_eq_true (by have:=hh.1; have:=hh.2.1; omega),h2] at hw; cases hw
  rw [cond_true]
  rw [Bool.and_eq_true_iff,decide_eq_true_eq] at hw
  cases hi:(decide ((fr:Int) ≤ (i:Nat)) && decide (((i:Nat):Int) < (l.length:Int)) && ((l.getD i prt0).stock == o.stock))
  · rw [cond_false]
    refine ⟨⟨fun h=>(by cases h),fun ⟨h2,f,hf,hh⟩=>?_⟩,fun m hm=>by cases hm⟩
    rw [decide_eq_true (by have:=hh.1; omega),decide_eq_true (by have:=hh.2.1; omega),hh.2.2.1] at hi
    simp at hi
  rw [cond_true]
  simp only [Bool.and_eq_true_iff,decide_eq_true_eq,beq_iff_eq] at hi
  obtain ⟨⟨h1,h2⟩,h3⟩:=hi
  constructor
  · rw [Option.isSome_map,chain_some h]
    constructor
    · rintro ⟨f,hf,ht⟩
      exact ⟨hw.2,f,hf,(zBu (by omega) (by omega) h3 (zCF hf)).1 ht⟩
    · rintro ⟨_,f,hf,hm⟩
      exact ⟨f,hf,(zBu (by omega) (by omega) h3 (zCF hf)).2 hm⟩
  · intro m hm p hp
    obtain ⟨c,hc,rfl⟩:=Option.map_eq_some_iff.1 hm
    rw [chain_bit h hc (by omega) h3 hp]
    constructor
    · rintro ⟨f,hf,ht,hp⟩
      exact ⟨f,hf,(zBu (by omega) (by omega) h3 (zCF hf)).1 ht,hp⟩
    · rintro ⟨f,hf,hm,hp⟩
      exact ⟨f,hf,(zBu (by omega) (by omega) h3 (zCF hf)).2 hm,hp⟩
/-- All prices by all waits. -/
def priL (F:Nat → Int → Option Nat) (fee:Int) (o:Ord) (n:Nat):List Int:=(List.range (n + 1)).flatMap fun fr=>(List.range n).flatMap fun i=>match F fr (i:Nat) with
  | none=>[]
  | some m=>((List.range 800).filter fun p=>m.testBit p).map fun p=>priceO fee o (p:Nat)
def bndL:List Int → (Int × Int) × Bool
  | []=>((0,0),false)
  | x :: r=>((r.foldl min x,r.foldl max x),true)
def bndI (b:Brd) (l:List Prt) (fee:Int) (o:Ord) (mm:List (Int × Int)):(Int × Int) × Bool:=bndL (priL (canO b l fee o mm) fee o l.length)
def missI (b:Brd) (l:List Prt) (fee:Int) (o:Ord) (mm:List (Int × Int)):Bool:=(List.range (l.length + 1)).any fun fr=>(canO b l fee o mm fr (-1)).isSome
def verdI (b:Brd) (l:List Prt) (fee:Int) (o:Ord) (mm:List (Int × Int)):Int:=bif !(missI b l fee o mm) then 1 else bif !(bndI b l fee o mm).2 then 2 else 3
def saleB (b:Brd) (l:List Prt) (fee:Int) (o:Ord) (mm:List (Int × Int)) (i:Nat):Bool:=(List.range (i + 1)).any fun fr=>(canO b l fee o mm fr (i:Nat)).isSome
def salesO (b:Brd) (l:List Prt) (fee:Int) (o:Ord) (mm:List (Int × Int)):List Int:=((List.range l.length).filter (saleB b l fee o mm)).map fun i:Nat=>(i:Int)
theorem zDm {r:List Int}:∀ {x:Int},r.foldl min x ∈ x :: r ∧ ∀ y ∈ x :: r,r.foldl min x ≤ y:=by
  induction r with
  | nil=>intro x; exact ⟨List.mem_cons_self,fun y hy=>by simp at hy; subst hy; exact Int.le_refl _⟩
  | cons a r ih =>
    intro x
    obtain ⟨h1,h2⟩:=ih (x:=min x a)
    rw [List.foldl_cons]
    refine ⟨?_,fun y hy=>?_⟩
    · rcases List.mem_cons.1 h1 with h | h
      · rw [h]
        rcases Int.le_total x a with e | e
        · rw [Int.min_eq_left e]; exact List.mem_cons_self
        · rw [Int.min_eq_right e]; exact List.mem_cons_of_mem _ List.mem_cons_self
      · exact List.mem_cons_of_mem _ (List.mem_cons_of_mem _ h)
    · have h3:=h2 _ List.mem_cons_self
      rcases List.mem_cons.1 hy with rfl | hy
      · omega
      · rcases List.mem_cons.1 hy with rfl | hy
        · omega
        · exact h2 y (List.mem_cons_of_mem _ hy)
theorem zDt {r:List Int}:∀ {x:Int},r.foldl max x ∈ x :: r ∧ ∀ y ∈ x :: r,y ≤ r.foldl max x:=by
  induction r with
  | nil=>intro x; exact ⟨List.mem_cons_self,fun y hy=>by simp at hy; subst hy; exact Int.le_refl _⟩
  | cons a r ih =>
    intro x
    obtain ⟨h1,h2⟩:=ih (x:=max x a)
    rw [List.foldl_cons]
    refine ⟨?_,fun y hy=>?_⟩
    · rcases List.mem_cons.1 h1 with h | h
      · rw [h]
        rcases Int.le_total x a with e | e
        · rw [Int.max_eq_right e]; exact List.mem_cons_of_mem _ List.mem_cons_self
        · rw [Int.max_eq_left e]; exact List.mem_cons_self
      · exact List.mem_cons_of_mem _ (List.mem_cons_of_mem _ h)
    · have h3:=h2 _ List.mem_cons_self
      rcases List.mem_cons.1 hy with rfl | hy
      · omega
      · rcases List.mem_cons.1 hy with rfl | hy
        · omega
        · exact h2 y (List.mem_cons_of_mem _ hy)
theorem bndL_is {F:Nat → Int → Option Nat} {fee:Int} {o:Ord} {L:List Int} (h:∀ n,n ∈ L ↔ PriS F fee o (fun _=>True) n):BndR F fee o (bndL L):=by
  cases L with
  | nil=>exact .inl ⟨rfl,fun n hn=>by have:=(h n).2 hn; cases this⟩
  | cons x r =>
    refine .inr ⟨rfl,.inr ⟨rfl,(h _).1 zDm.1,(h _).1 zDt.1,fun n hn=>⟨zDm.2 n ((h n).2 hn),zDt.2 n ((h n).2 hn)⟩⟩⟩
theorem zBi {b:Brd} {l:List Prt} {fee:Int} {o:Ord} {mm:List (Int × Int)} {fr m:Nat} {c:Int} (h:canO b l fee o mm fr c = some m):fr ≤ l.length ∧ (c = -1 ∨ ∃ i:Nat,c = (i:Int) ∧ fr ≤ i ∧ i < l.length):=by
  unfold canO at h
  cases h1:(decide (fr ≤ l.length) && waitsB o mm fr) <;> rw [h1] at h
  · cases h
  · simp only [Bool.and_eq_true_iff,decide_eq_true_eq] at h1
    refine ⟨h1.1,?_⟩
    rw [cond_true] at h
    cases h2:c == -1 <;> rw [h2] at h
    · cases h3:(decide ((fr:Int) ≤ c) && decide (c < (l.length:Int)) && ((l.getD c.toNat prt0).stock == o.stock)) <;> rw [h3] at h
      · cases h
      · simp only [Bool.and_eq_true_iff,decide_eq_true_eq] at h3
        exact .inr ⟨c.toNat,by omega,by omega,by omega⟩
    · exact .inl (by simpa using h2)
theorem priL_mem {b:Brd} {l:List Prt} {fee:Int} {o:Ord} {mm:List (Int × Int)} (n:Int):n ∈ priL (canO b l fee o mm) fee o l.length ↔ PriS (canO b l fee o mm) fee o (fun _=>True) n:=by
  unfold priL
  simp only [List.mem_flatMap,List.mem_range]
  constructor
  · rintro ⟨fr,h1,i,h2,h3⟩
    cases hc:canO b l fee o mm fr (i:Nat) with
    | none=>rw [hc] at h3; cases h3
    | some m =>
      rw [hc] at h3
      obtain ⟨p,hp,rfl⟩:=List.mem_map.1 h3
      rw [List.mem_filter,List.mem_range] at hp
      exact ⟨fr,(i:Nat),m,p,hc,by omega,trivial,hp.1,hp.2,rfl⟩
  · rintro ⟨fr,c,m,p,h1,h2,_,h3,h4,rfl⟩
    obtain ⟨h5,h6 | ⟨i,rfl,h7,h8⟩⟩:=zBi h1
    · exact (h2 h6).elim
    · refine ⟨fr,by omega,i,h8,?_⟩
      rw [h1]
      exact List.mem_map.2 ⟨p,by rw [List.mem_filter,List.mem_range]; exact ⟨h3,h4⟩,rfl⟩
theorem zBF (b:Brd) (l:List Prt) (fee:Int) (o:Ord) (mm:List (Int × Int)):BndR (canO b l fee o mm) fee o (bndI b l fee o mm):=bndL_is priL_mem
theorem zDp {b:Brd} {l:List Prt} {fee:Int} {o:Ord} {mm:List (Int × Int)}:missI b l fee o mm = true ↔ MisS (canO b l fee o mm) fun _=>True:=by
  unfold missI
  rw [List.any_eq_true]
  constructor
  · rintro ⟨fr,_,h⟩
    obtain ⟨m,hm⟩:=Option.isSome_iff_exists.1 h
    exact ⟨fr,m,hm,trivial⟩
  · rintro ⟨fr,m,hm,_⟩
    exact ⟨fr,List.mem_range.2 (by have:=(zBi hm).1; omega),by rw [hm]; rfl⟩
end Go.Proofs.YticlpkgpmmhemaaGreatDoor
namespace Go.Proofs.YticlpkgpmmhemaaGreatDoor
open Go.Proofs.Tryz
open Go.RowKit
set_option maxRecDepth 20000
set_option linter.all false
def opP (d:Dsk):D:=bif deskI d != 0 then .nilp else .ptr (wk4C d (readI d.b d.tape).1)
/-- The error of a desk with orders, whose tape must have a truth, and right minutes. -/
def sureO (d:Dsk) (os:List Int):Int:=bif deskI d != 0 then deskI d else bif !(os.all fun n=>withinB n 0 ((d.orders.length:Int) - 1)) then 2 else bif (pricesI d.b d.tape).2 != 0 then (pricesI d.b d.tape).2 else (minutesI d.b d.tape).2
def sureP (d:Dsk) (os:List Int):D:=bif deskI d != 0 then .nilp else bif !(os.all fun n=>withinB n 0 ((d.orders.length:Int) - 1)) then .nilp else bif (pricesI d.b d.tape).2 != 0 then .nilp else .ptr (wk4C d (readI d.b d.tape).1)
theorem mis_add {F:Nat → Int → Option Nat} {done:List D} {fr m:Nat} {c:Int} {v:Bool} (hF:F fr c = some m) (h:v = true ↔ MisS F (· ∈ done)):(bif v then true else c == -1) = true ↔ MisS F (· ∈ waitD (fr:Nat) c :: done):=by
  constructor
  · intro h1
    cases v with
    | true =>
      obtain ⟨f,x,h2,h3⟩:=h.1 rfl
      exact ⟨f,x,h2,List.mem_cons_of_mem _ h3⟩
    | false =>
      obtain rfl:c = -1:=by simpa using h1
      exact ⟨fr,m,hF,List.mem_cons_self⟩
  · rintro ⟨f,x,h2,h3⟩
    rcases List.mem_cons.1 h3 with h3 | h3
    · obtain ⟨_,e⟩:=zAW h3
      rw [← e]; cases v <;> rfl
    · rw [h.2 ⟨f,x,h2,h3⟩]; rfl
theorem zDB {F:Nat → Int → Option Nat} {done:List D} (hall:∀ d d',cnM F d d' → d ∈ done):MisS F (· ∈ done) ↔ MisS F fun _=>True :=
  ⟨fun ⟨f,x,h,_⟩=>⟨f,x,h,trivial⟩,fun ⟨f,x,h,_⟩=>⟨f,x,h,hall _ _ ⟨f,-1,x,h,rfl,rfl⟩⟩⟩
theorem verd_eff (d:Dsk) (l:List Prt) (o:Ord) (mm:List (Int × Int)) (b:Nat)(hf:0 ≤ d.fee ∧ d.fee ≤ 4)(F:Nat → Int → Option Nat):EffAt Tryz.prog 108 [.d (.ptr (askC d l o mm b))] [(1060,mapRes KW b (cnM F))] (X:={x:Bool × ((Int × Int) × Bool) // (x.1 = true ↔ MisS F fun _=>True) ∧ BndR F d.fee o x.2}) (fun x=>.d (.int .i64 (bif !x.1.1 then 1 else bif !x.1.2.2 then 2 else 3))) (fun _=>[(1060,mapRes KW b (cnM F))]):=by
 refine EffAt.of_awp Tryz.func108 rfl (by kernel_rfl) rfl fun Γ hn=>?_
 refine Zu (Zt 1 [] hn rfl (Zv (Zu (Zt 1 [] hn rfl (Zv (zB (Zu (Zt 4 [] hn rfl ?_))))))))
 refine stepW (zFr (id:=1060) rfl rfl rfl (nb hn rfl) underlying202 (.d rfl) rfl) fun ⟨it,n0⟩=>?_
 refine Zv (zK (awp_loop_on (ι:={x:Bool × List D × Nat × Option (D × D) // x.1 = true ↔ MisS F (· ∈ x.2.1)}) (fun x=>(3,true,.d (.bool x.1.1)) :: anys [12,13,14,15,4,16,17,18,19,20,21]) (fun x=>(1060,itRes KW b it (cnM F) x.1.2.1 x.1.2.2.1 x.1.2.2.2) :: gones [4]) (fun x=>x.1.2.2.1) ⟨(false,[],n0,none),Iff.intro (fun h=>(by cases h)) (fun ⟨_,_,_,h⟩=>(by cases h))⟩ ⟨.inl rfl,zE _⟩ ⟨.inl rfl,zR _⟩ ?_))
 rintro ⟨⟨v,done,n1,la⟩,hI⟩
 dsimp only
 dsimp only at hI
 refine Zu ?_
 refine stepW (zGM (id:=1060) rfl rfl rfl (nb hn rfl) rfl rfl trivial trivial) fun ⟨⟨nr,dn,nn⟩,hnx⟩=>?_
 dsimp only
 refine Zs hn (zAZ rfl rfl (nx0 nr)) ?_
 refine Zv (zB (zG rfl (fun hb0=>?_) (fun hb0=>?_)))
 ·
  obtain ⟨⟨kd,vd⟩,rfl⟩:=Option.isSome_iff_exists.1 hb0
  obtain ⟨⟨fr,by_,m,hF,rfl,rfl⟩,hnd,rfl,hlt⟩:=hnx
  refine zI (zA (zK (Zu (stepW (zGz (id:=1060) rfl rfl rfl (nb hn rfl) rfl rfl) fun _=>?_))))
  refine Zt 1 [] hn rfl (Zb 4 hn rfl fun b4=>Zt 1 [4] hn rfl (Zv (zF (Zt 7 [4] hn rfl (zQ (zO ?_))))))
  exact Zr ⟨(bif v then true else by_ == -1,waitD (fr:Nat) by_ :: done,nn,_),mis_add hF hI⟩ ⟨.inl (congrArg (fun z=>some (true,TV.d (D.bool z))) (by cases v <;> rfl)),zE _⟩ ⟨.inl rfl,zR _⟩ (hlt)
 obtain rfl:nr = none:=by simpa using hb0
 obtain ⟨rfl,rfl,hall⟩:=hnx
 refine zU (zD (zD (zL (zA (zB (zq (g_it_map 1060 rfl) ?_))))))
 refine zF (Zt 1 [] hn rfl ?_)
 refine stepW (s_callE (zGO d l o mm b hf F) rfl rfl rfl (nb hn rfl) (.d rfl) rfl (.refl _) ⟨rfl,trivial⟩ (fun _=>rfl) (fun _ _=>trivial)) fun ⟨r,hr⟩=>?_
 refine Zt 3 [] hn rfl (Zb 5 hn rfl fun b5=>Zt 2 [5] hn rfl (Zv (zB (zK (Zu (Zt 3 [] hn rfl (Zv (zG rfl (fun hb1=>?_) (fun hb1=>?_)))))))))
 refine Zu (Zt 1 [] hn rfl (Zv (zJ (zN (zC ?_)))))
 exact ret_E (.inl rfl) ⟨(v,r),hI.trans (zDB hall),hr⟩ ((zu rfl (.tmp rfl)).eq (by rw [show (!v) = true from hb1]; rfl)) ⟨rfl,trivial⟩
 refine Zu (Zt 3 [] hn rfl (Zv (zG rfl (fun hb2=>?_) (fun hb2=>?_))))
 refine Zu (Zt 1 [] hn rfl (Zv (zJ (zN (zC ?_)))))
 exact ret_E (.inl rfl) ⟨(v,r),hI.trans (zDB hall),hr⟩ ((zu rfl (.tmp rfl)).eq (by rw [show (!v) = false from hb1,show (!r.2) = true from hb2]; rfl)) ⟨rfl,trivial⟩
 refine zI (zO (zA (Zu (Zt 1 [] hn rfl (Zv (zJ ?_))))))
 exact ret_E (.inl rfl) ⟨(v,r),hI.trans (zDB hall),hr⟩ ((zu rfl (.tmp rfl)).eq (by rw [show (!v) = false from hb1,show (!r.2) = false from hb2]; rfl)) ⟨rfl,trivial⟩
theorem order_ok (d:Dsk) (o:Ord) (h4:d.b.stocks.length ≤ 1000):PureAt Tryz.prog 144 [dskD d,ordD o] (.bool (ordB d.b o)):=by
 refine Zp Tryz.func144 rfl fun Γ hn hl=>?_
 refine Zu ?_
 refine Zb 2 hn rfl fun b2=>?_
 refine Zb 3 hn rfl fun b3=>?_
 refine Zt 1 [] hn rfl ?_
 refine Zv (Zu ?_)
 refine Zt 6 [3,2] hn rfl ?_
 refine Zs hn (z6 rfl rfl rfl (r:=(d.b.stocks.length:Int) - 1) (by rw [List.length_map]; exact i64w (by omega) rfl)) ?_
 refine Zk hn rfl (yq _ _ _) ?_
 refine Zt 3 [3] hn rfl ?_
 refine Zkg hn rfl (fun hc=>yq _ _ _) ?_
 refine Zt 4 [3] hn rfl ?_
 refine Zkg hn rfl (fun hc=>yq _ _ _) ?_
 refine Zt 23 [3,3,3,3] hn rfl ?_
 refine Zv (zJ ?_)
 exact zX (.inl rfl) hl rfl (.tmp rfl)
theorem zA9 (d:Dsk) (hN:NamesOK d.b) (h5:d.tape.length ≤ 4294967000) (ho:d.orders.length ≤ 1000):PureAt Tryz.prog 85 [dskD d] (.tup [opP d,.int .i64 (deskI d)]):=by
 refine Zp Tryz.func85 rfl fun Γ hn hl=>?_
 refine Zu (Zb 1 hn rfl fun b1=>Zt 2 [] hn rfl (Zv (Zu (Zt 4 [1,1] hn rfl (Zk hn rfl (zEV d.b d.tape hN h5) (Zt 5 [] hn rfl (Zv (Zu (Zt 1 [1] hn rfl (Zs hn (yG rfl rfl rfl) ?_))))))))))
 refine Zt 1 [] hn rfl (Zv (zB (zK (Zu (Zt 3 [] hn rfl (Zv (zG rfl (fun hb0=>?_) (fun hb0=>?_))))))))
 have q0:((readI d.b d.tape).2 != 0) = true:=hb0
 refine Zu (Zt 3 [] hn rfl (Zv (zJ (zN (zC (zZ (y1 (.inl rfl) hl rfl (.tmp rfl) (.tmp rfl)) ?_))))))
 unfold opP deskI; rw [q0,cond_true,q0]; rfl
 have q0:((readI d.b d.tape).2 != 0) = false:=hb0
 have v:=yU (b:=d.b) (s:=d.tape) (by simpa using q0)
 have hn4:=v.n4
 refine Zu (Zt 5 [1] hn rfl (Zv (zG rfl (fun hb1=>?_) (fun hb1=>?_))))
 have q1:decide (5 < (d.orders.length:Int)) = true:=by rw [List.length_map] at hb1; exact hb1
 refine Zu (Zt 2 [] hn rfl (Zv (zJ (zN (zC (zZ (y1 (.inl rfl) hl rfl (.tmp rfl) (.tmp rfl)) ?_))))))
 unfold opP deskI; rw [q0,q1]; rfl
 have q1:decide (5 < (d.orders.length:Int)) = false:=by rw [List.length_map] at hb1; exact hb1
 refine Zu (Zt 2 [1] hn rfl (Zk hn rfl (yq _ _ _) (Zt 5 [1] hn rfl (Zkg hn rfl (fun hc=>all_ord d.orders (ordB d.b) 144 [dskD d] [] (fun x _=>order_ok d x (by omega))) (Zt 3 [] hn rfl (Zv (zG rfl (fun hb2=>?_) (fun hb2=>?_))))))))
 refine Zu (Zt 2 [] hn rfl (Zv (zJ (zN (zC ?_)))))
 rotate_left
 refine zI (zO (zA (Zu (Zt 3 [1] hn rfl (Zb 41 hn rfl fun b41=>Zt 2 [] hn rfl (Zv (zJ (ya (z7 (t:=2) 41 rfl (nb hn rfl) rfl rfl trivial) ?_))))))))
 rotate_left
 all_goals
  refine zZ (y1 (.inl rfl) hl rfl (.tmp rfl) (.tmp rfl)) ?_
  unfold opP deskI; rw [q0,q1,hb2]; rfl
theorem sure1_ok (d:Dsk) (n:Int) (ho:d.orders.length ≤ 1000):PureAt Tryz.prog 136 [.int .i64 n,.ptr (dskE d)] (.bool (withinB n 0 ((d.orders.length:Int) - 1))):=by
 refine Zp Tryz.func136 rfl fun Γ hn hl=>?_
 refine Zu ?_
 refine Zt 1 [] hn rfl ?_
 refine Zv (Zu ?_)
 refine Zt 4 [] hn rfl ?_
 refine Zs hn (z6 rfl rfl rfl (r:=(d.orders.length:Int) - 1) (by rw [List.length_map]; exact i64w (by omega) rfl)) ?_
 refine Zk hn rfl (yq _ _ _) ?_
 refine Zt 1 [] hn rfl ?_
 refine Zv (zJ ?_)
 exact zX (.inl rfl) hl rfl (.tmp rfl)
theorem zBZ (d:Dsk) (hN:NamesOK d.b) (h5:d.tape.length ≤ 4294967000) (ho:d.orders.length ≤ 1000) (os:List Int) (hos:os.length ≤ 1000):PureAt Tryz.prog 82 [dskD d,ints os] (.tup [sureP d os,.int .i64 (sureO d os)]):=by
 refine Zp Tryz.func82 rfl fun Γ hn hl=>?_
 refine Zu (Zb 2 hn rfl fun b2=>Zt 2 [] hn rfl (Zv (zB (zq (z7 (t:=2) 2 rfl (nb hn rfl) rfl rfl trivial) ?_))))
 refine zF (Zt 1 [] hn rfl (Zk hn rfl (zA9 d hN h5 ho) (Zt 5 [] hn rfl (Zv (zB (Zu (Zt 2 [] hn rfl (Zv (zG rfl (fun hb0=>?_) (fun hb0=>?_))))))))))
 have q0:(deskI d != 0) = true:=hb0
 refine Zu (Zt 3 [] hn rfl (Zv (zJ (zC (zZ (y1 (.inl rfl) hl rfl (.tmp rfl) (.tmp rfl)) ?_)))))
 unfold sureP sureO; rw [q0]; rfl
 have q0:(deskI d != 0) = false:=hb0
 refine zI (zA (zB (Zu (Zt 1 [] hn rfl (Zs hn (yG rfl rfl rfl) ?_)))))
 refine Zk hn rfl (all_int os (fun n=>withinB n 0 ((d.orders.length:Int) - 1)) 136 [] [.ptr (dskE d)] (fun x _=>sure1_ok d x ho)) (Zt 1 [] hn rfl (Zv (zG rfl (fun hb1=>?_) (fun hb1=>?_))))
 have q1:(!(os.all fun n=>withinB n 0 ((d.orders.length:Int) - 1))) = true:=hb1
 refine Zu (Zt 2 [] hn rfl (Zv (zJ (zC (zZ (y1 (.inl rfl) hl rfl (.tmp rfl) (.tmp rfl)) ?_)))))
 unfold sureP sureO; rw [q0,q1]; rfl
 have q1:(!(os.all fun n=>withinB n 0 ((d.orders.length:Int) - 1))) = false:=hb1
 refine zI (zA (zB (Zu (Zt 4 [] hn rfl (Zk hn rfl (Prices_ok d.b d.tape hN h5) (Zt 5 [] hn rfl (Zv (Zu (Zt 2 [] hn rfl (Zv (zG rfl (fun hb2=>?_) (fun hb2=>?_))))))))))))
 have q2:((pricesI d.b d.tape).2 != 0) = true:=hb2
 refine Zu (Zt 3 [] hn rfl (Zv (zJ (zC (zZ (y1 (.inl rfl) hl rfl (.tmp rfl) (.tmp rfl)) ?_)))))
 unfold sureP sureO; rw [q0,q1,q2]; rfl
 have q2:((pricesI d.b d.tape).2 != 0) = false:=hb2
 refine zI (zA (Zu (Zt 4 [] hn rfl (Zk hn rfl (zCd d.b d.tape hN h5) (Zt 4 [] hn rfl (Zv (Zu (Zt 4 [] hn rfl (Zv (zJ (zZ (y1 (.inl rfl) hl rfl (.tmp rfl) (.tmp rfl)) ?_)))))))))))
 unfold sureP sureO opP; rw [q0,q1,q2]; rfl
end Go.Proofs.YticlpkgpmmhemaaGreatDoor
namespace Go.Proofs.YticlpkgpmmhemaaGreatDoor
open Go.RowKit
set_option linter.all false
/-- Minutes of sales that are right. -/
structure RightM (l:List Prt) (m:Nat → Int):Prop where
  own:∀ j,j < l.length → (l.getD j prt0).minute - (l.getD j prt0).lhi ≤ m j ∧ m j ≤ (l.getD j prt0).minute - (l.getD j prt0).llo
  up:∀ j,0 < j → j < l.length → m (j - 1) ≤ m j
theorem zE5 {ms:List Int} {l:List Prt}:∀ (n i:Nat),i + n = l.length → (rightGo ms i (l.drop i) = true ↔ ∀ j,i ≤ j → j < l.length → ((l.getD j prt0).minute - (l.getD j prt0).lhi ≤ ms.getD j 0 ∧ ms.getD j 0 ≤ (l.getD j prt0).minute - (l.getD j prt0).llo) ∧ (0 < j → ms.getD (j - 1) 0 ≤ ms.getD j 0))
  | 0,i,h=>by
    obtain rfl:i = l.length:=by omega
    rw [List.drop_length]
    exact ⟨fun _ j h1 h2=>by omega,fun _=>rfl⟩
  | n + 1,i,h=>by
    obtain ⟨s,hs⟩:=zT (show i < l.length by omega)
    rw [zk hs,rightGo,Bool.and_eq_true_iff,zE5 n (i + 1) (by omega),Bool.and_eq_true_iff,zm]
    have hg:l.getD i prt0 = s:=zP hs
    constructor
    · rintro ⟨⟨h1,h2⟩,h3⟩ j hj hjl
      by_cases e:i = j
      · subst e
        rw [hg]
        refine ⟨h1,fun h0=>?_⟩
        rw [decide_eq_true h0,Bool.true_and] at h2
        have:¬ ms.getD i 0 < ms.getD (i - 1) 0:=by simpa using h2
        omega
      · exact h3 j (by omega) hjl
    · intro h0
      have h1:=h0 i (Nat.le_refl _) (by omega)
      rw [hg] at h1
      refine ⟨⟨h1.1,?_⟩,fun j hj hjl=>h0 j (by omega) hjl⟩
      by_cases hi:0 < i
      · have:=h1.2 hi
        rw [decide_eq_true hi,Bool.true_and,decide_eq_false (by omega)]; rfl
      · rw [decide_eq_false hi,Bool.false_and]; rfl
theorem zCB {ms:List Int} {l:List Prt}:rightGo ms 0 l = true ↔ RightM l fun j=>ms.getD j 0:=by
  have h:=zE5 (ms:=ms) (l:=l) l.length 0 (by omega)
  rw [List.drop_zero] at h
  rw [h]
  constructor
  · exact fun h=>⟨fun j hj=>(h j (Nat.zero_le _) hj).1,fun j h0 hj=>(h j (Nat.zero_le _) hj).2 h0⟩
  · exact fun h j _ hj=>⟨h.own j hj,fun h0=>h.up j h0 hj⟩
theorem prt_bd {b:Brd} {l:List Prt} (hpo:∀ p ∈ l,PrtOK b p) {j:Nat} (hj:j < l.length):0 ≤ (l.getD j prt0).minute ∧ (l.getD j prt0).minute ≤ 600 ∧ 0 ≤ (l.getD j prt0).llo ∧ (l.getD j prt0).llo ≤ (l.getD j prt0).lhi ∧ (l.getD j prt0).lhi ≤ 60:=by
  obtain ⟨p,hp⟩:=zT hj
  have h2:=(hpo p (List.mem_of_getElem? hp)).mi
  have h3:=(hpo p (List.mem_of_getElem? hp)).la
  rw [zP hp]
  omega
theorem zBs {l:List Prt} {i:Nat} (hi:i < l.length):(timL l l.length).getD i (0,0) = timI l i:=by
  unfold timL
  exact zP (by rw [List.getElem?_map,List.getElem?_range hi]; rfl)
theorem zEf (l:List Prt):(timL l l.length).length = l.length:=by unfold timL; simp
theorem zGN (l:List Prt) (i:Nat):∀ j,hiV l i (j + 1) = min ((l.getD i prt0).minute - (l.getD i prt0).llo) (hiV l (i + 1) j)
  | 0=>by simp only [hiV,Nat.add_zero]; omega
  | j + 1=>by
    rw [hiV,zGN l i j,hiV,show i + (j + 1) = i + 1 + j by omega]
    omega
theorem zHN {l:List Prt} {j:Nat}:∀ k,j < k → (l.getD j prt0).minute - (l.getD j prt0).lhi ≤ loU l k
  | 0,h=>by omega
  | k + 1,h=>by
    rw [loU]
    by_cases e:j = k
    · subst e; omega
    · have:=zHN (l:=l) (j:=j) k (by omega); omega
theorem zG6 {l:List Prt} {i k:Nat}:∀ j,i ≤ k → k < i + j → hiV l i j ≤ (l.getD k prt0).minute - (l.getD k prt0).llo
  | 0,h1,h2=>by omega
  | j + 1,h1,h2=>by
    rw [hiV]
    by_cases e:k = i + j
    · subst e; omega
    · have:=zG6 (l:=l) (i:=i) (k:=k) j h1 (by omega); omega
theorem times_get {l:List Prt} (h:timesB l = true) {i:Nat} (hi:i < l.length):(timI l i).1 ≤ (timI l i).2:=by
  have:=List.all_eq_true.1 h i (List.mem_range.2 hi)
  simpa using this
/-- The lower bounds, and the upper ones, are right; both fit together. -/
theorem tim_mono {b : Brd} {l : List Prt} (hpo : ∀ p ∈ l, PrtOK b p) (ht : timesB l = true) {i : Nat} (hi : i < l.length) :
    ((l.getD i prt0).minute - (l.getD i prt0).lhi ≤ (timI l i).1 ∧ (timI l i).1 ≤ (timI l i).2 ∧ (timI l i).2 ≤ (l.getD i prt0).minute - (l.getD i prt0).llo) ∧ (0 < i → (timI l (i - 1)).1 ≤ (timI l i).1 ∧ (timI l (i - 1)).2 ≤ (timI l i).2):=by
  have h1:=times_get ht hi
  refine ⟨⟨zHN (i + 1) (by omega),h1,zG6 (l.length - i) (Nat.le_refl _) (by omega)⟩,fun h0=>⟨?_,?_⟩⟩
  · obtain ⟨k,rfl⟩:∃ k,i = k + 1:=⟨i - 1,by omega⟩
    show loU l (k + 1 - 1 + 1) ≤ loU l (k + 1 + 1)
    have e:loU l (k + 1 + 1) = max (loU l (k + 1)) ((l.getD (k + 1) prt0).minute - (l.getD (k + 1) prt0).lhi):=rfl
    rw [show k + 1 - 1 + 1 = k + 1 by omega,e]
    omega
  · obtain ⟨k,rfl⟩:∃ k,i = k + 1:=⟨i - 1,by omega⟩
    show hiV l (k + 1 - 1) (l.length - (k + 1 - 1)) ≤ hiV l (k + 1) (l.length - (k + 1))
    rw [show k + 1 - 1 = k by omega,show l.length - k = l.length - (k + 1) + 1 by omega,zGN]
    omega
/-- The minutes for a wait: the sales before as early as can be, the others as late as can be. -/
def waitM (l:List Prt) (fr:Nat) (j:Nat):Int:=if j < fr then (timI l j).1 else (timI l j).2
def comeM (o:Ord) (l:List Prt) (fr:Nat):Int:=if 0 < fr then max o.mlo (timI l (fr - 1)).1 else o.mlo
theorem of_wait {b : Brd} {l : List Prt} {o : Ord} {fr : Nat} (hpo : ∀ p ∈ l, PrtOK b p) (ht : timesB l = true) (hfr : fr ≤ l.length) (hm : o.mlo ≤ o.mhi) (hw : waitsB o (timL l l.length) fr = true) :
    RightM l (waitM l fr) ∧ (o.mlo ≤ comeM o l fr ∧ comeM o l fr ≤ o.mhi) ∧ ∀ j,j < l.length → (waitM l fr j ≤ comeM o l fr ↔ j < fr):=by
  have hmo:=fun i (hi:i < l.length)=>tim_mono hpo ht hi
  have hle1:∀ {i j:Nat},i ≤ j → j < l.length → (timI l i).1 ≤ (timI l j).1:=fun {i j} hij hj=>by
    induction j with
    | zero => obtain rfl : i = 0 := by omega
              omega
    | succ j ih =>
      by_cases e:i = j + 1
      · subst e; omega
      · have h1:=ih (by omega) (by omega)
        have h2:=((hmo (j + 1) hj).2 (by omega)).1
        simp only [Nat.add_sub_cancel] at h2
        omega
  have hle2:∀ {i j:Nat},i ≤ j → j < l.length → (timI l i).2 ≤ (timI l j).2:=fun {i j} hij hj=>by
    induction j with
    | zero => obtain rfl : i = 0 := by omega
              omega
    | succ j ih =>
      by_cases e:i = j + 1
      · subst e; omega
      · have h1:=ih (by omega) (by omega)
        have h2:=((hmo (j + 1) hj).2 (by omega)).2
        simp only [Nat.add_sub_cancel] at h2
        omega
  have hw1:comeM o l fr ≤ o.mhi ∧ (fr < l.length → comeM o l fr ≤ (timI l fr).2 - 1):=by
    unfold waitsB at hw
    rw [decide_eq_true_eq,zEf] at hw
    unfold comeM
    by_cases h0:0 < fr
    · rw [decide_eq_true h0,cond_true,zBs (by omega)] at hw
      rw [if_pos h0]
      by_cases h1:fr < l.length
      · rw [decide_eq_true h1,cond_true,zBs h1] at hw
        exact ⟨by omega,fun _=>by omega⟩
      · rw [decide_eq_false h1,cond_false] at hw
        exact ⟨hw,fun h=>(h1 h).elim⟩
    · rw [decide_eq_false h0,cond_false] at hw
      rw [if_neg h0]
      by_cases h1:fr < l.length
      · rw [decide_eq_true h1,cond_true,zBs h1] at hw
        exact ⟨by omega,fun _=>by omega⟩
      · exact ⟨hm,fun h=>(h1 h).elim⟩
  refine ⟨⟨fun j hj=>?_,fun j h0 hj=>?_⟩,⟨?_,hw1.1⟩,fun j hj=>?_⟩
  · have:=(hmo j hj).1
    unfold waitM
    by_cases e:j < fr
    · rw [if_pos e]; omega
    · rw [if_neg e]; omega
  · have h1:=(hmo j hj).2 h0
    have h2:=(hmo j hj).1
    unfold waitM
    by_cases e:j < fr
    · rw [if_pos e,if_pos (by omega)]; omega
    · rw [if_neg e]
      by_cases e2:j - 1 < fr
      · rw [if_pos e2]; omega
      · rw [if_neg e2]; omega
  · unfold comeM
    by_cases h0:0 < fr
    · rw [if_pos h0]; omega
    · rw [if_neg h0]; omega
  · unfold waitM
    by_cases e:j < fr
    · rw [if_pos e]
      refine ⟨fun _=>e,fun _=>?_⟩
      have:=hle1 (i:=j) (j:=fr - 1) (by omega) (by omega)
      unfold comeM
      rw [if_pos (by omega)]
      omega
    · rw [if_neg e]
      refine ⟨fun h=>?_,fun h=>(e h).elim⟩
      have h1:=hle2 (i:=fr) (j:=j) (by omega) hj
      have h2:=hw1.2 (by omega)
      omega
/-- How an order is filled, in words. -/
theorem fill_go {fee : Int} {o : Ord} {a : Int} {ps ms : List Int} {l : List Prt} {fr : Nat} (hc : ∀ j, j < l.length → (ms.getD j 0 ≤ a ↔ j < fr)) : ∀ (n i : Nat), i + n = l.length → (∀ j, fr ≤ j → j < i → (l.getD j prt0).stock = o.stock → letsB fee o (ps.getD j 0) = false) →
    (∃ k,i ≤ k ∧ fillGo fee o a ps ms i (l.drop i) = (((k:Nat):Int),priceO fee o (ps.getD k 0)) ∧ HitP fee o l (fun j=>ps.getD j 0) fr k) ∨ (fillGo fee o a ps ms i (l.drop i) = (-1,0) ∧ MissP fee o l (fun j=>ps.getD j 0) fr)
  | 0,i,h,hb=>by
    obtain rfl:i = l.length:=by omega
    rw [List.drop_length]
    exact .inr ⟨rfl,fun j h1 h2 h3=>hb j h1 h2 h3⟩
  | n + 1,i,h,hb=>by
    obtain ⟨s,hs⟩:=zT (show i < l.length by omega)
    have hg:l.getD i prt0 = s:=zP hs
    have hci:=hc i (by omega)
    rw [zk hs,fillGo]
    cases ht:((s.stock == o.stock && decide (a < ms.getD i 0)) && letsB fee o (ps.getD i 0))
    · rw [cond_false]
      rcases fill_go hc n (i + 1) (by omega) (fun j h1 h2 h3=>by
        by_cases e:j = i
        · subst e
          have ha:a < ms.getD j 0:=Int.not_le.1 fun h4=>by have:=hci.1 h4; omega
          rw [← hg,h3,beq_self_eq_true,decide_eq_true ha,Bool.true_and,Bool.true_and] at ht
          exact ht
        · exact hb j h1 (by omega) h3) with ⟨k,hk,h1,h2⟩ | h1
      · exact .inl ⟨k,by omega,h1,h2⟩
      · exact .inr h1
    · rw [cond_true]
      simp only [Bool.and_eq_true_iff,beq_iff_eq,decide_eq_true_eq] at ht
      refine .inl ⟨i,Nat.le_refl _,rfl,?_,by omega,by rw [hg]; exact ht.1.1,ht.2,fun j h1 h2 h3=>hb j h1 h2 h3⟩
      rcases Nat.lt_or_ge i fr with h1 | h1
      · have:=hci.2 h1; omega
      · exact h1
theorem fill_is {fee : Int} {o : Ord} {a : Int} {ps ms : List Int} {l : List Prt} {fr : Nat} (hc : ∀ j, j < l.length → (ms.getD j 0 ≤ a ↔ j < fr)) :
    (∃ k:Nat,fillGo fee o a ps ms 0 l = ((k:Int),priceO fee o (ps.getD k 0)) ∧ HitP fee o l (fun j=>ps.getD j 0) fr k) ∨ (fillGo fee o a ps ms 0 l = (-1,0) ∧ MissP fee o l (fun j=>ps.getD j 0) fr):=by
  have h:=fill_go (fee:=fee) (o:=o) (ps:=ps) hc l.length 0 (by omega) (fun j _ h2=>by omega)
  rw [List.drop_zero] at h
  rcases h with ⟨k,_,h1,h2⟩ | h
  · exact .inl ⟨k,h1,h2⟩
  · exact .inr h
theorem hit_uniq {fee:Int} {o:Ord} {l:List Prt} {f:Nat → Int} {fr i j:Nat} (h1:HitP fee o l f fr i) (h2:HitP fee o l f fr j):i = j:=by
  obtain ⟨a1,a2,a3,a4,a5⟩:=h1
  obtain ⟨b1,b2,b3,b4,b5⟩:=h2
  rcases Nat.lt_trichotomy i j with h | h | h
  · have:=b5 i a1 h a3; rw [a4] at this; cases this
  · exact h
  · have:=a5 j b1 h b3; rw [b4] at this; cases this
theorem hit_miss {fee:Int} {o:Ord} {l:List Prt} {f:Nat → Int} {fr i:Nat} (h1:HitP fee o l f fr i) (h2:MissP fee o l f fr):False:=by
  have:=h2 i h1.1 h1.2.1 h1.2.2.1
  rw [h1.2.2.2.1] at this; cases this
end Go.Proofs.YticlpkgpmmhemaaGreatDoor
namespace Go.Proofs.YticlpkgpmmhemaaGreatDoor
open Go.Proofs.Tryz
open Go.RowKit
set_option maxRecDepth 20000
set_option linter.all false
def comeB (os:List Ord) (ms:List Int):Nat → Bool
  | 0=>true
  | n + 1=>comeB os ms n && withinB (ms.getD n 0) (os.getD n ord0).mlo (os.getD n ord0).mhi
/-- Whether a truth is one of a desk whose tape is read. -/
def truthW (d:Dsk) (l:List Prt) (t:Tru):Bool:=bif !(proveI d.b d.tape t.prices) then false else bif (t.minutes.length:Int) != (l.length:Int) then false else bif (t.orders.length:Int) != (d.orders.length:Int) then false else rightGo t.minutes 0 l && comeB d.orders t.orders d.orders.length
theorem zBT {os:List Ord} {ms:List Int}:∀ {n:Nat},comeB os ms n = true ↔ ∀ j,j < n → (os.getD j ord0).mlo ≤ ms.getD j 0 ∧ ms.getD j 0 ≤ (os.getD j ord0).mhi
  | 0=>⟨fun _ j h=>by omega,fun _=>rfl⟩
  | n + 1=>by
    rw [comeB,Bool.and_eq_true_iff,zBT,zm]
    constructor
    · rintro ⟨h1,h2⟩ j hj
      by_cases e:j = n
      · subst e; exact h2
      · exact h1 j (by omega)
    · exact fun h=>⟨fun j hj=>h j (by omega),h n (by omega)⟩
/-- The minutes of the sales before i are right. -/
def rightU (ms:List Int) (l:List Prt):Nat → Bool
  | 0=>true
  | n + 1=>rightU ms l n && (withinB (ms.getD n 0) ((l.getD n prt0).minute - (l.getD n prt0).lhi) ((l.getD n prt0).minute - (l.getD n prt0).llo) && !(decide (0 < n) && decide (ms.getD n 0 < ms.getD (n - 1) 0)))
theorem zBz {ms:List Int} {l:List Prt}:∀ n,n ≤ l.length → (rightU ms l n && rightGo ms n (l.drop n)) = rightGo ms 0 l
  | 0,_=>by rw [List.drop_zero]; rfl
  | n + 1,h=>by
    rw [← zBz n (by omega)]
    obtain ⟨s,hs⟩:=zT (show n < l.length by omega)
    rw [zk hs,rightGo,rightU,zP hs,Bool.and_assoc]
theorem zCp {ms:List Int} {l:List Prt}:rightU ms l l.length = rightGo ms 0 l:=by
  have h:=zBz (ms:=ms) (l:=l) l.length (Nat.le_refl _)
  rw [List.drop_length] at h
  rw [← h]
  show _ = (rightU ms l l.length && true)
  rw [Bool.and_true]
theorem zDh {ms:List Int} {l:List Prt} {n:Nat} (hn:n ≤ l.length) (h:rightU ms l n = false):rightGo ms 0 l = false:=by
  rw [← zBz n hn,h]; rfl
theorem zC9 {os:List Ord} {ms:List Int} {n:Nat} (h:comeB os ms n = false):∀ {k:Nat},n ≤ k → comeB os ms k = false
  | 0, hk => by obtain rfl : n = 0 := by omega
                exact h
  | k + 1,hk=>by
    by_cases e:n = k + 1
    · subst e; exact h
    · rw [comeB,zC9 h (k:=k) (by omega)]; rfl
theorem tru_no {d:Dsk} {l:List Prt} {tp tm to:List Int} (h:(!(proveI d.b d.tape tp) || (tm.length:Int) != (l.length:Int) || (to.length:Int) != (d.orders.length:Int)) = true):truthW d l ⟨tp,tm,to⟩ = false:=by
  unfold truthW
  simp only [Bool.or_eq_true_iff] at h
  dsimp only
  rcases h with (h | h) | h
  · rw [h]; rfl
  · rw [h]; cases !proveI d.b d.tape tp <;> rfl
  · rw [h]; cases !proveI d.b d.tape tp <;> cases (tm.length:Int) != (l.length:Int) <;> rfl
theorem zEc {d:Dsk} {l:List Prt} {tp tm to:List Int} (h1:(!(proveI d.b d.tape tp)) = false) (h2:((tm.length:Int) != (l.length:Int)) = false) (h3:((to.length:Int) != (d.orders.length:Int)) = false):truthW d l ⟨tp,tm,to⟩ = (rightGo tm 0 l && comeB d.orders to d.orders.length):=by
  unfold truthW
  dsimp only
  rw [h1,h2,h3]; rfl
theorem zGZ {A B:Bool} {i:Nat}:((!A) || (decide ((0:Int) < (i:Int)) && B)) = !(A && !(decide (0 < i) && B)):=by
  rw [show decide ((0:Int) < (i:Int)) = decide (0 < i) by simp]
  cases A <;> cases B <;> cases decide (0 < i) <;> rfl
theorem zDy (d:Dsk) (l:List Prt)(t:Tru)(hpo:∀ p ∈ l,PrtOK d.b p) (hl8:l.length ≤ 8) (hN:NamesOK d.b) (h5:d.tape.length ≤ 4294967000) (ho:d.orders.length ≤ 1000):PureAt Tryz.prog 86 [.ptr (wk4C d l),truD t] (.bool (truthW d l t)):=by
 refine Zp Tryz.func86 rfl fun Γ hn hl=>?_
 refine zB ?_
 obtain ⟨tp,tm,to⟩:=t
 dsimp only [truD,truE]
 refine zF (Zb 3 hn rfl fun b3=>Zt 1 [] hn rfl (Zv (zB (zB (zh (W:=fun b=>b ≠ b3) fmo ?_)))))
 refine Zy [0,1,2,3,4,5,6,7,8,9,10,11] [3] hn rfl (zH (Ze1 12 rfl hn rfl (ProveTruth_ok d.b d.tape tp hN h5) (d2_of_d1 (Zy [13,14,15,16,17,18,19,20,21,22,23,24,25,26,27,28,29,30,31,32,33,34,35,36] [3,3] hn rfl (zH (zf (by kernel_rfl) ?_))))))
 refine zA (zG rfl (fun hb0=>?_) (fun hb0=>?_))
 simp only [List.length_map] at hb0
 have q0:=tru_no hb0
 refine Zu (Zt 1 [] hn rfl (Zv (zJ (zC (zZ (zX (.inl rfl) hl rfl (.tmp rfl)) ?_)))))
 rw [q0]
 simp only [List.length_map,Bool.or_eq_false_iff] at hb0
 obtain ⟨⟨q1,q2⟩,q3⟩:=hb0
 have hl1:tm.length = l.length:=by simp at q2; omega
 have hl2:to.length = d.orders.length:=by simp at q3; omega
 refine zI (zA (zB (Zu (Zt 6 [] hn rfl (Zv (zK (awp_loop_on (ι:={i:Nat // i ≤ l.length ∧ rightU tm l i = true}) (fun x=>(51,true,.d (.int .i64 (x.1:Nat))) :: anys [52,53,54,55,6,5,56,57,58,59,60,61,62,63,64,65,66,67,68,69,70,71,72,73,74,75,76,77,78,79,80,81,82,83,84,85,86,87,88,89,90,91,92,93]) (fun x=>gones [6]) (fun x=>l.length - x.1) ⟨0,Nat.zero_le _,rfl⟩ ⟨.inl rfl,zE _⟩ (zR _) ?_)))))))
 rintro ⟨i,hi,hru⟩
 dsimp only
 refine Zu (Zt 1 [] hn rfl (Zv (zB (zG rfl (fun hb1=>?_) (fun hb1=>?_)))))
 have hil:i < l.length:=by simp at hb1; omega
 obtain ⟨p,hp⟩:=zT hil
 have hgp:l.getD i prt0 = p:=zP hp
 have hpk:=hpo p (List.mem_of_getElem? hp)
 have hmi:=hpk.mi
 have hla:=hpk.la
 obtain ⟨m1,hm1⟩:=zT (show i < tm.length by omega)
 obtain ⟨m0,hm0⟩:=zT (show i - 1 < tm.length by omega)
 refine zI (zA (zB (zK (Zu (Zt 1 [] hn rfl (Zi (i:=i) hn rfl rfl (mget hp) ?_))))))
 refine Zt 1 [] hn rfl (Zb 6 hn rfl fun b6=>Zt 2 [6] hn rfl (Zv (zB (zh (W:=fun b=>b ≠ b3 ∧ b ≠ b6) fmo ?_))))
 refine Zy [0,1,2] [3] hn rfl (Zd 3 rfl hn (q_index (i:=i) rfl rfl rfl underlying29 sz3 rfl (mget hm1)) ?_)
 refine Zy [4,5,6,7,8,9] [6,6] hn rfl (Zd 10 rfl hn (z6 rfl rfl rfl (r:=p.minute - p.lhi) (i64w (by omega) rfl)) ?_)
 refine Zy [11,12,13,14,15] [6,6] hn rfl (Zd 16 rfl hn (z6 rfl rfl rfl (r:=p.minute - p.llo) (i64w (by omega) rfl)) ?_)
 refine zH (Ze1 17 rfl hn rfl (yq _ _ _) (d2_of_d1 (Zy [18,19,20,21,22,23,24,25] [3] hn rfl ?_)))
 refine Zg 26 [(80,_),(81,_)] rfl (zM rfl rfl rfl) hn (fun hc=>⟨⟨_,rfl,hc⟩,⟨_,rfl,hc⟩,trivial⟩) (fun hc=>q_index (i:=i) rfl rfl rfl underlying29 sz3 rfl (mget hm1)) ?_
 refine Zy [27,28,29,30] [3] hn rfl ?_
 refine Zg 31 [(86,_)] rfl (zM rfl rfl rfl) hn (fun hc=>⟨⟨_,rfl,hc⟩,trivial⟩) (fun hc=>z6 rfl rfl rfl (r:=((i - 1:Nat):Int)) (i64w (by omega) (by have h0:0 < i:=(by simp at hc; omega); omega))) ?_
 refine Zg 32 [(85,_),(87,_)] rfl (zM rfl rfl rfl) hn (fun hc=>⟨⟨_,rfl,hc⟩,⟨_,rfl,hc⟩,trivial⟩) (fun hc=>q_index (i:=i - 1) rfl rfl rfl underlying29 sz3 rfl (mget hm0)) ?_
 refine Zy [33,34,35,36] [] hn rfl (zH (zf (by kernel_rfl) ?_))
 refine zA (zG rfl (fun hb2=>?_) (fun hb2=>?_))
 have q5:rightU tm l (i + 1) = false:=by rw [rightU,hru,hgp,zP hm1,zP hm0,Bool.true_and]; rw [zGZ] at hb2; rw [Bool.not_eq_true'] at hb2; exact hb2
 refine Zu (Zt 1 [] hn rfl (Zv (zJ (zN (zC (zC (zN (zC (zZ (zX (.inl rfl) hl rfl (.tmp rfl)) ?_)))))))))
 rw [zEc q1 q2 q3,zDh (by omega) q5]; rfl
 have q5:(withinB (tm.getD i 0) (p.minute - p.lhi) (p.minute - p.llo) && !(decide (0 < i) && decide (tm.getD i 0 < tm.getD (i - 1) 0))) = true:=by rw [zP hm1,zP hm0]; rw [zGZ] at hb2; rw [Bool.not_eq_false'] at hb2; exact hb2
 refine zI (zO (zA (zF (Zs hn (za rfl rfl rfl (r:=((i + 1:Nat):Int)) (i64w (by omega) (by omega))) ?_))))
 refine Zt 1 [] hn rfl (zQ ?_)
 exact Zr ⟨i + 1,by omega,by rw [rightU,hru,hgp,Bool.true_and]; exact q5⟩ ⟨.inl rfl,zE _⟩ (zR _) (by simp only; omega)
 obtain rfl:i = l.length:=by simp at hb1; omega
 refine zU (zD (zD (zL (zA (zB (Zu (Zt 7 [] hn rfl (Zv (zK (awp_loop_on (ι:={i:Nat // i ≤ d.orders.length ∧ comeB d.orders to i = true}) (fun x=>(100,true,.d (.int .i64 (x.1:Nat))) :: anys [101,102,103,104,8,7,105,106,107,108,109,110,111,112,113,114]) (fun x=>gones [8]) (fun x=>d.orders.length - x.1) ⟨0,Nat.zero_le _,rfl⟩ ⟨.inl rfl,zE _⟩ (zR _) ?_))))))))))
 rintro ⟨k,hk,hck⟩
 dsimp only
 refine Zu (Zt 1 [] hn rfl (Zv (zB (zG rfl (fun hb3=>?_) (fun hb3=>?_)))))
 have hkl:k < d.orders.length:=by simp at hb3; omega
 obtain ⟨o,hod⟩:=zT hkl
 obtain ⟨mo,hmo⟩:=zT (show k < to.length by omega)
 refine zI (zA (zB (zK (Zu (Zt 1 [] hn rfl (Zi (i:=k) hn rfl rfl (mget hod) ?_))))))
 refine Zt 1 [] hn rfl (Zb 8 hn rfl fun b8=>Zt 2 [8] hn rfl (Zv (zB (zh (W:=fun b=>b ≠ b3 ∧ b ≠ b8) fmo ?_))))
 refine Zy [0,1,2,3,4] [8,3] hn rfl (Zd 5 rfl hn (q_index (i:=k) rfl rfl rfl underlying29 sz3 rfl (mget hmo)) ?_)
 refine Zy [6] [] hn rfl (zH (Ze1 7 rfl hn rfl (rhas4_ok _ _ _) (d2_of_d1 (Zy [8] [] hn rfl (zH (zf (by kernel_rfl) ?_))))))
 refine zA (zG rfl (fun hb4=>?_) (fun hb4=>?_))
 have q6:comeB d.orders to (k + 1) = false:=by rw [comeB,hck,zP hmo,zP hod,Bool.true_and]; simpa using hb4
 refine Zu (Zt 1 [] hn rfl (Zv (zJ (zN (zC (zC (zN (zC (zZ (zX (.inl rfl) hl rfl (.tmp rfl)) ?_)))))))))
 rw [zEc q1 q2 q3,zC9 q6 (by omega),Bool.and_false]
 refine zI (zO (zA (zF (Zs hn (za rfl rfl rfl (r:=((k + 1:Nat):Int)) (i64w (by omega) (by omega))) ?_))))
 refine Zt 1 [] hn rfl (zQ ?_)
 exact Zr ⟨k + 1,by omega,by rw [comeB,hck,zP hmo,zP hod,Bool.true_and]; simpa using hb4⟩ ⟨.inl rfl,zE _⟩ (zR _) (by simp only; omega)
 obtain rfl:k = d.orders.length:=by simp at hb3; omega
 refine zU (zD (zD (zL (zA (Zu (Zt 1 [] hn rfl (Zv (zJ (zZ (zX (.inl rfl) hl rfl (.tmp rfl)) ?_)))))))))
 rw [zEc q1 q2 q3,hck,← zCp,hru]; rfl
/-- The first of some sales that fills an order. -/
def fillL (fee:Int) (o:Ord) (m:Int) (ps ms:List Int):List Nat → Int × Int
  | []=>(-1,0)
  | i :: r=>bif decide (m < ms.getD i 0) && letsB fee o (ps.getD i 0) then ((i:Nat),priceO fee o (ps.getD i 0)) else fillL fee o m ps ms r
theorem zEx {fee:Int} {o:Ord} {m:Int} {ps ms:List Int} {l:List Prt}:∀ (n i:Nat),i + n = l.length → fillL fee o m ps ms ((List.range' i n).filter fun j:Nat=>decide ((0:Int) ≤ (j:Int)) && ((l.getD j prt0).stock == o.stock)) = fillGo fee o m ps ms i (l.drop i)
  | 0,i,h=>by
    obtain rfl:i = l.length:=by omega
    rw [List.drop_length]; rfl
  | n + 1,i,h=>by
    obtain ⟨s,hs⟩:=zT (show i < l.length by omega)
    have hg:l.getD i prt0 = s:=zP hs
    rw [zk hs,fillGo,List.range'_succ,List.filter_cons,show decide ((0:Int) ≤ (i:Int)) = true by simp,Bool.true_and,hg,← zEx n (i + 1) (by omega)]
    cases hk:s.stock == o.stock
    · rfl
    · rw [if_pos rfl,fillL,Bool.true_and]
theorem fill_ofL {fee:Int} {o:Ord} {m:Int} {ps ms:List Int} {l:List Prt}:fillL fee o m ps ms (ofL l o.stock 0) = fillGo fee o m ps ms 0 l:=by
  have h:=zEx (fee:=fee) (o:=o) (m:=m) (ps:=ps) (ms:=ms) (l:=l) l.length 0 (by omega)
  rw [List.drop_zero] at h
  rw [← h]
  unfold ofL ofP
  rw [List.range_eq_range']
/-- The fills of all orders in a truth. -/
def fillsN (fee:Int) (l:List Prt) (t:Tru) (os:List Ord):Nat → List (Int × Int)
  | 0=>[]
  | n + 1=>fillsN fee l t os n ++ [fillGo fee (os.getD n ord0) (t.orders.getD n 0) t.prices t.minutes 0 l]
theorem yr {fee:Int} {l:List Prt} {t:Tru} {os:List Ord}:∀ n,(fillsN fee l t os n).length = n
  | 0=>rfl
  | n + 1=>by rw [fillsN,List.length_append,yr n]; rfl
def playI (d:Dsk) (t:Tru):List (Int × Int) × Int:=bif deskI d != 0 then ([],deskI d) else bif !(truthW d (readI d.b d.tape).1 t) then ([],2) else (fillsN d.fee (readI d.b d.tape).1 t d.orders d.orders.length,0)
theorem sz68:Sz Tryz.prog 68 2:=(by kernel_rfl:(Tryz.prog.info? 68).map (·.size) = some 2)
theorem fill4_eff (d:Dsk) (l:List Prt) (o:Ord) (m:Int)(t:Tru)(hf:0 ≤ d.fee ∧ d.fee ≤ 4)(hpb:∀ p ∈ t.prices,0 ≤ p ∧ p ≤ 1000) (hpl:t.prices.length = l.length) (hml:t.minutes.length = l.length) (hl8:l.length ≤ 8):EffAt Tryz.prog 87 [.d (.ptr (wk4C d l)),.d (ordD o),.d (.int .i64 m),.d (truD t)] [] (X:=Unit) (fun _=>.d (.agg (filE (fillGo d.fee o m t.prices t.minutes 0 l)))) (fun _=>[]):=by
 refine EffAt.of_awpM Tryz.func87 rfl (by kernel_rfl) rfl fun Γ hn=>?_
 refine zB ?_
 obtain ⟨tp,tm,to⟩:=t
 dsimp only [truD,truE]
 dsimp only at hpb hpl hml
 refine zF (Zb 4 hn rfl fun b4=>Zb 5 hn rfl fun b5=>Zb 6 hn rfl fun b6=>Zb 7 hn rfl fun b7=>Zb 8 hn rfl fun b8=>Zv (awp_scope (zB (zq (z7 (t:=4) 4 rfl (nb hn rfl) rfl rfl trivial) ?_))))
 refine zq (z7 (t:=5) 5 rfl (nb hn rfl) rfl rfl trivial) ?_
 refine zq (z7 (t:=6) 6 rfl (nb hn rfl) rfl rfl trivial) ?_
 refine zq (z7 (t:=7) 7 rfl (nb hn rfl) rfl rfl trivial) ?_
 refine zF (Zt 1 [] hn rfl (Zb 9 hn rfl fun b9=>Zt 1 [9] hn rfl (Zv (zB (awp_label (zA (zB (Zu (Zt 3 [] hn rfl (Zk hn rfl (zGG d l o.stock 0) (Zv (zK ?_))))))))))))
 refine awp_rangeFunc (ι:=Int × Int) (fun x=>[(9,.box b9 68 [.d (.int .i64 x.1),.d (.int .i64 x.2)])]) (fun j x=>x = (-1,0) ∧ fillL d.fee o m tp tm ((ofL l o.stock 0).drop j) = fillGo d.fee o m tp tm 0 l) (fun c x=>c = .exit 0 ∧ x = fillGo d.fee o m tp tm 0 l) (-1,0) (zD8 d l o.stock 0 hl8) rfl zBY (by rw [hn]; rfl) (.inl rfl) ⟨rfl,trivial⟩ ⟨rfl,by rw [List.drop_zero,fill_ofL]⟩ (fun _=>rfl) (fun _=>rfl) rfl rfl ?_ ?_ ?_
 rintro l0 r0 Γr j0 x0 x hnr hrd hx0 hA0
 obtain ⟨rfl,hgo⟩:=hA0
 obtain ⟨i,hi,rfl,hil,_,hik⟩:=zCS hx0
 obtain ⟨m1,hm1⟩:=zT (show i < tm.length by omega)
 obtain ⟨p1,hp1⟩:=zT (show i < tp.length by omega)
 have hpb1:=hpb p1 (List.mem_of_getElem? hp1)
 rw [zk hi,fillL,zP hm1,zP hp1] at hgo
 refine zg (ZtI 1 [] (hnr.trans hn) rfl (zn (aend_begin hrd rfl (yd (zw (zA2 (W:=fun b=>True) fmo ?_))))))
 refine d1qI (i:=0) rfl (by kernel_rfl) rfl (fun _ _ _ _ h=>h) rfl rfl (hnr.trans hn) rfl (yX rfl rfl underlying56 rfl sz29 rfl) ?_
 refine d1qI (i:=1) rfl (by kernel_rfl) rfl (fun _ _ _ _ h=>h) rfl rfl (hnr.trans hn) rfl (yV rfl rfl underlying29 rfl seesFA) ?_
 refine d1qI (i:=2) rfl (by kernel_rfl) rfl (fun _ _ _ _ h=>h) rfl rfl (hnr.trans hn) rfl (zr rfl rfl) ?_
 refine d1qI (i:=3) rfl (by kernel_rfl) rfl (fun _ _ _ _ h=>h) rfl rfl (hnr.trans hn) rfl (q_index (i:=i) rfl rfl rfl underlying29 sz3 rfl (mget hm1)) ?_
 refine d1qI (i:=4) rfl (by kernel_rfl) rfl (fun _ _ _ _ h=>h) rfl rfl (hnr.trans hn) rfl (yV rfl rfl underlying3 rfl seesFA) ?_
 refine d1qI (i:=5) rfl (by kernel_rfl) rfl (fun _ _ _ _ h=>h) rfl rfl (hnr.trans hn) rfl (yV rfl rfl underlying3 rfl seesFA) ?_
 refine d1qI (i:=6) rfl (by kernel_rfl) rfl (fun _ _ _ _ h=>h) rfl rfl (hnr.trans hn) rfl (zHa rfl rfl rfl) ?_
 refine d1qI (i:=7) rfl (by kernel_rfl) rfl (fun _ _ _ _ h=>h) rfl rfl (hnr.trans hn) rfl (zr rfl rfl) ?_
 refine d1gI (i:=8) [] rfl (by kernel_rfl) rfl (fun _ _ _ _ h=>h) (zM rfl rfl rfl) rfl (hnr.trans hn) rfl (fun hc=>trivial) (fun hc=>yV rfl rfl underlying187 rfl seesFA) ?_
 refine d1gI (i:=9) [(25,_)] rfl (by kernel_rfl) rfl (fun _ _ _ _ h=>h) (zM rfl rfl rfl) rfl (hnr.trans hn) rfl (fun hc=>⟨⟨_,rfl,hc⟩,trivial⟩) (fun hc=>zAF rfl rfl) ?_
 refine d1gI (i:=10) [(26,_)] rfl (by kernel_rfl) rfl (fun _ _ _ _ h=>h) (zM rfl rfl rfl) rfl (hnr.trans hn) rfl (fun hc=>⟨⟨_,rfl,hc⟩,trivial⟩) (fun hc=>yX rfl rfl underlying199 rfl sz51 rfl) ?_
 refine d1gI (i:=11) [(27,_)] rfl (by kernel_rfl) rfl (fun _ _ _ _ h=>h) (zM rfl rfl rfl) rfl (hnr.trans hn) rfl (fun hc=>⟨⟨_,rfl,hc⟩,trivial⟩) (fun hc=>yQ rfl rfl underlying51 rfl sz51 rfl rfl seesFA) ?_
 refine d1gI (i:=12) [] rfl (by kernel_rfl) rfl (fun _ _ _ _ h=>h) (zM rfl rfl rfl) rfl (hnr.trans hn) rfl (fun hc=>trivial) (fun hc=>yQ rfl rfl underlying152 rfl sz152 rfl rfl seesFA) ?_
 refine d1gI (i:=13) [] rfl (by kernel_rfl) rfl (fun _ _ _ _ h=>h) (zM rfl rfl rfl) rfl (hnr.trans hn) rfl (fun hc=>trivial) (fun hc=>yX rfl rfl underlying56 rfl sz29 rfl) ?_
 refine d1gI (i:=14) [(30,_)] rfl (by kernel_rfl) rfl (fun _ _ _ _ h=>h) (zM rfl rfl rfl) rfl (hnr.trans hn) rfl (fun hc=>⟨⟨_,rfl,hc⟩,trivial⟩) (fun hc=>yV rfl rfl underlying29 rfl seesFA) ?_
 refine d1gI (i:=15) [] rfl (by kernel_rfl) rfl (fun _ _ _ _ h=>h) (zM rfl rfl rfl) rfl (hnr.trans hn) rfl (fun hc=>trivial) (fun hc=>zr rfl rfl) ?_
 refine d1gI (i:=16) [(31,_),(32,_)] rfl (by kernel_rfl) rfl (fun _ _ _ _ h=>h) (zM rfl rfl rfl) rfl (hnr.trans hn) rfl (fun hc=>⟨⟨_,rfl,hc⟩,⟨_,rfl,hc⟩,trivial⟩) (fun hc=>q_index (i:=i) rfl rfl rfl underlying29 sz3 rfl (mget hp1)) ?_
 refine d1gI (i:=17) [(33,_)] rfl (by kernel_rfl) rfl (fun _ _ _ _ h=>h) (zM rfl rfl rfl) rfl (hnr.trans hn) rfl (fun hc=>⟨⟨_,rfl,hc⟩,trivial⟩) (fun hc=>yV rfl rfl underlying3 rfl seesFA) ?_
 refine yO ?_
 refine y6 (i:=18) (by kernel_rfl) rfl ((s_call [(28,_),(29,_),(34,_)] (fun hc=>zEQ d o p1 hf hpb1) rfl (zM rfl rfl rfl) rfl (nb (hnr.trans hn) rfl) (fun hc=>⟨⟨_,rfl,hc⟩,⟨_,rfl,hc⟩,⟨_,rfl,hc⟩,trivial⟩) rfl rfl (.refl _)).i rfl) fun _=>?_
 refine yW (d1qI (i:=19) rfl (by kernel_rfl) rfl (fun _ _ _ _ h=>h) rfl rfl (hnr.trans hn) rfl (y9 rfl rfl rfl (by intro hB; first | (rw [hB]; rfl) | (rw [hB,hc]; rfl) | simp_all)) ?_)
 refine yO (zAw (by kernel_rfl) ?_)
 refine zb (yn rfl (fun hb0=>?_) (fun hb0=>?_))
 have q1:(decide (m < m1) && letsB d.fee o p1) = true:=hb0
 rw [q1,cond_true] at hgo
 refine zw (zA2 (W:=fun b=>True) fmo ?_)
 refine d1qI (i:=0) rfl (by kernel_rfl) rfl (fun _ _ _ _ h=>h) rfl rfl (hnr.trans hn) rfl (zr rfl rfl) ?_
 refine d1qI (i:=1) rfl (by kernel_rfl) rfl (fun _ _ _ _ h=>h) rfl rfl (hnr.trans hn) rfl (yV rfl rfl underlying187 rfl seesFA) ?_
 refine d1qI (i:=2) rfl (by kernel_rfl) rfl (fun _ _ _ _ h=>h) rfl rfl (hnr.trans hn) rfl (zAF rfl rfl) ?_
 refine d1qI (i:=3) rfl (by kernel_rfl) rfl (fun _ _ _ _ h=>h) rfl rfl (hnr.trans hn) rfl (yX rfl rfl underlying199 rfl sz51 rfl) ?_
 refine d1qI (i:=4) rfl (by kernel_rfl) rfl (fun _ _ _ _ h=>h) rfl rfl (hnr.trans hn) rfl (yQ rfl rfl underlying51 rfl sz51 rfl rfl seesFA) ?_
 refine d1qI (i:=5) rfl (by kernel_rfl) rfl (fun _ _ _ _ h=>h) rfl rfl (hnr.trans hn) rfl (yQ rfl rfl underlying152 rfl sz152 rfl rfl seesFA) ?_
 refine d1qI (i:=6) rfl (by kernel_rfl) rfl (fun _ _ _ _ h=>h) rfl rfl (hnr.trans hn) rfl (yX rfl rfl underlying56 rfl sz29 rfl) ?_
 refine d1qI (i:=7) rfl (by kernel_rfl) rfl (fun _ _ _ _ h=>h) rfl rfl (hnr.trans hn) rfl (yV rfl rfl underlying29 rfl seesFA) ?_
 refine d1qI (i:=8) rfl (by kernel_rfl) rfl (fun _ _ _ _ h=>h) rfl rfl (hnr.trans hn) rfl (zr rfl rfl) ?_
 refine d1qI (i:=9) rfl (by kernel_rfl) rfl (fun _ _ _ _ h=>h) rfl rfl (hnr.trans hn) rfl (q_index (i:=i) rfl rfl rfl underlying29 sz3 rfl (mget hp1)) ?_
 refine d1qI (i:=10) rfl (by kernel_rfl) rfl (fun _ _ _ _ h=>h) rfl rfl (hnr.trans hn) rfl (yV rfl rfl underlying3 rfl seesFA) ?_
 refine yO (y6 (i:=11) (by kernel_rfl) rfl ((s_call [] (fun _=>zB8 d o p1 hf hpb1) rfl (yC rfl) rfl (nb (hnr.trans hn) rfl) (fun _=>trivial) rfl rfl (.refl _)).i rfl) fun _=>?_)
 refine yW (d1qI (i:=12) rfl (by kernel_rfl) rfl (fun _ _ _ _ h=>h) rfl rfl (hnr.trans hn) rfl (yt rfl bt68 rfl rfl rfl rfl rfl) ?_)
 refine yO (y6 (i:=13) (by kernel_rfl) rfl ((Zx 9 sz68).i rfl) fun _=>?_)
 refine yW (yO (zAw (by kernel_rfl) ?_))
 refine zb (zAu (yi rfl ?_))
 exact aend_round_exit ((i:Nat),priceO d.fee o p1) ⟨rfl,hgo⟩ ⟨rfl,rfl,trivial⟩
 have q1:(decide (m < m1) && letsB d.fee o p1) = false:=hb0
 rw [q1,cond_false] at hgo
 refine yu (zO ?_)
 exact yb (-1,0) ⟨rfl,hgo⟩ ⟨rfl,rfl,trivial⟩
 rintro x D0 hA0
 obtain ⟨rfl,hgo⟩:=hA0
 rw [zBC,List.drop_length,fillL] at hgo
 rw [← hgo]
 refine zO (zA (Zu (Zt 2 [9,8] hn rfl (Zv (zJ ?_)))))
 refine zDF ?_ (fun _ e=>by cases e)
 exact ret_M (.inl rfl) () (.inr rfl) (zu rfl (.d (.cellA rfl (id:=8) rfl underlying68 rfl sz68 rfl rfl))) trivial rfl
 rintro c0 x D0 hB0
 obtain ⟨rfl,hfin⟩:=hB0
 rw [← hfin]
 refine zU (zL (zA (Zu (Zt 2 [9,8] hn rfl (Zv (zJ ?_))))))
 refine zDF ?_ (fun _ e=>by cases e)
 exact ret_M (.inl rfl) () (.inr rfl) (zu rfl (.d (.cellA rfl (id:=8) rfl underlying68 rfl sz68 rfl rfl))) trivial rfl
/-- A truth of a desk whose tape is read, in words. -/
structure TruW (d:Dsk) (l:List Prt) (t:Tru):Prop where
  pl:t.prices.length = l.length
  tr:TruF d.b l 0 fun k=>t.prices.getD k 0
  ml:t.minutes.length = l.length
  rm:RightM l fun k=>t.minutes.getD k 0
  ol:t.orders.length = d.orders.length
  od:∀ j,j < d.orders.length → (d.orders.getD j ord0).mlo ≤ t.orders.getD j 0 ∧ t.orders.getD j 0 ≤ (d.orders.getD j ord0).mhi
theorem zBP {d:Dsk} {t:Tru} (h0:(readI d.b d.tape).2 = 0):truthW d (readI d.b d.tape).1 t = true ↔ TruW d (readI d.b d.tape).1 t:=by
  unfold truthW
  rw [zDx,h0]
  constructor
  · intro h
    cases h1:isTruthB d.b (readI d.b d.tape).1 t.prices 0 <;> rw [h1] at h
    · cases h
    · cases h2:(t.minutes.length:Int) != ((readI d.b d.tape).1.length:Int) <;> rw [h2] at h
      · cases h3:(t.orders.length:Int) != (d.orders.length:Int) <;> rw [h3] at h
        · have h4:(rightGo t.minutes 0 (readI d.b d.tape).1 && comeB d.orders t.orders d.orders.length) = true:=h
          rw [Bool.and_eq_true_iff,zCB,zBT] at h4
          obtain ⟨h5,h6⟩:=kY.1 h1
          exact ⟨h5,h6,by simp at h2; omega,h4.1,by simp at h3; omega,h4.2⟩
        · cases h
      · cases h
  · rintro ⟨h1,h2,h3,h4,h5,h6⟩
    rw [kY.2 ⟨h1,h2⟩,show ((t.minutes.length:Int) != ((readI d.b d.tape).1.length:Int)) = false by simp [h3],show ((t.orders.length:Int) != (d.orders.length:Int)) = false by simp [h5],zCB.2 h4,zBT.2 h6]
    rfl
theorem TruW.pb {d:Dsk} {l:List Prt} {t:Tru} (h:TruW d l t):∀ p ∈ t.prices,0 ≤ p ∧ p ≤ 1000:=fun p hp=>by
  obtain ⟨i,hi⟩:=List.getElem?_of_mem hp
  have hil:=(List.getElem?_eq_some_iff.1 hi).1
  have:=(h.tr i (by have:=h.pl; omega)).bd
  rw [zP hi] at this
  omega
theorem yh {d:Dsk} (h:deskI d = 0):(readI d.b d.tape).2 = 0 ∧ d.orders.length ≤ 5 ∧ (0 ≤ d.fee ∧ d.fee ≤ 4) ∧ ∀ o ∈ d.orders,ordB d.b o = true:=by
  unfold deskI at h
  cases h1:(readI d.b d.tape).2 != 0 <;> rw [h1] at h
  · cases h2:decide (5 < (d.orders.length:Int)) <;> rw [h2] at h
    · cases h3:!(withinB d.fee 0 4) || !(d.orders.all (ordB d.b)) <;> rw [h3] at h
      · simp only [Bool.or_eq_false_iff,Bool.not_eq_false'] at h3
        have h4:=zm.1 h3.1
        simp only [decide_eq_false_iff_not] at h2
        exact ⟨by simpa using h1,by omega,h4,fun o ho=>List.all_eq_true.1 h3.2 o ho⟩
      · cases h
    · cases h
  · rw [cond_true] at h
    rw [h] at h1; cases h1
theorem zAf {b:Brd} {o:Ord} (h:ordB b o = true):(0 ≤ o.stock ∧ o.stock < b.stocks.length) ∧ (1 ≤ o.number ∧ o.number ≤ 99) ∧ (0 ≤ o.limit ∧ o.limit ≤ 799) ∧ 0 ≤ o.mlo ∧ o.mlo ≤ o.mhi ∧ o.mhi ≤ 600:=by
  unfold ordB at h
  simp only [Bool.and_eq_true_iff,zm,decide_eq_true_eq] at h
  omega
theorem zF3 {l:List Int} {i:Nat} (h:i < l.length):(intsT l)[0 + i * 1]? = some (.d (.int .i64 (l.getD i 0))):=by
  obtain ⟨x,hx⟩:=zT h
  rw [Nat.zero_add,Nat.mul_one,List.getElem?_map,hx,zP hx]; rfl
theorem zG4 {l:List Int} {i:Nat} {x:Int}:(intsT l).set (0 + i * 1) (.d (.int .i64 x)) = intsT (l.set i x):=by
  rw [Nat.zero_add,Nat.mul_one,intsT,intsT,List.map_set]
/-- What the house has by the first orders. -/
def hasN (os:List Ord) (fs:List (Int × Int)) (n:Nat):Nat → List Int × Int
  | 0=>(List.replicate n 0,0)
  | i + 1=>bif (fs.getD i (-1,0)).1 == -1 then hasN os fs n i else
    ((hasN os fs n i).1.set (os.getD i ord0).stock.toNat ((hasN os fs n i).1.getD (os.getD i ord0).stock.toNat 0 + (bif (os.getD i ord0).buy then -(os.getD i ord0).number else (os.getD i ord0).number)),(hasN os fs n i).2 - (bif (os.getD i ord0).buy then -(os.getD i ord0).number else (os.getD i ord0).number) * (fs.getD i (-1,0)).2)
def hasI (d:Dsk) (t:Tru):List Int × Int × Int:=bif (playI d t).2 != 0 then ([],0,(playI d t).2) else ((hasN d.orders (playI d t).1 d.b.stocks.length (playI d t).1.length).1,(hasN d.orders (playI d t).1 d.b.stocks.length (playI d t).1.length).2,0)
theorem zBA {os:List Ord} {fs:List (Int × Int)} {n:Nat}:∀ i,(hasN os fs n i).1.length = n
  | 0=>by simp [hasN]
  | i + 1=>by
    rw [hasN]
    cases (fs.getD i (-1,0)).1 == -1
    · rw [cond_false,List.length_set]; exact zBA i
    · exact zBA i
theorem zGf {fee:Int} {o:Ord} {m:Int} {ps ms:List Int} (hf:0 ≤ fee ∧ fee ≤ 4) (hp:∀ p ∈ ps,0 ≤ p ∧ p ≤ 1000):∀ {l:List Prt} {i:Nat},0 ≤ (fillGo fee o m ps ms i l).2 ∧ (fillGo fee o m ps ms i l).2 ≤ 1004
  | [],i=>by simp [fillGo]
  | s :: r,i=>by
    rw [fillGo]
    cases (s.stock == o.stock && decide (m < ms.getD i 0)) && letsB fee o (ps.getD i 0)
    · exact zGf hf hp
    · have h1 : 0 ≤ ps.getD i 0 ∧ ps.getD i 0 ≤ 1000 := by
        by_cases h:i < ps.length
        · obtain ⟨x,hx⟩:=zT h
          rw [zP hx]; exact hp x (List.mem_of_getElem? hx)
        · rw [List.getD_eq_getElem?_getD,List.getElem?_eq_none (by omega)]; simp
      rw [cond_true]
      unfold priceO
      cases o.buy <;> simp only [cond_true,cond_false] <;> omega
theorem zDA {fee:Int} {l:List Prt} {t:Tru} {os:List Ord}:∀ {n i:Nat},i < n → (fillsN fee l t os n)[i]? = some (fillGo fee (os.getD i ord0) (t.orders.getD i 0) t.prices t.minutes 0 l)
  | 0,i,h=>by omega
  | n + 1,i,h=>by
    rw [fillsN]
    by_cases e:i = n
    · subst e
      rw [List.getElem?_append_right (by rw [yr]; exact Nat.le_refl _),yr,Nat.sub_self]; rfl
    · rw [List.getElem?_append_left (by rw [yr]; omega)]
      exact zDA (by omega)
theorem play_ok0 {d:Dsk} {t:Tru} (h:(playI d t).2 = 0):deskI d = 0 ∧ TruW d (readI d.b d.tape).1 t ∧ (playI d t).1 = fillsN d.fee (readI d.b d.tape).1 t d.orders d.orders.length:=by
  unfold playI at h ⊢
  cases h1:deskI d != 0 <;> rw [h1] at h
  · have h0:deskI d = 0:=by simpa using h1
    cases h2:truthW d (readI d.b d.tape).1 t <;> rw [h2] at h
    · cases h
    · exact ⟨h0,(zBP (yh h0).1).1 h2,rfl⟩
  · rw [cond_true] at h
    rw [show deskI d = 0 from h] at h1; cases h1
theorem zGA {os:List Ord} {fs:List (Int × Int)} {n:Nat} (ho:∀ o ∈ os,1 ≤ o.number ∧ o.number ≤ 99) (hf:∀ f ∈ fs,0 ≤ f.2 ∧ f.2 ≤ 1004):∀ i:Nat,i ≤ os.length → i ≤ fs.length → (∀ j,-99 * (i:Int) ≤ (hasN os fs n i).1.getD j 0 ∧ (hasN os fs n i).1.getD j 0 ≤ 99 * (i:Int)) ∧ -100000 * (i:Int) ≤ (hasN os fs n i).2 ∧ (hasN os fs n i).2 ≤ 100000 * (i:Int)
  | 0,_,_=>by
    refine ⟨fun j=>?_,by simp [hasN],by simp [hasN]⟩
    have:(List.replicate n (0:Int)).getD j 0 = 0:=by
      rw [List.getD_eq_getElem?_getD,List.getElem?_replicate]; split <;> rfl
    simp only [hasN]; rw [this]; omega
  | i + 1,h1,h2=>by
    obtain ⟨ih1,ih2,ih3⟩:=zGA (n:=n) ho hf i (by omega) (by omega)
    obtain ⟨o,hoi⟩:=zT (show i < os.length by omega)
    obtain ⟨f,hfi⟩:=zT (show i < fs.length by omega)
    have hob:=ho o (List.mem_of_getElem? hoi)
    have hfb:=hf f (List.mem_of_getElem? hfi)
    rw [hasN,zP hoi,zP hfi]
    cases f.1 == -1
    · rw [cond_false]
      have hq:-99 ≤ (bif o.buy then -o.number else o.number) ∧ (bif o.buy then -o.number else o.number) ≤ 99:=by
        cases o.buy <;> simp only [cond_true,cond_false] <;> omega
      generalize (bif o.buy then -o.number else o.number) = q at hq
      have hm:-100000 ≤ q * f.2 ∧ q * f.2 ≤ 100000:=by
        have e1:q * f.2 ≤ 99 * f.2:=Int.mul_le_mul_of_nonneg_right hq.2 hfb.1
        have e2:-99 * f.2 ≤ q * f.2:=Int.mul_le_mul_of_nonneg_right hq.1 hfb.1
        omega
      refine ⟨fun j=>?_,by simp only; omega,by simp only; omega⟩
      simp only
      have hj:=ih1 j
      have hk:=ih1 o.stock.toNat
      rw [List.getD_eq_getElem?_getD,List.getElem?_set]
      split
      · split
        · simp only [Option.getD_some]; omega
        · simp only [Option.getD_none]; omega
      · rw [← List.getD_eq_getElem?_getD]; omega
    · rw [cond_true]
      exact ⟨fun j=>by have:=ih1 j; omega,by omega,by omega⟩
theorem fill4_ok (d:Dsk) (l:List Prt) (o:Ord) (m:Int) (t:Tru) (hf:0 ≤ d.fee ∧ d.fee ≤ 4) (hpb:∀ p ∈ t.prices,0 ≤ p ∧ p ≤ 1000) (hpl:t.prices.length = l.length) (hml:t.minutes.length = l.length) (hl8:l.length ≤ 8):PureAt Tryz.prog 87 [.ptr (wk4C d l),ordD o,.int .i64 m,truD t] (.agg (filE (fillGo d.fee o m t.prices t.minutes 0 l))) :=
  PureAt.of_eff (ds:=[.ptr (wk4C d l),ordD o,.int .i64 m,truD t]) (fill4_eff d l o m t hf hpb hpl hml hl8)
theorem sz56:Sz Tryz.prog 56 3:=(by kernel_rfl:(Tryz.prog.info? 56).map (·.size) = some 3)
theorem elt53:ElT Tryz.prog 53 68 2 16:=zAA underlying53 (z:=(.agg #[(.int .i64 0),(.int .i64 0)])) (by kernel_rfl) rfl (by decide)
theorem Prove4_ok (d:Dsk) (hN:NamesOK d.b) (h5:d.tape.length ≤ 4294967000) (ho:d.orders.length ≤ 1000)(t:Tru):PureAt Tryz.prog 58 [dskD d,truD t] (.bool (deskI d == 0 && truthW d (readI d.b d.tape).1 t)):=by
 refine Zp Tryz.func58 rfl fun Γ hn hl=>?_
 refine Zu (Zb 2 hn rfl fun b2=>Zb 3 hn rfl fun b3=>Zt 1 [] hn rfl (Zv (zB ?_)))
 rcases hq:deskI d != 0 with _ | _
 have h0:deskI d = 0:=by simpa using hq
 have hdv:=yh h0
 obtain ⟨hpo,hl8⟩:=yS (b:=d.b) (s:=d.tape)
 refine zF (Zt 1 [2] hn rfl (Zk hn rfl ((by have h:=zA9 d hN h5 ho; unfold opP at h; rw [hq] at h; exact h)) ?_))
 refine Zt 5 [] hn rfl (Zv (Zu (Zt 5 [3] hn rfl (Zkg hn rfl (fun hc=>zDy d (readI d.b d.tape).1 t hpo hl8 hN h5 ho) (Zt 2 [] hn rfl (Zv (zJ ?_)))))))
 exact zX (.inl rfl) hl rfl (.tmp rfl)
 refine zF (Zt 1 [2] hn rfl (Zk hn rfl ((by have h:=zA9 d hN h5 ho; unfold opP at h; rw [hq] at h; exact h)) ?_))
 refine Zt 5 [] hn rfl (Zv (Zu (Zt 5 [3] hn rfl (Zkg hn rfl (fun hc=>(show PureAt Tryz.prog 86 [_,_] (.bool false) from absurd hc (by rw [show (deskI d == 0) = false by simpa using hq]; decide))) (Zt 2 [] hn rfl (Zv (zJ (zZ (zX (.inl rfl) hl rfl (.tmp rfl)) ?_))))))))
 rw [show (deskI d == 0) = false by simpa using hq]; rfl
theorem fills_add {fee:Int} {l:List Prt} {t:Tru} {os:List Ord} {i:Nat} {o:Ord} {m:Int} (h1:os.getD i ord0 = o) (h2:t.orders.getD i 0 = m):(fillsN fee l t os i).map filE ++ [filE (fillGo fee o m t.prices t.minutes 0 l)] = (fillsN fee l t os (i + 1)).map filE:=by
  rw [fillsN,List.map_append,h1,h2]; rfl
theorem zE8 (d:Dsk) (hN:NamesOK d.b) (h5:d.tape.length ≤ 4294967000) (ho:d.orders.length ≤ 1000)(t:Tru):PureAt Tryz.prog 24 [dskD d,truD t] (.tup [filsD (playI d t).1,.int .i64 (playI d t).2]):=by
 refine Zp Tryz.func24 rfl fun Γ hn hl=>?_
 refine Zu (Zb 2 hn rfl fun b2=>Zb 3 hn rfl fun b3=>Zt 2 [] hn rfl (Zv (zB ?_)))
 rcases hq:deskI d != 0 with _ | _
 have h0:deskI d = 0:=by simpa using hq
 obtain ⟨hr0,ho5,hf,hob⟩:=yh h0
 obtain ⟨hpo,hl8⟩:=yS (b:=d.b) (s:=d.tape)
 refine zF (Zt 1 [2] hn rfl (Zk hn rfl ((by have h:=zA9 d hN h5 ho; unfold opP at h; rw [hq] at h; exact h)) ?_))
 refine Zt 5 [] hn rfl (Zv (zB (zK (Zu (Zt 3 [] hn rfl (Zv (zG rfl (fun hb0=>?_) (fun hb0=>?_))))))))
 exact absurd hb0 (by rw [h0]; decide)
 refine Zu (Zt 2 [3] hn rfl (Zk hn rfl (zDy d (readI d.b d.tape).1 t hpo hl8 hN h5 ho) (Zt 2 [] hn rfl (Zv (zG rfl (fun hb1=>?_) (fun hb1=>?_))))))
 have q1:(!(truthW d (readI d.b d.tape).1 t)) = true:=hb1
 refine Zu (Zt 2 [] hn rfl (Zv (zJ (zN (zC (kN (y1 (.inl rfl) hl rfl (.tmp rfl) (.tmp rfl)) ?_))))))
 unfold playI; rw [hq,q1]; exact .tup (.cons (.nil 2) (.refl _))
 have q1:(!(truthW d (readI d.b d.tape).1 t)) = false:=hb1
 have hw:=(zBP hr0).1 ((Bool.not_eq_false' (b:=truthW d (readI d.b d.tape).1 t)).mp q1)
 have hol:=hw.ol
 refine zI (zO (zA (Zu (Zt 1 [] hn rfl (Zv (zB (zB (zq (g_nil (t:=8) (id:=8) 68 2 rfl (nb hn rfl)) ?_))))))))
 refine zF (Zt 4 [2] hn rfl (Zv (zK (awp_loop_on (ι:={x:Nat × Value // x.1 ≤ d.orders.length}) (fun x=>(28,true,.d (.int .i64 (x.1.1:Nat))) :: (8,true,.val x.1.2) :: anys [29,30,31,32,10,9,33,34,35,36,37,38,39,40,41,42,43,44,45]) (fun x=>(8,.row x.1.2 68 2 ((fillsN d.fee (readI d.b d.tape).1 t d.orders x.1.1).map filE)) :: gones [10]) (fun x=>d.orders.length - x.1.1) ⟨(0,_),Nat.zero_le _⟩ ⟨.inl rfl,.inl rfl,zE _⟩ ⟨.inl rfl,zR _⟩ ?_))))
 rintro ⟨⟨i,vv⟩,hi⟩
 dsimp only
 dsimp only at hi
 refine Zu (Zt 1 [] hn rfl (Zv (zB (zG rfl (fun hb2=>?_) (fun hb2=>?_)))))
 have hil:i < d.orders.length:=by simp at hb2; omega
 obtain ⟨o,hod⟩:=zT hil
 obtain ⟨mo,hto⟩:=zT (show i < t.orders.length by omega)
 refine zI (zA (zB (zK (Zu (Zt 1 [] hn rfl (Zi (i:=i) hn rfl rfl (mget hod) ?_))))))
 refine Zt 1 [] hn rfl (Zb 10 hn rfl fun b10=>Zt 2 [10] hn rfl (Zv (zh (W:=fun b=>b ≠ b3 ∧ b ≠ b10) fmo ?_)))
 refine Zy [0,1,2,3,4,5] [10,3] hn rfl (Zd 6 rfl hn (q_index (i:=i) rfl rfl rfl underlying29 sz3 rfl (mget hto)) ?_)
 refine Zy [7,8] [3] hn rfl (zH (Ze1 9 rfl hn rfl (fill4_ok d (readI d.b d.tape).1 o mo t hf hw.pb hw.pl hw.ml hl8) (d2_of_d1 (zH (Zo 10 rfl (zS rfl rfl rfl (nb hn rfl) underlying53 sz68 zr68 rfl rfl rfl (show _ = [.d (.int .i64 0),.d (.int .i64 0)] from by kernel_rfl) (by kernel_rfl) rfl rfl rfl rfl rfl) fun _=>?_)))))
 refine d2_of_d1 (zH (yN (i:=8) (j:=3) rfl rfl rfl (fun hne8_3=>?_)))
 refine yN (i:=8) (j:=10) rfl rfl rfl (fun hne8_10=>?_)
 refine Zo 11 rfl (s_append (id:=8) rfl rfl rfl (nb hn rfl) elt53 trivial rfl rfl rfl (by simp [chunk,yr]; omega) (by simp [chunk,yr]; omega) (fun b hb=>⟨fun e=>hne8_3 _ hb (congrArg some e.symm),fun e=>hne8_10 _ hb (congrArg some e.symm)⟩)) fun v44=>?_
 refine d2_of_d1 (Zy [12] [] hn rfl (zH (zf (by kernel_rfl) ?_)))
 refine zO (zA (zF (Zs hn (za rfl rfl rfl (r:=((i + 1:Nat):Int)) (i64w (by omega) (by omega))) ?_)))
 refine Zt 1 [] hn rfl (zQ ?_)
 exact Zr ⟨(i + 1,v44),by simp only; omega⟩ ⟨.inl rfl,.inl rfl,zE _⟩ ⟨.inl (congrArg (fun z=>some (Res.row v44 68 2 z)) (fills_add (zP hod) (zP hto))),zR _⟩ (by simp only; omega)
 obtain rfl:i = d.orders.length:=by simp at hb2; omega
 refine zU (zD (zD (zL (zA (Zu (Zt 3 [] hn rfl (Zv (zJ (ya (g_row (t:=4) (id:=8) rfl rfl) ?_)))))))))
 refine kN (y1 (.inl rfl) hl rfl (.tmp rfl) (.tmp rfl)) ?_
 unfold playI; rw [hq,q1]; exact .refl _
 refine zF (Zt 1 [2] hn rfl (Zk hn rfl ((by have h:=zA9 d hN h5 ho; unfold opP at h; rw [hq] at h; exact h)) ?_))
 refine Zt 5 [] hn rfl (Zv (zB (zK (Zu (Zt 3 [] hn rfl (Zv (zG rfl (fun hb3=>?_) (fun hb3=>?_))))))))
 refine Zu (Zt 3 [] hn rfl (Zv (zJ (zN (zC (kN (y1 (.inl rfl) hl rfl (.tmp rfl) (.tmp rfl)) ?_))))))
 unfold playI; rw [hq]; exact .tup (.cons (.nil 2) (.refl _))
 exact absurd hb3 (by rw [hq]; decide)
def fltI (d:Dsk):List Prt:=bif deskI d != 0 then [] else (readI d.b d.tape).1
theorem zG0 {b:Brd} {o:Ord}:(((!(withinB o.stock 0 ((b.stocks.length:Int) - 1)) || !(withinB o.number 1 99)) || !(withinB o.limit 0 799)) || !(spansB o.mlo o.mhi 0 600)) = !(ordB b o):=by
  unfold ordB spansB
  cases withinB o.stock 0 ((b.stocks.length:Int) - 1) <;> cases withinB o.number 1 99 <;> cases withinB o.limit 0 799 <;> simp [Bool.and_assoc]
theorem read_chk {b:Brd} {s:List UInt8} (h:checkT b ≠ 0):(readI b s).2 = checkT b:=by
  unfold readI
  rw [show (checkT b != 0) = true by simpa using h]; rfl
theorem ord_bad {b:Brd} {l:List Ord} {i:Nat} {o:Ord} (h:l[i]? = some o) (ho:ordB b o = false):l.all (ordB b) = false:=by
  rw [Bool.eq_false_iff]
  intro h1
  rw [List.all_eq_true.1 h1 o (List.mem_of_getElem? h)] at ho; cases ho
theorem zG8 {d:Dsk} (h:((readI d.b d.tape).2 != 0) = true):deskI d = (readI d.b d.tape).2 ∧ fltI d = []:=by
  have e:deskI d = (readI d.b d.tape).2:=by unfold deskI; rw [h]; rfl
  exact ⟨e,by unfold fltI; rw [e,h]; rfl⟩
theorem desk_2 {d:Dsk} (h:((readI d.b d.tape).2 != 0) = false) (h1:decide ((5:Int) < (d.orders.length:Int)) = true):deskI d = 3 ∧ fltI d = []:=by
  have e:deskI d = 3:=by unfold deskI; rw [h,h1]; rfl
  exact ⟨e,by unfold fltI; rw [e]; rfl⟩
theorem zHC {d:Dsk} (h:((readI d.b d.tape).2 != 0) = false) (h1:decide ((5:Int) < (d.orders.length:Int)) = false) (h2:(!(withinB d.fee 0 4) || !(d.orders.all (ordB d.b))) = true):deskI d = 1 ∧ fltI d = []:=by
  have e:deskI d = 1:=by unfold deskI; rw [h,h1,h2]; rfl
  exact ⟨e,by unfold fltI; rw [e]; rfl⟩
theorem desk_4 {d:Dsk} (h:((readI d.b d.tape).2 != 0) = false) (h1:decide ((5:Int) < (d.orders.length:Int)) = false) (h2:(!(withinB d.fee 0 4) || !(d.orders.all (ordB d.b))) = false):deskI d = 0 ∧ fltI d = (readI d.b d.tape).1:=by
  have e:deskI d = 0:=by unfold deskI; rw [h,h1,h2]; rfl
  exact ⟨e,by unfold fltI; rw [e]; rfl⟩
theorem sz61:Sz Tryz.prog 61 6:=(by kernel_rfl:(Tryz.prog.info? 61).map (·.size) = some 6)
theorem sz126:Sz Tryz.prog 126 2:=(by kernel_rfl:(Tryz.prog.info? 126).map (·.size) = some 2)
theorem zCC (d:Dsk) (hN:NamesOK d.b) (h5:d.tape.length ≤ 4294967000) (ho:d.orders.length ≤ 1000):PureAt Tryz.prog 62 [dskD d] (.tup [prtsD (fltI d),.int .i64 (deskI d)]):=by
 refine Zp Tryz.func62 rfl fun Γ hn hl=>?_
 refine Zu (Zb 1 hn rfl fun b1=>Zt 2 [] hn rfl (Zv (zB (Zu (Zt 2 [1] hn rfl (Zk hn rfl (Fault_ok d.b hN) (Zt 1 [] hn rfl (Zv (Zu (Zt 2 [] hn rfl (Zv (zG rfl (fun hb0=>?_) (fun hb0=>?_)))))))))))))
 have q0:checkT d.b ≠ 0:=by simpa using hb0
 have qr:(readI d.b d.tape).2 = checkT d.b:=read_chk q0
 obtain ⟨e1,e2⟩:=zG8 (d:=d) (by rw [qr]; simpa using q0)
 refine Zu (Zt 3 [] hn rfl (Zv (zJ (zC (kN (y1 (.inl rfl) hl rfl (.tmp rfl) (.tmp rfl)) ?_)))))
 rw [e1,e2,qr]; exact .tup (.cons (.nil 8) (.refl _))
 have q0:checkT d.b = 0:=by simpa using hb0
 have v:=(zAq q0)
 have hn4:=v.n4
 have er:=zFN q0 d.tape
 refine zI (zA (Zu (Zt 4 [1,1] hn rfl (Zk hn rfl (refRead_ok d.b d.tape (by omega) h5) (Zt 5 [] hn rfl (Zv (zB (Zu (Zt 2 [] hn rfl (Zv (zG rfl (fun hb1=>?_) (fun hb1=>?_))))))))))))
 have q1:((readI d.b d.tape).2 != 0) = true:=by rw [← er]; exact hb1
 obtain ⟨e1,e2⟩:=zG8 q1
 refine Zu (Zt 3 [] hn rfl (Zv (zJ (zC (kN (y1 (.inl rfl) hl rfl (.tmp rfl) (.tmp rfl)) ?_)))))
 rw [e1,e2,er]; exact .tup (.cons (.nil 8) (.refl _))
 have q1:((readI d.b d.tape).2 != 0) = false:=by rw [← er]; exact hb1
 refine zI (zA (zB (Zu (Zt 4 [1] hn rfl (Zv (zG rfl (fun hb2=>?_) (fun hb2=>?_)))))))
 have q2:decide ((5:Int) < (d.orders.length:Int)) = true:=by rw [List.length_map] at hb2; exact hb2
 obtain ⟨e1,e2⟩:=desk_2 q1 q2
 refine Zu (Zt 2 [] hn rfl (Zv (zJ (zC (kN (y1 (.inl rfl) hl rfl (.tmp rfl) (.tmp rfl)) ?_)))))
 rw [e1,e2]; exact .tup (.cons (.nil 8) (.refl _))
 have q2:decide ((5:Int) < (d.orders.length:Int)) = false:=by rw [List.length_map] at hb2; exact hb2
 have hol:d.orders.length ≤ 5:=by have:=of_decide_eq_false q2; omega
 refine zI (zA (zB (Zu (Zt 2 [1] hn rfl (Zk hn rfl (kj _ _ _) (Zt 1 [] hn rfl (Zv (zG rfl (fun hb3=>?_) (fun hb3=>?_)))))))))
 have q3:(!(withinB d.fee 0 4)) = true:=hb3
 obtain ⟨e1,e2⟩:=zHC q1 q2 (by rw [q3]; rfl)
 refine Zu (Zt 2 [] hn rfl (Zv (zJ (zC (kN (y1 (.inl rfl) hl rfl (.tmp rfl) (.tmp rfl)) ?_)))))
 rw [e1,e2]; exact .tup (.cons (.nil 8) (.refl _))
 have q3:(!(withinB d.fee 0 4)) = false:=hb3
 refine zI (zA (zB (Zu (Zt 1 [] hn rfl (Zv (zK (awp_loop_on (ι:={i:Nat // i ≤ d.orders.length ∧ (d.orders.take i).all (ordB d.b) = true}) (fun x=>(7,true,.d (.int .i64 (x.1:Nat))) :: anys [34,35,36,37,38,41,42,43,44,45,8,46,47,48,49,50,51,52,53,54,55,56,57,58,59,60,61,62,63,64,65,66,67,68,69,70,71,72,39,40]) (fun x=>gones [8]) (fun x=>d.orders.length - x.1) ⟨0,Nat.zero_le _,rfl⟩ ⟨.inl rfl,zE _⟩ (zR _) ?_)))))))
 rintro ⟨i,hi,hall⟩
 dsimp only
 refine zB (Zu (Zt 5 [1] hn rfl (Zv (zG rfl (fun hb4=>?_) (fun hb4=>?_)))))
 have hil:i < d.orders.length:=by simp at hb4; omega
 obtain ⟨o,hod⟩:=zT hil
 refine zI (zA (zB (zK (Zu (Zt 3 [1] hn rfl (Zi (i:=i) hn rfl rfl (mget hod) ?_))))))
 refine Zt 1 [] hn rfl (Zb 8 hn rfl fun b8=>Zt 1 [8] hn rfl (Zv (Zu (Zt 6 [8,1] hn rfl (Zs hn (z6 rfl rfl rfl (r:=(d.b.stocks.length:Int) - 1) (by rw [List.length_map]; exact i64w (by omega) rfl)) ?_)))))
 refine Zk hn rfl (kj _ _ _) (Zt 4 [8] hn rfl (Zkg hn rfl (fun hc=>kj _ _ _) (Zt 5 [8] hn rfl (Zkg hn rfl (fun hc=>kj _ _ _) (Zt 5 [8] hn rfl (Zkg hn rfl (fun hc=>zGC (o.mlo,o.mhi) 0 600) (Zt 2 [] hn rfl (Zv (zG rfl (fun hb5=>?_) (fun hb5=>?_))))))))))
 have q5:ordB d.b o = false:=by dsimp only at hb5; rw [zG0] at hb5; simpa using hb5
 obtain ⟨e1,e2⟩:=zHC q1 q2 (by rw [ord_bad hod q5,Bool.not_false,Bool.or_true])
 refine Zu (Zt 2 [] hn rfl (Zv (zJ (zN (zC (zC (zN (zC (kN (y1 (.inl rfl) hl rfl (.tmp rfl) (.tmp rfl)) ?_)))))))))
 rw [e1,e2]; exact .tup (.cons (.nil 8) (.refl _))
 have q5:ordB d.b o = true:=by dsimp only at hb5; rw [zG0] at hb5; simpa using hb5
 refine zI (zO (zA (zF (Zt 1 [] hn rfl (Zs hn (za rfl rfl rfl (r:=((i + 1:Nat):Int)) (i64w (by omega) (by omega))) ?_)))))
 refine Zt 1 [] hn rfl (zQ ?_)
 exact Zr ⟨i + 1,by omega,yZ hod hall q5⟩ ⟨.inl rfl,zE _⟩ (zR _) (by simp only; omega)
 obtain rfl:i = d.orders.length:=by simp at hb4; omega
 rw [List.take_length] at hall
 obtain ⟨e1,e2⟩:=desk_4 q1 q2 (by rw [q3,hall]; rfl)
 refine zU (zD (zD (zL (zA (Zu (Zt 3 [] hn rfl (Zv (zJ (kN (y1 (.inl rfl) hl rfl (.tmp rfl) (.tmp rfl)) ?_)))))))))
 rw [e1,e2,er]; exact .refl _
theorem Right4_ok (b:Brd) (l:List Prt) (ms:List Int) (hpo:∀ p ∈ l,PrtOK b p) (hl8:l.length ≤ 8):PureAt Tryz.prog 114 [prtsD l,ints ms] (.bool (decide (ms.length = l.length) && rightGo ms 0 l)):=by
 refine Zp Tryz.func114 rfl fun Γ hn hl=>?_
 refine Zu (Zt 1 [] hn rfl (Zv (zB (Zu (Zt 5 [] hn rfl (Zv (zG rfl (fun hb0=>?_) (fun hb0=>?_))))))))
 have q0:ms.length ≠ l.length:=by simp at hb0; omega
 refine Zu (Zt 1 [] hn rfl (Zv (zJ (zC (zZ (zX (.inl rfl) hl rfl (.tmp rfl)) ?_)))))
 rw [decide_eq_false q0]; rfl
 have q0:ms.length = l.length:=by simp at hb0; omega
 refine zI (zA (zB (Zu (Zt 1 [] hn rfl (Zv (zK (awp_loop_on (ι:={i:Nat // i ≤ l.length ∧ rightU ms l i = true}) (fun x=>(5,true,.d (.int .i64 (x.1:Nat))) :: anys [11,12,13,14,17,18,19,20,21,22,23,24,25,26,27,28,29,30,31,32,33,34,35,36,37,38,39,40,41,42,43,44,45,46,47,48,49,50,51,52,53,54,55,56,57,58,59,60,61,62,15,16]) (fun x=>[]) (fun x=>l.length - x.1) ⟨0,Nat.zero_le _,rfl⟩ ⟨.inl rfl,zE _⟩ trivial ?_)))))))
 rintro ⟨i,hi,hru⟩
 dsimp only
 refine zB (Zu (Zt 4 [] hn rfl (Zv (zG rfl (fun hb1=>?_) (fun hb1=>?_)))))
 have hil:i < l.length:=by simp at hb1; omega
 obtain ⟨p,hp⟩:=zT hil
 have hgp:l.getD i prt0 = p:=zP hp
 have hpk:=hpo p (List.mem_of_getElem? hp)
 have hmi:=hpk.mi
 have hla:=hpk.la
 obtain ⟨m1,hm1⟩:=zT (show i < ms.length by omega)
 obtain ⟨m0,hm0⟩:=zT (show i - 1 < ms.length by omega)
 refine zI (zA (zB (zK (zB (zh (W:=fun b=>True) fmo ?_)))))
 refine Zy [0,1] [] hn rfl (Zd 2 rfl hn (q_index (i:=i) rfl rfl rfl underlying29 sz3 rfl (mget hm1)) ?_)
 refine Zy [3,4,5] [] hn rfl (Zd 6 rfl hn (q_index (i:=i) rfl rfl rfl underlying109 sz139 rfl (mget hp)) ?_)
 refine Zy [7,8,9,10] [] hn rfl (Zd 11 rfl hn (q_index (i:=i) rfl rfl rfl underlying109 sz139 rfl (mget hp)) ?_)
 refine Zy [12,13,14] [] hn rfl (Zd 15 rfl hn (z6 rfl rfl rfl (r:=p.minute - p.lhi) (i64w (by omega) rfl)) ?_)
 refine Zy [16,17] [] hn rfl (Zd 18 rfl hn (q_index (i:=i) rfl rfl rfl underlying109 sz139 rfl (mget hp)) ?_)
 refine Zy [19,20,21,22] [] hn rfl (Zd 23 rfl hn (q_index (i:=i) rfl rfl rfl underlying109 sz139 rfl (mget hp)) ?_)
 refine Zy [24,25,26] [] hn rfl (Zd 27 rfl hn (z6 rfl rfl rfl (r:=p.minute - p.llo) (i64w (by omega) rfl)) ?_)
 refine zH (Ze1 28 rfl hn rfl (kj _ _ _) (d2_of_d1 (Zy [29,30,31,32,33,34,35] [] hn rfl ?_)))
 refine Zg 36 [(51,_),(52,_)] rfl (zM rfl rfl rfl) hn (fun hc=>⟨⟨_,rfl,hc⟩,⟨_,rfl,hc⟩,trivial⟩) (fun hc=>q_index (i:=i) rfl rfl rfl underlying29 sz3 rfl (mget hm1)) ?_
 refine Zy [37,38,39] [] hn rfl ?_
 refine Zg 40 [(56,_)] rfl (zM rfl rfl rfl) hn (fun hc=>⟨⟨_,rfl,hc⟩,trivial⟩) (fun hc=>z6 rfl rfl rfl (r:=((i - 1:Nat):Int)) (i64w (by omega) (by have h0:0 < i:=(by simp at hc; omega); omega))) ?_
 refine Zg 41 [(55,_),(57,_)] rfl (zM rfl rfl rfl) hn (fun hc=>⟨⟨_,rfl,hc⟩,⟨_,rfl,hc⟩,trivial⟩) (fun hc=>q_index (i:=i - 1) rfl rfl rfl underlying29 sz3 rfl (mget hm0)) ?_
 refine Zy [42,43,44,45] [] hn rfl (zH (zf (by kernel_rfl) ?_))
 refine zA (zG rfl (fun hb2=>?_) (fun hb2=>?_))
 have q5:rightU ms l (i + 1) = false:=by rw [rightU,hru,hgp,zP hm1,zP hm0,Bool.true_and]; rw [zGZ] at hb2; rw [Bool.not_eq_true'] at hb2; exact hb2
 refine Zu (Zt 1 [] hn rfl (Zv (zJ (zN (zC (zC (zN (zC (zZ (zX (.inl rfl) hl rfl (.tmp rfl)) ?_)))))))))
 rw [decide_eq_true q0,zDh (by omega) q5]; rfl
 have q5:(withinB (ms.getD i 0) (p.minute - p.lhi) (p.minute - p.llo) && !(decide (0 < i) && decide (ms.getD i 0 < ms.getD (i - 1) 0))) = true:=by rw [zP hm1,zP hm0]; rw [zGZ] at hb2; rw [Bool.not_eq_false'] at hb2; exact hb2
 refine zI (zO (zA (zF (Zt 1 [] hn rfl (Zs hn (za rfl rfl rfl (r:=((i + 1:Nat):Int)) (i64w (by omega) (by omega))) ?_)))))
 refine Zt 1 [] hn rfl (zQ ?_)
 exact Zr ⟨i + 1,by omega,by rw [rightU,hru,hgp,Bool.true_and]; exact q5⟩ ⟨.inl rfl,zE _⟩ trivial (by simp only; omega)
 obtain rfl:i = l.length:=by simp at hb1; omega
 refine zU (zD (zD (zL (zA (Zu (Zt 1 [] hn rfl (Zv (zJ (zZ (zX (.inl rfl) hl rfl (.tmp rfl)) ?_)))))))))
 rw [decide_eq_true q0,← zCp,hru]; rfl
def isTB (d:Dsk) (l:List Prt) (t:Tru):Bool:=isTruthB d.b l t.prices 0 && (decide (t.minutes.length = l.length) && rightGo t.minutes 0 l) && decide (t.orders.length = d.orders.length) && comeB d.orders t.orders d.orders.length
theorem isT_no {d:Dsk} {l:List Prt} {tp tm to:List Int} (h:(!(isTruthB d.b l tp 0) || !(decide (tm.length = l.length) && rightGo tm 0 l) || (to.length:Int) != (d.orders.length:Int)) = true):isTB d l ⟨tp,tm,to⟩ = false:=by
  unfold isTB
  simp only [Bool.or_eq_true_iff,Bool.not_eq_true'] at h
  dsimp only
  rcases h with (h | h) | h
  · rw [h]; rfl
  · rw [h,Bool.and_false]; rfl
  · rw [decide_eq_false (show ¬ to.length = d.orders.length by simp at h; omega),Bool.and_false]; rfl
theorem zGY {d:Dsk} {l:List Prt} {tp tm to:List Int} (h1:isTruthB d.b l tp 0 = true) (h2:(decide (tm.length = l.length) && rightGo tm 0 l) = true) (h3:to.length = d.orders.length):isTB d l ⟨tp,tm,to⟩ = comeB d.orders to d.orders.length:=by
  unfold isTB
  dsimp only
  rw [h1,h2,decide_eq_true h3]; rfl
theorem isT_iff {d:Dsk} {l:List Prt} {t:Tru}:isTB d l t = true ↔ TruW d l t:=by
  unfold isTB
  rw [Bool.and_eq_true_iff,Bool.and_eq_true_iff,Bool.and_eq_true_iff,Bool.and_eq_true_iff,kY,zCB,zBT,decide_eq_true_eq,decide_eq_true_eq]
  exact ⟨fun ⟨⟨⟨⟨a,b⟩,c,e⟩,f⟩,g⟩=>⟨a,b,c,e,f,g⟩,fun ⟨a,b,c,e,f,g⟩=>⟨⟨⟨⟨a,b⟩,c,e⟩,f⟩,g⟩⟩
theorem IsT4_ok (d:Dsk) (l:List Prt) (t:Tru) (v:BrdOK d.b) (ho:d.orders.length ≤ 1000) (hpo:∀ p ∈ l,PrtOK d.b p) (hl8:l.length ≤ 8):PureAt Tryz.prog 55 [dskD d,prtsD l,truD t] (.bool (isTB d l t)):=by
 refine Zp Tryz.func55 rfl fun Γ hn hl=>?_
 refine zB ?_
 obtain ⟨tp,tm,to⟩:=t
 dsimp only [truD,truE]
 refine zF (Zb 3 hn rfl fun b3=>Zb 5 hn rfl fun b5=>Zt 1 [] hn rfl (Zv (zB (Zu (Zt 5 [3,5] hn rfl (Zk hn rfl (IsTruth_ok d.b l tp 0 v hpo (by omega) (by omega)) (Zt 5 [5] hn rfl (Zkg hn rfl (fun hc=>Right4_ok d.b l tm hpo hl8) (Zt 11 [5,3] hn rfl (Zv (zG rfl (fun hb0=>?_) (fun hb0=>?_))))))))))))
 simp only [List.length_map] at hb0
 have q0:=isT_no hb0
 refine Zu (Zt 1 [] hn rfl (Zv (zJ (zC (zZ (zX (.inl rfl) hl rfl (.tmp rfl)) ?_)))))
 rw [q0]
 simp only [List.length_map,Bool.or_eq_false_iff,Bool.not_eq_false'] at hb0
 obtain ⟨⟨q1,q2⟩,q3⟩:=hb0
 have hl2:to.length = d.orders.length:=by simp at q3; omega
 refine zI (zA (zB (Zu (Zt 1 [] hn rfl (Zv (zK (awp_loop_on (ι:={i:Nat // i ≤ d.orders.length ∧ comeB d.orders to i = true}) (fun x=>(7,true,.d (.int .i64 (x.1:Nat))) :: anys [31,32,33,34,35,38,39,40,41,42,43,44,45,46,47,48,49,50,51,52,53,54,55,56,57,58,36,37]) (fun x=>[]) (fun x=>d.orders.length - x.1) ⟨0,Nat.zero_le _,rfl⟩ ⟨.inl rfl,zE _⟩ trivial ?_)))))))
 rintro ⟨k,hk,hck⟩
 dsimp only
 refine zB (Zu (Zt 5 [5] hn rfl (Zv (zG rfl (fun hb1=>?_) (fun hb1=>?_)))))
 have hkl:k < d.orders.length:=by simp at hb1; omega
 obtain ⟨o,hod⟩:=zT hkl
 obtain ⟨mo,hmo⟩:=zT (show k < to.length by omega)
 refine zI (zA (zB (zK (zB (zh (W:=fun b=>b ≠ b3 ∧ b ≠ b5) fmo ?_)))))
 refine Zy [0,1,2] [5] hn rfl (Zd 3 rfl hn (q_index (i:=k) rfl rfl rfl underlying29 sz3 rfl (mget hmo)) ?_)
 refine Zy [4,5,6,7] [3] hn rfl (Zd 8 rfl hn (q_index (i:=k) rfl rfl rfl underlying25 sz61 rfl (mget hod)) ?_)
 refine Zy [9,10,11,12,13,14] [3] hn rfl (Zd 15 rfl hn (q_index (i:=k) rfl rfl rfl underlying25 sz61 rfl (mget hod)) ?_)
 refine Zy [16,17,18] [] hn rfl (zH (Ze1 19 rfl hn rfl (kj _ _ _) (d2_of_d1 (Zy [20] [] hn rfl (zH (zf (by kernel_rfl) ?_))))))
 refine zA (zG rfl (fun hb2=>?_) (fun hb2=>?_))
 have q6:comeB d.orders to (k + 1) = false:=by rw [comeB,hck,zP hmo,zP hod,Bool.true_and]; simpa using hb2
 refine Zu (Zt 1 [] hn rfl (Zv (zJ (zN (zC (zC (zN (zC (zZ (zX (.inl rfl) hl rfl (.tmp rfl)) ?_)))))))))
 rw [zGY q1 q2 hl2,zC9 q6 (by omega)]
 refine zI (zO (zA (zF (Zt 1 [] hn rfl (Zs hn (za rfl rfl rfl (r:=((k + 1:Nat):Int)) (i64w (by omega) (by omega))) ?_)))))
 refine Zt 1 [] hn rfl (zQ ?_)
 exact Zr ⟨k + 1,by omega,by rw [comeB,hck,zP hmo,zP hod,Bool.true_and]; simpa using hb2⟩ ⟨.inl rfl,zE _⟩ trivial (by simp only; omega)
 obtain rfl:k = d.orders.length:=by simp at hb1; omega
 refine zU (zD (zD (zL (zA (Zu (Zt 1 [] hn rfl (Zv (zJ (zZ (zX (.inl rfl) hl rfl (.tmp rfl)) ?_)))))))))
 rw [zGY q1 q2 hl2,hck]
theorem zFl (d:Dsk) (o:Ord) (p:Int) (hf:0 ≤ d.fee ∧ d.fee ≤ 4) (hp:0 ≤ p ∧ p ≤ 1000):PureAt Tryz.prog 107 [dskD d,ordD o,.int .i64 p] (.bool (letsB d.fee o p)):=by
 refine Zp Tryz.func107 rfl fun Γ hn hl=>?_
 refine Zu (Zb 3 hn rfl fun b3=>Zb 4 hn rfl fun b4=>Zt 1 [] hn rfl (Zv (zB (Zu (Zt 3 [4] hn rfl (Zv (zG rfl (fun hb0=>?_) (fun hb0=>?_))))))))
 refine Zu (Zt 1 [] hn rfl (Zv (zJ (zC (zZ (zX (.inl rfl) hl rfl (.tmp rfl)) ?_)))))
 unfold letsB; rw [hb0]; rfl
 refine zI (zA (zB (Zu (Zt 2 [4] hn rfl (Zv (zG rfl (fun hb1=>?_) (fun hb1=>?_)))))))
 refine Zu (Zt 3 [3] hn rfl (Zs hn (za rfl rfl rfl (i64w (by omega) rfl)) ?_))
 refine Zt 4 [4] hn rfl (Zv (zJ (zC ?_)))
 rotate_left
 refine zI (zA (Zu (Zt 3 [3] hn rfl (Zs hn (z6 rfl rfl rfl (i64w (by omega) rfl)) ?_))))
 refine Zt 4 [4] hn rfl (Zv (zJ ?_))
 rotate_left
 all_goals
  refine zZ (zX (.inl rfl) hl rfl (.tmp rfl)) ?_
  unfold letsB; rw [hb0,hb1]; rfl
theorem zDW (d:Dsk) (o:Ord) (p:Int) (hf:0 ≤ d.fee ∧ d.fee ≤ 4) (hp:0 ≤ p ∧ p ≤ 1000):PureAt Tryz.prog 27 [dskD d,ordD o,.int .i64 p] (.int .i64 (priceO d.fee o p)):=by
 refine Zp Tryz.func27 rfl fun Γ hn hl=>?_
 refine Zu (Zb 3 hn rfl fun b3=>Zb 4 hn rfl fun b4=>Zt 1 [] hn rfl (Zv (zB (Zu (Zt 2 [4] hn rfl (Zv (zG rfl (fun hb0=>?_) (fun hb0=>?_))))))))
 refine Zu (Zt 3 [3] hn rfl (Zs hn (za rfl rfl rfl (i64w (by omega) rfl)) ?_))
 refine Zt 1 [] hn rfl (Zv (zJ (zC ?_)))
 rotate_left
 refine zI (zA (Zu (Zt 3 [3] hn rfl (Zs hn (z6 rfl rfl rfl (i64w (by omega) rfl)) ?_))))
 refine Zs hn (kK rfl rfl rfl) ?_
 refine Zt 1 [] hn rfl (Zv (zJ ?_))
 rotate_left
 all_goals
  refine zZ (zX (.inl rfl) hl rfl (.tmp rfl)) ?_
  unfold priceO; rw [hb0]; rfl
theorem zDe (d:Dsk) (l:List Prt) (j:Nat) (m:Int) (ps ms:List Int) (o:Ord) (hod:d.orders[j]? = some o) (hj:j < 1000) (hf:0 ≤ d.fee ∧ d.fee ≤ 4) (hpb:∀ p ∈ ps,0 ≤ p ∧ p ≤ 1000) (hpl:l.length ≤ ps.length) (hml:l.length ≤ ms.length) (hl8:l.length ≤ 1000):PureAt Tryz.prog 57 [dskD d,prtsD l,.int .i64 (j:Nat),.int .i64 m,ints ps,ints ms] (.agg (filE (fillGo d.fee o m ps ms 0 l))):=by
 refine Zp Tryz.func57 rfl fun Γ hn hl=>?_
 refine Zu (Zb 6 hn rfl fun b6=>Zb 12 hn rfl fun b12=>Zv (Zu (Zt 3 [6] hn rfl (Zi (i:=j) hn rfl rfl (mget hod) ?_))))
 refine Zt 1 [] hn rfl (Zb 13 hn rfl fun b13=>Zt 1 [13] hn rfl (Zv (zB (Zu (Zt 1 [] hn rfl (Zv (zK (awp_loop_on (ι:={i:Nat // i ≤ l.length ∧ fillGo d.fee o m ps ms i (l.drop i) = fillGo d.fee o m ps ms 0 l}) (fun x=>(14,true,.d (.int .i64 (x.1:Nat))) :: anys [20,21,22,23,26,27,28,29,30,31,32,33,34,35,36,37,38,39,40,41,42,43,44,45,46,47,48,49,50,24,25]) (fun x=>[]) (fun x=>l.length - x.1) ⟨0,Nat.zero_le _,by rw [List.drop_zero]⟩ ⟨.inl rfl,zE _⟩ trivial ?_))))))))
 rintro ⟨i,hi,hgo⟩
 dsimp only
 refine zB (Zu (Zt 4 [] hn rfl (Zv (zG rfl (fun hb0=>?_) (fun hb0=>?_)))))
 have hil:i < l.length:=by simp at hb0; omega
 obtain ⟨p,hp⟩:=zT hil
 obtain ⟨m1,hm1⟩:=zT (show i < ms.length by omega)
 obtain ⟨p1,hp1⟩:=zT (show i < ps.length by omega)
 have hpb1:=hpb p1 (List.mem_of_getElem? hp1)
 refine zI (zA (zB (zK (zB (zh (W:=fun b=>b ≠ b6 ∧ b ≠ b13) fmo ?_)))))
 refine Zy [0,1] [] hn rfl (Zd 2 rfl hn (q_index (i:=i) rfl rfl rfl underlying109 sz139 rfl (mget hp)) ?_)
 refine Zy [3,4,5,6,7,8,9,10] [13] hn rfl ?_
 refine Zg 11 [(35,_),(36,_)] rfl (zM rfl rfl rfl) hn (fun hc=>⟨⟨_,rfl,hc⟩,⟨_,rfl,hc⟩,trivial⟩) (fun hc=>q_index (i:=i) rfl rfl rfl underlying29 sz3 rfl (mget hm1)) ?_
 refine Zy [12,13,14,15,16,17,18,19,20] [6,13] hn rfl ?_
 refine Zg 21 [(45,_),(46,_)] rfl (zM rfl rfl rfl) hn (fun hc=>⟨⟨_,rfl,hc⟩,⟨_,rfl,hc⟩,trivial⟩) (fun hc=>q_index (i:=i) rfl rfl rfl underlying29 sz3 rfl (mget hp1)) ?_
 refine Zy [22] [] hn rfl (zH ?_)
 refine Zo 23 rfl (s_call [(43,_),(44,_),(48,_)] (fun hc=>zFl d o p1 hf hpb1) rfl (zM rfl rfl rfl) rfl (nb hn rfl) (fun hc=>⟨⟨_,rfl,hc⟩,⟨_,rfl,hc⟩,⟨_,rfl,hc⟩,trivial⟩) rfl rfl (.refl _)) fun _=>?_
 refine d2_of_d1 (Zy [24] [] hn rfl (zH (zf (by kernel_rfl) ?_)))
 refine zA (zG rfl (fun hb1=>?_) (fun hb1=>?_))
 have q5:((p.stock == o.stock && decide (m < m1)) && letsB d.fee o p1) = true:=hb1
 refine zB (zh (W:=fun b=>b ≠ b6 ∧ b ≠ b13) fmo ?_)
 refine Zy [0,1,2,3,4] [6,13] hn rfl (Zd 5 rfl hn (q_index (i:=i) rfl rfl rfl underlying29 sz3 rfl (mget hp1)) ?_)
 refine Zy [6] [] hn rfl (zH (Ze1 7 rfl hn rfl (zDW d o p1 hf hpb1) (d2_of_d1 (Zy [8] [] hn rfl (zH (yN (i:=12) (j:=6) rfl rfl rfl (fun hne12_6=>?_)))))))
 refine yN (i:=12) (j:=13) rfl rfl rfl (fun hne12_13=>?_)
 refine Zo 9 rfl (zz rfl rfl rfl rfl rfl rfl (id:=12) rfl sz126 rfl (Nat.le_of_ble_eq_true rfl) rfl ⟨fun e=>hne12_6 _ rfl (congrArg some e.symm),fun e=>hne12_13 _ rfl (congrArg some e.symm)⟩) fun _=>?_
 refine d2_of_d1 (zH (zf (by kernel_rfl) ?_))
 refine zA (zJ (zN (zC (zC (zN (zC (zZ (zX (.inl rfl) hl rfl (.cellA rfl (id:=12) rfl underlying126 rfl sz126 rfl rfl)) ?_)))))))
 rw [← hgo,zk hp,fillGo,zP hm1,zP hp1,q5]; rfl
 have q5:((p.stock == o.stock && decide (m < m1)) && letsB d.fee o p1) = false:=hb1
 refine zI (zO (zA (zF (Zt 1 [] hn rfl (Zs hn (za rfl rfl rfl (r:=((i + 1:Nat):Int)) (i64w (by omega) (by omega))) ?_)))))
 refine Zt 1 [] hn rfl (zQ ?_)
 exact Zr ⟨i + 1,by omega,by rw [← hgo,zk hp,fillGo,zP hm1,zP hp1,q5]; rfl⟩ ⟨.inl rfl,zE _⟩ trivial (by simp only; omega)
 obtain rfl:i = l.length:=by simp at hb0; omega
 rw [List.drop_length] at hgo
 refine zU (zD (zD (zL (zA (Zu (Zt 2 [12] hn rfl (Zv (zJ (zZ (zX (.inl rfl) hl rfl (.cellA rfl (id:=12) rfl underlying126 rfl sz126 rfl rfl)) ?_)))))))))
 rw [← hgo]; rfl
/-- What is known of a desk for sure. -/
structure SurH (d:Dsk) (l:List Prt) (mm:List (Int × Int)):Prop where
  hr:readI d.b d.tape = (l,0)
  hmi:minutesI d.b d.tape = (mm,0)
  dk:deskI d = 0
  v:BrdOK d.b
  po:∀ p ∈ l,PrtOK d.b p
  l8:l.length ≤ 8
  o5:d.orders.length ≤ 5
  fe:0 ≤ d.fee ∧ d.fee ≤ 4
  ob:∀ o ∈ d.orders,ordB d.b o = true
  mt:mm = timL l l.length
  tb:timesB l = true
  ex:∃ g,TruF d.b l 0 g
theorem yw {d:Dsk} {os:List Int} (h:sureO d os = 0):SurH d (readI d.b d.tape).1 (minutesI d.b d.tape).1 ∧ (∀ n ∈ os,0 ≤ n ∧ n < d.orders.length) ∧ sureP d os = .ptr (wk4C d (readI d.b d.tape).1):=by
  unfold sureO at h
  cases h1:deskI d != 0 <;> rw [h1] at h
  · have h0:deskI d = 0:=by simpa using h1
    obtain ⟨hr0,ho5,hf,hob⟩:=yh h0
    cases h2:!(os.all fun n=>withinB n 0 ((d.orders.length:Int) - 1)) <;> rw [h2] at h
    · cases h3:(pricesI d.b d.tape).2 != 0 <;> rw [h3] at h
      · have hm:(minutesI d.b d.tape).2 = 0:=h
        have v:=yU hr0
        obtain ⟨hpo,hl8⟩:=yS (b:=d.b) (s:=d.tape)
        have h4:∀ n ∈ os,0 ≤ n ∧ n < d.orders.length:=fun n hn=>by
          have:=zm.1 (List.all_eq_true.1 (by simpa using h2:(os.all fun n=>withinB n 0 ((d.orders.length:Int) - 1)) = true) n hn)
          omega
        have h5:rightB (minI (readI d.b d.tape).1) = true ∧ (minutesI d.b d.tape).1 = minI (readI d.b d.tape).1:=by
          unfold minutesI at hm ⊢
          rw [show ((readI d.b d.tape).2 != 0) = false by simpa using hr0] at hm ⊢
          cases hq:rightB (minI (readI d.b d.tape).1) <;> rw [hq] at hm
          · cases hm
          · exact ⟨rfl,rfl⟩
        have h6:∃ g,TruF d.b (readI d.b d.tape).1 0 g:=by
          refine (yj (out:=[]) y7 v hpo).1.1 ?_
          unfold pricesI at h3
          rw [show ((readI d.b d.tape).2 != 0) = false by simpa using hr0] at h3
          cases hl:levelsI d.b (readI d.b d.tape).1 [] with
          | some ms=>rfl
          | none=>rw [hl] at h3; cases h3
        refine ⟨⟨Prod.ext rfl hr0,Prod.ext rfl hm,h0,v,hpo,hl8,ho5,hf,hob,by rw [h5.2,zFt hpo],by rw [← zB1 hpo]; exact h5.1,h6⟩,h4,?_⟩
        unfold sureP
        rw [h1,h2,h3]; rfl
      · rw [cond_true] at h
        rw [show (pricesI d.b d.tape).2 = 0 from h] at h3; cases h3
    · cases h
  · rw [cond_true] at h
    rw [show deskI d = 0 from h] at h1; cases h1
theorem SurH.ml {d:Dsk} {l:List Prt} {mm:List (Int × Int)} (h:SurH d l mm):mm.length = l.length:=by rw [h.mt,zEf]
theorem SurH.mb {d:Dsk} {l:List Prt} {mm:List (Int × Int)} (h:SurH d l mm):∀ x ∈ mm,-10000 ≤ x.1 ∧ x.1 ≤ 10000 ∧ -10000 ≤ x.2 ∧ x.2 ≤ 10000:=fun x hx=>by
  rw [h.mt] at hx
  obtain ⟨i,hi,rfl⟩:=List.mem_map.1 hx
  rw [List.mem_range] at hi
  have h1:=(tim_mono h.po h.tb hi).1
  have h2:=prt_bd h.po hi
  omega
theorem SurH.stk {d:Dsk} {l:List Prt} {mm:List (Int × Int)} (h:SurH d l mm) {o:Ord} (ho:ordB d.b o = true):∃ (k:Nat) (s:Stk),o.stock = (k:Nat) ∧ d.b.stocks[k]? = some s:=by
  have h1:=(zAf ho).1
  obtain ⟨s,hs⟩:=zT (show o.stock.toNat < d.b.stocks.length by omega)
  exact ⟨o.stock.toNat,s,by omega,hs⟩
theorem SurH.ok {d:Dsk} {l:List Prt} {mm:List (Int × Int)} (h:SurH d l mm) {o:Ord} (ho:ordB d.b o = true):OddOK d.b l o:=⟨h.v,h.po,(zAf ho).1,h.ex⟩
theorem zEH (d : Dsk) (l : List Prt) (mm : List (Int × Int)) (h : SurH d l mm) (hN : NamesOK d.b) (h5 : d.tape.length ≤ 4294967000) (o : Ord) (q : Nat) (ho : d.orders[q]? = some o) :
    EffAt Tryz.prog 83 [.d (.ptr (wk4C d l)),.d (.int .i64 (q:Nat))] [] (X:=Nat) (fun b=>.tup [.d (.ptr (askC d l o mm b)),.d (.int .i64 0)]) (fun b=>[(1060,mapRes KW b (cnM (canO d.b l d.fee o mm)))]):=by
  obtain ⟨k,s,hk,hs⟩:=h.stk (h.ob o (List.mem_of_getElem? ho))
  exact ask_eff d l o mm q ho h.hr h.hmi hN h5 h.fe d.b.jump.toNat (by have:=h.v.j0; omega) (by have:=h.v.j4; omega) h.l8 s k hk hs h.ml h.mb
theorem zHM (d:Dsk) (l:List Prt) (o:Ord) (mm:List (Int × Int)) (b:Nat)(hf:0 ≤ d.fee ∧ d.fee ≤ 4):EffAt Tryz.prog 84 [.d (.ptr (askC d l o mm b))] [(1060,mapRes KW b (cnM (canO d.b l d.fee o mm)))] (X:=Unit) (fun _=>.tup [.d (rngD (bndI d.b l d.fee o mm).1),.d (.bool (bndI d.b l d.fee o mm).2)]) (fun _=>[(1060,mapRes KW b (cnM (canO d.b l d.fee o mm)))]) :=
  (zGO d l o mm b hf (canO d.b l d.fee o mm)).imp (fun _=>()) (fun x=>by rw [zE6 x.2 (zBF d.b l d.fee o mm)]) (fun _=>rfl)
theorem verd_pk (d:Dsk) (l:List Prt) (o:Ord) (mm:List (Int × Int)) (b:Nat)(hf:0 ≤ d.fee ∧ d.fee ≤ 4):EffAt Tryz.prog 108 [.d (.ptr (askC d l o mm b))] [(1060,mapRes KW b (cnM (canO d.b l d.fee o mm)))] (X:=Unit) (fun _=>.d (.int .i64 (verdI d.b l d.fee o mm))) (fun _=>[(1060,mapRes KW b (cnM (canO d.b l d.fee o mm)))]) :=
  (verd_eff d l o mm b hf (canO d.b l d.fee o mm)).imp (fun _=>()) (fun x=>by
    have h1:x.1.1 = missI d.b l d.fee o mm:=Bool.eq_iff_iff.2 (x.2.1.trans zDp.symm)
    have h2:=zE6 x.2.2 (zBF d.b l d.fee o mm)
    unfold verdI
    rw [h1,h2]) (fun _=>rfl)
def salesI (d:Dsk) (q:Int):List Int × Int:=bif sureO d [q] != 0 then ([],sureO d [q]) else (salesO d.b (readI d.b d.tape).1 d.fee (d.orders.getD q.toNat ord0) (minutesI d.b d.tape).1,0)
def boundsI (d:Dsk):List (Int × Int) × Int:=bif sureO d [] != 0 then ([],sureO d []) else (d.orders.map fun o=>(bndI d.b (readI d.b d.tape).1 d.fee o (minutesI d.b d.tape).1).1,0)
def verdsI (d:Dsk):List Int × Int:=bif sureO d [] != 0 then ([],sureO d []) else (d.orders.map fun o=>verdI d.b (readI d.b d.tape).1 d.fee o (minutesI d.b d.tape).1,0)
theorem zGV {F:Nat → Int → Option Nat} {fr:Nat} {c:Int} {r:Option D} (h1:∀ d,r = some d → cnM F (waitD (fr:Nat) c) d) (h2:r = none → ∀ d,¬ cnM F (waitD (fr:Nat) c) d):r.getD (.agg (lvE 0)) = .agg (lvE ((F fr c).getD 0)) ∧ r.isSome = (F fr c).isSome:=by
  cases r with
  | none =>
    have:F fr c = none:=by
      cases h:F fr c with
      | none=>rfl
      | some m=>exact (h2 rfl _ ⟨fr,c,m,h,rfl,rfl⟩).elim
    rw [this]; exact ⟨rfl,rfl⟩
  | some d =>
    obtain ⟨f,c',m,h3,h4,rfl⟩:=h1 d rfl
    obtain ⟨e1,rfl⟩:=zAW h4
    obtain rfl:f = fr:=by omega
    rw [h3]; exact ⟨rfl,rfl⟩
theorem zGh {Γ:Cx} {P:Program} {σ:St} {fn:Func} {rv rv' rv2:ResultVar} {d d' d2:D} (h:fn.results = #[rv,rv',rv2]) (hr:ResT P σ rv (.d d)) (hr':ResT P σ rv' (.d d')) (hr2:ResT P σ rv2 (.d d2)):Hands Γ P fn σ (.d (.tup [d,d',d2])):=fun a w F hs=>by
  obtain ⟨v,h1,h2⟩:=hr.run hs
  obtain ⟨v',h1',h2'⟩:=hr'.run hs
  obtain ⟨v2,h12,h22⟩:=hr2.run hs
  exact ⟨.tuple #[v,v',v2],by rw [ye h]; simp [h1,h1',h12],[v,v',v2],rfl,v,[v',v2],rfl,h2,v',[v2],rfl,h2',v2,[],rfl,h22,rfl⟩
theorem has_zero {os:List Ord} {fs:List (Int × Int)} {n:Nat}:(List.replicate n [TV.d (D.int .i64 0)]).flatten = intsT (hasN os fs n 0).1:=by
  rw [hasN,intsT,List.map_replicate]
  induction n with
  | zero=>rfl
  | succ n ih=>rw [List.replicate_succ,List.flatten_cons,ih,List.replicate_succ]; rfl
theorem has_step {os : List Ord} {fs : List (Int × Int)} {n i k : Nat} {o : Ord} {f : Int × Int} (h1 : os.getD i ord0 = o) (h2 : fs.getD i (-1, 0) = f) (h3 : (f.1 == -1) = false) (h4 : o.stock.toNat = k) :
    hasN os fs n (i + 1) = ((hasN os fs n i).1.set k ((hasN os fs n i).1.getD k 0 + (bif o.buy then -o.number else o.number)),(hasN os fs n i).2 - (bif o.buy then -o.number else o.number) * f.2):=by
  rw [hasN,h1,h2,h3,h4]; rfl
theorem mul_bd {q x:Int} (hq:-99 ≤ q ∧ q ≤ 99) (hx:0 ≤ x ∧ x ≤ 1004):-100000 ≤ q * x ∧ q * x ≤ 100000:=by
  have e1:q * x ≤ 99 * x:=Int.mul_le_mul_of_nonneg_right hq.2 hx.1
  have e2:-99 * x ≤ q * x:=Int.mul_le_mul_of_nonneg_right hq.1 hx.1
  omega
theorem zGR (l:List Int):allD (intsT l) = some (l.map fun n=>D.int .i64 n):=by
  rw [show intsT l = (l.map fun n=>D.int .i64 n).map .d by simp [intsT]]; exact z8 _
theorem zCq {l:List Int} {n:Nat} (h:l.length = n):chunk 1 n (l.map fun n=>D.int .i64 n) = l.map intE:=by
  subst h
  induction l with
  | nil=>rfl
  | cons a l ih=>rw [List.map_cons,List.length_cons,chunk,List.take_succ_cons,List.take_zero,List.drop_succ_cons,List.drop_zero,ih]; rfl
theorem Has4_eff (d:Dsk) (hN:NamesOK d.b) (h5:d.tape.length ≤ 4294967000) (ho:d.orders.length ≤ 1000)(t:Tru):EffAt Tryz.prog 65 [.d (dskD d),.d (truD t)] [] (X:=Unit) (fun _=>.d (.tup [ints (hasI d t).1,.int .i64 (hasI d t).2.1,.int .i64 (hasI d t).2.2])) (fun _=>[]):=by
 refine EffAt.of_awp Tryz.func65 rfl (by kernel_rfl) rfl fun Γ hn=>?_
 refine Zu (Zb 2 hn rfl fun b2=>Zb 3 hn rfl fun b3=>Zt 3 [] hn rfl (Zv (Zu (Zt 2 [2,3] hn rfl (Zk hn rfl (zE8 d hN h5 ho t) (Zt 5 [] hn rfl (Zv (zB (Zu (Zt 2 [] hn rfl (Zv (zG rfl (fun hb0=>?_) (fun hb0=>?_)))))))))))))
 have q0:((playI d t).2 != 0) = true:=hb0
 have e1:hasI d t = ([],0,(playI d t).2):=by unfold hasI; rw [q0]; rfl
 rw [e1]
 refine Zu (Zt 4 [] hn rfl (Zv (zJ (zC ?_))))
 exact ret_E (.inl rfl) () ((zGh rfl (.tmp rfl) (.tmp rfl) (.tmp rfl)).le (.tup (.cons (.nil 1) (.refl _)))) trivial
 have q0:((playI d t).2 != 0) = false:=hb0
 have e1:hasI d t = ((hasN d.orders (playI d t).1 d.b.stocks.length (playI d t).1.length).1,(hasN d.orders (playI d t).1 d.b.stocks.length (playI d t).1.length).2,0):=by unfold hasI; rw [q0]; rfl
 rw [e1]
 obtain ⟨hdk,hw,hpe⟩:=play_ok0 (by simpa using q0)
 obtain ⟨hr0,ho5,hf,hob⟩:=yh hdk
 have v:=yU hr0
 have hn4:=v.n4
 have hplen:(playI d t).1.length = d.orders.length:=by rw [hpe,yr]
 have hfb:∀ f ∈ (playI d t).1,0 ≤ f.2 ∧ f.2 ≤ 1004:=fun f hf1=>by rw [hpe] at hf1; obtain ⟨i,hi⟩:=List.getElem?_of_mem hf1; have hil:=(List.getElem?_eq_some_iff.1 hi).1; rw [yr] at hil; rw [zDA hil] at hi; cases hi; exact zGf hf hw.pb
 have hhb:=fun i h1 h2=>zGA (n:=d.b.stocks.length) (fun o ho1=>(zAf (hob o ho1)).2.1) hfb i h1 h2
 refine zI (zA (Zu (Zt 4 [2] hn rfl (stepW (kC (n:=d.b.stocks.length) 25 rfl rfl rfl (nb hn rfl) underlying29 (show _ = some (some (.int .i64 0),1,8) from by kernel_rfl) rfl rfl rfl (by decide) rfl rfl (by simp) (by simp) (by omega) (by omega) (by omega)) fun b25=>?_))))
 refine yp (gh_req (id:=25) rfl (congrArg (Res.box b25 3) (has_zero (os:=d.orders) (fs:=(playI d t).1) (n:=d.b.stocks.length)))) ?_
 refine Zt 1 [] hn rfl (Zv (zB (Zu (Zt 3 [] hn rfl (Zv (zK (awp_loop_on (ι:={i:Nat // i ≤ (playI d t).1.length}) (fun x=>(28,true,.d (.int .i64 (x.1:Nat))) :: (5,true,.d (.int .i64 (hasN d.orders (playI d t).1 d.b.stocks.length x.1).2)) :: anys [29,30,31,32,9,8,33,34,35,36,37,10,38,39,11,41,42,43,40,45,46,44,47,48,49,50,51,52,53,54,55,56,57,58,59,60,61,62,63]) (fun x=>(25,.box b25 3 (intsT (hasN d.orders (playI d t).1 d.b.stocks.length x.1).1)) :: gones [9,10]) (fun x=>(playI d t).1.length - x.1) ⟨0,Nat.zero_le _⟩ ⟨.inl rfl,.inl rfl,zE _⟩ ⟨.inl rfl,zR _⟩ ?_)))))))
 rintro ⟨i,hi⟩
 dsimp only
 refine Zu (Zt 1 [] hn rfl (Zv (zB (zG rfl (fun hb1=>?_) (fun hb1=>?_)))))
 have hil:i < (playI d t).1.length:=by simp at hb1; omega
 obtain ⟨f,hfi⟩:=zT hil
 obtain ⟨o,hoi⟩:=zT (show i < d.orders.length by omega)
 have hbi:=hhb i (by omega) (by omega)
 have hbo:=zAf (hob o (List.mem_of_getElem? hoi))
 have hbf:=hfb f (List.mem_of_getElem? hfi)
 have hsl:=zBA (os:=d.orders) (fs:=(playI d t).1) (n:=d.b.stocks.length) i
 obtain ⟨k,hk⟩:∃ k:Nat,o.stock = k:=⟨o.stock.toNat,by omega⟩
 have hkl:k < d.b.stocks.length:=by omega
 have hbk:=hbi.1 k
 refine zI (zA (zB (zK (Zu (Zt 1 [] hn rfl (Zi (i:=i) hn rfl rfl (mget hfi) ?_))))))
 refine Zt 1 [] hn rfl (Zb 9 hn rfl fun b9=>Zt 2 [9] hn rfl (Zv (Zu (Zt 3 [2] hn rfl (Zi (i:=i) hn rfl rfl (mget hoi) ?_)))))
 refine Zt 1 [] hn rfl (Zb 10 hn rfl fun b10=>Zt 1 [10] hn rfl (Zv (Zu (Zt 3 [10] hn rfl (Zv (zB (zK (Zu (Zt 4 [9] hn rfl (Zv (zG rfl (fun hb2=>?_) (fun hb2=>?_))))))))))))
 have q2:(f.1 == -1) = true:=hb2
 have e2:hasN d.orders (playI d t).1 d.b.stocks.length (i + 1) = hasN d.orders (playI d t).1 d.b.stocks.length i:=by rw [hasN,zP hfi,q2]; rfl
 refine zU (yi rfl (zD (zL (zA (zF (Zs hn (za rfl rfl rfl (r:=((i + 1:Nat):Int)) (i64w (by omega) (by omega))) ?_))))))
 refine Zt 1 [] hn rfl (zQ ?_)
 exact Zr ⟨i + 1,by omega⟩ ⟨.inl rfl,.inl (by simp only; rw [e2]; rfl),zE _⟩ ⟨.inl (by simp only; rw [e2]; rfl),zR _⟩ (by simp only; omega)
 have q2:(f.1 == -1) = false:=hb2
 refine Zu (Zt 3 [10] hn rfl (Zv (zj (e:=.normal) (ι:=Unit) (fun u0=>(11,true,.d (.int .i64 (bif o.buy then -o.number else o.number))) :: anys [47,48]) (fun u0=>[]) (fun hJ3=>?_) ?_)))
 ·
  refine zG rfl (fun hb3=>?_) (fun hb3=>?_)
  have q3:o.buy = true:=hb3
  refine zF (Zt 1 [] hn rfl (Zs hn (q_neg rfl rfl (r:=-o.number) (i64w (by omega) (by omega))) ?_))
  refine Zt 1 [] hn rfl (zQ ?_)
  rotate_left
  have q3:o.buy = false:=hb3
  refine zI ?_
  rotate_left
  all_goals
   exact Zj hJ3 () ⟨.inl (by rw [q3]; rfl),zE _⟩ trivial
 rintro _
 have hqb:-99 ≤ (bif o.buy then -o.number else o.number) ∧ (bif o.buy then -o.number else o.number) ≤ 99:=by cases o.buy <;> simp only [cond_true,cond_false] <;> omega
 have e2:=has_step (n:=d.b.stocks.length) (os:=d.orders) (fs:=(playI d t).1) (i:=i) (zP hoi) (zP hfi) q2 (show o.stock.toNat = k by omega)
 generalize (bif o.buy then -o.number else o.number) = z at hqb e2 ⊢
 have hmb:-100000 ≤ z * f.2 ∧ z * f.2 ≤ 100000:=mul_bd hqb hbf
 refine zO (zA (Zu (Zt 3 [10] hn rfl (Zs hn (q_indexV (i:=k) rfl rfl rfl underlying29 sz3 hk (by omega)) ?_))))
 refine Zs hn (zi rfl rfl (id:=25) rfl underlying3 rfl (zF3 (by omega)) sees0) ?_
 refine Zt 1 [] hn rfl (Zs hn (za rfl rfl rfl (i64w (by omega) rfl)) ?_)
 refine Zs hn (q_indexV (i:=k) rfl rfl rfl underlying29 sz3 hk (by omega)) ?_
 refine stepW (s_store1 rfl rfl rfl rfl rfl rfl (id:=25) rfl sz3 (by rw [List.length_map]; omega) zG4 trivial) fun _=>?_
 refine Zv (zF (Zt 4 [9] hn rfl (Zs hn (zDn rfl rfl rfl (i64w (by omega) rfl)) ?_)))
 refine Zs hn (z6 rfl rfl rfl (i64w (by omega) rfl)) ?_
 refine Zt 1 [] hn rfl (zQ (zO (zA (zF (Zs hn (za rfl rfl rfl (r:=((i + 1:Nat):Int)) (i64w (by omega) (by omega))) ?_)))))
 refine Zt 1 [] hn rfl (zQ ?_)
 exact Zr ⟨i + 1,by omega⟩ ⟨.inl rfl,.inl (by simp only; rw [e2]; rfl),zE _⟩ ⟨.inl (by simp only; rw [e2]; rfl),zR _⟩ (by simp only; omega)
 obtain rfl:i = (playI d t).1.length:=by simp at hb1; omega
 refine zU (zD (zD (zL (zA (Zu (Zt 5 [] hn rfl (Zv (zJ (ya (g_freezeV (t:=4) (sz:=1) (n:=d.b.stocks.length) (es:=(hasN d.orders (playI d t).1 d.b.stocks.length (playI d t).1.length).1.map intE) 25 rfl rfl (zGR _) (by rw [List.length_map,zBA,Nat.mul_one]) (zCq (zBA _)) (Nat.le_refl _) (by simp only [maxLen]; omega)) ?_)))))))))
 exact ret_E (.inl rfl) () (zGh rfl (.tmp rfl) (.tmp rfl) (.tmp rfl)) trivial
def salesU (b:Brd) (l:List Prt) (fee:Int) (o:Ord) (mm:List (Int × Int)) (i:Nat):List Int:=((List.range i).filter (saleB b l fee o mm)).map fun i:Nat=>(i:Int)
theorem salesU_t {b:Brd} {l:List Prt} {fee:Int} {o:Ord} {mm:List (Int × Int)} {i:Nat} (h:saleB b l fee o mm i = true):(salesU b l fee o mm i).map intE ++ [intE (i:Int)] = (salesU b l fee o mm (i + 1)).map intE:=by
  unfold salesU
  rw [List.range_succ,List.filter_append,List.filter_cons,h,if_pos rfl]; simp
theorem salesU_f {b:Brd} {l:List Prt} {fee:Int} {o:Ord} {mm:List (Int × Int)} {i:Nat} (h:saleB b l fee o mm i = false):salesU b l fee o mm i = salesU b l fee o mm (i + 1):=by
  unfold salesU
  rw [List.range_succ,List.filter_append,List.filter_cons,h]; simp
theorem salesU_len {b:Brd} {l:List Prt} {fee:Int} {o:Ord} {mm:List (Int × Int)} (i:Nat):(salesU b l fee o mm i).length ≤ i:=by
  unfold salesU
  rw [List.length_map]
  exact Nat.le_trans (List.length_filter_le _ _) (by rw [List.length_range]; exact Nat.le_refl _)
theorem any_hit {f:Nat → Bool} {i j:Nat} (hj:j < i) (h:f j = true):(List.range i).any f = true:=List.any_eq_true.2 ⟨j,List.mem_range.2 hj,h⟩
theorem any_succ {f:Nat → Bool} {j:Nat} (h:(List.range j).any f = false) (h1:f j = false):(List.range (j + 1)).any f = false:=by
  rw [List.range_succ,List.any_append,h]; simp [h1]
theorem elt46:ElT Tryz.prog 46 66 2 16:=zAA underlying46 (z:=(.agg #[(.int .i64 0),(.int .i64 0)])) (by kernel_rfl) rfl (by decide)
theorem Sales4_eff (d:Dsk) (hN:NamesOK d.b) (h5:d.tape.length ≤ 4294967000) (ho:d.orders.length ≤ 1000) (q:Int):EffAt Tryz.prog 26 [.d (dskD d),.d (.int .i64 q)] [] (X:=Unit) (fun _=>.d (.tup [ints (salesI d q).1,.int .i64 (salesI d q).2])) (fun _=>[]):=by
 refine EffAt.of_awp Tryz.func26 rfl (by kernel_rfl) rfl fun Γ hn=>?_
 refine Zu (Zb 2 hn rfl fun b2=>Zt 2 [] hn rfl (Zv (Zu (Zt 2 [2] hn rfl (stepW (zS rfl rfl rfl (nb hn rfl) underlying29 sz3 zr3 rfl rfl rfl (show _ = [.d (.int .i64 0)] from by kernel_rfl) (by kernel_rfl) rfl rfl rfl rfl rfl) fun _=>?_)))))
 refine Zk hn rfl (zBZ d hN h5 ho [q] (by simp)) (Zt 5 [] hn rfl (Zv (zB (Zu (Zt 2 [] hn rfl (Zv (zG rfl (fun hb0=>?_) (fun hb0=>?_))))))))
 have q0:(sureO d [q] != 0) = true:=hb0
 have e1:salesI d q = ([],sureO d [q]):=by unfold salesI; rw [q0]; rfl
 rw [e1]
 refine Zu (Zt 3 [] hn rfl (Zv (zJ (zC ?_))))
 exact ret_E (.inl rfl) () ((zp rfl (.tmp rfl) (.tmp rfl)).le (.tup (.cons (.nil 1) (.refl _)))) trivial
 have q0:(sureO d [q] != 0) = false:=hb0
 obtain ⟨H,hq,hP⟩:=yw (show sureO d [q] = 0 by simpa using q0)
 rw [hP]
 have hqq:=hq q List.mem_cons_self
 obtain ⟨q,rfl⟩:∃ k:Nat,q = k:=⟨q.toNat,by omega⟩
 obtain ⟨o,hoq⟩:=zT (show q < d.orders.length by omega)
 have hl8:=H.l8
 have hob:=H.ob o (List.mem_of_getElem? hoq)
 have e1:salesI d (q:Nat) = (salesU d.b (readI d.b d.tape).1 d.fee o (minutesI d.b d.tape).1 (readI d.b d.tape).1.length,0):=by unfold salesI; rw [q0,Int.toNat_natCast,zP hoq]; rfl
 rw [e1]
 refine zI (zA (Zu (Zt 2 [] hn rfl (stepW (s_callE (zEH d _ _ H hN h5 o q hoq) rfl rfl rfl (nb hn rfl) (.d rfl) rfl (.refl _) trivial (fun _=>rfl) (fun _ _=>trivial)) fun bm=>?_))))
 refine Zt 5 [] hn rfl (Zv (zB (Zu (Zt 2 [] hn rfl (Zv (zG rfl (fun hb1=>?_) (fun hb1=>?_)))))))
 exact absurd hb1 (by decide)
 refine zI (zA (Zu (Zt 1 [] hn rfl (Zv (zB (zB (zq (g_nil (t:=9) (id:=9) 3 1 rfl (nb hn rfl)) ?_)))))))
 refine zF (Zt 6 [] hn rfl (Zv (zK (awp_loop_on (ι:={x:Nat × Value // x.1 ≤ (readI d.b d.tape).1.length}) (fun x=>(38,true,.d (.int .i64 (x.1.1:Nat))) :: (9,true,.val x.1.2) :: anys [39,40,10,41,42,43,44,45,11,47,48,49,50,51,52,53,54,46,55,56,12,13,57,58,59,60,61,62,63]) (fun x=>(9,.row x.1.2 3 1 ((salesU d.b (readI d.b d.tape).1 d.fee o (minutesI d.b d.tape).1 x.1.1).map intE)) :: gones [12]) (fun x=>(readI d.b d.tape).1.length - x.1.1) ⟨(0,_),Nat.zero_le _⟩ ⟨.inl rfl,.inl rfl,zE _⟩ ⟨.inl rfl,zR _⟩ ?_))))
 rintro ⟨⟨i,vv⟩,hi⟩
 dsimp only
 dsimp only at hi
 refine Zu (Zt 1 [] hn rfl (Zv (zB (zG rfl (fun hb2=>?_) (fun hb2=>?_)))))
 have hil:i < (readI d.b d.tape).1.length:=by simp at hb2; omega
 have hul:=salesU_len (b:=d.b) (l:=(readI d.b d.tape).1) (fee:=d.fee) (o:=o) (mm:=(minutesI d.b d.tape).1) i
 refine zI (zA (zB (zK (Zu (Zt 2 [] hn rfl (Zv (Zu (Zt 1 [] hn rfl (Zs hn (za rfl rfl rfl (r:=((i + 1:Nat):Int)) (i64w (by omega) (by omega))) ?_)))))))))
 refine Zt 1 [] hn rfl (Zv (zK (awp_loop_on (ι:={j:Nat // j ≤ i + 1 ∧ ((List.range j).any fun fr=>(canO d.b (readI d.b d.tape).1 d.fee o (minutesI d.b d.tape).1 fr (i:Nat)).isSome) = false}) (fun x=>(43,true,.d (.int .i64 (x.1:Nat))) :: (9,true,.val vv) :: anys [44,45,11,47,48,49,50,51,52,53,54,46,55,56,12,13,57,58,59,60,61,62]) (fun x=>(9,.row vv 3 1 ((salesU d.b (readI d.b d.tape).1 d.fee o (minutesI d.b d.tape).1 i).map intE)) :: gones [12]) (fun x=>i + 1 - x.1) ⟨0,Nat.zero_le _,rfl⟩ ⟨.inl rfl,.inl rfl,zE _⟩ ⟨.inl rfl,zR _⟩ ?_)))
 rintro ⟨j,hj,hno⟩
 dsimp only
 refine Zu (Zt 1 [] hn rfl (Zv (zB (zG rfl (fun hb3=>?_) (fun hb3=>?_)))))
 have hjl:j < i + 1:=by simp at hb3; omega
 refine zI (zA (zB (zK (Zu (Zt 2 [] hn rfl (Zv (Zu (Zt 7 [] hn rfl ?_))))))))
 refine stepW (zAT (id:=1060) (zd:=.agg (lvE 0)) rfl rfl rfl (nb hn rfl) zBX underlying202 zr200 zBp (.d rfl) rfl rfl (zCQ (by omega) (by omega)) rfl) fun ⟨r,hr1,hr2⟩=>?_
 obtain ⟨hv1,hv2⟩:=zGV hr1 hr2
 dsimp only [cond_true]
 rw [hv1,hv2]
 refine Zt 3 [] hn rfl (stepW (yF 12 rfl rfl rfl (nb hn rfl) zr200 zero800a zero800b) fun b12=>?_)
 refine stepW (zz rfl rfl rfl rfl rfl rfl (id:=12) rfl sz200 (zW ((canO d.b (readI d.b d.tape).1 d.fee o (minutesI d.b d.tape).1 j (i:Nat)).getD 0)) (by rw [zW]; decide) (yI ((canO d.b (readI d.b d.tape).1 d.fee o (minutesI d.b d.tape).1 j (i:Nat)).getD 0) (zW _)) trivial) fun _=>?_
 refine Zt 1 [] hn rfl (Zv (Zu (Zt 1 [] hn rfl (Zv (zG rfl (fun hb4=>?_) (fun hb4=>?_))))))
 have hsb:saleB d.b (readI d.b d.tape).1 d.fee o (minutesI d.b d.tape).1 i = true:=any_hit hjl hb4
 refine Zu (Zt 2 [] hn rfl (stepW (zS rfl rfl rfl (nb hn rfl) underlying29 sz3 zr3 rfl rfl rfl (show _ = [.d (.int .i64 0)] from by kernel_rfl) (by kernel_rfl) rfl rfl rfl rfl rfl) fun _=>?_))
 refine stepW (s_append (id:=9) rfl rfl rfl (nb hn rfl) elt29 trivial rfl rfl rfl (by simp [chunk]; omega) (by simp [chunk]; omega) (fun b hb=>trivial)) fun v61=>?_
 refine Zt 1 [] hn rfl (Zv (zU (yi rfl (zD (zD (zL (zO (zA (zF (Zs hn (za rfl rfl rfl (r:=((i + 1:Nat):Int)) (i64w (by omega) (by omega))) ?_))))))))))
 refine Zt 1 [] hn rfl (zQ ?_)
 exact Zr ⟨(i + 1,v61),by simp only; omega⟩ ⟨.inl rfl,.inl rfl,zE _⟩ ⟨.inl (congrArg (fun z=>some (Res.row v61 3 1 z)) (salesU_t hsb)),zR _⟩ (by simp only; omega)
 have hnj:(canO d.b (readI d.b d.tape).1 d.fee o (minutesI d.b d.tape).1 j (i:Nat)).isSome = false:=hb4
 refine zI (zO (zA (zF (Zs hn (za rfl rfl rfl (r:=((j + 1:Nat):Int)) (i64w (by omega) (by omega))) ?_))))
 refine Zt 1 [] hn rfl (zQ ?_)
 exact Zr ⟨j + 1,by omega,any_succ hno hnj⟩ ⟨.inl rfl,.inl rfl,zE _⟩ ⟨.inl rfl,zR _⟩ (by simp only; omega)
 obtain rfl:j = i + 1:=by simp at hb3; omega
 have hsb:saleB d.b (readI d.b d.tape).1 d.fee o (minutesI d.b d.tape).1 i = false:=hno
 refine zU (zD (zD (zL (zO (zA (zF (Zs hn (za rfl rfl rfl (r:=((i + 1:Nat):Int)) (i64w (by omega) (by omega))) ?_)))))))
 refine Zt 1 [] hn rfl (zQ ?_)
 exact Zr ⟨(i + 1,vv),by simp only; omega⟩ ⟨.inl rfl,.inl rfl,zE _⟩ ⟨.inl (congrArg (fun z:List Int=>some (Res.row vv 3 1 (z.map intE))) (salesU_f hsb)),zR _⟩ (by simp only; omega)
 obtain rfl:i = (readI d.b d.tape).1.length:=by simp at hb2; omega
 refine zU (zD (zD (zL (zA (Zu (Zt 3 [] hn rfl (Zv (zJ (ya (g_row (t:=4) (id:=9) rfl rfl) ?_)))))))))
 exact ret_E (.inl rfl) () (zp rfl (.tmp rfl) (.tmp rfl)) trivial
theorem Bounds4_eff (d:Dsk) (hN:NamesOK d.b) (h5:d.tape.length ≤ 4294967000) (ho:d.orders.length ≤ 1000):EffAt Tryz.prog 22 [.d (dskD d)] [] (X:=Unit) (fun _=>.d (.tup [rngsD (boundsI d).1,.int .i64 (boundsI d).2])) (fun _=>[]):=by
 refine EffAt.of_awp Tryz.func22 rfl (by kernel_rfl) rfl fun Γ hn=>?_
 refine Zu (Zb 1 hn rfl fun b1=>Zt 2 [] hn rfl (Zv (Zu (Zt 1 [1] hn rfl (stepW (s_call [] (fun _=>zBZ d hN h5 ho [] (by simp)) rfl (yC rfl) rfl (nb hn rfl) (fun _=>trivial) rfl rfl (by first | exact .refl _ | (repeat (first | exact .refl _ | exact .nil _ | refine .cons ?_ ?_ | refine .agg ?_ | refine .tup ?_)))) fun _=>?_)))))
 refine Zt 5 [] hn rfl (Zv (zB (Zu (Zt 2 [] hn rfl (Zv (zG rfl (fun hb0=>?_) (fun hb0=>?_)))))))
 have q0:(sureO d [] != 0) = true:=hb0
 have e1:boundsI d = ([],sureO d []):=by unfold boundsI; rw [q0]; rfl
 rw [e1]
 refine Zu (Zt 3 [] hn rfl (Zv (zJ (zC ?_))))
 exact ret_E (.inl rfl) () ((zp rfl (.tmp rfl) (.tmp rfl)).le (.tup (.cons (.nil 2) (.refl _)))) trivial
 have q0:(sureO d [] != 0) = false:=hb0
 obtain ⟨H,_,hP⟩:=yw (show sureO d [] = 0 by simpa using q0)
 rw [hP]
 have hl8:=H.l8
 have ho5:=H.o5
 have e1:boundsI d = (d.orders.map fun o=>(bndI d.b (readI d.b d.tape).1 d.fee o (minutesI d.b d.tape).1).1,0):=by unfold boundsI; rw [q0]; rfl
 rw [e1]
 refine zI (zA (Zu (Zt 1 [] hn rfl (Zv (zB (zB (zq (g_nil (t:=6) (id:=6) 66 2 rfl (nb hn rfl)) ?_)))))))
 refine zF (Zt 4 [1] hn rfl (Zv (zK (awp_loop_on (ι:={x:Nat × Value // x.1 ≤ d.orders.length}) (fun x=>(23,true,.d (.int .i64 (x.1.1:Nat))) :: (6,true,.val x.1.2) :: anys [24,25,7,27,28,29,26,30,31,8,9,32,33,36,37,35,38,39,10,11,40,41,42,43,44]) (fun x=>(6,.row x.1.2 66 2 (((d.orders.take x.1.1).map fun o=>(bndI d.b (readI d.b d.tape).1 d.fee o (minutesI d.b d.tape).1).1).map rngE)) :: gones [1060,10]) (fun x=>d.orders.length - x.1.1) ⟨(0,_),Nat.zero_le _⟩ ⟨.inl rfl,.inl rfl,zE _⟩ ⟨.inl rfl,zR _⟩ ?_))))
 rintro ⟨⟨i,vv⟩,hi⟩
 dsimp only
 dsimp only at hi
 refine Zu (Zt 1 [] hn rfl (Zv (zB (zG rfl (fun hb1=>?_) (fun hb1=>?_)))))
 have hil:i < d.orders.length:=by simp at hb1; omega
 obtain ⟨o,hoq⟩:=zT hil
 refine zI (zA (zB (zK (Zu (Zt 2 [] hn rfl (Zv (Zu (Zt 2 [] hn rfl (stepW (s_callE (zEH d _ _ H hN h5 o i hoq) rfl rfl rfl (nb hn rfl) (.d rfl) rfl (.refl _) trivial (fun _=>rfl) (fun _ _=>trivial)) fun bm=>?_)))))))))
 refine Zt 5 [] hn rfl (Zv (zB (Zu (Zt 2 [] hn rfl (Zv (zG rfl (fun hb2=>?_) (fun hb2=>?_)))))))
 exact absurd hb2 (by decide)
 refine zI (zA (Zu (Zt 1 [] hn rfl ?_)))
 refine stepW (s_callE (zHM d _ o _ bm H.fe) rfl rfl rfl (nb hn rfl) (.d rfl) rfl (.refl _) ⟨rfl,trivial⟩ (fun _=>rfl) (fun _ _=>trivial)) fun _=>?_
 refine Zt 3 [] hn rfl (Zb 10 hn rfl fun b10=>Zt 2 [10] hn rfl (Zv (zF (Zt 2 [10] hn rfl (stepW (zS rfl rfl rfl (nb hn rfl) underlying46 sz66 zr66 rfl rfl rfl (show _ = [.d (.int .i64 0),.d (.int .i64 0)] from by kernel_rfl) (by kernel_rfl) rfl rfl rfl rfl rfl) fun _=>?_)))))
 refine stepW (s_append (id:=6) rfl rfl rfl (nb hn rfl) elt46 trivial rfl rfl rfl (by simp [chunk]; omega) (by simp [chunk]; omega) (fun b hb=>trivial)) fun v43=>?_
 refine Zt 1 [] hn rfl (zQ (zO (zA (zF (Zs hn (za rfl rfl rfl (r:=((i + 1:Nat):Int)) (i64w (by omega) (by omega))) ?_)))))
 refine Zt 1 [] hn rfl (zQ ?_)
 exact Zr ⟨(i + 1,v43),by simp only; omega⟩ ⟨.inl rfl,.inl rfl,zE _⟩ ⟨.inl (congrArg (fun z=>some (Res.row v43 66 2 z)) (by rw [List.take_add_one,hoq]; simp; rfl)),zR _⟩ (by simp only; omega)
 obtain rfl:i = d.orders.length:=by simp at hb1; omega
 rw [List.take_length]
 refine zU (zD (zD (zL (zA (Zu (Zt 3 [] hn rfl (Zv (zJ (ya (g_row (t:=2) (id:=6) rfl rfl) ?_)))))))))
 exact ret_E (.inl rfl) () (zp rfl (.tmp rfl) (.tmp rfl)) trivial
theorem Verdicts4_eff (d:Dsk) (hN:NamesOK d.b) (h5:d.tape.length ≤ 4294967000) (ho:d.orders.length ≤ 1000):EffAt Tryz.prog 51 [.d (dskD d)] [] (X:=Unit) (fun _=>.d (.tup [ints (verdsI d).1,.int .i64 (verdsI d).2])) (fun _=>[]):=by
 refine EffAt.of_awp Tryz.func51 rfl (by kernel_rfl) rfl fun Γ hn=>?_
 refine Zu (Zb 1 hn rfl fun b1=>Zt 2 [] hn rfl (Zv (Zu (Zt 1 [1] hn rfl (stepW (s_call [] (fun _=>zBZ d hN h5 ho [] (by simp)) rfl (yC rfl) rfl (nb hn rfl) (fun _=>trivial) rfl rfl (by first | exact .refl _ | (repeat (first | exact .refl _ | exact .nil _ | refine .cons ?_ ?_ | refine .agg ?_ | refine .tup ?_)))) fun _=>?_)))))
 refine Zt 5 [] hn rfl (Zv (zB (Zu (Zt 2 [] hn rfl (Zv (zG rfl (fun hb0=>?_) (fun hb0=>?_)))))))
 have q0:(sureO d [] != 0) = true:=hb0
 have e1:verdsI d = ([],sureO d []):=by unfold verdsI; rw [q0]; rfl
 rw [e1]
 refine Zu (Zt 3 [] hn rfl (Zv (zJ (zC ?_))))
 exact ret_E (.inl rfl) () ((zp rfl (.tmp rfl) (.tmp rfl)).le (.tup (.cons (.nil 1) (.refl _)))) trivial
 have q0:(sureO d [] != 0) = false:=hb0
 obtain ⟨H,_,hP⟩:=yw (show sureO d [] = 0 by simpa using q0)
 rw [hP]
 have hl8:=H.l8
 have ho5:=H.o5
 have e1:verdsI d = (d.orders.map fun o=>verdI d.b (readI d.b d.tape).1 d.fee o (minutesI d.b d.tape).1,0):=by unfold verdsI; rw [q0]; rfl
 rw [e1]
 refine zI (zA (Zu (Zt 1 [] hn rfl (Zv (zB (zB (zq (g_nil (t:=6) (id:=6) 3 1 rfl (nb hn rfl)) ?_)))))))
 refine zF (Zt 4 [1] hn rfl (Zv (zK (awp_loop_on (ι:={x:Nat × Value // x.1 ≤ d.orders.length}) (fun x=>(21,true,.d (.int .i64 (x.1.1:Nat))) :: (6,true,.val x.1.2) :: anys [22,23,7,25,26,27,24,28,29,8,9,30,31,33,34,35,36,37,38]) (fun x=>(6,.row x.1.2 3 1 (((d.orders.take x.1.1).map fun o=>verdI d.b (readI d.b d.tape).1 d.fee o (minutesI d.b d.tape).1).map intE)) :: gones [1060]) (fun x=>d.orders.length - x.1.1) ⟨(0,_),Nat.zero_le _⟩ ⟨.inl rfl,.inl rfl,zE _⟩ ⟨.inl rfl,zR _⟩ ?_))))
 rintro ⟨⟨i,vv⟩,hi⟩
 dsimp only
 dsimp only at hi
 refine Zu (Zt 1 [] hn rfl (Zv (zB (zG rfl (fun hb1=>?_) (fun hb1=>?_)))))
 have hil:i < d.orders.length:=by simp at hb1; omega
 obtain ⟨o,hoq⟩:=zT hil
 refine zI (zA (zB (zK (Zu (Zt 2 [] hn rfl (Zv (Zu (Zt 2 [] hn rfl (stepW (s_callE (zEH d _ _ H hN h5 o i hoq) rfl rfl rfl (nb hn rfl) (.d rfl) rfl (.refl _) trivial (fun _=>rfl) (fun _ _=>trivial)) fun bm=>?_)))))))))
 refine Zt 5 [] hn rfl (Zv (zB (Zu (Zt 2 [] hn rfl (Zv (zG rfl (fun hb2=>?_) (fun hb2=>?_)))))))
 exact absurd hb2 (by decide)
 refine zI (zA (zF (Zt 2 [] hn rfl ?_)))
 refine stepW (s_callE (verd_pk d _ o _ bm H.fe) rfl rfl rfl (nb hn rfl) (.d rfl) rfl (.refl _) ⟨rfl,trivial⟩ (fun _=>rfl) (fun _ _=>trivial)) fun _=>?_
 refine stepW (zS rfl rfl rfl (nb hn rfl) underlying29 sz3 zr3 rfl rfl rfl (show _ = [.d (.int .i64 0)] from by kernel_rfl) (by kernel_rfl) rfl rfl rfl rfl rfl) fun _=>?_
 refine stepW (s_append (id:=6) rfl rfl rfl (nb hn rfl) elt29 trivial rfl rfl rfl (by simp [chunk]; omega) (by simp [chunk]; omega) (fun b hb=>trivial)) fun v37=>?_
 refine Zt 1 [] hn rfl (zQ (zO (zA (zF (Zs hn (za rfl rfl rfl (r:=((i + 1:Nat):Int)) (i64w (by omega) (by omega))) ?_)))))
 refine Zt 1 [] hn rfl (zQ ?_)
 exact Zr ⟨(i + 1,v37),by simp only; omega⟩ ⟨.inl rfl,.inl rfl,zE _⟩ ⟨.inl (congrArg (fun z=>some (Res.row v37 3 1 z)) (by rw [List.take_add_one,hoq]; simp; rfl)),zR _⟩ (by simp only; omega)
 obtain rfl:i = d.orders.length:=by simp at hb1; omega
 rw [List.take_length]
 refine zU (zD (zD (zL (zA (Zu (Zt 3 [] hn rfl (Zv (zJ (ya (g_row (t:=2) (id:=6) rfl rfl) ?_)))))))))
 exact ret_E (.inl rfl) () (zp rfl (.tmp rfl) (.tmp rfl)) trivial
theorem Sales4_ok (d:Dsk) (hN:NamesOK d.b) (h5:d.tape.length ≤ 4294967000) (ho:d.orders.length ≤ 1000) (q:Int):PureAt Tryz.prog 26 [dskD d,.int .i64 q] (.tup [ints (salesI d q).1,.int .i64 (salesI d q).2]):=PureAt.of_eff (ds:=[dskD d,.int .i64 q]) (Sales4_eff d hN h5 ho q)
theorem zCt (d:Dsk) (hN:NamesOK d.b) (h5:d.tape.length ≤ 4294967000) (ho:d.orders.length ≤ 1000):PureAt Tryz.prog 22 [dskD d] (.tup [rngsD (boundsI d).1,.int .i64 (boundsI d).2]):=PureAt.of_eff (ds:=[dskD d]) (Bounds4_eff d hN h5 ho)
theorem zBh (d:Dsk) (hN:NamesOK d.b) (h5:d.tape.length ≤ 4294967000) (ho:d.orders.length ≤ 1000):PureAt Tryz.prog 51 [dskD d] (.tup [ints (verdsI d).1,.int .i64 (verdsI d).2]):=PureAt.of_eff (ds:=[dskD d]) (Verdicts4_eff d hN h5 ho)
theorem Has4_ok (d:Dsk) (hN:NamesOK d.b) (h5:d.tape.length ≤ 4294967000) (ho:d.orders.length ≤ 1000)(t:Tru):PureAt Tryz.prog 65 [dskD d,truD t] (.tup [ints (hasI d t).1,.int .i64 (hasI d t).2.1,.int .i64 (hasI d t).2.2]):=PureAt.of_eff (ds:=[dskD d,truD t]) (Has4_eff d hN h5 ho t)
def lowF (m:Nat):Option Nat:=(List.range 800).find? fun p=>m.testBit p
theorem zE9 {f:Nat → Bool} {p:Nat}:∀ (n i:Nat),i ≤ p → p < i + n → f p = true → (∀ q,i ≤ q → q < p → f q = false) → (List.range' i n).find? f = some p
  | 0,i,h1,h2,_,_=>by omega
  | n + 1,i,h1,h2,h3,h4=>by
    rw [List.range'_succ,List.find?_cons]
    by_cases e:i = p
    · subst e; rw [h3]
    · rw [h4 i (Nat.le_refl _) (by omega)]
      exact zE9 n (i + 1) (by omega) (by omega) h3 fun q hq1 hq2=>h4 q (by omega) hq2
theorem low_hit {m p:Nat} (hp:p < 800) (h:m.testBit p = true) (hno:∀ q,q < p → m.testBit q = false):lowF m = some p:=by
  unfold lowF
  rw [List.range_eq_range']
  exact zE9 800 0 (Nat.zero_le _) (by omega) h fun q _ hq=>hno q hq
theorem low_miss {m:Nat} (h:∀ q,q < 800 → m.testBit q = false):lowF m = none:=by
  unfold lowF
  rw [List.find?_eq_none]
  intro q hq
  rw [h q (List.mem_range.1 hq)]; decide
def onlO (out:List Int) (i:Nat):Option Nat → List Int
  | none=>out
  | some p=>out.set i (p:Nat)
/-- Sale by sale the smallest price that can be. -/
def onlGo (l:List Prt) (J:Nat) (ms:List Nat):List Nat → Nat → List Int → List Int
  | [],_,out=>out
  | i :: r,bf,out=>onlGo l J ms r (putB 0 ((onlO out i (lowF (kepN (l.getD i prt0) (fun y=>(nearN bf J).testBit y) (ms.getD i 0)))).getD i 0).toNat true) (onlO out i (lowF (kepN (l.getD i prt0) (fun y=>(nearN bf J).testBit y) (ms.getD i 0))))
theorem zE1 {out:List Int} {i n:Nat} {x:Option Nat} (h:out.length = n):(onlO out i x).length = n:=by
  cases x with
  | none=>exact h
  | some p=>show (out.set i (p:Nat)).length = n; rw [List.length_set]; exact h
theorem onlO_bd {out:List Int} {i p:Nat} (h:∀ x ∈ out,0 ≤ x ∧ x < 800) (hp:p < 800):∀ x ∈ out.set i ((p:Nat):Int),0 ≤ x ∧ x < 800:=fun x hx=>by
  rcases List.mem_or_eq_of_mem_set hx with hx | rfl
  · exact h x hx
  · omega
theorem zGD {out:List Int} {i:Nat} (h:∀ x ∈ out,0 ≤ x ∧ x < 800):0 ≤ out.getD i 0 ∧ out.getD i 0 < 800:=by
  by_cases hi:i < out.length
  · obtain ⟨x,hx⟩:=zT hi
    rw [zP hx]; exact h x (List.mem_of_getElem? hx)
  · rw [List.getD_eq_getElem?_getD,List.getElem?_eq_none (by omega)]; simp
theorem only1_ok (m p:Nat) (hp:p < 800):PureAt Tryz.prog 205 [.int .i64 (p:Nat),.ptr (lvE m)] (.bool (m.testBit p)):=by
 refine Zp Tryz.func205 rfl fun Γ hn hl=>?_
 refine Zu ?_
 refine Zt 1 [] hn rfl ?_
 refine Zv (Zu ?_)
 refine Zt 1 [] hn rfl ?_
 refine Zs hn (q_indexP (i:=p) rfl rfl rfl underlying200 sz4 rfl hp (zGK hp)) ?_
 refine Zt 2 [] hn rfl ?_
 refine Zv (zJ ?_)
 exact zX (.inl rfl) hl rfl (.tmp rfl)
theorem chain_yes (d:Dsk) (l:List Prt) (o:Ord) (mm:List (Int × Int)) (b:Nat)(hf:0 ≤ d.fee ∧ d.fee ≤ 4)(J:Nat) (hJ:d.b.jump = (J:Nat)) (hJ4:J ≤ 40) (hl8:l.length ≤ 8)(s:Stk) (k:Nat) (hk:o.stock = (k:Nat)) (hst:d.b.stocks[k]? = some s) (fr by_:Int) (c:List Nat) (hc:chainN d.b l d.fee o fr by_ = some c):EffAt Tryz.prog 140 [.d (.ptr (askC d l o mm b)),.d (waitD fr by_)] [] (X:=Nat) (fun bm=>.tup [chV bm (some c),.d (.bool true)]) (fun bm=>[(1050,chS l o.stock bm (some c))]):=by
  have h:=zB2 d l o mm b hf J hJ hJ4 hl8 s k hk hst fr by_
  rw [hc] at h
  exact h
theorem zES {J:Nat} {k:Int} {l:List Prt} {n:Nat}:∀ {i:Nat} {lat:Option Nat} {ms:List Nat},ms.length = n → (bckGo J k l i lat ms).length = n
  | 0,lat,ms,h=>h
  | i + 1,lat,ms,h=>by
    rw [bckGo]
    cases (l.getD i prt0).stock == k
    · exact zES h
    · exact zES (by rw [List.length_set]; exact h)
theorem rep_ints (n:Nat):(List.replicate n [TV.d (D.int .i64 0)]).flatten = intsT (List.replicate n 0):=by
  rw [intsT,List.map_replicate]
  induction n with
  | zero=>rfl
  | succ n ih=>rw [List.replicate_succ,List.flatten_cons,ih,List.replicate_succ]; rfl
theorem only_eff (d:Dsk) (l:List Prt) (o:Ord) (mm:List (Int × Int)) (b:Nat)(hf:0 ≤ d.fee ∧ d.fee ≤ 4)(J:Nat) (hJ:d.b.jump = (J:Nat)) (hJ4:J ≤ 40) (hl8:l.length ≤ 8)(s:Stk) (k:Nat) (hk:o.stock = (k:Nat)) (hst:d.b.stocks[k]? = some s) (fr:Int) (w price:Nat) (hw:w < l.length) (hwm:(l.getD w prt0).stock = o.stock) (hpr:price < 800) (c:List Nat) (hc:chainN d.b l d.fee o fr (w:Nat) = some c):EffAt Tryz.prog 166 [.d (.ptr (askC d l o mm b)),.d (waitD fr (w:Nat)),.d (.int .i64 (price:Nat))] [] (X:=Unit) (fun _=>.d (ints (onlGo l J (bckGo J o.stock l l.length none (c.set w (putB 0 price true))) (ofL l o.stock 0) (startN s) (List.replicate l.length 0)))) (fun _=>[]):=by
 have hcl:=zDr hc
 have hwo:=(zBb (k:=o.stock) hw).2 hwm
 have hbl:(bckGo J o.stock l l.length none (c.set w (putB 0 price true))).length = l.length:=zES (zCc hcl)
 refine EffAt.of_awpM Tryz.func166 rfl (by kernel_rfl) rfl fun Γ hn=>?_
 refine Zu (Zb 3 hn rfl fun b3=>Zb 4 hn rfl fun b4=>Zt 1 [] hn rfl (Zv (zB (zq (z7 (t:=3) 3 rfl (nb hn rfl) rfl rfl trivial) ?_))))
 refine zq (z7 (t:=4) 4 rfl (nb hn rfl) rfl rfl trivial) ?_
 refine zF (Zt 2 [] hn rfl (stepW (s_callE (chain_yes d l o mm b hf J hJ hJ4 hl8 s k hk hst fr (w:Nat) c hc) rfl rfl rfl (nb hn rfl) (.d rfl) rfl (.refl _) trivial (fun _=>rfl) (fun _ _=>trivial)) fun bm=>?_))
 refine Zt 3 [] hn rfl (Zb 7 hn rfl fun b7=>stepW (s_store1 rfl rfl rfl rfl rfl rfl (id:=7) rfl sz266 (Nat.le_of_ble_eq_true rfl) rfl trivial) fun _=>?_)
 refine Zt 1 [] hn rfl (Zv (Zu (stepW (yF 9 rfl rfl rfl (nb hn rfl) zr200 zero800a zero800b) fun b9=>?_)))
 refine Zv (Zu (Zt 1 [] hn rfl (Zs hn (q_indexA (i:=price) rfl rfl rfl underlying200 sz4 rfl hpr) ?_)))
 refine stepW (s_store1 rfl rfl rfl rfl rfl rfl (id:=9) rfl sz4 (by rw [zW]; omega) (kF hpr) trivial) fun _=>?_
 refine Zv (zB (zq (z7 (t:=7) 7 rfl (nb hn rfl) rfl rfl trivial) ?_))
 refine zF (Zt 3 [] hn rfl (Zs hn (zl rfl rfl (id:=9) rfl underlying200 rfl sz200 (yE _) (zv _) sees0) ?_))
 refine stepW (y8 (id:=1050) rfl rfl rfl zAH underlying266 (.d rfl) rfl rfl (zAr (by omega)) rfl (zB5 _) rfl (zFx (by rw [hcl]; exact hw) (zFL hwo)) trivial) fun _=>?_
 refine Zv (Zu (Zt 2 [] hn rfl ?_))
 refine stepW (s_callE (zEz d l o mm b J hJ hJ4 hl8 bm (c.set w (putB 0 price true)) (zCc hcl)) rfl rfl rfl (nb hn rfl) (.d rfl) rfl (.refl _) ⟨rfl,trivial⟩ (fun _=>rfl) (fun _ _=>trivial)) fun _=>?_
 refine Zv (Zu (Zt 8 [] hn rfl (stepW (kC (n:=l.length) 40 rfl rfl rfl (nb hn rfl) underlying29 (show _ = some (some (.int .i64 0),1,8) from by kernel_rfl) rfl rfl rfl (by decide) rfl rfl (by simp) (by simp) (by omega) (by omega) (by omega)) fun b40=>?_)))
 refine yp (gh_req (id:=40) rfl (congrArg (Res.box b40 3) (rep_ints l.length))) ?_
 refine Zb 10 hn rfl fun b10=>stepW (s_store1 rfl rfl rfl rfl rfl rfl (id:=10) rfl sz29 (Nat.le_of_ble_eq_true rfl) rfl trivial) fun _=>?_
 refine Zv (Zu (Zt 1 [] hn rfl (Zk hn rfl (zDi d l o mm b s k hk hst) (stepW (yF 11 rfl rfl rfl (nb hn rfl) zr200 zero800a zero800b) fun b11=>?_))))
 refine stepW (zz rfl rfl rfl rfl rfl rfl (id:=11) rfl sz200 (zW _) (by rw [zW]; decide) (yI _ (zW _)) trivial) fun _=>?_
 refine Zv (zB (zB (zh (W:=fun b=>True) fmo ?_)))
 refine Zy [0,1,2,3,4,5,6,7,8] [] hn rfl (zH (Ze1 9 rfl hn rfl (zGG d l o.stock 0) (d2_of_d1 (zH (zf (by kernel_rfl) ?_)))))
 refine zA (zK ?_)
 refine awp_rangeFunc (ι:={x:Nat × List Int // x.2.length = l.length ∧ ∀ y ∈ x.2,0 ≤ y ∧ y < 800}) (fun x=>[(11,.box b11 200 (lvT x.1.1)),(40,.box b40 3 (intsT x.1.2)),(10,.box b10 29 [.val (.slice (some ⟨b40,0,none⟩) l.length l.length)]),(1050,mapRes KI bm (inM (ofL l o.stock 0) (bckGo J o.stock l l.length none (c.set w (putB 0 price true)))))]) (fun j x=>onlGo l J (bckGo J o.stock l l.length none (c.set w (putB 0 price true))) ((ofL l o.stock 0).drop j) x.1.1 x.1.2 = onlGo l J (bckGo J o.stock l l.length none (c.set w (putB 0 price true))) (ofL l o.stock 0) (startN s) (List.replicate l.length 0)) (fun _ _=>False) ⟨(startN s,List.replicate l.length 0),by simp,fun y hy=>by rw [(List.mem_replicate.1 hy).2]; omega⟩ (zD8 d l o.stock 0 hl8) rfl zBY (by rw [hn]; rfl) (.inl rfl) ⟨rfl,rfl,rfl,rfl,trivial⟩ (by rw [List.drop_zero]) (fun _=>rfl) (fun _=>rfl) rfl rfl ?_ ?_ ?_
 rintro l0 r0 Γr j0 x0 ⟨⟨bf,out⟩,hol,hob⟩ hnr hrd hx0 hA0
 dsimp only at hA0 hol hob
 obtain ⟨i,hi,rfl,hil,_,hik⟩:=zCS hx0
 obtain ⟨p,hp⟩:=zT hil
 have hgp:l.getD i prt0 = p:=zP hp
 rw [zk hi,onlGo,hgp] at hA0
 refine zg (ZtI 1 [] (hnr.trans hn) rfl (zn (aend_begin hrd rfl (yd (zw (zg (ZtI 1 [] (hnr.trans hn) rfl (sqI rfl rfl (hnr.trans hn) rfl (zl rfl rfl (id:=11) rfl underlying200 rfl sz200 (yE _) (zv _) sees0) rfl ?_))))))))
 refine stepWI ((s_call [] (fun _=>zCr d l o mm b J hJ hJ4 bf) rfl (yC rfl) rfl (nb (hnr.trans hn) rfl) (fun _=>trivial) rfl rfl (.refl _)).i rfl) fun _=>?_
 refine stepWI ((yF 13 rfl rfl rfl (nb (hnr.trans hn) rfl) zr200 zero800a zero800b).i rfl) fun b13=>?_
 refine stepWI ((zz rfl rfl rfl rfl rfl rfl (id:=13) rfl sz200 (show (TV.cells (.d (.agg (lvE (nearN bf J))))).length = 800 from zW _) (by rw [zW]; decide) (yI (nearN bf J) (zW _)) trivial).i rfl) fun _=>?_
 refine zn (zb (zw (gh_awi (z7 (t:=13) 13 rfl (nb (hnr.trans hn) rfl) rfl (z8 _) trivial) ?_)))
 refine zg (ZtI 3 [] (hnr.trans hn) rfl ?_)
 refine stepWI ((zAT (id:=1050) (zd:=.agg (lvE 0)) rfl rfl rfl (nb (hnr.trans hn) rfl) zAH underlying266 zr200 zBp (.d rfl) rfl rfl (zAr (by omega)) rfl).i rfl) fun ⟨r,hr1,hr2⟩=>?_
 obtain ⟨hv1,_⟩:=zEW hr1 hr2
 dsimp only [cond_false]
 rw [hv1,if_pos ((zBb hil).2 hik)]
 refine ZtI 1 [] (hnr.trans hn) rfl (sqI rfl rfl (hnr.trans hn) rfl (yG rfl rfl rfl) rfl ?_)
 refine stepWI ((s_call [] (fun _=>zEG d l o mm b ((bckGo J o.stock l l.length none (c.set w (putB 0 price true))).getD i 0) i p hp (fun y=>(nearN bf J).testBit y) _ [] [.ptr (lvE (nearN bf J))] (fun y hy=>only1_ok (nearN bf J) y hy)) rfl (yC rfl) rfl (nb (hnr.trans hn) rfl) (fun _=>trivial) rfl rfl (.refl _)).i rfl) fun _=>?_
 refine stepWI ((yF 14 rfl rfl rfl (nb (hnr.trans hn) rfl) zr200 zero800a zero800b).i rfl) fun b14=>?_
 refine stepWI ((zz rfl rfl rfl rfl rfl rfl (id:=14) rfl sz200 (show (TV.cells (.d (.agg (lvE (kepN p (fun y=>(nearN bf J).testBit y) ((bckGo J o.stock l l.length none (c.set w (putB 0 price true))).getD i 0)))))).length = 800 from zW _) (by rw [zW]; decide) (yI (kepN p (fun y=>(nearN bf J).testBit y) ((bckGo J o.stock l l.length none (c.set w (putB 0 price true))).getD i 0)) (zW _)) trivial).i rfl) fun _=>?_
 refine zn (zb (zw (zw ?_)))
 generalize hlv:kepN p (fun y=>(nearN bf J).testBit y) ((bckGo J o.stock l l.length none (c.set w (putB 0 price true))).getD i 0) = lv at hA0 ⊢
 refine zg (sqI rfl rfl (hnr.trans hn) rfl (zl rfl rfl (id:=14) rfl underlying200 rfl sz200 (yE _) (zv _) sees0) rfl ?_)
 refine ZtI 1 [] (hnr.trans hn) rfl (zn (zb (yd (zAp (ι:={y:Nat // y ≤ 800 ∧ ∀ q,q < y → lv.testBit q = false}) (fun x=>(65,true,.d (.int .i64 (x.1:Nat))) :: anys [66,67,68,15,16,69,70,71,72,73,74]) (fun x=>[(40,.box b40 3 (intsT out))]) (fun x=>800 - x.1) ⟨0,Nat.zero_le _,fun q hq=>by omega⟩ ⟨.inl rfl,zE _⟩ ⟨.inl rfl,trivial⟩ ?_))))
 rintro ⟨y,hy,hno⟩
 dsimp only
 refine zw (zg (ZtI 1 [] (hnr.trans hn) rfl (zn (zb (zw (yn rfl (fun hb0=>?_) (fun hb0=>?_)))))))
 have hyl:y < 800:=by simp at hb0; omega
 refine yu (zb (zw (yd (zw (zg (ZtI 1 [] (hnr.trans hn) rfl (sqI rfl rfl (hnr.trans hn) rfl (q_indexAgg rfl rfl rfl underlying200 underlying4 rfl sz4 rfl hyl (y5 hyl)) rfl ?_)))))))
 refine ZtI 2 [] (hnr.trans hn) rfl (zn (zb (zw (zg (ZtI 1 [] (hnr.trans hn) rfl (zn (zb (yn rfl (fun hb1=>?_) (fun hb1=>?_)))))))))
 rw [low_hit hyl hb1 hno] at hA0
 have hob2:=onlO_bd (i:=i) hob hyl
 have hgb:=zGD (i:=i) hob2
 refine zw (zg (ZtI 3 [10] (hnr.trans hn) rfl (sqI rfl rfl (hnr.trans hn) rfl (q_indexV (i:=i) rfl rfl rfl underlying29 sz3 rfl (by omega)) rfl ?_)))
 refine stepWI ((s_store1 rfl rfl rfl rfl rfl rfl (id:=40) rfl sz3 (by rw [List.length_map]; omega) zG4 trivial).i rfl) fun _=>?_
 refine zn (zb (zAu (yi rfl (zD (zD (zL (zb (zw (zg (sqI rfl rfl (hnr.trans hn) rfl (yt (ds:=lvE 0) rfl bt200 zero800a zero800b rfl rfl (z8 _)) rfl ?_))))))))))
 refine stepWI ((zz rfl rfl rfl rfl rfl rfl (id:=11) rfl sz200 (show (TV.cells (.d (.agg (lvE 0)))).length = 800 from zW 0) (by rw [zW]; decide) (yI 0 (zW _)) trivial).i rfl) fun _=>?_
 refine zn (zb (zg (ZtI 2 [10] (hnr.trans hn) rfl (sqI rfl rfl (hnr.trans hn) rfl (q_indexV (i:=i) rfl rfl rfl underlying29 sz3 rfl (by omega)) rfl ?_))))
 refine sqI rfl rfl (hnr.trans hn) rfl (zi rfl rfl (id:=40) rfl underlying3 rfl (zF3 (by rw [List.length_set]; omega)) sees0) rfl ?_
 refine sqI rfl rfl (hnr.trans hn) rfl (q_indexA (i:=((out.set i ((y:Nat):Int)).getD i 0).toNat) rfl rfl rfl underlying200 sz4 (by omega) (by omega)) rfl ?_
 refine stepWI ((s_store1 rfl rfl rfl rfl rfl rfl (id:=11) rfl sz4 (by rw [zW]; omega) (kF (by omega)) trivial).i rfl) fun _=>?_
 refine zn (zO ?_)
 exact yb ⟨(putB 0 ((out.set i ((y:Nat):Int)).getD i 0).toNat true,out.set i ((y:Nat):Int)),zE1 (x:=some y) hol,hob2⟩ (by exact hA0) ⟨rfl,rfl,rfl,rfl,rfl,trivial⟩
 have hbt:lv.testBit y = false:=hb1
 refine yu (zO (zb (zg (sqI rfl rfl (hnr.trans hn) rfl (za rfl rfl rfl (r:=((y + 1:Nat):Int)) (i64w (by omega) (by omega))) rfl ?_))))
 refine ZtI 1 [] (hnr.trans hn) rfl (zn ?_)
 exact Zr ⟨y + 1,by omega,fun q hq=>by by_cases e:q = y; (subst e; exact hbt); exact hno q (by omega)⟩ ⟨.inl rfl,zE _⟩ ⟨.inl rfl,trivial⟩ (by simp only; omega)
 obtain rfl:y = 800:=by simp at hb0; omega
 rw [low_miss hno] at hA0
 have hgb:=zGD (i:=i) hob
 refine zAu (zD (zD (zL (zb (zw (zg (sqI rfl rfl (hnr.trans hn) rfl (yt (ds:=lvE 0) rfl bt200 zero800a zero800b rfl rfl (z8 _)) rfl ?_)))))))
 refine stepWI ((zz rfl rfl rfl rfl rfl rfl (id:=11) rfl sz200 (show (TV.cells (.d (.agg (lvE 0)))).length = 800 from zW 0) (by rw [zW]; decide) (yI 0 (zW _)) trivial).i rfl) fun _=>?_
 refine zn (zb (zg (ZtI 2 [10] (hnr.trans hn) rfl (sqI rfl rfl (hnr.trans hn) rfl (q_indexV (i:=i) rfl rfl rfl underlying29 sz3 rfl (by omega)) rfl ?_))))
 refine sqI rfl rfl (hnr.trans hn) rfl (zi rfl rfl (id:=40) rfl underlying3 rfl (zF3 (by omega)) sees0) rfl ?_
 refine sqI rfl rfl (hnr.trans hn) rfl (q_indexA (i:=(out.getD i 0).toNat) rfl rfl rfl underlying200 sz4 (by omega) (by omega)) rfl ?_
 refine stepWI ((s_store1 rfl rfl rfl rfl rfl rfl (id:=11) rfl sz4 (by rw [zW]; omega) (kF (by omega)) trivial).i rfl) fun _=>?_
 refine zn (zO ?_)
 exact yb ⟨(putB 0 (out.getD i 0).toNat true,out),hol,hob⟩ (by exact hA0) ⟨rfl,rfl,rfl,rfl,rfl,trivial⟩
 rintro ⟨⟨bf,out⟩,hol,hob⟩ D0 hA0
 dsimp only at hA0 hol hob
 rw [zBC,List.drop_length,onlGo] at hA0
 rw [← hA0]
 refine zO (zA (Zu (Zt 2 [10] hn rfl (Zv (zJ (ya (g_freezeV (t:=6) (sz:=1) (n:=l.length) (es:=out.map intE) 40 rfl rfl (zGR _) (by rw [List.length_map,hol,Nat.mul_one]) (zCq hol) (Nat.le_refl _) (by simp only [maxLen]; omega)) ?_))))))
 exact ret_M (.inl rfl) () (.inr rfl) (zu rfl (.tmp rfl)) trivial rfl
 exact fun _ _ _ h=>h.elim
theorem zGn {v:Value} {l:List Int} (h:VecV v 1 (intsT l)) (hl:0 < l.length):∃ b cap,v = .slice (some ⟨b,0,none⟩) l.length cap ∧ l.length ≤ cap ∧ cap ≤ maxLen:=by
  rcases h with ⟨_,h⟩ | ⟨b,n,cap,rfl,h1,h2,h3⟩
  · rw [List.map_eq_nil_iff] at h; subst h; simp at hl
  · rw [List.length_map,Nat.mul_one] at h3
    subst h3
    exact ⟨b,cap,rfl,h1,h2⟩
theorem vec_mk4 {l:List Int} {b cap:Nat} (h1:l.length ≤ cap) (h2:cap ≤ maxLen):VecV (.slice (some ⟨b,0,none⟩) l.length cap) 1 (intsT l):=.inr ⟨b,l.length,cap,rfl,h1,h2,by rw [List.length_map,Nat.mul_one]⟩
theorem zHE {l:List Int} {x:Int}:intsT l ++ [TV.d (.int .i64 x)] = intsT (l ++ [x]):=by simp [intsT]
theorem iT_last {l:List Int} {x:Int} {r:List TV}:(intsT (l ++ [x]) ++ r)[0 + l.length * 1]? = some (.d (.int .i64 x)):=by
  rw [Nat.zero_add,Nat.mul_one,List.getElem?_append_left (by simp),List.getElem?_map,List.getElem?_append_right (Nat.le_refl _),Nat.sub_self]; rfl
theorem Show_vec (b:Brd) (s:List UInt8) (hN:NamesOK b) (h5:s.length ≤ 4294967000) (h0:(readI b s).2 = 0) (k:Nat) (hi:Bool) (hkl:k < (readI b s).1.length) (hex:(levelsI b (readI b s).1 []).isSome = true):EffAt Tryz.prog 165 [.d (brdD b),.d (strD s),.d (.int .i64 (k:Nat)),.d (.bool hi)] [] (X:={x:Nat × Nat // (showGo b (readI b s).1.length (setP (readI b s).1 k (showP b (readI b s).1 k hi)) []).length = (readI b s).1.length ∧ (readI b s).1.length ≤ x.2 ∧ x.2 ≤ maxLen}) (fun x=>.tup [.val (.slice (some ⟨x.1.1,0,none⟩) (readI b s).1.length x.1.2),.d (.int .i64 0)]) (fun x=>[(1090,.box x.1.1 3 (intsT (showGo b (readI b s).1.length (setP (readI b s).1 k (showP b (readI b s).1 k hi)) []) ++ List.replicate (x.1.2 - (readI b s).1.length) .any))]):=by
 have v:=yU h0
 obtain ⟨hpo,hsl⟩:=yS (b:=b) (s:=s)
 have hV:VecV (.slice none 0 0) 1 (intsT []):=VecV.nil 1
 obtain ⟨ms,hms⟩:=Option.isSome_iff_exists.1 hex
 have hml:=zBQ hms
 obtain ⟨m,hm⟩:=zT (show k < ms.length by omega)
 obtain ⟨sp,hsp⟩:=zT hkl
 have hP:showP b (readI b s).1 k hi = bif hi then (bndN m).2 else (bndN m).1:=by unfold showP; rw [hms,Option.getD_some,zP hm]
 have hinv:=ShInv.first v hpo hms hi hkl
 refine EffAt.of_awp Tryz.func165 rfl (by kernel_rfl) rfl fun Γ hn=>?_
 refine Zu (Zb 4 hn rfl fun b4=>Zt 2 [] hn rfl (Zv (Zu (Zt 2 [4] hn rfl (stepW (s_callE (zCT b s hN h5 h0) rfl rfl rfl (nb hn rfl) (.d rfl) rfl (.refl _) trivial (fun _=>rfl) (fun _ _=>trivial)) fun bb=>?_)))))
 refine Zt 5 [] hn rfl (Zv (zB (Zu (Zt 2 [] hn rfl (Zv (zG rfl (fun hb0=>?_) (fun hb0=>?_)))))))
 exact absurd hb0 (by decide)
 refine zI (zA (zB (Zu (Zt 6 [1070] hn rfl (Zs hn (z6 rfl rfl rfl (r:=((readI b s).1.length:Int) - 1) (by rw [List.length_map]; exact i64w (by omega) rfl)) ?_)))))
 refine Zk hn rfl (yc _ _ _) (Zt 1 [] hn rfl (Zv (zG rfl (fun hb1=>?_) (fun hb1=>?_))))
 exact absurd hb1 (by rw [show withinB (k:Nat) 0 (((readI b s).1.length:Int) - 1) = true from zm.2 (by omega)]; decide)
 refine zI (zA (Zu (Zt 1 [] hn rfl ?_)))
 refine stepW (s_callE (zCi bb b (readI b s).1 (.slice none 0 0) [] hV v hsl) rfl rfl rfl (nb hn rfl) (.d rfl) rfl (.refl _) ⟨rfl,rfl,trivial⟩ (fun _=>rfl) (fun _ _=>trivial)) fun _=>?_
 refine Zt 5 [] hn rfl (Zv (zB (Zu (Zt 2 [] hn rfl (Zv (zG rfl (fun hb2=>?_) (fun hb2=>?_)))))))
 exact absurd hb2 (by rw [hms]; simp)
 rw [hms]
 try simp only [Option.getD_some]
 refine zI (zA (Zu (Zt 2 [] hn rfl (Zi (i:=k) hn rfl rfl (mget hm) ?_))))
 refine Zs hn (yQ rfl rfl underlying185 rfl sz185 (zA3 m) (zv m) seesF0) ?_
 refine Zk hn rfl (zB9 m) (Zb 14 hn rfl fun b14=>Zt 1 [14] hn rfl (Zv (Zu (Zt 4 [14] hn rfl (Zb 15 hn rfl fun b15=>Zt 1 [15] hn rfl (Zv (zB (Zu (Zt 1 [] hn rfl (Zv (zj (e:=.normal) (ι:=Unit) (fun u0=>anys [53,54,55]) (fun u0=>[(15,.box b15 212 [.d (.int .i64 (k:Nat)),.d (.int .i64 (showP b (readI b s).1 k hi))])]) (fun hJ3=>?_) ?_)))))))))))
 ·
  refine zG rfl (fun hb3=>?_) (fun hb3=>?_)
  have q3:hi = true:=hb3
  have e3:(bndN m).2 = showP b (readI b s).1 k hi:=by rw [hP,q3]; rfl
  refine zF (Zt 3 [14] hn rfl (stepW (s_store1 rfl rfl rfl rfl rfl rfl (id:=15) rfl sz3 (Nat.le_of_ble_eq_true rfl) rfl trivial) fun _=>?_))
  refine zQ ?_
  rotate_left
  have q3:hi = false:=hb3
  have e3:(bndN m).1 = showP b (readI b s).1 k hi:=by rw [hP,q3]; rfl
  refine zI ?_
  rotate_left
  all_goals
   exact Zj hJ3 () (zE _) ⟨.inl (by rw [← e3]; rfl),trivial⟩
 rintro _
 refine zA (Zu (Zt 2 [15] hn rfl ?_))
 refine stepW (s_callE (zCP bb b (readI b s).1 (.slice none 0 0) [] hV k (showP b (readI b s).1 k hi) sp hsp hsl) rfl rfl rfl (nb hn rfl) (.d rfl) rfl (.refl _) ⟨rfl,rfl,trivial⟩ (fun _=>rfl) (fun _ _=>trivial)) fun bb2=>?_
 refine Zt 1 [] hn rfl (Zv (Zu (Zt 1 [] hn rfl (Zv (zB (zB (zq (zEU 1090) ?_)))))))
 refine zq (g_nilV (t:=16) 1090 rfl) ?_
 refine zF (Zt 6 [1070] hn rfl (Zv (zK (awp_loop_on (ι:={x:Nat × List Prt × List Int × Value // x.2.1.length = (readI b s).1.length ∧ x.2.2.1.length ≤ (readI b s).1.length ∧ ShInv b x.2.1 ∧ VecV x.2.2.2 1 (intsT x.2.2.1) ∧ showGo b ((readI b s).1.length - x.2.2.1.length) x.2.1 x.2.2.1 = showGo b (readI b s).1.length (setP (readI b s).1 k (showP b (readI b s).1 k hi)) []}) (fun x=>(64,true,.d (.int .i64 (x.1.2.2.1.length:Nat))) :: (10,true,.val (.pointer (some ⟨x.1.1,0,none⟩))) :: (16,true,.val x.1.2.2.2) :: anys [65,66,17,68,69,67,70,71,12,72,73,74,75,76,77,78,79,80,81,82,83,84,85,86,87,88,89]) (fun x=>[(1070,.box x.1.1 214 (bookC b x.1.2.1 (.slice none 0 0))),(1072,vecRes 3 (.slice none 0 0) 1 (intsT [])),(1090,vecRes 3 x.1.2.2.2 1 (intsT x.1.2.2.1))]) (fun x=>(readI b s).1.length - x.1.2.2.1.length) ⟨(bb2,setP (readI b s).1 k (showP b (readI b s).1 k hi),[],.slice none 0 0),yl,Nat.zero_le _,hinv,hV,rfl⟩ ⟨.inl rfl,.inl rfl,.inl rfl,zE _⟩ ⟨.inl rfl,.inl rfl,.inl rfl,trivial⟩ ?_))))
 rintro ⟨⟨bc,X,out,vv⟩,hX,hol,hI,hVv,hgo⟩
 dsimp only
 dsimp only at hX hol hI hVv hgo
 refine Zu (Zt 1 [] hn rfl (Zv (zB (zG rfl (fun hb4=>?_) (fun hb4=>?_)))))
 ·
  have hil:out.length < (readI b s).1.length:=by simp [yl] at hb4; omega
  obtain ⟨mx,hmx⟩:=hI.lev v
  have hmxl:=zBQ hmx
  obtain ⟨m2,hm2⟩:=zT (show out.length < mx.length by omega)
  obtain ⟨sx,hsx⟩:=zT (show out.length < X.length by omega)
  have esh:(bndN m2).1 = shL b X out.length:=by unfold shL; rw [hmx,Option.getD_some,zP hm2]
  refine zI (zA (zB (zK (Zu (Zt 2 [] hn rfl (Zv (Zu (Zt 1 [] hn rfl ?_))))))))
  refine stepW (s_callE (zCi bc b X (.slice none 0 0) [] hV v (by omega)) rfl rfl rfl (nb hn rfl) (.d rfl) rfl (.refl _) ⟨rfl,rfl,trivial⟩ (fun _=>rfl) (fun _ _=>trivial)) fun _=>?_
  refine Zt 4 [] hn rfl (Zv (zB ?_))
  rw [hmx]
  try simp only [Option.getD_some]
  refine zF (Zt 3 [] hn rfl (Zi (i:=out.length) hn rfl rfl (mget hm2) ?_))
  refine Zs hn (yQ rfl rfl underlying185 rfl sz185 (zA3 m2) (zv m2) seesF0) ?_
  refine Zk hn rfl (zB9 m2) (Zs hn (q_fieldAgg rfl rfl underlying65 rfl underlying3 rfl rfl) ?_)
  refine stepW (zS rfl rfl rfl (nb hn rfl) underlying29 sz3 zr3 rfl rfl rfl (show _ = [.d (.int .i64 0)] from by kernel_rfl) (by kernel_rfl) rfl rfl rfl rfl rfl) fun _=>?_
  refine stepW (zB3 (id:=1090) rfl rfl rfl (nb hn rfl) elt29 zr3 rfl hVv rfl rfl rfl (by simp [chunk]; omega) (by simp [chunk]; omega) (fun _ _=>trivial)) fun ⟨vw,hVw⟩=>?_
  have hVx:VecV vw 1 (intsT (out ++ [shL b X out.length])):=by rw [← esh,← zHE]; exact hVw
  obtain ⟨bv,cv,rfl,hcv,hcm⟩:=zGn hVx (by simp)
  refine yp (gh_req (id:=1090) rfl (show vecRes 3 (.slice (some ⟨bv,0,none⟩) (out ++ [shL b X out.length]).length cv) 1 (intsT out ++ [[D.int IntKind.i64 (bndN m2).1]].flatten.map .d) = Res.box bv 3 (intsT (out ++ [shL b X out.length]) ++ List.replicate ((cv - (out ++ [shL b X out.length]).length) * 1) .any) from by rw [← esh,← zHE]; rfl)) ?_
  refine Zt 1 [] hn rfl (Zv (zF (Zt 4 [] hn rfl (Zs hn (q_indexV (i:=out.length) rfl rfl rfl underlying29 sz3 rfl (by simp)) ?_))))
  refine Zs hn (zi rfl rfl (id:=1090) rfl underlying3 rfl iT_last sees0) ?_
  refine Zt 1 [] hn rfl ?_
  refine stepW (s_callE (zCP bc b X (.slice none 0 0) [] hV out.length (shL b X out.length) sx hsx (by omega)) rfl rfl rfl (nb hn rfl) (.d rfl) rfl (.refl _) ⟨rfl,rfl,trivial⟩ (fun _=>rfl) (fun _ _=>trivial)) fun bb3=>?_
  refine Zt 1 [] hn rfl (zQ (zO (zA (zF (Zs hn (za rfl rfl rfl (r:=((out.length + 1:Nat):Int)) (i64w (by omega) (by omega))) ?_)))))
  refine Zt 1 [] hn rfl (zQ ?_)
  exact Zr ⟨(bb3,setP X out.length (shL b X out.length),out ++ [shL b X out.length],.slice (some ⟨bv,0,none⟩) (out ++ [shL b X out.length]).length cv),by simp only; rw [yl]; exact hX,by simp only [List.length_append,List.length_cons,List.length_nil]; omega,hI.step v (by omega),vec_mk4 hcv hcm,by simp only; rw [← hgo,show_step hil]⟩ ⟨.inl (congrArg (fun z=>some (true,TV.d (D.int .i64 z))) (by simp only [List.length_append,List.length_cons,List.length_nil])),.inl rfl,.inl rfl,zE _⟩ ⟨.inl rfl,.inl rfl,.inl rfl,trivial⟩ (by simp only [List.length_append,List.length_cons,List.length_nil]; omega)
 have hie:out.length = (readI b s).1.length:=by simp [yl] at hb4; omega
 have e2:out = showGo b (readI b s).1.length (setP (readI b s).1 k (showP b (readI b s).1 k hi)) []:=by rw [← hgo,hie,Nat.sub_self]; rfl
 obtain ⟨bz,cz,rfl,hcz,hczm⟩:=zGn hVv (by omega)
 refine zU (zD (zD (zL (zA (Zu (Zt 3 [] hn rfl (Zv (zJ ?_))))))))
 exact ret_E (.inl rfl) ⟨(bz,cz),by rw [← e2]; exact hie,by rw [← hie]; exact hcz,hczm⟩ (zAi rfl (.tmp (congrArg (fun z=>some (true,TV.val (Value.slice (some ⟨bz,0,none⟩) z cz))) hie)) (.tmp rfl)) ⟨(congrArg some (by show Res.box bz 3 (intsT out ++ List.replicate ((cz - out.length) * 1) .any) = Res.box bz 3 (intsT (showGo b (readI b s).1.length (setP (readI b s).1 k (showP b (readI b s).1 k hi)) []) ++ List.replicate (cz - (readI b s).1.length) .any); rw [← e2,Nat.mul_one,← hie])),trivial⟩
/-- Prices of all stocks, but for one stock those of its own. -/
def prcU (l:List Prt) (k:Int) (own sh:List Int):Nat → List Int
  | 0=>sh
  | i + 1=>bif (l.getD i prt0).stock == k then (prcU l k own sh i).set i (own.getD i 0) else prcU l k own sh i
def minW (mm:List (Int × Int)) (fr i:Nat):Int:=bif decide ((i:Int) < (fr:Nat)) then (mm.getD i (0,0)).1 else (mm.getD i (0,0)).2
def minU (mm:List (Int × Int)) (fr i:Nat):List Int:=(List.range i).map (minW mm fr)
def ordW (os:List Ord) (mm:List (Int × Int)) (fr:Nat) (q:Int) (i:Nat):Int:=bif ((i:Int) == q) && decide ((0:Int) < (fr:Nat)) then max (os.getD i ord0).mlo (mm.getD (fr - 1) (0,0)).1 else (os.getD i ord0).mlo
def ordU (os:List Ord) (mm:List (Int × Int)) (fr:Nat) (q:Int) (i:Nat):List Int:=(List.range i).map (ordW os mm fr q)
theorem zAE {l:List Prt} {k:Int} {own sh:List Int}:∀ i,(prcU l k own sh i).length = sh.length
  | 0=>rfl
  | i + 1=>by
    rw [prcU]
    cases (l.getD i prt0).stock == k
    · exact zAE i
    · rw [cond_true,List.length_set]; exact zAE i
theorem minU_add {mm:List (Int × Int)} {fr i:Nat}:(minU mm fr i).map intE ++ [intE (minW mm fr i)] = (minU mm fr (i + 1)).map intE:=by unfold minU; rw [List.range_succ]; simp
theorem ordU_add {os:List Ord} {mm:List (Int × Int)} {fr i:Nat} {q:Int}:(ordU os mm fr q i).map intE ++ [intE (ordW os mm fr q i)] = (ordU os mm fr q (i + 1)).map intE:=by unfold ordU; rw [List.range_succ]; simp
theorem iTr_set {l:List Int} {i:Nat} {x:Int} {r:List TV} (h:i < l.length):(intsT l ++ r).set (0 + i * 1) (.d (.int .i64 x)) = intsT (l.set i x) ++ r:=by
  rw [Nat.zero_add,Nat.mul_one,List.set_append_left _ _ (by simp; exact h),intsT,intsT,List.map_set]
theorem iT_d (l:List Int):intsT l = (l.map fun z=>D.int .i64 z).map .d:=by simp [intsT]
theorem zGt {l:List Prt} {J n:Nat} {ms:List Nat}:∀ {L:List Nat} {bf:Nat} {out:List Int},out.length = n → (onlGo l J ms L bf out).length = n
  | [],bf,out,h=>h
  | i :: r,bf,out,h=>by rw [onlGo]; exact zGt (zE1 h)
theorem show_pk (d:Dsk) (l:List Prt) (hr:readI d.b d.tape = (l,0)) (hN:NamesOK d.b) (h5:d.tape.length ≤ 4294967000) (hpos:0 < l.length) (hex:(levelsI d.b l []).isSome = true):EffAt Tryz.prog 165 [.d (brdD d.b),.d (strD d.tape),.d (.int .i64 0),.d (.bool false)] [] (X:={x:Nat × Nat // (showGo d.b l.length (setP l 0 (showP d.b l 0 false)) []).length = l.length ∧ l.length ≤ x.2 ∧ x.2 ≤ maxLen}) (fun x=>.tup [.val (.slice (some ⟨x.1.1,0,none⟩) l.length x.1.2),.d (.int .i64 0)]) (fun x=>[(1090,.box x.1.1 3 (intsT (showGo d.b l.length (setP l 0 (showP d.b l 0 false)) []) ++ List.replicate (x.1.2 - l.length) .any))]):=by
  have hr1:(readI d.b d.tape).1 = l:=by rw [hr]
  have h:=Show_vec d.b d.tape hN h5 (by rw [hr]) 0 false (by rw [hr1]; exact hpos) (by rw [hr1]; exact hex)
  rw [hr1] at h
  exact h
theorem truth_eff (d:Dsk) (l:List Prt) (o:Ord) (mm:List (Int × Int)) (b:Nat)(hf:0 ≤ d.fee ∧ d.fee ≤ 4)(J:Nat) (hJ:d.b.jump = (J:Nat)) (hJ4:J ≤ 40) (hl8:l.length ≤ 8)(s:Stk) (k:Nat) (hk:o.stock = (k:Nat)) (hst:d.b.stocks[k]? = some s) (q:Int) (fr w price:Nat) (hw:w < l.length) (hwm:(l.getD w prt0).stock = o.stock) (hpr:price < 800) (c:List Nat) (hc:chainN d.b l d.fee o (fr:Nat) (w:Nat) = some c) (hml:mm.length = l.length) (hfr:fr ≤ l.length) (ho5:d.orders.length ≤ 5) (hr:readI d.b d.tape = (l,0)) (hex:(levelsI d.b l []).isSome = true) (hN:NamesOK d.b) (h5:d.tape.length ≤ 4294967000) (own:List Int) (how:onlGo l J (bckGo J o.stock l l.length none (c.set w (putB 0 price true))) (ofL l o.stock 0) (startN s) (List.replicate l.length 0) = own):EffAt Tryz.prog 112 [.d (.ptr (askC d l o mm b)),.d (.int .i64 q),.d (waitD (fr:Nat) (w:Nat)),.d (.int .i64 (price:Nat))] [] (X:=Unit) (fun _=>.d (truD ⟨prcU l o.stock own (showGo d.b l.length (setP l 0 (showP d.b l 0 false)) []) l.length,minU mm fr l.length,ordU d.orders mm fr q d.orders.length⟩)) (fun _=>[]):=by
 have hr1:(readI d.b d.tape).1 = l:=by rw [hr]
 have hr2:(readI d.b d.tape).2 = 0:=by rw [hr]
 have hpos:0 < l.length:=by omega
 have hol:own.length = l.length:=by rw [← how]; exact zGt (by simp)
 refine EffAt.of_awp Tryz.func112 rfl (by kernel_rfl) rfl fun Γ hn=>?_
 refine Zu (Zb 6 hn rfl fun b6=>Zb 8 hn rfl fun b8=>Zv (zB (zq (z7 (t:=6) 6 rfl (nb hn rfl) rfl rfl trivial) ?_)))
 refine zF (Zb 9 hn rfl fun b9=>Zv (zB (zh (W:=fun b=>True) fmo ?_)))
 refine Zy [0,1,2,3,4,5,6,7,8,9,10,11,12,13,14,15] [] hn rfl (zH ?_)
 refine Zo 16 rfl (s_callE (show_pk d l hr hN h5 hpos hex) rfl rfl rfl (nb hn rfl) (.d rfl) rfl (.refl _) trivial (fun _=>rfl) (fun _ _=>trivial)) fun ⟨⟨bp,cp⟩,hshl,hcp,hcm⟩=>?_
 refine d2_of_d1 (Zy [17,18,19,20] [] hn rfl (zH (Zo 21 rfl (s_store1 rfl rfl rfl rfl rfl rfl (id:=9) rfl sz29 (Nat.le_of_ble_eq_true rfl) rfl trivial) fun _=>?_)))
 refine d2_of_d1 (zH (zf (by kernel_rfl) ?_))
 refine zA (Zu (Zt 3 [] hn rfl (Zk hn rfl ((by have h:=PureAt.of_eff (ds:=[.ptr (askC d l o mm b),waitD (fr:Nat) (w:Nat),.int .i64 (price:Nat)]) (only_eff d l o mm b hf J hJ hJ4 hl8 s k hk hst (fr:Nat) w price hw hwm hpr c hc); rw [how] at h; exact h)) ?_)))
 refine Zt 1 [] hn rfl (Zv (zB (zB ?_)))
 have hshl2:(showGo d.b l.length (setP l 0 (showP d.b l 0 false)) []).length = l.length:=hshl
 refine zq (gh_nilcell (id:=9) (k:=1) 1091 3 1 rfl rfl) ?_
 refine zq (gh_nilcell (id:=9) (k:=2) 1092 3 1 rfl rfl) ?_
 refine zF (Zt 9 [] hn rfl (Zv (zK (awp_loop_on (ι:={x:Nat × Value // x.1 ≤ l.length}) (fun x=>(50,true,.d (.int .i64 (x.1.1:Nat))) :: anys [51,52,53,54,12,11,55,56,57,58,59,60,61,62,13,63,64,65,66,67,68,69,70,71,72,73,74,75,76,77,78,79,80,81,82,83,84,85,86,87,88,89,90,91,92,93,94,95,96,97]) (fun x=>(9,.box b9 56 [.val (.slice (some ⟨bp,0,none⟩) l.length cp),.val x.1.2,.val (.slice none 0 0)]) :: (1091,.row x.1.2 3 1 ((minU mm fr x.1.1).map intE)) :: (1090,.box bp 3 (intsT (prcU l o.stock own (showGo d.b l.length (setP l 0 (showP d.b l 0 false)) []) x.1.1) ++ List.replicate (cp - l.length) TV.any)) :: gones [12]) (fun x=>l.length - x.1.1) ⟨(0,.slice none 0 0),Nat.zero_le _⟩ ⟨.inl rfl,zE _⟩ ⟨.inl rfl,.inl rfl,.inl rfl,zR _⟩ ?_))))
 rintro ⟨⟨i,vm⟩,hi⟩
 dsimp only
 dsimp only at hi
 refine Zu (Zt 1 [] hn rfl (Zv (zB (zG rfl (fun hb0=>?_) (fun hb0=>?_)))))
 have hil:i < l.length:=by simp at hb0; omega
 obtain ⟨p,hp⟩:=zT hil
 have hgp:l.getD i prt0 = p:=zP hp
 obtain ⟨r1,hr1m⟩:=zT (show i < mm.length by omega)
 obtain ⟨ow,how1⟩:=zT (show i < own.length by omega)
 have hpu:=zAE (l:=l) (k:=o.stock) (own:=own) (sh:=showGo d.b l.length (setP l 0 (showP d.b l 0 false)) []) i
 rw [hshl2] at hpu
 refine zI (zA (zB (zK (Zu (Zt 1 [] hn rfl (Zi (i:=i) hn rfl rfl (mget hp) ?_))))))
 refine Zt 1 [] hn rfl (Zb 12 hn rfl fun b12=>Zt 2 [12] hn rfl (Zv (Zu (Zt 5 [] hn rfl (Zi (i:=i) hn rfl rfl (mget hr1m) ?_)))))
 refine Zt 3 [] hn rfl (Zv (zB (Zu (Zt 4 [] hn rfl (Zv (zj (e:=.normal) (ι:=Unit) (fun u0=>(13,true,.d (.int .i64 (minW mm fr i))) :: anys [67,68,69,70,71,72,73,74]) (fun u0=>[]) (fun hJ1=>?_) ?_))))))
 ·
  refine zG rfl (fun hb1=>?_) (fun hb1=>?_)
  have q1:decide ((i:Int) < (fr:Nat)) = true:=hb1
  refine zF (Zt 5 [] hn rfl (Zi (i:=i) hn rfl rfl (mget hr1m) ?_))
  refine Zt 3 [] hn rfl (zQ ?_)
  rotate_left
  have q1:decide ((i:Int) < (fr:Nat)) = false:=hb1
  refine zI ?_
  rotate_left
  all_goals
   exact Zj hJ1 () ⟨.inl (congrArg (fun z=>some (true,TV.d (D.int .i64 z))) (by unfold minW; rw [q1,zP hr1m]; rfl)),zE _⟩ trivial
 rintro _
 refine zA (Zu (Zt 3 [9] hn rfl (stepW (zS rfl rfl rfl (nb hn rfl) underlying29 sz3 zr3 rfl rfl rfl (show _ = [.d (.int .i64 0)] from by kernel_rfl) (by kernel_rfl) rfl rfl rfl rfl rfl) fun _=>?_)))
 refine stepW (s_append (id:=1091) rfl rfl rfl (nb hn rfl) elt29 trivial rfl rfl rfl (by unfold minU; simp [chunk]; omega) (by unfold minU; simp [chunk]; omega) (fun b hb=>trivial)) fun v79=>?_
 refine Zt 1 [] hn rfl (stepW (s_storeRow rfl rfl rfl rfl rfl (rid:=1091) rfl (id:=9) rfl sz29 (Nat.le_of_ble_eq_true rfl) rfl trivial) fun _=>?_)
 refine Zv (zB (zh (W:=fun b=>b ≠ b12) fmo ?_))
 refine Zy [0,1,2,3,4,5,6,7] [12] hn rfl (zH (zf (by kernel_rfl) ?_))
 refine zA (zj (e:=.normal) (ι:=Unit) (fun u0=>anys [89,90,91,92,93,94,95,96]) (fun u0=>[(1090,.box bp 3 (intsT (prcU l o.stock own (showGo d.b l.length (setP l 0 (showP d.b l 0 false)) []) (i + 1)) ++ List.replicate (cp - l.length) TV.any))]) (fun hJ2=>?_) ?_)
 refine zG rfl (fun hb2=>?_) (fun hb2=>?_)
 have q2:(p.stock == o.stock) = true:=hb2
 refine zh (W:=fun b=>b ≠ b9) fmo ?_
 refine Zy [0,1,2,3,4] [9] hn rfl (Zd 5 rfl hn (q_index (i:=i) rfl rfl rfl underlying29 sz3 rfl (mget how1)) ?_)
 refine Zy [6] [] hn rfl (Zd 7 rfl hn (q_indexV (i:=i) rfl rfl rfl underlying29 sz3 rfl (by omega)) ?_)
 refine zH (yN (i:=1090) (j:=9) rfl rfl rfl (fun hne1090_9=>?_))
 refine Zo 8 rfl (s_store1 rfl rfl rfl rfl rfl rfl (id:=1090) rfl sz3 (by rw [List.length_append,List.length_map]; omega) (iTr_set (by omega)) (fun e=>hne1090_9 _ rfl (congrArg some e.symm))) fun _=>?_
 refine d2_of_d1 (zH (zf (by kernel_rfl) ?_))
 exact Zj hJ2 () (zE _) ⟨.inl (congrArg (fun z=>some (Res.box bp 3 (intsT z ++ List.replicate (cp - l.length) TV.any))) (by rw [prcU,hgp,q2,zP how1]; rfl)),trivial⟩
 have q2:(p.stock == o.stock) = false:=hb2
 refine zI ?_
 exact Zj hJ2 () (zE _) ⟨.inl (congrArg (fun z=>some (Res.box bp 3 (intsT z ++ List.replicate (cp - l.length) TV.any))) (by rw [prcU,hgp,q2]; rfl)),trivial⟩
 rintro _
 refine zO (zA (zF (Zs hn (za rfl rfl rfl (r:=((i + 1:Nat):Int)) (i64w (by omega) (by omega))) ?_)))
 refine Zt 1 [] hn rfl (zQ ?_)
 exact Zr ⟨(i + 1,v79),by simp only; omega⟩ ⟨.inl rfl,zE _⟩ ⟨.inl rfl,.inl (congrArg (fun z=>some (Res.row v79 3 1 z)) minU_add),.inl rfl,zR _⟩ (by simp only; omega)
 obtain rfl:i = l.length:=by simp at hb0; omega
 refine zU (zD (zD (zL (zA (zB (Zu (Zt 10 [] hn rfl (Zv (zK (awp_loop_on (ι:={x:Nat × Value // x.1 ≤ d.orders.length}) (fun x=>(107,true,.d (.int .i64 (x.1.1:Nat))) :: anys [108,109,110,111,15,14,112,113,114,16,115,116,117,118,119,120,121,122,123,124,125,126,127,128,129,130,131,132,133,134,135,136,137,138,139,140,141]) (fun x=>(9,.box b9 56 [.val (.slice (some ⟨bp,0,none⟩) l.length cp),.val vm,.val x.1.2]) :: (1092,.row x.1.2 3 1 ((ordU d.orders mm fr q x.1.1).map intE)) :: gones [15]) (fun x=>d.orders.length - x.1.1) ⟨(0,.slice none 0 0),Nat.zero_le _⟩ ⟨.inl rfl,zE _⟩ ⟨.inl rfl,.inl rfl,zR _⟩ ?_))))))))))
 rintro ⟨⟨n,vo⟩,hn1⟩
 dsimp only
 dsimp only at hn1
 refine Zu (Zt 1 [] hn rfl (Zv (zB (zG rfl (fun hb3=>?_) (fun hb3=>?_)))))
 have hnl:n < d.orders.length:=by simp at hb3; omega
 obtain ⟨o2,ho2⟩:=zT hnl
 refine zI (zA (zB (zK (Zu (Zt 1 [] hn rfl (Zi (i:=n) hn rfl rfl (mget ho2) ?_))))))
 refine Zt 1 [] hn rfl (Zb 15 hn rfl fun b15=>Zt 2 [15] hn rfl (Zv (Zu (Zt 4 [15] hn rfl (Zv (zB (Zu (Zt 8 [] hn rfl (Zv (zj (e:=.normal) (ι:=Unit) (fun u0=>(16,true,.d (.int .i64 (ordW d.orders mm fr q n))) :: anys [123,124,125,126,127,128,129,130,131,132,133,134]) (fun u0=>[]) (fun hJ4=>?_) ?_))))))))))
 refine zG rfl (fun hb4=>?_) (fun hb4=>?_)
 have q4:((n:Int) == q && decide ((0:Int) < (fr:Nat))) = true:=hb4
 have hf0:0 < fr:=by simp at q4; omega
 obtain ⟨r2,hr2m⟩:=zT (show fr - 1 < mm.length by omega)
 refine zh (W:=fun b=>True) fmo ?_
 refine Zy [0,1,2,3,4,5,6] [] hn rfl (Zd 7 rfl hn (z6 rfl rfl rfl (r:=((fr - 1:Nat):Int)) (i64w (by omega) (by omega))) ?_)
 refine Zd 8 rfl hn (q_index (i:=fr - 1) rfl rfl rfl underlying43 sz65 rfl (mget hr2m)) ?_
 refine Zy [9,10] [] hn rfl (Zd 11 rfl hn (kK rfl rfl rfl) ?_)
 refine Zy [12] [] hn rfl (zH (zf (by kernel_rfl) ?_))
 exact Zj hJ4 () ⟨.inl (congrArg (fun z=>some (true,TV.d (D.int .i64 z))) (by unfold ordW; rw [q4,zP ho2,zP hr2m]; rfl)),zE _⟩ trivial
 have q4:((n:Int) == q && decide ((0:Int) < (fr:Nat))) = false:=hb4
 refine zI ?_
 exact Zj hJ4 () ⟨.inl (congrArg (fun z=>some (true,TV.d (D.int .i64 z))) (by unfold ordW; rw [q4,zP ho2]; rfl)),zE _⟩ trivial
 rintro _
 refine zA (zF (Zt 3 [9] hn rfl (stepW (zS rfl rfl rfl (nb hn rfl) underlying29 sz3 zr3 rfl rfl rfl (show _ = [.d (.int .i64 0)] from by kernel_rfl) (by kernel_rfl) rfl rfl rfl rfl rfl) fun _=>?_)))
 refine stepW (s_append (id:=1092) rfl rfl rfl (nb hn rfl) elt29 trivial rfl rfl rfl (by unfold ordU; simp [chunk]; omega) (by unfold ordU; simp [chunk]; omega) (fun b hb=>trivial)) fun v139=>?_
 refine Zt 1 [] hn rfl (stepW (s_storeRow rfl rfl rfl rfl rfl (rid:=1092) rfl (id:=9) rfl sz29 (Nat.le_of_ble_eq_true rfl) rfl trivial) fun _=>?_)
 refine zQ (zO (zA (zF (Zs hn (za rfl rfl rfl (r:=((n + 1:Nat):Int)) (i64w (by omega) (by omega))) ?_))))
 refine Zt 1 [] hn rfl (zQ ?_)
 exact Zr ⟨(n + 1,v139),by simp only; omega⟩ ⟨.inl rfl,zE _⟩ ⟨.inl rfl,.inl (congrArg (fun z=>some (Res.row v139 3 1 z)) ordU_add),zR _⟩ (by simp only; omega)
 obtain rfl:n = d.orders.length:=by simp at hb3; omega
 refine zU (zD (zD (zL (zA (zB (zq (gh_rowcell (id:=9) (k:=1) (rid:=1091) rfl rfl rfl) ?_))))))
 refine zq (gh_rowcell (id:=9) (k:=2) (rid:=1092) rfl rfl rfl) ?_
 refine zq (gh_veccell (id:=9) (k:=0) (rid:=1090) (ds:=(prcU l o.stock own (showGo d.b l.length (setP l 0 (showP d.b l 0 false)) []) l.length).map fun z=>D.int .i64 z) (rest:=List.replicate (cp - l.length) TV.any) (n:=l.length) (sz:=1) rfl rfl (show _ = some (Res.box bp 3 (((prcU l o.stock own (showGo d.b l.length (setP l 0 (showP d.b l 0 false)) []) l.length).map fun z=>D.int .i64 z).map .d ++ List.replicate (cp - l.length) TV.any)) from (congrArg (fun z=>some (Res.box bp 3 (z ++ List.replicate (cp - l.length) TV.any))) (iT_d _))) rfl (by rw [List.length_map,zAE,hshl2,Nat.mul_one]) (zCq (by rw [zAE,hshl2])) hcp hcm) ?_
 refine zF (Zt 2 [9,8] hn rfl (Zv (zJ ?_)))
 exact ret_E (.inl rfl) () (zu rfl (.d (.cellA rfl (id:=8) rfl underlying56 rfl sz56 rfl rfl))) trivial
/-- The truth that is made of a wait. -/
def wtr (d:Dsk) (l:List Prt) (o:Ord) (mm:List (Int × Int)) (q:Int) (fr w price:Nat) (c:List Nat):Tru :=
  ⟨prcU l o.stock (onlGo l d.b.jump.toNat (bckGo d.b.jump.toNat o.stock l l.length none (c.set w (putB 0 price true))) (ofL l o.stock 0) (startN (d.b.stocks.getD o.stock.toNat stk0)) (List.replicate l.length 0)) (showGo d.b l.length (setP l 0 (showP d.b l 0 false)) []) l.length,minU mm fr l.length,ordU d.orders mm fr q d.orders.length⟩
/-- A wait with a price by which the order has a price. -/
structure GoodW (d:Dsk) (l:List Prt) (o:Ord) (mm:List (Int × Int)) (side:Int) (fr w p:Nat):Prop where
  ex:∃ m,canO d.b l d.fee o mm fr (w:Nat) = some m ∧ m.testBit p = true
  p8:p < 800
  pr:priceO d.fee o (p:Nat) = side
theorem zAC {b:Brd} {l:List Prt} {fee:Int} {o:Ord} {mm:List (Int × Int)} {fr w m:Nat} (h:canO b l fee o mm fr (w:Nat) = some m):fr ≤ w ∧ w < l.length ∧ (l.getD w prt0).stock = o.stock ∧ waitsB o mm fr = true ∧ ∃ c,chainN b l fee o (fr:Nat) (w:Nat) = some c ∧ (backN b l o c).getD w 0 = m:=by
  unfold canO at h
  cases h1:(decide (fr ≤ l.length) && waitsB o mm fr) <;> rw [h1] at h
  · cases h
  · simp only [Bool.and_eq_true_iff,decide_eq_true_eq] at h1
    rw [cond_true,show (((w:Nat):Int) == -1) = false by simp,cond_false] at h
    cases h3:(decide ((fr:Int) ≤ (w:Nat)) && decide (((w:Nat):Int) < (l.length:Int)) && ((l.getD ((w:Nat):Int).toNat prt0).stock == o.stock)) <;> rw [h3] at h
    · cases h
    · simp only [Bool.and_eq_true_iff,decide_eq_true_eq,beq_iff_eq,Int.toNat_natCast] at h3
      rw [cond_true,Int.toNat_natCast] at h
      obtain ⟨c,hc,he⟩:=Option.map_eq_some_iff.1 h
      exact ⟨by omega,by omega,h3.2,h1.2,c,hc,he⟩
/-- What 'Show' gives. -/
inductive ShowR (d:Dsk) (q:Int) (high:Bool):Tru → Int → Prop
  | bad (h:sureO d [q] ≠ 0):ShowR d q high ⟨[],[],[]⟩ (sureO d [q])
  | no (h:sureO d [q] = 0) (hb:(bndI d.b (readI d.b d.tape).1 d.fee (d.orders.getD q.toNat ord0) (minutesI d.b d.tape).1).2 = false):ShowR d q high ⟨[],[],[]⟩ 2
  | yes (h : sureO d [q] = 0) (hb : (bndI d.b (readI d.b d.tape).1 d.fee (d.orders.getD q.toNat ord0) (minutesI d.b d.tape).1).2 = true) (fr w p : Nat) (c : List Nat)
      (hg:GoodW d (readI d.b d.tape).1 (d.orders.getD q.toNat ord0) (minutesI d.b d.tape).1 (bif high then (bndI d.b (readI d.b d.tape).1 d.fee (d.orders.getD q.toNat ord0) (minutesI d.b d.tape).1).1.2 else (bndI d.b (readI d.b d.tape).1 d.fee (d.orders.getD q.toNat ord0) (minutesI d.b d.tape).1).1.1) fr w p)
      (hc:chainN d.b (readI d.b d.tape).1 d.fee (d.orders.getD q.toNat ord0) (fr:Nat) (w:Nat) = some c):ShowR d q high (wtr d (readI d.b d.tape).1 (d.orders.getD q.toNat ord0) (minutesI d.b d.tape).1 q fr w p c) 0
theorem good_ex {d:Dsk} {l:List Prt} {o:Ord} {mm:List (Int × Int)} {high:Bool} (h:(bndI d.b l d.fee o mm).2 = true):∃ fr w p,GoodW d l o mm (bif high then (bndI d.b l d.fee o mm).1.2 else (bndI d.b l d.fee o mm).1.1) fr w p:=by
  rcases zBF d.b l d.fee o mm with ⟨h1,_⟩ | ⟨_,⟨h1,_⟩ | ⟨_,h2,h3,_⟩⟩
  · rw [h1] at h; cases h
  · rw [h1] at h; cases h
  · have key : ∀ {x : Int}, PriS (canO d.b l d.fee o mm) d.fee o (fun _ => True) x → ∃ fr w p, GoodW d l o mm x fr w p := fun {x} hx => by
      obtain ⟨fr,c,m,p,e1,e2,_,e3,e4,e5⟩:=hx
      obtain ⟨_,e6 | ⟨i,rfl,_,_⟩⟩:=zBi e1
      · exact (e2 e6).elim
      · exact ⟨fr,i,p,⟨m,e1,e4⟩,e3,e5.symm⟩
    cases high
    · exact key h2
    · exact key h3
theorem truth_pk (d : Dsk) (l : List Prt) (mm : List (Int × Int)) (h : SurH d l mm) (hN : NamesOK d.b) (h5 : d.tape.length ≤ 4294967000) (o : Ord) (hob : ordB d.b o = true) (b : Nat) (q : Int) (fr w price : Nat) (hpr : price < 800) (m : Nat) (hm : canO d.b l d.fee o mm fr (w : Nat) = some m) (c : List Nat) (hc : chainN d.b l d.fee o (fr : Nat) (w : Nat) = some c) :
    EffAt Tryz.prog 112 [.d (.ptr (askC d l o mm b)),.d (.int .i64 q),.d (waitD (fr:Nat) (w:Nat)),.d (.int .i64 (price:Nat))] [] (X:=Unit) (fun _=>.d (truD (wtr d l o mm q fr w price c))) (fun _=>[]):=by
  obtain ⟨k,s,hk,hs⟩:=h.stk hob
  obtain ⟨h1,h2,h3,_⟩:=zAC hm
  have e:d.b.stocks.getD o.stock.toNat stk0 = s:=by rw [hk,Int.toNat_natCast]; exact zP hs
  unfold wtr
  rw [e]
  exact truth_eff d l o mm b h.fe d.b.jump.toNat (by have:=h.v.j0; omega) (by have:=h.v.j4; omega) h.l8 s k hk hs q fr w price h2 h3 hpr c hc h.ml (by omega) h.o5 h.hr ((yj (out:=[]) y7 h.v h.po).1.2 h.ex) hN h5 _ rfl
theorem low4_ok (a b:Int):PureAt Tryz.prog 109 [.agg [.int .i64 a,.int .i64 b]] (.int .i64 a):=by
 refine Zp Tryz.func109 rfl fun Γ hn hl=>?_
 refine Zu ?_
 refine Zb 1 hn rfl fun b1=>?_
 refine Zt 1 [] hn rfl ?_
 refine Zv (Zu ?_)
 refine Zt 3 [1] hn rfl ?_
 refine Zv (zJ ?_)
 exact zX (.inl rfl) hl rfl (.tmp rfl)
theorem high4_ok (a b:Int):PureAt Tryz.prog 110 [.agg [.int .i64 a,.int .i64 b]] (.int .i64 b):=by
 refine Zp Tryz.func110 rfl fun Γ hn hl=>?_
 refine Zu ?_
 refine Zb 1 hn rfl fun b1=>?_
 refine Zt 1 [] hn rfl ?_
 refine Zv (Zu ?_)
 refine Zt 3 [1] hn rfl ?_
 refine Zv (zJ ?_)
 exact zX (.inl rfl) hl rfl (.tmp rfl)
theorem side_ok (high:Bool) (r:Int × Int):PureAt Tryz.prog (bif high then 110 else 109) ([] ++ [rngD r] ++ []) (.int .i64 (bif high then r.2 else r.1)):=by
  cases high
  · exact low4_ok r.1 r.2
  · exact high4_ok r.1 r.2
theorem gw_w {d:Dsk} {l:List Prt} {o:Ord} {mm:List (Int × Int)} {side:Int} {fr w p:Nat} (h:GoodW d l o mm side fr w p):w < l.length:=by
  obtain ⟨m,hm,_⟩:=h.ex
  exact (zAC hm).2.1
theorem gw_fr {d:Dsk} {l:List Prt} {o:Ord} {mm:List (Int × Int)} {side:Int} {fr w p:Nat} (h:GoodW d l o mm side fr w p):fr < l.length:=by
  obtain ⟨m,hm,_⟩:=h.ex
  have:=zAC hm; omega
theorem gw_of {d:Dsk} {l:List Prt} {o:Ord} {mm:List (Int × Int)} {side:Int} {fr w p:Nat} (hp:p < 800) (h:(((canO d.b l d.fee o mm fr (w:Nat)).getD 0).testBit p && (priceO d.fee o (p:Nat) == side)) = true):GoodW d l o mm side fr w p:=by
  simp only [Bool.and_eq_true_iff,beq_iff_eq] at h
  cases hc:canO d.b l d.fee o mm fr (w:Nat) with
  | none=>rw [hc] at h; simp at h
  | some m=>rw [hc] at h; exact ⟨⟨m,hc,h.1⟩,hp,h.2⟩
theorem gw_to {d:Dsk} {l:List Prt} {o:Ord} {mm:List (Int × Int)} {side:Int} {fr w p:Nat} (h:GoodW d l o mm side fr w p):(((canO d.b l d.fee o mm fr (w:Nat)).getD 0).testBit p && (priceO d.fee o (p:Nat) == side)) = true:=by
  obtain ⟨m,hm,hb⟩:=h.ex
  rw [hm,Option.getD_some,hb,h.pr]; simp
theorem zDV (d:Dsk) (hN:NamesOK d.b) (h5:d.tape.length ≤ 4294967000) (ho:d.orders.length ≤ 1000) (q:Int) (high:Bool):EffAt Tryz.prog 52 [.d (dskD d),.d (.int .i64 q),.d (.bool high)] [] (X:={x:Tru × Int // ShowR d q high x.1 x.2}) (fun x=>.d (.tup [truD x.1.1,.int .i64 x.1.2])) (fun _=>[]):=by
 refine EffAt.of_awp Tryz.func52 rfl (by kernel_rfl) rfl fun Γ hn=>?_
 refine Zu (Zb 3 hn rfl fun b3=>Zb 6 hn rfl fun b6=>Zt 1 [] hn rfl (Zv (Zu (Zt 2 [3] hn rfl (stepW (zS rfl rfl rfl (nb hn rfl) underlying29 sz3 zr3 rfl rfl rfl (show _ = [.d (.int .i64 0)] from by kernel_rfl) (by kernel_rfl) rfl rfl rfl rfl rfl) fun _=>?_)))))
 refine Zk hn rfl (zBZ d hN h5 ho [q] (by simp)) (Zt 5 [] hn rfl (Zv (zB (Zu (Zt 2 [] hn rfl (Zv (zG rfl (fun hb0=>?_) (fun hb0=>?_))))))))
 have q0:(sureO d [q] != 0) = true:=hb0
 refine Zu (Zt 4 [6] hn rfl (Zv (zJ (zC ?_))))
 exact ret_E (.inl rfl) ⟨(⟨[],[],[]⟩,sureO d [q]),.bad (by simpa using q0)⟩ ((zp rfl (.d (.cellA rfl (id:=6) rfl underlying56 rfl sz56 rfl rfl)) (.tmp rfl)).le (.tup (.cons (.agg (.cons (.nil 1) (.cons (.nil 1) (.cons (.nil 1) (.refl _))))) (.refl _)))) trivial
 have q0:(sureO d [q] != 0) = false:=hb0
 have q00:sureO d [q] = 0:=by simpa using q0
 obtain ⟨H,hq,hP⟩:=yw q00
 rw [hP]
 have hqq:=hq q List.mem_cons_self
 obtain ⟨q,rfl⟩:∃ k:Nat,q = k:=⟨q.toNat,by omega⟩
 obtain ⟨o,hoq⟩:=zT (show q < d.orders.length by omega)
 have hl8:=H.l8
 have hob:=H.ob o (List.mem_of_getElem? hoq)
 have hgo:d.orders.getD ((q:Nat):Int).toNat ord0 = o:=by rw [Int.toNat_natCast]; exact zP hoq
 refine zI (zA (Zu (Zt 2 [] hn rfl (stepW (s_callE (zEH d _ _ H hN h5 o q hoq) rfl rfl rfl (nb hn rfl) (.d rfl) rfl (.refl _) trivial (fun _=>rfl) (fun _ _=>trivial)) fun bm=>?_))))
 refine Zt 5 [] hn rfl (Zv (zB (Zu (Zt 2 [] hn rfl (Zv (zG rfl (fun hb1=>?_) (fun hb1=>?_)))))))
 exact absurd hb1 (by decide)
 refine zI (zA (Zu (Zt 1 [] hn rfl ?_)))
 refine stepW (s_callE (zHM d _ o _ bm H.fe) rfl rfl rfl (nb hn rfl) (.d rfl) rfl (.refl _) ⟨rfl,trivial⟩ (fun _=>rfl) (fun _ _=>trivial)) fun _=>?_
 refine Zt 3 [] hn rfl (Zb 11 hn rfl fun b11=>Zt 2 [11] hn rfl (Zv (zB (Zu (Zt 2 [] hn rfl (Zv (zG rfl (fun hb2=>?_) (fun hb2=>?_))))))))
 have q2:(bndI d.b (readI d.b d.tape).1 d.fee o (minutesI d.b d.tape).1).2 = false:=by simpa using hb2
 refine Zu (Zt 3 [6] hn rfl (Zv (zJ (zC ?_))))
 exact ret_E (.inl rfl) ⟨(⟨[],[],[]⟩,2),.no q00 (by rw [hgo]; exact q2)⟩ ((zp rfl (.d (.cellA rfl (id:=6) rfl underlying56 rfl sz56 rfl rfl)) (.tmp rfl)).le (.tup (.cons (.agg (.cons (.nil 1) (.cons (.nil 1) (.cons (.nil 1) (.refl _))))) (.refl _)))) trivial
 have q2:(bndI d.b (readI d.b d.tape).1 d.fee o (minutesI d.b d.tape).1).2 = true:=by simpa using hb2
 refine zI (zA (Zu (Zt 1 [] hn rfl (Zb 13 hn rfl fun b13=>Zt 1 [13] hn rfl (Zv (zB (Zu (Zt 1 [] hn rfl (Zv (zj (e:=.normal) (ι:=Unit) (fun u0=>anys [49]) (fun u0=>[(13,.box b13 246 [.d (.fn (.func (bif high then 110 else 109)) [] [])])]) (fun hJ3=>?_) ?_))))))))))
 ·
  refine zG rfl (fun hb3=>?_) (fun hb3=>?_)
  have q3:high = true:=hb3
  refine zF (Zt 2 [13] hn rfl (zQ ?_))
  rotate_left
  have q3:high = false:=hb3
  refine zI ?_
  rotate_left
  all_goals
   exact Zj hJ3 () (zE _) ⟨.inl (by rw [q3]; rfl),trivial⟩
 rintro _
 refine zA (zB (Zu (Zt 5 [] hn rfl (Zs hn (za rfl rfl rfl (r:=(((readI d.b d.tape).1.length + 1:Nat):Int)) (by rw [List.length_map]; exact i64w (by omega) (by omega))) ?_))))
 refine Zt 1 [] hn rfl (Zv (zK (awp_loop_on (ι:={x:Nat // x ≤ (readI d.b d.tape).1.length + 1 ∧ ∀ f w p,f < x → ¬ GoodW d (readI d.b d.tape).1 o (minutesI d.b d.tape).1 (bif high then (bndI d.b (readI d.b d.tape).1 d.fee o (minutesI d.b d.tape).1).1.2 else (bndI d.b (readI d.b d.tape).1 d.fee o (minutesI d.b d.tape).1).1.1) f w p}) (fun x=>(56,true,.d (.int .i64 (x.1:Nat))) :: anys [57,58,14,59,60,61,62,63,64,65,66,15,67,68,69,70,71,72,73,74,75,76,77,78,16,17,79,80,81,82,83,84,85,86,87,88,89,90,91,92,93,94,95,96,97,98,99,107,108,109]) (fun x=>[]) (fun x=>(readI d.b d.tape).1.length + 1 - x.1) ⟨0,Nat.zero_le _,fun f w p hf=>by omega⟩ ⟨.inl rfl,zE _⟩ trivial ?_)))
 rintro ⟨fr,hfr,hno⟩
 dsimp only
 refine Zu (Zt 1 [] hn rfl (Zv (zB (zG rfl (fun hb4=>?_) (fun hb4=>?_)))))
 have hfl:fr ≤ (readI d.b d.tape).1.length:=by simp at hb4; omega
 refine zI (zA (zB (zK (Zu (Zt 2 [] hn rfl (Zv (Zu (Zt 6 [] hn rfl (Zv (zK (awp_loop_on (ι:={x:Nat // x ≤ (readI d.b d.tape).1.length ∧ ∀ w p,w < x → ¬ GoodW d (readI d.b d.tape).1 o (minutesI d.b d.tape).1 (bif high then (bndI d.b (readI d.b d.tape).1 d.fee o (minutesI d.b d.tape).1).1.2 else (bndI d.b (readI d.b d.tape).1 d.fee o (minutesI d.b d.tape).1).1.1) fr w p}) (fun x=>(64,true,.d (.int .i64 (x.1:Nat))) :: anys [65,66,15,67,68,69,70,71,72,73,74,75,76,77,78,16,17,79,80,81,82,83,84,85,86,87,88,89,90,91,92,93,94,95,96,97,98,99,107,108]) (fun x=>[]) (fun x=>(readI d.b d.tape).1.length - x.1) ⟨0,Nat.zero_le _,fun w p hf=>by omega⟩ ⟨.inl rfl,zE _⟩ trivial ?_)))))))))))
 rintro ⟨w,hw,hno1⟩
 dsimp only
 refine Zu (Zt 1 [] hn rfl (Zv (zB (zG rfl (fun hb5=>?_) (fun hb5=>?_)))))
 have hwl:w < (readI d.b d.tape).1.length:=by simp at hb5; omega
 refine zI (zA (zB (zK (Zu (Zt 2 [] hn rfl (Zv (Zu (Zt 7 [] hn rfl ?_))))))))
 refine stepW (zAT (id:=1060) (zd:=.agg (lvE 0)) rfl rfl rfl (nb hn rfl) zBX underlying202 zr200 zBp (.d rfl) rfl rfl (zCQ (by omega) (by omega)) rfl) fun ⟨r,hr1,hr2⟩=>?_
 obtain ⟨hv1,_⟩:=zGV hr1 hr2
 dsimp only [cond_false]
 rw [hv1]
 refine Zt 1 [] hn rfl (Zv (zK (awp_loop_on (ι:={x:Nat // x ≤ 800 ∧ ∀ p,p < x → ¬ GoodW d (readI d.b d.tape).1 o (minutesI d.b d.tape).1 (bif high then (bndI d.b (readI d.b d.tape).1 d.fee o (minutesI d.b d.tape).1).1.2 else (bndI d.b (readI d.b d.tape).1 d.fee o (minutesI d.b d.tape).1).1.1) fr w p}) (fun x=>(75,true,.d (.int .i64 (x.1:Nat))) :: anys [76,77,78,16,17,79,80,81,82,83,84,85,86,87,88,89,90,91,92,93,94,95,96,97,98,99,107]) (fun x=>[]) (fun x=>800 - x.1) ⟨0,Nat.zero_le _,fun p hf=>by omega⟩ ⟨.inl rfl,zE _⟩ trivial ?_)))
 rintro ⟨p,hp,hno2⟩
 dsimp only
 refine Zu (Zt 1 [] hn rfl (Zv (zB (zG rfl (fun hb6=>?_) (fun hb6=>?_)))))
 have hpl:p < 800:=by simp at hb6; omega
 refine zI (zA (zB (zK (Zu (Zt 1 [] hn rfl (Zs hn (q_indexAgg rfl rfl rfl underlying200 underlying4 rfl sz4 rfl hpl (y5 hpl)) ?_))))))
 refine Zt 2 [] hn rfl (Zv (zB (zh (W:=fun b=>b ≠ b11 ∧ b ≠ b13) fmo ?_)))
 refine Zy [0,1,2,3,4,5,6,7,8,9,10,11,12,13,15,16,17] [13,11] hn rfl (zH ?_)
 refine Zo 14 rfl (s_call [(87,_),(91,_),(92,_)] (fun hc=>zB8 d o (p:Nat) H.fe (by omega)) rfl (zM rfl rfl rfl) rfl (nb hn rfl) (fun hc=>⟨⟨_,rfl,hc⟩,⟨_,rfl,hc⟩,⟨_,rfl,hc⟩,trivial⟩) rfl rfl (.refl _)) fun _=>?_
 refine d2_of_d1 (zH ?_)
 refine Zo 18 rfl (s_call [(96,_),(95,_)] (fun hc=>side_ok high (bndI d.b (readI d.b d.tape).1 d.fee o (minutesI d.b d.tape).1).1) rfl (zM rfl rfl rfl) rfl (nb hn rfl) (fun hc=>⟨⟨_,rfl,hc⟩,⟨_,rfl,hc⟩,trivial⟩) rfl rfl (.refl _)) fun _=>?_
 refine d2_of_d1 (Zy [19,20] [] hn rfl (zH (zf (by kernel_rfl) ?_)))
 refine zA (zG rfl (fun hb7=>?_) (fun hb7=>?_))
 have hg:GoodW d (readI d.b d.tape).1 o (minutesI d.b d.tape).1 (bif high then (bndI d.b (readI d.b d.tape).1 d.fee o (minutesI d.b d.tape).1).1.2 else (bndI d.b (readI d.b d.tape).1 d.fee o (minutesI d.b d.tape).1).1.1) fr w p:=gw_of hpl hb7
 obtain ⟨m,hm,hmb⟩:=hg.ex
 obtain ⟨_,_,_,_,c,hc,_⟩:=zAC hm
 refine Zu (Zt 6 [] hn rfl (stepW (s_callE (truth_pk d _ _ H hN h5 o hob bm (q:Nat) fr w p hpl m hm c hc) rfl rfl rfl (nb hn rfl) (.d rfl) rfl (.refl _) trivial (fun _=>rfl) (fun _ _=>trivial)) fun _=>?_))
 refine Zt 2 [6] hn rfl (Zv (zJ (zN (zC (zC (zN (zN (zC (zC (zN (zN (zC (zC (zN (zC ?_)))))))))))))))
 exact ret_E (.inl rfl) ⟨(wtr d _ o _ (q:Nat) fr w p c,0),by have h:=ShowR.yes (d:=d) (q:=(q:Nat)) (high:=high) q00 (by rw [hgo]; exact q2) fr w p c (by rw [hgo]; exact hg) (by rw [hgo]; exact hc); rw [hgo] at h; exact h⟩ (zp rfl (.d (.cellA rfl (id:=6) rfl underlying56 rfl sz56 rfl rfl)) (.tmp rfl)) trivial
 have hng:¬ GoodW d (readI d.b d.tape).1 o (minutesI d.b d.tape).1 (bif high then (bndI d.b (readI d.b d.tape).1 d.fee o (minutesI d.b d.tape).1).1.2 else (bndI d.b (readI d.b d.tape).1 d.fee o (minutesI d.b d.tape).1).1.1) fr w p:=fun hg=>by rw [gw_to hg] at hb7; cases hb7
 refine zI (zO (zA (zF (Zs hn (za rfl rfl rfl (r:=((p + 1:Nat):Int)) (i64w (by omega) (by omega))) ?_))))
 refine Zt 1 [] hn rfl (zQ ?_)
 exact Zr ⟨p + 1,by omega,fun p2 hf hg=>by by_cases e:p2 = p; (subst e; exact hng hg); exact hno2 p2 (by omega) hg⟩ ⟨.inl rfl,zE _⟩ trivial (by simp only; omega)
 obtain rfl:p = 800:=by simp at hb6; omega
 refine zU (zD (zD (zL (zO (zA (zF (Zs hn (za rfl rfl rfl (r:=((w + 1:Nat):Int)) (i64w (by omega) (by omega))) ?_)))))))
 refine Zt 1 [] hn rfl (zQ ?_)
 exact Zr ⟨w + 1,by omega,fun w2 p hf hg=>by by_cases e:w2 = w; (subst e; exact hno2 p hg.p8 hg); exact hno1 w2 p (by omega) hg⟩ ⟨.inl rfl,zE _⟩ trivial (by simp only; omega)
 obtain rfl:w = (readI d.b d.tape).1.length:=by simp at hb5; omega
 refine zU (zD (zD (zL (zO (zA (zF (Zs hn (za rfl rfl rfl (r:=((fr + 1:Nat):Int)) (i64w (by omega) (by omega))) ?_)))))))
 refine Zt 1 [] hn rfl (zQ ?_)
 exact Zr ⟨fr + 1,by omega,fun f w p hf hg=>by by_cases e:f = fr; (subst e; exact hno1 w p (gw_w hg) hg); exact hno f w p (by omega) hg⟩ ⟨.inl rfl,zE _⟩ trivial (by simp only; omega)
 exact (by obtain ⟨f,w,p,hg⟩:=good_ex (high:=high) q2; exact (hno f w p (by have:=gw_fr hg; simp at hb4; omega) hg).elim)
end Go.Proofs.YticlpkgpmmhemaaGreatDoor
namespace Go.Proofs.YticlpkgpmmhemaaGreatDoor
open Go.RowKit
set_option linter.all false
/-- What the last sale of the stock before i can be, as the pass has it. -/
def LastB (l:List Prt) (k:Int) (st:Stk) (i bf:Nat) (out:List Int):Prop:=∀ p,p < 800 → (bf.testBit p = true ↔ (aheadGo l k i < 0 ∧ st.lo ≤ (p:Int) ∧ (p:Int) ≤ st.hi) ∨ ∃ a:Nat,aheadGo l k i = (a:Nat) ∧ out.getD a 0 = (p:Nat))
/-- A truth of the stock goes on with what is chosen. -/
def GoesW (b:Brd) (l:List Prt) (T:Nat → Nat → Bool) (k:Int) (w x i:Nat) (out:List Int):Prop:=∃ g,PreT b l T k l.length g ∧ g w = (x:Nat) ∧ ∀ j,j < i → (l.getD j prt0).stock = k → g j = out.getD j 0
theorem zAS {l:List Int} {i j:Nat} {x:Int} (h:i < l.length):(l.set i x).getD j 0 = if i = j then x else l.getD j 0:=by
  rw [List.getD_eq_getElem?_getD,List.getElem?_set]
  by_cases e:i = j
  · subst e; rw [if_pos rfl,if_pos h,if_pos rfl]; rfl
  · rw [if_neg e,if_neg e,← List.getD_eq_getElem?_getD]
theorem start_last {l:List Prt} {k:Int} {st:Stk} {out:List Int}:LastB l k st 0 (startN st) out:=fun p hp=>by
  unfold startN
  rw [yH,decide_eq_true hp,Bool.true_and,zm]
  constructor
  · exact fun h=>.inl ⟨by unfold aheadGo; omega,h⟩
  · rintro (h | ⟨a,ha,_⟩)
    · exact h.2
    · unfold aheadGo at ha; omega
/-- The pass takes one step. -/
theorem onl_one {b : Brd} {l : List Prt} {T : Nat → Nat → Bool} {st : Stk} {k J i bf w x : Nat} {s : Prt} {ms : List Nat} {lat : Option Nat} {out : List Int} (hJ : b.jump = (J : Nat)) (hst : b.stocks[k]? = some st) (hso : 1 ≤ st.lo ∧ st.lo ≤ st.hi ∧ st.hi ≤ 799) (hw : WOK l (k : Int) (w : Nat)) (hB : BkI b l T (k : Int) (w : Nat) x 0 lat ms)
    (hs:l[i]? = some s) (hk:s.stock = (k:Int)) (ho:out.length = l.length) (hL:LastB l (k:Int) st i bf out) (hG:GoesW b l T (k:Int) w x i out) :
    ∃ p,p < 800 ∧ lowF (kepN s (fun y=>(nearN bf J).testBit y) (ms.getD i 0)) = some p ∧ GoesW b l T (k:Int) w x (i + 1) (out.set i (p:Nat)):=by
  have hil:=(List.getElem?_eq_some_iff.1 hs).1
  have hg:l.getD i prt0 = s:=zP hs
  have hst2:(l.getD i prt0).stock = (k:Int):=by rw [hg]; exact hk
  have hai:aheadI l i = aheadGo l (k:Int) i:=by unfold aheadI; rw [hst2]
  have hbs:b.stocks.getD (l.getD i prt0).stock.toNat stk0 = st:=by rw [hst2,Int.toNat_natCast]; exact zP hst
  obtain ⟨g,hgp,hgw,hgo⟩:=hG
  have h0:=hgp.1 i hil hst2
  have hb0:=h0.bd
  obtain ⟨q0,hq0⟩:∃ q:Nat,g i = (q:Nat):=⟨(g i).toNat,by omega⟩
  have hq8:q0 < 800:=by omega
  have hfit0:=h0.1
  rw [hg,hq0,fits0,Bool.and_eq_true_iff] at hfit0
  have hn0:(nearN bf J).testBit q0 = true:=by
    rw [kT]
    refine ⟨by omega,hq8,?_⟩
    by_cases ha:aheadGo l (k:Int) i < 0
    · have h1:=(zAL (by omega) hbs).1 h0
      rw [hq0] at h1
      refine ⟨(max st.lo (min st.hi (q0:Int))).toNat,by omega,?_,by omega,by omega⟩
      exact (hL _ (by omega)).2 (.inl ⟨ha,by omega,by omega⟩)
    · obtain ⟨a,haa,hai2⟩:=kq (l:=l) (st:=(k:Int)) (i:=i) (by omega)
      have h1:=(y3 (k:=a) (by omega)).1 h0
      obtain ⟨a1,a2,_⟩:=yA.1 haa
      have hba:=(hgp.1 a (by omega) a2).bd
      obtain ⟨q,hq⟩:∃ q:Nat,g a = (q:Nat):=⟨(g a).toNat,by omega⟩
      rw [hq0,hq] at h1
      rw [hq] at hba
      exact ⟨q,by omega,(hL q (by omega)).2 (.inr ⟨a,haa,by rw [← hgo a (by omega) a2]; exact hq⟩),by omega,by omega⟩
  have hm0:(ms.getD i 0).testBit q0 = true:=(hB.hi i (Nat.zero_le _) hil hst2 q0 hq8).2 ⟨g,hgp,fun _=>hgw,hq0⟩
  have hK0:(kepN s (fun y=>(nearN bf J).testBit y) (ms.getD i 0)).testBit q0 = true:=by
    rw [zCX hq8,hm0,hfit0.2,hn0]; rfl
  obtain ⟨p,hp⟩:∃ p,lowF (kepN s (fun y=>(nearN bf J).testBit y) (ms.getD i 0)) = some p:=by
    cases he:lowF (kepN s (fun y=>(nearN bf J).testBit y) (ms.getD i 0)) with
    | some p=>exact ⟨p,rfl⟩
    | none =>
      unfold lowF at he
      rw [List.find?_eq_none] at he
      exact (he q0 (List.mem_range.2 hq8) hK0).elim
  have hp1:(kepN s (fun y=>(nearN bf J).testBit y) (ms.getD i 0)).testBit p = true:=by
    have h:=List.find?_some (show (List.range 800).find? (fun p=>(kepN s (fun y=>(nearN bf J).testBit y) (ms.getD i 0)).testBit p) = some p from hp); exact h
  have hp8:p < 800:=List.mem_range.1 (List.mem_of_find?_eq_some (show (List.range 800).find? (fun p=>(kepN s (fun y=>(nearN bf J).testBit y) (ms.getD i 0)).testBit p) = some p from hp))
  refine ⟨p,hp8,hp,?_⟩
  rw [zCX hp8,Bool.and_eq_true_iff,Bool.and_eq_true_iff] at hp1
  obtain ⟨⟨hpm,hpf⟩,hpn⟩:=hp1
  rw [kT] at hpn
  obtain ⟨hp1,_,y,hy8,hyb,hn1,hn2⟩:=hpn
  obtain ⟨h,hh,hhw,hhi⟩:=(hB.hi i (Nat.zero_le _) hil hst2 p hp8).1 hpm
  have hfit:refFits s i (p:Nat) 0 = true:=by rw [fits0,hpf,Bool.and_true]; exact zm.2 ⟨by omega,by omega⟩
  refine ⟨fun j=>if j < i then g j else h j,⟨fun j hj hjs=>?_,fun j hj hjs=>?_⟩,?_,fun j hj hjs=>?_⟩
  · rcases Nat.lt_trichotomy j i with h3 | h3 | h3
    · refine (hgp.1 j hj hjs).congr (by (try dsimp only); rw [if_pos h3]) fun a ha=>?_
      have ha':aheadGo l (l.getD j prt0).stock j = (a:Nat):=ha
      have hlt:=yo (l:=l) (st:=(l.getD j prt0).stock) (i:=j)
      rw [if_pos (by omega)]
    · subst h3
      rcases (hL y hy8).1 hyb with ⟨h4,h5,h6⟩ | ⟨a,ha,hoa⟩
      · refine (zAL (by omega) hbs).2 ?_
        rw [if_neg (by omega),hhi,hg]
        exact ⟨hfit,by omega,by omega⟩
      · obtain ⟨a1,a2,_⟩:=yA.1 ha
        refine (y3 (k:=a) (by omega)).2 ?_
        rw [if_neg (by omega),if_pos a1,hgo a a1 a2,hoa,hhi,hg]
        exact ⟨hfit,by omega,by omega⟩
    · refine (hh.1 j hj hjs).congr (by (try dsimp only); rw [if_neg (by omega)]) fun a ha=>?_
      have ha':aheadGo l (l.getD j prt0).stock j = (a:Nat):=ha
      obtain ⟨a1,a2,a3⟩:=yA.1 ha'
      have:i ≤ a:=by
        rcases Nat.lt_or_ge a i with h4 | h4
        · exact (a3 i h4 h3 (hst2.trans hjs.symm)).elim
        · exact h4
      rw [if_neg (by omega)]
  · (try dsimp only)
    by_cases h3:j < i
    · rw [if_pos h3]; exact hgp.2 j hj hjs
    · rw [if_neg h3]; exact hh.2 j hj hjs
  · (try dsimp only)
    by_cases h3:w < i
    · rw [if_pos h3]; exact hgw
    · rw [if_neg h3]
      have h4:=hhw (by omega)
      rw [Int.toNat_natCast] at h4; exact h4
  · (try dsimp only)
    rw [zAS (by omega)]
    by_cases e:j = i
    · subst e; rw [if_neg (by omega),if_pos rfl,hhi]
    · rw [if_pos (by omega),if_neg (by omega)]; exact hgo j (by omega) hjs
theorem zEl {b : Brd} {l : List Prt} {T : Nat → Nat → Bool} {st : Stk} {k J w x : Nat} {ms : List Nat} {lat : Option Nat} (hJ : b.jump = (J : Nat)) (hst : b.stocks[k]? = some st) (hso : 1 ≤ st.lo ∧ st.lo ≤ st.hi ∧ st.hi ≤ 799) (hw : WOK l (k : Int) (w : Nat)) (hB : BkI b l T (k : Int) (w : Nat) x 0 lat ms) :
    ∀ (n i bf:Nat) (out:List Int),i + n = l.length → out.length = l.length → LastB l (k:Int) st i bf out → GoesW b l T (k:Int) w x i out →
      GoesW b l T (k:Int) w x l.length (onlGo l J ms ((List.range' i n).filter fun j:Nat=>decide ((0:Int) ≤ (j:Int)) && ((l.getD j prt0).stock == (k:Int))) bf out)
  | 0,i,bf,out,h,_,_,hG=>by
    obtain rfl:i = l.length:=by omega
    exact hG
  | n + 1,i,bf,out,h,ho,hL,hG=>by
    obtain ⟨s,hs⟩:=zT (show i < l.length by omega)
    have hg:l.getD i prt0 = s:=zP hs
    rw [List.range'_succ,List.filter_cons,show decide ((0:Int) ≤ (i:Int)) = true by simp,Bool.true_and,hg]
    cases hk:s.stock == (k:Int)
    · have hne:(l.getD i prt0).stock ≠ (k:Int):=by rw [hg]; simpa using hk
      refine zEl hJ hst hso hw hB n (i + 1) bf out (by omega) ho (fun p hp=>?_) ?_
      · rw [hL p hp,zAY hne]
      · obtain ⟨g,h1,h2,h3⟩:=hG
        refine ⟨g,h1,h2,fun j hj hjs=>?_⟩
        rcases Nat.lt_or_ge j i with h4 | h4
        · exact h3 j h4 hjs
        · obtain rfl:j = i:=by omega
          exact (hne hjs).elim
    · have hk':s.stock = (k:Int):=by simpa using hk
      have hst2:(l.getD i prt0).stock = (k:Int):=by rw [hg]; exact hk'
      obtain ⟨p,hp8,hp,hG2⟩:=onl_one hJ hst hso hw hB hs hk' ho hL hG
      rw [if_pos rfl,onlGo,hg,hp]
      dsimp only [onlO]
      refine zEl hJ hst hso hw hB n (i + 1) _ _ (by omega) (by rw [List.length_set]; exact ho) (fun q hq=>?_) hG2
      rw [zAS (by omega),if_pos rfl,Int.toNat_natCast,yv,k8 hst2]
      constructor
      · intro h1
        by_cases e:q = p
        · subst e
          exact .inr ⟨i,rfl,by rw [zAS (by omega),if_pos rfl]⟩
        · rw [if_neg e] at h1; simp at h1
      · rintro (h1 | ⟨a,ha,hoa⟩)
        · omega
        · obtain rfl:i = a:=by omega
          rw [zAS (by omega),if_pos rfl] at hoa
          rw [if_pos (by omega)]
theorem onl_law {b : Brd} {l : List Prt} {o : Ord} (h : OddOK b l o) {fee : Int} {fr w x : Nat} {c : List Nat} (hc : chainN b l fee o (fr : Nat) (w : Nat) = some c) (hwl : w < l.length) (hws : (l.getD w prt0).stock = o.stock) (hx : x < 800) (hm : ((backN b l o c).getD w 0).testBit x = true) :
    ∃ g,PreT b l (tstO fee o (fr:Nat) (w:Nat)) o.stock l.length g ∧ g w = (x:Nat) ∧ ∀ j,j < l.length → (l.getD j prt0).stock = o.stock → g j = (onlGo l b.jump.toNat (bckGo b.jump.toNat o.stock l l.length none (c.set w (putB 0 x true))) (ofL l o.stock 0) (startN (b.stocks.getD o.stock.toNat stk0)) (List.replicate l.length 0)).getD j 0:=by
  obtain ⟨f,hf,hft,hfw⟩:=(chain_bit h hc hwl hws hx).1 hm
  obtain ⟨k,st,hk,hst,hgd,hso⟩:=h.stk
  have hJ:b.jump = (b.jump.toNat:Nat):=by have:=h.v.j0; omega
  have hI:=ch_is (l:=l) (T:=tstO fee o (fr:Nat) (w:Nat)) hJ hst hso
  have hc2:=hc
  unfold chainN at hc2
  rw [hgd,hk] at hc2
  rw [hc2] at hI
  obtain ⟨now,_,hI⟩:=hI
  have hpre:PreT b l (tstO fee o (fr:Nat) (w:Nat)) o.stock l.length f:=⟨fun j hj hjs=>hf j hj,hft⟩
  rw [hk] at hpre hws
  have hcb:(c.getD w 0).testBit x = true:=(hI.lv w hwl hws x hx).2 ⟨f,hpre.mono (by omega),hfw⟩
  have hW:WOK l (k:Int) (w:Nat):=.inr ⟨by omega,by rw [Int.toNat_natCast]; exact hws⟩
  obtain ⟨lat,hB⟩:=zD9 hW hJ l.length none _ (Nat.le_refl _) (bk_start1 hx hwl hcb hws hI)
  have h1:=zEl hJ hst hso hW hB l.length 0 (startN st) (List.replicate l.length 0) (by omega) (by simp) start_last ⟨f,hpre,hfw,fun j hj=>by omega⟩
  rw [hgd,hk]
  unfold ofL ofP
  rw [List.range_eq_range']
  exact h1
theorem show_tru {b:Brd} {l:List Prt} (v:BrdOK b) (hpo:∀ p ∈ l,PrtOK b p) (hex:∃ g,TruF b l 0 g) (hpos:0 < l.length):(showGo b l.length (setP l 0 (showP b l 0 false)) []).length = l.length ∧ TruF b l 0 fun j=>(showGo b l.length (setP l 0 (showP b l 0 false)) []).getD j 0:=by
  obtain ⟨ms,hms⟩:∃ ms,levelsI b l [] = some ms:=Option.isSome_iff_exists.1 ((yj (out:=[]) (o:=0) y7 v hpo).1.2 hex)
  have h1:=ShInv.first v hpo hms false hpos
  have h2:=zFR v (setP l 0 (showP b l 0 false)).length (setP l 0 (showP b l 0 false)) (setP l 0 (showP b l 0 false)) [] (by simp) rfl h1.po (fun f=>⟨fun h=>⟨h,fun j hj=>by simp at hj⟩,fun h=>h.1⟩) h1.ex (fun i hi=>by simp at hi)
  rw [yl] at h2
  obtain ⟨h3,h4,_⟩:=h2
  rw [yl] at h3
  obtain ⟨lo,hi2,e,⟨f1,hf1,hf1k⟩,_,_⟩:=lvl_bnd y7 v hpo hms hpos
  have esh:showP b l 0 false = (lo:Int):=by unfold showP; rw [hms,Option.getD_some,e]; rfl
  refine ⟨h3,((zAO hpos ⟨f1,hf1,?_⟩).1 h4).1⟩
  rw [esh]; exact hf1k
theorem zFg {l:List Prt} {k:Int} {own sh:List Int}:∀ {i j:Nat},i ≤ sh.length → j < sh.length → (prcU l k own sh i).getD j 0 = if j < i ∧ (l.getD j prt0).stock = k then own.getD j 0 else sh.getD j 0
  | 0,j,_,_=>by rw [prcU,if_neg (by omega)]
  | i + 1,j,hi,hj=>by
    rw [prcU]
    have ih:=zFg (l:=l) (k:=k) (own:=own) (sh:=sh) (i:=i) (j:=j) (by omega) hj
    cases hk:(l.getD i prt0).stock == k
    · rw [cond_false,ih]
      have hne:(l.getD i prt0).stock ≠ k:=by simpa using hk
      by_cases e:j = i
      · subst e; rw [if_neg (fun h=>hne h.2),if_neg (fun h=>hne h.2)]
      · by_cases h1:j < i ∧ (l.getD j prt0).stock = k
        · rw [if_pos h1,if_pos ⟨by omega,h1.2⟩]
        · rw [if_neg h1,if_neg (fun h=>h1 ⟨by omega,h.2⟩)]
    · rw [cond_true,zAS (by rw [zAE]; omega),ih]
      by_cases e:i = j
      · subst e; rw [if_pos rfl,if_pos ⟨by omega,by simpa using hk⟩]
      · rw [if_neg e]
        by_cases h1:j < i ∧ (l.getD j prt0).stock = k
        · rw [if_pos h1,if_pos ⟨by omega,h1.2⟩]
        · rw [if_neg h1,if_neg (fun h=>h1 ⟨by omega,h.2⟩)]
theorem zEK {n j:Nat} {f:Nat → Int} (h:j < n):((List.range n).map f).getD j 0 = f j:=zP (by rw [List.getElem?_map,List.getElem?_range h]; rfl)
theorem RightM.congr {l:List Prt} {m n:Nat → Int} (h:RightM l m) (e:∀ j,j < l.length → m j = n j):RightM l n :=
  ⟨fun j hj=>by rw [← e j hj]; exact h.own j hj,fun j h0 hj=>by rw [← e j hj,← e (j - 1) (by omega)]; exact h.up j h0 hj⟩
theorem TruF.congr {b:Brd} {l:List Prt} {o:Nat} {f g:Nat → Int} (h:TruF b l o f) (e:∀ j,j < l.length → f j = g j):TruF b l o g:=fun j hj=>(h j hj).congr (e j hj) fun k hk=>e k (by
  have ha':aheadGo l (l.getD j prt0).stock j = (k:Nat):=hk
  obtain ⟨a1,_,_⟩:=yA.1 ha'
  omega)
theorem zGS {d : Dsk} {l : List Prt} {mm : List (Int × Int)} (h : SurH d l mm) {q : Nat} {o : Ord} (hod : d.orders[q]? = some o) {side : Int} {fr w p : Nat} {c : List Nat} (hg : GoodW d l o mm side fr w p) (hc : chainN d.b l d.fee o (fr : Nat) (w : Nat) = some c) :
    TruW d l (wtr d l o mm (q:Nat) fr w p c) ∧ fillGo d.fee o ((wtr d l o mm (q:Nat) fr w p c).orders.getD q 0) (wtr d l o mm (q:Nat) fr w p c).prices (wtr d l o mm (q:Nat) fr w p c).minutes 0 l = (((w:Nat):Int),side):=by
  have hob:=zAf (h.ob o (List.mem_of_getElem? hod))
  have hok:OddOK d.b l o:=⟨h.v,h.po,hob.1,h.ex⟩
  obtain ⟨m,hm,hmb⟩:=hg.ex
  obtain ⟨hfw,hwl,hws,hwt,c2,hc2,hbk⟩:=zAC hm
  obtain rfl:c = c2:=by rw [hc] at hc2; cases hc2; rfl
  rw [← hbk] at hmb
  obtain ⟨g,hgp,hgw,hgo⟩:=onl_law hok hc hwl hws hg.p8 hmb
  have hq:q < d.orders.length:=(List.getElem?_eq_some_iff.1 hod).1
  have hpos:0 < l.length:=by omega
  obtain ⟨hsl,hst⟩:=show_tru h.v h.po h.ex hpos
  have hmm:=h.mt
  subst hmm
  obtain ⟨hr1,hr2,hr3⟩:=of_wait h.po h.tb (show fr ≤ l.length by omega) (show o.mlo ≤ o.mhi by omega) hwt
  have hget:∀ j,j < l.length → (wtr d l o (timL l l.length) (q:Nat) fr w p c).prices.getD j 0 = if (l.getD j prt0).stock = o.stock then g j else (showGo d.b l.length (setP l 0 (showP d.b l 0 false)) []).getD j 0:=fun j hj=>by
    unfold wtr
    dsimp only
    rw [zFg (by omega) (by omega)]
    by_cases e:(l.getD j prt0).stock = o.stock
    · rw [if_pos ⟨hj,e⟩,if_pos e,hgo j hj e]
    · rw [if_neg (fun h=>e h.2),if_neg e]
  have htr:TruF d.b l 0 fun j=>(wtr d l o (timL l l.length) (q:Nat) fr w p c).prices.getD j 0:=(zFM hgp.1 hst).congr fun j hj=>(hget j hj).symm
  have hmg:∀ j,j < l.length → (wtr d l o (timL l l.length) (q:Nat) fr w p c).minutes.getD j 0 = waitM l fr j:=fun j hj=>by
    unfold wtr minU
    dsimp only
    rw [zEK hj]
    unfold minW waitM
    rw [zBs hj]
    by_cases e:j < fr
    · rw [decide_eq_true (by omega),if_pos e]; rfl
    · rw [decide_eq_false (by omega),if_neg e]; rfl
  have hog:(wtr d l o (timL l l.length) (q:Nat) fr w p c).orders.getD q 0 = comeM o l fr:=by
    unfold wtr ordU
    dsimp only
    rw [zEK hq]
    unfold ordW comeM
    rw [zP hod]
    by_cases e:0 < fr
    · rw [decide_eq_true (show (0:Int) < (fr:Nat) by omega),if_pos e,show ((q:Int) == (q:Nat)) = true by simp,zBs (by omega)]; rfl
    · rw [decide_eq_false (show ¬ (0:Int) < (fr:Nat) by omega),if_neg e,Bool.and_false]; rfl
  refine ⟨⟨?_,htr,?_,?_,?_,fun j hj=>?_⟩,?_⟩
  · unfold wtr; dsimp only; rw [zAE]; exact hsl
  · unfold wtr minU; simp
  · exact hr1.congr fun j hj=>(hmg j hj).symm
  · unfold wtr ordU; simp
  · by_cases e:j = q
    · subst e; rw [hog,zP hod]; exact hr2
    · obtain ⟨o2,ho2⟩:=zT hj
      have hb2:=zAf (h.ob o2 (List.mem_of_getElem? ho2))
      have:(wtr d l o (timL l l.length) (q:Nat) fr w p c).orders.getD j 0 = o2.mlo:=by
        unfold wtr ordU
        dsimp only
        rw [zEK hj]
        unfold ordW
        rw [show ((j:Int) == (q:Nat)) = false by simp; omega,Bool.false_and,cond_false,zP ho2]
      rw [this,zP ho2]; omega
  · have hH : HitP d.fee o l (fun j => (wtr d l o (timL l l.length) (q : Nat) fr w p c).prices.getD j 0) fr w := by
      refine (zBu hfw hwl hws fun j hj=>((htr j hj).bd).1).1 fun j hj hjs=>?_
      have h1:=hgp.2 j hj hjs
      rw [hget j hj,if_pos hjs]; exact h1
    rcases fill_is (fee:=d.fee) (o:=o) (a:=(wtr d l o (timL l l.length) (q:Nat) fr w p c).orders.getD q 0) (ps:=(wtr d l o (timL l l.length) (q:Nat) fr w p c).prices) (ms:=(wtr d l o (timL l l.length) (q:Nat) fr w p c).minutes) (l:=l) (fr:=fr) (fun j hj=>by rw [hmg j hj,hog]; exact hr3 j hj) with ⟨k,h1,h2⟩ | ⟨_,h2⟩
    · obtain rfl:=hit_uniq h2 hH
      rw [h1,hget k hwl,if_pos hws,hgw,hg.pr]
    · exact (hit_miss hH h2).elim
/-- What 'Show' gives, if it gives a truth. -/
theorem show_yes {d : Dsk} {q : Nat} {o : Ord} {high : Bool} {t : Tru} (hod : d.orders[q]? = some o) (h : ShowR d (q : Nat) high t 0) :
    sureO d [(q:Int)] = 0 ∧ TruW d (readI d.b d.tape).1 t ∧ ∃ w:Nat,fillGo d.fee o (t.orders.getD q 0) t.prices t.minutes 0 (readI d.b d.tape).1 = ((w:Int),bif high then (bndI d.b (readI d.b d.tape).1 d.fee o (minutesI d.b d.tape).1).1.2 else (bndI d.b (readI d.b d.tape).1 d.fee o (minutesI d.b d.tape).1).1.1):=by
  have hgo:d.orders.getD ((q:Nat):Int).toNat ord0 = o:=by rw [Int.toNat_natCast]; exact zP hod
  generalize he:(0:Int) = e at h
  cases h with
  | bad h1=>exact (h1 he.symm).elim
  | no=>omega
  | yes h1 h2 fr w p c hg hc =>
    rw [hgo] at hg hc ⊢
    obtain ⟨hS,_⟩:=yw h1
    obtain ⟨a1,a2⟩:=zGS hS hod hg hc
    exact ⟨by rw [h1,← he],a1,w,a2⟩
end Go.Proofs.YticlpkgpmmhemaaGreatDoor
namespace Go.Proofs.YticlpkgpmmhemaaGreatDoor
open Go.Proofs.Tryz
open Go.RowKit
set_option linter.all false
set_option maxRecDepth 20000
theorem eqveql66 (a b c e:Int) (w:World):(binOp .eql 66 (.agg #[.int .i64 a,.int .i64 b]) (.agg #[.int .i64 c,.int .i64 e])).run Tryz.prog w = .ok (.bool ((a == c && b == e))) w:=by
  have u3:=underlying3
  have a3:=isAgg3
  have z3:=sizeOf3
  have hS:Tryz.prog.underlying 66 = some (.struct (Tryz.prog.fieldsOf 66)):=by kernel_rfl
  have hp:Tryz.prog.stoodInHeld 66 = false:=by kernel_rfl
  rw [run_eql_struct,show (10000:Nat) = 9999 + 1 from rfl,run_equalIn_agg w 9999 66 _ _ hS hp]
  simp only [Program.fieldsOf,underlying66]
  go_simp
  by_cases h1:a = c <;> by_cases h2:b = e <;> simp [h1,h2]
theorem zEb {Γ : Cx} {σ : St} {o : Oper} {R : Rel} {x y : Operand} {t' : TypeId} {a b c d : Int} (h : o.op = .binOp .eql 66 x y t') (hx : σ.ev x = some (true, .d (.agg [.int .i64 a, .int .i64 b]))) (hy : σ.ev y = some (true, .d (.agg [.int .i64 c, .int .i64 d]))) :
    QV Γ Tryz.prog σ o R (.d (.bool ((a == c && b == d)))):=fun A w F hs=>by
  obtain ⟨vs,e1,h1,_⟩:=hs.ev hx
  obtain ⟨us,e2,h2,_⟩:=hs.ev hy
  obtain ⟨v1,vs1,rfl,q1,v2,vs2,rfl,q2,q3⟩:=h1
  obtain ⟨u1,us1,rfl,p1,u2,us2,rfl,p2,p3⟩:=h2
  simp only [Rep,RepVals] at q1 q2 q3 p1 p2 p3
  subst q1 q2 q3 p1 p2 p3
  exact ⟨.bool ((a == c && b == d)),rfl,fun w' _=>by
    simp only [execOp,h,e1,e2,Sem.run_bind,run_eqGuard_agg w' .eql 66 x y _ _ (show Tryz.prog.eqGuardType Tryz.prog.depth 66 = false by kernel_rfl),Result.andThen_ok,eqveql66,Sem.run_pure]⟩
theorem eqvneq66 (a b c e:Int) (w:World):(binOp .neq 66 (.agg #[.int .i64 a,.int .i64 b]) (.agg #[.int .i64 c,.int .i64 e])).run Tryz.prog w = .ok (.bool (!(a == c && b == e))) w:=by
  have u3:=underlying3
  have a3:=isAgg3
  have z3:=sizeOf3
  have hS:Tryz.prog.underlying 66 = some (.struct (Tryz.prog.fieldsOf 66)):=by kernel_rfl
  have hp:Tryz.prog.stoodInHeld 66 = false:=by kernel_rfl
  rw [run_neq_struct,show (10000:Nat) = 9999 + 1 from rfl,run_equalIn_agg w 9999 66 _ _ hS hp]
  simp only [Program.fieldsOf,underlying66]
  go_simp
  by_cases h1:a = c <;> by_cases h2:b = e <;> simp [h1,h2]
theorem q_neq66 {Γ : Cx} {σ : St} {o : Oper} {R : Rel} {x y : Operand} {t' : TypeId} {a b c d : Int} (h : o.op = .binOp .neq 66 x y t') (hx : σ.ev x = some (true, .d (.agg [.int .i64 a, .int .i64 b]))) (hy : σ.ev y = some (true, .d (.agg [.int .i64 c, .int .i64 d]))) :
    QV Γ Tryz.prog σ o R (.d (.bool (!(a == c && b == d)))):=fun A w F hs=>by
  obtain ⟨vs,e1,h1,_⟩:=hs.ev hx
  obtain ⟨us,e2,h2,_⟩:=hs.ev hy
  obtain ⟨v1,vs1,rfl,q1,v2,vs2,rfl,q2,q3⟩:=h1
  obtain ⟨u1,us1,rfl,p1,u2,us2,rfl,p2,p3⟩:=h2
  simp only [Rep,RepVals] at q1 q2 q3 p1 p2 p3
  subst q1 q2 q3 p1 p2 p3
  exact ⟨.bool (!(a == c && b == d)),rfl,fun w' _=>by
    simp only [execOp,h,e1,e2,Sem.run_bind,run_eqGuard_agg w' .neq 66 x y _ _ (show Tryz.prog.eqGuardType Tryz.prog.depth 66 = false by kernel_rfl),Result.andThen_ok,eqvneq66,Sem.run_pure]⟩
theorem eqveql68 (a b c e:Int) (w:World):(binOp .eql 68 (.agg #[.int .i64 a,.int .i64 b]) (.agg #[.int .i64 c,.int .i64 e])).run Tryz.prog w = .ok (.bool ((a == c && b == e))) w:=by
  have u3:=underlying3
  have a3:=isAgg3
  have z3:=sizeOf3
  have hS:Tryz.prog.underlying 68 = some (.struct (Tryz.prog.fieldsOf 68)):=by kernel_rfl
  have hp:Tryz.prog.stoodInHeld 68 = false:=by kernel_rfl
  rw [run_eql_struct,show (10000:Nat) = 9999 + 1 from rfl,run_equalIn_agg w 9999 68 _ _ hS hp]
  simp only [Program.fieldsOf,underlying68]
  go_simp
  by_cases h1:a = c <;> by_cases h2:b = e <;> simp [h1,h2]
theorem zEp {Γ : Cx} {σ : St} {o : Oper} {R : Rel} {x y : Operand} {t' : TypeId} {a b c d : Int} (h : o.op = .binOp .eql 68 x y t') (hx : σ.ev x = some (true, .d (.agg [.int .i64 a, .int .i64 b]))) (hy : σ.ev y = some (true, .d (.agg [.int .i64 c, .int .i64 d]))) :
    QV Γ Tryz.prog σ o R (.d (.bool ((a == c && b == d)))):=fun A w F hs=>by
  obtain ⟨vs,e1,h1,_⟩:=hs.ev hx
  obtain ⟨us,e2,h2,_⟩:=hs.ev hy
  obtain ⟨v1,vs1,rfl,q1,v2,vs2,rfl,q2,q3⟩:=h1
  obtain ⟨u1,us1,rfl,p1,u2,us2,rfl,p2,p3⟩:=h2
  simp only [Rep,RepVals] at q1 q2 q3 p1 p2 p3
  subst q1 q2 q3 p1 p2 p3
  exact ⟨.bool ((a == c && b == d)),rfl,fun w' _=>by
    simp only [execOp,h,e1,e2,Sem.run_bind,run_eqGuard_agg w' .eql 68 x y _ _ (show Tryz.prog.eqGuardType Tryz.prog.depth 68 = false by kernel_rfl),Result.andThen_ok,eqveql68,Sem.run_pure]⟩
end Go.Proofs.YticlpkgpmmhemaaGreatDoor
namespace Go.Proofs.YticlpkgpmmhemaaGreatDoor
open Go.Proofs.Tryz
open Go.RowKit
set_option maxRecDepth 20000
set_option linter.all false
def thin4 (d:Dsk):Bool:=thinT d.b d.tape.length && decide ((d.orders.length:Int) ≤ 8)
theorem s_appendN {Γ : Cx} {P : Program} {σ : St} {ops : Array Oper} {o : Oper} {W : Nat → Prop} {x y : Operand} {t e : TypeId} {sz bytes id dt : Nat} {fs : List (List D)} (h : o.op = .call { callee := .builtin .append, args := #[x, y], argTypes := #[t, t] })
    (hg:o.guard = none) (hd:o.dst = some dt) (hn:Nat.blt dt Γ.n = true) (hT:ElT P t e sz bytes)
    (hx:σ.ev x = some (true,.d .nil)) (hy:σ.ev y = some (true,.d (.slice sz fs)))
    (hb:(0 + fs.length) * bytes ≤ 140737488355328) (h63:0 + fs.length ≤ 9223372036854775807) :
    StepW Γ P ops σ o W fun v'=>(σ.put dt true (.val v')).rput id (.row v' e sz fs):=fun a w F hs K Q hK=>by
  rw [if_pos (zo hg a)]
  have hx':a.eval x = .slice none 0 0:=hs.ev hx
  have hu:=hs.ev hy
  have hrow:RowOK F w Γ.own (.slice none 0 0) e sz []:=.inl ⟨rfl,rfl⟩
  obtain ⟨v',w',F',hrun,hrow',hcase⟩:=zC8 (ty:=o.type) hT hs.fcell (fun b hb=>.inl (Nat.le_trans hs.hsize hb)) hrow hu hb h63
  have hex:(execOp a.eval o).run P w = .ok (.value v') w':=by
    simp [execOp,h,resolve,invoke,builtin,hx',hrun]
  unfold Oper.wp
  rw [hex]
  show K (a.put o.dst _) _
  rw [hd]
  have hfin:RS Γ (σ.rput id (.row v' e sz fs)) a w' F':=by
    rcases hcase with ⟨e1,hgr,hnew⟩ | ⟨e1,hgr⟩
    · exact (hs.grow hgr).rput hrow' (fun b hb'=>by rw [Res.has,e1] at hb'; simp [Value.ownBlock] at hb')
    · refine (hs.grow hgr).rput hrow' (fun b hb' j r' _ hj e2=>?_)
      rw [Res.has,e1] at hb'
      cases hb'
      exact Nat.lt_irrefl _ (kD (hs.rs j r' hj) e2)
  have hg2:∃ but,Grow F F' w w' but ∧ ∀ b,but = some b → W b:=by
    rcases hcase with ⟨_,hgr,_⟩ | ⟨_,hgr⟩
    · exact ⟨_,hgr,fun _ e=>by simp [Value.ownBlock] at e⟩
    · exact ⟨_,hgr,fun _ e=>by cases e⟩
  obtain ⟨but,hg2,hg3⟩:=hg2
  exact hK v' _ _ F' (hfin.put (yL hn) (fun _=>rfl) (fun h=>by cases h)) hg2.ext hg2.size (hg2.agree hg3)
theorem addO {α:Type} {f:α → List D} {l:List α} {i:Nat} {x:α} (h:l[i]? = some x):(l.take i).map f ++ [f x] = (l.take (i + 1)).map f:=by rw [← zD1 h,List.map_append]; rfl
theorem sz31:Sz Tryz.prog 31 3:=(by kernel_rfl:(Tryz.prog.info? 31).map (·.size) = some 3)
theorem elt49:ElT Tryz.prog 49 152 6 48:=zAA underlying49 (z:=(.agg #[(.bool false),(.int .i64 0),(.int .i64 0),(.int .i64 0),(.int .i64 0),(.int .i64 0)])) (by kernel_rfl) rfl (by decide)
theorem zCg (l:List Int) (h5:l.length ≤ 1000000):PureAt Tryz.prog 60 [ints l] (ints l):=by
 refine Zp Tryz.func60 rfl fun Γ hn hl=>?_
 refine Zu ?_
 refine Zt 1 [] hn rfl ?_
 refine Zv (Zu ?_)
 refine Zt 1 [] hn rfl ?_
 refine stepW (s_appendN (id:=4) rfl rfl rfl (nb hn rfl) elt29 rfl rfl (by simp [chunk]; omega) (by simp [chunk]; omega)) fun v4=>?_
 refine Zt 1 [] hn rfl ?_
 refine Zv (zJ ?_)
 refine ya (g_row (t:=2) (id:=4) rfl rfl) ?_
 refine zZ (zX (.inl rfl) hl rfl (.tmp rfl)) ?_
 rfl
theorem zCv (a b:List Int):PureAt Tryz.prog 50 [ints a,ints b] (.bool (intsB a b)):=by
 refine PureAt.of_awp' Tryz.func50 rfl (by kernel_rfl) rfl fun hlen Γ hn hl=>?_
 have hl1:=hlen.1; have hl2:=hlen.2.1
 simp only [List.length_map] at hl1 hl2
 refine Zu (Zt 1 [] hn rfl (Zv (zB (Zu (Zt 5 [] hn rfl (Zv (zG rfl (fun hb0=>?_) (fun hb0=>?_))))))))
 have hne:a ≠ b:=fun e=>by subst e; simp at hb0
 refine Zu (Zt 1 [] hn rfl (Zv (zJ (zC (zZ (zX (.inl rfl) hl rfl (.tmp rfl)) ?_)))))
 rw [show intsB a b = false from by rw [Bool.eq_false_iff]; exact fun q=>hne (zBH.1 q)]
 have hle:a.length = b.length:=by simp at hb0; omega
 refine zI (zA (zB (Zu (Zt 1 [] hn rfl (Zv (zK (awp_loop_on (ι:={i:Nat // i ≤ a.length ∧ ∀ j,j < i → a[j]? = b[j]?}) (fun x=>(5,true,.d (.int .i64 (x.1:Nat))) :: anys [11,12,13,14,17,18,19,20,21,22,23,24,25,15,16]) (fun x=>[]) (fun x=>a.length - x.1) ⟨0,Nat.zero_le _,fun j hj=>by omega⟩ ⟨.inl rfl,zE _⟩ trivial ?_)))))))
 rintro ⟨i,hi,hall⟩
 dsimp only
 refine zB (Zu (Zt 4 [] hn rfl (Zv (zG rfl (fun hb1=>?_) (fun hb1=>?_)))))
 have hlt:i < a.length:=by simp at hb1; omega
 obtain ⟨x,hx⟩:=zT hlt
 obtain ⟨y,hy⟩:=zT (show i < b.length by omega)
 refine zI (zA (zB (zK (zB (zh (W:=fun b=>True) fmo ?_)))))
 refine Zy [0,1] [] hn rfl (Zd 2 rfl hn (q_index (i:=i) rfl rfl rfl underlying29 sz3 rfl (mget hx)) ?_)
 refine Zy [3,4,5] [] hn rfl (Zd 6 rfl hn (q_index (i:=i) rfl rfl rfl underlying29 sz3 rfl (mget hy)) ?_)
 refine Zy [7,8] [] hn rfl (zH (zf (by kernel_rfl) ?_))
 refine zA (zG rfl (fun hb2=>?_) (fun hb2=>?_))
 have hne:a ≠ b:=fun e=>by (subst e; rw [hx] at hy; cases hy; simp at hb2)
 refine Zu (Zt 1 [] hn rfl (Zv (zJ (zN (zC (zC (zN (zC (zZ (zX (.inl rfl) hl rfl (.tmp rfl)) ?_)))))))))
 rw [show intsB a b = false from by rw [Bool.eq_false_iff]; exact fun q=>hne (zBH.1 q)]
 have hxy:x = y:=by simpa using hb2
 refine zI (zO (zA (zF (Zt 1 [] hn rfl (Zs hn (za rfl rfl rfl (r:=((i + 1:Nat):Int)) (i64w (by omega) (by omega))) ?_)))))
 refine Zt 1 [] hn rfl (zQ ?_)
 exact Zr ⟨i + 1,by omega,fun j hj=>by (by_cases e:j = i; (subst e; rw [hx,hy,hxy]); exact hall j (by omega))⟩ ⟨.inl rfl,zE _⟩ trivial (by simp only; omega)
 have hie:i = a.length:=by simp at hb1; omega
 refine zU (zD (zD (zL (zA (Zu (Zt 1 [] hn rfl (Zv (zJ (zZ (zX (.inl rfl) hl rfl (.tmp rfl)) ?_)))))))))
 rw [show intsB a b = true from zBH.2 (List.ext_getElem? fun j=>by (by_cases e:j < i; exact hall j e; rw [List.getElem?_eq_none (by omega),List.getElem?_eq_none (by omega)]))]
theorem zC7 (d:Dsk) (h5:d.b.stocks.length ≤ 1000) (ho:d.orders.length ≤ 1000):PureAt Tryz.prog 23 [dskD d] (dskD d):=by
 refine Zp Tryz.func23 rfl fun Γ hn hl=>?_
 refine Zu (Zb 1 hn rfl fun b1=>Zb 2 hn rfl fun b2=>Zv (zB (zh (W:=fun b=>b ≠ b1) fmo ?_)))
 refine Zy [0,1,3,4,5,6] [1,1,1] hn rfl (zH ?_)
 refine yD 2 [8] (by kernel_rfl) ⟨?_,?_,trivial⟩
 refine br rfl (Zc hn (zCn d.b h5)) fun _=>?_
 refine d2_of_d1 (Zy [7] [] hn rfl (zH (Zo 8 rfl (yF 3 rfl rfl rfl (nb hn rfl) zr51 rfl rfl) fun b3=>?_)))
 refine d2_of_d1 (zH (yN (i:=3) (j:=1) rfl rfl rfl (fun hne3_1=>?_)))
 refine Zo 9 rfl (zz rfl rfl rfl rfl rfl rfl (id:=3) rfl sz51 rfl (Nat.le_of_ble_eq_true rfl) rfl (fun e=>hne3_1 _ rfl (congrArg some e.symm))) fun _=>?_
 refine d2_of_d1 (zH (zf (by kernel_rfl) ?_))
 refine zA (zB (zB (zq (gh_nilcell (id:=3) (k:=5) 1040 152 6 rfl rfl) ?_)))
 refine zF (Zt 1 [] hn rfl (Zv (zK (awp_loop_on (ι:={x:Nat × Value // x.1 ≤ d.orders.length}) (fun x=>(4,true,.d (.int .i64 (x.1.1:Nat))) :: anys [14,15,16,17,18,21,22,23,24,25,5,26,27,28,29,30,31,32,33,34,35,36,37,38,39,40,41,42,43,44,45,46,19,20]) (fun x=>(3,.box b3 51 [.d (stksD d.b.stocks),.d (.int .i64 d.b.jump),.d (.int .i64 d.b.small),.d (strD d.tape),.d (.int .i64 d.fee),.val x.1.2]) :: (1040,.row x.1.2 152 6 ((d.orders.take x.1.1).map ordE)) :: gones [5]) (fun x=>d.orders.length - x.1.1) ⟨(0,_),Nat.zero_le _⟩ ⟨.inl rfl,zE _⟩ ⟨.inl rfl,.inl rfl,zR _⟩ ?_))))
 rintro ⟨⟨i,vv⟩,hi⟩
 dsimp only
 dsimp only at hi
 refine zB (Zu (Zt 5 [1] hn rfl (Zv (zG rfl (fun hb0=>?_) (fun hb0=>?_)))))
 have hil:i < d.orders.length:=by simp at hb0; omega
 obtain ⟨o,hod⟩:=zT hil
 refine zI (zA (zB (zK (Zu (Zt 3 [1] hn rfl (Zi (i:=i) hn rfl rfl (mget hod) ?_))))))
 refine Zt 1 [] hn rfl (Zb 5 hn rfl fun b5=>Zt 1 [5] hn rfl (Zv (zF (Zt 18 [3,5,5,5,5,5,5] hn rfl (stepW (zS rfl rfl rfl (nb hn rfl) underlying49 sz152 zr152 rfl rfl rfl (show _ = [.d (.bool false),.d (.int .i64 0),.d (.int .i64 0),.d (.int .i64 0),.d (.int .i64 0),.d (.int .i64 0)] from by kernel_rfl) (by kernel_rfl) rfl rfl rfl rfl rfl) fun _=>?_)))))
 refine stepW (s_append (id:=1040) rfl rfl rfl (nb hn rfl) elt49 trivial rfl rfl rfl (by simp [chunk,List.length_take]; omega) (by simp [chunk,List.length_take]; omega) (fun b hb=>trivial)) fun v45=>?_
 refine Zt 1 [] hn rfl (stepW (s_storeRow rfl rfl rfl rfl rfl (rid:=1040) rfl (id:=3) rfl sz49 (Nat.le_of_ble_eq_true rfl) rfl trivial) fun _=>?_)
 refine zQ (zO (zA (zF (Zt 1 [] hn rfl (Zs hn (za rfl rfl rfl (r:=((i + 1:Nat):Int)) (i64w (by omega) (by omega))) ?_)))))
 refine Zt 1 [] hn rfl (zQ ?_)
 exact Zr ⟨(i + 1,v45),by simp only; omega⟩ ⟨.inl rfl,zE _⟩ ⟨.inl rfl,.inl (congrArg (fun z=>some (Res.row v45 152 6 z)) (addO hod)),zR _⟩ (by simp only; omega)
 obtain rfl:i = d.orders.length:=by simp at hb0; omega
 rw [List.take_length]
 refine zU (zD (zD (zL (zA (zB (zq (gh_rowcell (id:=3) (k:=5) (rid:=1040) rfl rfl rfl) ?_))))))
 refine zF (Zt 2 [3,2] hn rfl (Zv (zJ ?_)))
 exact zX (.inl rfl) hl rfl (.cellA rfl (id:=2) rfl underlying51 rfl sz51 rfl rfl)
 refine br rfl (yF 3 rfl rfl rfl (nb hn rfl) zr51 rfl rfl) fun b3=>?_
 refine d2_of_d1 (zH (Ze1 2 rfl hn rfl (zCn d.b h5) (d2_of_d1 (Zy [7] [] hn rfl (zH (yN (i:=3) (j:=1) rfl rfl rfl (fun hne3_1=>?_)))))))
 refine Zo 9 rfl (zz rfl rfl rfl rfl rfl rfl (id:=3) rfl sz51 rfl (Nat.le_of_ble_eq_true rfl) rfl (fun e=>hne3_1 _ rfl (congrArg some e.symm))) fun _=>?_
 refine d2_of_d1 (zH (zf (by kernel_rfl) ?_))
 refine zA (zB (zB (zq (gh_nilcell (id:=3) (k:=5) 1040 152 6 rfl rfl) ?_)))
 refine zF (Zt 1 [] hn rfl (Zv (zK (awp_loop_on (ι:={x:Nat × Value // x.1 ≤ d.orders.length}) (fun x=>(4,true,.d (.int .i64 (x.1.1:Nat))) :: anys [14,15,16,17,18,21,22,23,24,25,5,26,27,28,29,30,31,32,33,34,35,36,37,38,39,40,41,42,43,44,45,46,19,20]) (fun x=>(3,.box b3 51 [.d (stksD d.b.stocks),.d (.int .i64 d.b.jump),.d (.int .i64 d.b.small),.d (strD d.tape),.d (.int .i64 d.fee),.val x.1.2]) :: (1040,.row x.1.2 152 6 ((d.orders.take x.1.1).map ordE)) :: gones [5]) (fun x=>d.orders.length - x.1.1) ⟨(0,_),Nat.zero_le _⟩ ⟨.inl rfl,zE _⟩ ⟨.inl rfl,.inl rfl,zR _⟩ ?_))))
 rintro ⟨⟨i,vv⟩,hi⟩
 dsimp only
 dsimp only at hi
 refine zB (Zu (Zt 5 [1] hn rfl (Zv (zG rfl (fun hb1=>?_) (fun hb1=>?_)))))
 have hil:i < d.orders.length:=by simp at hb1; omega
 obtain ⟨o,hod⟩:=zT hil
 refine zI (zA (zB (zK (Zu (Zt 3 [1] hn rfl (Zi (i:=i) hn rfl rfl (mget hod) ?_))))))
 refine Zt 1 [] hn rfl (Zb 5 hn rfl fun b5=>Zt 1 [5] hn rfl (Zv (zF (Zt 18 [3,5,5,5,5,5,5] hn rfl (stepW (zS rfl rfl rfl (nb hn rfl) underlying49 sz152 zr152 rfl rfl rfl (show _ = [.d (.bool false),.d (.int .i64 0),.d (.int .i64 0),.d (.int .i64 0),.d (.int .i64 0),.d (.int .i64 0)] from by kernel_rfl) (by kernel_rfl) rfl rfl rfl rfl rfl) fun _=>?_)))))
 refine stepW (s_append (id:=1040) rfl rfl rfl (nb hn rfl) elt49 trivial rfl rfl rfl (by simp [chunk,List.length_take]; omega) (by simp [chunk,List.length_take]; omega) (fun b hb=>trivial)) fun v45=>?_
 refine Zt 1 [] hn rfl (stepW (s_storeRow rfl rfl rfl rfl rfl (rid:=1040) rfl (id:=3) rfl sz49 (Nat.le_of_ble_eq_true rfl) rfl trivial) fun _=>?_)
 refine zQ (zO (zA (zF (Zt 1 [] hn rfl (Zs hn (za rfl rfl rfl (r:=((i + 1:Nat):Int)) (i64w (by omega) (by omega))) ?_)))))
 refine Zt 1 [] hn rfl (zQ ?_)
 exact Zr ⟨(i + 1,v45),by simp only; omega⟩ ⟨.inl rfl,zE _⟩ ⟨.inl rfl,.inl (congrArg (fun z=>some (Res.row v45 152 6 z)) (addO hod)),zR _⟩ (by simp only; omega)
 obtain rfl:i = d.orders.length:=by simp at hb1; omega
 rw [List.take_length]
 refine zU (zD (zD (zL (zA (zB (zq (gh_rowcell (id:=3) (k:=5) (rid:=1040) rfl rfl rfl) ?_))))))
 refine zF (Zt 2 [3,2] hn rfl (Zv (zJ ?_)))
 exact zX (.inl rfl) hl rfl (.cellA rfl (id:=2) rfl underlying51 rfl sz51 rfl rfl)
theorem Back5_ok (t:Tru) (h1:t.prices.length ≤ 1000000) (h2:t.minutes.length ≤ 1000000) (h3:t.orders.length ≤ 1000000):PureAt Tryz.prog 56 [truD t] (truD t):=by
 refine Zp Tryz.func56 rfl fun Γ hn hl=>?_
 refine Zu ?_
 refine Zb 1 hn rfl fun b1=>?_
 refine Zb 2 hn rfl fun b2=>?_
 refine Zv (zB ?_)
 refine zh (W:=fun b=>b ≠ b1) fmo ?_
 refine Zy [0,1,3,4,6,7] [1,1,1] hn rfl ?_
 refine zH ?_
 refine Ze1 2 rfl hn rfl (zCg t.prices h1) ?_
 refine d2_of_d1 (zH ?_)
 refine Ze1 5 rfl hn rfl (zCg t.minutes h2) ?_
 refine d2_of_d1 (zH ?_)
 refine Ze1 8 rfl hn rfl (zCg t.orders h3) ?_
 refine d2_of_d1 ?_
 refine Zy [9] [] hn rfl ?_
 refine zH ?_
 refine yN (i:=2) (j:=1) rfl rfl rfl (fun hne2_1=>?_)
 refine Zo 10 rfl (zz rfl rfl rfl rfl rfl rfl (id:=2) rfl sz31 rfl (Nat.le_of_ble_eq_true rfl) rfl (fun e=>hne2_1 _ rfl (congrArg some e.symm))) fun _=>?_
 refine d2_of_d1 (zH ?_)
 refine zf (by kernel_rfl) ?_
 refine zA (zJ ?_)
 exact zX (.inl rfl) hl rfl (.cellA rfl (id:=2) rfl underlying31 rfl sz31 rfl rfl)
theorem Thin4_ok (d:Dsk) (hN:NamesOK d.b):PureAt Tryz.prog 66 [dskD d] (.bool (thin4 d)):=by
 refine Zp Tryz.func66 rfl fun Γ hn hl=>?_
 refine Zu ?_
 refine Zb 1 hn rfl fun b1=>?_
 refine Zt 1 [] hn rfl ?_
 refine Zv (Zu ?_)
 refine Zt 4 [1,1] hn rfl ?_
 refine Zk hn rfl (Thin_ok d.b d.tape hN) ?_
 refine Zt 7 [1] hn rfl ?_
 refine Zv (zJ ?_)
 refine zZ (zX (.inl rfl) hl rfl (.tmp rfl)) ?_
 unfold thin4; rw [List.length_map]
theorem yg (a b:Int):PureAt Tryz.prog 53 [.int .i64 a,.int .i64 b] (rngD (a,b)):=by
 refine Zp Tryz.func53 rfl fun Γ hn hl=>?_
 refine Zu ?_
 refine Zb 4 hn rfl fun b4=>?_
 refine Zv (Zu ?_)
 refine Zt 4 [4] hn rfl ?_
 refine Zv (zJ ?_)
 exact zX (.inl rfl) hl rfl (.cellA rfl (id:=4) rfl underlying66 rfl sz66 rfl rfl)
theorem zD4 (d:Dsk) (hN:NamesOK d.b) (h5:d.tape.length ≤ 4294967000) (ho:d.orders.length ≤ 1000):PureAt Tryz.prog 47 [dskD d] (.int .i64 (deskI d)):=by
 refine Zp Tryz.func47 rfl fun Γ hn hl=>?_
 refine Zu ?_
 refine Zb 1 hn rfl fun b1=>?_
 refine Zt 1 [] hn rfl ?_
 refine Zv (Zu ?_)
 refine Zt 1 [1] hn rfl ?_
 refine Zk hn rfl (zCC d hN h5 ho) ?_
 refine Zt 5 [] hn rfl ?_
 refine Zv (Zu ?_)
 refine Zt 2 [] hn rfl ?_
 refine Zv (zJ ?_)
 exact zX (.inl rfl) hl rfl (.tmp rfl)
end Go.Proofs.YticlpkgpmmhemaaGreatDoor
namespace Go.Proofs.YticlpkgpmmhemaaGreatDoor
open Go.RowKit
set_option linter.all false
theorem sure_of {x:Dsk} {t:Tru} (h0:deskI x = 0) (hT:TruW x (readI x.b x.tape).1 t) (ht:timesB (readI x.b x.tape).1 = true) {os:List Int} (hos:∀ n ∈ os,0 ≤ n ∧ n < x.orders.length):sureO x os = 0:=by
  obtain ⟨hr0,ho5,hf,hob⟩:=yh h0
  obtain ⟨hpo,hl8⟩:=yS (b:=x.b) (s:=x.tape)
  have v:=yU hr0
  have h1:(os.all fun n=>withinB n 0 ((x.orders.length:Int) - 1)) = true:=List.all_eq_true.2 fun n hn=>zm.2 (by have:=hos n hn; omega)
  have h2:(pricesI x.b x.tape).2 = 0:=by
    obtain ⟨ms,hms⟩:=Option.isSome_iff_exists.1 ((yj (out:=[]) (o:=0) y7 v hpo).1.2 ⟨_,hT.tr⟩)
    unfold pricesI
    rw [hr0,hms]; rfl
  have h3:(minutesI x.b x.tape).2 = 0:=by
    unfold minutesI
    rw [hr0,zB1 hpo,ht]; rfl
  unfold sureO
  rw [h0,h1,h2,h3]; rfl
theorem odd_of {d:Dsk} {l:List Prt} {mm:List (Int × Int)} (h:SurH d l mm) {j:Nat} {o:Ord} (hod:d.orders[j]? = some o):OddOK d.b l o:=⟨h.v,h.po,(zAf (h.ob o (List.mem_of_getElem? hod))).1,h.ex⟩
/-- What the program answers about a desk with a truth. -/
structure TldF (x:Dsk) (t:Tru) (l:List Prt) (mm:List (Int × Int)) (fs bs:List (Int × Int)) (vs:List Int):Prop where
  S:SurH x l mm
  T:TruW x l t
  hl:(readI x.b x.tape).1 = l
  p:playI x t = (fs,0)
  b:boundsI x = (bs,0)
  v:verdsI x = (vs,0)
  fl:fs.length = x.orders.length
  bl:bs.length = x.orders.length
  vl:vs.length = x.orders.length
  pv:(deskI x == 0 && truthW x (readI x.b x.tape).1 t) = true
  su:∀ j:Nat,j < x.orders.length → sureO x [(j:Int)] = 0
  at_:∀ j o,x.orders[j]? = some o → fs[j]? = some (fillGo x.fee o (t.orders.getD j 0) t.prices t.minutes 0 l) ∧ bs[j]? = some (bndI x.b l x.fee o mm).1 ∧ vs[j]? = some (verdI x.b l x.fee o mm) ∧ salesI x (j:Nat) = (salesO x.b l x.fee o mm,0)
theorem bnd_no {d:Dsk} {l:List Prt} {mm:List (Int × Int)} {o:Ord} (h:(bndI d.b l d.fee o mm).2 = false):(bndI d.b l d.fee o mm).1 = (0,0):=by
  rcases zBF d.b l d.fee o mm with ⟨h1,_⟩ | ⟨h1,_⟩
  · rw [h1]
  · rw [h1] at h; cases h
/-- What Show gives for an order of a desk with a truth. -/
theorem show_law4 {x : Dsk} {q : Nat} {o : Ord} {high : Bool} {t : Tru} {e : Int} (hs : sureO x [(q : Int)] = 0) (hod : x.orders[q]? = some o) (h : ShowR x (q : Nat) high t e) :
    ((bndI x.b (readI x.b x.tape).1 x.fee o (minutesI x.b x.tape).1).2 = false ∧ t = ⟨[],[],[]⟩ ∧ e = 2) ∨
    ((bndI x.b (readI x.b x.tape).1 x.fee o (minutesI x.b x.tape).1).2 = true ∧ e = 0 ∧ TruW x (readI x.b x.tape).1 t ∧ ∃ w:Nat,fillGo x.fee o (t.orders.getD q 0) t.prices t.minutes 0 (readI x.b x.tape).1 = ((w:Int),bif high then (bndI x.b (readI x.b x.tape).1 x.fee o (minutesI x.b x.tape).1).1.2 else (bndI x.b (readI x.b x.tape).1 x.fee o (minutesI x.b x.tape).1).1.1)):=by
  have hgo:x.orders.getD ((q:Nat):Int).toNat ord0 = o:=by rw [Int.toNat_natCast]; exact zP hod
  cases h with
  | bad h1=>exact (h1 hs).elim
  | no _ hb=>rw [hgo] at hb; exact .inl ⟨hb,rfl,rfl⟩
  | yes h1 h2 fr w p c hg hc =>
    rw [hgo] at h2 hg hc ⊢
    obtain ⟨hS,_⟩:=yw h1
    obtain ⟨a1,a2⟩:=zGS hS hod hg hc
    exact .inr ⟨h2,rfl,a1,w,a2⟩
/-- An order waits from a sale on, and is filled by a sale, at a price, in a truth of the prices. -/
def PosP (b:Brd) (l:List Prt) (fee:Int) (o:Ord) (mm:List (Int × Int)) (n:Int) (i:Nat):Prop:=∃ (fr:Nat) (f:Nat → Int),waitsB o mm fr = true ∧ TruF b l 0 f ∧ HitP fee o l f fr i ∧ n = priceO fee o (f i)
theorem zBj {b:Brd} {l:List Prt} {fee:Int} {o:Ord} {mm:List (Int × Int)} (h:OddOK b l o) {n:Int}:PriS (canO b l fee o mm) fee o (fun _=>True) n ↔ ∃ i,PosP b l fee o mm n i:=by
  constructor
  · rintro ⟨fr,w,m,p,hm,hne,_,hp,hb,rfl⟩
    obtain ⟨_,h1⟩:=zBi hm
    rcases h1 with h1 | ⟨i,rfl,hi1,hi2⟩
    · exact (hne h1).elim
    · obtain ⟨c1,c2⟩:=zCU h fee mm fr i
      obtain ⟨hw,_⟩:=c1.1 (by rw [hm]; rfl)
      obtain ⟨f,hf,hH,hp2⟩:=(c2 m hm p hp).1 hb
      exact ⟨i,fr,f,hw,hf,hH,by rw [hp2]⟩
  · rintro ⟨i,fr,f,hw,hf,hH,rfl⟩
    obtain ⟨c1,c2⟩:=zCU h fee mm fr i
    obtain ⟨m,hm⟩:=Option.isSome_iff_exists.1 (c1.2 ⟨hw,f,hf,hH⟩)
    have hb:=(hf i hH.2.1).bd
    obtain ⟨p,hp⟩:∃ p:Nat,f i = (p:Nat):=⟨(f i).toNat,by omega⟩
    have hp8:p < 800:=by have:f i ≤ 799:=hb.2; omega
    exact ⟨fr,(i:Nat),m,p,hm,by omega,trivial,hp8,(c2 m hm p hp8).2 ⟨f,hf,hH,hp⟩,by rw [hp]⟩
theorem sale_iff {b:Brd} {l:List Prt} {fee:Int} {o:Ord} {mm:List (Int × Int)} (h:OddOK b l o) {i:Nat}:saleB b l fee o mm i = true ↔ ∃ n,PosP b l fee o mm n i:=by
  unfold saleB
  rw [List.any_eq_true]
  constructor
  · rintro ⟨fr,_,hc⟩
    obtain ⟨hw,f,hf,hH⟩:=(zCU h fee mm fr i).1.1 hc
    exact ⟨_,fr,f,hw,hf,hH,rfl⟩
  · rintro ⟨n,fr,f,hw,hf,hH,_⟩
    exact ⟨fr,List.mem_range.2 (by have:=hH.1; omega),(zCU h fee mm fr i).1.2 ⟨hw,f,hf,hH⟩⟩
theorem bnd_iff {b:Brd} {l:List Prt} {fee:Int} {o:Ord} {mm:List (Int × Int)} (h:OddOK b l o):(bndI b l fee o mm).2 = true ↔ ∃ n i,PosP b l fee o mm n i:=by
  rcases zBF b l fee o mm with ⟨h1,h2⟩ | ⟨h0,h1⟩
  · rw [h1]
    exact ⟨fun e=>(by cases e),fun ⟨n,i,hp⟩=>(h2 n ((zBj h).2 ⟨i,hp⟩)).elim⟩
  · rw [h0]
    refine ⟨fun _=>?_,fun _=>rfl⟩
    rcases h1 with ⟨e,_⟩ | ⟨_,k1,_⟩
    · rw [e] at h0; cases h0
    · obtain ⟨i,hi⟩:=(zBj h).1 k1; exact ⟨_,i,hi⟩
theorem bnd_ends {b : Brd} {l : List Prt} {fee : Int} {o : Ord} {mm : List (Int × Int)} (h : OddOK b l o) (hb : (bndI b l fee o mm).2 = true) :
    (∃ i,PosP b l fee o mm (bndI b l fee o mm).1.1 i) ∧ (∃ i,PosP b l fee o mm (bndI b l fee o mm).1.2 i) ∧ ∀ n i,PosP b l fee o mm n i → (bndI b l fee o mm).1.1 ≤ n ∧ n ≤ (bndI b l fee o mm).1.2:=by
  rcases zBF b l fee o mm with ⟨h1,_⟩ | ⟨_,h1⟩
  · rw [h1] at hb; cases hb
  · rcases h1 with ⟨e,_⟩ | ⟨_,k1,k2,k3⟩
    · rw [e] at hb; cases hb
    · exact ⟨(zBj h).1 k1,(zBj h).1 k2,fun n i hp=>k3 n ((zBj h).2 ⟨i,hp⟩)⟩
theorem miss_iff {b:Brd} {l:List Prt} {fee:Int} {o:Ord} {mm:List (Int × Int)} (h:OddOK b l o):missI b l fee o mm = true ↔ ∃ (fr:Nat) (f:Nat → Int),fr ≤ l.length ∧ waitsB o mm fr = true ∧ TruF b l 0 f ∧ MissP fee o l f fr:=by
  rw [zDp]
  constructor
  · rintro ⟨fr,m,hm,_⟩
    obtain ⟨h1,h2,f,hf,hM⟩:=(zFq h fee mm fr).1 (by rw [hm]; rfl)
    exact ⟨fr,f,h1,h2,hf,hM⟩
  · rintro ⟨fr,f,h1,h2,hf,hM⟩
    obtain ⟨m,hm⟩:=Option.isSome_iff_exists.1 ((zFq h fee mm fr).2 ⟨h1,h2,f,hf,hM⟩)
    exact ⟨fr,m,hm,trivial⟩
theorem tru_pb {x:Dsk} {l:List Prt} {t:Tru} (h:TruW x l t):∀ p ∈ t.prices,0 ≤ p ∧ p ≤ 1000:=fun p hp=>by
  obtain ⟨i,hi⟩:=List.getElem?_of_mem hp
  have hil:=(List.getElem?_eq_some_iff.1 hi).1
  have hb:=(h.tr i (by rw [← h.pl]; exact hil)).bd
  rw [zP hi] at hb
  have h1:1 ≤ p ∧ p ≤ 799:=hb
  omega
end Go.Proofs.YticlpkgpmmhemaaGreatDoor
