/-
  A part of the proof that contangolaw.TopShown returns true: what the last text needs, and no more. No condition: no statement of the seat is proved here.
-/
import Derived.Laws.StructEq
import Derived.Test.YticlpkgpmmhemaaGreatDoorTopShownN
namespace Go.Proofs.YticlpkgpmmhemaaGreatDoor
open Go.RowKit
set_option linter.all false
/-- Prices of the stock's sales before i, that pass the tests. -/
def PreT (b:Brd) (l:List Prt) (T:Nat → Nat → Bool) (k:Int) (i:Nat) (f:Nat → Int):Prop:=PreF b l 0 k i f ∧ ∀ j,j < i → (l.getD j prt0).stock = k → T j (f j).toNat = true
theorem PreT.mono {b:Brd} {l:List Prt} {T:Nat → Nat → Bool} {k:Int} {i j:Nat} {f:Nat → Int} (h:PreT b l T k i f) (hj:j ≤ i):PreT b l T k j f:=⟨h.1.mono hj,fun a ha hs=>h.2 a (by omega) hs⟩
theorem fits0 {s:Prt} {i:Nat} {x:Int}:refFits s i x 0 = (withinB x 1 799 && fitsO s x):=by
  unfold refFits fitsO
  rw [Nat.zero_testBit]
  cases s.full <;> simp
theorem zF5 {s:Prt} {t:Nat → Bool} {m p:Nat} (hp:p < 800):(kepN s t m).testBit p = (m.testBit p && fitsO s (p:Nat) && t p):=by
  unfold kepN
  rw [yK,decide_eq_true hp,Bool.true_and]
theorem zD5 (s:Prt) (t:Nat → Bool) (m:Nat):Can (kepN s t m):=zBU _
def FwdT (b:Brd) (l:List Prt) (T:Nat → Nat → Bool) (k:Int) (st:Stk) (i:Nat) (p:Nat):Prop:=∃ f:Nat → Int,PreT b l T k i f ∧ ((aheadGo l k i < 0 ∧ st.lo ≤ (p:Int) ∧ (p:Int) ≤ st.hi) ∨ ∃ a:Nat,aheadGo l k i = (a:Nat) ∧ f a = (p:Nat))
structure ChI (b:Brd) (l:List Prt) (T:Nat → Nat → Bool) (k:Int) (st:Stk) (i now:Nat) (ms:List Nat):Prop where
  len:ms.length = l.length
  nw:∀ p,p < 800 → (now.testBit p = true ↔ FwdT b l T k st i p)
  can:Can now
  cans:∀ m ∈ ms,Can m
  lv:∀ j,j < i → (l.getD j prt0).stock = k → ∀ p,p < 800 → ((ms.getD j 0).testBit p = true ↔ ∃ f,PreT b l T k (j + 1) f ∧ f j = (p:Nat))
theorem zGp {b : Brd} {l : List Prt} {T : Nat → Nat → Bool} {st : Stk} {k i J : Nat} {p : Nat} {s : Prt} {now : Nat} (hJ : b.jump = (J : Nat)) (hst : b.stocks[k]? = some st) (hso : 1 ≤ st.lo ∧ st.lo ≤ st.hi ∧ st.hi ≤ 799) (hs : l[i]? = some s) (hk : s.stock = (k : Int)) (hp : p < 800)
    (hn:∀ p,p < 800 → (now.testBit p = true ↔ FwdT b l T (k:Int) st i p)):(kepN s (T i) (nearN now J)).testBit p = true ↔ ∃ f,PreT b l T (k:Int) (i + 1) f ∧ f i = (p:Nat):=by
  rw [zF5 hp,Bool.and_eq_true_iff,Bool.and_eq_true_iff,zAA]
  have hg:l.getD i prt0 = s:=zP hs
  have hai:aheadI l i = aheadGo l (k:Int) i:=by unfold aheadI; rw [hg,hk]
  have hbs:b.stocks.getD (l.getD i prt0).stock.toNat stk0 = st:=by rw [hg,hk,Int.toNat_natCast]; exact zP hst
  have hst2:(l.getD i prt0).stock = (k:Int):=by rw [hg]; exact hk
  constructor
  · rintro ⟨⟨⟨h1,_,p',hp',hb,hn1,hn2⟩,hf⟩,hT⟩
    obtain ⟨f,hpre,hc⟩:=(hn p' hp').1 hb
    have hfit:refFits s i (p:Nat) 0 = true:=by rw [fits0,hf,Bool.and_true]; exact zh.2 ⟨by omega,by omega⟩
    refine ⟨fun j=>if j = i then (p:Nat) else f j,⟨fun j hj hjs=>?_,fun j hj hjs=>?_⟩,if_pos rfl⟩
    · by_cases e:j = i
      · subst e
        rcases hc with ⟨h2,h3,h4⟩ | ⟨a,ha,hfa⟩
        · refine (zBV (by omega) hbs).2 ?_
          rw [if_pos rfl,hg]
          exact ⟨hfit,by omega,by omega⟩
        · have hlt:=ki (l:=l) (st:=(k:Int)) (i:=j)
          refine (kp (k:=a) (by omega)).2 ?_
          rw [if_pos rfl,if_neg (by omega),hfa,hg]
          exact ⟨hfit,by omega,by omega⟩
      · refine (hpre.1 j (by omega) hjs).congr (by (try dsimp only); rw [if_neg e]) fun a ha=>?_
        have ha':aheadGo l (l.getD j prt0).stock j = (a:Nat):=ha
        have hlt:=ki (l:=l) (st:=(l.getD j prt0).stock) (i:=j)
        rw [if_neg (by omega)]
    · by_cases e:j = i
      · subst e; dsimp only; rw [if_pos rfl,Int.toNat_natCast]; exact hT
      · dsimp only; rw [if_neg e]; exact hpre.2 j (by omega) hjs
  · rintro ⟨f,hpre,hfi⟩
    have h0:=hpre.1 i (by omega) hst2
    have hb0:=h0.bd
    rw [hfi] at hb0
    have hfit:=h0.1
    rw [hg,hfi,fits0,Bool.and_eq_true_iff] at hfit
    have hT:=hpre.2 i (by omega) hst2
    rw [hfi,Int.toNat_natCast] at hT
    refine ⟨⟨⟨by omega,by omega,?_⟩,hfit.2⟩,hT⟩
    by_cases ha:aheadGo l (k:Int) i < 0
    · have h1:=(zBV (by omega) hbs).1 h0
      rw [hfi] at h1
      refine ⟨(max st.lo (min st.hi (p:Int))).toNat,by omega,?_,by omega,by omega⟩
      exact (hn _ (by omega)).2 ⟨f,hpre.mono (by omega),.inl ⟨ha,by omega,by omega⟩⟩
    · obtain ⟨a,haa,hai2⟩:=zAB (l:=l) (st:=(k:Int)) (i:=i) (by omega)
      have h1:=(kp (k:=a) (by omega)).1 h0
      obtain ⟨_,a2,_⟩:=yN.1 haa
      have hba:=(hpre.1 a (by omega) a2).bd
      obtain ⟨q,hq⟩:∃ q:Nat,f a = (q:Nat):=⟨(f a).toNat,by omega⟩
      rw [hfi,hq] at h1
      rw [hq] at hba
      exact ⟨q,by omega,(hn q (by omega)).2 ⟨f,hpre.mono (by omega),.inr ⟨a,haa,hq⟩⟩,by omega,by omega⟩
theorem ChI.step {b : Brd} {l : List Prt} {T : Nat → Nat → Bool} {st : Stk} {k i J : Nat} {s : Prt} {now : Nat} {ms : List Nat} (hJ : b.jump = (J : Nat)) (hst : b.stocks[k]? = some st) (hso : 1 ≤ st.lo ∧ st.lo ≤ st.hi ∧ st.hi ≤ 799) (hs : l[i]? = some s) (hk : s.stock = (k : Int))
    (h:ChI b l T (k:Int) st i now ms):ChI b l T (k:Int) st (i + 1) (kepN s (T i) (nearN now J)) (ms.set i (kepN s (T i) (nearN now J))):=by
  have hil:=(List.getElem?_eq_some_iff.1 hs).1
  have hst2:(l.getD i prt0).stock = (k:Int):=by rw [zP hs]; exact hk
  have h1:=fun p (hp:p < 800)=>zGp (p:=p) hJ hst hso hs hk hp h.nw
  refine ⟨by rw [List.length_set]; exact h.len,fun p hp=>(h1 p hp).trans ?_,zD5 _ _ _,zCF h.cans (zD5 _ _ _),fun j hj hjs p hp=>?_⟩
  · unfold FwdT
    rw [zAJ hst2]
    constructor
    · rintro ⟨f,hf,hfi⟩
      exact ⟨f,hf,.inr ⟨i,rfl,hfi⟩⟩
    · rintro ⟨f,hf,h2 | ⟨a,ha,hfa⟩⟩
      · omega
      · obtain rfl:i = a:=by omega
        exact ⟨f,hf,hfa⟩
  · rw [yc (by rw [h.len]; exact hil)]
    by_cases e:i = j
    · subst e; rw [if_pos rfl]; exact h1 p hp
    · rw [if_neg e]; exact h.lv j (by omega) hjs p hp
theorem PreT.skip {b:Brd} {l:List Prt} {T:Nat → Nat → Bool} {k:Int} {i:Nat} {f:Nat → Int} (hne:(l.getD i prt0).stock ≠ k) (h:PreT b l T k i f):PreT b l T k (i + 1) f:=by
  have hj:∀ j,j < i + 1 → (l.getD j prt0).stock = k → j < i:=fun j hj hjs=>by
    rcases Nat.lt_or_ge j i with h1 | h1
    · exact h1
    · obtain rfl:j = i:=by omega
      exact (hne hjs).elim
  exact ⟨fun j h1 h2=>h.1 j (hj j h1 h2) h2,fun j h1 h2=>h.2 j (hj j h1 h2) h2⟩
theorem ChI.skip {b:Brd} {l:List Prt} {T:Nat → Nat → Bool} {st:Stk} {k:Int} {i:Nat} {s:Prt} {now:Nat} {ms:List Nat} (hs:l[i]? = some s) (hk:s.stock ≠ k) (h:ChI b l T k st i now ms):ChI b l T k st (i + 1) now ms:=by
  have hne:(l.getD i prt0).stock ≠ k:=by rw [zP hs]; exact hk
  refine ⟨h.len,fun p hp=>(h.nw p hp).trans ?_,h.can,h.cans,fun j hj hjs p hp=>h.lv j ?_ hjs p hp⟩
  · unfold FwdT
    rw [zA5 hne]
    constructor
    · rintro ⟨f,hf,hc⟩
      exact ⟨f,hf.skip hne,hc⟩
    · rintro ⟨f,hf,hc⟩
      exact ⟨f,hf.mono (by omega),hc⟩
  · rcases Nat.lt_or_ge j i with h1 | h1
    · exact h1
    · obtain rfl:j = i:=by omega
      exact (hne hjs).elim
theorem zFJ {b : Brd} {l : List Prt} {T : Nat → Nat → Bool} {st : Stk} {k J : Nat} (hJ : b.jump = (J : Nat)) (hst : b.stocks[k]? = some st) (hso : 1 ≤ st.lo ∧ st.lo ≤ st.hi ∧ st.hi ≤ 799) : ∀ (n i now : Nat) (ms : List Nat), i + n = l.length → now ≠ 0 → ChI b l T (k : Int) st i now ms →
    match chnGo T J (k:Int) i (l.drop i) now ms with
    | some r=>∃ now2,now2 ≠ 0 ∧ ChI b l T (k:Int) st l.length now2 r
    | none=>¬ ∃ f,PreT b l T (k:Int) l.length f
  | 0,i,now,ms,h,h0,hI=>by
    obtain rfl:i = l.length:=by omega
    rw [List.drop_length]; exact ⟨now,h0,hI⟩
  | n + 1,i,now,ms,h,h0,hI=>by
    obtain ⟨s,hs⟩:=zT (show i < l.length by omega)
    rw [zj hs,chnGo]
    cases hk:s.stock == (k:Int)
    · exact zFJ hJ hst hso n (i + 1) now ms (by omega) h0 (hI.skip hs (by simpa using hk))
    · have hk':s.stock = (k:Int):=by simpa using hk
      cases hz:kepN s (T i) (nearN now J) == 0
      · exact zFJ hJ hst hso n (i + 1) _ _ (by omega) (by simpa using hz) (hI.step hJ hst hso hs hk')
      · rw [cond_true,cond_true]
        rintro ⟨f,hf⟩
        have hst2:(l.getD i prt0).stock = (k:Int):=by rw [zP hs]; exact hk'
        have hbd:=(hf.1 i (by omega) hst2).bd
        have h1:=(zGp (p:=(f i).toNat) hJ hst hso hs hk' (by omega) hI.nw).2 ⟨f,hf.mono (by omega),by omega⟩
        rw [show kepN s (T i) (nearN now J) = 0 by simpa using hz,Nat.zero_testBit] at h1
        cases h1
theorem ch_start {b:Brd} {l:List Prt} {T:Nat → Nat → Bool} {st:Stk} {k:Int}:ChI b l T k st 0 (startN st) (List.replicate l.length 0):=by
  refine ⟨by simp,fun p hp=>?_,zBb _,fun m hm=>by rw [(List.mem_replicate.1 hm).2]; exact zBG,fun j hj=>by omega⟩
  unfold startN FwdT
  rw [yK,decide_eq_true hp,Bool.true_and,zh]
  constructor
  · intro h
    exact ⟨fun _=>0,⟨fun j hj=>by omega,fun j hj=>by omega⟩,.inl ⟨by unfold aheadGo; omega,h.1,h.2⟩⟩
  · rintro ⟨f,hf,h | ⟨a,ha,_⟩⟩
    · exact ⟨h.2.1,h.2.2⟩
    · unfold aheadGo at ha; omega
/-- From the front: what is so behind a chain that goes through. -/
theorem ch_is {b : Brd} {l : List Prt} {T : Nat → Nat → Bool} {st : Stk} {k J : Nat} (hJ : b.jump = (J : Nat)) (hst : b.stocks[k]? = some st) (hso : 1 ≤ st.lo ∧ st.lo ≤ st.hi ∧ st.hi ≤ 799) :
    match chnGo T J (k:Int) 0 l (startN st) (List.replicate l.length 0) with
    | some r=>∃ now2,now2 ≠ 0 ∧ ChI b l T (k:Int) st l.length now2 r
    | none=>¬ ∃ f,PreT b l T (k:Int) l.length f:=by
  have hn:startN st ≠ 0:=fun e=>by
    have h1:(startN st).testBit st.lo.toNat = true:=by
      unfold startN
      rw [yK,decide_eq_true (by omega),Bool.true_and,zh]
      omega
    rw [e,Nat.zero_testBit] at h1
    cases h1
  have h:=zFJ (T:=T) hJ hst hso l.length 0 (startN st) (List.replicate l.length 0) (by omega) hn ch_start
  rw [List.drop_zero] at h
  exact h
/-- If the chain goes through, there is a truth. -/
theorem ch_ex {b:Brd} {l:List Prt} {T:Nat → Nat → Bool} {st:Stk} {k:Int} {now:Nat} {ms:List Nat} (hz:now ≠ 0) (h:ChI b l T k st l.length now ms):∃ f,PreT b l T k l.length f:=by
  obtain ⟨p,hp⟩:∃ p,p < 800 ∧ now.testBit p = true:=Classical.byContradiction fun hne=>hz (zGC h.can zBG fun p hp=>by
    rw [Nat.zero_testBit]
    cases hb:now.testBit p
    · rfl
    · exact (hne ⟨p,hp,hb⟩).elim)
  obtain ⟨f,hf,_⟩:=(h.nw p hp.1).1 hp.2
  exact ⟨f,hf⟩
/-- In a truth that is meant, the sale w, if there is one, from j on, costs x. -/
def AtW (w:Int) (x:Nat) (f:Nat → Int) (j:Nat):Prop:=(j:Int) ≤ w → f w.toNat = (x:Nat)
def WOK (l:List Prt) (k w:Int):Prop:=w < 0 ∨ (w < l.length ∧ (l.getD w.toNat prt0).stock = k)
/-- What the later sales leave: `lat` is what the next one can be, in whole truths. -/
structure BkI (b:Brd) (l:List Prt) (T:Nat → Nat → Bool) (k w:Int) (x:Nat) (i:Nat) (lat:Option Nat) (ms:List Nat):Prop where
  len:ms.length = l.length
  cans:∀ m ∈ ms,Can m
  no:lat = none → ∀ j,i ≤ j → j < l.length → (l.getD j prt0).stock ≠ k
  yes:∀ q,lat = some q → ∃ c:Nat,i ≤ c ∧ c < l.length ∧ (l.getD c prt0).stock = k ∧ (∀ j,i ≤ j → j < c → (l.getD j prt0).stock ≠ k) ∧ ∀ p,p < 800 → (q.testBit p = true ↔ ∃ f,PreT b l T k l.length f ∧ AtW w x f c ∧ f c = (p:Nat))
  lo:∀ j,j < i → (l.getD j prt0).stock = k → ∀ p,p < 800 → ((ms.getD j 0).testBit p = true ↔ (∃ f,PreT b l T k (j + 1) f ∧ f j = (p:Nat)) ∧ ((j:Int) = w → p = x))
  hi:∀ j,i ≤ j → j < l.length → (l.getD j prt0).stock = k → ∀ p,p < 800 → ((ms.getD j 0).testBit p = true ↔ ∃ f,PreT b l T k l.length f ∧ AtW w x f j ∧ f j = (p:Nat))
theorem bk_start {b:Brd} {l:List Prt} {T:Nat → Nat → Bool} {st:Stk} {k:Int} {ms:List Nat} {now:Nat} {w:Int} {x:Nat} (hw:w < 0) (h:ChI b l T k st l.length now ms):BkI b l T k w x l.length none ms :=
  ⟨h.len,h.cans,fun _ j h1 h2=>by omega,fun q hq=>(by cases hq),fun j h1 h2 p hp=>(h.lv j h1 h2 p hp).trans ⟨fun h=>⟨h,fun e=>by omega⟩,fun h=>h.1⟩,fun j h1 h2=>by omega⟩
theorem bk_skip {b:Brd} {l:List Prt} {T:Nat → Nat → Bool} {k:Int} {ms:List Nat} {lat:Option Nat} {i:Nat} {w:Int} {x:Nat} (hk:(l.getD i prt0).stock ≠ k) (h:BkI b l T k w x (i + 1) lat ms):BkI b l T k w x i lat ms:=by
  have hj:∀ j,i ≤ j → (l.getD j prt0).stock = k → i + 1 ≤ j:=fun j hj hs=>by
    rcases Nat.lt_or_ge i j with h1 | h1
    · omega
    · obtain rfl:j = i:=by omega
      exact (hk hs).elim
  refine ⟨h.len,h.cans,fun hl j h1 h2 hs=>h.no hl j (hj j h1 hs) h2 hs,fun q hq=>?_,fun j h1=>h.lo j (by omega),fun j h1 h2 hs=>h.hi j (hj j h1 hs) h2 hs⟩
  obtain ⟨c,c1,c2,c3,c4,c5⟩:=h.yes q hq
  exact ⟨c,by omega,c2,c3,fun j h1 h2 hs=>c4 j (hj j h1 hs) h2 hs,c5⟩
theorem zGf {b : Brd} {l : List Prt} {T : Nat → Nat → Bool} {k : Int} {ms : List Nat} {lat : Option Nat} {i J : Nat} {s : Prt} {w : Int} {x : Nat} (hw : WOK l k w) (hJ : b.jump = (J : Nat)) (hs : l[i]? = some s) (hk : s.stock = k) (h : BkI b l T k w x (i + 1) lat ms) {p : Nat} (hp : p < 800) :
    (bckM s J (ms.getD i 0) lat).testBit p = true ↔ ∃ f,PreT b l T k l.length f ∧ AtW w x f i ∧ f i = (p:Nat):=by
  have hil:=(List.getElem?_eq_some_iff.1 hs).1
  have hg:l.getD i prt0 = s:=zP hs
  have hst2:(l.getD i prt0).stock = k:=by rw [hg]; exact hk
  have h1:=h.lo i (by omega) hst2 p hp
  cases lat with
  | none =>
    rw [bckM,h1]
    have hno:=h.no rfl
    have hj:∀ j,j < l.length → (l.getD j prt0).stock = k → j < i + 1:=fun j hj hs=>by
      rcases Nat.lt_or_ge j (i + 1) with h2 | h2
      · exact h2
      · exact (hno j h2 hj hs).elim
    constructor
    · rintro ⟨⟨f,hf,hfi⟩,hx⟩
      refine ⟨f,⟨fun j h2 h3=>hf.1 j (hj j h2 h3) h3,fun j h2 h3=>hf.2 j (hj j h2 h3) h3⟩,fun h2=>?_,hfi⟩
      rcases hw with hw | ⟨hw1,hw2⟩
      · omega
      · have:=hj w.toNat (by omega) hw2
        rw [← hx (by omega),← hfi]
        congr 1; omega
    · rintro ⟨f,hf,hE,hfi⟩
      refine ⟨⟨f,hf.mono (by omega),hfi⟩,fun e=>?_⟩
      have h2:=hE (by omega)
      rw [show w.toNat = i by omega,hfi] at h2
      omega
  | some q =>
    obtain ⟨c,c1,c2,c3,c4,c5⟩:=h.yes q rfl
    have hac:aheadI l c = (i:Nat):=yN.2 ⟨by omega,hst2.trans c3.symm,fun j h2 h3 hs=>c4 j (by omega) h3 (hs.trans c3)⟩
    rw [bckM,zF5 hp,Bool.and_eq_true_iff,Bool.and_eq_true_iff,h1,zAA]
    constructor
    · rintro ⟨⟨⟨⟨g,hg2,hgi⟩,hgx⟩,_⟩,h2,_,y,hy,hb,hn1,hn2⟩
      obtain ⟨f,hf,hfE,hfc⟩:=(c5 y hy).1 hb
      refine ⟨fun j=>if j ≤ i then g j else f j,⟨fun j hj hjs=>?_,fun j hj hjs=>?_⟩,fun hiw=>?_,(if_pos (Nat.le_refl _)).trans hgi⟩
      · rcases Nat.lt_or_ge i j with h3 | h3
        · by_cases e:j = c
          · subst e
            refine (kp hac).2 ?_
            rw [if_neg (by omega),if_pos (Nat.le_refl _),hgi,hfc]
            have h4:=(hf.1 j hj hjs).1
            rw [hfc] at h4
            exact ⟨h4,by omega,by omega⟩
          · have hcj : c < j := by
              rcases Nat.lt_or_ge c j with h4 | h4
              · exact h4
              · exact (c4 j (by omega) (by omega) hjs).elim
            refine (hf.1 j hj hjs).congr (by (try dsimp only); rw [if_neg (by omega)]) fun a ha=>?_
            have ha':aheadGo l (l.getD j prt0).stock j = (a:Nat):=ha
            obtain ⟨a1,a2,a3⟩:=yN.1 ha'
            have:c ≤ a:=by
              rcases Nat.lt_or_ge a c with h4 | h4
              · exact (a3 c h4 hcj (c3.trans hjs.symm)).elim
              · exact h4
            rw [if_neg (by omega)]
        · refine (hg2.1 j (by omega) hjs).congr (by (try dsimp only); rw [if_pos h3]) fun a ha=>?_
          have ha':aheadGo l (l.getD j prt0).stock j = (a:Nat):=ha
          have hlt:=ki (l:=l) (st:=(l.getD j prt0).stock) (i:=j)
          rw [if_pos (by omega)]
      · (try dsimp only)
        by_cases h3:j ≤ i
        · rw [if_pos h3]; exact hg2.2 j (by omega) hjs
        · rw [if_neg h3]; exact hf.2 j hj hjs
      · (try dsimp only)
        rcases hw with hw | ⟨hw1,hw2⟩
        · omega
        · by_cases h3:w.toNat ≤ i
          · rw [if_pos h3,← hgx (by omega),← hgi]
            congr 1; omega
          · rw [if_neg h3]
            refine hfE ?_
            rcases Nat.lt_or_ge w.toNat c with h4 | h4
            · exact (c4 w.toNat (by omega) h4 hw2).elim
            · omega
    · rintro ⟨f,hf,hE,hfi⟩
      have h2:=(hf.1 i hil hst2)
      have hb2:=h2.bd
      have h3:=h2.1
      rw [hg,hfi,fits0,Bool.and_eq_true_iff] at h3
      have h4:=hf.1 c c2 c3
      have hb4:=h4.bd
      have h5:=(kp hac).1 h4
      obtain ⟨y,hy⟩:∃ y:Nat,f c = (y:Nat):=⟨(f c).toNat,by omega⟩
      rw [hfi] at hb2
      rw [hfi,hy] at h5
      rw [hy] at hb4
      refine ⟨⟨⟨⟨f,hf.mono (by omega),hfi⟩,fun e=>?_⟩,h3.2⟩,by omega,hp,y,by omega,(c5 y (by omega)).2 ⟨f,hf,fun e=>hE (by omega),hy⟩,by omega,by omega⟩
      have h6:=hE (by omega)
      rw [show w.toNat = i by omega,hfi] at h6
      omega
theorem bk_step {b : Brd} {l : List Prt} {T : Nat → Nat → Bool} {k : Int} {ms : List Nat} {lat : Option Nat} {i J : Nat} {s : Prt} {w : Int} {x : Nat} (hw : WOK l k w) (hJ : b.jump = (J : Nat)) (hs : l[i]? = some s) (hk : s.stock = k) (h : BkI b l T k w x (i + 1) lat ms) :
    BkI b l T k w x i (some (bckM s J (ms.getD i 0) lat)) (ms.set i (bckM s J (ms.getD i 0) lat)):=by
  have hil:=(List.getElem?_eq_some_iff.1 hs).1
  have hst2:(l.getD i prt0).stock = k:=by rw [zP hs]; exact hk
  have hc:Can (bckM s J (ms.getD i 0) lat):=by
    cases lat with
    | none =>
      obtain ⟨m,hm⟩:=zT (show i < ms.length by rw [h.len]; exact hil)
      rw [bckM,zP hm]; exact h.cans m (List.mem_of_getElem? hm)
    | some q=>exact zD5 _ _ _
  refine ⟨by rw [List.length_set]; exact h.len,zCF h.cans hc,fun e=>(by cases e),fun q hq=>?_,fun j hj hjs p hp=>?_,fun j hj hjl hjs p hp=>?_⟩
  · obtain rfl:_ = q:=Option.some.inj hq
    exact ⟨i,Nat.le_refl _,hil,hst2,fun j h1 h2=>by omega,fun p hp=>zGf hw hJ hs hk h hp⟩
  · rw [yc (by rw [h.len]; exact hil),if_neg (by omega)]
    exact h.lo j (by omega) hjs p hp
  · rw [yc (by rw [h.len]; exact hil)]
    by_cases e:i = j
    · subst e; rw [if_pos rfl]; exact zGf hw hJ hs hk h hp
    · rw [if_neg e]; exact h.hi j (by omega) hjl hjs p hp
theorem zFW {b:Brd} {l:List Prt} {T:Nat → Nat → Bool} {k J:Nat} {w:Int} {x:Nat} (hw:WOK l (k:Int) w) (hJ:b.jump = (J:Nat)):∀ (i:Nat) (lat:Option Nat) (ms:List Nat),i ≤ l.length → BkI b l T (k:Int) w x i lat ms → ∃ lat2,BkI b l T (k:Int) w x 0 lat2 (bckGo J (k:Int) l i lat ms)
  | 0,lat,ms,_,h=>⟨lat,h⟩
  | i + 1,lat,ms,hi,h=>by
    obtain ⟨s,hs⟩:=zT (show i < l.length by omega)
    have hgs:l.getD i prt0 = s:=zP hs
    rw [bckGo,hgs]
    cases hk:s.stock == (k:Int)
    · exact zFW hw hJ i lat ms (by omega) (bk_skip (by rw [zP hs]; simpa using hk) h)
    · rw [cond_true]
      exact zFW hw hJ i _ _ (by omega) (bk_step hw hJ hs (by simpa using hk) h)
/-- From a sale on, the first one that lets an order trade is i. -/
def HitP (fee:Int) (o:Ord) (l:List Prt) (f:Nat → Int) (fr i:Nat):Prop:=fr ≤ i ∧ i < l.length ∧ (l.getD i prt0).stock = o.stock ∧ letsB fee o (f i) = true ∧ ∀ j,fr ≤ j → j < i → (l.getD j prt0).stock = o.stock → letsB fee o (f j) = false
def MissP (fee:Int) (o:Ord) (l:List Prt) (f:Nat → Int) (fr:Nat):Prop:=∀ j,fr ≤ j → j < l.length → (l.getD j prt0).stock = o.stock → letsB fee o (f j) = false
/-- What is known of a desk whose tape is read, with one of its orders. -/
structure OddOK (b:Brd) (l:List Prt) (o:Ord):Prop where
  v:BrdOK b
  po:∀ p ∈ l,PrtOK b p
  st:0 ≤ o.stock ∧ o.stock < b.stocks.length
  ex:∃ g,TruF b l 0 g
theorem tru_join {b:Brd} {l:List Prt} {k:Int} {f g:Nat → Int} (hf:PreF b l 0 k l.length f) (hg:TruF b l 0 g):TruF b l 0 fun j=>if (l.getD j prt0).stock = k then f j else g j:=fun j hj=>by
  by_cases h:(l.getD j prt0).stock = k
  · refine (hf j hj h).congr (by (try dsimp only); rw [if_pos h]) fun a ha=>?_
    have ha':aheadGo l (l.getD j prt0).stock j = (a:Nat):=ha
    obtain ⟨_,a2,_⟩:=yN.1 ha'
    (try dsimp only); rw [if_pos (a2.trans h)]
  · refine (hg j hj).congr (by (try dsimp only); rw [if_neg h]) fun a ha=>?_
    have ha':aheadGo l (l.getD j prt0).stock j = (a:Nat):=ha
    obtain ⟨_,a2,_⟩:=yN.1 ha'
    (try dsimp only); rw [if_neg (fun e=>h (a2.symm.trans e))]
/-- A truth of the stock with tests is one of the tape. -/
theorem preT_iff {b : Brd} {l : List Prt} {T : Nat → Nat → Bool} {k : Int} (hex : ∃ g, TruF b l 0 g) {R : (Nat → Int) → Prop} (hR : ∀ f g : Nat → Int, (∀ j, j < l.length → (l.getD j prt0).stock = k → f j = g j) → R f → R g) :
    (∃ f,PreT b l T k l.length f ∧ R f) ↔ ∃ f,TruF b l 0 f ∧ (∀ j,j < l.length → (l.getD j prt0).stock = k → T j (f j).toNat = true) ∧ R f:=by
  constructor
  · rintro ⟨f,hf,hr⟩
    obtain ⟨g,hg⟩:=hex
    have e:∀ j,j < l.length → (l.getD j prt0).stock = k → f j = (fun j=>if (l.getD j prt0).stock = k then f j else g j) j:=fun j _ hs=>by (try dsimp only); rw [if_pos hs]
    exact ⟨_,tru_join hf.1 hg,fun j hj hs=>by have:=hf.2 j hj hs; rw [e j hj hs] at this; exact this,hR _ _ e hr⟩
  · rintro ⟨f,hf,ht,hr⟩
    exact ⟨f,⟨fun j hj _=>hf j hj,ht⟩,hr⟩
theorem zE4 {fee:Int} {o:Ord} {l:List Prt} {fr:Nat} {f:Nat → Int} (hb:∀ j,j < l.length → 1 ≤ f j):(∀ j,j < l.length → (l.getD j prt0).stock = o.stock → tstO fee o (fr:Nat) (-1) j (f j).toNat = true) ↔ MissP fee o l f fr:=by
  have key:∀ j,j < l.length → (tstO fee o (fr:Nat) (-1) j (f j).toNat = true ↔ (fr ≤ j → letsB fee o (f j) = false)):=fun j hj=>by
    have h1:=hb j hj
    unfold tstO
    rw [show (((f j).toNat:Nat):Int) = f j by omega,show ((-1:Int) != -1) = false from rfl,Bool.false_and,Bool.or_false]
    by_cases h:j < fr
    · rw [decide_eq_true (show (j:Int) < (fr:Nat) by omega),cond_true]
      exact ⟨fun _ h2=>by omega,fun _=>rfl⟩
    · rw [decide_eq_false (show ¬ (j:Int) < (fr:Nat) by omega),cond_false,show ((j:Int) == -1) = false by simp,cond_false]
      cases letsB fee o (f j) <;> simp; omega
  constructor
  · exact fun h j h1 h2 h3=>(key j h2).1 (h j h2 h3) h1
  · exact fun h j h2 h3=>(key j h2).2 fun h1=>h j h1 h2 h3
theorem zCD {fee:Int} {o:Ord} {l:List Prt} {fr i:Nat} {f:Nat → Int} (hfi:fr ≤ i) (hil:i < l.length) (hs:(l.getD i prt0).stock = o.stock) (hb:∀ j,j < l.length → 1 ≤ f j):(∀ j,j < l.length → (l.getD j prt0).stock = o.stock → tstO fee o (fr:Nat) (i:Nat) j (f j).toNat = true) ↔ HitP fee o l f fr i:=by
  have key:∀ j,j < l.length → (tstO fee o (fr:Nat) (i:Nat) j (f j).toNat = true ↔ (j = i → letsB fee o (f j) = true) ∧ (fr ≤ j → j < i → letsB fee o (f j) = false)):=fun j hj=>by
    have h1:=hb j hj
    unfold tstO
    rw [show (((f j).toNat:Nat):Int) = f j by omega,show (((i:Nat):Int) != -1) = true by simp,Bool.true_and]
    by_cases h:j < fr ∨ i < j
    · rw [show (decide ((j:Int) < (fr:Nat)) || decide (((i:Nat):Int) < (j:Int))) = true by simp; omega,cond_true]
      exact ⟨fun _=>⟨fun h2=>by omega,fun h2=>by omega⟩,fun _=>rfl⟩
    · rw [show (decide ((j:Int) < (fr:Nat)) || decide (((i:Nat):Int) < (j:Int))) = false by simp; omega,cond_false]
      by_cases e:j = i
      · subst e
        rw [show ((j:Int) == ((j:Nat):Int)) = true by simp,cond_true]
        exact ⟨fun h2=>⟨fun _=>h2,fun _ h3=>by omega⟩,fun h2=>h2.1 rfl⟩
      · rw [show ((j:Int) == ((i:Nat):Int)) = false by simp; omega,cond_false]
        cases hl:letsB fee o (f j)
        · exact ⟨fun _=>⟨fun h2=>(e h2).elim,fun _ _=>rfl⟩,fun _=>rfl⟩
        · exact ⟨fun h2=>(by cases h2),fun h2=>absurd (h2.2 (by omega) (by omega)) (by decide)⟩
  constructor
  · exact fun h=>⟨hfi,hil,hs,((key i hil).1 (h i hil hs)).1 rfl,fun j h1 h2 h3=>((key j (by omega)).1 (h j (by omega) h3)).2 h1 h2⟩
  · rintro ⟨_,_,_,h4,h5⟩ j hj h3
    exact (key j hj).2 ⟨fun e=>by subst e; exact h4,fun h1 h2=>h5 j h1 h2 h3⟩
theorem OddOK.stk {b:Brd} {l:List Prt} {o:Ord} (h:OddOK b l o):∃ (k:Nat) (st:Stk),o.stock = (k:Int) ∧ b.stocks[k]? = some st ∧ b.stocks.getD o.stock.toNat stk0 = st ∧ 1 ≤ st.lo ∧ st.lo ≤ st.hi ∧ st.hi ≤ 799:=by
  have h1:=h.st
  obtain ⟨st,hst⟩:=zT (show o.stock.toNat < b.stocks.length by omega)
  have hs:=zBq h.v (List.mem_of_getElem? hst)
  exact ⟨o.stock.toNat,st,by omega,hst,zP hst,hs.1,hs.2.1,hs.2.2.1⟩
/-- A chain goes through just if there is a truth that passes the tests. -/
theorem chain_some {b:Brd} {l:List Prt} {o:Ord} (h:OddOK b l o) (fee fr by_:Int):(chainN b l fee o fr by_).isSome = true ↔ ∃ f,TruF b l 0 f ∧ ∀ j,j < l.length → (l.getD j prt0).stock = o.stock → tstO fee o fr by_ j (f j).toNat = true:=by
  obtain ⟨k,st,hk,hst,hgd,hso⟩:=h.stk
  have hJ:b.jump = (b.jump.toNat:Nat):=by have:=h.v.j0; omega
  have hc:=ch_is (l:=l) (T:=tstO fee o fr by_) hJ hst hso
  have hp:=preT_iff (T:=tstO fee o fr by_) (k:=o.stock) h.ex (R:=fun _=>True) fun _ _ _ _=>trivial
  simp only [and_true] at hp
  rw [← hp]
  unfold chainN
  rw [hgd,hk]
  rw [hk] at hp
  cases hr:chnGo (tstO fee o fr by_) b.jump.toNat (k:Int) 0 l (startN st) (List.replicate l.length 0) with
  | none =>
    rw [hr] at hc
    exact ⟨fun h=>(by cases h),fun h=>(hc h).elim⟩
  | some r =>
    rw [hr] at hc
    refine ⟨fun _=>?_,fun _=>rfl⟩
    obtain ⟨now,h0,hI⟩:=hc
    exact ch_ex h0 hI
/-- What a chain, cut from the back, has at a sale of the stock. -/
theorem chain_bit {b : Brd} {l : List Prt} {o : Ord} (h : OddOK b l o) {fee fr by_ : Int} {c : List Nat} (hc : chainN b l fee o fr by_ = some c) {i : Nat} (hi : i < l.length) (hs : (l.getD i prt0).stock = o.stock) {p : Nat} (hp : p < 800) :
    ((backN b l o c).getD i 0).testBit p = true ↔ ∃ f,TruF b l 0 f ∧ (∀ j,j < l.length → (l.getD j prt0).stock = o.stock → tstO fee o fr by_ j (f j).toNat = true) ∧ f i = (p:Nat):=by
  obtain ⟨k,st,hk,hst,hgd,hso⟩:=h.stk
  have hJ:b.jump = (b.jump.toNat:Nat):=by have:=h.v.j0; omega
  have hI:=ch_is (l:=l) (T:=tstO fee o fr by_) hJ hst hso
  unfold chainN at hc
  rw [hgd,hk] at hc
  rw [hc] at hI
  obtain ⟨now,_,hI⟩:=hI
  obtain ⟨lat,hB⟩:=zFW (w:=-1) (x:=0) (.inl (by decide)) hJ l.length none c (Nat.le_refl _) (bk_start (by decide) hI)
  have h1:=hB.hi i (Nat.zero_le _) hi (by rw [hs,hk]) p hp
  unfold backN
  rw [hk,h1,← hk]
  refine Iff.trans ⟨fun ⟨f,a1,_,a3⟩=>⟨f,a1,a3⟩,fun ⟨f,a1,a3⟩=>⟨f,a1,fun e=>by omega,a3⟩⟩ (preT_iff (T:=tstO fee o fr by_) (k:=o.stock) h.ex (R:=fun f=>f i = (p:Nat)) fun f g e hr=>by rw [← e i hi hs]; exact hr)
theorem zBh {b:Brd} {l:List Prt} {f:Nat → Int} (h:TruF b l 0 f) (j:Nat) (hj:j < l.length):1 ≤ f j:=(h j hj).bd.1
theorem can_miss {b:Brd} {l:List Prt} {o:Ord} (h:OddOK b l o) (fee:Int) (mm:List (Int × Int)) (fr:Nat):(canO b l fee o mm fr (-1)).isSome = true ↔ fr ≤ l.length ∧ waitsB o mm fr = true ∧ ∃ f,TruF b l 0 f ∧ MissP fee o l f fr:=by
  unfold canO
  rw [show ((-1:Int) == -1) = true from rfl,cond_true]
  cases hw:(decide (fr ≤ l.length) && waitsB o mm fr)
  · rw [cond_false]
    refine ⟨fun h=>(by cases h),fun ⟨h1,h2,_⟩=>?_⟩
    rw [decide_eq_true h1,h2] at hw; cases hw
  · rw [cond_true,Option.isSome_map,chain_some h]
    rw [Bool.and_eq_true_iff,decide_eq_true_eq] at hw
    constructor
    · rintro ⟨f,hf,ht⟩
      exact ⟨hw.1,hw.2,f,hf,(zE4 (zBh hf)).1 ht⟩
    · rintro ⟨_,_,f,hf,hm⟩
      exact ⟨f,hf,(zE4 (zBh hf)).2 hm⟩
theorem zBT {b : Brd} {l : List Prt} {o : Ord} (h : OddOK b l o) (fee : Int) (mm : List (Int × Int)) (fr i : Nat) :
    ((canO b l fee o mm fr (i:Nat)).isSome = true ↔ waitsB o mm fr = true ∧ ∃ f,TruF b l 0 f ∧ HitP fee o l f fr i) ∧
    ∀ m,canO b l fee o mm fr (i:Nat) = some m → ∀ p,p < 800 → (m.testBit p = true ↔ ∃ f,TruF b l 0 f ∧ HitP fee o l f fr i ∧ f i = (p:Nat)):=by
  unfold canO
  rw [show (((i:Nat):Int) == -1) = false by simp,cond_false,Int.toNat_natCast]
  cases hw:(decide (fr ≤ l.length) && waitsB o mm fr)
  · rw [cond_false]
    refine ⟨⟨fun h=>(by cases h),fun ⟨h2,f,hf,hh⟩=>?_⟩,fun m hm=>by cases hm⟩
    rw [decide_eq_true (by have:=hh.1; have:=hh.2.1; omega),h2] at hw; cases hw
  rw [cond_true]
  rw [Bool.and_eq_true_iff,decide_eq_true_eq] at hw
  cases hi:(decide ((fr:Int) ≤ (i:Nat)) && decide (((i:Nat):Int) < (l.length:Int)) && ((l.getD i prt0).stock == o.stock))
  · rw [cond_false]
    refine ⟨⟨fun h=>(by cases h),fun ⟨h2,f,hf,hh⟩=>?_⟩,fun m hm=>by cases hm⟩
    rw [decide_eq_true (by have:=hh.1; omega),decide_eq_true (by have:=hh.2.1; omega),hh.2.2.1] at hi
    simp at hi
  rw [cond_true]
  simp only [Bool.and_eq_true_iff,decide_eq_true_eq,beq_iff_eq] at hi
  obtain ⟨⟨h1,h2⟩,h3⟩:=hi
  constructor
  · rw [Option.isSome_map,chain_some h]
    constructor
    · rintro ⟨f,hf,ht⟩
      exact ⟨hw.2,f,hf,(zCD (by omega) (by omega) h3 (zBh hf)).1 ht⟩
    · rintro ⟨_,f,hf,hm⟩
      exact ⟨f,hf,(zCD (by omega) (by omega) h3 (zBh hf)).2 hm⟩
  · intro m hm p hp
    obtain ⟨c,hc,rfl⟩:=Option.map_eq_some_iff.1 hm
    rw [chain_bit h hc (by omega) h3 hp]
    constructor
    · rintro ⟨f,hf,ht,hp⟩
      exact ⟨f,hf,(zCD (by omega) (by omega) h3 (zBh hf)).1 ht,hp⟩
    · rintro ⟨f,hf,hm,hp⟩
      exact ⟨f,hf,(zCD (by omega) (by omega) h3 (zBh hf)).2 hm,hp⟩
/-- All prices by all waits. -/
def priL (F:Nat → Int → Option Nat) (fee:Int) (o:Ord) (n:Nat):List Int:=(List.range (n + 1)).flatMap fun fr=>(List.range n).flatMap fun i=>match F fr (i:Nat) with
  | none=>[]
  | some m=>((List.range 800).filter fun p=>m.testBit p).map fun p=>priceO fee o (p:Nat)
def bndL:List Int → (Int × Int) × Bool
  | []=>((0,0),false)
  | x :: r=>((r.foldl min x,r.foldl max x),true)
def bndI (b:Brd) (l:List Prt) (fee:Int) (o:Ord) (mm:List (Int × Int)):(Int × Int) × Bool:=bndL (priL (canO b l fee o mm) fee o l.length)
def missI (b:Brd) (l:List Prt) (fee:Int) (o:Ord) (mm:List (Int × Int)):Bool:=(List.range (l.length + 1)).any fun fr=>(canO b l fee o mm fr (-1)).isSome
def verdI (b:Brd) (l:List Prt) (fee:Int) (o:Ord) (mm:List (Int × Int)):Int:=bif !(missI b l fee o mm) then 1 else bif !(bndI b l fee o mm).2 then 2 else 3
def saleB (b:Brd) (l:List Prt) (fee:Int) (o:Ord) (mm:List (Int × Int)) (i:Nat):Bool:=(List.range (i + 1)).any fun fr=>(canO b l fee o mm fr (i:Nat)).isSome
def salesO (b:Brd) (l:List Prt) (fee:Int) (o:Ord) (mm:List (Int × Int)):List Int:=((List.range l.length).filter (saleB b l fee o mm)).map fun i:Nat=>(i:Int)
theorem zDT {r:List Int}:∀ {x:Int},r.foldl min x ∈ x :: r ∧ ∀ y ∈ x :: r,r.foldl min x ≤ y:=by
  induction r with
  | nil=>intro x; exact ⟨List.mem_cons_self,fun y hy=>by simp at hy; subst hy; exact Int.le_refl _⟩
  | cons a r ih =>
    intro x
    obtain ⟨h1,h2⟩:=ih (x:=min x a)
    rw [List.foldl_cons]
    refine ⟨?_,fun y hy=>?_⟩
    · rcases List.mem_cons.1 h1 with h | h
      · rw [h]
        rcases Int.le_total x a with e | e
        · rw [Int.min_eq_left e]; exact List.mem_cons_self
        · rw [Int.min_eq_right e]; exact List.mem_cons_of_mem _ List.mem_cons_self
      · exact List.mem_cons_of_mem _ (List.mem_cons_of_mem _ h)
    · have h3:=h2 _ List.mem_cons_self
      rcases List.mem_cons.1 hy with rfl | hy
      · omega
      · rcases List.mem_cons.1 hy with rfl | hy
        · omega
        · exact h2 y (List.mem_cons_of_mem _ hy)
theorem zDR {r:List Int}:∀ {x:Int},r.foldl max x ∈ x :: r ∧ ∀ y ∈ x :: r,y ≤ r.foldl max x:=by
  induction r with
  | nil=>intro x; exact ⟨List.mem_cons_self,fun y hy=>by simp at hy; subst hy; exact Int.le_refl _⟩
  | cons a r ih =>
    intro x
    obtain ⟨h1,h2⟩:=ih (x:=max x a)
    rw [List.foldl_cons]
    refine ⟨?_,fun y hy=>?_⟩
    · rcases List.mem_cons.1 h1 with h | h
      · rw [h]
        rcases Int.le_total x a with e | e
        · rw [Int.max_eq_right e]; exact List.mem_cons_of_mem _ List.mem_cons_self
        · rw [Int.max_eq_left e]; exact List.mem_cons_self
      · exact List.mem_cons_of_mem _ (List.mem_cons_of_mem _ h)
    · have h3:=h2 _ List.mem_cons_self
      rcases List.mem_cons.1 hy with rfl | hy
      · omega
      · rcases List.mem_cons.1 hy with rfl | hy
        · omega
        · exact h2 y (List.mem_cons_of_mem _ hy)
theorem bndL_is {F:Nat → Int → Option Nat} {fee:Int} {o:Ord} {L:List Int} (h:∀ n,n ∈ L ↔ PriS F fee o (fun _=>True) n):BndR F fee o (bndL L):=by
  cases L with
  | nil=>exact .inl ⟨rfl,fun n hn=>by have:=(h n).2 hn; cases this⟩
  | cons x r =>
    refine .inr ⟨rfl,.inr ⟨rfl,(h _).1 zDT.1,(h _).1 zDR.1,fun n hn=>⟨zDT.2 n ((h n).2 hn),zDR.2 n ((h n).2 hn)⟩⟩⟩
theorem zCP {b:Brd} {l:List Prt} {fee:Int} {o:Ord} {mm:List (Int × Int)} {fr m:Nat} {c:Int} (h:canO b l fee o mm fr c = some m):fr ≤ l.length ∧ (c = -1 ∨ ∃ i:Nat,c = (i:Int) ∧ fr ≤ i ∧ i < l.length):=by
  unfold canO at h
  cases h1:(decide (fr ≤ l.length) && waitsB o mm fr) <;> rw [h1] at h
  · cases h
  · simp only [Bool.and_eq_true_iff,decide_eq_true_eq] at h1
    refine ⟨h1.1,?_⟩
    rw [cond_true] at h
    cases h2:c == -1 <;> rw [h2] at h
    · cases h3:(decide ((fr:Int) ≤ c) && decide (c < (l.length:Int)) && ((l.getD c.toNat prt0).stock == o.stock)) <;> rw [h3] at h
      · cases h
      · simp only [Bool.and_eq_true_iff,decide_eq_true_eq] at h3
        exact .inr ⟨c.toNat,by omega,by omega,by omega⟩
    · exact .inl (by simpa using h2)
theorem priL_mem {b:Brd} {l:List Prt} {fee:Int} {o:Ord} {mm:List (Int × Int)} (n:Int):n ∈ priL (canO b l fee o mm) fee o l.length ↔ PriS (canO b l fee o mm) fee o (fun _=>True) n:=by
  unfold priL
  simp only [List.mem_flatMap,List.mem_range]
  constructor
  · rintro ⟨fr,h1,i,h2,h3⟩
    cases hc:canO b l fee o mm fr (i:Nat) with
    | none=>rw [hc] at h3; cases h3
    | some m =>
      rw [hc] at h3
      obtain ⟨p,hp,rfl⟩:=List.mem_map.1 h3
      rw [List.mem_filter,List.mem_range] at hp
      exact ⟨fr,(i:Nat),m,p,hc,by omega,trivial,hp.1,hp.2,rfl⟩
  · rintro ⟨fr,c,m,p,h1,h2,_,h3,h4,rfl⟩
    obtain ⟨h5,h6 | ⟨i,rfl,h7,h8⟩⟩:=zCP h1
    · exact (h2 h6).elim
    · refine ⟨fr,by omega,i,h8,?_⟩
      rw [h1]
      exact List.mem_map.2 ⟨p,by rw [List.mem_filter,List.mem_range]; exact ⟨h3,h4⟩,rfl⟩
theorem zCC (b:Brd) (l:List Prt) (fee:Int) (o:Ord) (mm:List (Int × Int)):BndR (canO b l fee o mm) fee o (bndI b l fee o mm):=bndL_is priL_mem
theorem missI_iff {b:Brd} {l:List Prt} {fee:Int} {o:Ord} {mm:List (Int × Int)}:missI b l fee o mm = true ↔ MisS (canO b l fee o mm) fun _=>True:=by
  unfold missI
  rw [List.any_eq_true]
  constructor
  · rintro ⟨fr,_,h⟩
    obtain ⟨m,hm⟩:=Option.isSome_iff_exists.1 h
    exact ⟨fr,m,hm,trivial⟩
  · rintro ⟨fr,m,hm,_⟩
    exact ⟨fr,List.mem_range.2 (by have:=(zCP hm).1; omega),by rw [hm]; rfl⟩
end Go.Proofs.YticlpkgpmmhemaaGreatDoor
namespace Go.Proofs.YticlpkgpmmhemaaGreatDoor
open Go.RowKit
set_option maxRecDepth 20000
set_option linter.all false
def opP (d:Dsk):D:=bif deskI d != 0 then .nilp else .ptr (wk4C d (readI d.b d.tape).1)
/-- The error of a desk with orders, whose tape must have a truth, and right minutes. -/
def sureO (d:Dsk) (os:List Int):Int:=bif deskI d != 0 then deskI d else bif !(os.all fun n=>withinB n 0 ((d.orders.length:Int) - 1)) then 2 else bif (pricesI d.b d.tape).2 != 0 then (pricesI d.b d.tape).2 else (minutesI d.b d.tape).2
def sureP (d:Dsk) (os:List Int):D:=bif deskI d != 0 then .nilp else bif !(os.all fun n=>withinB n 0 ((d.orders.length:Int) - 1)) then .nilp else bif (pricesI d.b d.tape).2 != 0 then .nilp else .ptr (wk4C d (readI d.b d.tape).1)
theorem order_ok (d:Dsk) (o:Ord) (h4:d.b.stocks.length ≤ 1000):PureAt Tryz.prog 144 [dskD d,ordD o] (.bool (ordB d.b o)):=by
 refine Zp Tryz.func144 rfl fun Γ hn hl=>?_
 refine Zu ?_
 refine Zb 2 hn rfl fun b2=>?_
 refine Zb 3 hn rfl fun b3=>?_
 refine Zt 1 [] hn rfl ?_
 refine Zv (Zu ?_)
 refine Zt 6 [3,2] hn rfl ?_
 refine Zs hn (z7 rfl rfl rfl (r:=(d.b.stocks.length:Int) - 1) (by rw [List.length_map]; exact i64w (by omega) rfl)) ?_
 refine Zk hn rfl (yb _ _ _) ?_
 refine Zt 3 [3] hn rfl ?_
 refine Zkg hn rfl (fun hc=>yb _ _ _) ?_
 refine Zt 4 [3] hn rfl ?_
 refine Zkg hn rfl (fun hc=>yb _ _ _) ?_
 refine Zt 23 [3,3,3,3] hn rfl ?_
 refine Zv (zJ ?_)
 exact zY (.inl rfl) hl rfl (.tmp rfl)
theorem zCg (d:Dsk) (hN:NamesOK d.b) (h5:d.tape.length ≤ 4294967000) (ho:d.orders.length ≤ 1000):PureAt Tryz.prog 85 [dskD d] (.tup [opP d,.int .i64 (deskI d)]):=by
 refine Zp Tryz.func85 rfl fun Γ hn hl=>?_
 refine Zu (Zb 1 hn rfl fun b1=>Zt 2 [] hn rfl (Zv (Zu (Zt 4 [1,1] hn rfl (Zk hn rfl (zCK d.b d.tape hN h5) (Zt 5 [] hn rfl (Zv (Zu (Zt 1 [1] hn rfl (Zs hn (yG rfl rfl rfl) ?_))))))))))
 refine Zt 1 [] hn rfl (Zv (zD (zK (Zu (Zt 3 [] hn rfl (Zv (zH rfl (fun hb0=>?_) (fun hb0=>?_))))))))
 have q0:((readI d.b d.tape).2 != 0) = true:=hb0
 refine Zu (Zt 3 [] hn rfl (Zv (zJ (zO (zC (zb (yz (.inl rfl) hl rfl (.tmp rfl) (.tmp rfl)) ?_))))))
 unfold opP deskI; rw [q0,cond_true,q0]; rfl
 have q0:((readI d.b d.tape).2 != 0) = false:=hb0
 have v:=ym (b:=d.b) (s:=d.tape) (by simpa using q0)
 have hn4:=v.n4
 refine Zu (Zt 5 [1] hn rfl (Zv (zH rfl (fun hb1=>?_) (fun hb1=>?_))))
 have q1:decide (5 < (d.orders.length:Int)) = true:=by rw [List.length_map] at hb1; exact hb1
 refine Zu (Zt 2 [] hn rfl (Zv (zJ (zO (zC (zb (yz (.inl rfl) hl rfl (.tmp rfl) (.tmp rfl)) ?_))))))
 unfold opP deskI; rw [q0,q1]; rfl
 have q1:decide (5 < (d.orders.length:Int)) = false:=by rw [List.length_map] at hb1; exact hb1
 refine Zu (Zt 2 [1] hn rfl (Zk hn rfl (yb _ _ _) (Zt 5 [1] hn rfl (Zkg hn rfl (fun hc=>all_ord d.orders (ordB d.b) 144 [dskD d] [] (fun x _=>order_ok d x (by omega))) (Zt 3 [] hn rfl (Zv (zH rfl (fun hb2=>?_) (fun hb2=>?_))))))))
 refine Zu (Zt 2 [] hn rfl (Zv (zJ (zO (zC ?_)))))
 rotate_left
 refine zI (zN (zA (Zu (Zt 3 [1] hn rfl (Zb 41 hn rfl fun b41=>Zt 2 [] hn rfl (Zv (zJ (yZ (yB (t:=2) 41 rfl (nb hn rfl) rfl rfl trivial) ?_))))))))
 rotate_left
 all_goals
  refine zb (yz (.inl rfl) hl rfl (.tmp rfl) (.tmp rfl)) ?_
  unfold opP deskI; rw [q0,q1,hb2]; rfl
theorem sure1_ok (d:Dsk) (n:Int) (ho:d.orders.length ≤ 1000):PureAt Tryz.prog 136 [.int .i64 n,.ptr (dskE d)] (.bool (withinB n 0 ((d.orders.length:Int) - 1))):=by
 refine Zp Tryz.func136 rfl fun Γ hn hl=>?_
 refine Zu ?_
 refine Zt 1 [] hn rfl ?_
 refine Zv (Zu ?_)
 refine Zt 4 [] hn rfl ?_
 refine Zs hn (z7 rfl rfl rfl (r:=(d.orders.length:Int) - 1) (by rw [List.length_map]; exact i64w (by omega) rfl)) ?_
 refine Zk hn rfl (yb _ _ _) ?_
 refine Zt 1 [] hn rfl ?_
 refine Zv (zJ ?_)
 exact zY (.inl rfl) hl rfl (.tmp rfl)
theorem zE7 (d:Dsk) (hN:NamesOK d.b) (h5:d.tape.length ≤ 4294967000) (ho:d.orders.length ≤ 1000) (os:List Int) (hos:os.length ≤ 1000):PureAt Tryz.prog 82 [dskD d,ints os] (.tup [sureP d os,.int .i64 (sureO d os)]):=by
 refine Zp Tryz.func82 rfl fun Γ hn hl=>?_
 refine Zu (Zb 2 hn rfl fun b2=>Zt 2 [] hn rfl (Zv (zD (zx (yB (t:=2) 2 rfl (nb hn rfl) rfl rfl trivial) ?_))))
 refine zG (Zt 1 [] hn rfl (Zk hn rfl (zCg d hN h5 ho) (Zt 5 [] hn rfl (Zv (zD (Zu (Zt 2 [] hn rfl (Zv (zH rfl (fun hb0=>?_) (fun hb0=>?_))))))))))
 have q0:(deskI d != 0) = true:=hb0
 refine Zu (Zt 3 [] hn rfl (Zv (zJ (zC (zb (yz (.inl rfl) hl rfl (.tmp rfl) (.tmp rfl)) ?_)))))
 unfold sureP sureO; rw [q0]; rfl
 have q0:(deskI d != 0) = false:=hb0
 refine zI (zA (zD (Zu (Zt 1 [] hn rfl (Zs hn (yG rfl rfl rfl) ?_)))))
 refine Zk hn rfl (all_int os (fun n=>withinB n 0 ((d.orders.length:Int) - 1)) 136 [] [.ptr (dskE d)] (fun x _=>sure1_ok d x ho)) (Zt 1 [] hn rfl (Zv (zH rfl (fun hb1=>?_) (fun hb1=>?_))))
 have q1:(!(os.all fun n=>withinB n 0 ((d.orders.length:Int) - 1))) = true:=hb1
 refine Zu (Zt 2 [] hn rfl (Zv (zJ (zC (zb (yz (.inl rfl) hl rfl (.tmp rfl) (.tmp rfl)) ?_)))))
 unfold sureP sureO; rw [q0,q1]; rfl
 have q1:(!(os.all fun n=>withinB n 0 ((d.orders.length:Int) - 1))) = false:=hb1
 refine zI (zA (zD (Zu (Zt 4 [] hn rfl (Zk hn rfl (zBY d.b d.tape hN h5) (Zt 5 [] hn rfl (Zv (Zu (Zt 2 [] hn rfl (Zv (zH rfl (fun hb2=>?_) (fun hb2=>?_))))))))))))
 have q2:((pricesI d.b d.tape).2 != 0) = true:=hb2
 refine Zu (Zt 3 [] hn rfl (Zv (zJ (zC (zb (yz (.inl rfl) hl rfl (.tmp rfl) (.tmp rfl)) ?_)))))
 unfold sureP sureO; rw [q0,q1,q2]; rfl
 have q2:((pricesI d.b d.tape).2 != 0) = false:=hb2
 refine zI (zA (Zu (Zt 4 [] hn rfl (Zk hn rfl (zCm d.b d.tape hN h5) (Zt 4 [] hn rfl (Zv (Zu (Zt 4 [] hn rfl (Zv (zJ (zb (yz (.inl rfl) hl rfl (.tmp rfl) (.tmp rfl)) ?_)))))))))))
 unfold sureP sureO opP; rw [q0,q1,q2]; rfl
end Go.Proofs.YticlpkgpmmhemaaGreatDoor
namespace Go.Proofs.YticlpkgpmmhemaaGreatDoor
open Go.RowKit
set_option linter.all false
/-- Minutes of sales that are right. -/
structure RightM (l:List Prt) (m:Nat → Int):Prop where
  own:∀ j,j < l.length → (l.getD j prt0).minute - (l.getD j prt0).lhi ≤ m j ∧ m j ≤ (l.getD j prt0).minute - (l.getD j prt0).llo
  up:∀ j,0 < j → j < l.length → m (j - 1) ≤ m j
theorem RightM.le {l:List Prt} {m:Nat → Int} (h:RightM l m):∀ {j i:Nat},i ≤ j → j < l.length → m i ≤ m j
  | 0, i, hi, _ => by obtain rfl : i = 0 := by omega
                      omega
  | j + 1,i,hi,hj=>by
    by_cases e:i = j + 1
    · subst e; omega
    · have h1:=h.le (i:=i) (j:=j) (by omega) (by omega)
      have h2:=h.up (j + 1) (by omega) hj
      simp only [Nat.add_sub_cancel] at h2
      omega
theorem zEb {ms:List Int} {l:List Prt}:∀ (n i:Nat),i + n = l.length → (rightGo ms i (l.drop i) = true ↔ ∀ j,i ≤ j → j < l.length → ((l.getD j prt0).minute - (l.getD j prt0).lhi ≤ ms.getD j 0 ∧ ms.getD j 0 ≤ (l.getD j prt0).minute - (l.getD j prt0).llo) ∧ (0 < j → ms.getD (j - 1) 0 ≤ ms.getD j 0))
  | 0,i,h=>by
    obtain rfl:i = l.length:=by omega
    rw [List.drop_length]
    exact ⟨fun _ j h1 h2=>by omega,fun _=>rfl⟩
  | n + 1,i,h=>by
    obtain ⟨s,hs⟩:=zT (show i < l.length by omega)
    rw [zj hs,rightGo,Bool.and_eq_true_iff,zEb n (i + 1) (by omega),Bool.and_eq_true_iff,zh]
    have hg:l.getD i prt0 = s:=zP hs
    constructor
    · rintro ⟨⟨h1,h2⟩,h3⟩ j hj hjl
      by_cases e:i = j
      · subst e
        rw [hg]
        refine ⟨h1,fun h0=>?_⟩
        rw [decide_eq_true h0,Bool.true_and] at h2
        have:¬ ms.getD i 0 < ms.getD (i - 1) 0:=by simpa using h2
        omega
      · exact h3 j (by omega) hjl
    · intro h0
      have h1:=h0 i (Nat.le_refl _) (by omega)
      rw [hg] at h1
      refine ⟨⟨h1.1,?_⟩,fun j hj hjl=>h0 j (by omega) hjl⟩
      by_cases hi:0 < i
      · have:=h1.2 hi
        rw [decide_eq_true hi,Bool.true_and,decide_eq_false (by omega)]; rfl
      · rw [decide_eq_false hi,Bool.false_and]; rfl
theorem zBt {ms:List Int} {l:List Prt}:rightGo ms 0 l = true ↔ RightM l fun j=>ms.getD j 0:=by
  have h:=zEb (ms:=ms) (l:=l) l.length 0 (by omega)
  rw [List.drop_zero] at h
  rw [h]
  constructor
  · exact fun h=>⟨fun j hj=>(h j (Nat.zero_le _) hj).1,fun j h0 hj=>(h j (Nat.zero_le _) hj).2 h0⟩
  · exact fun h j _ hj=>⟨h.own j hj,fun h0=>h.up j h0 hj⟩
theorem zFY {l:List Prt} {m:Nat → Int} (h:RightM l m):∀ k,k < l.length → loU l (k + 1) ≤ max (-9999) (m k)
  | 0,hk=>by have:=(h.own 0 hk).1; simp only [loU]; omega
  | k + 1,hk=>by
    have h1:=zFY h k (by omega)
    have h2:=(h.own (k + 1) hk).1
    have h3:=h.up (k + 1) (by omega) hk
    simp only [Nat.add_sub_cancel] at h3
    rw [loU]
    omega
theorem zFS {l:List Prt} {m:Nat → Int} (h:RightM l m) {i:Nat}:∀ j,i + j ≤ l.length → i < l.length → min 9999 (m i) ≤ hiV l i j
  | 0,_,_=>by simp only [hiV]; omega
  | j + 1,hj,hi=>by
    have h1:=zFS h j (by omega) hi
    have h2:=(h.own (i + j) (by omega)).2
    have h3:=h.le (i:=i) (j:=i + j) (by omega) (by omega)
    rw [hiV]
    omega
theorem zCo {b:Brd} {l:List Prt} (hpo:∀ p ∈ l,PrtOK b p) {j:Nat} (hj:j < l.length):0 ≤ (l.getD j prt0).minute ∧ (l.getD j prt0).minute ≤ 600 ∧ 0 ≤ (l.getD j prt0).llo ∧ (l.getD j prt0).llo ≤ (l.getD j prt0).lhi ∧ (l.getD j prt0).lhi ≤ 60:=by
  obtain ⟨p,hp⟩:=zT hj
  have h2:=(hpo p (List.mem_of_getElem? hp)).mi
  have h3:=(hpo p (List.mem_of_getElem? hp)).la
  rw [zP hp]
  omega
theorem zB5 {l:List Prt} {i:Nat} (hi:i < l.length):(timL l l.length).getD i (0,0) = timI l i:=by
  unfold timL
  exact zP (by rw [List.getElem?_map,List.getElem?_range hi]; rfl)
theorem zD7 (l:List Prt):(timL l l.length).length = l.length:=by unfold timL; simp
theorem zGI (l:List Prt) (i:Nat):∀ j,hiV l i (j + 1) = min ((l.getD i prt0).minute - (l.getD i prt0).llo) (hiV l (i + 1) j)
  | 0=>by simp only [hiV,Nat.add_zero]; omega
  | j + 1=>by
    rw [hiV,zGI l i j,hiV,show i + (j + 1) = i + 1 + j by omega]
    omega
theorem zGR {l:List Prt} {j:Nat}:∀ k,j < k → (l.getD j prt0).minute - (l.getD j prt0).lhi ≤ loU l k
  | 0,h=>by omega
  | k + 1,h=>by
    rw [loU]
    by_cases e:j = k
    · subst e; omega
    · have:=zGR (l:=l) (j:=j) k (by omega); omega
theorem zGh {l:List Prt} {i k:Nat}:∀ j,i ≤ k → k < i + j → hiV l i j ≤ (l.getD k prt0).minute - (l.getD k prt0).llo
  | 0,h1,h2=>by omega
  | j + 1,h1,h2=>by
    rw [hiV]
    by_cases e:k = i + j
    · subst e; omega
    · have:=zGh (l:=l) (i:=i) (k:=k) j h1 (by omega); omega
theorem times_get {l:List Prt} (h:timesB l = true) {i:Nat} (hi:i < l.length):(timI l i).1 ≤ (timI l i).2:=by
  have:=List.all_eq_true.1 h i (List.mem_range.2 hi)
  simpa using this
/-- The lower bounds, and the upper ones, are right; both fit together. -/
theorem tim_mono {b : Brd} {l : List Prt} (hpo : ∀ p ∈ l, PrtOK b p) (ht : timesB l = true) {i : Nat} (hi : i < l.length) :
    ((l.getD i prt0).minute - (l.getD i prt0).lhi ≤ (timI l i).1 ∧ (timI l i).1 ≤ (timI l i).2 ∧ (timI l i).2 ≤ (l.getD i prt0).minute - (l.getD i prt0).llo) ∧ (0 < i → (timI l (i - 1)).1 ≤ (timI l i).1 ∧ (timI l (i - 1)).2 ≤ (timI l i).2):=by
  have h1:=times_get ht hi
  refine ⟨⟨zGR (i + 1) (by omega),h1,zGh (l.length - i) (Nat.le_refl _) (by omega)⟩,fun h0=>⟨?_,?_⟩⟩
  · obtain ⟨k,rfl⟩:∃ k,i = k + 1:=⟨i - 1,by omega⟩
    show loU l (k + 1 - 1 + 1) ≤ loU l (k + 1 + 1)
    have e:loU l (k + 1 + 1) = max (loU l (k + 1)) ((l.getD (k + 1) prt0).minute - (l.getD (k + 1) prt0).lhi):=rfl
    rw [show k + 1 - 1 + 1 = k + 1 by omega,e]
    omega
  · obtain ⟨k,rfl⟩:∃ k,i = k + 1:=⟨i - 1,by omega⟩
    show hiV l (k + 1 - 1) (l.length - (k + 1 - 1)) ≤ hiV l (k + 1) (l.length - (k + 1))
    rw [show k + 1 - 1 = k by omega,show l.length - k = l.length - (k + 1) + 1 by omega,zGI]
    omega
/-- How many sales were made by a minute. -/
def cntM (l:List Prt) (m:Nat → Int) (a:Int):Nat → Nat
  | 0=>0
  | n + 1=>if m n ≤ a then n + 1 else cntM l m a n
theorem zFN {l:List Prt} {m:Nat → Int} (h:RightM l m) (a:Int):∀ n,n ≤ l.length → cntM l m a n ≤ n ∧ ∀ j,j < n → (m j ≤ a ↔ j < cntM l m a n)
  | 0,_=>⟨Nat.le_refl _,fun j hj=>by omega⟩
  | n + 1,hn=>by
    have ih:=zFN h a n (by omega)
    unfold cntM
    by_cases e:m n ≤ a
    · rw [if_pos e]
      refine ⟨Nat.le_refl _,fun j hj=>⟨fun _=>hj,fun _=>?_⟩⟩
      have:=h.le (i:=j) (j:=n) (by omega) (by omega)
      omega
    · rw [if_neg e]
      refine ⟨by omega,fun j hj=>?_⟩
      by_cases e2:j = n
      · subst e2
        exact ⟨fun h2=>(e h2).elim,fun h2=>by omega⟩
      · exact ih.2 j (by omega)
/-- An order that came at a minute waits from the sales on that were made later. -/
theorem wait_of {b:Brd} {l:List Prt} {o:Ord} {m:Nat → Int} {a:Int} (hpo:∀ p ∈ l,PrtOK b p) (h:RightM l m) (ha:o.mlo ≤ a ∧ a ≤ o.mhi):waitsB o (timL l l.length) (cntM l m a l.length) = true:=by
  obtain ⟨h1,h2⟩:=zFN h a l.length (Nat.le_refl _)
  generalize cntM l m a l.length = c at h1 h2
  unfold waitsB
  rw [decide_eq_true_eq,zD7]
  have hlo:0 < c → ((timL l l.length).getD (c - 1) (0,0)).1 ≤ a:=fun h0=>by
    rw [zB5 (by omega)]
    have h3:=(h2 (c - 1) (by omega)).2 (by omega)
    have h4:=zFY h (c - 1) (by omega)
    have h5:=h.own (c - 1) (by omega)
    have h6:=zCo hpo (show c - 1 < l.length by omega)
    show loU l (c - 1 + 1) ≤ a
    omega
  have hhi:c < l.length → a ≤ ((timL l l.length).getD c (0,0)).2 - 1:=fun h0=>by
    rw [zB5 h0]
    have h3:a < m c:=Int.not_le.1 fun h4=>by have:=(h2 c h0).1 h4; omega
    have h4:=zFS h (i:=c) (l.length - c) (by omega) h0
    have h5:=h.own c h0
    have h6:=zCo hpo h0
    show a ≤ hiV l c (l.length - c) - 1
    omega
  cases hd:decide (0 < c) <;> cases hd2:decide (c < l.length) <;> simp only [cond_true,cond_false] <;> simp only [decide_eq_true_eq,decide_eq_false_iff_not] at hd hd2
  · omega
  · have:=hhi hd2; omega
  · have:=hlo hd; omega
  · have:=hlo hd; have:=hhi hd2; omega
/-- How an order is filled, in words. -/
theorem fill_go {fee : Int} {o : Ord} {a : Int} {ps ms : List Int} {l : List Prt} {fr : Nat} (hc : ∀ j, j < l.length → (ms.getD j 0 ≤ a ↔ j < fr)) : ∀ (n i : Nat), i + n = l.length → (∀ j, fr ≤ j → j < i → (l.getD j prt0).stock = o.stock → letsB fee o (ps.getD j 0) = false) →
    (∃ k,i ≤ k ∧ fillGo fee o a ps ms i (l.drop i) = (((k:Nat):Int),priceO fee o (ps.getD k 0)) ∧ HitP fee o l (fun j=>ps.getD j 0) fr k) ∨ (fillGo fee o a ps ms i (l.drop i) = (-1,0) ∧ MissP fee o l (fun j=>ps.getD j 0) fr)
  | 0,i,h,hb=>by
    obtain rfl:i = l.length:=by omega
    rw [List.drop_length]
    exact .inr ⟨rfl,fun j h1 h2 h3=>hb j h1 h2 h3⟩
  | n + 1,i,h,hb=>by
    obtain ⟨s,hs⟩:=zT (show i < l.length by omega)
    have hg:l.getD i prt0 = s:=zP hs
    have hci:=hc i (by omega)
    rw [zj hs,fillGo]
    cases ht:((s.stock == o.stock && decide (a < ms.getD i 0)) && letsB fee o (ps.getD i 0))
    · rw [cond_false]
      rcases fill_go hc n (i + 1) (by omega) (fun j h1 h2 h3=>by
        by_cases e:j = i
        · subst e
          have ha:a < ms.getD j 0:=Int.not_le.1 fun h4=>by have:=hci.1 h4; omega
          rw [← hg,h3,beq_self_eq_true,decide_eq_true ha,Bool.true_and,Bool.true_and] at ht
          exact ht
        · exact hb j h1 (by omega) h3) with ⟨k,hk,h1,h2⟩ | h1
      · exact .inl ⟨k,by omega,h1,h2⟩
      · exact .inr h1
    · rw [cond_true]
      simp only [Bool.and_eq_true_iff,beq_iff_eq,decide_eq_true_eq] at ht
      refine .inl ⟨i,Nat.le_refl _,rfl,?_,by omega,by rw [hg]; exact ht.1.1,ht.2,fun j h1 h2 h3=>hb j h1 h2 h3⟩
      rcases Nat.lt_or_ge i fr with h1 | h1
      · have:=hci.2 h1; omega
      · exact h1
theorem fill_is {fee : Int} {o : Ord} {a : Int} {ps ms : List Int} {l : List Prt} {fr : Nat} (hc : ∀ j, j < l.length → (ms.getD j 0 ≤ a ↔ j < fr)) :
    (∃ k:Nat,fillGo fee o a ps ms 0 l = ((k:Int),priceO fee o (ps.getD k 0)) ∧ HitP fee o l (fun j=>ps.getD j 0) fr k) ∨ (fillGo fee o a ps ms 0 l = (-1,0) ∧ MissP fee o l (fun j=>ps.getD j 0) fr):=by
  have h:=fill_go (fee:=fee) (o:=o) (ps:=ps) hc l.length 0 (by omega) (fun j _ h2=>by omega)
  rw [List.drop_zero] at h
  rcases h with ⟨k,_,h1,h2⟩ | h
  · exact .inl ⟨k,h1,h2⟩
  · exact .inr h
end Go.Proofs.YticlpkgpmmhemaaGreatDoor
namespace Go.Proofs.YticlpkgpmmhemaaGreatDoor
open Go.Proofs.Tryz
open Go.RowKit
set_option maxRecDepth 20000
set_option linter.all false
def comeB (os:List Ord) (ms:List Int):Nat → Bool
  | 0=>true
  | n + 1=>comeB os ms n && withinB (ms.getD n 0) (os.getD n ord0).mlo (os.getD n ord0).mhi
/-- Whether a truth is one of a desk whose tape is read. -/
def truthW (d:Dsk) (l:List Prt) (t:Tru):Bool:=bif !(proveI d.b d.tape t.prices) then false else bif (t.minutes.length:Int) != (l.length:Int) then false else bif (t.orders.length:Int) != (d.orders.length:Int) then false else rightGo t.minutes 0 l && comeB d.orders t.orders d.orders.length
theorem zBE {os:List Ord} {ms:List Int}:∀ {n:Nat},comeB os ms n = true ↔ ∀ j,j < n → (os.getD j ord0).mlo ≤ ms.getD j 0 ∧ ms.getD j 0 ≤ (os.getD j ord0).mhi
  | 0=>⟨fun _ j h=>by omega,fun _=>rfl⟩
  | n + 1=>by
    rw [comeB,Bool.and_eq_true_iff,zBE,zh]
    constructor
    · rintro ⟨h1,h2⟩ j hj
      by_cases e:j = n
      · subst e; exact h2
      · exact h1 j (by omega)
    · exact fun h=>⟨fun j hj=>h j (by omega),h n (by omega)⟩
/-- The minutes of the sales before i are right. -/
def rightU (ms:List Int) (l:List Prt):Nat → Bool
  | 0=>true
  | n + 1=>rightU ms l n && (withinB (ms.getD n 0) ((l.getD n prt0).minute - (l.getD n prt0).lhi) ((l.getD n prt0).minute - (l.getD n prt0).llo) && !(decide (0 < n) && decide (ms.getD n 0 < ms.getD (n - 1) 0)))
theorem zBl {ms:List Int} {l:List Prt}:∀ n,n ≤ l.length → (rightU ms l n && rightGo ms n (l.drop n)) = rightGo ms 0 l
  | 0,_=>by rw [List.drop_zero]; rfl
  | n + 1,h=>by
    rw [← zBl n (by omega)]
    obtain ⟨s,hs⟩:=zT (show n < l.length by omega)
    rw [zj hs,rightGo,rightU,zP hs,Bool.and_assoc]
theorem zC8 {ms:List Int} {l:List Prt}:rightU ms l l.length = rightGo ms 0 l:=by
  have h:=zBl (ms:=ms) (l:=l) l.length (Nat.le_refl _)
  rw [List.drop_length] at h
  rw [← h]
  show _ = (rightU ms l l.length && true)
  rw [Bool.and_true]
theorem zDj {ms:List Int} {l:List Prt} {n:Nat} (hn:n ≤ l.length) (h:rightU ms l n = false):rightGo ms 0 l = false:=by
  rw [← zBl n hn,h]; rfl
theorem zC3 {os:List Ord} {ms:List Int} {n:Nat} (h:comeB os ms n = false):∀ {k:Nat},n ≤ k → comeB os ms k = false
  | 0, hk => by obtain rfl : n = 0 := by omega
                exact h
  | k + 1,hk=>by
    by_cases e:n = k + 1
    · subst e; exact h
    · rw [comeB,zC3 h (k:=k) (by omega)]; rfl
theorem tru_no {d:Dsk} {l:List Prt} {tp tm to:List Int} (h:(!(proveI d.b d.tape tp) || (tm.length:Int) != (l.length:Int) || (to.length:Int) != (d.orders.length:Int)) = true):truthW d l ⟨tp,tm,to⟩ = false:=by
  unfold truthW
  simp only [Bool.or_eq_true_iff] at h
  dsimp only
  rcases h with (h | h) | h
  · rw [h]; rfl
  · rw [h]; cases !proveI d.b d.tape tp <;> rfl
  · rw [h]; cases !proveI d.b d.tape tp <;> cases (tm.length:Int) != (l.length:Int) <;> rfl
theorem zDp {d:Dsk} {l:List Prt} {tp tm to:List Int} (h1:(!(proveI d.b d.tape tp)) = false) (h2:((tm.length:Int) != (l.length:Int)) = false) (h3:((to.length:Int) != (d.orders.length:Int)) = false):truthW d l ⟨tp,tm,to⟩ = (rightGo tm 0 l && comeB d.orders to d.orders.length):=by
  unfold truthW
  dsimp only
  rw [h1,h2,h3]; rfl
theorem zFo {A B:Bool} {i:Nat}:((!A) || (decide ((0:Int) < (i:Int)) && B)) = !(A && !(decide (0 < i) && B)):=by
  rw [show decide ((0:Int) < (i:Int)) = decide (0 < i) by simp]
  cases A <;> cases B <;> cases decide (0 < i) <;> rfl
theorem truth4_ok (d:Dsk) (l:List Prt)(t:Tru)(hpo:∀ p ∈ l,PrtOK d.b p) (hl8:l.length ≤ 8) (hN:NamesOK d.b) (h5:d.tape.length ≤ 4294967000) (ho:d.orders.length ≤ 1000):PureAt Tryz.prog 86 [.ptr (wk4C d l),truD t] (.bool (truthW d l t)):=by
 refine Zp Tryz.func86 rfl fun Γ hn hl=>?_
 refine zD ?_
 obtain ⟨tp,tm,to⟩:=t
 dsimp only [truD,truE]
 refine zG (Zb 3 hn rfl fun b3=>Zt 1 [] hn rfl (Zv (zD (zD (zi (W:=fun b=>b ≠ b3) fmo ?_)))))
 refine Zy [0,1,2,3,4,5,6,7,8,9,10,11] [3] hn rfl (zB (Ze1 12 rfl hn rfl (ProveTruth_ok d.b d.tape tp hN h5) (d2_of_d1 (Zy [13,14,15,16,17,18,19,20,21,22,23,24,25,26,27,28,29,30,31,32,33,34,35,36] [3,3] hn rfl (zB (zg (by kernel_rfl) ?_))))))
 refine zA (zH rfl (fun hb0=>?_) (fun hb0=>?_))
 simp only [List.length_map] at hb0
 have q0:=tru_no hb0
 refine Zu (Zt 1 [] hn rfl (Zv (zJ (zC (zb (zY (.inl rfl) hl rfl (.tmp rfl)) ?_)))))
 rw [q0]
 simp only [List.length_map,Bool.or_eq_false_iff] at hb0
 obtain ⟨⟨q1,q2⟩,q3⟩:=hb0
 have hl1:tm.length = l.length:=by simp at q2; omega
 have hl2:to.length = d.orders.length:=by simp at q3; omega
 refine zI (zA (zD (Zu (Zt 6 [] hn rfl (Zv (zK (awp_loop_on (ι:={i:Nat // i ≤ l.length ∧ rightU tm l i = true}) (fun x=>(51,true,.d (.int .i64 (x.1:Nat))) :: anys [52,53,54,55,6,5,56,57,58,59,60,61,62,63,64,65,66,67,68,69,70,71,72,73,74,75,76,77,78,79,80,81,82,83,84,85,86,87,88,89,90,91,92,93]) (fun x=>gones [6]) (fun x=>l.length - x.1) ⟨0,Nat.zero_le _,rfl⟩ ⟨.inl rfl,zF _⟩ (zQ _) ?_)))))))
 rintro ⟨i,hi,hru⟩
 dsimp only
 refine Zu (Zt 1 [] hn rfl (Zv (zD (zH rfl (fun hb1=>?_) (fun hb1=>?_)))))
 have hil:i < l.length:=by simp at hb1; omega
 obtain ⟨p,hp⟩:=zT hil
 have hgp:l.getD i prt0 = p:=zP hp
 have hpk:=hpo p (List.mem_of_getElem? hp)
 have hmi:=hpk.mi
 have hla:=hpk.la
 obtain ⟨m1,hm1⟩:=zT (show i < tm.length by omega)
 obtain ⟨m0,hm0⟩:=zT (show i - 1 < tm.length by omega)
 refine zI (zA (zD (zK (Zu (Zt 1 [] hn rfl (Zi (i:=i) hn rfl rfl (mget hp) ?_))))))
 refine Zt 1 [] hn rfl (Zb 6 hn rfl fun b6=>Zt 2 [6] hn rfl (Zv (zD (zi (W:=fun b=>b ≠ b3 ∧ b ≠ b6) fmo ?_))))
 refine Zy [0,1,2] [3] hn rfl (Zd 3 rfl hn (q_index (i:=i) rfl rfl rfl underlying29 sz3 rfl (mget hm1)) ?_)
 refine Zy [4,5,6,7,8,9] [6,6] hn rfl (Zd 10 rfl hn (z7 rfl rfl rfl (r:=p.minute - p.lhi) (i64w (by omega) rfl)) ?_)
 refine Zy [11,12,13,14,15] [6,6] hn rfl (Zd 16 rfl hn (z7 rfl rfl rfl (r:=p.minute - p.llo) (i64w (by omega) rfl)) ?_)
 refine zB (Ze1 17 rfl hn rfl (yb _ _ _) (d2_of_d1 (Zy [18,19,20,21,22,23,24,25] [3] hn rfl ?_)))
 refine Zg 26 [(80,_),(81,_)] rfl (zS rfl rfl rfl) hn (fun hc=>⟨⟨_,rfl,hc⟩,⟨_,rfl,hc⟩,trivial⟩) (fun hc=>q_index (i:=i) rfl rfl rfl underlying29 sz3 rfl (mget hm1)) ?_
 refine Zy [27,28,29,30] [3] hn rfl ?_
 refine Zg 31 [(86,_)] rfl (zS rfl rfl rfl) hn (fun hc=>⟨⟨_,rfl,hc⟩,trivial⟩) (fun hc=>z7 rfl rfl rfl (r:=((i - 1:Nat):Int)) (i64w (by omega) (by have h0:0 < i:=(by simp at hc; omega); omega))) ?_
 refine Zg 32 [(85,_),(87,_)] rfl (zS rfl rfl rfl) hn (fun hc=>⟨⟨_,rfl,hc⟩,⟨_,rfl,hc⟩,trivial⟩) (fun hc=>q_index (i:=i - 1) rfl rfl rfl underlying29 sz3 rfl (mget hm0)) ?_
 refine Zy [33,34,35,36] [] hn rfl (zB (zg (by kernel_rfl) ?_))
 refine zA (zH rfl (fun hb2=>?_) (fun hb2=>?_))
 have q5:rightU tm l (i + 1) = false:=by rw [rightU,hru,hgp,zP hm1,zP hm0,Bool.true_and]; rw [zFo] at hb2; rw [Bool.not_eq_true'] at hb2; exact hb2
 refine Zu (Zt 1 [] hn rfl (Zv (zJ (zO (zC (zC (zO (zC (zb (zY (.inl rfl) hl rfl (.tmp rfl)) ?_)))))))))
 rw [zDp q1 q2 q3,zDj (by omega) q5]; rfl
 have q5:(withinB (tm.getD i 0) (p.minute - p.lhi) (p.minute - p.llo) && !(decide (0 < i) && decide (tm.getD i 0 < tm.getD (i - 1) 0))) = true:=by rw [zP hm1,zP hm0]; rw [zFo] at hb2; rw [Bool.not_eq_false'] at hb2; exact hb2
 refine zI (zN (zA (zG (Zs hn (za rfl rfl rfl (r:=((i + 1:Nat):Int)) (i64w (by omega) (by omega))) ?_))))
 refine Zt 1 [] hn rfl (zR ?_)
 exact Zr ⟨i + 1,by omega,by rw [rightU,hru,hgp,Bool.true_and]; exact q5⟩ ⟨.inl rfl,zF _⟩ (zQ _) (by simp only; omega)
 obtain rfl:i = l.length:=by simp at hb1; omega
 refine zV (zE (zE (zL (zA (zD (Zu (Zt 7 [] hn rfl (Zv (zK (awp_loop_on (ι:={i:Nat // i ≤ d.orders.length ∧ comeB d.orders to i = true}) (fun x=>(100,true,.d (.int .i64 (x.1:Nat))) :: anys [101,102,103,104,8,7,105,106,107,108,109,110,111,112,113,114]) (fun x=>gones [8]) (fun x=>d.orders.length - x.1) ⟨0,Nat.zero_le _,rfl⟩ ⟨.inl rfl,zF _⟩ (zQ _) ?_))))))))))
 rintro ⟨k,hk,hck⟩
 dsimp only
 refine Zu (Zt 1 [] hn rfl (Zv (zD (zH rfl (fun hb3=>?_) (fun hb3=>?_)))))
 have hkl:k < d.orders.length:=by simp at hb3; omega
 obtain ⟨o,hod⟩:=zT hkl
 obtain ⟨mo,hmo⟩:=zT (show k < to.length by omega)
 refine zI (zA (zD (zK (Zu (Zt 1 [] hn rfl (Zi (i:=k) hn rfl rfl (mget hod) ?_))))))
 refine Zt 1 [] hn rfl (Zb 8 hn rfl fun b8=>Zt 2 [8] hn rfl (Zv (zD (zi (W:=fun b=>b ≠ b3 ∧ b ≠ b8) fmo ?_))))
 refine Zy [0,1,2,3,4] [8,3] hn rfl (Zd 5 rfl hn (q_index (i:=k) rfl rfl rfl underlying29 sz3 rfl (mget hmo)) ?_)
 refine Zy [6] [] hn rfl (zB (Ze1 7 rfl hn rfl (rhas4_ok _ _ _) (d2_of_d1 (Zy [8] [] hn rfl (zB (zg (by kernel_rfl) ?_))))))
 refine zA (zH rfl (fun hb4=>?_) (fun hb4=>?_))
 have q6:comeB d.orders to (k + 1) = false:=by rw [comeB,hck,zP hmo,zP hod,Bool.true_and]; simpa using hb4
 refine Zu (Zt 1 [] hn rfl (Zv (zJ (zO (zC (zC (zO (zC (zb (zY (.inl rfl) hl rfl (.tmp rfl)) ?_)))))))))
 rw [zDp q1 q2 q3,zC3 q6 (by omega),Bool.and_false]
 refine zI (zN (zA (zG (Zs hn (za rfl rfl rfl (r:=((k + 1:Nat):Int)) (i64w (by omega) (by omega))) ?_))))
 refine Zt 1 [] hn rfl (zR ?_)
 exact Zr ⟨k + 1,by omega,by rw [comeB,hck,zP hmo,zP hod,Bool.true_and]; simpa using hb4⟩ ⟨.inl rfl,zF _⟩ (zQ _) (by simp only; omega)
 obtain rfl:k = d.orders.length:=by simp at hb3; omega
 refine zV (zE (zE (zL (zA (Zu (Zt 1 [] hn rfl (Zv (zJ (zb (zY (.inl rfl) hl rfl (.tmp rfl)) ?_)))))))))
 rw [zDp q1 q2 q3,hck,← zC8,hru]; rfl
/-- The first of some sales that fills an order. -/
def fillL (fee:Int) (o:Ord) (m:Int) (ps ms:List Int):List Nat → Int × Int
  | []=>(-1,0)
  | i :: r=>bif decide (m < ms.getD i 0) && letsB fee o (ps.getD i 0) then ((i:Nat),priceO fee o (ps.getD i 0)) else fillL fee o m ps ms r
theorem zFC {fee:Int} {o:Ord} {m:Int} {ps ms:List Int} {l:List Prt}:∀ (n i:Nat),i + n = l.length → fillL fee o m ps ms ((List.range' i n).filter fun j:Nat=>decide ((0:Int) ≤ (j:Int)) && ((l.getD j prt0).stock == o.stock)) = fillGo fee o m ps ms i (l.drop i)
  | 0,i,h=>by
    obtain rfl:i = l.length:=by omega
    rw [List.drop_length]; rfl
  | n + 1,i,h=>by
    obtain ⟨s,hs⟩:=zT (show i < l.length by omega)
    have hg:l.getD i prt0 = s:=zP hs
    rw [zj hs,fillGo,List.range'_succ,List.filter_cons,show decide ((0:Int) ≤ (i:Int)) = true by simp,Bool.true_and,hg,← zFC n (i + 1) (by omega)]
    cases hk:s.stock == o.stock
    · rfl
    · rw [if_pos rfl,fillL,Bool.true_and]
theorem fill_ofL {fee:Int} {o:Ord} {m:Int} {ps ms:List Int} {l:List Prt}:fillL fee o m ps ms (ofL l o.stock 0) = fillGo fee o m ps ms 0 l:=by
  have h:=zFC (fee:=fee) (o:=o) (m:=m) (ps:=ps) (ms:=ms) (l:=l) l.length 0 (by omega)
  rw [List.drop_zero] at h
  rw [← h]
  unfold ofL ofP
  rw [List.range_eq_range']
/-- The fills of all orders in a truth. -/
def fillsN (fee:Int) (l:List Prt) (t:Tru) (os:List Ord):Nat → List (Int × Int)
  | 0=>[]
  | n + 1=>fillsN fee l t os n ++ [fillGo fee (os.getD n ord0) (t.orders.getD n 0) t.prices t.minutes 0 l]
theorem yn {fee:Int} {l:List Prt} {t:Tru} {os:List Ord}:∀ n,(fillsN fee l t os n).length = n
  | 0=>rfl
  | n + 1=>by rw [fillsN,List.length_append,yn n]; rfl
def playI (d:Dsk) (t:Tru):List (Int × Int) × Int:=bif deskI d != 0 then ([],deskI d) else bif !(truthW d (readI d.b d.tape).1 t) then ([],2) else (fillsN d.fee (readI d.b d.tape).1 t d.orders d.orders.length,0)
theorem sz68:Sz Tryz.prog 68 2:=(by kernel_rfl:(Tryz.prog.info? 68).map (·.size) = some 2)
theorem fill4_eff (d:Dsk) (l:List Prt) (o:Ord) (m:Int)(t:Tru)(hf:0 ≤ d.fee ∧ d.fee ≤ 4)(hpb:∀ p ∈ t.prices,0 ≤ p ∧ p ≤ 1000) (hpl:t.prices.length = l.length) (hml:t.minutes.length = l.length) (hl8:l.length ≤ 8):EffAt Tryz.prog 87 [.d (.ptr (wk4C d l)),.d (ordD o),.d (.int .i64 m),.d (truD t)] [] (X:=Unit) (fun _=>.d (.agg (filE (fillGo d.fee o m t.prices t.minutes 0 l)))) (fun _=>[]):=by
 refine EffAt.of_awpM Tryz.func87 rfl (by kernel_rfl) rfl fun Γ hn=>?_
 refine zD ?_
 obtain ⟨tp,tm,to⟩:=t
 dsimp only [truD,truE]
 dsimp only at hpb hpl hml
 refine zG (Zb 4 hn rfl fun b4=>Zb 5 hn rfl fun b5=>Zb 6 hn rfl fun b6=>Zb 7 hn rfl fun b7=>Zb 8 hn rfl fun b8=>Zv (awp_scope (zD (zx (yB (t:=4) 4 rfl (nb hn rfl) rfl rfl trivial) ?_))))
 refine zx (yB (t:=5) 5 rfl (nb hn rfl) rfl rfl trivial) ?_
 refine zx (yB (t:=6) 6 rfl (nb hn rfl) rfl rfl trivial) ?_
 refine zx (yB (t:=7) 7 rfl (nb hn rfl) rfl rfl trivial) ?_
 refine zG (Zt 1 [] hn rfl (Zb 9 hn rfl fun b9=>Zt 1 [9] hn rfl (Zv (zD (awp_label (zA (zD (Zu (Zt 3 [] hn rfl (Zk hn rfl (zGU d l o.stock 0) (Zv (zK ?_))))))))))))
 refine awp_rangeFunc (ι:=Int × Int) (fun x=>[(9,.box b9 68 [.d (.int .i64 x.1),.d (.int .i64 x.2)])]) (fun j x=>x = (-1,0) ∧ fillL d.fee o m tp tm ((ofL l o.stock 0).drop j) = fillGo d.fee o m tp tm 0 l) (fun c x=>c = .exit 0 ∧ x = fillGo d.fee o m tp tm 0 l) (-1,0) (zFT d l o.stock 0 hl8) rfl zCu (by rw [hn]; rfl) (.inl rfl) ⟨rfl,trivial⟩ ⟨rfl,by rw [List.drop_zero,fill_ofL]⟩ (fun _=>rfl) (fun _=>rfl) rfl rfl ?_ ?_ ?_
 rintro l0 r0 Γr j0 x0 x hnr hrd hx0 hA0
 obtain ⟨rfl,hgo⟩:=hA0
 obtain ⟨i,hi,rfl,hil,_,hik⟩:=zD4 hx0
 obtain ⟨m1,hm1⟩:=zT (show i < tm.length by omega)
 obtain ⟨p1,hp1⟩:=zT (show i < tp.length by omega)
 have hpb1:=hpb p1 (List.mem_of_getElem? hp1)
 rw [zj hi,fillL,zP hm1,zP hp1] at hgo
 refine zq (ZtI 1 [] (hnr.trans hn) rfl (yA (aend_begin hrd rfl (yt (yF (zAf (W:=fun b=>True) fmo ?_))))))
 refine d1qI (i:=0) rfl (by kernel_rfl) rfl (fun _ _ _ _ h=>h) rfl rfl (hnr.trans hn) rfl (yU rfl rfl underlying56 rfl sz29 rfl) ?_
 refine d1qI (i:=1) rfl (by kernel_rfl) rfl (fun _ _ _ _ h=>h) rfl rfl (hnr.trans hn) rfl (yS rfl rfl underlying29 rfl seesFA) ?_
 refine d1qI (i:=2) rfl (by kernel_rfl) rfl (fun _ _ _ _ h=>h) rfl rfl (hnr.trans hn) rfl (yo rfl rfl) ?_
 refine d1qI (i:=3) rfl (by kernel_rfl) rfl (fun _ _ _ _ h=>h) rfl rfl (hnr.trans hn) rfl (q_index (i:=i) rfl rfl rfl underlying29 sz3 rfl (mget hm1)) ?_
 refine d1qI (i:=4) rfl (by kernel_rfl) rfl (fun _ _ _ _ h=>h) rfl rfl (hnr.trans hn) rfl (yS rfl rfl underlying3 rfl seesFA) ?_
 refine d1qI (i:=5) rfl (by kernel_rfl) rfl (fun _ _ _ _ h=>h) rfl rfl (hnr.trans hn) rfl (yS rfl rfl underlying3 rfl seesFA) ?_
 refine d1qI (i:=6) rfl (by kernel_rfl) rfl (fun _ _ _ _ h=>h) rfl rfl (hnr.trans hn) rfl (zGz rfl rfl rfl) ?_
 refine d1qI (i:=7) rfl (by kernel_rfl) rfl (fun _ _ _ _ h=>h) rfl rfl (hnr.trans hn) rfl (yo rfl rfl) ?_
 refine d1gI (i:=8) [] rfl (by kernel_rfl) rfl (fun _ _ _ _ h=>h) (zS rfl rfl rfl) rfl (hnr.trans hn) rfl (fun hc=>trivial) (fun hc=>yS rfl rfl underlying187 rfl seesFA) ?_
 refine d1gI (i:=9) [(25,_)] rfl (by kernel_rfl) rfl (fun _ _ _ _ h=>h) (zS rfl rfl rfl) rfl (hnr.trans hn) rfl (fun hc=>⟨⟨_,rfl,hc⟩,trivial⟩) (fun hc=>kq rfl rfl) ?_
 refine d1gI (i:=10) [(26,_)] rfl (by kernel_rfl) rfl (fun _ _ _ _ h=>h) (zS rfl rfl rfl) rfl (hnr.trans hn) rfl (fun hc=>⟨⟨_,rfl,hc⟩,trivial⟩) (fun hc=>yU rfl rfl underlying199 rfl sz51 rfl) ?_
 refine d1gI (i:=11) [(27,_)] rfl (by kernel_rfl) rfl (fun _ _ _ _ h=>h) (zS rfl rfl rfl) rfl (hnr.trans hn) rfl (fun hc=>⟨⟨_,rfl,hc⟩,trivial⟩) (fun hc=>yi rfl rfl underlying51 rfl sz51 rfl rfl seesFA) ?_
 refine d1gI (i:=12) [] rfl (by kernel_rfl) rfl (fun _ _ _ _ h=>h) (zS rfl rfl rfl) rfl (hnr.trans hn) rfl (fun hc=>trivial) (fun hc=>yi rfl rfl underlying152 rfl sz152 rfl rfl seesFA) ?_
 refine d1gI (i:=13) [] rfl (by kernel_rfl) rfl (fun _ _ _ _ h=>h) (zS rfl rfl rfl) rfl (hnr.trans hn) rfl (fun hc=>trivial) (fun hc=>yU rfl rfl underlying56 rfl sz29 rfl) ?_
 refine d1gI (i:=14) [(30,_)] rfl (by kernel_rfl) rfl (fun _ _ _ _ h=>h) (zS rfl rfl rfl) rfl (hnr.trans hn) rfl (fun hc=>⟨⟨_,rfl,hc⟩,trivial⟩) (fun hc=>yS rfl rfl underlying29 rfl seesFA) ?_
 refine d1gI (i:=15) [] rfl (by kernel_rfl) rfl (fun _ _ _ _ h=>h) (zS rfl rfl rfl) rfl (hnr.trans hn) rfl (fun hc=>trivial) (fun hc=>yo rfl rfl) ?_
 refine d1gI (i:=16) [(31,_),(32,_)] rfl (by kernel_rfl) rfl (fun _ _ _ _ h=>h) (zS rfl rfl rfl) rfl (hnr.trans hn) rfl (fun hc=>⟨⟨_,rfl,hc⟩,⟨_,rfl,hc⟩,trivial⟩) (fun hc=>q_index (i:=i) rfl rfl rfl underlying29 sz3 rfl (mget hp1)) ?_
 refine d1gI (i:=17) [(33,_)] rfl (by kernel_rfl) rfl (fun _ _ _ _ h=>h) (zS rfl rfl rfl) rfl (hnr.trans hn) rfl (fun hc=>⟨⟨_,rfl,hc⟩,trivial⟩) (fun hc=>yS rfl rfl underlying3 rfl seesFA) ?_
 refine yH ?_
 refine yl (i:=18) (by kernel_rfl) rfl ((s_call [(28,_),(29,_),(34,_)] (fun hc=>zDs d o p1 hf hpb1) rfl (zS rfl rfl rfl) rfl (nb (hnr.trans hn) rfl) (fun hc=>⟨⟨_,rfl,hc⟩,⟨_,rfl,hc⟩,⟨_,rfl,hc⟩,trivial⟩) rfl rfl (.refl _)).i rfl) fun _=>?_
 refine yT (d1qI (i:=19) rfl (by kernel_rfl) rfl (fun _ _ _ _ h=>h) rfl rfl (hnr.trans hn) rfl (zGy rfl rfl rfl (by intro hB; first | (rw [hB]; rfl) | (rw [hB,hc]; rfl) | simp_all)) ?_)
 refine yH (zAR (by kernel_rfl) ?_)
 refine zm (y1 rfl (fun hb0=>?_) (fun hb0=>?_))
 have q1:(decide (m < m1) && letsB d.fee o p1) = true:=hb0
 rw [q1,cond_true] at hgo
 refine yF (zAf (W:=fun b=>True) fmo ?_)
 refine d1qI (i:=0) rfl (by kernel_rfl) rfl (fun _ _ _ _ h=>h) rfl rfl (hnr.trans hn) rfl (yo rfl rfl) ?_
 refine d1qI (i:=1) rfl (by kernel_rfl) rfl (fun _ _ _ _ h=>h) rfl rfl (hnr.trans hn) rfl (yS rfl rfl underlying187 rfl seesFA) ?_
 refine d1qI (i:=2) rfl (by kernel_rfl) rfl (fun _ _ _ _ h=>h) rfl rfl (hnr.trans hn) rfl (kq rfl rfl) ?_
 refine d1qI (i:=3) rfl (by kernel_rfl) rfl (fun _ _ _ _ h=>h) rfl rfl (hnr.trans hn) rfl (yU rfl rfl underlying199 rfl sz51 rfl) ?_
 refine d1qI (i:=4) rfl (by kernel_rfl) rfl (fun _ _ _ _ h=>h) rfl rfl (hnr.trans hn) rfl (yi rfl rfl underlying51 rfl sz51 rfl rfl seesFA) ?_
 refine d1qI (i:=5) rfl (by kernel_rfl) rfl (fun _ _ _ _ h=>h) rfl rfl (hnr.trans hn) rfl (yi rfl rfl underlying152 rfl sz152 rfl rfl seesFA) ?_
 refine d1qI (i:=6) rfl (by kernel_rfl) rfl (fun _ _ _ _ h=>h) rfl rfl (hnr.trans hn) rfl (yU rfl rfl underlying56 rfl sz29 rfl) ?_
 refine d1qI (i:=7) rfl (by kernel_rfl) rfl (fun _ _ _ _ h=>h) rfl rfl (hnr.trans hn) rfl (yS rfl rfl underlying29 rfl seesFA) ?_
 refine d1qI (i:=8) rfl (by kernel_rfl) rfl (fun _ _ _ _ h=>h) rfl rfl (hnr.trans hn) rfl (yo rfl rfl) ?_
 refine d1qI (i:=9) rfl (by kernel_rfl) rfl (fun _ _ _ _ h=>h) rfl rfl (hnr.trans hn) rfl (q_index (i:=i) rfl rfl rfl underlying29 sz3 rfl (mget hp1)) ?_
 refine d1qI (i:=10) rfl (by kernel_rfl) rfl (fun _ _ _ _ h=>h) rfl rfl (hnr.trans hn) rfl (yS rfl rfl underlying3 rfl seesFA) ?_
 refine yH (yl (i:=11) (by kernel_rfl) rfl ((s_call [] (fun _=>zDU d o p1 hf hpb1) rfl (zz rfl) rfl (nb (hnr.trans hn) rfl) (fun _=>trivial) rfl rfl (.refl _)).i rfl) fun _=>?_)
 refine yT (d1qI (i:=12) rfl (by kernel_rfl) rfl (fun _ _ _ _ h=>h) rfl rfl (hnr.trans hn) rfl (ky rfl bt68 rfl rfl rfl rfl rfl) ?_)
 refine yH (yl (i:=13) (by kernel_rfl) rfl ((Zx 9 sz68).i rfl) fun _=>?_)
 refine yT (yH (zAR (by kernel_rfl) ?_))
 refine zm (zC5 (kX rfl ?_))
 exact aend_round_exit ((i:Nat),priceO d.fee o p1) ⟨rfl,hgo⟩ ⟨rfl,rfl,trivial⟩
 have q1:(decide (m < m1) && letsB d.fee o p1) = false:=hb0
 rw [q1,cond_false] at hgo
 refine y0 (zN ?_)
 exact yh (-1,0) ⟨rfl,hgo⟩ ⟨rfl,rfl,trivial⟩
 rintro x D0 hA0
 obtain ⟨rfl,hgo⟩:=hA0
 rw [zBA,List.drop_length,fillL] at hgo
 rw [← hgo]
 refine zN (zA (Zu (Zt 2 [9,8] hn rfl (Zv (zJ ?_)))))
 refine zCV ?_ (fun _ e=>by cases e)
 exact ret_M (.inl rfl) () (.inr rfl) (zy rfl (.d (.cellA rfl (id:=8) rfl underlying68 rfl sz68 rfl rfl))) trivial rfl
 rintro c0 x D0 hB0
 obtain ⟨rfl,hfin⟩:=hB0
 rw [← hfin]
 refine zV (zL (zA (Zu (Zt 2 [9,8] hn rfl (Zv (zJ ?_))))))
 refine zCV ?_ (fun _ e=>by cases e)
 exact ret_M (.inl rfl) () (.inr rfl) (zy rfl (.d (.cellA rfl (id:=8) rfl underlying68 rfl sz68 rfl rfl))) trivial rfl
/-- A truth of a desk whose tape is read, in words. -/
structure TruW (d:Dsk) (l:List Prt) (t:Tru):Prop where
  pl:t.prices.length = l.length
  tr:TruF d.b l 0 fun k=>t.prices.getD k 0
  ml:t.minutes.length = l.length
  rm:RightM l fun k=>t.minutes.getD k 0
  ol:t.orders.length = d.orders.length
  od:∀ j,j < d.orders.length → (d.orders.getD j ord0).mlo ≤ t.orders.getD j 0 ∧ t.orders.getD j 0 ≤ (d.orders.getD j ord0).mhi
theorem zCO {d:Dsk} {t:Tru} (h0:(readI d.b d.tape).2 = 0):truthW d (readI d.b d.tape).1 t = true ↔ TruW d (readI d.b d.tape).1 t:=by
  unfold truthW
  rw [prove_law,h0]
  constructor
  · intro h
    cases h1:isTruthB d.b (readI d.b d.tape).1 t.prices 0 <;> rw [h1] at h
    · cases h
    · cases h2:(t.minutes.length:Int) != ((readI d.b d.tape).1.length:Int) <;> rw [h2] at h
      · cases h3:(t.orders.length:Int) != (d.orders.length:Int) <;> rw [h3] at h
        · have h4:(rightGo t.minutes 0 (readI d.b d.tape).1 && comeB d.orders t.orders d.orders.length) = true:=h
          rw [Bool.and_eq_true_iff,zBt,zBE] at h4
          obtain ⟨h5,h6⟩:=zAZ.1 h1
          exact ⟨h5,h6,by simp at h2; omega,h4.1,by simp at h3; omega,h4.2⟩
        · cases h
      · cases h
  · rintro ⟨h1,h2,h3,h4,h5,h6⟩
    rw [zAZ.2 ⟨h1,h2⟩,show ((t.minutes.length:Int) != ((readI d.b d.tape).1.length:Int)) = false by simp [h3],show ((t.orders.length:Int) != (d.orders.length:Int)) = false by simp [h5],zBt.2 h4,zBE.2 h6]
    rfl
theorem TruW.pb {d:Dsk} {l:List Prt} {t:Tru} (h:TruW d l t):∀ p ∈ t.prices,0 ≤ p ∧ p ≤ 1000:=fun p hp=>by
  obtain ⟨i,hi⟩:=List.getElem?_of_mem hp
  have hil:=(List.getElem?_eq_some_iff.1 hi).1
  have:=(h.tr i (by have:=h.pl; omega)).bd
  rw [zP hi] at this
  omega
theorem y3 {d:Dsk} (h:deskI d = 0):(readI d.b d.tape).2 = 0 ∧ d.orders.length ≤ 5 ∧ (0 ≤ d.fee ∧ d.fee ≤ 4) ∧ ∀ o ∈ d.orders,ordB d.b o = true:=by
  unfold deskI at h
  cases h1:(readI d.b d.tape).2 != 0 <;> rw [h1] at h
  · cases h2:decide (5 < (d.orders.length:Int)) <;> rw [h2] at h
    · cases h3:!(withinB d.fee 0 4) || !(d.orders.all (ordB d.b)) <;> rw [h3] at h
      · simp only [Bool.or_eq_false_iff,Bool.not_eq_false'] at h3
        have h4:=zh.1 h3.1
        simp only [decide_eq_false_iff_not] at h2
        exact ⟨by simpa using h1,by omega,h4,fun o ho=>List.all_eq_true.1 h3.2 o ho⟩
      · cases h
    · cases h
  · rw [cond_true] at h
    rw [h] at h1; cases h1
theorem zEA {b:Brd} {o:Ord} (h:ordB b o = true):(0 ≤ o.stock ∧ o.stock < b.stocks.length) ∧ (1 ≤ o.number ∧ o.number ≤ 99) ∧ (0 ≤ o.limit ∧ o.limit ≤ 799) ∧ 0 ≤ o.mlo ∧ o.mlo ≤ o.mhi ∧ o.mhi ≤ 600:=by
  unfold ordB at h
  simp only [Bool.and_eq_true_iff,zh,decide_eq_true_eq] at h
  omega
theorem zCk {fee:Int} {l:List Prt} {t:Tru} {os:List Ord}:∀ {n i:Nat},i < n → (fillsN fee l t os n)[i]? = some (fillGo fee (os.getD i ord0) (t.orders.getD i 0) t.prices t.minutes 0 l)
  | 0,i,h=>by omega
  | n + 1,i,h=>by
    rw [fillsN]
    by_cases e:i = n
    · subst e
      rw [List.getElem?_append_right (by rw [yn]; exact Nat.le_refl _),yn,Nat.sub_self]; rfl
    · rw [List.getElem?_append_left (by rw [yn]; omega)]
      exact zCk (by omega)
theorem fill4_ok (d:Dsk) (l:List Prt) (o:Ord) (m:Int) (t:Tru) (hf:0 ≤ d.fee ∧ d.fee ≤ 4) (hpb:∀ p ∈ t.prices,0 ≤ p ∧ p ≤ 1000) (hpl:t.prices.length = l.length) (hml:t.minutes.length = l.length) (hl8:l.length ≤ 8):PureAt Tryz.prog 87 [.ptr (wk4C d l),ordD o,.int .i64 m,truD t] (.agg (filE (fillGo d.fee o m t.prices t.minutes 0 l))) :=
  PureAt.of_eff (ds:=[.ptr (wk4C d l),ordD o,.int .i64 m,truD t]) (fill4_eff d l o m t hf hpb hpl hml hl8)
theorem sz56:Sz Tryz.prog 56 3:=(by kernel_rfl:(Tryz.prog.info? 56).map (·.size) = some 3)
theorem elt53:ElT Tryz.prog 53 68 2 16:=kY underlying53 (z:=(.agg #[(.int .i64 0),(.int .i64 0)])) (by kernel_rfl) rfl (by decide)
theorem fills_add {fee:Int} {l:List Prt} {t:Tru} {os:List Ord} {i:Nat} {o:Ord} {m:Int} (h1:os.getD i ord0 = o) (h2:t.orders.getD i 0 = m):(fillsN fee l t os i).map filE ++ [filE (fillGo fee o m t.prices t.minutes 0 l)] = (fillsN fee l t os (i + 1)).map filE:=by
  rw [fillsN,List.map_append,h1,h2]; rfl
theorem Play4_ok (d:Dsk) (hN:NamesOK d.b) (h5:d.tape.length ≤ 4294967000) (ho:d.orders.length ≤ 1000)(t:Tru):PureAt Tryz.prog 24 [dskD d,truD t] (.tup [filsD (playI d t).1,.int .i64 (playI d t).2]):=by
 refine Zp Tryz.func24 rfl fun Γ hn hl=>?_
 refine Zu (Zb 2 hn rfl fun b2=>Zb 3 hn rfl fun b3=>Zt 2 [] hn rfl (Zv (zD ?_)))
 rcases hq:deskI d != 0 with _ | _
 have h0:deskI d = 0:=by simpa using hq
 obtain ⟨hr0,ho5,hf,hob⟩:=y3 h0
 obtain ⟨hpo,hl8⟩:=yf (b:=d.b) (s:=d.tape)
 refine zG (Zt 1 [2] hn rfl (Zk hn rfl ((by have h:=zCg d hN h5 ho; unfold opP at h; rw [hq] at h; exact h)) ?_))
 refine Zt 5 [] hn rfl (Zv (zD (zK (Zu (Zt 3 [] hn rfl (Zv (zH rfl (fun hb0=>?_) (fun hb0=>?_))))))))
 exact absurd hb0 (by rw [h0]; decide)
 refine Zu (Zt 2 [3] hn rfl (Zk hn rfl (truth4_ok d (readI d.b d.tape).1 t hpo hl8 hN h5 ho) (Zt 2 [] hn rfl (Zv (zH rfl (fun hb1=>?_) (fun hb1=>?_))))))
 have q1:(!(truthW d (readI d.b d.tape).1 t)) = true:=hb1
 refine Zu (Zt 2 [] hn rfl (Zv (zJ (zO (zC (zAK (yz (.inl rfl) hl rfl (.tmp rfl) (.tmp rfl)) ?_))))))
 unfold playI; rw [hq,q1]; exact .tup (.cons (.nil 2) (.refl _))
 have q1:(!(truthW d (readI d.b d.tape).1 t)) = false:=hb1
 have hw:=(zCO hr0).1 ((Bool.not_eq_false' (b:=truthW d (readI d.b d.tape).1 t)).mp q1)
 have hol:=hw.ol
 refine zI (zN (zA (Zu (Zt 1 [] hn rfl (Zv (zD (zD (zx (g_nil (t:=8) (id:=8) 68 2 rfl (nb hn rfl)) ?_))))))))
 refine zG (Zt 4 [2] hn rfl (Zv (zK (awp_loop_on (ι:={x:Nat × Value // x.1 ≤ d.orders.length}) (fun x=>(28,true,.d (.int .i64 (x.1.1:Nat))) :: (8,true,.val x.1.2) :: anys [29,30,31,32,10,9,33,34,35,36,37,38,39,40,41,42,43,44,45]) (fun x=>(8,.row x.1.2 68 2 ((fillsN d.fee (readI d.b d.tape).1 t d.orders x.1.1).map filE)) :: gones [10]) (fun x=>d.orders.length - x.1.1) ⟨(0,_),Nat.zero_le _⟩ ⟨.inl rfl,.inl rfl,zF _⟩ ⟨.inl rfl,zQ _⟩ ?_))))
 rintro ⟨⟨i,vv⟩,hi⟩
 dsimp only
 dsimp only at hi
 refine Zu (Zt 1 [] hn rfl (Zv (zD (zH rfl (fun hb2=>?_) (fun hb2=>?_)))))
 have hil:i < d.orders.length:=by simp at hb2; omega
 obtain ⟨o,hod⟩:=zT hil
 obtain ⟨mo,hto⟩:=zT (show i < t.orders.length by omega)
 refine zI (zA (zD (zK (Zu (Zt 1 [] hn rfl (Zi (i:=i) hn rfl rfl (mget hod) ?_))))))
 refine Zt 1 [] hn rfl (Zb 10 hn rfl fun b10=>Zt 2 [10] hn rfl (Zv (zi (W:=fun b=>b ≠ b3 ∧ b ≠ b10) fmo ?_)))
 refine Zy [0,1,2,3,4,5] [10,3] hn rfl (Zd 6 rfl hn (q_index (i:=i) rfl rfl rfl underlying29 sz3 rfl (mget hto)) ?_)
 refine Zy [7,8] [3] hn rfl (zB (Ze1 9 rfl hn rfl (fill4_ok d (readI d.b d.tape).1 o mo t hf hw.pb hw.pl hw.ml hl8) (d2_of_d1 (zB (Zo 10 rfl (zM rfl rfl rfl (nb hn rfl) underlying53 sz68 zr68 rfl rfl rfl (show _ = [.d (.int .i64 0),.d (.int .i64 0)] from by kernel_rfl) (by kernel_rfl) rfl rfl rfl rfl rfl) fun _=>?_)))))
 refine d2_of_d1 (zB (yI (i:=8) (j:=3) rfl rfl rfl (fun hne8_3=>?_)))
 refine yI (i:=8) (j:=10) rfl rfl rfl (fun hne8_10=>?_)
 refine Zo 11 rfl (s_append (id:=8) rfl rfl rfl (nb hn rfl) elt53 trivial rfl rfl rfl (by simp [chunk,yn]; omega) (by simp [chunk,yn]; omega) (fun b hb=>⟨fun e=>hne8_3 _ hb (congrArg some e.symm),fun e=>hne8_10 _ hb (congrArg some e.symm)⟩)) fun v44=>?_
 refine d2_of_d1 (Zy [12] [] hn rfl (zB (zg (by kernel_rfl) ?_)))
 refine zN (zA (zG (Zs hn (za rfl rfl rfl (r:=((i + 1:Nat):Int)) (i64w (by omega) (by omega))) ?_)))
 refine Zt 1 [] hn rfl (zR ?_)
 exact Zr ⟨(i + 1,v44),by simp only; omega⟩ ⟨.inl rfl,.inl rfl,zF _⟩ ⟨.inl (congrArg (fun z=>some (Res.row v44 68 2 z)) (fills_add (zP hod) (zP hto))),zQ _⟩ (by simp only; omega)
 obtain rfl:i = d.orders.length:=by simp at hb2; omega
 refine zV (zE (zE (zL (zA (Zu (Zt 3 [] hn rfl (Zv (zJ (yZ (g_row (t:=4) (id:=8) rfl rfl) ?_)))))))))
 refine zAK (yz (.inl rfl) hl rfl (.tmp rfl) (.tmp rfl)) ?_
 unfold playI; rw [hq,q1]; exact .refl _
 refine zG (Zt 1 [2] hn rfl (Zk hn rfl ((by have h:=zCg d hN h5 ho; unfold opP at h; rw [hq] at h; exact h)) ?_))
 refine Zt 5 [] hn rfl (Zv (zD (zK (Zu (Zt 3 [] hn rfl (Zv (zH rfl (fun hb3=>?_) (fun hb3=>?_))))))))
 refine Zu (Zt 3 [] hn rfl (Zv (zJ (zO (zC (zAK (yz (.inl rfl) hl rfl (.tmp rfl) (.tmp rfl)) ?_))))))
 unfold playI; rw [hq]; exact .tup (.cons (.nil 2) (.refl _))
 exact absurd hb3 (by rw [hq]; decide)
def fltI (d:Dsk):List Prt:=bif deskI d != 0 then [] else (readI d.b d.tape).1
theorem zGL {b:Brd} {o:Ord}:(((!(withinB o.stock 0 ((b.stocks.length:Int) - 1)) || !(withinB o.number 1 99)) || !(withinB o.limit 0 799)) || !(spansB o.mlo o.mhi 0 600)) = !(ordB b o):=by
  unfold ordB spansB
  cases withinB o.stock 0 ((b.stocks.length:Int) - 1) <;> cases withinB o.number 1 99 <;> cases withinB o.limit 0 799 <;> simp [Bool.and_assoc]
theorem read_chk {b:Brd} {s:List UInt8} (h:checkT b ≠ 0):(readI b s).2 = checkT b:=by
  unfold readI
  rw [show (checkT b != 0) = true by simpa using h]; rfl
theorem ord_bad {b:Brd} {l:List Ord} {i:Nat} {o:Ord} (h:l[i]? = some o) (ho:ordB b o = false):l.all (ordB b) = false:=by
  rw [Bool.eq_false_iff]
  intro h1
  rw [List.all_eq_true.1 h1 o (List.mem_of_getElem? h)] at ho; cases ho
theorem zGV {d:Dsk} (h:((readI d.b d.tape).2 != 0) = true):deskI d = (readI d.b d.tape).2 ∧ fltI d = []:=by
  have e:deskI d = (readI d.b d.tape).2:=by unfold deskI; rw [h]; rfl
  exact ⟨e,by unfold fltI; rw [e,h]; rfl⟩
theorem desk_2 {d:Dsk} (h:((readI d.b d.tape).2 != 0) = false) (h1:decide ((5:Int) < (d.orders.length:Int)) = true):deskI d = 3 ∧ fltI d = []:=by
  have e:deskI d = 3:=by unfold deskI; rw [h,h1]; rfl
  exact ⟨e,by unfold fltI; rw [e]; rfl⟩
theorem zGm {d:Dsk} (h:((readI d.b d.tape).2 != 0) = false) (h1:decide ((5:Int) < (d.orders.length:Int)) = false) (h2:(!(withinB d.fee 0 4) || !(d.orders.all (ordB d.b))) = true):deskI d = 1 ∧ fltI d = []:=by
  have e:deskI d = 1:=by unfold deskI; rw [h,h1,h2]; rfl
  exact ⟨e,by unfold fltI; rw [e]; rfl⟩
theorem desk_4 {d:Dsk} (h:((readI d.b d.tape).2 != 0) = false) (h1:decide ((5:Int) < (d.orders.length:Int)) = false) (h2:(!(withinB d.fee 0 4) || !(d.orders.all (ordB d.b))) = false):deskI d = 0 ∧ fltI d = (readI d.b d.tape).1:=by
  have e:deskI d = 0:=by unfold deskI; rw [h,h1,h2]; rfl
  exact ⟨e,by unfold fltI; rw [e]; rfl⟩
theorem sz27:Sz Tryz.prog 27 6:=(by kernel_rfl:(Tryz.prog.info? 27).map (·.size) = some 6)
theorem sz61:Sz Tryz.prog 61 6:=(by kernel_rfl:(Tryz.prog.info? 61).map (·.size) = some 6)
theorem Fault4_ok (d:Dsk) (hN:NamesOK d.b) (h5:d.tape.length ≤ 4294967000) (ho:d.orders.length ≤ 1000):PureAt Tryz.prog 62 [dskD d] (.tup [prtsD (fltI d),.int .i64 (deskI d)]):=by
 refine Zp Tryz.func62 rfl fun Γ hn hl=>?_
 refine Zu (Zb 1 hn rfl fun b1=>Zt 2 [] hn rfl (Zv (zD (Zu (Zt 2 [1] hn rfl (Zk hn rfl (zEr d.b hN) (Zt 1 [] hn rfl (Zv (Zu (Zt 2 [] hn rfl (Zv (zH rfl (fun hb0=>?_) (fun hb0=>?_)))))))))))))
 have q0:checkT d.b ≠ 0:=by simpa using hb0
 have qr:(readI d.b d.tape).2 = checkT d.b:=read_chk q0
 obtain ⟨e1,e2⟩:=zGV (d:=d) (by rw [qr]; simpa using q0)
 refine Zu (Zt 3 [] hn rfl (Zv (zJ (zC (zAK (yz (.inl rfl) hl rfl (.tmp rfl) (.tmp rfl)) ?_)))))
 rw [e1,e2,qr]; exact .tup (.cons (.nil 8) (.refl _))
 have q0:checkT d.b = 0:=by simpa using hb0
 have v:=(kV q0)
 have hn4:=v.n4
 have er:=zBW q0 d.tape
 refine zI (zA (Zu (Zt 4 [1,1] hn rfl (Zk hn rfl (refRead_ok d.b d.tape (by omega) h5) (Zt 5 [] hn rfl (Zv (zD (Zu (Zt 2 [] hn rfl (Zv (zH rfl (fun hb1=>?_) (fun hb1=>?_))))))))))))
 have q1:((readI d.b d.tape).2 != 0) = true:=by rw [← er]; exact hb1
 obtain ⟨e1,e2⟩:=zGV q1
 refine Zu (Zt 3 [] hn rfl (Zv (zJ (zC (zAK (yz (.inl rfl) hl rfl (.tmp rfl) (.tmp rfl)) ?_)))))
 rw [e1,e2,er]; exact .tup (.cons (.nil 8) (.refl _))
 have q1:((readI d.b d.tape).2 != 0) = false:=by rw [← er]; exact hb1
 refine zI (zA (zD (Zu (Zt 4 [1] hn rfl (Zv (zH rfl (fun hb2=>?_) (fun hb2=>?_)))))))
 have q2:decide ((5:Int) < (d.orders.length:Int)) = true:=by rw [List.length_map] at hb2; exact hb2
 obtain ⟨e1,e2⟩:=desk_2 q1 q2
 refine Zu (Zt 2 [] hn rfl (Zv (zJ (zC (zAK (yz (.inl rfl) hl rfl (.tmp rfl) (.tmp rfl)) ?_)))))
 rw [e1,e2]; exact .tup (.cons (.nil 8) (.refl _))
 have q2:decide ((5:Int) < (d.orders.length:Int)) = false:=by rw [List.length_map] at hb2; exact hb2
 have hol:d.orders.length ≤ 5:=by have:=of_decide_eq_false q2; omega
 refine zI (zA (zD (Zu (Zt 2 [1] hn rfl (Zk hn rfl (kS _ _ _) (Zt 1 [] hn rfl (Zv (zH rfl (fun hb3=>?_) (fun hb3=>?_)))))))))
 have q3:(!(withinB d.fee 0 4)) = true:=hb3
 obtain ⟨e1,e2⟩:=zGm q1 q2 (by rw [q3]; rfl)
 refine Zu (Zt 2 [] hn rfl (Zv (zJ (zC (zAK (yz (.inl rfl) hl rfl (.tmp rfl) (.tmp rfl)) ?_)))))
 rw [e1,e2]; exact .tup (.cons (.nil 8) (.refl _))
 have q3:(!(withinB d.fee 0 4)) = false:=hb3
 refine zI (zA (zD (Zu (Zt 1 [] hn rfl (Zv (zK (awp_loop_on (ι:={i:Nat // i ≤ d.orders.length ∧ (d.orders.take i).all (ordB d.b) = true}) (fun x=>(7,true,.d (.int .i64 (x.1:Nat))) :: anys [34,35,36,37,38,41,42,43,44,45,8,46,47,48,49,50,51,52,53,54,55,56,57,58,59,60,61,62,63,64,65,66,67,68,69,70,71,72,39,40]) (fun x=>gones [8]) (fun x=>d.orders.length - x.1) ⟨0,Nat.zero_le _,rfl⟩ ⟨.inl rfl,zF _⟩ (zQ _) ?_)))))))
 rintro ⟨i,hi,hall⟩
 dsimp only
 refine zD (Zu (Zt 5 [1] hn rfl (Zv (zH rfl (fun hb4=>?_) (fun hb4=>?_)))))
 have hil:i < d.orders.length:=by simp at hb4; omega
 obtain ⟨o,hod⟩:=zT hil
 refine zI (zA (zD (zK (Zu (Zt 3 [1] hn rfl (Zi (i:=i) hn rfl rfl (mget hod) ?_))))))
 refine Zt 1 [] hn rfl (Zb 8 hn rfl fun b8=>Zt 1 [8] hn rfl (Zv (Zu (Zt 6 [8,1] hn rfl (Zs hn (z7 rfl rfl rfl (r:=(d.b.stocks.length:Int) - 1) (by rw [List.length_map]; exact i64w (by omega) rfl)) ?_)))))
 refine Zk hn rfl (kS _ _ _) (Zt 4 [8] hn rfl (Zkg hn rfl (fun hc=>kS _ _ _) (Zt 5 [8] hn rfl (Zkg hn rfl (fun hc=>kS _ _ _) (Zt 5 [8] hn rfl (Zkg hn rfl (fun hc=>zF3 (o.mlo,o.mhi) 0 600) (Zt 2 [] hn rfl (Zv (zH rfl (fun hb5=>?_) (fun hb5=>?_))))))))))
 have q5:ordB d.b o = false:=by dsimp only at hb5; rw [zGL] at hb5; simpa using hb5
 obtain ⟨e1,e2⟩:=zGm q1 q2 (by rw [ord_bad hod q5,Bool.not_false,Bool.or_true])
 refine Zu (Zt 2 [] hn rfl (Zv (zJ (zO (zC (zC (zO (zC (zAK (yz (.inl rfl) hl rfl (.tmp rfl) (.tmp rfl)) ?_)))))))))
 rw [e1,e2]; exact .tup (.cons (.nil 8) (.refl _))
 have q5:ordB d.b o = true:=by dsimp only at hb5; rw [zGL] at hb5; simpa using hb5
 refine zI (zN (zA (zG (Zt 1 [] hn rfl (Zs hn (za rfl rfl rfl (r:=((i + 1:Nat):Int)) (i64w (by omega) (by omega))) ?_)))))
 refine Zt 1 [] hn rfl (zR ?_)
 exact Zr ⟨i + 1,by omega,yW hod hall q5⟩ ⟨.inl rfl,zF _⟩ (zQ _) (by simp only; omega)
 obtain rfl:i = d.orders.length:=by simp at hb4; omega
 rw [List.take_length] at hall
 obtain ⟨e1,e2⟩:=desk_4 q1 q2 (by rw [q3,hall]; rfl)
 refine zV (zE (zE (zL (zA (Zu (Zt 3 [] hn rfl (Zv (zJ (zAK (yz (.inl rfl) hl rfl (.tmp rfl) (.tmp rfl)) ?_)))))))))
 rw [e1,e2,er]; exact .refl _
theorem Right4_ok (b:Brd) (l:List Prt) (ms:List Int) (hpo:∀ p ∈ l,PrtOK b p) (hl8:l.length ≤ 8):PureAt Tryz.prog 114 [prtsD l,ints ms] (.bool (decide (ms.length = l.length) && rightGo ms 0 l)):=by
 refine Zp Tryz.func114 rfl fun Γ hn hl=>?_
 refine Zu (Zt 1 [] hn rfl (Zv (zD (Zu (Zt 5 [] hn rfl (Zv (zH rfl (fun hb0=>?_) (fun hb0=>?_))))))))
 have q0:ms.length ≠ l.length:=by simp at hb0; omega
 refine Zu (Zt 1 [] hn rfl (Zv (zJ (zC (zb (zY (.inl rfl) hl rfl (.tmp rfl)) ?_)))))
 rw [decide_eq_false q0]; rfl
 have q0:ms.length = l.length:=by simp at hb0; omega
 refine zI (zA (zD (Zu (Zt 1 [] hn rfl (Zv (zK (awp_loop_on (ι:={i:Nat // i ≤ l.length ∧ rightU ms l i = true}) (fun x=>(5,true,.d (.int .i64 (x.1:Nat))) :: anys [11,12,13,14,17,18,19,20,21,22,23,24,25,26,27,28,29,30,31,32,33,34,35,36,37,38,39,40,41,42,43,44,45,46,47,48,49,50,51,52,53,54,55,56,57,58,59,60,61,62,15,16]) (fun x=>[]) (fun x=>l.length - x.1) ⟨0,Nat.zero_le _,rfl⟩ ⟨.inl rfl,zF _⟩ trivial ?_)))))))
 rintro ⟨i,hi,hru⟩
 dsimp only
 refine zD (Zu (Zt 4 [] hn rfl (Zv (zH rfl (fun hb1=>?_) (fun hb1=>?_)))))
 have hil:i < l.length:=by simp at hb1; omega
 obtain ⟨p,hp⟩:=zT hil
 have hgp:l.getD i prt0 = p:=zP hp
 have hpk:=hpo p (List.mem_of_getElem? hp)
 have hmi:=hpk.mi
 have hla:=hpk.la
 obtain ⟨m1,hm1⟩:=zT (show i < ms.length by omega)
 obtain ⟨m0,hm0⟩:=zT (show i - 1 < ms.length by omega)
 refine zI (zA (zD (zK (zD (zi (W:=fun b=>True) fmo ?_)))))
 refine Zy [0,1] [] hn rfl (Zd 2 rfl hn (q_index (i:=i) rfl rfl rfl underlying29 sz3 rfl (mget hm1)) ?_)
 refine Zy [3,4,5] [] hn rfl (Zd 6 rfl hn (q_index (i:=i) rfl rfl rfl underlying109 sz139 rfl (mget hp)) ?_)
 refine Zy [7,8,9,10] [] hn rfl (Zd 11 rfl hn (q_index (i:=i) rfl rfl rfl underlying109 sz139 rfl (mget hp)) ?_)
 refine Zy [12,13,14] [] hn rfl (Zd 15 rfl hn (z7 rfl rfl rfl (r:=p.minute - p.lhi) (i64w (by omega) rfl)) ?_)
 refine Zy [16,17] [] hn rfl (Zd 18 rfl hn (q_index (i:=i) rfl rfl rfl underlying109 sz139 rfl (mget hp)) ?_)
 refine Zy [19,20,21,22] [] hn rfl (Zd 23 rfl hn (q_index (i:=i) rfl rfl rfl underlying109 sz139 rfl (mget hp)) ?_)
 refine Zy [24,25,26] [] hn rfl (Zd 27 rfl hn (z7 rfl rfl rfl (r:=p.minute - p.llo) (i64w (by omega) rfl)) ?_)
 refine zB (Ze1 28 rfl hn rfl (kS _ _ _) (d2_of_d1 (Zy [29,30,31,32,33,34,35] [] hn rfl ?_)))
 refine Zg 36 [(51,_),(52,_)] rfl (zS rfl rfl rfl) hn (fun hc=>⟨⟨_,rfl,hc⟩,⟨_,rfl,hc⟩,trivial⟩) (fun hc=>q_index (i:=i) rfl rfl rfl underlying29 sz3 rfl (mget hm1)) ?_
 refine Zy [37,38,39] [] hn rfl ?_
 refine Zg 40 [(56,_)] rfl (zS rfl rfl rfl) hn (fun hc=>⟨⟨_,rfl,hc⟩,trivial⟩) (fun hc=>z7 rfl rfl rfl (r:=((i - 1:Nat):Int)) (i64w (by omega) (by have h0:0 < i:=(by simp at hc; omega); omega))) ?_
 refine Zg 41 [(55,_),(57,_)] rfl (zS rfl rfl rfl) hn (fun hc=>⟨⟨_,rfl,hc⟩,⟨_,rfl,hc⟩,trivial⟩) (fun hc=>q_index (i:=i - 1) rfl rfl rfl underlying29 sz3 rfl (mget hm0)) ?_
 refine Zy [42,43,44,45] [] hn rfl (zB (zg (by kernel_rfl) ?_))
 refine zA (zH rfl (fun hb2=>?_) (fun hb2=>?_))
 have q5:rightU ms l (i + 1) = false:=by rw [rightU,hru,hgp,zP hm1,zP hm0,Bool.true_and]; rw [zFo] at hb2; rw [Bool.not_eq_true'] at hb2; exact hb2
 refine Zu (Zt 1 [] hn rfl (Zv (zJ (zO (zC (zC (zO (zC (zb (zY (.inl rfl) hl rfl (.tmp rfl)) ?_)))))))))
 rw [decide_eq_true q0,zDj (by omega) q5]; rfl
 have q5:(withinB (ms.getD i 0) (p.minute - p.lhi) (p.minute - p.llo) && !(decide (0 < i) && decide (ms.getD i 0 < ms.getD (i - 1) 0))) = true:=by rw [zP hm1,zP hm0]; rw [zFo] at hb2; rw [Bool.not_eq_false'] at hb2; exact hb2
 refine zI (zN (zA (zG (Zt 1 [] hn rfl (Zs hn (za rfl rfl rfl (r:=((i + 1:Nat):Int)) (i64w (by omega) (by omega))) ?_)))))
 refine Zt 1 [] hn rfl (zR ?_)
 exact Zr ⟨i + 1,by omega,by rw [rightU,hru,hgp,Bool.true_and]; exact q5⟩ ⟨.inl rfl,zF _⟩ trivial (by simp only; omega)
 obtain rfl:i = l.length:=by simp at hb1; omega
 refine zV (zE (zE (zL (zA (Zu (Zt 1 [] hn rfl (Zv (zJ (zb (zY (.inl rfl) hl rfl (.tmp rfl)) ?_)))))))))
 rw [decide_eq_true q0,← zC8,hru]; rfl
def isTB (d:Dsk) (l:List Prt) (t:Tru):Bool:=isTruthB d.b l t.prices 0 && (decide (t.minutes.length = l.length) && rightGo t.minutes 0 l) && decide (t.orders.length = d.orders.length) && comeB d.orders t.orders d.orders.length
theorem isT_no {d:Dsk} {l:List Prt} {tp tm to:List Int} (h:(!(isTruthB d.b l tp 0) || !(decide (tm.length = l.length) && rightGo tm 0 l) || (to.length:Int) != (d.orders.length:Int)) = true):isTB d l ⟨tp,tm,to⟩ = false:=by
  unfold isTB
  simp only [Bool.or_eq_true_iff,Bool.not_eq_true'] at h
  dsimp only
  rcases h with (h | h) | h
  · rw [h]; rfl
  · rw [h,Bool.and_false]; rfl
  · rw [decide_eq_false (show ¬ to.length = d.orders.length by simp at h; omega),Bool.and_false]; rfl
theorem zFm {d:Dsk} {l:List Prt} {tp tm to:List Int} (h1:isTruthB d.b l tp 0 = true) (h2:(decide (tm.length = l.length) && rightGo tm 0 l) = true) (h3:to.length = d.orders.length):isTB d l ⟨tp,tm,to⟩ = comeB d.orders to d.orders.length:=by
  unfold isTB
  dsimp only
  rw [h1,h2,decide_eq_true h3]; rfl
theorem isT_iff {d:Dsk} {l:List Prt} {t:Tru}:isTB d l t = true ↔ TruW d l t:=by
  unfold isTB
  rw [Bool.and_eq_true_iff,Bool.and_eq_true_iff,Bool.and_eq_true_iff,Bool.and_eq_true_iff,zAZ,zBt,zBE,decide_eq_true_eq,decide_eq_true_eq]
  exact ⟨fun ⟨⟨⟨⟨a,b⟩,c,e⟩,f⟩,g⟩=>⟨a,b,c,e,f,g⟩,fun ⟨a,b,c,e,f,g⟩=>⟨⟨⟨⟨a,b⟩,c,e⟩,f⟩,g⟩⟩
theorem IsT4_ok (d:Dsk) (l:List Prt) (t:Tru) (v:BrdOK d.b) (ho:d.orders.length ≤ 1000) (hpo:∀ p ∈ l,PrtOK d.b p) (hl8:l.length ≤ 8):PureAt Tryz.prog 55 [dskD d,prtsD l,truD t] (.bool (isTB d l t)):=by
 refine Zp Tryz.func55 rfl fun Γ hn hl=>?_
 refine zD ?_
 obtain ⟨tp,tm,to⟩:=t
 dsimp only [truD,truE]
 refine zG (Zb 3 hn rfl fun b3=>Zb 5 hn rfl fun b5=>Zt 1 [] hn rfl (Zv (zD (Zu (Zt 5 [3,5] hn rfl (Zk hn rfl (IsTruth_ok d.b l tp 0 v hpo (by omega) (by omega)) (Zt 5 [5] hn rfl (Zkg hn rfl (fun hc=>Right4_ok d.b l tm hpo hl8) (Zt 11 [5,3] hn rfl (Zv (zH rfl (fun hb0=>?_) (fun hb0=>?_))))))))))))
 simp only [List.length_map] at hb0
 have q0:=isT_no hb0
 refine Zu (Zt 1 [] hn rfl (Zv (zJ (zC (zb (zY (.inl rfl) hl rfl (.tmp rfl)) ?_)))))
 rw [q0]
 simp only [List.length_map,Bool.or_eq_false_iff,Bool.not_eq_false'] at hb0
 obtain ⟨⟨q1,q2⟩,q3⟩:=hb0
 have hl2:to.length = d.orders.length:=by simp at q3; omega
 refine zI (zA (zD (Zu (Zt 1 [] hn rfl (Zv (zK (awp_loop_on (ι:={i:Nat // i ≤ d.orders.length ∧ comeB d.orders to i = true}) (fun x=>(7,true,.d (.int .i64 (x.1:Nat))) :: anys [31,32,33,34,35,38,39,40,41,42,43,44,45,46,47,48,49,50,51,52,53,54,55,56,57,58,36,37]) (fun x=>[]) (fun x=>d.orders.length - x.1) ⟨0,Nat.zero_le _,rfl⟩ ⟨.inl rfl,zF _⟩ trivial ?_)))))))
 rintro ⟨k,hk,hck⟩
 dsimp only
 refine zD (Zu (Zt 5 [5] hn rfl (Zv (zH rfl (fun hb1=>?_) (fun hb1=>?_)))))
 have hkl:k < d.orders.length:=by simp at hb1; omega
 obtain ⟨o,hod⟩:=zT hkl
 obtain ⟨mo,hmo⟩:=zT (show k < to.length by omega)
 refine zI (zA (zD (zK (zD (zi (W:=fun b=>b ≠ b3 ∧ b ≠ b5) fmo ?_)))))
 refine Zy [0,1,2] [5] hn rfl (Zd 3 rfl hn (q_index (i:=k) rfl rfl rfl underlying29 sz3 rfl (mget hmo)) ?_)
 refine Zy [4,5,6,7] [3] hn rfl (Zd 8 rfl hn (q_index (i:=k) rfl rfl rfl underlying25 sz61 rfl (mget hod)) ?_)
 refine Zy [9,10,11,12,13,14] [3] hn rfl (Zd 15 rfl hn (q_index (i:=k) rfl rfl rfl underlying25 sz61 rfl (mget hod)) ?_)
 refine Zy [16,17,18] [] hn rfl (zB (Ze1 19 rfl hn rfl (kS _ _ _) (d2_of_d1 (Zy [20] [] hn rfl (zB (zg (by kernel_rfl) ?_))))))
 refine zA (zH rfl (fun hb2=>?_) (fun hb2=>?_))
 have q6:comeB d.orders to (k + 1) = false:=by rw [comeB,hck,zP hmo,zP hod,Bool.true_and]; simpa using hb2
 refine Zu (Zt 1 [] hn rfl (Zv (zJ (zO (zC (zC (zO (zC (zb (zY (.inl rfl) hl rfl (.tmp rfl)) ?_)))))))))
 rw [zFm q1 q2 hl2,zC3 q6 (by omega)]
 refine zI (zN (zA (zG (Zt 1 [] hn rfl (Zs hn (za rfl rfl rfl (r:=((k + 1:Nat):Int)) (i64w (by omega) (by omega))) ?_)))))
 refine Zt 1 [] hn rfl (zR ?_)
 exact Zr ⟨k + 1,by omega,by rw [comeB,hck,zP hmo,zP hod,Bool.true_and]; simpa using hb2⟩ ⟨.inl rfl,zF _⟩ trivial (by simp only; omega)
 obtain rfl:k = d.orders.length:=by simp at hb1; omega
 refine zV (zE (zE (zL (zA (Zu (Zt 1 [] hn rfl (Zv (zJ (zb (zY (.inl rfl) hl rfl (.tmp rfl)) ?_)))))))))
 rw [zFm q1 q2 hl2,hck]
theorem zBo (d:Dsk) (o:Ord) (p:Int) (hf:0 ≤ d.fee ∧ d.fee ≤ 4) (hp:0 ≤ p ∧ p ≤ 1000):PureAt Tryz.prog 27 [dskD d,ordD o,.int .i64 p] (.int .i64 (priceO d.fee o p)):=by
 refine Zp Tryz.func27 rfl fun Γ hn hl=>?_
 refine Zu (Zb 3 hn rfl fun b3=>Zb 4 hn rfl fun b4=>Zt 1 [] hn rfl (Zv (zD (Zu (Zt 2 [4] hn rfl (Zv (zH rfl (fun hb0=>?_) (fun hb0=>?_))))))))
 refine Zu (Zt 3 [3] hn rfl (Zs hn (za rfl rfl rfl (i64w (by omega) rfl)) ?_))
 refine Zt 1 [] hn rfl (Zv (zJ (zC ?_)))
 rotate_left
 refine zI (zA (Zu (Zt 3 [3] hn rfl (Zs hn (z7 rfl rfl rfl (i64w (by omega) rfl)) ?_))))
 refine Zs hn (yw rfl rfl rfl) ?_
 refine Zt 1 [] hn rfl (Zv (zJ ?_))
 rotate_left
 all_goals
  refine zb (zY (.inl rfl) hl rfl (.tmp rfl)) ?_
  unfold priceO; rw [hb0]; rfl
end Go.Proofs.YticlpkgpmmhemaaGreatDoor
namespace Go.Proofs.YticlpkgpmmhemaaGreatDoor
open Go.RowKit
set_option maxRecDepth 20000
set_option linter.all false
/-- What is known of a desk for sure. -/
structure SurH (d:Dsk) (l:List Prt) (mm:List (Int × Int)):Prop where
  hr:readI d.b d.tape = (l,0)
  hmi:minutesI d.b d.tape = (mm,0)
  dk:deskI d = 0
  v:BrdOK d.b
  po:∀ p ∈ l,PrtOK d.b p
  l8:l.length ≤ 8
  o5:d.orders.length ≤ 5
  fe:0 ≤ d.fee ∧ d.fee ≤ 4
  ob:∀ o ∈ d.orders,ordB d.b o = true
  mt:mm = timL l l.length
  tb:timesB l = true
  ex:∃ g,TruF d.b l 0 g
theorem zA3 {d:Dsk} {os:List Int} (h:sureO d os = 0):SurH d (readI d.b d.tape).1 (minutesI d.b d.tape).1 ∧ (∀ n ∈ os,0 ≤ n ∧ n < d.orders.length) ∧ sureP d os = .ptr (wk4C d (readI d.b d.tape).1):=by
  unfold sureO at h
  cases h1:deskI d != 0 <;> rw [h1] at h
  · have h0:deskI d = 0:=by simpa using h1
    obtain ⟨hr0,ho5,hf,hob⟩:=y3 h0
    cases h2:!(os.all fun n=>withinB n 0 ((d.orders.length:Int) - 1)) <;> rw [h2] at h
    · cases h3:(pricesI d.b d.tape).2 != 0 <;> rw [h3] at h
      · have hm:(minutesI d.b d.tape).2 = 0:=h
        have v:=ym hr0
        obtain ⟨hpo,hl8⟩:=yf (b:=d.b) (s:=d.tape)
        have h4:∀ n ∈ os,0 ≤ n ∧ n < d.orders.length:=fun n hn=>by
          have:=zh.1 (List.all_eq_true.1 (by simpa using h2:(os.all fun n=>withinB n 0 ((d.orders.length:Int) - 1)) = true) n hn)
          omega
        have h5:rightB (minI (readI d.b d.tape).1) = true ∧ (minutesI d.b d.tape).1 = minI (readI d.b d.tape).1:=by
          unfold minutesI at hm ⊢
          rw [show ((readI d.b d.tape).2 != 0) = false by simpa using hr0] at hm ⊢
          cases hq:rightB (minI (readI d.b d.tape).1) <;> rw [hq] at hm
          · cases hm
          · exact ⟨rfl,rfl⟩
        have h6:∃ g,TruF d.b (readI d.b d.tape).1 0 g:=by
          refine (yp (out:=[]) kL v hpo).1.1 ?_
          unfold pricesI at h3
          rw [show ((readI d.b d.tape).2 != 0) = false by simpa using hr0] at h3
          cases hl:levelsI d.b (readI d.b d.tape).1 [] with
          | some ms=>rfl
          | none=>rw [hl] at h3; cases h3
        refine ⟨⟨Prod.ext rfl hr0,Prod.ext rfl hm,h0,v,hpo,hl8,ho5,hf,hob,by rw [h5.2,zEn hpo],by rw [← zBa hpo]; exact h5.1,h6⟩,h4,?_⟩
        unfold sureP
        rw [h1,h2,h3]; rfl
      · rw [cond_true] at h
        rw [show (pricesI d.b d.tape).2 = 0 from h] at h3; cases h3
    · cases h
  · rw [cond_true] at h
    rw [show deskI d = 0 from h] at h1; cases h1
theorem SurH.ml {d:Dsk} {l:List Prt} {mm:List (Int × Int)} (h:SurH d l mm):mm.length = l.length:=by rw [h.mt,zD7]
theorem SurH.mb {d:Dsk} {l:List Prt} {mm:List (Int × Int)} (h:SurH d l mm):∀ x ∈ mm,-10000 ≤ x.1 ∧ x.1 ≤ 10000 ∧ -10000 ≤ x.2 ∧ x.2 ≤ 10000:=fun x hx=>by
  rw [h.mt] at hx
  obtain ⟨i,hi,rfl⟩:=List.mem_map.1 hx
  rw [List.mem_range] at hi
  have h1:=(tim_mono h.po h.tb hi).1
  have h2:=zCo h.po hi
  omega
theorem SurH.stk {d:Dsk} {l:List Prt} {mm:List (Int × Int)} (h:SurH d l mm) {o:Ord} (ho:ordB d.b o = true):∃ (k:Nat) (s:Stk),o.stock = (k:Nat) ∧ d.b.stocks[k]? = some s:=by
  have h1:=(zEA ho).1
  obtain ⟨s,hs⟩:=zT (show o.stock.toNat < d.b.stocks.length by omega)
  exact ⟨o.stock.toNat,s,by omega,hs⟩
theorem SurH.ok {d:Dsk} {l:List Prt} {mm:List (Int × Int)} (h:SurH d l mm) {o:Ord} (ho:ordB d.b o = true):OddOK d.b l o:=⟨h.v,h.po,(zEA ho).1,h.ex⟩
theorem zGc (d : Dsk) (l : List Prt) (mm : List (Int × Int)) (h : SurH d l mm) (hN : NamesOK d.b) (h5 : d.tape.length ≤ 4294967000) (o : Ord) (q : Nat) (ho : d.orders[q]? = some o) :
    EffAt Tryz.prog 83 [.d (.ptr (wk4C d l)),.d (.int .i64 (q:Nat))] [] (X:=Nat) (fun b=>.tup [.d (.ptr (askC d l o mm b)),.d (.int .i64 0)]) (fun b=>[(1060,mapRes KW b (cnM (canO d.b l d.fee o mm)))]):=by
  obtain ⟨k,s,hk,hs⟩:=h.stk (h.ob o (List.mem_of_getElem? ho))
  exact ask_eff d l o mm q ho h.hr h.hmi hN h5 h.fe d.b.jump.toNat (by have:=h.v.j0; omega) (by have:=h.v.j4; omega) h.l8 s k hk hs h.ml h.mb
theorem bnd_pk (d:Dsk) (l:List Prt) (o:Ord) (mm:List (Int × Int)) (b:Nat)(hf:0 ≤ d.fee ∧ d.fee ≤ 4):EffAt Tryz.prog 84 [.d (.ptr (askC d l o mm b))] [(1060,mapRes KW b (cnM (canO d.b l d.fee o mm)))] (X:=Unit) (fun _=>.tup [.d (rngD (bndI d.b l d.fee o mm).1),.d (.bool (bndI d.b l d.fee o mm).2)]) (fun _=>[(1060,mapRes KW b (cnM (canO d.b l d.fee o mm)))]) :=
  (bnd_eff d l o mm b hf (canO d.b l d.fee o mm)).imp (fun _=>()) (fun x=>by rw [bnd_uniq x.2 (zCC d.b l d.fee o mm)]) (fun _=>rfl)
def salesI (d:Dsk) (q:Int):List Int × Int:=bif sureO d [q] != 0 then ([],sureO d [q]) else (salesO d.b (readI d.b d.tape).1 d.fee (d.orders.getD q.toNat ord0) (minutesI d.b d.tape).1,0)
def boundsI (d:Dsk):List (Int × Int) × Int:=bif sureO d [] != 0 then ([],sureO d []) else (d.orders.map fun o=>(bndI d.b (readI d.b d.tape).1 d.fee o (minutesI d.b d.tape).1).1,0)
def verdsI (d:Dsk):List Int × Int:=bif sureO d [] != 0 then ([],sureO d []) else (d.orders.map fun o=>verdI d.b (readI d.b d.tape).1 d.fee o (minutesI d.b d.tape).1,0)
theorem cn_look {F:Nat → Int → Option Nat} {fr:Nat} {c:Int} {r:Option D} (h1:∀ d,r = some d → cnM F (waitD (fr:Nat) c) d) (h2:r = none → ∀ d,¬ cnM F (waitD (fr:Nat) c) d):r.getD (.agg (lvE 0)) = .agg (lvE ((F fr c).getD 0)) ∧ r.isSome = (F fr c).isSome:=by
  cases r with
  | none =>
    have:F fr c = none:=by
      cases h:F fr c with
      | none=>rfl
      | some m=>exact (h2 rfl _ ⟨fr,c,m,h,rfl,rfl⟩).elim
    rw [this]; exact ⟨rfl,rfl⟩
  | some d =>
    obtain ⟨f,c',m,h3,h4,rfl⟩:=h1 d rfl
    obtain ⟨e1,rfl⟩:=zAq h4
    obtain rfl:f = fr:=by omega
    rw [h3]; exact ⟨rfl,rfl⟩
theorem zDz {Γ:Cx} {P:Program} {σ:St} {fn:Func} {rv rv' rv2:ResultVar} {d d' d2:D} (h:fn.results = #[rv,rv',rv2]) (hr:ResT P σ rv (.d d)) (hr':ResT P σ rv' (.d d')) (hr2:ResT P σ rv2 (.d d2)):Hands Γ P fn σ (.d (.tup [d,d',d2])):=fun a w F hs=>by
  obtain ⟨v,h1,h2⟩:=hr.run hs
  obtain ⟨v',h1',h2'⟩:=hr'.run hs
  obtain ⟨v2,h12,h22⟩:=hr2.run hs
  exact ⟨.tuple #[v,v',v2],by rw [yX h]; simp [h1,h1',h12],[v,v',v2],rfl,v,[v',v2],rfl,h2,v',[v2],rfl,h2',v2,[],rfl,h22,rfl⟩
end Go.Proofs.YticlpkgpmmhemaaGreatDoor
namespace Go.Proofs.YticlpkgpmmhemaaGreatDoor
open Go.Proofs.Tryz
open Go.RowKit
set_option maxRecDepth 20000
set_option linter.all false
def salesU (b:Brd) (l:List Prt) (fee:Int) (o:Ord) (mm:List (Int × Int)) (i:Nat):List Int:=((List.range i).filter (saleB b l fee o mm)).map fun i:Nat=>(i:Int)
theorem salesU_t {b:Brd} {l:List Prt} {fee:Int} {o:Ord} {mm:List (Int × Int)} {i:Nat} (h:saleB b l fee o mm i = true):(salesU b l fee o mm i).map intE ++ [intE (i:Int)] = (salesU b l fee o mm (i + 1)).map intE:=by
  unfold salesU
  rw [List.range_succ,List.filter_append,List.filter_cons,h,if_pos rfl]; simp
theorem salesU_f {b:Brd} {l:List Prt} {fee:Int} {o:Ord} {mm:List (Int × Int)} {i:Nat} (h:saleB b l fee o mm i = false):salesU b l fee o mm i = salesU b l fee o mm (i + 1):=by
  unfold salesU
  rw [List.range_succ,List.filter_append,List.filter_cons,h]; simp
theorem salesU_len {b:Brd} {l:List Prt} {fee:Int} {o:Ord} {mm:List (Int × Int)} (i:Nat):(salesU b l fee o mm i).length ≤ i:=by
  unfold salesU
  rw [List.length_map]
  exact Nat.le_trans (List.length_filter_le _ _) (by rw [List.length_range]; exact Nat.le_refl _)
theorem any_hit {f:Nat → Bool} {i j:Nat} (hj:j < i) (h:f j = true):(List.range i).any f = true:=List.any_eq_true.2 ⟨j,List.mem_range.2 hj,h⟩
theorem any_succ {f:Nat → Bool} {j:Nat} (h:(List.range j).any f = false) (h1:f j = false):(List.range (j + 1)).any f = false:=by
  rw [List.range_succ,List.any_append,h]; simp [h1]
theorem elt46:ElT Tryz.prog 46 66 2 16:=kY underlying46 (z:=(.agg #[(.int .i64 0),(.int .i64 0)])) (by kernel_rfl) rfl (by decide)
theorem Sales4_eff (d:Dsk) (hN:NamesOK d.b) (h5:d.tape.length ≤ 4294967000) (ho:d.orders.length ≤ 1000) (q:Int):EffAt Tryz.prog 26 [.d (dskD d),.d (.int .i64 q)] [] (X:=Unit) (fun _=>.d (.tup [ints (salesI d q).1,.int .i64 (salesI d q).2])) (fun _=>[]):=by
 refine EffAt.of_awp Tryz.func26 rfl (by kernel_rfl) rfl fun Γ hn=>?_
 refine Zu (Zb 2 hn rfl fun b2=>Zt 2 [] hn rfl (Zv (Zu (Zt 2 [2] hn rfl (stepW (zM rfl rfl rfl (nb hn rfl) underlying29 sz3 zr3 rfl rfl rfl (show _ = [.d (.int .i64 0)] from by kernel_rfl) (by kernel_rfl) rfl rfl rfl rfl rfl) fun _=>?_)))))
 refine Zk hn rfl (zE7 d hN h5 ho [q] (by simp)) (Zt 5 [] hn rfl (Zv (zD (Zu (Zt 2 [] hn rfl (Zv (zH rfl (fun hb0=>?_) (fun hb0=>?_))))))))
 have q0:(sureO d [q] != 0) = true:=hb0
 have e1:salesI d q = ([],sureO d [q]):=by unfold salesI; rw [q0]; rfl
 rw [e1]
 refine Zu (Zt 3 [] hn rfl (Zv (zJ (zC ?_))))
 exact ret_E (.inl rfl) () ((zn rfl (.tmp rfl) (.tmp rfl)).le (.tup (.cons (.nil 1) (.refl _)))) trivial
 have q0:(sureO d [q] != 0) = false:=hb0
 obtain ⟨H,hq,hP⟩:=zA3 (show sureO d [q] = 0 by simpa using q0)
 rw [hP]
 have hqq:=hq q List.mem_cons_self
 obtain ⟨q,rfl⟩:∃ k:Nat,q = k:=⟨q.toNat,by omega⟩
 obtain ⟨o,hoq⟩:=zT (show q < d.orders.length by omega)
 have hl8:=H.l8
 have hob:=H.ob o (List.mem_of_getElem? hoq)
 have e1:salesI d (q:Nat) = (salesU d.b (readI d.b d.tape).1 d.fee o (minutesI d.b d.tape).1 (readI d.b d.tape).1.length,0):=by unfold salesI; rw [q0,Int.toNat_natCast,zP hoq]; rfl
 rw [e1]
 refine zI (zA (Zu (Zt 2 [] hn rfl (stepW (s_callE (zGc d _ _ H hN h5 o q hoq) rfl rfl rfl (nb hn rfl) (.d rfl) rfl (.refl _) trivial (fun _=>rfl) (fun _ _=>trivial)) fun bm=>?_))))
 refine Zt 5 [] hn rfl (Zv (zD (Zu (Zt 2 [] hn rfl (Zv (zH rfl (fun hb1=>?_) (fun hb1=>?_)))))))
 exact absurd hb1 (by decide)
 refine zI (zA (Zu (Zt 1 [] hn rfl (Zv (zD (zD (zx (g_nil (t:=9) (id:=9) 3 1 rfl (nb hn rfl)) ?_)))))))
 refine zG (Zt 6 [] hn rfl (Zv (zK (awp_loop_on (ι:={x:Nat × Value // x.1 ≤ (readI d.b d.tape).1.length}) (fun x=>(38,true,.d (.int .i64 (x.1.1:Nat))) :: (9,true,.val x.1.2) :: anys [39,40,10,41,42,43,44,45,11,47,48,49,50,51,52,53,54,46,55,56,12,13,57,58,59,60,61,62,63]) (fun x=>(9,.row x.1.2 3 1 ((salesU d.b (readI d.b d.tape).1 d.fee o (minutesI d.b d.tape).1 x.1.1).map intE)) :: gones [12]) (fun x=>(readI d.b d.tape).1.length - x.1.1) ⟨(0,_),Nat.zero_le _⟩ ⟨.inl rfl,.inl rfl,zF _⟩ ⟨.inl rfl,zQ _⟩ ?_))))
 rintro ⟨⟨i,vv⟩,hi⟩
 dsimp only
 dsimp only at hi
 refine Zu (Zt 1 [] hn rfl (Zv (zD (zH rfl (fun hb2=>?_) (fun hb2=>?_)))))
 have hil:i < (readI d.b d.tape).1.length:=by simp at hb2; omega
 have hul:=salesU_len (b:=d.b) (l:=(readI d.b d.tape).1) (fee:=d.fee) (o:=o) (mm:=(minutesI d.b d.tape).1) i
 refine zI (zA (zD (zK (Zu (Zt 2 [] hn rfl (Zv (Zu (Zt 1 [] hn rfl (Zs hn (za rfl rfl rfl (r:=((i + 1:Nat):Int)) (i64w (by omega) (by omega))) ?_)))))))))
 refine Zt 1 [] hn rfl (Zv (zK (awp_loop_on (ι:={j:Nat // j ≤ i + 1 ∧ ((List.range j).any fun fr=>(canO d.b (readI d.b d.tape).1 d.fee o (minutesI d.b d.tape).1 fr (i:Nat)).isSome) = false}) (fun x=>(43,true,.d (.int .i64 (x.1:Nat))) :: (9,true,.val vv) :: anys [44,45,11,47,48,49,50,51,52,53,54,46,55,56,12,13,57,58,59,60,61,62]) (fun x=>(9,.row vv 3 1 ((salesU d.b (readI d.b d.tape).1 d.fee o (minutesI d.b d.tape).1 i).map intE)) :: gones [12]) (fun x=>i + 1 - x.1) ⟨0,Nat.zero_le _,rfl⟩ ⟨.inl rfl,.inl rfl,zF _⟩ ⟨.inl rfl,zQ _⟩ ?_)))
 rintro ⟨j,hj,hno⟩
 dsimp only
 refine Zu (Zt 1 [] hn rfl (Zv (zD (zH rfl (fun hb3=>?_) (fun hb3=>?_)))))
 have hjl:j < i + 1:=by simp at hb3; omega
 refine zI (zA (zD (zK (Zu (Zt 2 [] hn rfl (Zv (Zu (Zt 7 [] hn rfl ?_))))))))
 refine stepW (zAa (id:=1060) (zd:=.agg (lvE 0)) rfl rfl rfl (nb hn rfl) zCd underlying202 zr200 zDw (.d rfl) rfl rfl (zDv (by omega) (by omega)) rfl) fun ⟨r,hr1,hr2⟩=>?_
 obtain ⟨hv1,hv2⟩:=cn_look hr1 hr2
 dsimp only [cond_true]
 rw [hv1,hv2]
 refine Zt 3 [] hn rfl (stepW (yM 12 rfl rfl rfl (nb hn rfl) zr200 zero800a zero800b) fun b12=>?_)
 refine stepW (zw rfl rfl rfl rfl rfl rfl (id:=12) rfl sz200 (zZ ((canO d.b (readI d.b d.tape).1 d.fee o (minutesI d.b d.tape).1 j (i:Nat)).getD 0)) (by rw [zZ]; decide) (yL ((canO d.b (readI d.b d.tape).1 d.fee o (minutesI d.b d.tape).1 j (i:Nat)).getD 0) (zZ _)) trivial) fun _=>?_
 refine Zt 1 [] hn rfl (Zv (Zu (Zt 1 [] hn rfl (Zv (zH rfl (fun hb4=>?_) (fun hb4=>?_))))))
 have hsb:saleB d.b (readI d.b d.tape).1 d.fee o (minutesI d.b d.tape).1 i = true:=any_hit hjl hb4
 refine Zu (Zt 2 [] hn rfl (stepW (zM rfl rfl rfl (nb hn rfl) underlying29 sz3 zr3 rfl rfl rfl (show _ = [.d (.int .i64 0)] from by kernel_rfl) (by kernel_rfl) rfl rfl rfl rfl rfl) fun _=>?_))
 refine stepW (s_append (id:=9) rfl rfl rfl (nb hn rfl) elt29 trivial rfl rfl rfl (by simp [chunk]; omega) (by simp [chunk]; omega) (fun b hb=>trivial)) fun v61=>?_
 refine Zt 1 [] hn rfl (Zv (zV (kX rfl (zE (zE (zL (zN (zA (zG (Zs hn (za rfl rfl rfl (r:=((i + 1:Nat):Int)) (i64w (by omega) (by omega))) ?_))))))))))
 refine Zt 1 [] hn rfl (zR ?_)
 exact Zr ⟨(i + 1,v61),by simp only; omega⟩ ⟨.inl rfl,.inl rfl,zF _⟩ ⟨.inl (congrArg (fun z=>some (Res.row v61 3 1 z)) (salesU_t hsb)),zQ _⟩ (by simp only; omega)
 have hnj:(canO d.b (readI d.b d.tape).1 d.fee o (minutesI d.b d.tape).1 j (i:Nat)).isSome = false:=hb4
 refine zI (zN (zA (zG (Zs hn (za rfl rfl rfl (r:=((j + 1:Nat):Int)) (i64w (by omega) (by omega))) ?_))))
 refine Zt 1 [] hn rfl (zR ?_)
 exact Zr ⟨j + 1,by omega,any_succ hno hnj⟩ ⟨.inl rfl,.inl rfl,zF _⟩ ⟨.inl rfl,zQ _⟩ (by simp only; omega)
 obtain rfl:j = i + 1:=by simp at hb3; omega
 have hsb:saleB d.b (readI d.b d.tape).1 d.fee o (minutesI d.b d.tape).1 i = false:=hno
 refine zV (zE (zE (zL (zN (zA (zG (Zs hn (za rfl rfl rfl (r:=((i + 1:Nat):Int)) (i64w (by omega) (by omega))) ?_)))))))
 refine Zt 1 [] hn rfl (zR ?_)
 exact Zr ⟨(i + 1,vv),by simp only; omega⟩ ⟨.inl rfl,.inl rfl,zF _⟩ ⟨.inl (congrArg (fun z:List Int=>some (Res.row vv 3 1 (z.map intE))) (salesU_f hsb)),zQ _⟩ (by simp only; omega)
 obtain rfl:i = (readI d.b d.tape).1.length:=by simp at hb2; omega
 refine zV (zE (zE (zL (zA (Zu (Zt 3 [] hn rfl (Zv (zJ (yZ (g_row (t:=4) (id:=9) rfl rfl) ?_)))))))))
 exact ret_E (.inl rfl) () (zn rfl (.tmp rfl) (.tmp rfl)) trivial
theorem Bounds4_eff (d:Dsk) (hN:NamesOK d.b) (h5:d.tape.length ≤ 4294967000) (ho:d.orders.length ≤ 1000):EffAt Tryz.prog 22 [.d (dskD d)] [] (X:=Unit) (fun _=>.d (.tup [rngsD (boundsI d).1,.int .i64 (boundsI d).2])) (fun _=>[]):=by
 refine EffAt.of_awp Tryz.func22 rfl (by kernel_rfl) rfl fun Γ hn=>?_
 refine Zu (Zb 1 hn rfl fun b1=>Zt 2 [] hn rfl (Zv (Zu (Zt 1 [1] hn rfl (stepW (s_call [] (fun _=>zE7 d hN h5 ho [] (by simp)) rfl (zz rfl) rfl (nb hn rfl) (fun _=>trivial) rfl rfl (by first | exact .refl _ | (repeat (first | exact .refl _ | exact .nil _ | refine .cons ?_ ?_ | refine .agg ?_ | refine .tup ?_)))) fun _=>?_)))))
 refine Zt 5 [] hn rfl (Zv (zD (Zu (Zt 2 [] hn rfl (Zv (zH rfl (fun hb0=>?_) (fun hb0=>?_)))))))
 have q0:(sureO d [] != 0) = true:=hb0
 have e1:boundsI d = ([],sureO d []):=by unfold boundsI; rw [q0]; rfl
 rw [e1]
 refine Zu (Zt 3 [] hn rfl (Zv (zJ (zC ?_))))
 exact ret_E (.inl rfl) () ((zn rfl (.tmp rfl) (.tmp rfl)).le (.tup (.cons (.nil 2) (.refl _)))) trivial
 have q0:(sureO d [] != 0) = false:=hb0
 obtain ⟨H,_,hP⟩:=zA3 (show sureO d [] = 0 by simpa using q0)
 rw [hP]
 have hl8:=H.l8
 have ho5:=H.o5
 have e1:boundsI d = (d.orders.map fun o=>(bndI d.b (readI d.b d.tape).1 d.fee o (minutesI d.b d.tape).1).1,0):=by unfold boundsI; rw [q0]; rfl
 rw [e1]
 refine zI (zA (Zu (Zt 1 [] hn rfl (Zv (zD (zD (zx (g_nil (t:=6) (id:=6) 66 2 rfl (nb hn rfl)) ?_)))))))
 refine zG (Zt 4 [1] hn rfl (Zv (zK (awp_loop_on (ι:={x:Nat × Value // x.1 ≤ d.orders.length}) (fun x=>(23,true,.d (.int .i64 (x.1.1:Nat))) :: (6,true,.val x.1.2) :: anys [24,25,7,27,28,29,26,30,31,8,9,32,33,36,37,35,38,39,10,11,40,41,42,43,44]) (fun x=>(6,.row x.1.2 66 2 (((d.orders.take x.1.1).map fun o=>(bndI d.b (readI d.b d.tape).1 d.fee o (minutesI d.b d.tape).1).1).map rngE)) :: gones [1060,10]) (fun x=>d.orders.length - x.1.1) ⟨(0,_),Nat.zero_le _⟩ ⟨.inl rfl,.inl rfl,zF _⟩ ⟨.inl rfl,zQ _⟩ ?_))))
 rintro ⟨⟨i,vv⟩,hi⟩
 dsimp only
 dsimp only at hi
 refine Zu (Zt 1 [] hn rfl (Zv (zD (zH rfl (fun hb1=>?_) (fun hb1=>?_)))))
 have hil:i < d.orders.length:=by simp at hb1; omega
 obtain ⟨o,hoq⟩:=zT hil
 refine zI (zA (zD (zK (Zu (Zt 2 [] hn rfl (Zv (Zu (Zt 2 [] hn rfl (stepW (s_callE (zGc d _ _ H hN h5 o i hoq) rfl rfl rfl (nb hn rfl) (.d rfl) rfl (.refl _) trivial (fun _=>rfl) (fun _ _=>trivial)) fun bm=>?_)))))))))
 refine Zt 5 [] hn rfl (Zv (zD (Zu (Zt 2 [] hn rfl (Zv (zH rfl (fun hb2=>?_) (fun hb2=>?_)))))))
 exact absurd hb2 (by decide)
 refine zI (zA (Zu (Zt 1 [] hn rfl ?_)))
 refine stepW (s_callE (bnd_pk d _ o _ bm H.fe) rfl rfl rfl (nb hn rfl) (.d rfl) rfl (.refl _) ⟨rfl,trivial⟩ (fun _=>rfl) (fun _ _=>trivial)) fun _=>?_
 refine Zt 3 [] hn rfl (Zb 10 hn rfl fun b10=>Zt 2 [10] hn rfl (Zv (zG (Zt 2 [10] hn rfl (stepW (zM rfl rfl rfl (nb hn rfl) underlying46 sz66 zr66 rfl rfl rfl (show _ = [.d (.int .i64 0),.d (.int .i64 0)] from by kernel_rfl) (by kernel_rfl) rfl rfl rfl rfl rfl) fun _=>?_)))))
 refine stepW (s_append (id:=6) rfl rfl rfl (nb hn rfl) elt46 trivial rfl rfl rfl (by simp [chunk]; omega) (by simp [chunk]; omega) (fun b hb=>trivial)) fun v43=>?_
 refine Zt 1 [] hn rfl (zR (zN (zA (zG (Zs hn (za rfl rfl rfl (r:=((i + 1:Nat):Int)) (i64w (by omega) (by omega))) ?_)))))
 refine Zt 1 [] hn rfl (zR ?_)
 exact Zr ⟨(i + 1,v43),by simp only; omega⟩ ⟨.inl rfl,.inl rfl,zF _⟩ ⟨.inl (congrArg (fun z=>some (Res.row v43 66 2 z)) (by rw [List.take_add_one,hoq]; simp; rfl)),zQ _⟩ (by simp only; omega)
 obtain rfl:i = d.orders.length:=by simp at hb1; omega
 rw [List.take_length]
 refine zV (zE (zE (zL (zA (Zu (Zt 3 [] hn rfl (Zv (zJ (yZ (g_row (t:=2) (id:=6) rfl rfl) ?_)))))))))
 exact ret_E (.inl rfl) () (zn rfl (.tmp rfl) (.tmp rfl)) trivial
theorem Sales4_ok (d:Dsk) (hN:NamesOK d.b) (h5:d.tape.length ≤ 4294967000) (ho:d.orders.length ≤ 1000) (q:Int):PureAt Tryz.prog 26 [dskD d,.int .i64 q] (.tup [ints (salesI d q).1,.int .i64 (salesI d q).2]):=PureAt.of_eff (ds:=[dskD d,.int .i64 q]) (Sales4_eff d hN h5 ho q)
theorem zCs (d:Dsk) (hN:NamesOK d.b) (h5:d.tape.length ≤ 4294967000) (ho:d.orders.length ≤ 1000):PureAt Tryz.prog 22 [dskD d] (.tup [rngsD (boundsI d).1,.int .i64 (boundsI d).2]):=PureAt.of_eff (ds:=[dskD d]) (Bounds4_eff d hN h5 ho)
end Go.Proofs.YticlpkgpmmhemaaGreatDoor
namespace Go.Proofs.YticlpkgpmmhemaaGreatDoor
open Go.RowKit
set_option maxRecDepth 20000
set_option linter.all false
/-- A wait with a price by which the order has a price. -/
structure GoodW (d:Dsk) (l:List Prt) (o:Ord) (mm:List (Int × Int)) (side:Int) (fr w p:Nat):Prop where
  ex:∃ m,canO d.b l d.fee o mm fr (w:Nat) = some m ∧ m.testBit p = true
  p8:p < 800
  pr:priceO d.fee o (p:Nat) = side
end Go.Proofs.YticlpkgpmmhemaaGreatDoor
namespace Go.Proofs.YticlpkgpmmhemaaGreatDoor
open Go.Proofs.Tryz
open Go.RowKit
set_option linter.all false
set_option maxRecDepth 20000
theorem eqveql66 (a b c e:Int) (w:World):(binOp .eql 66 (.agg #[.int .i64 a,.int .i64 b]) (.agg #[.int .i64 c,.int .i64 e])).run Tryz.prog w = .ok (.bool ((a == c && b == e))) w:=by
  have u3:=underlying3
  have a3:=isAgg3
  have z3:=sizeOf3
  have hS:Tryz.prog.underlying 66 = some (.struct (Tryz.prog.fieldsOf 66)):=by kernel_rfl
  have hp:Tryz.prog.stoodInHeld 66 = false:=by kernel_rfl
  rw [run_eql_struct,show (10000:Nat) = 9999 + 1 from rfl,run_equalIn_agg w 9999 66 _ _ hS hp]
  simp only [Program.fieldsOf,underlying66]
  go_simp
  by_cases h1:a = c <;> by_cases h2:b = e <;> simp [h1,h2]
theorem q_eql66 {Γ : Cx} {σ : St} {o : Oper} {R : Rel} {x y : Operand} {t' : TypeId} {a b c d : Int} (h : o.op = .binOp .eql 66 x y t') (hx : σ.ev x = some (true, .d (.agg [.int .i64 a, .int .i64 b]))) (hy : σ.ev y = some (true, .d (.agg [.int .i64 c, .int .i64 d]))) :
    QV Γ Tryz.prog σ o R (.d (.bool ((a == c && b == d)))):=fun A w F hs=>by
  obtain ⟨vs,e1,h1,_⟩:=hs.ev hx
  obtain ⟨us,e2,h2,_⟩:=hs.ev hy
  obtain ⟨v1,vs1,rfl,q1,v2,vs2,rfl,q2,q3⟩:=h1
  obtain ⟨u1,us1,rfl,p1,u2,us2,rfl,p2,p3⟩:=h2
  simp only [Rep,RepVals] at q1 q2 q3 p1 p2 p3
  subst q1 q2 q3 p1 p2 p3
  exact ⟨.bool ((a == c && b == d)),rfl,fun w' _=>by
    simp only [execOp,h,e1,e2,Sem.run_bind,run_eqGuard_agg w' .eql 66 x y _ _ (show Tryz.prog.eqGuardType Tryz.prog.depth 66 = false by kernel_rfl),Result.andThen_ok,eqveql66,Sem.run_pure]⟩
theorem eqvneq66 (a b c e:Int) (w:World):(binOp .neq 66 (.agg #[.int .i64 a,.int .i64 b]) (.agg #[.int .i64 c,.int .i64 e])).run Tryz.prog w = .ok (.bool (!(a == c && b == e))) w:=by
  have u3:=underlying3
  have a3:=isAgg3
  have z3:=sizeOf3
  have hS:Tryz.prog.underlying 66 = some (.struct (Tryz.prog.fieldsOf 66)):=by kernel_rfl
  have hp:Tryz.prog.stoodInHeld 66 = false:=by kernel_rfl
  rw [run_neq_struct,show (10000:Nat) = 9999 + 1 from rfl,run_equalIn_agg w 9999 66 _ _ hS hp]
  simp only [Program.fieldsOf,underlying66]
  go_simp
  by_cases h1:a = c <;> by_cases h2:b = e <;> simp [h1,h2]
theorem q_neq66 {Γ : Cx} {σ : St} {o : Oper} {R : Rel} {x y : Operand} {t' : TypeId} {a b c d : Int} (h : o.op = .binOp .neq 66 x y t') (hx : σ.ev x = some (true, .d (.agg [.int .i64 a, .int .i64 b]))) (hy : σ.ev y = some (true, .d (.agg [.int .i64 c, .int .i64 d]))) :
    QV Γ Tryz.prog σ o R (.d (.bool (!(a == c && b == d)))):=fun A w F hs=>by
  obtain ⟨vs,e1,h1,_⟩:=hs.ev hx
  obtain ⟨us,e2,h2,_⟩:=hs.ev hy
  obtain ⟨v1,vs1,rfl,q1,v2,vs2,rfl,q2,q3⟩:=h1
  obtain ⟨u1,us1,rfl,p1,u2,us2,rfl,p2,p3⟩:=h2
  simp only [Rep,RepVals] at q1 q2 q3 p1 p2 p3
  subst q1 q2 q3 p1 p2 p3
  exact ⟨.bool (!(a == c && b == d)),rfl,fun w' _=>by
    simp only [execOp,h,e1,e2,Sem.run_bind,run_eqGuard_agg w' .neq 66 x y _ _ (show Tryz.prog.eqGuardType Tryz.prog.depth 66 = false by kernel_rfl),Result.andThen_ok,eqvneq66,Sem.run_pure]⟩
end Go.Proofs.YticlpkgpmmhemaaGreatDoor
namespace Go.Proofs.YticlpkgpmmhemaaGreatDoor
open Go.Proofs.Tryz
open Go.RowKit
set_option maxRecDepth 20000
set_option linter.all false
theorem s_appendN {Γ : Cx} {P : Program} {σ : St} {ops : Array Oper} {o : Oper} {W : Nat → Prop} {x y : Operand} {t e : TypeId} {sz bytes id dt : Nat} {fs : List (List D)} (h : o.op = .call { callee := .builtin .append, args := #[x, y], argTypes := #[t, t] })
    (hg:o.guard = none) (hd:o.dst = some dt) (hn:Nat.blt dt Γ.n = true) (hT:ElT P t e sz bytes)
    (hx:σ.ev x = some (true,.d .nil)) (hy:σ.ev y = some (true,.d (.slice sz fs)))
    (hb:(0 + fs.length) * bytes ≤ 140737488355328) (h63:0 + fs.length ≤ 9223372036854775807) :
    StepW Γ P ops σ o W fun v'=>(σ.put dt true (.val v')).rput id (.row v' e sz fs):=fun a w F hs K Q hK=>by
  rw [if_pos (zr hg a)]
  have hx':a.eval x = .slice none 0 0:=hs.ev hx
  have hu:=hs.ev hy
  have hrow:RowOK F w Γ.own (.slice none 0 0) e sz []:=.inl ⟨rfl,rfl⟩
  obtain ⟨v',w',F',hrun,hrow',hcase⟩:=zDA (ty:=o.type) hT hs.fcell (fun b hb=>.inl (Nat.le_trans hs.hsize hb)) hrow hu hb h63
  have hex:(execOp a.eval o).run P w = .ok (.value v') w':=by
    simp [execOp,h,resolve,invoke,builtin,hx',hrun]
  unfold Oper.wp
  rw [hex]
  show K (a.put o.dst _) _
  rw [hd]
  have hfin:RS Γ (σ.rput id (.row v' e sz fs)) a w' F':=by
    rcases hcase with ⟨e1,hgr,hnew⟩ | ⟨e1,hgr⟩
    · exact (hs.grow hgr).rput hrow' (fun b hb'=>by rw [Res.has,e1] at hb'; simp [Value.ownBlock] at hb')
    · refine (hs.grow hgr).rput hrow' (fun b hb' j r' _ hj e2=>?_)
      rw [Res.has,e1] at hb'
      cases hb'
      exact Nat.lt_irrefl _ (y2 (hs.rs j r' hj) e2)
  have hg2:∃ but,Grow F F' w w' but ∧ ∀ b,but = some b → W b:=by
    rcases hcase with ⟨_,hgr,_⟩ | ⟨_,hgr⟩
    · exact ⟨_,hgr,fun _ e=>by simp [Value.ownBlock] at e⟩
    · exact ⟨_,hgr,fun _ e=>by cases e⟩
  obtain ⟨but,hg2,hg3⟩:=hg2
  exact hK v' _ _ F' (hfin.put (yJ hn) (fun _=>rfl) (fun h=>by cases h)) hg2.ext hg2.size (hg2.agree hg3)
theorem addO {α:Type} {f:α → List D} {l:List α} {i:Nat} {x:α} (h:l[i]? = some x):(l.take i).map f ++ [f x] = (l.take (i + 1)).map f:=by rw [← zDH h,List.map_append]; rfl
theorem sz31:Sz Tryz.prog 31 3:=(by kernel_rfl:(Tryz.prog.info? 31).map (·.size) = some 3)
theorem elt49:ElT Tryz.prog 49 152 6 48:=kY underlying49 (z:=(.agg #[(.bool false),(.int .i64 0),(.int .i64 0),(.int .i64 0),(.int .i64 0),(.int .i64 0)])) (by kernel_rfl) rfl (by decide)
theorem zCw (l:List Int) (h5:l.length ≤ 1000000):PureAt Tryz.prog 60 [ints l] (ints l):=by
 refine Zp Tryz.func60 rfl fun Γ hn hl=>?_
 refine Zu ?_
 refine Zt 1 [] hn rfl ?_
 refine Zv (Zu ?_)
 refine Zt 1 [] hn rfl ?_
 refine stepW (s_appendN (id:=4) rfl rfl rfl (nb hn rfl) elt29 rfl rfl (by simp [chunk]; omega) (by simp [chunk]; omega)) fun v4=>?_
 refine Zt 1 [] hn rfl ?_
 refine Zv (zJ ?_)
 refine yZ (g_row (t:=2) (id:=4) rfl rfl) ?_
 refine zb (zY (.inl rfl) hl rfl (.tmp rfl)) ?_
 rfl
theorem zCx (d:Dsk) (h5:d.b.stocks.length ≤ 1000) (ho:d.orders.length ≤ 1000):PureAt Tryz.prog 23 [dskD d] (dskD d):=by
 refine Zp Tryz.func23 rfl fun Γ hn hl=>?_
 refine Zu (Zb 1 hn rfl fun b1=>Zb 2 hn rfl fun b2=>Zv (zD (zi (W:=fun b=>b ≠ b1) fmo ?_)))
 refine Zy [0,1,3,4,5,6] [1,1,1] hn rfl (zB ?_)
 refine zf 2 [8] (by kernel_rfl) ⟨?_,?_,trivial⟩
 refine br rfl (Zc hn (zDC d.b h5)) fun _=>?_
 refine d2_of_d1 (Zy [7] [] hn rfl (zB (Zo 8 rfl (yM 3 rfl rfl rfl (nb hn rfl) zr51 rfl rfl) fun b3=>?_)))
 refine d2_of_d1 (zB (yI (i:=3) (j:=1) rfl rfl rfl (fun hne3_1=>?_)))
 refine Zo 9 rfl (zw rfl rfl rfl rfl rfl rfl (id:=3) rfl sz51 rfl (Nat.le_of_ble_eq_true rfl) rfl (fun e=>hne3_1 _ rfl (congrArg some e.symm))) fun _=>?_
 refine d2_of_d1 (zB (zg (by kernel_rfl) ?_))
 refine zA (zD (zD (zx (gh_nilcell (id:=3) (k:=5) 1040 152 6 rfl rfl) ?_)))
 refine zG (Zt 1 [] hn rfl (Zv (zK (awp_loop_on (ι:={x:Nat × Value // x.1 ≤ d.orders.length}) (fun x=>(4,true,.d (.int .i64 (x.1.1:Nat))) :: anys [14,15,16,17,18,21,22,23,24,25,5,26,27,28,29,30,31,32,33,34,35,36,37,38,39,40,41,42,43,44,45,46,19,20]) (fun x=>(3,.box b3 51 [.d (stksD d.b.stocks),.d (.int .i64 d.b.jump),.d (.int .i64 d.b.small),.d (strD d.tape),.d (.int .i64 d.fee),.val x.1.2]) :: (1040,.row x.1.2 152 6 ((d.orders.take x.1.1).map ordE)) :: gones [5]) (fun x=>d.orders.length - x.1.1) ⟨(0,_),Nat.zero_le _⟩ ⟨.inl rfl,zF _⟩ ⟨.inl rfl,.inl rfl,zQ _⟩ ?_))))
 rintro ⟨⟨i,vv⟩,hi⟩
 dsimp only
 dsimp only at hi
 refine zD (Zu (Zt 5 [1] hn rfl (Zv (zH rfl (fun hb0=>?_) (fun hb0=>?_)))))
 have hil:i < d.orders.length:=by simp at hb0; omega
 obtain ⟨o,hod⟩:=zT hil
 refine zI (zA (zD (zK (Zu (Zt 3 [1] hn rfl (Zi (i:=i) hn rfl rfl (mget hod) ?_))))))
 refine Zt 1 [] hn rfl (Zb 5 hn rfl fun b5=>Zt 1 [5] hn rfl (Zv (zG (Zt 18 [3,5,5,5,5,5,5] hn rfl (stepW (zM rfl rfl rfl (nb hn rfl) underlying49 sz152 zr152 rfl rfl rfl (show _ = [.d (.bool false),.d (.int .i64 0),.d (.int .i64 0),.d (.int .i64 0),.d (.int .i64 0),.d (.int .i64 0)] from by kernel_rfl) (by kernel_rfl) rfl rfl rfl rfl rfl) fun _=>?_)))))
 refine stepW (s_append (id:=1040) rfl rfl rfl (nb hn rfl) elt49 trivial rfl rfl rfl (by simp [chunk,List.length_take]; omega) (by simp [chunk,List.length_take]; omega) (fun b hb=>trivial)) fun v45=>?_
 refine Zt 1 [] hn rfl (stepW (s_storeRow rfl rfl rfl rfl rfl (rid:=1040) rfl (id:=3) rfl sz49 (Nat.le_of_ble_eq_true rfl) rfl trivial) fun _=>?_)
 refine zR (zN (zA (zG (Zt 1 [] hn rfl (Zs hn (za rfl rfl rfl (r:=((i + 1:Nat):Int)) (i64w (by omega) (by omega))) ?_)))))
 refine Zt 1 [] hn rfl (zR ?_)
 exact Zr ⟨(i + 1,v45),by simp only; omega⟩ ⟨.inl rfl,zF _⟩ ⟨.inl rfl,.inl (congrArg (fun z=>some (Res.row v45 152 6 z)) (addO hod)),zQ _⟩ (by simp only; omega)
 obtain rfl:i = d.orders.length:=by simp at hb0; omega
 rw [List.take_length]
 refine zV (zE (zE (zL (zA (zD (zx (gh_rowcell (id:=3) (k:=5) (rid:=1040) rfl rfl rfl) ?_))))))
 refine zG (Zt 2 [3,2] hn rfl (Zv (zJ ?_)))
 exact zY (.inl rfl) hl rfl (.cellA rfl (id:=2) rfl underlying51 rfl sz51 rfl rfl)
 refine br rfl (yM 3 rfl rfl rfl (nb hn rfl) zr51 rfl rfl) fun b3=>?_
 refine d2_of_d1 (zB (Ze1 2 rfl hn rfl (zDC d.b h5) (d2_of_d1 (Zy [7] [] hn rfl (zB (yI (i:=3) (j:=1) rfl rfl rfl (fun hne3_1=>?_)))))))
 refine Zo 9 rfl (zw rfl rfl rfl rfl rfl rfl (id:=3) rfl sz51 rfl (Nat.le_of_ble_eq_true rfl) rfl (fun e=>hne3_1 _ rfl (congrArg some e.symm))) fun _=>?_
 refine d2_of_d1 (zB (zg (by kernel_rfl) ?_))
 refine zA (zD (zD (zx (gh_nilcell (id:=3) (k:=5) 1040 152 6 rfl rfl) ?_)))
 refine zG (Zt 1 [] hn rfl (Zv (zK (awp_loop_on (ι:={x:Nat × Value // x.1 ≤ d.orders.length}) (fun x=>(4,true,.d (.int .i64 (x.1.1:Nat))) :: anys [14,15,16,17,18,21,22,23,24,25,5,26,27,28,29,30,31,32,33,34,35,36,37,38,39,40,41,42,43,44,45,46,19,20]) (fun x=>(3,.box b3 51 [.d (stksD d.b.stocks),.d (.int .i64 d.b.jump),.d (.int .i64 d.b.small),.d (strD d.tape),.d (.int .i64 d.fee),.val x.1.2]) :: (1040,.row x.1.2 152 6 ((d.orders.take x.1.1).map ordE)) :: gones [5]) (fun x=>d.orders.length - x.1.1) ⟨(0,_),Nat.zero_le _⟩ ⟨.inl rfl,zF _⟩ ⟨.inl rfl,.inl rfl,zQ _⟩ ?_))))
 rintro ⟨⟨i,vv⟩,hi⟩
 dsimp only
 dsimp only at hi
 refine zD (Zu (Zt 5 [1] hn rfl (Zv (zH rfl (fun hb1=>?_) (fun hb1=>?_)))))
 have hil:i < d.orders.length:=by simp at hb1; omega
 obtain ⟨o,hod⟩:=zT hil
 refine zI (zA (zD (zK (Zu (Zt 3 [1] hn rfl (Zi (i:=i) hn rfl rfl (mget hod) ?_))))))
 refine Zt 1 [] hn rfl (Zb 5 hn rfl fun b5=>Zt 1 [5] hn rfl (Zv (zG (Zt 18 [3,5,5,5,5,5,5] hn rfl (stepW (zM rfl rfl rfl (nb hn rfl) underlying49 sz152 zr152 rfl rfl rfl (show _ = [.d (.bool false),.d (.int .i64 0),.d (.int .i64 0),.d (.int .i64 0),.d (.int .i64 0),.d (.int .i64 0)] from by kernel_rfl) (by kernel_rfl) rfl rfl rfl rfl rfl) fun _=>?_)))))
 refine stepW (s_append (id:=1040) rfl rfl rfl (nb hn rfl) elt49 trivial rfl rfl rfl (by simp [chunk,List.length_take]; omega) (by simp [chunk,List.length_take]; omega) (fun b hb=>trivial)) fun v45=>?_
 refine Zt 1 [] hn rfl (stepW (s_storeRow rfl rfl rfl rfl rfl (rid:=1040) rfl (id:=3) rfl sz49 (Nat.le_of_ble_eq_true rfl) rfl trivial) fun _=>?_)
 refine zR (zN (zA (zG (Zt 1 [] hn rfl (Zs hn (za rfl rfl rfl (r:=((i + 1:Nat):Int)) (i64w (by omega) (by omega))) ?_)))))
 refine Zt 1 [] hn rfl (zR ?_)
 exact Zr ⟨(i + 1,v45),by simp only; omega⟩ ⟨.inl rfl,zF _⟩ ⟨.inl rfl,.inl (congrArg (fun z=>some (Res.row v45 152 6 z)) (addO hod)),zQ _⟩ (by simp only; omega)
 obtain rfl:i = d.orders.length:=by simp at hb1; omega
 rw [List.take_length]
 refine zV (zE (zE (zL (zA (zD (zx (gh_rowcell (id:=3) (k:=5) (rid:=1040) rfl rfl rfl) ?_))))))
 refine zG (Zt 2 [3,2] hn rfl (Zv (zJ ?_)))
 exact zY (.inl rfl) hl rfl (.cellA rfl (id:=2) rfl underlying51 rfl sz51 rfl rfl)
theorem Truth5_ok (t:Tru) (h1:t.prices.length ≤ 1000000) (h2:t.minutes.length ≤ 1000000) (h3:t.orders.length ≤ 1000000):PureAt Tryz.prog 25 [truD t] (truD t):=by
 refine Zp Tryz.func25 rfl fun Γ hn hl=>?_
 refine Zu ?_
 refine Zb 1 hn rfl fun b1=>?_
 refine Zb 2 hn rfl fun b2=>?_
 refine Zv (zD ?_)
 refine zi (W:=fun b=>b ≠ b1) fmo ?_
 refine Zy [0,1,3,4,6,7] [1,1,1] hn rfl ?_
 refine zB ?_
 refine Ze1 2 rfl hn rfl (zCw t.prices h1) ?_
 refine d2_of_d1 (zB ?_)
 refine Ze1 5 rfl hn rfl (zCw t.minutes h2) ?_
 refine d2_of_d1 (zB ?_)
 refine Ze1 8 rfl hn rfl (zCw t.orders h3) ?_
 refine d2_of_d1 ?_
 refine Zy [9] [] hn rfl ?_
 refine zB ?_
 refine yI (i:=2) (j:=1) rfl rfl rfl (fun hne2_1=>?_)
 refine Zo 10 rfl (zw rfl rfl rfl rfl rfl rfl (id:=2) rfl sz56 rfl (Nat.le_of_ble_eq_true rfl) rfl (fun e=>hne2_1 _ rfl (congrArg some e.symm))) fun _=>?_
 refine d2_of_d1 (zB ?_)
 refine zg (by kernel_rfl) ?_
 refine zA (zJ ?_)
 exact zY (.inl rfl) hl rfl (.cellA rfl (id:=2) rfl underlying56 rfl sz56 rfl rfl)
end Go.Proofs.YticlpkgpmmhemaaGreatDoor
namespace Go.Proofs.YticlpkgpmmhemaaGreatDoor
open Go.RowKit
set_option linter.all false
set_option maxHeartbeats 4000000
def salP (s:Sal):Prt:=⟨s.stock,s.number,s.number,s.price,true,s.minute,0,0⟩
def lastMin:List Sal → Int → Int
  | [],bm=>bm
  | s :: r,_=>lastMin r s.minute
theorem zDS {b:Brd} {s:Sal}:∀ {l:List Sal} {bm:Int},okAll b (l ++ [s]) bm = (okAll b l bm && okSal b s (lastMin l bm))
  | [],bm=>by simp [okAll,lastMin]
  | x :: l,bm=>by show (okSal b x bm && okAll b (l ++ [s]) x.minute) = _; rw [zDS]; simp only [okAll,lastMin,Bool.and_assoc]
theorem zB3 {s:Sal}:∀ {l:List Sal} {bm:Int},lastMin (l ++ [s]) bm = s.minute
  | [],_=>rfl
  | x :: l,bm=>zB3 (l:=l)
theorem zBj {l r:List Prt} {st:Int}:∀ {i:Nat},i ≤ l.length → aheadGo (l ++ r) st i = aheadGo l st i
  | 0,_=>rfl
  | i + 1,h=>by
    unfold aheadGo
    rw [zBj (by omega),List.getD_eq_getElem?_getD,List.getElem?_append_left (by omega),← List.getD_eq_getElem?_getD]
theorem zBw {l l':List Prt} {st:Int}:∀ {i:Nat},(∀ j,j < i → (l.getD j prt0).stock = (l'.getD j prt0).stock) → aheadGo l st i = aheadGo l' st i
  | 0,_=>rfl
  | i + 1,h=>by unfold aheadGo; rw [h i (by omega),zBw fun j hj=>h j (by omega)]
theorem steps_stock {b:Brd} {l l':List Prt} {j:Nat} {f:Nat → Int} (h:∀ k,k ≤ j → (l.getD k prt0).stock = (l'.getD k prt0).stock):stepsF b l j f = stepsF b l' j f:=by
  unfold stepsF aheadI
  rw [h j (Nat.le_refl _),zBw fun k hk=>h k (by omega)]
theorem zBM {α:Type} {l r:List α} {d:α} {j:Nat} (h:j < l.length):(l ++ r).getD j d = l.getD j d:=by
  rw [List.getD_eq_getElem?_getD,List.getElem?_append_left h,← List.getD_eq_getElem?_getD]
theorem zCH {α:Type} {l:List α} {x d:α}:(l ++ [x]).getD l.length d = x:=by simp
/-- Prices keep the Jump. -/
def JumpOK (b:Brd) (l:List Sal):Prop:=∀ j,j < l.length → stepsF b (l.map salP) j (fun k=>(l.getD k sal0).price) = true
structure SoldI (b:Brd) (x:SoS):Prop where
  ok:okAll b x.out 0 = true
  last:lastMin x.out 0 = (x.minute:Nat)
  jump:JumpOK b x.out
  now:∀ k:Nat,k < b.stocks.length → (aheadGo (x.out.map salP) (k:Int) x.out.length < 0 ∧ (b.stocks.getD k stk0).lo ≤ x.now.getD k 0 ∧ x.now.getD k 0 ≤ (b.stocks.getD k stk0).hi) ∨ ∃ a:Nat,aheadGo (x.out.map salP) (k:Int) x.out.length = (a:Nat) ∧ x.now.getD k 0 = (x.out.getD a sal0).price
theorem zEx {b:Brd} {ws:List Int} (v:BrdOK b) (hw:WdsOK ws):∀ i,SoldI b (soldN b ws i)
  | 0=>by
    refine ⟨rfl,rfl,fun j hj=>by simp [soldN] at hj,fun k hk=>.inl ⟨?_,?_⟩⟩
    · show aheadGo [] (k:Int) 0 < 0; unfold aheadGo; omega
    · have:=zFM (ws:=ws) v hk
      have e:(soldN b ws 0).now.getD k 0 = st0 b ws k:=by
        show (now0 b ws b.stocks.length).getD k 0 = _
        unfold now0
        rw [Nat.sub_self]
        simp only [List.replicate_zero,List.append_nil]
        exact zP (by rw [List.getElem?_map,List.getElem?_range hk]; rfl)
      rw [e]; exact ⟨this.1,this.2.1⟩
  | i + 1=>by
    have ih:=zEx v hw i
    have ho:=zCG (ws:=ws) v i
    have hkl:=zGS (ws:=ws) v i
    have hj0:=v.j0
    have hj4:=v.j4
    obtain ⟨pn,hpn⟩:=zT (show soK b ws i < (soldN b ws i).now.length by rw [ho.n]; exact hkl)
    have hpb:=ho.p pn (List.mem_of_getElem? hpn)
    have hmm:=ho.m
    have hpd:(soldN b ws i).now.getD (soK b ws i) 0 = pn:=zP hpn
    have hpe:soP b ws i (soldN b ws i).now = max 1 (min 799 (pn + (wrd ws (2 * i + 7):Int).tmod (2 * b.jump + 1) - b.jump)):=by unfold soP; rw [hpd]
    have htm:0 ≤ (wrd ws (2 * i + 7):Int).tmod (2 * b.jump + 1) ∧ (wrd ws (2 * i + 7):Int).tmod (2 * b.jump + 1) ≤ 2 * b.jump:=by
      rw [Int.tmod_eq_emod_of_nonneg (by omega)]
      have h1:=Int.emod_nonneg ((wrd ws (2 * i + 7):Nat):Int) (show 2 * b.jump + 1 ≠ 0 by omega)
      have h2:=Int.emod_lt_of_pos ((wrd ws (2 * i + 7):Nat):Int) (show 0 < 2 * b.jump + 1 by omega)
      omega
    generalize hK:soK b ws i = K at *
    generalize hP:soP b ws i (soldN b ws i).now = P at *
    have hP1:1 ≤ P ∧ P ≤ 799 ∧ P - pn ≤ b.jump ∧ pn - P ≤ b.jump:=by rw [hpe]; omega
    have hN:soN ws i = 1 ∨ ∃ n:Nat,soN ws i = n ∧ 1 ≤ n ∧ n ≤ 99:=by
      unfold soN
      cases wrd ws (2 * i + 6) % 4 == 0
      · left; rfl
      · right
        have:=Nat.mod_lt (wrd ws (2 * i + 6) / 64) (show 0 < 99 by omega)
        exact ⟨_,rfl,by omega,by omega⟩
    have hM:(soM ws i (soldN b ws i).minute) ≤ 600 ∧ (soldN b ws i).minute ≤ soM ws i (soldN b ws i).minute:=by unfold soM; omega
    have eS:soldN b ws (i + 1) = ⟨(soldN b ws i).now.set K P,soM ws i (soldN b ws i).minute,(soldN b ws i).out ++ [⟨(K:Nat),soN ws i,P,(soM ws i (soldN b ws i).minute:Nat)⟩]⟩:=by rw [← hK,← hP]; rfl
    rw [eS]
    generalize hX:soldN b ws i = X at *
    generalize hS:(⟨(K:Nat),soN ws i,P,(soM ws i X.minute:Nat)⟩:Sal) = S
    have hSs:S.stock = (K:Nat):=by rw [← hS]
    have hSp:S.price = P:=by rw [← hS]
    have hSm:S.minute = (soM ws i X.minute:Nat):=by rw [← hS]
    have hSn:1 ≤ S.number ∧ S.number ≤ 99:=by
      rw [← hS]; rcases hN with h | ⟨n,h,h1,h2⟩
      · show 1 ≤ soN ws i ∧ soN ws i ≤ 99; omega
      · show 1 ≤ soN ws i ∧ soN ws i ≤ 99; omega
    have hmap:(X.out ++ [S]).map salP = X.out.map salP ++ [salP S]:=by simp
    have hlen:(X.out.map salP).length = X.out.length:=List.length_map _
    refine ⟨?_,?_,?_,?_⟩
    · show okAll b (X.out ++ [S]) 0 = true
      rw [zDS,ih.ok,ih.last,Bool.true_and]
      exact kP.2 ⟨by omega,hSn,by omega,by omega⟩
    · show lastMin (X.out ++ [S]) 0 = _
      rw [zB3,hSm]
    · intro j hj
      simp only [List.length_append,List.length_cons,List.length_nil] at hj
      dsimp only
      by_cases e:j = X.out.length
      · subst e
        unfold stepsF aheadI
        rw [hmap,show ((X.out.map salP) ++ [salP S]).getD X.out.length prt0 = salP S by rw [← hlen]; exact zCH,zBj (by rw [hlen]; exact Nat.le_refl _)]
        dsimp only
        rw [zCH]
        show (bif decide (0 ≤ aheadGo (X.out.map salP) S.stock X.out.length) then nearB S.price ((X.out ++ [S]).getD (aheadGo (X.out.map salP) S.stock X.out.length).toNat sal0).price b.jump else withinB S.price ((b.stocks.getD S.stock.toNat stk0).lo - b.jump) ((b.stocks.getD S.stock.toNat stk0).hi + b.jump)) = true
        rw [hSs,hSp,Int.toNat_natCast]
        rcases ih.now K hkl with ⟨h1,h2,h3⟩ | ⟨a,h1,h2⟩
        · rw [decide_eq_false (by omega),cond_false]
          exact zh.2 (by omega)
        · rw [h1,decide_eq_true (by omega),cond_true,Int.toNat_natCast]
          have ha:=(yN.1 h1).1
          rw [zBM ha,← h2,hpd]
          exact zEk.2 (by omega)
      · have hj2:j < X.out.length:=by omega
        have h0:=ih.jump j hj2
        rw [← h0]
        have e1:stepsF b ((X.out ++ [S]).map salP) j (fun k=>((X.out ++ [S]).getD k sal0).price) = stepsF b (X.out.map salP) j (fun k=>((X.out ++ [S]).getD k sal0).price):=steps_stock fun k hk=>by
          rw [hmap,zBM (by rw [hlen]; omega)]
        rw [e1]
        refine zBD (by (try dsimp only); rw [zBM hj2]) fun k hk=>?_
        have hk:aheadGo (X.out.map salP) ((X.out.map salP).getD j prt0).stock j = (k:Nat):=hk
        have:=(yN.1 hk).1
        (try dsimp only)
        rw [zBM (by omega)]
    · intro k hk
      dsimp only
      rw [hmap,List.length_append,List.length_cons,List.length_nil,show X.out.length + (0 + 1) = X.out.length + 1 by omega]
      unfold aheadGo
      rw [show ((X.out.map salP) ++ [salP S]).getD X.out.length prt0 = salP S by rw [← hlen]; exact zCH,zBj (by rw [hlen]; exact Nat.le_refl _)]
      show ((bif S.stock == (k:Int) then ((X.out.length:Nat):Int) else _) < 0 ∧ _) ∨ ∃ a:Nat,(bif S.stock == (k:Int) then ((X.out.length:Nat):Int) else _) = (a:Nat) ∧ _
      rw [hSs]
      by_cases e:K = k
      · subst e
        rw [show (((K:Nat):Int) == (K:Int)) = true by simp,cond_true]
        refine .inr ⟨X.out.length,rfl,?_⟩
        rw [zCH,hSp]
        exact zP (by rw [List.getElem?_set,if_pos rfl,if_pos (by rw [ho.n]; exact hkl)])
      · rw [show (((K:Nat):Int) == (k:Int)) = false by simp; omega,cond_false]
        have e2:(X.now.set K P).getD k 0 = X.now.getD k 0:=by rw [List.getD_eq_getElem?_getD,List.getElem?_set,if_neg e,← List.getD_eq_getElem?_getD]
        rw [e2]
        rcases ih.now k hk with h | ⟨a,h1,h2⟩
        · exact .inl h
        · exact .inr ⟨a,h1,by rw [zBM (yN.1 h1).1]; exact h2⟩
/-- What is so of sales that are chosen by words. -/
structure SoldOK (b:Brd) (l:List Sal):Prop where
  ok:okAll b l 0 = true
  l7:l.length ≤ 7
  jump:JumpOK b l
theorem zC9 {b:Brd} {ws:List Int} (v:BrdOK b) (hw:WdsOK ws):SoldOK b (soldL b ws):=by
  have h:=zEx v hw (wrd ws 5 % 8)
  exact ⟨h.ok,by unfold soldL; rw [(zCG v _).o]; have:=Nat.mod_lt (wrd ws 5) (show 0 < 8 by omega); omega,h.jump⟩
def nnOf (b:Brd) (c rush:Bool) (s:Sal):Int × Int:=bif c then (s.number,s.number) else bif rush then (1,b.small) else (1,1)
def figW:Wd → Int × Bool
  | .sh x=>((x:Nat),false)
  | .lo p=>((p:Nat),true)
  | _=>(0,false)
def PriceW (b:Brd):Wd → Prop
  | .sh x=>x < 80
  | .lo p=>1 ≤ p ∧ p ≤ 799
  | _=>False
def prtOf (b:Brd) (w:Wrk) (s:Sal) (M:Nat) (c3:Bool) (P:Wd):Prt:=⟨s.stock,(nnOf b c3 w.rush s).1,(nnOf b c3 w.rush s).2,(figW P).1,(figW P).2,(M:Nat),w.llo,w.lhi⟩
theorem zB7 {b:Brd} {c:Bool} {x:Wd} {w:Wrk} (h:c = true → x.ok b ∧ x.can w):CanAll b (optW c x) w:=by
  cases c
  · trivial
  · exact ⟨(h rfl).1,(h rfl).2,trivial⟩
theorem sale_run {b : Brd} {w : Wrk} {s : Sal} {bm : Int} {c1 c3 : Bool} {M : Nat} {P : Wd} {R : List Wd} (hs : okSal b s bm = true) (h1 : c1 = false → w.minute = (M : Nat)) (h2 : c1 = true → w.minute ≤ (M : Nat) ∧ M ≤ 600) (hn : w.number ≤ 0) (h8 : w.out.length ≠ 8) (h3 : c3 = true → 1 < s.number) (hP : PriceW b P)
    (hR:CanAll b R { w with minute:=(M:Nat),stock:=s.stock,number:=0,out:=w.out ++ [prtOf b w s M c3 P] }) :
    CanAll b (optW c1 (.mi M) ++ (optW (s.stock != w.stock) (.na s.stock.toNat) ++ (optW c3 (.nu s.number.toNat) ++ P :: R))) w ∧ runAll b (optW c1 (.mi M) ++ (optW (s.stock != w.stock) (.na s.stock.toNat) ++ (optW c3 (.nu s.number.toNat) ++ P :: R))) w = runAll b R { w with minute:=(M:Nat),stock:=s.stock,number:=0,out:=w.out ++ [prtOf b w s M c3 P] }:=by
  obtain ⟨k1,k2,k3,k4⟩:=kP.1 hs
  have s1:runAll b (optW c1 (.mi M)) w = { w with minute:=(M:Nat) }:=by
    cases c1
    · rw [← h1 rfl]; rfl
    · rfl
  have s2:runAll b (optW (s.stock != w.stock) (.na s.stock.toNat)) { w with minute:=(M:Nat) } = { w with minute:=(M:Nat),stock:=s.stock }:=by
    by_cases e:s.stock = w.stock
    · rw [show (s.stock != w.stock) = false by simpa using e,e]; rfl
    · rw [show (s.stock != w.stock) = true by simpa using e]
      show ({ w with minute:=(M:Nat),stock:=((s.stock.toNat:Nat):Int) }:Wrk) = _
      rw [show ((s.stock.toNat:Nat):Int) = s.stock by omega]
  obtain ⟨wn,s3,hwn⟩:∃ wn:Int,runAll b (optW c3 (.nu s.number.toNat)) { w with minute:=(M:Nat),stock:=s.stock } = { w with minute:=(M:Nat),stock:=s.stock,number:=wn } ∧ saleN { w with minute:=(M:Nat),stock:=s.stock,number:=wn } b = nnOf b c3 w.rush s:=by
    cases c3
    · refine ⟨w.number,rfl,?_⟩
      unfold saleN nnOf
      rw [decide_eq_false (by dsimp only; omega)]; rfl
    · refine ⟨s.number,?_,?_⟩
      · show ({ w with minute:=(M:Nat),stock:=s.stock,number:=((s.number.toNat:Nat):Int) }:Wrk) = _
        rw [show ((s.number.toNat:Nat):Int) = s.number by omega]
      · unfold saleN nnOf
        rw [decide_eq_true (by have:=h3 rfl; dsimp only; omega)]
  have s4:P.run b { w with minute:=(M:Nat),stock:=s.stock,number:=wn } = { w with minute:=(M:Nat),stock:=s.stock,number:=0,out:=w.out ++ [prtOf b w s M c3 P] } ∧ P.ok b ∧ P.can { w with minute:=(M:Nat),stock:=s.stock,number:=wn }:=by
    cases P with
    | sh x =>
      refine ⟨?_,hP,show 0 ≤ s.stock ∧ w.out.length ≠ 8 from ⟨k1.1,h8⟩⟩
      show ({ w with minute:=(M:Nat),stock:=s.stock,number:=0,out:=w.out ++ [⟨s.stock,(saleN { w with minute:=(M:Nat),stock:=s.stock,number:=wn } b).1,(saleN { w with minute:=(M:Nat),stock:=s.stock,number:=wn } b).2,((x:Nat):Int),false,(M:Nat),w.llo,w.lhi⟩] }:Wrk) = _
      rw [hwn]; rfl
    | lo x =>
      refine ⟨?_,hP,show 0 ≤ s.stock ∧ w.out.length ≠ 8 from ⟨k1.1,h8⟩⟩
      show ({ w with minute:=(M:Nat),stock:=s.stock,number:=0,out:=w.out ++ [⟨s.stock,(saleN { w with minute:=(M:Nat),stock:=s.stock,number:=wn } b).1,(saleN { w with minute:=(M:Nat),stock:=s.stock,number:=wn } b).2,((x:Nat):Int),true,(M:Nat),w.llo,w.lhi⟩] }:Wrk) = _
      rw [hwn]; rfl
    | mi _=>exact hP.elim
    | na _=>exact hP.elim
    | nu _=>exact hP.elim
    | la _ _=>exact hP.elim
    | ru=>exact hP.elim
  constructor
  · refine CanAll.app (zB7 fun hc=>⟨(h2 hc).2,hn,(h2 hc).1⟩) ?_
    rw [s1]
    refine CanAll.app (zB7 fun hc=>⟨show s.stock.toNat < b.stocks.length by omega,show w.number ≤ 0 from hn⟩) ?_
    rw [s2]
    refine CanAll.app (zB7 fun hc=>⟨show 1 ≤ s.number.toNat ∧ s.number.toNat ≤ 99 by omega,show w.number ≤ 0 from hn⟩) ?_
    rw [s3]
    refine ⟨s4.2.1,s4.2.2,?_⟩
    rw [s4.1]; exact hR
  · rw [kU,s1,kU,s2,kU,s3,runAll,s4.1]
/-- The sales that are read of the tape of sales. -/
def prL (b:Brd) (ws:List Int):List Sal → Nat → Nat → List Prt
  | [],_,_=>[]
  | s :: r,i,m=>⟨s.stock,(nnOf b (prNu b ws i s) (prRush ws) s).1,(nnOf b (prNu b ws i s) (prRush ws) s).2,(figW (prPr ws i s)).1,(figW (prPr ws i s)).2,(prM ws i m s:Nat),(prLate ws:Nat),((prLate ws + prWide ws:Nat):Int)⟩ :: prL b ws r (i + 1) (prM ws i m s)
theorem prP_price {b:Brd} {ws:List Int} {i:Nat} {s:Sal} (h:1 ≤ s.price ∧ s.price ≤ 799):PriceW b (prPr ws i s):=by
  unfold prPr
  cases wrd ws (i + 1) / 8 % 4 == 0
  · show s.price.toNat % 80 < 80; omega
  · show 1 ≤ s.price.toNat ∧ s.price.toNat ≤ 799; omega
theorem zGi {b : Brd} {ws : List Int} : ∀ {l : List Sal} {i m : Nat} {w : Wrk} {bm : Int}, okAll b l bm = true → w.minute = (m : Nat) → m ≤ 600 → w.number ≤ 0 → w.out.length + l.length ≤ 8 → w.rush = prRush ws → w.llo = (prLate ws : Nat) → w.lhi = ((prLate ws + prWide ws : Nat) : Int) →
    CanAll b (prW b ws l i m w.stock) w ∧ (runAll b (prW b ws l i m w.stock) w).out = w.out ++ prL b ws l i m ∧ (runAll b (prW b ws l i m w.stock) w).number ≤ 0
  | [],i,m,w,bm,_,_,_,hn,_,_,_,_=>⟨trivial,by simp [prW,prL,runAll],hn⟩
  | s :: r,i,m,w,bm,hok,hm,hm6,hn,h8,hr,hl1,hl2=>by
    unfold okAll at hok
    rw [Bool.and_eq_true] at hok
    obtain ⟨k1,k2,k3,k4⟩:=kP.1 hok.1
    simp only [List.length_cons] at h8
    have hp:=zEE (ws:=ws) (i:=i) (s:=s) hm6
    have ih:=zGi (b:=b) (ws:=ws) (l:=r) (i:=i + 1) (m:=prM ws i m s) (w:={ w with minute:=((prM ws i m s:Nat):Int),stock:=s.stock,number:=0,out:=w.out ++ [prtOf b w s (prM ws i m s) (prNu b ws i s) (prPr ws i s)] }) hok.2 rfl hp.1 (by dsimp only; omega) (by simp only [List.length_append,List.length_cons,List.length_nil]; omega) hr hl1 hl2
    have hs:=sale_run (b:=b) (w:=w) (c1:=prM ws i m s != m || i == 0) (c3:=prNu b ws i s) (M:=prM ws i m s) (P:=prPr ws i s) hok.1 (fun h=>by
      simp only [Bool.or_eq_false_iff,bne_eq_false_iff_eq] at h; rw [hm,h.1]) (fun _=>⟨by rw [hm]; omega,hp.1⟩) hn (by omega) (fun h=>by
      unfold prNu at h; simp only [Bool.and_eq_true,decide_eq_true_eq] at h; exact h.1) (prP_price k3) ih.1
    rw [prW]
    refine ⟨hs.1,?_,?_⟩
    · rw [hs.2,ih.2.1]
      show (w.out ++ [_]) ++ _ = w.out ++ prL b ws (s :: r) i m
      rw [prL,List.append_assoc]
      unfold prtOf
      rw [hr,hl1,hl2]; rfl
    · rw [hs.2]; exact ih.2.2
theorem la_step {b:Brd} {a c:Nat} (h:a ≤ c ∧ c ≤ 60) {R:List Wd} (hR:CanAll b R { wrk0 with llo:=(a:Nat),lhi:=(c:Nat) }):CanAll b (.la a c :: R) wrk0 ∧ runAll b (.la a c :: R) wrk0 = runAll b R { wrk0 with llo:=(a:Nat),lhi:=(c:Nat) }:=⟨⟨h,show wrk0.number ≤ 0 by decide,hR⟩,rfl⟩
theorem printed_read {b:Brd} {ws:List Int} {l:List Sal} (h:checkT b = 0) (hl:l.length ≤ 8) (hok:okAll b l 0 = true) (hlen:(prS b ws l).length ≤ 160):readI b (prS b ws l) = (prL b ws l 0 0,0):=by
  have hl6:=Nat.mod_lt (wrd ws 0) (show 0 < 6 by omega)
  have hw6:=Nat.mod_lt (wrd ws 0 / 8) (show 0 < 6 by omega)
  have e0:CanAll b (.la (prLate ws) (prLate ws + prWide ws) :: prT b ws l) wrk0 ∧ (runAll b (.la (prLate ws) (prLate ws + prWide ws) :: prT b ws l) wrk0).out = prL b ws l 0 0 ∧ (runAll b (.la (prLate ws) (prLate ws + prWide ws) :: prT b ws l) wrk0).number ≤ 0:=by
    have hr:=zGi (b:=b) (ws:=ws) (l:=l) (i:=0) (m:=0) (w:={ wrk0 with llo:=((prLate ws:Nat):Int),lhi:=((prLate ws + prWide ws:Nat):Int),rush:=prRush ws }) hok rfl (by omega) (show (0:Int) ≤ 0 by omega) (by simpa [wrk0] using hl) rfl rfl rfl
    have hru:CanAll b (prT b ws l) { wrk0 with llo:=((prLate ws:Nat):Int),lhi:=((prLate ws + prWide ws:Nat):Int) } ∧ runAll b (prT b ws l) { wrk0 with llo:=((prLate ws:Nat):Int),lhi:=((prLate ws + prWide ws:Nat):Int) } = runAll b (prW b ws l 0 0 (-1)) { wrk0 with llo:=((prLate ws:Nat):Int),lhi:=((prLate ws + prWide ws:Nat):Int),rush:=prRush ws }:=by
      unfold prT
      have es:runAll b (optW (prRush ws) .ru) { wrk0 with llo:=((prLate ws:Nat):Int),lhi:=((prLate ws + prWide ws:Nat):Int) } = { wrk0 with llo:=((prLate ws:Nat):Int),lhi:=((prLate ws + prWide ws:Nat):Int),rush:=prRush ws }:=by cases prRush ws <;> rfl
      refine ⟨CanAll.app (zB7 fun _=>⟨trivial,show wrk0.number ≤ 0 ∧ wrk0.rush = false from ⟨by decide,rfl⟩⟩) ?_,by rw [kU,es]⟩
      rw [es]; exact hr.1
    have hla:=la_step (b:=b) (a:=prLate ws) (c:=prLate ws + prWide ws) (by unfold prLate prWide; omega) hru.1
    refine ⟨hla.1,?_,?_⟩
    · rw [hla.2,hru.2]; exact hr.2.1
    · rw [hla.2,hru.2]; exact hr.2.2
  have:=read_words h e0.1 hlen
  rw [decide_eq_false (by omega),cond_false,e0.2.1] at this
  exact this
/-- Prints say sales, as far as they do. -/
structure PrSays (ps:List Prt) (l:List Sal):Prop where
  len:ps.length = l.length
  st:∀ j,j < l.length → (ps.getD j prt0).stock = (l.getD j sal0).stock
  fit:∀ j,j < l.length → refFits (ps.getD j prt0) j (l.getD j sal0).price 0 = true
  num:∀ j,j < l.length → (ps.getD j prt0).nlo ≤ (l.getD j sal0).number ∧ (l.getD j sal0).number ≤ (ps.getD j prt0).nhi
theorem fits_pr {p:Prt} {i j:Nat} {x:Int}:refFits p i x 0 = refFits p j x 0:=by unfold refFits; rw [Nat.zero_testBit,Nat.zero_testBit]
theorem PrSays.cons {p:Prt} {s:Sal} {ps:List Prt} {l:List Sal} (h:PrSays ps l) (h1:p.stock = s.stock) (h2:refFits p 0 s.price 0 = true) (h3:p.nlo ≤ s.number ∧ s.number ≤ p.nhi):PrSays (p :: ps) (s :: l):=by
  refine ⟨by simp [h.len],fun j hj=>?_,fun j hj=>?_,fun j hj=>?_⟩ <;> cases j with
    | zero=>first | exact h1 | exact h2 | exact h3
    | succ j =>
      simp only [List.length_cons] at hj
      first | exact h.st j (by omega) | exact fits_pr.trans (h.fit j (by omega)) | exact h.num j (by omega)
theorem fits_of {p:Prt} {x:Int} (h:1 ≤ x ∧ x ≤ 799) (hf:p.full = true ∧ p.fig = x ∨ p.full = false ∧ p.fig = ((x.toNat % 80:Nat):Int)):refFits p 0 x 0 = true:=by
  unfold refFits
  rw [zh.2 h,Nat.zero_testBit]
  rcases hf with ⟨h1,h2⟩ | ⟨h1,h2⟩
  · rw [h1,h2]; simp
  · rw [h1,h2,tmod80 (by omega)]; simp
theorem zFe {b:Brd} {ws:List Int} (v:BrdOK b):∀ {l:List Sal} {i m:Nat} {bm:Int},okAll b l bm = true → PrSays (prL b ws l i m) l
  | [],i,m,bm,_=>⟨rfl,fun j hj=>by simp at hj,fun j hj=>by simp at hj,fun j hj=>by simp at hj⟩
  | s :: r,i,m,bm,h=>by
    unfold okAll at h
    rw [Bool.and_eq_true] at h
    obtain ⟨k1,k2,k3,k4⟩:=kP.1 h.1
    have hs1:=v.s1
    refine (zFe v h.2).cons rfl (fits_of k3 ?_) ?_
    · unfold prPr
      cases wrd ws (i + 1) / 8 % 4 == 0
      · exact .inr ⟨rfl,rfl⟩
      · exact .inl ⟨rfl,show ((s.price.toNat:Nat):Int) = s.price by omega⟩
    · show (nnOf b (prNu b ws i s) (prRush ws) s).1 ≤ s.number ∧ s.number ≤ (nnOf b (prNu b ws i s) (prRush ws) s).2
      unfold nnOf
      cases hc:prNu b ws i s
      · unfold prNu at hc
        cases hr:prRush ws
        · rw [hr] at hc
          simp at hc
          show (1:Int) ≤ s.number ∧ s.number ≤ 1; omega
        · rw [hr] at hc
          simp at hc
          show (1:Int) ≤ s.number ∧ s.number ≤ b.small
          by_cases e:1 < s.number
          · have:=(hc e).1; omega
          · omega
      · exact ⟨Int.le_refl _,Int.le_refl _⟩
end Go.Proofs.YticlpkgpmmhemaaGreatDoor
namespace Go.Proofs.YticlpkgpmmhemaaGreatDoor
open Go.RowKit
set_option maxRecDepth 20000
set_option linter.all false
set_option maxHeartbeats 4000000
theorem zAT {b:Brd} {s:List UInt8} (h:(readI b s).2 = 0):checkT b = 0:=by
  unfold readI at h
  cases hc:checkT b != 0
  · simpa using hc
  · rw [hc] at h
    have h:checkT b = 0:=h
    rw [h] at hc; cases hc
theorem read_short {b:Brd} {s:List UInt8} (h:(readI b s).2 = 0):s.length ≤ 160:=by
  have v:=zAT h
  rw [← zBW v] at h
  unfold refReadI at h
  cases hc:decide (160 < (s.length:Int))
  · simp only [decide_eq_false_iff_not] at hc; omega
  · rw [hc] at h; cases h
theorem zGk {b:Brd} {ws:List Int} {l:List Sal} (v:BrdOK b) (h8:l.length ≤ 8) (hok:okAll b l 0 = true):(prS b ws l).length ≤ 300:=by
  obtain ⟨h1,h2⟩:=zFR (ws:=ws) (i:=0) (m:=0) (st:=-1) hok (by omega)
  have h3:=zFb v h1
  have h4:=zEw v (wd:=.la (prLate ws) (prLate ws + prWide ws)) (show prLate ws ≤ prLate ws + prWide ws ∧ prLate ws + prWide ws ≤ 60 by unfold prLate prWide; have:=Nat.mod_lt (wrd ws 0) (show 0 < 6 by omega); have:=Nat.mod_lt (wrd ws 0 / 8) (show 0 < 6 by omega); omega)
  unfold prS prT
  rw [zA9,zAN]
  cases prRush ws <;> simp only [cond_false,cond_true,Wd.text,List.length_append,List.length_cons,List.length_nil] at h4 ⊢ <;> omega
structure TruthL (b:Brd) (s:List UInt8) (l:List Sal) (R:List Prt) (ms:List Nat):Prop where
  rd:readI b s = (R,0)
  sy:PrSays R l
  lv:levelsI b R [] = some ms
  pr:pricesI b s = (ms.map bndN,0)
  mi:misI b s = ([],0)
  pv:proveI b s (l.map (·.price)) = true
  bd:∀ i,i < l.length → (bndN (ms.getD i 0)).1 ≤ (l.getD i sal0).price ∧ (l.getD i sal0).price ≤ (bndN (ms.getD i 0)).2
theorem Sold_ok (b:Brd) (ws:List Int) (v:BrdOK b) (hw:WdsOK ws):PureAt Tryz.prog 71 [brdD b,wdsD ws] (salsD (soldL b ws)):=PureAt.of_eff (ds:=[brdD b,wdsD ws]) (Sold_eff b ws v hw)
end Go.Proofs.YticlpkgpmmhemaaGreatDoor
namespace Go.Proofs.YticlpkgpmmhemaaGreatDoor
open Go.Proofs.Tryz
open Go.RowKit
set_option maxRecDepth 20000
set_option linter.all false
set_option maxHeartbeats 4000000
theorem thin_bd {b:Brd} {n:Nat} (h:thinT b n = true):b.stocks.length ≤ 7 ∧ n ≤ 200:=by
  unfold thinT at h
  simp only [Bool.and_eq_true,decide_eq_true_eq] at h
  omega
theorem zCh {d:Dsk}:(∀ p ∈ fltI d,PrtOK d.b p) ∧ (fltI d).length ≤ 8:=by
  unfold fltI
  cases deskI d != 0
  · exact yf
  · exact ⟨fun p hp=>(by cases hp),by simp⟩
theorem zFP {d:Dsk} (h:deskI d = 0):fltI d = (readI d.b d.tape).1:=by unfold fltI; rw [h]; rfl
/-- The desk with the tape of words. -/
@[reducible] def tldD (d:Dsk) (ws:List Int):Dsk:=⟨d.b,prS d.b ws (soldL d.b ws),d.fee,d.orders⟩
/-- What a desk and a truth by words are. -/
structure ToldP (d:Dsk) (x:Dsk × Tru × Bool):Prop where
  b:x.1.b = d.b
  os:x.1.orders = d.orders
  fe:x.1.fee = d.fee
  ok:x.2.2 = true → d.orders.length ≤ 8 ∧ x.1.tape.length ≤ 300 ∧ d.b.stocks.length ≤ 7 ∧ deskI x.1 = 0 ∧ TruW x.1 (readI x.1.b x.1.tape).1 x.2.1 ∧ timesB (readI x.1.b x.1.tape).1 = true
theorem tld_len {d:Dsk} {ws:List Int} (v:BrdOK d.b) (hw:WdsOK ws) (h:deskI (tldD d ws) = 0):(fltI (tldD d ws)).length ≤ (soldL d.b ws).length:=by
  have hs:=zC9 v hw
  have hr:=(y3 h).1
  rw [zFP h]
  have hr2:(readI d.b (prS d.b ws (soldL d.b ws))).2 = 0:=hr
  have h1:=read_short hr2
  have h2:=printed_read (ws:=ws) (zAT hr2) (by have:=hs.l7; omega) hs.ok h1
  show (readI d.b (prS d.b ws (soldL d.b ws))).1.length ≤ _
  rw [h2,(zFe v hs.ok).len]
  exact Nat.le_refl _
theorem told_ok {d:Dsk} {ws:List Int} {t:Tru} (v:BrdOK d.b) (hw:WdsOK ws) (ho:d.orders.length ≤ 8) (hs:d.b.stocks.length ≤ 7) (h0:deskI (tldD d ws) = 0) (ht:timesB (fltI (tldD d ws)) = true):ToldP d (tldD d ws,t,isTB (tldD d ws) (fltI (tldD d ws)) t):=by
  have hs7:=zC9 v hw
  refine ⟨rfl,rfl,rfl,fun h=>⟨ho,zGk v (by have:=hs7.l7; omega) hs7.ok,hs,h0,?_,?_⟩⟩
  · rw [← zFP h0]; exact isT_iff.1 h
  · rw [← zFP h0]; exact ht
theorem zFd {d x:Dsk} {t:Tru} (h1:x.b = d.b) (h2:x.orders = d.orders) (h3:x.fee = d.fee):ToldP d (x,t,false):=⟨h1,h2,h3,fun h=>(by cases h)⟩
theorem zFf {a b:Int} (ha:0 ≤ a) (hb:0 < b):0 ≤ a.tmod b ∧ a.tmod b < b:=by
  rw [Int.tmod_eq_emod_of_nonneg ha]
  exact ⟨Int.emod_nonneg _ (by omega),Int.emod_lt_of_pos _ hb⟩
theorem zCS (ws:List Int) (i:Nat) (hw:WdsOK ws):PureAt Tryz.prog 74 [wdsD ws,.int .i64 (i:Nat)] (.int .i64 (wrd ws i:Nat)):=by
 refine Zp Tryz.func74 rfl fun Γ hn hl=>?_
 have hw1:=hw.1
 refine Zu (Zt 1 [] hn rfl (Zv (zD (Zu (Zt 3 [] hn rfl (Zv (zH rfl (fun hb0=>?_) (fun hb0=>?_))))))))
 obtain rfl:ws = []:=List.eq_nil_of_length_eq_zero (by simp at hb0; simpa using hb0)
 refine Zu (Zt 1 [] hn rfl (Zv (zJ (zC (zb (zY (.inl rfl) hl rfl (.tmp rfl)) ?_)))))
 simp [wrd]
 have hwl:ws.length ≠ 0:=by simp at hb0; simpa using hb0
 obtain ⟨x,hx⟩:=zT (show i % ws.length < ws.length from Nat.mod_lt _ (by omega))
 have hxb:=hw.2 x (List.mem_of_getElem? hx)
 have e1:((wrd ws i:Nat):Int) = x:=by unfold wrd; rw [zP hx]; omega
 rw [e1]
 refine zI (zA (Zu (Zt 4 [] hn rfl (Zs hn (yY rfl rfl rfl (r:=((i % ws.length:Nat):Int)) (by rw [List.length_map]; omega) (by rw [List.length_map]; exact modN (by omega))) ?_))))
 refine Zi (i:=i % ws.length) hn rfl rfl (mget hx) ?_
 refine Zt 1 [] hn rfl (Zs hn (zBm rfl rfl underlying253 underlying3 (i64w (by omega) rfl)) ?_)
 refine Zt 1 [] hn rfl (Zv (zJ (zb (zY (.inl rfl) hl rfl (.tmp rfl)) ?_)))
 rfl
theorem Told_eff (d:Dsk) (ws:List Int) (hN:NamesOK d.b) (hw:WdsOK ws):EffAt Tryz.prog 17 [.d (dskD d),.d (wdsD ws)] [] (X:={x:Dsk × Tru × Bool // ToldP d x}) (fun x=>.d (.tup [dskD x.1.1,truD x.1.2.1,.bool x.1.2.2])) (fun _=>[]):=by
 refine EffAt.of_awp Tryz.func17 rfl (by kernel_rfl) rfl fun Γ hn=>?_
 refine Zu (Zb 2 hn rfl fun b2=>Zb 4 hn rfl fun b4=>Zb 5 hn rfl fun b5=>Zt 1 [] hn rfl (Zv (zD (Zu (Zt 7 [2,2] hn rfl (Zkg hn rfl (fun hc=>(show PureAt Tryz.prog 31 [brdD d.b,strD []] (.bool (thinT d.b ([]:List UInt8).length)) from Thin_ok d.b [] hN)) (Zt 5 [2] hn rfl (Zkg hn rfl (fun hc=>zEr d.b hN) (Zt 2 [] hn rfl (Zv (zH rfl (fun hb0=>?_) (fun hb0=>?_))))))))))))
 refine Zu (Zt 5 [2,4,5] hn rfl (Zv (zJ (zC ?_))))
 exact ret_E (.inl rfl) ⟨(d,⟨[],[],[]⟩,false),zFd rfl rfl rfl⟩ ((zDz rfl (.d (.cellA rfl (id:=4) rfl underlying27 rfl sz27 rfl rfl)) (.d (.cellA rfl (id:=5) rfl underlying31 rfl sz31 rfl rfl)) (.tmp rfl)).le (.tup (.cons (.refl _) (.cons (.agg (.cons (.nil 1) (.cons (.nil 1) (.cons (.nil 1) (.refl _))))) (.refl _))))) trivial
 obtain ⟨⟨q1,q2⟩,q3⟩:(d.orders.length ≤ 8 ∧ thinT d.b ([]:List UInt8).length = true) ∧ checkT d.b = 0:=by simp only [List.length_map,Bool.or_eq_false_iff,Bool.not_eq_false',decide_eq_false_iff_not] at hb0; exact ⟨⟨by omega,hb0.1.2⟩,by simpa using hb0.2⟩
 obtain ⟨hb7,_⟩:=thin_bd q2
 have v:=kV q3
 have hsk:=zC9 v hw
 have hs7:=hsk.l7
 have hpl:=zGk (ws:=ws) v (by omega) hsk.ok
 refine zI (zA (Zu (Zt 3 [2] hn rfl (Zk hn rfl (Sold_ok d.b ws v hw) (Zt 1 [] hn rfl (Zv (Zu (Zt 4 [2] hn rfl (Zk hn rfl (Printed_ok d.b (soldL d.b ws) ws v hw (by omega) hsk.ok) (Zt 1 [] hn rfl (stepW (s_store1 rfl rfl rfl rfl rfl rfl (id:=2) rfl sz9 (Nat.le_of_ble_eq_true rfl) rfl trivial) fun _=>?_)))))))))))
 refine Zv (Zu (Zt 1 [2] hn rfl (Zk hn rfl (Fault4_ok (tldD d ws) hN (show (prS d.b ws (soldL d.b ws)).length ≤ 4294967000 by omega) (show d.orders.length ≤ 1000 by omega)) (Zt 5 [] hn rfl (Zv (Zu (Zt 1 [] hn rfl (Zk hn rfl (Times_ok d.b (fltI (tldD d ws)) zCh.1 zCh.2) (Zt 5 [] hn rfl (Zv (zD (Zu (Zt 6 [] hn rfl (Zv (zH rfl (fun hb1=>?_) (fun hb1=>?_))))))))))))))))
 refine Zu (Zt 5 [2,4,5] hn rfl (Zv (zJ (zC ?_))))
 exact ret_E (.inl rfl) ⟨(tldD d ws,⟨[],[],[]⟩,false),zFd rfl rfl rfl⟩ ((zDz rfl (.d (.cellA rfl (id:=4) rfl underlying27 rfl sz27 rfl rfl)) (.d (.cellA rfl (id:=5) rfl underlying31 rfl sz31 rfl rfl)) (.tmp rfl)).le (.tup (.cons (.refl _) (.cons (.agg (.cons (.nil 1) (.cons (.nil 1) (.cons (.nil 1) (.refl _))))) (.refl _))))) trivial
 obtain ⟨h0,ht⟩:deskI (tldD d ws) = 0 ∧ timesB (fltI (tldD d ws)) = true:=by simp only [Bool.or_eq_false_iff,Bool.not_eq_false'] at hb1; exact ⟨by simpa using hb1.1,hb1.2⟩
 have htl:=tld_len v hw h0
 obtain ⟨hpo,hl8⟩:=zCh (d:=tldD d ws)
 have hti:timesI (fltI (tldD d ws)) = timL (fltI (tldD d ws)) (fltI (tldD d ws)).length:=by unfold timesI; rw [ht]; rfl
 generalize hfl:fltI (tldD d ws) = l at hpo hl8 ht htl hti
 rw [hti]
 obtain ⟨_,_,_,hob⟩:=y3 h0
 refine zI (zA (Zu (Zb 12 hn rfl fun b12=>Zv (zD (zx (gh_nilcell (id:=12) (k:=0) 1081 3 1 rfl rfl) ?_)))))
 refine zx (gh_nilcell (id:=12) (k:=1) 1082 3 1 rfl rfl) ?_
 refine zx (gh_nilcell (id:=12) (k:=2) 1083 3 1 rfl rfl) ?_
 refine zG (Zt 1 [] hn rfl (Zv (zD (Zu (Zt 1 [] hn rfl (Zv (zK (awp_loop_on (ι:={x:Nat × Int × (List Int × Value) × (List Int × Value) // x.1 ≤ l.length ∧ (-9999 ≤ x.2.1 ∧ x.2.1 ≤ 700) ∧ x.2.2.1.1.length = x.1 ∧ x.2.2.2.1.length = x.1}) (fun x=>(14,true,.d (.int .i64 (x.1.1:Nat))) :: (13,true,.d (.int .i64 x.1.2.1)) :: anys [63,64,65,66,69,70,71,72,73,74,75,76,77,78,79,80,81,82,83,84,85,86,87,88,89,90,91,92,93,94,95,96,97,98,99,100,101,102,103,67,68]) (fun x=>[(12,.box b12 31 [.val x.1.2.2.1.2,.val x.1.2.2.2.2,.val (.slice none 0 0)]),(1081,.row x.1.2.2.1.2 3 1 (x.1.2.2.1.1.map intE)),(1082,.row x.1.2.2.2.2 3 1 (x.1.2.2.2.1.map intE))]) (fun x=>l.length - x.1.1) ⟨(0,-9999,([],.slice none 0 0),([],.slice none 0 0)),by simp⟩ ⟨.inl rfl,.inl rfl,zF _⟩ ⟨.inl rfl,.inl rfl,.inl rfl,trivial⟩ ?_))))))))
 rintro ⟨⟨i,la,⟨ps,vp⟩,⟨ms,vm⟩⟩,hi,hla,hps,hms⟩
 dsimp only
 dsimp only at hi hla hps hms
 refine zD (Zu (Zt 4 [] hn rfl (Zv (zH rfl (fun hb2=>?_) (fun hb2=>?_)))))
 ·
  have hil:i < l.length:=by simp at hb2; omega
  have htm:=(tim_mono hpo ht hil).1
  have hpb:=zCo hpo hil
  have hrg:(timL l l.length)[i]? = some (timI l i):=by have:=zB5 hil; obtain ⟨x,hx⟩:=zT (show i < (timL l l.length).length by rw [zD7]; exact hil); rw [zP hx] at this; rw [hx,this]
  obtain ⟨sl,hsl⟩:=zT (show i < (soldL d.b ws).length by omega)
  have hwb:=zA0 hw (i + 3)
  have hmo:=zFf (a:=(wrd ws (i + 3):Nat)) (b:=4) (by omega) (by omega)
  refine zI (zA (zD (zK (zD (zi (W:=fun b=>True) fmo ?_)))))
  refine Zy [0,1] [] hn rfl (Zd 2 rfl hn (q_index (i:=i) rfl rfl rfl underlying155 sz59 rfl (mget hrg)) ?_)
  refine Zy [3,4,5,6,7] [] hn rfl (Zd 8 rfl hn (q_index (i:=i) rfl rfl rfl underlying155 sz59 rfl (mget hrg)) ?_)
  refine Zy [9,10,11,12] [] hn rfl (Zd 13 rfl hn (za rfl rfl rfl (r:=((i + 3:Nat):Int)) (i64w (by omega) (by omega))) ?_)
  refine zB (Ze1 14 rfl hn rfl (zCS _ _ (by assumption)) (d2_of_d1 (Zd 15 rfl hn (yY rfl rfl rfl (by omega) rfl) ?_)))
  refine Zd 16 rfl hn (za rfl rfl rfl (i64w (by omega) rfl)) ?_
  refine Zd 17 rfl hn (yw rfl rfl rfl) ?_
  refine Zd 18 rfl hn (zDX rfl rfl rfl) ?_
  refine Zy [19] [] hn rfl (zB (zg (by kernel_rfl) ?_))
  refine zA ?_
  obtain ⟨la2,hla2⟩:∃ z:Int,z = min (timI l i).2 (max la ((timI l i).1 + (wrd ws (i + 3):Int).tmod 4)):=⟨_,rfl⟩
  rw [← hla2]
  refine zi (W:=fun b=>True) fmo ?_
  refine Zy [0,2,3] [] hn rfl (Zd 4 rfl hn (q_index (i:=i) rfl rfl rfl underlying91 sz96 rfl (mget hsl)) ?_)
  refine Zy [5,6,9,11] [] hn rfl (zB ?_)
  refine zf 1 [7,10,12] (by kernel_rfl) ⟨?_,?_,?_,?_,trivial⟩
  focus
   refine br rfl (Zw hn (zW rfl rfl (id:=12) rfl underlying29 rfl rfl sees0)) fun _=>?_
   refine d2_of_d1 (zB ?_)
   refine zf 7 [10,12] (by kernel_rfl) ⟨?_,?_,?_,trivial⟩
   focus
    refine br rfl (zM rfl rfl rfl (nb hn rfl) underlying29 sz3 zr3 rfl rfl rfl (show _ = [.d (.int .i64 0)] from by kernel_rfl) (by kernel_rfl) rfl rfl rfl rfl rfl) fun _=>?_
    refine d2_of_d1 (zB ?_)
    refine zf 8 [10,12] (by kernel_rfl) ⟨?_,?_,?_,trivial⟩
    focus
     refine br rfl (s_append (id:=1081) rfl rfl rfl (nb hn rfl) elt29 trivial rfl rfl rfl (by simp [chunk]; omega) (by simp [chunk]; omega) (fun b hb=>trivial)) fun v96=>?_
     refine d2_of_d1 (zB ?_)
     refine zf 10 [12] (by kernel_rfl) ⟨?_,?_,trivial⟩
     refine br rfl (Zw hn (zW rfl rfl (id:=12) rfl underlying29 rfl rfl sees0)) fun _=>?_
     refine d2_of_d1 (Zy [14] [] hn rfl (zB (Zo 12 rfl (zM rfl rfl rfl (nb hn rfl) underlying29 sz3 zr3 rfl rfl rfl (show _ = [.d (.int .i64 0)] from by kernel_rfl) (by kernel_rfl) rfl rfl rfl rfl rfl) fun _=>?_)))
     refine d2_of_d1 (zB ?_)
     rotate_left
     refine br rfl (zM rfl rfl rfl (nb hn rfl) underlying29 sz3 zr3 rfl rfl rfl (show _ = [.d (.int .i64 0)] from by kernel_rfl) (by kernel_rfl) rfl rfl rfl rfl rfl) fun _=>?_
     refine d2_of_d1 (zB (Ze [10] [12] hn rfl (d2_of_d1 (Zy [14] [] hn rfl (zB ?_)))))
     rotate_left
    rotate_left 2
    focus
     refine br rfl (Zw hn (zW rfl rfl (id:=12) rfl underlying29 rfl rfl sees0)) fun _=>?_
     refine d2_of_d1 (zB ?_)
     refine zf 8 [12] (by kernel_rfl) ⟨?_,?_,trivial⟩
     refine br rfl (s_append (id:=1081) rfl rfl rfl (nb hn rfl) elt29 trivial rfl rfl rfl (by simp [chunk]; omega) (by simp [chunk]; omega) (fun b hb=>trivial)) fun v96=>?_
     refine d2_of_d1 (Zy [14] [] hn rfl (zB (Zo 12 rfl (zM rfl rfl rfl (nb hn rfl) underlying29 sz3 zr3 rfl rfl rfl (show _ = [.d (.int .i64 0)] from by kernel_rfl) (by kernel_rfl) rfl rfl rfl rfl rfl) fun _=>?_)))
     refine d2_of_d1 (zB ?_)
     rotate_left
     refine br rfl (zM rfl rfl rfl (nb hn rfl) underlying29 sz3 zr3 rfl rfl rfl (show _ = [.d (.int .i64 0)] from by kernel_rfl) (by kernel_rfl) rfl rfl rfl rfl rfl) fun _=>?_
     refine d2_of_d1 (zB (Zo 8 rfl (s_append (id:=1081) rfl rfl rfl (nb hn rfl) elt29 trivial rfl rfl rfl (by simp [chunk]; omega) (by simp [chunk]; omega) (fun b hb=>trivial)) fun v96=>?_))
     refine d2_of_d1 (Zy [14] [] hn rfl (zB ?_))
     rotate_left
    rotate_left 2
    focus
     refine br rfl (zM rfl rfl rfl (nb hn rfl) underlying29 sz3 zr3 rfl rfl rfl (show _ = [.d (.int .i64 0)] from by kernel_rfl) (by kernel_rfl) rfl rfl rfl rfl rfl) fun _=>?_
     refine d2_of_d1 (zB ?_)
     refine zf 8 [10] (by kernel_rfl) ⟨?_,?_,trivial⟩
     refine br rfl (s_append (id:=1081) rfl rfl rfl (nb hn rfl) elt29 trivial rfl rfl rfl (by simp [chunk]; omega) (by simp [chunk]; omega) (fun b hb=>trivial)) fun v96=>?_
     refine d2_of_d1 (zB (Ze [10] [12] hn rfl ?_))
     rotate_left
     refine br rfl (Zw hn (zW rfl rfl (id:=12) rfl underlying29 rfl rfl sees0)) fun _=>?_
     refine d2_of_d1 (zB (Zo 8 rfl (s_append (id:=1081) rfl rfl rfl (nb hn rfl) elt29 trivial rfl rfl rfl (by simp [chunk]; omega) (by simp [chunk]; omega) (fun b hb=>trivial)) fun v96=>?_))
     rotate_left
     all_goals
      refine d2_of_d1 (Zy [14] [] hn rfl (zB ?_))
    rotate_left 2
   rotate_left 6
   focus
    refine br rfl (Zw hn (zW rfl rfl (id:=12) rfl underlying29 rfl rfl sees0)) fun _=>?_
    refine d2_of_d1 (zB ?_)
    refine zf 7 [12] (by kernel_rfl) ⟨?_,?_,trivial⟩
    focus
     refine br rfl (zM rfl rfl rfl (nb hn rfl) underlying29 sz3 zr3 rfl rfl rfl (show _ = [.d (.int .i64 0)] from by kernel_rfl) (by kernel_rfl) rfl rfl rfl rfl rfl) fun _=>?_
     refine d2_of_d1 (zB ?_)
     refine zf 8 [12] (by kernel_rfl) ⟨?_,?_,trivial⟩
     refine br rfl (s_append (id:=1081) rfl rfl rfl (nb hn rfl) elt29 trivial rfl rfl rfl (by simp [chunk]; omega) (by simp [chunk]; omega) (fun b hb=>trivial)) fun v96=>?_
     refine d2_of_d1 (Zy [14] [] hn rfl (zB (Zo 12 rfl (zM rfl rfl rfl (nb hn rfl) underlying29 sz3 zr3 rfl rfl rfl (show _ = [.d (.int .i64 0)] from by kernel_rfl) (by kernel_rfl) rfl rfl rfl rfl rfl) fun _=>?_)))
     refine d2_of_d1 (zB ?_)
     rotate_left
     refine br rfl (zM rfl rfl rfl (nb hn rfl) underlying29 sz3 zr3 rfl rfl rfl (show _ = [.d (.int .i64 0)] from by kernel_rfl) (by kernel_rfl) rfl rfl rfl rfl rfl) fun _=>?_
     refine d2_of_d1 (zB (Zo 8 rfl (s_append (id:=1081) rfl rfl rfl (nb hn rfl) elt29 trivial rfl rfl rfl (by simp [chunk]; omega) (by simp [chunk]; omega) (fun b hb=>trivial)) fun v96=>?_))
     refine d2_of_d1 (Zy [14] [] hn rfl (zB ?_))
     rotate_left
    rotate_left 2
    refine br rfl (zM rfl rfl rfl (nb hn rfl) underlying29 sz3 zr3 rfl rfl rfl (show _ = [.d (.int .i64 0)] from by kernel_rfl) (by kernel_rfl) rfl rfl rfl rfl rfl) fun _=>?_
    refine d2_of_d1 (zB (Zo 7 rfl (zM rfl rfl rfl (nb hn rfl) underlying29 sz3 zr3 rfl rfl rfl (show _ = [.d (.int .i64 0)] from by kernel_rfl) (by kernel_rfl) rfl rfl rfl rfl rfl) fun _=>?_))
    refine d2_of_d1 (zB (Zo 8 rfl (s_append (id:=1081) rfl rfl rfl (nb hn rfl) elt29 trivial rfl rfl rfl (by simp [chunk]; omega) (by simp [chunk]; omega) (fun b hb=>trivial)) fun v96=>?_))
    refine d2_of_d1 (Zy [14] [] hn rfl (zB ?_))
    rotate_left
   rotate_left 3
   focus
    refine br rfl (zM rfl rfl rfl (nb hn rfl) underlying29 sz3 zr3 rfl rfl rfl (show _ = [.d (.int .i64 0)] from by kernel_rfl) (by kernel_rfl) rfl rfl rfl rfl rfl) fun _=>?_
    refine d2_of_d1 (zB ?_)
    refine zf 7 [10] (by kernel_rfl) ⟨?_,?_,trivial⟩
    focus
     refine br rfl (zM rfl rfl rfl (nb hn rfl) underlying29 sz3 zr3 rfl rfl rfl (show _ = [.d (.int .i64 0)] from by kernel_rfl) (by kernel_rfl) rfl rfl rfl rfl rfl) fun _=>?_
     refine d2_of_d1 (zB ?_)
     refine zf 8 [10] (by kernel_rfl) ⟨?_,?_,trivial⟩
     refine br rfl (s_append (id:=1081) rfl rfl rfl (nb hn rfl) elt29 trivial rfl rfl rfl (by simp [chunk]; omega) (by simp [chunk]; omega) (fun b hb=>trivial)) fun v96=>?_
     refine d2_of_d1 (zB (Ze [10] [12] hn rfl ?_))
     rotate_left
     refine br rfl (Zw hn (zW rfl rfl (id:=12) rfl underlying29 rfl rfl sees0)) fun _=>?_
     refine d2_of_d1 (zB (Zo 8 rfl (s_append (id:=1081) rfl rfl rfl (nb hn rfl) elt29 trivial rfl rfl rfl (by simp [chunk]; omega) (by simp [chunk]; omega) (fun b hb=>trivial)) fun v96=>?_))
     rotate_left
    rotate_left 2
    refine br rfl (Zw hn (zW rfl rfl (id:=12) rfl underlying29 rfl rfl sees0)) fun _=>?_
    refine d2_of_d1 (zB (Zo 7 rfl (zM rfl rfl rfl (nb hn rfl) underlying29 sz3 zr3 rfl rfl rfl (show _ = [.d (.int .i64 0)] from by kernel_rfl) (by kernel_rfl) rfl rfl rfl rfl rfl) fun _=>?_))
    refine d2_of_d1 (zB (Zo 8 rfl (s_append (id:=1081) rfl rfl rfl (nb hn rfl) elt29 trivial rfl rfl rfl (by simp [chunk]; omega) (by simp [chunk]; omega) (fun b hb=>trivial)) fun v96=>?_))
    rotate_left
    all_goals
     refine d2_of_d1 (Zy [14] [] hn rfl (zB ?_))
   rotate_left 3
  rotate_left 12
  focus
   refine br rfl (zM rfl rfl rfl (nb hn rfl) underlying29 sz3 zr3 rfl rfl rfl (show _ = [.d (.int .i64 0)] from by kernel_rfl) (by kernel_rfl) rfl rfl rfl rfl rfl) fun _=>?_
   refine d2_of_d1 (zB ?_)
   refine zf 1 [10,12] (by kernel_rfl) ⟨?_,?_,?_,trivial⟩
   focus
    refine br rfl (Zw hn (zW rfl rfl (id:=12) rfl underlying29 rfl rfl sees0)) fun _=>?_
    refine d2_of_d1 (zB ?_)
    refine zf 8 [10,12] (by kernel_rfl) ⟨?_,?_,?_,trivial⟩
    focus
     refine br rfl (s_append (id:=1081) rfl rfl rfl (nb hn rfl) elt29 trivial rfl rfl rfl (by simp [chunk]; omega) (by simp [chunk]; omega) (fun b hb=>trivial)) fun v96=>?_
     refine d2_of_d1 (zB ?_)
     refine zf 10 [12] (by kernel_rfl) ⟨?_,?_,trivial⟩
     refine br rfl (Zw hn (zW rfl rfl (id:=12) rfl underlying29 rfl rfl sees0)) fun _=>?_
     refine d2_of_d1 (Zy [14] [] hn rfl (zB (Zo 12 rfl (zM rfl rfl rfl (nb hn rfl) underlying29 sz3 zr3 rfl rfl rfl (show _ = [.d (.int .i64 0)] from by kernel_rfl) (by kernel_rfl) rfl rfl rfl rfl rfl) fun _=>?_)))
     refine d2_of_d1 (zB ?_)
     rotate_left
     refine br rfl (zM rfl rfl rfl (nb hn rfl) underlying29 sz3 zr3 rfl rfl rfl (show _ = [.d (.int .i64 0)] from by kernel_rfl) (by kernel_rfl) rfl rfl rfl rfl rfl) fun _=>?_
     refine d2_of_d1 (zB (Ze [10] [12] hn rfl (d2_of_d1 (Zy [14] [] hn rfl (zB ?_)))))
     rotate_left
    rotate_left 2
    focus
     refine br rfl (Zw hn (zW rfl rfl (id:=12) rfl underlying29 rfl rfl sees0)) fun _=>?_
     refine d2_of_d1 (zB ?_)
     refine zf 8 [12] (by kernel_rfl) ⟨?_,?_,trivial⟩
     refine br rfl (s_append (id:=1081) rfl rfl rfl (nb hn rfl) elt29 trivial rfl rfl rfl (by simp [chunk]; omega) (by simp [chunk]; omega) (fun b hb=>trivial)) fun v96=>?_
     refine d2_of_d1 (Zy [14] [] hn rfl (zB (Zo 12 rfl (zM rfl rfl rfl (nb hn rfl) underlying29 sz3 zr3 rfl rfl rfl (show _ = [.d (.int .i64 0)] from by kernel_rfl) (by kernel_rfl) rfl rfl rfl rfl rfl) fun _=>?_)))
     refine d2_of_d1 (zB ?_)
     rotate_left
     refine br rfl (zM rfl rfl rfl (nb hn rfl) underlying29 sz3 zr3 rfl rfl rfl (show _ = [.d (.int .i64 0)] from by kernel_rfl) (by kernel_rfl) rfl rfl rfl rfl rfl) fun _=>?_
     refine d2_of_d1 (zB (Zo 8 rfl (s_append (id:=1081) rfl rfl rfl (nb hn rfl) elt29 trivial rfl rfl rfl (by simp [chunk]; omega) (by simp [chunk]; omega) (fun b hb=>trivial)) fun v96=>?_))
     refine d2_of_d1 (Zy [14] [] hn rfl (zB ?_))
     rotate_left
    rotate_left 2
    focus
     refine br rfl (zM rfl rfl rfl (nb hn rfl) underlying29 sz3 zr3 rfl rfl rfl (show _ = [.d (.int .i64 0)] from by kernel_rfl) (by kernel_rfl) rfl rfl rfl rfl rfl) fun _=>?_
     refine d2_of_d1 (zB ?_)
     refine zf 8 [10] (by kernel_rfl) ⟨?_,?_,trivial⟩
     refine br rfl (s_append (id:=1081) rfl rfl rfl (nb hn rfl) elt29 trivial rfl rfl rfl (by simp [chunk]; omega) (by simp [chunk]; omega) (fun b hb=>trivial)) fun v96=>?_
     refine d2_of_d1 (zB (Ze [10] [12] hn rfl ?_))
     rotate_left
     refine br rfl (Zw hn (zW rfl rfl (id:=12) rfl underlying29 rfl rfl sees0)) fun _=>?_
     refine d2_of_d1 (zB (Zo 8 rfl (s_append (id:=1081) rfl rfl rfl (nb hn rfl) elt29 trivial rfl rfl rfl (by simp [chunk]; omega) (by simp [chunk]; omega) (fun b hb=>trivial)) fun v96=>?_))
     rotate_left
     all_goals
      refine d2_of_d1 (Zy [14] [] hn rfl (zB ?_))
    rotate_left 2
   rotate_left 6
   focus
    refine br rfl (Zw hn (zW rfl rfl (id:=12) rfl underlying29 rfl rfl sees0)) fun _=>?_
    refine d2_of_d1 (zB ?_)
    refine zf 1 [12] (by kernel_rfl) ⟨?_,?_,trivial⟩
    focus
     refine br rfl (Zw hn (zW rfl rfl (id:=12) rfl underlying29 rfl rfl sees0)) fun _=>?_
     refine d2_of_d1 (zB ?_)
     refine zf 8 [12] (by kernel_rfl) ⟨?_,?_,trivial⟩
     refine br rfl (s_append (id:=1081) rfl rfl rfl (nb hn rfl) elt29 trivial rfl rfl rfl (by simp [chunk]; omega) (by simp [chunk]; omega) (fun b hb=>trivial)) fun v96=>?_
     refine d2_of_d1 (Zy [14] [] hn rfl (zB (Zo 12 rfl (zM rfl rfl rfl (nb hn rfl) underlying29 sz3 zr3 rfl rfl rfl (show _ = [.d (.int .i64 0)] from by kernel_rfl) (by kernel_rfl) rfl rfl rfl rfl rfl) fun _=>?_)))
     refine d2_of_d1 (zB ?_)
     rotate_left
     refine br rfl (zM rfl rfl rfl (nb hn rfl) underlying29 sz3 zr3 rfl rfl rfl (show _ = [.d (.int .i64 0)] from by kernel_rfl) (by kernel_rfl) rfl rfl rfl rfl rfl) fun _=>?_
     refine d2_of_d1 (zB (Zo 8 rfl (s_append (id:=1081) rfl rfl rfl (nb hn rfl) elt29 trivial rfl rfl rfl (by simp [chunk]; omega) (by simp [chunk]; omega) (fun b hb=>trivial)) fun v96=>?_))
     refine d2_of_d1 (Zy [14] [] hn rfl (zB ?_))
     rotate_left
    rotate_left 2
    refine br rfl (zM rfl rfl rfl (nb hn rfl) underlying29 sz3 zr3 rfl rfl rfl (show _ = [.d (.int .i64 0)] from by kernel_rfl) (by kernel_rfl) rfl rfl rfl rfl rfl) fun _=>?_
    refine d2_of_d1 (zB (Ze [1] [12] hn rfl (d2_of_d1 (zB (Zo 8 rfl (s_append (id:=1081) rfl rfl rfl (nb hn rfl) elt29 trivial rfl rfl rfl (by simp [chunk]; omega) (by simp [chunk]; omega) (fun b hb=>trivial)) fun v96=>?_)))))
    refine d2_of_d1 (Zy [14] [] hn rfl (zB ?_))
    rotate_left
   rotate_left 3
   focus
    refine br rfl (zM rfl rfl rfl (nb hn rfl) underlying29 sz3 zr3 rfl rfl rfl (show _ = [.d (.int .i64 0)] from by kernel_rfl) (by kernel_rfl) rfl rfl rfl rfl rfl) fun _=>?_
    refine d2_of_d1 (zB ?_)
    refine zf 1 [10] (by kernel_rfl) ⟨?_,?_,trivial⟩
    focus
     refine br rfl (Zw hn (zW rfl rfl (id:=12) rfl underlying29 rfl rfl sees0)) fun _=>?_
     refine d2_of_d1 (zB ?_)
     refine zf 8 [10] (by kernel_rfl) ⟨?_,?_,trivial⟩
     refine br rfl (s_append (id:=1081) rfl rfl rfl (nb hn rfl) elt29 trivial rfl rfl rfl (by simp [chunk]; omega) (by simp [chunk]; omega) (fun b hb=>trivial)) fun v96=>?_
     refine d2_of_d1 (zB (Ze [10] [12] hn rfl ?_))
     rotate_left
     refine br rfl (Zw hn (zW rfl rfl (id:=12) rfl underlying29 rfl rfl sees0)) fun _=>?_
     refine d2_of_d1 (zB (Zo 8 rfl (s_append (id:=1081) rfl rfl rfl (nb hn rfl) elt29 trivial rfl rfl rfl (by simp [chunk]; omega) (by simp [chunk]; omega) (fun b hb=>trivial)) fun v96=>?_))
     rotate_left
    rotate_left 2
    refine br rfl (Zw hn (zW rfl rfl (id:=12) rfl underlying29 rfl rfl sees0)) fun _=>?_
    refine d2_of_d1 (zB (Ze [1] [12] hn rfl (d2_of_d1 (zB (Zo 8 rfl (s_append (id:=1081) rfl rfl rfl (nb hn rfl) elt29 trivial rfl rfl rfl (by simp [chunk]; omega) (by simp [chunk]; omega) (fun b hb=>trivial)) fun v96=>?_)))))
    rotate_left
    all_goals
     refine d2_of_d1 (Zy [14] [] hn rfl (zB ?_))
   rotate_left 3
  rotate_left 12
  focus
   refine br rfl (Zw hn (zW rfl rfl (id:=12) rfl underlying29 rfl rfl sees0)) fun _=>?_
   refine d2_of_d1 (zB ?_)
   refine zf 1 [7,12] (by kernel_rfl) ⟨?_,?_,?_,trivial⟩
   focus
    refine br rfl (Zw hn (zW rfl rfl (id:=12) rfl underlying29 rfl rfl sees0)) fun _=>?_
    refine d2_of_d1 (zB ?_)
    refine zf 7 [12] (by kernel_rfl) ⟨?_,?_,trivial⟩
    focus
     refine br rfl (zM rfl rfl rfl (nb hn rfl) underlying29 sz3 zr3 rfl rfl rfl (show _ = [.d (.int .i64 0)] from by kernel_rfl) (by kernel_rfl) rfl rfl rfl rfl rfl) fun _=>?_
     refine d2_of_d1 (zB ?_)
     refine zf 8 [12] (by kernel_rfl) ⟨?_,?_,trivial⟩
     refine br rfl (s_append (id:=1081) rfl rfl rfl (nb hn rfl) elt29 trivial rfl rfl rfl (by simp [chunk]; omega) (by simp [chunk]; omega) (fun b hb=>trivial)) fun v96=>?_
     refine d2_of_d1 (Zy [14] [] hn rfl (zB (Zo 12 rfl (zM rfl rfl rfl (nb hn rfl) underlying29 sz3 zr3 rfl rfl rfl (show _ = [.d (.int .i64 0)] from by kernel_rfl) (by kernel_rfl) rfl rfl rfl rfl rfl) fun _=>?_)))
     refine d2_of_d1 (zB ?_)
     rotate_left
     refine br rfl (zM rfl rfl rfl (nb hn rfl) underlying29 sz3 zr3 rfl rfl rfl (show _ = [.d (.int .i64 0)] from by kernel_rfl) (by kernel_rfl) rfl rfl rfl rfl rfl) fun _=>?_
     refine d2_of_d1 (zB (Zo 8 rfl (s_append (id:=1081) rfl rfl rfl (nb hn rfl) elt29 trivial rfl rfl rfl (by simp [chunk]; omega) (by simp [chunk]; omega) (fun b hb=>trivial)) fun v96=>?_))
     refine d2_of_d1 (Zy [14] [] hn rfl (zB ?_))
     rotate_left
    rotate_left 2
    refine br rfl (zM rfl rfl rfl (nb hn rfl) underlying29 sz3 zr3 rfl rfl rfl (show _ = [.d (.int .i64 0)] from by kernel_rfl) (by kernel_rfl) rfl rfl rfl rfl rfl) fun _=>?_
    refine d2_of_d1 (zB (Zo 7 rfl (zM rfl rfl rfl (nb hn rfl) underlying29 sz3 zr3 rfl rfl rfl (show _ = [.d (.int .i64 0)] from by kernel_rfl) (by kernel_rfl) rfl rfl rfl rfl rfl) fun _=>?_))
    refine d2_of_d1 (zB (Zo 8 rfl (s_append (id:=1081) rfl rfl rfl (nb hn rfl) elt29 trivial rfl rfl rfl (by simp [chunk]; omega) (by simp [chunk]; omega) (fun b hb=>trivial)) fun v96=>?_))
    refine d2_of_d1 (Zy [14] [] hn rfl (zB ?_))
    rotate_left
   rotate_left 3
   focus
    refine br rfl (zM rfl rfl rfl (nb hn rfl) underlying29 sz3 zr3 rfl rfl rfl (show _ = [.d (.int .i64 0)] from by kernel_rfl) (by kernel_rfl) rfl rfl rfl rfl rfl) fun _=>?_
    refine d2_of_d1 (zB ?_)
    refine zf 1 [12] (by kernel_rfl) ⟨?_,?_,trivial⟩
    focus
     refine br rfl (Zw hn (zW rfl rfl (id:=12) rfl underlying29 rfl rfl sees0)) fun _=>?_
     refine d2_of_d1 (zB ?_)
     refine zf 8 [12] (by kernel_rfl) ⟨?_,?_,trivial⟩
     refine br rfl (s_append (id:=1081) rfl rfl rfl (nb hn rfl) elt29 trivial rfl rfl rfl (by simp [chunk]; omega) (by simp [chunk]; omega) (fun b hb=>trivial)) fun v96=>?_
     refine d2_of_d1 (Zy [14] [] hn rfl (zB (Zo 12 rfl (zM rfl rfl rfl (nb hn rfl) underlying29 sz3 zr3 rfl rfl rfl (show _ = [.d (.int .i64 0)] from by kernel_rfl) (by kernel_rfl) rfl rfl rfl rfl rfl) fun _=>?_)))
     refine d2_of_d1 (zB ?_)
     rotate_left
     refine br rfl (zM rfl rfl rfl (nb hn rfl) underlying29 sz3 zr3 rfl rfl rfl (show _ = [.d (.int .i64 0)] from by kernel_rfl) (by kernel_rfl) rfl rfl rfl rfl rfl) fun _=>?_
     refine d2_of_d1 (zB (Zo 8 rfl (s_append (id:=1081) rfl rfl rfl (nb hn rfl) elt29 trivial rfl rfl rfl (by simp [chunk]; omega) (by simp [chunk]; omega) (fun b hb=>trivial)) fun v96=>?_))
     refine d2_of_d1 (Zy [14] [] hn rfl (zB ?_))
     rotate_left
    rotate_left 2
    refine br rfl (zM rfl rfl rfl (nb hn rfl) underlying29 sz3 zr3 rfl rfl rfl (show _ = [.d (.int .i64 0)] from by kernel_rfl) (by kernel_rfl) rfl rfl rfl rfl rfl) fun _=>?_
    refine d2_of_d1 (zB (Ze [1] [12] hn rfl (d2_of_d1 (zB (Zo 8 rfl (s_append (id:=1081) rfl rfl rfl (nb hn rfl) elt29 trivial rfl rfl rfl (by simp [chunk]; omega) (by simp [chunk]; omega) (fun b hb=>trivial)) fun v96=>?_)))))
    refine d2_of_d1 (Zy [14] [] hn rfl (zB ?_))
    rotate_left
   rotate_left 3
   focus
    refine br rfl (zM rfl rfl rfl (nb hn rfl) underlying29 sz3 zr3 rfl rfl rfl (show _ = [.d (.int .i64 0)] from by kernel_rfl) (by kernel_rfl) rfl rfl rfl rfl rfl) fun _=>?_
    refine d2_of_d1 (zB ?_)
    refine zf 1 [7] (by kernel_rfl) ⟨?_,?_,trivial⟩
    refine br rfl (Zw hn (zW rfl rfl (id:=12) rfl underlying29 rfl rfl sees0)) fun _=>?_
    refine d2_of_d1 (zB (Zo 7 rfl (zM rfl rfl rfl (nb hn rfl) underlying29 sz3 zr3 rfl rfl rfl (show _ = [.d (.int .i64 0)] from by kernel_rfl) (by kernel_rfl) rfl rfl rfl rfl rfl) fun _=>?_))
    rotate_left
    refine br rfl (zM rfl rfl rfl (nb hn rfl) underlying29 sz3 zr3 rfl rfl rfl (show _ = [.d (.int .i64 0)] from by kernel_rfl) (by kernel_rfl) rfl rfl rfl rfl rfl) fun _=>?_
    refine d2_of_d1 (zB (Ze [1] [12] hn rfl ?_))
    rotate_left
    all_goals
     refine d2_of_d1 (zB (Zo 8 rfl (s_append (id:=1081) rfl rfl rfl (nb hn rfl) elt29 trivial rfl rfl rfl (by simp [chunk]; omega) (by simp [chunk]; omega) (fun b hb=>trivial)) fun v96=>?_))
     refine d2_of_d1 (Zy [14] [] hn rfl (zB ?_))
   rotate_left 2
  rotate_left 8
  focus
   refine br rfl (zM rfl rfl rfl (nb hn rfl) underlying29 sz3 zr3 rfl rfl rfl (show _ = [.d (.int .i64 0)] from by kernel_rfl) (by kernel_rfl) rfl rfl rfl rfl rfl) fun _=>?_
   refine d2_of_d1 (zB ?_)
   refine zf 1 [7,10] (by kernel_rfl) ⟨?_,?_,?_,trivial⟩
   focus
    refine br rfl (Zw hn (zW rfl rfl (id:=12) rfl underlying29 rfl rfl sees0)) fun _=>?_
    refine d2_of_d1 (zB ?_)
    refine zf 7 [10] (by kernel_rfl) ⟨?_,?_,trivial⟩
    focus
     refine br rfl (zM rfl rfl rfl (nb hn rfl) underlying29 sz3 zr3 rfl rfl rfl (show _ = [.d (.int .i64 0)] from by kernel_rfl) (by kernel_rfl) rfl rfl rfl rfl rfl) fun _=>?_
     refine d2_of_d1 (zB ?_)
     refine zf 8 [10] (by kernel_rfl) ⟨?_,?_,trivial⟩
     refine br rfl (s_append (id:=1081) rfl rfl rfl (nb hn rfl) elt29 trivial rfl rfl rfl (by simp [chunk]; omega) (by simp [chunk]; omega) (fun b hb=>trivial)) fun v96=>?_
     refine d2_of_d1 (zB (Ze [10] [12] hn rfl ?_))
     rotate_left
     refine br rfl (Zw hn (zW rfl rfl (id:=12) rfl underlying29 rfl rfl sees0)) fun _=>?_
     refine d2_of_d1 (zB (Zo 8 rfl (s_append (id:=1081) rfl rfl rfl (nb hn rfl) elt29 trivial rfl rfl rfl (by simp [chunk]; omega) (by simp [chunk]; omega) (fun b hb=>trivial)) fun v96=>?_))
     rotate_left
    rotate_left 2
    refine br rfl (Zw hn (zW rfl rfl (id:=12) rfl underlying29 rfl rfl sees0)) fun _=>?_
    refine d2_of_d1 (zB (Zo 7 rfl (zM rfl rfl rfl (nb hn rfl) underlying29 sz3 zr3 rfl rfl rfl (show _ = [.d (.int .i64 0)] from by kernel_rfl) (by kernel_rfl) rfl rfl rfl rfl rfl) fun _=>?_))
    refine d2_of_d1 (zB (Zo 8 rfl (s_append (id:=1081) rfl rfl rfl (nb hn rfl) elt29 trivial rfl rfl rfl (by simp [chunk]; omega) (by simp [chunk]; omega) (fun b hb=>trivial)) fun v96=>?_))
    rotate_left
   rotate_left 3
   focus
    refine br rfl (zM rfl rfl rfl (nb hn rfl) underlying29 sz3 zr3 rfl rfl rfl (show _ = [.d (.int .i64 0)] from by kernel_rfl) (by kernel_rfl) rfl rfl rfl rfl rfl) fun _=>?_
    refine d2_of_d1 (zB ?_)
    refine zf 1 [10] (by kernel_rfl) ⟨?_,?_,trivial⟩
    focus
     refine br rfl (Zw hn (zW rfl rfl (id:=12) rfl underlying29 rfl rfl sees0)) fun _=>?_
     refine d2_of_d1 (zB ?_)
     refine zf 8 [10] (by kernel_rfl) ⟨?_,?_,trivial⟩
     refine br rfl (s_append (id:=1081) rfl rfl rfl (nb hn rfl) elt29 trivial rfl rfl rfl (by simp [chunk]; omega) (by simp [chunk]; omega) (fun b hb=>trivial)) fun v96=>?_
     refine d2_of_d1 (zB (Ze [10] [12] hn rfl ?_))
     rotate_left
     refine br rfl (Zw hn (zW rfl rfl (id:=12) rfl underlying29 rfl rfl sees0)) fun _=>?_
     refine d2_of_d1 (zB (Zo 8 rfl (s_append (id:=1081) rfl rfl rfl (nb hn rfl) elt29 trivial rfl rfl rfl (by simp [chunk]; omega) (by simp [chunk]; omega) (fun b hb=>trivial)) fun v96=>?_))
     rotate_left
    rotate_left 2
    refine br rfl (Zw hn (zW rfl rfl (id:=12) rfl underlying29 rfl rfl sees0)) fun _=>?_
    refine d2_of_d1 (zB (Ze [1] [12] hn rfl (d2_of_d1 (zB (Zo 8 rfl (s_append (id:=1081) rfl rfl rfl (nb hn rfl) elt29 trivial rfl rfl rfl (by simp [chunk]; omega) (by simp [chunk]; omega) (fun b hb=>trivial)) fun v96=>?_)))))
    rotate_left
   rotate_left 3
   focus
    refine br rfl (Zw hn (zW rfl rfl (id:=12) rfl underlying29 rfl rfl sees0)) fun _=>?_
    refine d2_of_d1 (zB ?_)
    refine zf 1 [7] (by kernel_rfl) ⟨?_,?_,trivial⟩
    refine br rfl (Zw hn (zW rfl rfl (id:=12) rfl underlying29 rfl rfl sees0)) fun _=>?_
    refine d2_of_d1 (zB (Zo 7 rfl (zM rfl rfl rfl (nb hn rfl) underlying29 sz3 zr3 rfl rfl rfl (show _ = [.d (.int .i64 0)] from by kernel_rfl) (by kernel_rfl) rfl rfl rfl rfl rfl) fun _=>?_))
    rotate_left
    refine br rfl (zM rfl rfl rfl (nb hn rfl) underlying29 sz3 zr3 rfl rfl rfl (show _ = [.d (.int .i64 0)] from by kernel_rfl) (by kernel_rfl) rfl rfl rfl rfl rfl) fun _=>?_
    refine d2_of_d1 (zB (Ze [1] [12] hn rfl ?_))
    rotate_left
    all_goals
     refine d2_of_d1 (zB (Zo 8 rfl (s_append (id:=1081) rfl rfl rfl (nb hn rfl) elt29 trivial rfl rfl rfl (by simp [chunk]; omega) (by simp [chunk]; omega) (fun b hb=>trivial)) fun v96=>?_))
   rotate_left 2
   all_goals
    refine d2_of_d1 (Zy [14] [] hn rfl (zB ?_))
  rotate_left 8
  all_goals
   refine Zo 13 rfl (s_append (id:=1082) rfl rfl rfl (nb hn rfl) elt29 trivial rfl rfl rfl (by simp [chunk]; omega) (by simp [chunk]; omega) (fun b hb=>trivial)) fun v101=>?_
   refine d2_of_d1 (zB (Zo 15 rfl (s_storeRow rfl rfl rfl rfl rfl (rid:=1081) rfl (id:=12) rfl sz29 (Nat.le_of_ble_eq_true rfl) rfl trivial) fun _=>?_))
   refine d2_of_d1 (Zy [16] [] hn rfl (zB (Zo 17 rfl (s_storeRow rfl rfl rfl rfl rfl (rid:=1082) rfl (id:=12) rfl sz29 (Nat.le_of_ble_eq_true rfl) rfl trivial) fun _=>?_)))
   refine d2_of_d1 (zB (zg (by kernel_rfl) ?_))
   refine zN (zA (zG (Zt 1 [] hn rfl (Zs hn (za rfl rfl rfl (r:=((i + 1:Nat):Int)) (i64w (by omega) (by omega))) ?_))))
   refine Zt 1 [] hn rfl (zR ?_)
   exact Zr ⟨(i + 1,la2,(ps ++ [sl.price],v96),(ms ++ [la2],v101)),by simp; omega⟩ ⟨.inl rfl,.inl rfl,zF _⟩ ⟨.inl rfl,.inl (congrArg (fun z=>some (Res.row v96 3 1 z)) (by rw [List.map_append]; rfl)),.inl (congrArg (fun z=>some (Res.row v101 3 1 z)) (by rw [List.map_append]; rfl)),trivial⟩ (by simp only; omega)
 obtain rfl:i = l.length:=by simp at hb2; omega
 refine zV (zE (zE (zL (zA (zD (Zu (Zt 1 [] hn rfl (Zv (zK (awp_loop_on (ι:={x:Nat × List Int × Value // x.1 ≤ d.orders.length ∧ x.2.1.length = x.1}) (fun x=>(15,true,.d (.int .i64 (x.1.1:Nat))) :: anys [104,105,106,107,108,111,112,113,114,115,116,16,117,118,119,120,121,122,123,124,125,126,127,128,129,130,131,132,133,134,135,109,110]) (fun x=>(12,.box b12 31 [.val vp,.val vm,.val x.1.2.2]) :: (1083,.row x.1.2.2 3 1 (x.1.2.1.map intE)) :: gones [16]) (fun x=>d.orders.length - x.1.1) ⟨(0,[],.slice none 0 0),by simp⟩ ⟨.inl rfl,zF _⟩ ⟨.inl rfl,.inl rfl,zQ _⟩ ?_))))))))))
 rintro ⟨⟨n,os,vo⟩,hn1,hos⟩
 dsimp only
 dsimp only at hn1 hos
 refine zD (Zu (Zt 5 [2] hn rfl (Zv (zH rfl (fun hb3=>?_) (fun hb3=>?_)))))
 ·
  have hnl:n < d.orders.length:=by simp at hb3; omega
  obtain ⟨o,hod⟩:=zT hnl
  have hbo:=zEA (hob o (List.mem_of_getElem? hod))
  have hwb:=zA0 hw (n + 7)
  have hmo:=zFf (a:=(wrd ws (n + 7):Nat)) (b:=o.mhi - o.mlo + 1) (by omega) (by omega)
  refine zI (zA (zD (zK (Zu (Zt 3 [2] hn rfl (Zi (i:=n) hn rfl rfl (mget hod) ?_))))))
  refine Zt 2 [] hn rfl (Zb 16 hn rfl fun b16=>Zt 1 [16] hn rfl (Zv (zi (W:=fun b=>b ≠ b16) fmo ?_)))
  refine Zy [0,2,3,4,5] [16] hn rfl (Zd 6 rfl hn (za rfl rfl rfl (r:=((n + 7:Nat):Int)) (i64w (by omega) (by omega))) ?_)
  refine Zy [8,9,10,11] [16,16] hn rfl (Zd 12 rfl hn (z7 rfl rfl rfl (i64w (by omega) rfl)) ?_)
  refine Zd 13 rfl hn (za rfl rfl rfl (i64w (by omega) rfl)) ?_
  refine zB ?_
  refine zf 1 [7] (by kernel_rfl) ⟨?_,?_,trivial⟩
  refine br rfl (Zw hn (zW rfl rfl (id:=12) rfl underlying29 rfl rfl sees0)) fun _=>?_
  refine d2_of_d1 (zB (Ze1 7 rfl hn rfl (zCS _ _ (by assumption)) (d2_of_d1 (Zd 14 rfl hn (yY rfl rfl rfl (by omega) rfl) ?_))))
  refine Zd 15 rfl hn (za rfl rfl rfl (i64w (by omega) rfl)) ?_
  refine zB (Zo 16 rfl (zM rfl rfl rfl (nb hn rfl) underlying29 sz3 zr3 rfl rfl rfl (show _ = [.d (.int .i64 0)] from by kernel_rfl) (by kernel_rfl) rfl rfl rfl rfl rfl) fun _=>?_)
  rotate_left
  focus
   refine br rfl (s_call [] (fun _=>zCS _ _ (by assumption)) rfl (zz rfl) rfl (nb hn rfl) (fun _=>trivial) rfl rfl (.refl _)) fun _=>?_
   refine d2_of_d1 (Zd 14 rfl hn (yY rfl rfl rfl (by omega) rfl) ?_)
   refine Zd 15 rfl hn (za rfl rfl rfl (i64w (by omega) rfl)) ?_
   refine zB ?_
   refine zf 1 [16] (by kernel_rfl) ⟨?_,?_,trivial⟩
   refine br rfl (Zw hn (zW rfl rfl (id:=12) rfl underlying29 rfl rfl sees0)) fun _=>?_
   refine d2_of_d1 (zB (Zo 16 rfl (zM rfl rfl rfl (nb hn rfl) underlying29 sz3 zr3 rfl rfl rfl (show _ = [.d (.int .i64 0)] from by kernel_rfl) (by kernel_rfl) rfl rfl rfl rfl rfl) fun _=>?_))
   rotate_left
   refine br rfl (zM rfl rfl rfl (nb hn rfl) underlying29 sz3 zr3 rfl rfl rfl (show _ = [.d (.int .i64 0)] from by kernel_rfl) (by kernel_rfl) rfl rfl rfl rfl rfl) fun _=>?_
   refine d2_of_d1 (zB (Ze [1] [12] hn rfl ?_))
   rotate_left
  rotate_left 2
  all_goals
   refine d2_of_d1 (zB (yI (i:=1083) (j:=16) rfl rfl rfl (fun hne1083_16=>?_)))
   refine Zo 17 rfl (s_append (id:=1083) rfl rfl rfl (nb hn rfl) elt29 trivial rfl rfl rfl (by simp [chunk]; omega) (by simp [chunk]; omega) (fun b hb=>(fun e=>hne1083_16 _ hb (congrArg some e.symm)))) fun v134=>?_
   refine d2_of_d1 (Zy [18] [] hn rfl (zB (yI (i:=12) (j:=16) rfl rfl rfl (fun hne12_16=>?_))))
   refine Zo 19 rfl (s_storeRow rfl rfl rfl rfl rfl (rid:=1083) rfl (id:=12) rfl sz29 (Nat.le_of_ble_eq_true rfl) rfl (fun e=>hne12_16 _ rfl (congrArg some e.symm))) fun _=>?_
   refine d2_of_d1 (zB (zg (by kernel_rfl) ?_))
   refine zN (zA (zG (Zt 1 [] hn rfl (Zs hn (za rfl rfl rfl (r:=((n + 1:Nat):Int)) (i64w (by omega) (by omega))) ?_))))
   refine Zt 1 [] hn rfl (zR ?_)
   exact Zr ⟨(n + 1,os ++ [o.mlo + (wrd ws (n + 7):Int).tmod (o.mhi - o.mlo + 1)],v134),by simp; omega⟩ ⟨.inl rfl,zF _⟩ ⟨.inl rfl,.inl (congrArg (fun z=>some (Res.row v134 3 1 z)) (by rw [List.map_append]; rfl)),zQ _⟩ (by simp only; omega)
 obtain rfl:n = d.orders.length:=by simp at hb3; omega
 refine zV (zE (zE (zL (zA (zD (zx (gh_rowcell (id:=12) (k:=0) (rid:=1081) rfl rfl rfl) ?_))))))
 refine zx (gh_rowcell (id:=12) (k:=1) (rid:=1082) rfl rfl rfl) ?_
 refine zx (gh_rowcell (id:=12) (k:=2) (rid:=1083) rfl rfl rfl) ?_
 refine zi (W:=fun b=>b ≠ b2 ∧ b ≠ b12) fmo ?_
 refine Zy [0,1,2,3,4] [2,12,2,12] hn rfl (zB ?_)
 refine Ze1 5 rfl hn rfl ((by have h:=IsT4_ok (tldD d ws) (fltI (tldD d ws)) ⟨ps,ms,os⟩ v (show d.orders.length ≤ 1000 by omega) zCh.1 zCh.2; rw [hfl] at h; exact h)) ?_
 refine d2_of_d1 (zB (yI (i:=4) (j:=2) rfl rfl rfl (fun hne4_2=>?_)))
 refine yI (i:=4) (j:=12) rfl rfl rfl (fun hne4_12=>?_)
 refine Zo 6 rfl (zw rfl rfl rfl rfl rfl rfl (id:=4) rfl sz27 rfl (Nat.le_of_ble_eq_true rfl) rfl ⟨fun e=>hne4_2 _ rfl (congrArg some e.symm),fun e=>hne4_12 _ rfl (congrArg some e.symm)⟩) fun _=>?_
 refine d2_of_d1 (zB (yI (i:=5) (j:=2) rfl rfl rfl (fun hne5_2=>?_)))
 refine yI (i:=5) (j:=12) rfl rfl rfl (fun hne5_12=>?_)
 refine Zo 7 rfl (zw rfl rfl rfl rfl rfl rfl (id:=5) rfl sz31 rfl (Nat.le_of_ble_eq_true rfl) rfl ⟨fun e=>hne5_2 _ rfl (congrArg some e.symm),fun e=>hne5_12 _ rfl (congrArg some e.symm)⟩) fun _=>?_
 refine d2_of_d1 (Zy [8] [] hn rfl (zB (zg (by kernel_rfl) ?_)))
 refine zA (zJ ?_)
 exact ret_E (.inl rfl) ⟨(tldD d ws,⟨ps,ms,os⟩,isTB (tldD d ws) l ⟨ps,ms,os⟩),by rw [← hfl]; exact told_ok v hw q1 hb7 h0 (by rw [hfl]; exact ht)⟩ (zDz rfl (.d (.cellA rfl (id:=4) rfl underlying27 rfl sz27 rfl rfl)) (.d (.cellA rfl (id:=5) rfl underlying31 rfl sz31 rfl rfl)) (.tmp rfl)) trivial
end Go.Proofs.YticlpkgpmmhemaaGreatDoor
namespace Go.Proofs.YticlpkgpmmhemaaGreatDoor
open Go.RowKit
set_option linter.all false
theorem zDq {x:Dsk} {t:Tru} (h0:deskI x = 0) (hT:TruW x (readI x.b x.tape).1 t) (ht:timesB (readI x.b x.tape).1 = true) {os:List Int} (hos:∀ n ∈ os,0 ≤ n ∧ n < x.orders.length):sureO x os = 0:=by
  obtain ⟨hr0,ho5,hf,hob⟩:=y3 h0
  obtain ⟨hpo,hl8⟩:=yf (b:=x.b) (s:=x.tape)
  have v:=ym hr0
  have h1:(os.all fun n=>withinB n 0 ((x.orders.length:Int) - 1)) = true:=List.all_eq_true.2 fun n hn=>zh.2 (by have:=hos n hn; omega)
  have h2:(pricesI x.b x.tape).2 = 0:=by
    obtain ⟨ms,hms⟩:=Option.isSome_iff_exists.1 ((yp (out:=[]) (o:=0) kL v hpo).1.2 ⟨_,hT.tr⟩)
    unfold pricesI
    rw [hr0,hms]; rfl
  have h3:(minutesI x.b x.tape).2 = 0:=by
    unfold minutesI
    rw [hr0,zBa hpo,ht]; rfl
  unfold sureO
  rw [h0,h1,h2,h3]; rfl
theorem bnd_in {F:Nat → Int → Option Nat} {fee:Int} {o:Ord} {r:(Int × Int) × Bool} {n:Int} (hb:BndR F fee o r) (h:PriS F fee o (fun _=>True) n):r.2 = true ∧ r.1.1 ≤ n ∧ n ≤ r.1.2:=by
  rcases hb with ⟨_,h1⟩ | ⟨h0,⟨h1,h2⟩ | ⟨_,_,_,h2⟩⟩
  · exact (h1 n h).elim
  · rw [h1] at h0; cases h0
  · exact ⟨h0,h2 n h⟩
theorem zGa {d:Dsk} {l:List Prt} {mm:List (Int × Int)} (h:SurH d l mm) {j:Nat} {o:Ord} (hod:d.orders[j]? = some o):OddOK d.b l o:=⟨h.v,h.po,(zEA (h.ob o (List.mem_of_getElem? hod))).1,h.ex⟩
/-- How an order is filled in a truth, and what is so of it in all of them. -/
theorem fill_law {d : Dsk} {l : List Prt} {mm : List (Int × Int)} {t : Tru} (h : SurH d l mm) (hT : TruW d l t) {j : Nat} {o : Ord} (hod : d.orders[j]? = some o) :
    (fillGo d.fee o (t.orders.getD j 0) t.prices t.minutes 0 l = (-1,0) ∧ missI d.b l d.fee o mm = true) ∨
    ∃ k:Nat,k < l.length ∧ fillGo d.fee o (t.orders.getD j 0) t.prices t.minutes 0 l = ((k:Int),priceO d.fee o (t.prices.getD k 0)) ∧ saleB d.b l d.fee o mm k = true ∧ (bndI d.b l d.fee o mm).2 = true ∧ (bndI d.b l d.fee o mm).1.1 ≤ priceO d.fee o (t.prices.getD k 0) ∧ priceO d.fee o (t.prices.getD k 0) ≤ (bndI d.b l d.fee o mm).1.2:=by
  have hok:=zGa h hod
  have hod2:=hT.od j (List.getElem?_eq_some_iff.1 hod).1
  rw [zP hod] at hod2
  have hmm:=h.mt
  subst hmm
  obtain ⟨hcl,hc⟩:=zFN hT.rm (t.orders.getD j 0) l.length (Nat.le_refl _)
  have hw:=wait_of h.po hT.rm hod2
  rcases fill_is (fee:=d.fee) (o:=o) (ps:=t.prices) (ms:=t.minutes) (l:=l) (fr:=cntM l (fun j=>t.minutes.getD j 0) (t.orders.getD j 0) l.length) (a:=t.orders.getD j 0) hc with ⟨k,h1,h2⟩ | ⟨h1,h2⟩
  · right
    obtain ⟨c1,c2⟩:=zBT hok d.fee (timL l l.length) (cntM l (fun j=>t.minutes.getD j 0) (t.orders.getD j 0) l.length) k
    have hs:=c1.2 ⟨hw,_,hT.tr,h2⟩
    obtain ⟨m,hm⟩:=Option.isSome_iff_exists.1 hs
    have hb:=(hT.tr k h2.2.1).bd
    obtain ⟨p,hp⟩:∃ p:Nat,t.prices.getD k 0 = (p:Nat):=⟨(t.prices.getD k 0).toNat,by omega⟩
    have hb2:1 ≤ t.prices.getD k 0 ∧ t.prices.getD k 0 ≤ 799:=hb
    have hmb:=(c2 m hm p (by omega)).2 ⟨_,hT.tr,h2,hp⟩
    have hP:PriS (canO d.b l d.fee o (timL l l.length)) d.fee o (fun _=>True) (priceO d.fee o (t.prices.getD k 0)):=⟨_,(k:Nat),m,p,hm,by omega,trivial,by omega,hmb,by rw [hp]⟩
    obtain ⟨b1,b2,b3⟩:=bnd_in (zCC d.b l d.fee o (timL l l.length)) hP
    exact ⟨k,h2.2.1,h1,List.any_eq_true.2 ⟨_,List.mem_range.2 (by have:=h2.1; omega),hs⟩,b1,b2,b3⟩
  · left
    have hs:=(can_miss hok d.fee (timL l l.length) (cntM l (fun j=>t.minutes.getD j 0) (t.orders.getD j 0) l.length)).2 ⟨hcl,hw,_,hT.tr,h2⟩
    obtain ⟨m,hm⟩:=Option.isSome_iff_exists.1 hs
    exact ⟨h1,missI_iff.2 ⟨_,m,hm,trivial⟩⟩
/-- What the program answers about a desk with a truth. -/
structure TldF (x:Dsk) (t:Tru) (l:List Prt) (mm:List (Int × Int)) (fs bs:List (Int × Int)) (vs:List Int):Prop where
  S:SurH x l mm
  T:TruW x l t
  hl:(readI x.b x.tape).1 = l
  p:playI x t = (fs,0)
  b:boundsI x = (bs,0)
  v:verdsI x = (vs,0)
  fl:fs.length = x.orders.length
  bl:bs.length = x.orders.length
  vl:vs.length = x.orders.length
  pv:(deskI x == 0 && truthW x (readI x.b x.tape).1 t) = true
  su:∀ j:Nat,j < x.orders.length → sureO x [(j:Int)] = 0
  at_:∀ j o,x.orders[j]? = some o → fs[j]? = some (fillGo x.fee o (t.orders.getD j 0) t.prices t.minutes 0 l) ∧ bs[j]? = some (bndI x.b l x.fee o mm).1 ∧ vs[j]? = some (verdI x.b l x.fee o mm) ∧ salesI x (j:Nat) = (salesO x.b l x.fee o mm,0)
theorem tld_facts {x:Dsk} {t:Tru} (h0:deskI x = 0) (hT:TruW x (readI x.b x.tape).1 t) (ht:timesB (readI x.b x.tape).1 = true):∃ l mm fs bs vs,TldF x t l mm fs bs vs:=by
  have hs:=zDq h0 hT ht (os:=[]) (fun n hn=>by cases hn)
  obtain ⟨hS,_⟩:=zA3 hs
  have hw:=(zCO (y3 h0).1).2 hT
  refine ⟨_,_,fillsN x.fee (readI x.b x.tape).1 t x.orders x.orders.length,(x.orders.map fun o=>(bndI x.b (readI x.b x.tape).1 x.fee o (minutesI x.b x.tape).1).1),(x.orders.map fun o=>verdI x.b (readI x.b x.tape).1 x.fee o (minutesI x.b x.tape).1),hS,hT,rfl,?_,?_,?_,yn _,?_,?_,?_,fun j hj=>zDq h0 hT ht (os:=[(j:Int)]) (fun n hn=>by simp at hn; omega),fun j o hod=>⟨?_,?_,?_,?_⟩⟩
  · unfold playI; rw [h0,hw]; rfl
  · unfold boundsI; rw [hs]; rfl
  · unfold verdsI; rw [hs]; rfl
  · simp
  · simp
  · rw [h0,hw]; rfl
  · have hj:=(List.getElem?_eq_some_iff.1 hod).1
    rw [zCk hj,zP hod]
  · rw [List.getElem?_map,hod]; rfl
  · rw [List.getElem?_map,hod]; rfl
  · have hj:=(List.getElem?_eq_some_iff.1 hod).1
    have hs1:=zDq h0 hT ht (os:=[(j:Int)]) (fun n hn=>by simp at hn; omega)
    unfold salesI
    rw [hs1,Int.toNat_natCast,zP hod]; rfl
theorem sales_len {b:Brd} {l:List Prt} {fee:Int} {o:Ord} {mm:List (Int × Int)}:(salesO b l fee o mm).length ≤ l.length:=by
  unfold salesO
  rw [List.length_map]
  have:=List.length_filter_le (saleB b l fee o mm) (List.range l.length)
  rw [List.length_range] at this; exact this
end Go.Proofs.YticlpkgpmmhemaaGreatDoor
namespace Go.Proofs.YticlpkgpmmhemaaGreatDoor
open Go.RowKit
set_option maxRecDepth 20000
set_option linter.all false
set_option maxHeartbeats 4000000
theorem tld_get {d:Dsk} {x:Dsk} {t:Tru} (h:ToldP d (x,t,true)) (hN:NamesOK d.b):∃ l mm fs bs vs,TldF x t l mm fs bs vs ∧ NamesOK x.b ∧ x.tape.length ≤ 300 ∧ x.orders.length ≤ 8 ∧ x.b.stocks.length ≤ 7 ∧ t.prices.length ≤ 8 ∧ t.minutes.length ≤ 8 ∧ t.orders.length ≤ 8:=by
  obtain ⟨h1,h2,h3,h4,h5,h6⟩:=h.ok rfl
  obtain ⟨l,mm,fs,bs,vs,hF⟩:=tld_facts h4 h5 h6
  have e1:x.b = d.b:=h.b
  have e2:x.orders = d.orders:=h.os
  have hp:t.prices.length = (readI x.b x.tape).1.length:=h5.pl
  have hm:t.minutes.length = (readI x.b x.tape).1.length:=h5.ml
  have ho:t.orders.length = x.orders.length:=h5.ol
  have h8:=(yf (b:=x.b) (s:=x.tape)).2
  exact ⟨l,mm,fs,bs,vs,hF,by rw [e1]; exact hN,h2,by rw [e2]; exact h1,by rw [e1]; exact h3,by omega,by omega,by rw [ho,e2]; exact h1⟩
end Go.Proofs.YticlpkgpmmhemaaGreatDoor
namespace Go.Proofs.YticlpkgpmmhemaaGreatDoor
open Go.RowKit
set_option linter.all false
/-- An order waits from a sale on, and is filled by a sale, at a price, in a truth of the prices. -/
def PosP (b:Brd) (l:List Prt) (fee:Int) (o:Ord) (mm:List (Int × Int)) (n:Int) (i:Nat):Prop:=∃ (fr:Nat) (f:Nat → Int),waitsB o mm fr = true ∧ TruF b l 0 f ∧ HitP fee o l f fr i ∧ n = priceO fee o (f i)
theorem zBP {b:Brd} {l:List Prt} {fee:Int} {o:Ord} {mm:List (Int × Int)} (h:OddOK b l o) {n:Int}:PriS (canO b l fee o mm) fee o (fun _=>True) n ↔ ∃ i,PosP b l fee o mm n i:=by
  constructor
  · rintro ⟨fr,w,m,p,hm,hne,_,hp,hb,rfl⟩
    obtain ⟨_,h1⟩:=zCP hm
    rcases h1 with h1 | ⟨i,rfl,hi1,hi2⟩
    · exact (hne h1).elim
    · obtain ⟨c1,c2⟩:=zBT h fee mm fr i
      obtain ⟨hw,_⟩:=c1.1 (by rw [hm]; rfl)
      obtain ⟨f,hf,hH,hp2⟩:=(c2 m hm p hp).1 hb
      exact ⟨i,fr,f,hw,hf,hH,by rw [hp2]⟩
  · rintro ⟨i,fr,f,hw,hf,hH,rfl⟩
    obtain ⟨c1,c2⟩:=zBT h fee mm fr i
    obtain ⟨m,hm⟩:=Option.isSome_iff_exists.1 (c1.2 ⟨hw,f,hf,hH⟩)
    have hb:=(hf i hH.2.1).bd
    obtain ⟨p,hp⟩:∃ p:Nat,f i = (p:Nat):=⟨(f i).toNat,by omega⟩
    have hp8:p < 800:=by have:f i ≤ 799:=hb.2; omega
    exact ⟨fr,(i:Nat),m,p,hm,by omega,trivial,hp8,(c2 m hm p hp8).2 ⟨f,hf,hH,hp⟩,by rw [hp]⟩
theorem zEv {b:Brd} {l:List Prt} {fee:Int} {o:Ord} {mm:List (Int × Int)} (h:OddOK b l o) {i:Nat}:saleB b l fee o mm i = true ↔ ∃ n,PosP b l fee o mm n i:=by
  unfold saleB
  rw [List.any_eq_true]
  constructor
  · rintro ⟨fr,_,hc⟩
    obtain ⟨hw,f,hf,hH⟩:=(zBT h fee mm fr i).1.1 hc
    exact ⟨_,fr,f,hw,hf,hH,rfl⟩
  · rintro ⟨n,fr,f,hw,hf,hH,_⟩
    exact ⟨fr,List.mem_range.2 (by have:=hH.1; omega),(zBT h fee mm fr i).1.2 ⟨hw,f,hf,hH⟩⟩
theorem bnd_iff {b:Brd} {l:List Prt} {fee:Int} {o:Ord} {mm:List (Int × Int)} (h:OddOK b l o):(bndI b l fee o mm).2 = true ↔ ∃ n i,PosP b l fee o mm n i:=by
  rcases zCC b l fee o mm with ⟨h1,h2⟩ | ⟨h0,h1⟩
  · rw [h1]
    exact ⟨fun e=>(by cases e),fun ⟨n,i,hp⟩=>(h2 n ((zBP h).2 ⟨i,hp⟩)).elim⟩
  · rw [h0]
    refine ⟨fun _=>?_,fun _=>rfl⟩
    rcases h1 with ⟨e,_⟩ | ⟨_,k1,_⟩
    · rw [e] at h0; cases h0
    · obtain ⟨i,hi⟩:=(zBP h).1 k1; exact ⟨_,i,hi⟩
theorem bnd_ends {b : Brd} {l : List Prt} {fee : Int} {o : Ord} {mm : List (Int × Int)} (h : OddOK b l o) (hb : (bndI b l fee o mm).2 = true) :
    (∃ i,PosP b l fee o mm (bndI b l fee o mm).1.1 i) ∧ (∃ i,PosP b l fee o mm (bndI b l fee o mm).1.2 i) ∧ ∀ n i,PosP b l fee o mm n i → (bndI b l fee o mm).1.1 ≤ n ∧ n ≤ (bndI b l fee o mm).1.2:=by
  rcases zCC b l fee o mm with ⟨h1,_⟩ | ⟨_,h1⟩
  · rw [h1] at hb; cases hb
  · rcases h1 with ⟨e,_⟩ | ⟨_,k1,k2,k3⟩
    · rw [e] at hb; cases hb
    · exact ⟨(zBP h).1 k1,(zBP h).1 k2,fun n i hp=>k3 n ((zBP h).2 ⟨i,hp⟩)⟩
theorem tru_pb {x:Dsk} {l:List Prt} {t:Tru} (h:TruW x l t):∀ p ∈ t.prices,0 ≤ p ∧ p ≤ 1000:=fun p hp=>by
  obtain ⟨i,hi⟩:=List.getElem?_of_mem hp
  have hil:=(List.getElem?_eq_some_iff.1 hi).1
  have hb:=(h.tr i (by rw [← h.pl]; exact hil)).bd
  rw [zP hi] at hb
  have h1:1 ≤ p ∧ p ≤ 799:=hb
  omega
theorem zGA {fee:Int} {o:Ord} {p:Int} (h:o.limit = 0):letsB fee o p = true:=by
  unfold letsB; rw [h]; rfl
theorem zGT {b:Brd} {l:List Prt} {fee:Int} {o:Ord} {mm:List (Int × Int)} {i:Nat} {n:Int} (h:o.limit = 0) (hp:PosP b l fee o mm n i) {f:Nat → Int} (hf:TruF b l 0 f):PosP b l fee o mm (priceO fee o (f i)) i:=by
  obtain ⟨fr,g,hw,_,hH,_⟩:=hp
  refine ⟨fr,f,hw,hf,⟨hH.1,hH.2.1,hH.2.2.1,zGA h,fun j j1 j2 j3=>?_⟩,rfl⟩
  have:=hH.2.2.2.2 j j1 j2 j3
  rw [zGA h] at this; cases this
theorem zCl {fee:Int} {o:Ord} {p q:Int} (h:p ≤ q):priceO fee o p ≤ priceO fee o q:=by
  unfold priceO
  cases o.buy <;> simp only [cond_true,cond_false] <;> omega
def lowN (fee:Int) (o:Ord) (pr:List (Int × Int)) (S:List Int):Nat → Int
  | 0=>9999
  | k + 1=>min (lowN fee o pr S k) (priceO fee o (pr.getD (S.getD k 0).toNat (0,0)).1)
def higN (fee:Int) (o:Ord) (pr:List (Int × Int)) (S:List Int):Nat → Int
  | 0=>-1
  | k + 1=>max (higN fee o pr S k) (priceO fee o (pr.getD (S.getD k 0).toNat (0,0)).2)
theorem zFn {fee:Int} {o:Ord} {pr:List (Int × Int)} {S:List Int}:∀ k,(∀ j,j < k → lowN fee o pr S k ≤ priceO fee o (pr.getD (S.getD j 0).toNat (0,0)).1) ∧ (lowN fee o pr S k = 9999 ∨ ∃ j,j < k ∧ lowN fee o pr S k = priceO fee o (pr.getD (S.getD j 0).toNat (0,0)).1)
  | 0=>⟨fun j h=>by omega,.inl rfl⟩
  | k + 1=>by
    obtain ⟨h1,h2⟩:=zFn (fee:=fee) (o:=o) (pr:=pr) (S:=S) k
    unfold lowN
    refine ⟨fun j hj=>?_,?_⟩
    · by_cases e:j = k
      · subst e; exact Int.min_le_right _ _
      · exact Int.le_trans (Int.min_le_left _ _) (h1 j (by omega))
    · by_cases e:lowN fee o pr S k ≤ priceO fee o (pr.getD (S.getD k 0).toNat (0,0)).1
      · rw [Int.min_eq_left e]
        rcases h2 with h2 | ⟨j,hj,h2⟩
        · exact .inl h2
        · exact .inr ⟨j,by omega,h2⟩
      · rw [Int.min_eq_right (by omega)]
        exact .inr ⟨k,by omega,rfl⟩
theorem zGK {fee:Int} {o:Ord} {pr:List (Int × Int)} {S:List Int}:∀ k,(∀ j,j < k → priceO fee o (pr.getD (S.getD j 0).toNat (0,0)).2 ≤ higN fee o pr S k) ∧ (higN fee o pr S k = -1 ∨ ∃ j,j < k ∧ higN fee o pr S k = priceO fee o (pr.getD (S.getD j 0).toNat (0,0)).2)
  | 0=>⟨fun j h=>by omega,.inl rfl⟩
  | k + 1=>by
    obtain ⟨h1,h2⟩:=zGK (fee:=fee) (o:=o) (pr:=pr) (S:=S) k
    unfold higN
    refine ⟨fun j hj=>?_,?_⟩
    · by_cases e:j = k
      · subst e; exact Int.le_max_right _ _
      · exact Int.le_trans (h1 j (by omega)) (Int.le_max_left _ _)
    · by_cases e:priceO fee o (pr.getD (S.getD k 0).toNat (0,0)).2 ≤ higN fee o pr S k
      · rw [Int.max_eq_left e]
        rcases h2 with h2 | ⟨j,hj,h2⟩
        · exact .inl h2
        · exact .inr ⟨j,by omega,h2⟩
      · rw [Int.max_eq_right (by omega)]
        exact .inr ⟨k,by omega,rfl⟩
/-- The bounds of the prices of all sales, with some truth. -/
structure PrcF (b:Brd) (l:List Prt) (pr:List (Int × Int)):Prop where
  len:pr.length = l.length
  at_:∀ i,i < l.length → (∃ f,TruF b l 0 f ∧ f i = (pr.getD i (0,0)).1) ∧ (∃ f,TruF b l 0 f ∧ f i = (pr.getD i (0,0)).2) ∧ ∀ f,TruF b l 0 f → (pr.getD i (0,0)).1 ≤ f i ∧ f i ≤ (pr.getD i (0,0)).2
theorem PrcF.bd {b:Brd} {l:List Prt} {pr:List (Int × Int)} (h:PrcF b l pr) {i:Nat} (hi:i < l.length):1 ≤ (pr.getD i (0,0)).1 ∧ (pr.getD i (0,0)).1 ≤ 799 ∧ 1 ≤ (pr.getD i (0,0)).2 ∧ (pr.getD i (0,0)).2 ≤ 799:=by
  obtain ⟨⟨f,hf,e1⟩,⟨g,hg,e2⟩,_⟩:=h.at_ i hi
  have b1:1 ≤ f i ∧ f i ≤ 799:=(hf i hi).bd
  have b2:1 ≤ g i ∧ g i ≤ 799:=(hg i hi).bd
  omega
theorem prc_facts {d:Dsk} {l:List Prt} {mm:List (Int × Int)} (h:SurH d l mm):∃ pr,pricesI d.b d.tape = (pr,0) ∧ PrcF d.b l pr:=by
  obtain ⟨ms,hms⟩:=Option.isSome_iff_exists.1 ((yp (out:=[]) (o:=0) kL h.v h.po).1.2 h.ex)
  refine ⟨ms.map bndN,?_,?_,fun i hi=>?_⟩
  · unfold pricesI
    rw [h.hr]
    simp only [bne_self_eq_false,cond_false]
    rw [hms]
  · rw [List.length_map]; exact zAL hms
  · obtain ⟨lo,hi2,e,h1,h2,h3⟩:=lvl_bnd (out:=[]) (o:=0) kL h.v h.po hms hi
    have hl:ms.length = l.length:=zAL hms
    obtain ⟨m,hm⟩:=zT (show i < ms.length by omega)
    rw [zP hm] at e
    rw [zP (show (ms.map bndN)[i]? = some (bndN m) by rw [List.getElem?_map,hm]; rfl),e]
    exact ⟨h1,h2,h3⟩
theorem shown_law {d : Dsk} {l : List Prt} {mm : List (Int × Int)} (h : SurH d l mm) {j : Nat} {o : Ord} (hod : d.orders[j]? = some o) (h0 : o.limit = 0) {pr : List (Int × Int)} (hp : PrcF d.b l pr) (hS : salesO d.b l d.fee o mm ≠ []) :
    (bndI d.b l d.fee o mm).1 = (lowN d.fee o pr (salesO d.b l d.fee o mm) (salesO d.b l d.fee o mm).length,higN d.fee o pr (salesO d.b l d.fee o mm) (salesO d.b l d.fee o mm).length):=by
  have hok:=zGa h hod
  have hfe:=h.fe
  have hmem:∀ k:Int,k ∈ salesO d.b l d.fee o mm ↔ ∃ i:Nat,k = (i:Int) ∧ i < l.length ∧ ∃ n,PosP d.b l d.fee o mm n i:=fun k=>by
    unfold salesO
    rw [List.mem_map]
    constructor
    · rintro ⟨i,hi,rfl⟩
      obtain ⟨h1,h2⟩:=List.mem_filter.1 hi
      exact ⟨i,rfl,List.mem_range.1 h1,(zEv hok).1 h2⟩
    · rintro ⟨i,rfl,hi,hn⟩
      exact ⟨i,List.mem_filter.2 ⟨List.mem_range.2 hi,(zEv hok).2 hn⟩,rfl⟩
  generalize salesO d.b l d.fee o mm = S at hmem hS ⊢
  obtain ⟨l1,l2⟩:=zFn (fee:=d.fee) (o:=o) (pr:=pr) (S:=S) S.length
  obtain ⟨g1,g2⟩:=zGK (fee:=d.fee) (o:=o) (pr:=pr) (S:=S) S.length
  have hend:∀ j,j < S.length → PosP d.b l d.fee o mm (priceO d.fee o (pr.getD (S.getD j 0).toNat (0,0)).1) (S.getD j 0).toNat ∧ PosP d.b l d.fee o mm (priceO d.fee o (pr.getD (S.getD j 0).toNat (0,0)).2) (S.getD j 0).toNat:=fun j hj=>by
    obtain ⟨k,hk⟩:=zT hj
    obtain ⟨i,rfl,hi,n,hn⟩:=(hmem k).1 (List.mem_of_getElem? hk)
    rw [zP hk,Int.toNat_natCast]
    obtain ⟨⟨f,hf,e1⟩,⟨g,hg,e2⟩,_⟩:=hp.at_ i hi
    rw [← e1,← e2]
    exact ⟨zGT h0 hn hf,zGT h0 hn hg⟩
  obtain ⟨k0,hk0⟩:=List.exists_mem_of_ne_nil S hS
  obtain ⟨i0,_,hi0,n0,hn0⟩:=(hmem k0).1 hk0
  have hb:(bndI d.b l d.fee o mm).2 = true:=(bnd_iff hok).2 ⟨n0,i0,hn0⟩
  obtain ⟨⟨i1,e1⟩,⟨i2,e2⟩,e3⟩:=bnd_ends hok hb
  have k1:lowN d.fee o pr S S.length ≤ (bndI d.b l d.fee o mm).1.1 ∧ lowN d.fee o pr S S.length ≠ 9999:=by
    obtain ⟨fr,f,hw,hf,hH,hn⟩:=e1
    obtain ⟨q,hq⟩:=List.getElem?_of_mem ((hmem (i1:Int)).2 ⟨i1,rfl,hH.2.1,_,fr,f,hw,hf,hH,hn⟩)
    have a1:=l1 q (List.getElem?_eq_some_iff.1 hq).1
    rw [zP hq,Int.toNat_natCast] at a1
    have a2:=(((hp.at_ i1 hH.2.1).2.2 f hf).1)
    have a3:=zCl (fee:=d.fee) (o:=o) a2
    have a4:=hp.bd hH.2.1
    have a5:priceO d.fee o (pr.getD i1 (0,0)).1 < 9999:=by
      unfold priceO
      cases o.buy <;> simp only [cond_true,cond_false] <;> omega
    rw [hn]
    exact ⟨by omega,by omega⟩
  have k2:(bndI d.b l d.fee o mm).1.2 ≤ higN d.fee o pr S S.length ∧ higN d.fee o pr S S.length ≠ -1:=by
    obtain ⟨fr,f,hw,hf,hH,hn⟩:=e2
    obtain ⟨q,hq⟩:=List.getElem?_of_mem ((hmem (i2:Int)).2 ⟨i2,rfl,hH.2.1,_,fr,f,hw,hf,hH,hn⟩)
    have a1:=g1 q (List.getElem?_eq_some_iff.1 hq).1
    rw [zP hq,Int.toNat_natCast] at a1
    have a2:=(((hp.at_ i2 hH.2.1).2.2 f hf).2)
    have a3:=zCl (fee:=d.fee) (o:=o) a2
    have a4:=hp.bd hH.2.1
    have a5:-1 < priceO d.fee o (pr.getD i2 (0,0)).2:=by
      unfold priceO
      cases o.buy <;> simp only [cond_true,cond_false] <;> omega
    rw [hn]
    exact ⟨by omega,by omega⟩
  have k3:(bndI d.b l d.fee o mm).1.1 ≤ lowN d.fee o pr S S.length:=by
    rcases l2 with l2 | ⟨q,hq,l2⟩
    · exact (k1.2 l2).elim
    · rw [l2]; exact (e3 _ _ (hend q hq).1).1
  have k4:higN d.fee o pr S S.length ≤ (bndI d.b l d.fee o mm).1.2:=by
    rcases g2 with g2 | ⟨q,hq,g2⟩
    · exact (k2.2 g2).elim
    · rw [g2]; exact (e3 _ _ (hend q hq).2).2
  exact Prod.ext (by dsimp only; omega) (by dsimp only; omega)
/-- The slip of the sale by which an order is filled finds it. -/
theorem find_shown {x : Dsk} {t : Tru} {l : List Prt} {mm fs bs : List (Int × Int)} {vs : List Int} (hF : TldF x t l mm fs bs vs) {k : Nat} (hk : k < l.length) (hm : 0 ≤ t.minutes.getD k 0) :
    ∃ fl,findI x.b x.tape ⟨(l.getD k prt0).stock,t.prices.getD k 0,(l.getD k prt0).nlo,t.minutes.getD k 0,t.minutes.getD k 0⟩ = (fl,0) ∧ ((k:Nat):Int) ∈ fl ∧ fl.length ≤ 8:=by
  have v:=hF.S.v
  have hpo:=hF.S.po
  have hp:=hpo _ (show l.getD k prt0 ∈ l by obtain ⟨y,hy⟩:=zT hk; rw [zP hy]; exact List.mem_of_getElem? hy)
  have hst:=hp.st
  have hnm:=hp.nm
  have hpr:1 ≤ t.prices.getD k 0 ∧ t.prices.getD k 0 ≤ 799:=(hF.T.tr k hk).bd
  have hbd:=zCo hpo hk
  have hrm:=(hF.T.rm.own k hk)
  have hsl:slipB x.b ⟨(l.getD k prt0).stock,t.prices.getD k 0,(l.getD k prt0).nlo,t.minutes.getD k 0,t.minutes.getD k 0⟩ = true:=by
    unfold slipB spansB
    simp only [Bool.and_eq_true,zh,decide_eq_true_eq]; omega
  obtain ⟨ms,hms⟩:=Option.isSome_iff_exists.1 ((yp (out:=[]) (o:=0) kL v hpo).1.2 hF.S.ex)
  have hmin:=hF.S.hmi
  have hrt:rightB (minI l) = true:=by rw [zBa hpo]; exact hF.S.tb
  have hmm:minI l = mm:=by
    have e:minutesI x.b x.tape = bif rightB (minI l) then (minI l,0) else ([],11):=by unfold minutesI; rw [hF.S.hr]; rfl
    rw [hrt,cond_true] at e
    exact congrArg Prod.fst (e.symm.trans hmin)
  have e:findI x.b x.tape ⟨(l.getD k prt0).stock,t.prices.getD k 0,(l.getD k prt0).nlo,t.minutes.getD k 0,t.minutes.getD k 0⟩ = (findL l ms (minI l) ⟨(l.getD k prt0).stock,t.prices.getD k 0,(l.getD k prt0).nlo,t.minutes.getD k 0,t.minutes.getD k 0⟩ l.length,0):=by
    unfold findI
    rw [hF.S.hr,hsl]
    simp only [bne_self_eq_false,cond_false,Bool.not_true]
    rw [hms]
    simp only
    rw [hrt]; rfl
  refine ⟨_,e,?_,Nat.le_trans zBs hF.S.l8⟩
  unfold findL
  refine List.mem_map.2 ⟨k,List.mem_filter.2 ⟨List.mem_range.2 hk,?_⟩,rfl⟩
  unfold findF findB
  have h1:=zFY hF.T.rm k hk
  have h2:=zFS hF.T.rm (i:=k) (l.length - k) (by omega) hk
  have h3:((minI l).getD k (0,0)) = timI l k:=by rw [hmm,hF.S.mt]; exact zB5 hk
  have q3:(ms.getD k 0).testBit (t.prices.getD k 0).toNat = true:=((yp (out:=[]) (o:=0) kL v hpo).2 ms hms k hk (t.prices.getD k 0).toNat (by omega)).2 ⟨_,hF.T.tr,by omega⟩
  have h4:(timI l k).1 ≤ t.minutes.getD k 0:=by unfold timI; dsimp only at h1 ⊢; omega
  have h5:t.minutes.getD k 0 ≤ (timI l k).2:=by unfold timI; dsimp only at h2 ⊢; omega
  show (((l.getD k prt0).stock == (l.getD k prt0).stock && withinB (l.getD k prt0).nlo (l.getD k prt0).nlo (l.getD k prt0).nhi && (ms.getD k 0).testBit (t.prices.getD k 0).toNat && decide (((minI l).getD k (0,0)).1 ≤ t.minutes.getD k 0) && decide (t.minutes.getD k 0 ≤ ((minI l).getD k (0,0)).2))) = true
  rw [h3,beq_self_eq_true,zh.2 (show (l.getD k prt0).nlo ≤ (l.getD k prt0).nlo ∧ _ from ⟨Int.le_refl _,hnm.2.1⟩),q3,decide_eq_true h4,decide_eq_true h5]; rfl
end Go.Proofs.YticlpkgpmmhemaaGreatDoor
namespace Go.Proofs.YticlpkgpmmhemaaGreatDoor
open Go.Proofs.Tryz
open Go.RowKit
set_option maxRecDepth 20000
set_option linter.all false
set_option maxHeartbeats 4000000
theorem eqveql65 (a b c e:Int) (w:World):(binOp .eql 65 (.agg #[.int .i64 a,.int .i64 b]) (.agg #[.int .i64 c,.int .i64 e])).run Tryz.prog w = .ok (.bool ((a == c && b == e))) w:=by
  have u3:=underlying3
  have a3:=isAgg3
  have z3:=sizeOf3
  have hS:Tryz.prog.underlying 65 = some (.struct (Tryz.prog.fieldsOf 65)):=by kernel_rfl
  have hp:Tryz.prog.stoodInHeld 65 = false:=by kernel_rfl
  rw [run_eql_struct,show (10000:Nat) = 9999 + 1 from rfl,run_equalIn_agg w 9999 65 _ _ hS hp]
  simp only [Program.fieldsOf,underlying65]
  go_simp
  by_cases h1:a = c <;> by_cases h2:b = e <;> simp [h1,h2]
theorem q_eql65 {Γ : Cx} {σ : St} {o : Oper} {R : Rel} {x y : Operand} {t' : TypeId} {a b c d : Int} (h : o.op = .binOp .eql 65 x y t') (hx : σ.ev x = some (true, .d (.agg [.int .i64 a, .int .i64 b]))) (hy : σ.ev y = some (true, .d (.agg [.int .i64 c, .int .i64 d]))) :
    QV Γ Tryz.prog σ o R (.d (.bool ((a == c && b == d)))):=fun A w F hs=>by
  obtain ⟨vs,e1,h1,_⟩:=hs.ev hx
  obtain ⟨us,e2,h2,_⟩:=hs.ev hy
  obtain ⟨v1,vs1,rfl,q1,v2,vs2,rfl,q2,q3⟩:=h1
  obtain ⟨u1,us1,rfl,p1,u2,us2,rfl,p2,p3⟩:=h2
  simp only [Rep,RepVals] at q1 q2 q3 p1 p2 p3
  subst q1 q2 q3 p1 p2 p3
  exact ⟨.bool ((a == c && b == d)),rfl,fun w' _=>by
    simp only [execOp,h,e1,e2,Sem.run_bind,run_eqGuard_agg w' .eql 65 x y _ _ (show Tryz.prog.eqGuardType Tryz.prog.depth 65 = false by kernel_rfl),Result.andThen_ok,eqveql65,Sem.run_pure]⟩
theorem shown_no {d : Dsk} {l : List Prt} {mm : List (Int × Int)} (h : SurH d l mm) {j : Nat} {o : Ord} (hod : d.orders[j]? = some o) {pr : List (Int × Int)} (hp : PrcF d.b l pr) {k : Nat} (hk : o.limit = 0 → k = (salesO d.b l d.fee o mm).length) :
    ¬ ((o.limit == 0 && decide ((0:Int) < (((salesO d.b l d.fee o mm).map intE).length:Int)) && !((bndI d.b l d.fee o mm).1.1 == lowN d.fee o pr (salesO d.b l d.fee o mm) k && (bndI d.b l d.fee o mm).1.2 == higN d.fee o pr (salesO d.b l d.fee o mm) k)) = true):=by
  intro h1
  rw [Bool.and_eq_true_iff,Bool.and_eq_true_iff,List.length_map] at h1
  obtain ⟨⟨h2,h3⟩,h4⟩:=h1
  have h5:o.limit = 0:=by simpa using h2
  have h6:=of_decide_eq_true h3
  rw [hk h5,shown_law h hod h5 hp (fun e=>by rw [e] at h6; simp at h6)] at h4
  simp at h4
def shB:Brd:=⟨[⟨[65],80,80⟩],0,1⟩
def shS:List UInt8:=[64,51,32,65,32,48,46,48]
def shD:Dsk:=⟨shB,shS,2,[⟨true,0,5,0,0,0⟩]⟩
theorem sh_valid:checkT shB = 0:=by kernel_rfl
theorem zCN:readI shB shS = ([⟨0,1,1,0,false,3,0,0⟩],0):=by rw [← zBW sh_valid]; kernel_rfl
theorem zDf:pricesI shB shS = ([(80,80)],0):=by unfold pricesI; rw [zCN]; kernel_rfl
theorem zCZ:minutesI shB shS = ([(3,3)],0):=by unfold minutesI; rw [zCN]; kernel_rfl
theorem sh_desk:deskI shD = 0:=by unfold deskI; rw [show readI shD.b shD.tape = ([⟨0,1,1,0,false,3,0,0⟩],0) from zCN]; kernel_rfl
theorem sh_sure:sureO shD [] = 0:=by
  unfold sureO
  rw [sh_desk,show pricesI shD.b shD.tape = ([(80,80)],0) from zDf,show minutesI shD.b shD.tape = ([(3,3)],0) from zCZ]; rfl
theorem sh_bounds:boundsI shD = ([(82,82)],0):=by
  unfold boundsI
  rw [sh_sure,show readI shD.b shD.tape = ([⟨0,1,1,0,false,3,0,0⟩],0) from zCN,show minutesI shD.b shD.tape = ([(3,3)],0) from zCZ]; kernel_rfl
theorem zE9:NamesOK shB:=fun s hs=>by
  have hs:s ∈ [(⟨[65],80,80⟩:Stk)]:=hs
  rw [List.mem_singleton.1 hs]; simp
theorem sal_bd {b:Brd} {l:List Prt} {fee:Int} {o:Ord} {mm:List (Int × Int)} {k:Nat} {x:Int} (h:(salesO b l fee o mm)[k]? = some x):∃ s:Nat,x = (s:Int) ∧ s < l.length:=by
  have hm:=List.mem_of_getElem? h
  unfold salesO at hm
  obtain ⟨s,hs,rfl⟩:=List.mem_map.1 hm
  exact ⟨s,rfl,List.mem_range.1 (List.mem_filter.1 hs).1⟩
theorem zFE {fee:Int} {o:Ord} {m:Int} {ps ms:List Int}:∀ (l:List Prt) (i:Nat) {k:Nat},(fillGo fee o m ps ms i l).1 = (k:Int) → ∃ j,k = i + j ∧ (l.getD j prt0).stock = o.stock
  | [],i,k,h=>by simp only [fillGo] at h; omega
  | s :: r,i,k,h=>by
    unfold fillGo at h
    cases e:(s.stock == o.stock && decide (m < ms.getD i 0)) && letsB fee o (ps.getD i 0) <;> rw [e] at h
    · simp only [cond_false] at h
      obtain ⟨j,h1,h2⟩:=zFE r (i + 1) h
      exact ⟨j + 1,by omega,h2⟩
    · simp only [cond_true] at h
      simp only [Bool.and_eq_true_iff,beq_iff_eq] at e
      exact ⟨0,by omega,e.1.1⟩
theorem any_full {l:List Int} {x:Int} (h:x ∈ l):(l.any fun y=>y == x) = true:=List.any_eq_true.2 ⟨x,h,by simp⟩
theorem any_suc {l:List Int} {n:Nat} {x y:Int} (h:l[n]? = some y):((l.take n).any (fun z=>z == x) || (y == x)) = (l.take (n + 1)).any fun z=>z == x:=by
  rw [List.take_add_one,h]; simp
theorem zFI :PureAt Tryz.prog 18 [] (.bool true):=by
 refine Zp Tryz.func18 rfl fun Γ hn hl=>?_
 refine Zu ?_
 refine Zt 1 [] hn rfl ?_
 refine Zv (Zu ?_)
 refine Zt 2 [] hn rfl ?_
 refine stepW (zM rfl rfl rfl (nb hn rfl) underlying35 sz160 zr160 rfl rfl rfl (show _ = [.d (.str ⟨#[]⟩),.d (.int .i64 0),.d (.int .i64 0)] from by kernel_rfl) (by kernel_rfl) rfl rfl rfl rfl rfl) fun _=>?_
 refine Zt 1 [] hn rfl ?_
 refine Zb 1 hn rfl fun b1=>?_
 refine Zt 1 [1] hn rfl ?_
 refine Zv (Zu ?_)
 refine Zt 1 [1] hn rfl ?_
 refine Zk hn rfl ((by have h:=zBY shB shS zE9 (by decide); rw [zDf] at h; exact h)) ?_
 refine Zt 5 [] hn rfl ?_
 refine Zv (Zu ?_)
 refine Zt 2 [1] hn rfl ?_
 refine stepW (zM rfl rfl rfl (nb hn rfl) underlying49 sz152 zr152 rfl rfl rfl (show _ = [.d (.bool false),.d (.int .i64 0),.d (.int .i64 0),.d (.int .i64 0),.d (.int .i64 0),.d (.int .i64 0)] from by kernel_rfl) (by kernel_rfl) rfl rfl rfl rfl rfl) fun _=>?_
 refine Zt 1 [] hn rfl ?_
 refine stepW (s_call [] (fun _=>(by have h:=zCs shD zE9 (by decide) (by decide); rw [sh_bounds] at h; exact h)) rfl (zz rfl) rfl (nb hn rfl) (fun _=>trivial) rfl rfl (by first | exact .refl _ | (repeat (first | exact .refl _ | exact .nil _ | refine .cons ?_ ?_ | refine .agg ?_ | refine .tup ?_)))) fun _=>?_
 refine Zt 5 [] hn rfl ?_
 refine Zv (Zu ?_)
 refine Zt 9 [] hn rfl ?_
 refine Zh [(31,_)] (zS rfl rfl rfl) hn (fun hc=>⟨⟨_,rfl,hc⟩,trivial⟩) (fun hc=>q_index (i:=0) rfl rfl rfl underlying43 sz65 rfl rfl) ?_
 refine Zt 2 [] hn rfl ?_
 refine Zh [(33,_),(34,_)] (zS rfl rfl rfl) hn (fun hc=>⟨⟨_,rfl,hc⟩,⟨_,rfl,hc⟩,trivial⟩) (fun hc=>q_eql65 rfl rfl rfl) ?_
 refine Zt 12 [] hn rfl ?_
 refine Zh [(47,_)] (zS rfl rfl rfl) hn (fun hc=>⟨⟨_,rfl,hc⟩,trivial⟩) (fun hc=>q_index (i:=0) rfl rfl rfl underlying46 sz66 rfl rfl) ?_
 refine Zt 2 [] hn rfl ?_
 refine Zh [(49,_),(50,_)] (zS rfl rfl rfl) hn (fun hc=>⟨⟨_,rfl,hc⟩,⟨_,rfl,hc⟩,trivial⟩) (fun hc=>q_eql66 rfl rfl rfl) ?_
 refine Zt 2 [] hn rfl ?_
 refine Zv (zJ ?_)
 refine zb (zY (.inl rfl) hl rfl (.tmp rfl)) ?_
 rfl
theorem TopShown_eff (d:Dsk) (ws:List Int) (hN:NamesOK d.b) (hw:WdsOK ws):EffAt Tryz.prog 3 [.d (dskD d),.d (wdsD ws)] [] (X:=Unit) (fun _=>.d (.bool true)) (fun _=>[]):=by
 refine EffAt.of_awp Tryz.func3 rfl (by kernel_rfl) rfl fun Γ hn=>?_
 refine Zu (Zb 2 hn rfl fun b2=>Zt 1 [] hn rfl (Zv (Zu (Zt 2 [2] hn rfl ?_))))
 refine stepW (s_callE (Told_eff d ws hN hw) rfl rfl rfl (nb hn rfl) (.d rfl) rfl (.refl _) trivial (fun _=>rfl) (fun _ _=>trivial)) fun ⟨⟨x,t,isb⟩,hTp⟩=>?_
 refine Zt 4 [] hn rfl (Zb 5 hn rfl fun b5=>Zb 6 hn rfl fun b6=>Zt 3 [5,6] hn rfl (Zv (zD (Zu (Zt 2 [] hn rfl (Zv (zH rfl (fun hb0=>?_) (fun hb0=>?_))))))))
 refine Zu (Zk hn rfl (zFI) (Zt 1 [] hn rfl (Zv (zJ (zC ?_)))))
 exact ret_E (.inl rfl) () (zy rfl (.tmp rfl)) trivial
 obtain rfl:isb = true:=by simpa using hb0
 obtain ⟨l,mm,fs,bs,vs,hF,hN2,hx3,hx8,hx7,htp,htm,hto⟩:=tld_get hTp hN
 have hfl:=hF.fl
 have hbl:=hF.bl
 have hvl:=hF.vl
 have hl8:=hF.S.l8
 obtain ⟨pr,hpr,hP⟩:=prc_facts hF.S
 have hprl:=hP.len
 have htpl:t.prices.length = l.length:=hF.T.pl
 have html:t.minutes.length = l.length:=hF.T.ml
 have hfe:=hF.S.fe
 have hpb:=tru_pb hF.T
 refine zI (zA (Zu (Zt 2 [5] hn rfl (Zk hn rfl (zDC x.b (by omega)) (Zb 8 hn rfl fun b8=>Zt 1 [8] hn rfl (Zv (Zu (Zt 3 [8,5] hn rfl (Zk hn rfl ((by have h:=zCK x.b x.tape hN2 (by omega); rw [hF.S.hr] at h; exact h)) ?_)))))))))
 refine Zt 5 [] hn rfl (Zv (Zu (Zt 3 [8,5] hn rfl (Zk hn rfl ((by have h:=zBY x.b x.tape hN2 (by omega); rw [hpr] at h; exact h)) ?_))))
 refine Zt 5 [] hn rfl (Zv (Zu (Zt 1 [5] hn rfl (Zk hn rfl (zCx x (by omega) (by omega)) (Zk hn rfl ((by have h:=zCs x hN2 (by omega) (by omega); rw [hF.b] at h; exact h)) ?_)))))
 refine Zt 5 [] hn rfl (Zv (zD (zi (W:=fun b=>b ≠ b5 ∧ b ≠ b6) fmo ?_)))
 refine Zy [0,2] [5,6] hn rfl (zB (Ze1 1 rfl hn rfl (zCx x (by omega) (by omega)) (d2_of_d1 (zB (Ze1 3 rfl hn rfl (Truth5_ok t (by omega) (by omega) (by omega)) (d2_of_d1 (zB (Ze1 4 rfl hn rfl ((by have h:=Play4_ok x hN2 (by omega) (by omega) t; rw [hF.p] at h; exact h)) ?_))))))))
 refine d2_of_d1 (Zy [5,6,7,8,9] [] hn rfl (zB (zg (by kernel_rfl) ?_)))
 refine zA (zD (Zu (Zt 44 [6,5] hn rfl (Zv (zH rfl (fun hb1=>?_) (fun hb1=>?_))))))
 exact absurd hb1 (by simp [hfl,hbl,hprl,htpl])
 refine zI (zA (zD (Zu (Zt 1 [] hn rfl (Zv (zK (awp_loop_on (ι:={i:Nat // i ≤ x.orders.length}) (fun z=>(17,true,.d (.int .i64 (z.1:Nat))) :: anys [114,115,116,117,120,121,122,123,124,18,126,127,128,129,125,130,131,19,20,132,133,21,22,23,134,135,136,137,138,139,140,141,142,145,146,147,148,149,150,151,152,153,154,155,156,157,158,159,160,161,162,163,164,165,166,167,168,169,170,171,172,173,174,175,176,177,178,179,180,181,182,183,184,143,144,185,186,187,188,189,190,191,192,193,194,195,196,197,198,199,200,201,202,203,204,205,206,207,24,208,209,210,211,212,213,214,215,216,217,218,219,220,221,222,223,224,225,226,227,228,229,230,231,232,233,234,235,237,238,239,240,241,242,243,244,245,246,247,248,249,250,251,252,253,254,255,256,257,258,259,260,261,262,263,264,265,236,266,267,25,26,27,28,268,269,270,271,274,275,276,277,278,279,280,281,282,272,273,283,284,285,286,287,288,118,119]) (fun z=>gones [18]) (fun z=>x.orders.length - z.1) ⟨0,Nat.zero_le _⟩ ⟨.inl rfl,zF _⟩ (zQ _) ?_)))))))
 rintro ⟨i,hi⟩
 dsimp only
 refine zD (Zu (Zt 4 [] hn rfl (Zv (zH rfl (fun hb2=>?_) (fun hb2=>?_)))))
 have hil:i < x.orders.length:=by simp [hbl] at hb2; omega
 obtain ⟨o,hod⟩:=zT hil
 obtain ⟨hf,hbk,_,hs2⟩:=hF.at_ i o hod
 have hfill:=fill_law hF.S hF.T hod
 have hstk0:∀ k:Nat,(fillGo x.fee o (t.orders.getD i 0) t.prices t.minutes 0 l).1 = (k:Int) → (l.getD k prt0).stock = o.stock:=fun k hk=>by obtain ⟨j,h1,h2⟩:=zFE l 0 hk; rw [show k = j by omega]; exact h2
 generalize fillGo x.fee o (t.orders.getD i 0) t.prices t.minutes 0 l = f at hf hfill hstk0
 have hsl:=sales_len (b:=x.b) (l:=l) (fee:=x.fee) (o:=o) (mm:=mm)
 refine zI (zA (zD (zK (Zu (Zt 3 [5] hn rfl (Zi (i:=i) hn rfl rfl (mget hod) ?_))))))
 refine Zt 1 [] hn rfl (Zb 18 hn rfl fun b18=>Zt 1 [18] hn rfl (Zv (Zu (Zt 1 [5] hn rfl (Zk hn rfl (zCx x (by omega) (by omega)) (Zt 1 [] hn rfl (Zk hn rfl ((by have h:=Sales4_ok x hN2 (by omega) (by omega) (i:Nat); rw [hs2] at h; exact h)) ?_)))))))
 refine Zt 5 [] hn rfl (Zv (zD (Zu (Zt 2 [] hn rfl (Zv (zH rfl (fun hb3=>?_) (fun hb3=>?_)))))))
 exact absurd hb3 (by simp)
 refine zI (zA (Zu (Zt 2 [] hn rfl (Zv (zD (Zu (Zt 1 [] hn rfl (Zv (zK (awp_loop_on (ι:={k:Nat // k ≤ (salesO x.b l x.fee o mm).length}) (fun z=>(23,true,.d (.int .i64 (z.1:Nat))) :: (21,true,.d (.int .i64 (lowN x.fee o pr (salesO x.b l x.fee o mm) z.1))) :: (22,true,.d (.int .i64 (higN x.fee o pr (salesO x.b l x.fee o mm) z.1))) :: anys [134,135,136,137,138,139,140,141,142,145,146,147,148,149,150,151,152,153,154,155,156,157,158,159,160,161,162,163,164,165,166,167,168,169,170,171,172,173,174,175,176,177,178,179,180,181,182,183,184,143,144]) (fun z=>[]) (fun z=>(salesO x.b l x.fee o mm).length - z.1) ⟨0,Nat.zero_le _⟩ ⟨.inl rfl,.inl rfl,.inl rfl,zF _⟩ trivial ?_))))))))))
 rintro ⟨k,hk⟩
 dsimp only
 refine zD (Zu (Zt 9 [18] hn rfl (Zv (zH rfl (fun hb4=>?_) (fun hb4=>?_)))))
 have hkl:k < (salesO x.b l x.fee o mm).length:=by have h:=(Bool.and_eq_true_iff.1 hb4).1; rw [List.length_map] at h; have:=of_decide_eq_true h; omega
 obtain ⟨sx,hsk⟩:=zT hkl
 obtain ⟨s,rfl,hsl9⟩:=sal_bd hsk
 obtain ⟨p1,hps⟩:=zT (show s < pr.length by omega)
 have hpbd:=hP.bd hsl9
 rw [zP hps] at hpbd
 refine zI (zA (zD (zK (zD (Zu (Zt 2 [] hn rfl (Zi (i:=k) hn rfl rfl (mget hsk) ?_)))))))
 refine Zt 5 [] hn rfl ?_
 refine Zh [(151,_),(152,_)] (zS rfl rfl rfl) hn (fun hc=>⟨⟨_,rfl,hc⟩,⟨_,rfl,hc⟩,trivial⟩) (fun hc=>q_index (i:=k) rfl rfl rfl underlying29 sz3 rfl (mget hsk)) ?_
 refine Zt 5 [] hn rfl (Zv (zH rfl (fun hb5=>?_) (fun hb5=>?_)))
 exact absurd hb5 (by simp; omega)
 refine zI (zA (zi (W:=fun b=>b ≠ b5 ∧ b ≠ b18) fmo ?_))
 refine Zy [0,1,2,3,4,5] [5,18] hn rfl (Zd 6 rfl hn (q_index (i:=k) rfl rfl rfl underlying29 sz3 rfl (mget hsk)) ?_)
 refine Zy [7] [] hn rfl (Zd 8 rfl hn (q_index (i:=s) rfl rfl rfl underlying43 sz65 rfl (mget hps)) ?_)
 refine Zy [9,10,13,14,15,16,17,18] [5,18] hn rfl (Zd 19 rfl hn (q_index (i:=k) rfl rfl rfl underlying29 sz3 rfl (mget hsk)) ?_)
 refine Zy [20] [] hn rfl (Zd 21 rfl hn (q_index (i:=s) rfl rfl rfl underlying43 sz65 rfl (mget hps)) ?_)
 refine Zy [22,23] [] hn rfl (zB (Ze1 11 rfl hn rfl (zBo x o p1.1 hfe (by omega)) (d2_of_d1 (Zd 12 rfl hn (zDX rfl rfl rfl) ?_))))
 refine zB (Ze1 24 rfl hn rfl (zBo x o p1.2 hfe (by omega)) (d2_of_d1 (Zd 25 rfl hn (yw rfl rfl rfl) ?_)))
 refine Zy [26,27] [] hn rfl (zB (zg (by kernel_rfl) ?_))
 refine zN (zA (zG (Zt 1 [] hn rfl (Zs hn (za rfl rfl rfl (r:=((k + 1:Nat):Int)) (i64w (by omega) (by omega))) ?_))))
 refine Zt 1 [] hn rfl (zR ?_)
 exact Zr ⟨k + 1,by omega⟩ ⟨.inl rfl,.inl (congrArg (fun z=>some (true,TV.d (D.int .i64 z))) (by rw [lowN,zP hsk,Int.toNat_natCast,zP hps])),.inl (congrArg (fun z=>some (true,TV.d (D.int .i64 z))) (by rw [higN,zP hsk,Int.toNat_natCast,zP hps])),zF _⟩ trivial (by simp only; omega)
 have q4:o.limit = 0 → k = (salesO x.b l x.fee o mm).length:=by intro h; have h2:=hb4; rw [h] at h2; simp at h2; omega
 refine zV (zE (zE (zL (zA (zD (Zu (Zt 11 [18] hn rfl ?_)))))))
 refine Zh [(194,_),(195,_)] (zS rfl rfl rfl) hn (fun hc=>⟨⟨_,rfl,hc⟩,⟨_,rfl,hc⟩,trivial⟩) (fun hc=>q_index (i:=i) rfl rfl rfl underlying46 sz66 rfl (mget hbk)) ?_
 refine Zt 4 [] hn rfl ?_
 refine Zh [(197,_),(200,_)] (zS rfl rfl rfl) hn (fun hc=>⟨⟨_,rfl,hc⟩,⟨_,rfl,hc⟩,trivial⟩) (fun hc=>q_neq66 rfl rfl rfl) ?_
 refine Zt 1 [] hn rfl (Zv (zH rfl (fun hb6=>?_) (fun hb6=>?_)))
 exact absurd hb6 (shown_no hF.S hod hP q4)
 refine zI (zA (Zu (Zt 2 [] hn rfl (Zi (i:=i) hn rfl rfl (mget hf) ?_))))
 refine Zt 3 [] hn rfl (Zv (zD (Zu (Zt 2 [] hn rfl (Zv (zH rfl (fun hb7=>?_) (fun hb7=>?_)))))))
 refine zV (zE (zL (zA (zG (Zt 1 [] hn rfl (Zs hn (za rfl rfl rfl (r:=((i + 1:Nat):Int)) (i64w (by omega) (by omega))) ?_))))))
 refine Zt 1 [] hn rfl (zR ?_)
 exact Zr ⟨i + 1,by omega⟩ ⟨.inl rfl,zF _⟩ (zQ _) (by simp only; omega)
 have q7:0 ≤ f.1:=by have h:=hb7; simp at h; omega
 obtain ⟨s,p2,hsl9,hp2,rfl⟩:∃ (s:Nat) (p2:Int),s < l.length ∧ t.prices[s]? = some p2 ∧ f = ((s:Int),priceO x.fee o p2):=by rcases hfill with ⟨rfl,_⟩ | ⟨k2,h1,rfl,_⟩; (simp at q7); (obtain ⟨p2,hp2⟩:=zT (show k2 < t.prices.length by omega); exact ⟨k2,p2,h1,hp2,by rw [zP hp2]⟩)
 have hp2b:=hpb p2 (List.mem_of_getElem? hp2)
 obtain ⟨m2,hm2⟩:=zT (show s < t.minutes.length by omega)
 obtain ⟨pt,hpt⟩:=zT hsl9
 have hstk:=hstk0 s rfl
 rw [zP hpt] at hstk
 refine zI (zA (zD (zD (zi (W:=fun b=>b ≠ b5 ∧ b ≠ b6 ∧ b ≠ b18) fmo ?_))))
 refine Zy [0,1,2,3,4,5,6] [] hn rfl ?_
 refine Zg 7 [(215,_),(216,_)] rfl (zS rfl rfl rfl) hn (fun hc=>⟨⟨_,rfl,hc⟩,⟨_,rfl,hc⟩,trivial⟩) (fun hc=>q_index (i:=i) rfl rfl rfl underlying53 sz68 rfl (mget hf)) ?_
 refine Zy [8,9,10,11,12,13,14] [5,18,6] hn rfl ?_
 refine Zg 15 [(223,_),(224,_)] rfl (zS rfl rfl rfl) hn (fun hc=>⟨⟨_,rfl,hc⟩,⟨_,rfl,hc⟩,trivial⟩) (fun hc=>q_index (i:=s) rfl rfl rfl underlying29 sz3 rfl (mget hp2)) ?_
 refine Zy [16] [] hn rfl (zB ?_)
 refine Zo 17 rfl (s_call [(220,_),(221,_),(226,_)] (fun hc=>zBo x o p2 hfe hp2b) rfl (zS rfl rfl rfl) rfl (nb hn rfl) (fun hc=>⟨⟨_,rfl,hc⟩,⟨_,rfl,hc⟩,⟨_,rfl,hc⟩,trivial⟩) rfl rfl (.refl _)) fun _=>?_
 refine d2_of_d1 (Zy [18,19] [] hn rfl (zB (zg (by kernel_rfl) ?_)))
 refine zA (zH rfl (fun hb8=>?_) (fun hb8=>?_))
 exact absurd hb8 (by simp; omega)
 refine zI (zA (zD (Zu (Zt 3 [6] hn rfl (Zi (i:=s) hn rfl rfl (mget hm2) ?_)))))
 refine Zt 2 [] hn rfl (Zv (zH rfl (fun hb9=>?_) (fun hb9=>?_)))
 refine zV (zE (zL (zA (zG (Zt 1 [] hn rfl (Zs hn (za rfl rfl rfl (r:=((i + 1:Nat):Int)) (i64w (by omega) (by omega))) ?_))))))
 refine Zt 1 [] hn rfl (zR ?_)
 exact Zr ⟨i + 1,by omega⟩ ⟨.inl rfl,zF _⟩ (zQ _) (by simp only; omega)
 have q9:0 ≤ m2:=by have h:=hb9; simp at h; omega
 obtain ⟨fl,hFd,hmem,hfl8⟩:=find_shown hF hsl9 (by rw [zP hm2]; exact q9)
 rw [zP hpt,zP hp2,zP hm2,hstk] at hFd
 refine zI (zA (zD (zk (e:=.normal) (ι:=Unit) (fun u0=>(25,true,.d (ints fl)) :: (26,true,.d (.int .i64 0)) :: anys [237,238,239,240,241,242,243,244,245,246,247,248,249,250,251,252,253,254,255,256,257,258,259,260,261,262,263,264,265,236,266,267]) (fun u0=>[]) (fun hJ10=>?_) ?_)))
 refine zi (W:=fun b=>b ≠ b5 ∧ b ≠ b6 ∧ b ≠ b8 ∧ b ≠ b18) fmo ?_
 refine Zy [0,1,2,3,4,5,6,7] [8,5,18,6] hn rfl (Zd 8 rfl hn (q_index (i:=s) rfl rfl rfl underlying29 sz3 rfl (mget hp2)) ?_)
 refine Zy [9,10,11] [] hn rfl (Zd 12 rfl hn (q_index (i:=s) rfl rfl rfl underlying39 sz71 rfl (mget hpt)) ?_)
 refine Zy [13,14,15,16,17,18] [6] hn rfl (Zd 19 rfl hn (q_index (i:=s) rfl rfl rfl underlying29 sz3 rfl (mget hm2)) ?_)
 refine Zy [20,21,22,23] [6] hn rfl (Zd 24 rfl hn (q_index (i:=s) rfl rfl rfl underlying29 sz3 rfl (mget hm2)) ?_)
 refine Zy [25,26,27] [] hn rfl (zB ?_)
 refine Ze1 28 rfl hn rfl ((by have h:=Find_ok x.b x.tape ⟨o.stock,p2,pt.nlo,m2,m2⟩ hN2 (by omega); rw [hFd] at h; exact h)) ?_
 refine d2_of_d1 (Zy [29,30,31,32,33] [] hn rfl (zB (zg (by kernel_rfl) ?_)))
 exact Zj hJ10 () ⟨.inl rfl,.inl rfl,zF _⟩ trivial
 rintro _
 refine zA (Zu (Zt 1 [] hn rfl (Zv (zD (Zu (Zt 1 [] hn rfl (Zv (zK (awp_loop_on (ι:={n:Nat // n ≤ fl.length}) (fun z=>(28,true,.d (.int .i64 (z.1:Nat))) :: (27,true,.d (.bool ((fl.take z.1).any fun y=>y == (s:Int)))) :: anys [268,269,270,271,274,275,276,277,278,279,280,281,282,272,273]) (fun z=>[]) (fun z=>fl.length - z.1) ⟨0,Nat.zero_le _⟩ ⟨.inl rfl,.inl rfl,zF _⟩ trivial ?_)))))))))
 rintro ⟨n,hn9⟩
 dsimp only
 refine zD (Zu (Zt 4 [] hn rfl (Zv (zH rfl (fun hb11=>?_) (fun hb11=>?_)))))
 have hnl:n < fl.length:=by simp at hb11; omega
 obtain ⟨y,hfn⟩:=zT hnl
 refine zI (zA (zD (zK (zG (Zt 4 [] hn rfl ?_)))))
 refine Zh [(276,_),(277,_)] (zS rfl rfl rfl) hn (fun hc=>⟨⟨_,rfl,hc⟩,⟨_,rfl,hc⟩,trivial⟩) (fun hc=>q_index (i:=n) rfl rfl rfl underlying29 sz3 rfl (mget hfn)) ?_
 refine Zt 5 [] hn rfl (zR (zN (zA (zG (Zt 1 [] hn rfl (Zs hn (za rfl rfl rfl (r:=((n + 1:Nat):Int)) (i64w (by omega) (by omega))) ?_))))))
 refine Zt 1 [] hn rfl (zR ?_)
 exact Zr ⟨n + 1,by omega⟩ ⟨.inl rfl,.inl (congrArg (fun z=>some (true,TV.d (D.bool z))) (any_suc hfn)),zF _⟩ trivial (by simp only; omega)
 obtain rfl:n = fl.length:=by simp at hb11; omega
 rw [List.take_length,any_full hmem]
 refine zV (zE (zE (zL (zA (Zu (Zt 6 [] hn rfl (Zv (zH rfl (fun hb12=>?_) (fun hb12=>?_)))))))))
 exact absurd hb12 (by simp)
 refine zI (zN (zA (zG (Zt 1 [] hn rfl (Zs hn (za rfl rfl rfl (r:=((i + 1:Nat):Int)) (i64w (by omega) (by omega))) ?_)))))
 refine Zt 1 [] hn rfl (zR ?_)
 exact Zr ⟨i + 1,by omega⟩ ⟨.inl rfl,zF _⟩ (zQ _) (by simp only; omega)
 obtain rfl:i = x.orders.length:=by simp [hbl] at hb2; omega
 refine zV (zE (zE (zL (zA (Zu (Zk hn rfl (zFI) (Zt 1 [] hn rfl (Zv (zJ ?_)))))))))
 exact ret_E (.inl rfl) () (zy rfl (.tmp rfl)) trivial
theorem TopShown_ok (d:Dsk) (ws:List Int) (hN:NamesOK d.b) (hw:WdsOK ws):PureAt Tryz.prog 3 [dskD d,wdsD ws] (.bool true):=PureAt.of_eff (ds:=[dskD d,wdsD ws]) (TopShown_eff d ws hN hw)
end Go.Proofs.YticlpkgpmmhemaaGreatDoor
