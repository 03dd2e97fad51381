/-
  A part of the proof that contangolaw.TopTicked returns true: what the last text needs, and no more. No condition: no statement of the seat is proved here.
-/
import Derived.Lib.ItoaLen
import Derived.Test.YticlpkgpmmhemaaGreatDoorTopTickedL
namespace Go.Proofs.YticlpkgpmmhemaaGreatDoor
open Go.Proofs.Tryz
open Go.RowKit
set_option maxRecDepth 20000
set_option linter.all false
@[reducible] def strE (s:List UInt8):List D:=[strD s]
def okSal (b:Brd) (s:Sal) (bm:Int):Bool:=withinB s.stock 0 ((b.stocks.length:Int) - 1) && withinB s.number 1 99 && withinB s.price 1 799 && withinB s.minute bm 600
def nameOf (b:Brd) (k:Int):List UInt8:=(b.stocks.getD k.toNat ⟨[],0,0⟩).name
def word1 (s bf:Sal):List (List UInt8):=bif s.minute != bf.minute then [[64] ++ Lib.itoa s.minute] else []
def word2 (b:Brd) (s bf:Sal):List (List UInt8):=bif s.stock != bf.stock then [nameOf b s.stock] else []
def word3 (s:Sal):List (List UInt8):=bif decide (1 < s.number) then [Lib.itoa s.number ++ [115]] else []
def word4 (s:Sal):List (List UInt8):=[Lib.itoa ((s.price.toNat % 80 / 8:Nat):Int) ++ [46] ++ Lib.itoa ((s.price.toNat % 80 % 8:Nat):Int)]
def wordsOf (b:Brd) (s bf:Sal):List (List UInt8):=word1 s bf ++ word2 b s bf ++ word3 s ++ word4 s
def writeGo (b:Brd):List Sal → Sal → List (List UInt8) → Option (List (List UInt8))
  | [],_,ws=>some ws
  | s :: r,bf,ws=>bif okSal b s bf.minute then writeGo b r s (ws ++ wordsOf b s bf) else none
def sal0:Sal:=⟨-1,0,0,0⟩
def writeI (b:Brd) (l:List Sal):List UInt8 × Int:=bif checkT b != 0 then ([],checkT b) else bif decide (8 < (l.length:Int)) then ([],3) else match writeGo b l sal0 [] with
  | none=>([],2)
  | some ws=>(Lib.join ws [32],0)
theorem yn {n:Nat} (h:n < 1000):(Lib.itoa (n:Int)).length ≤ 20:=by
  rw [Lib.itoa_nonneg,Lib.decDigits_length]
  exact Lib.nDigits_le20 n (by omega)
/-- Few short words. -/
structure WsOK (i:Nat) (ws:List (List UInt8)):Prop where
  n:ws.length ≤ 4 * i
  l:∀ w ∈ ws,w.length ≤ 60
theorem zEJ:∀ {ws:List (List UInt8)},(∀ w ∈ ws,w.length ≤ 60) → Lib.lens ws ≤ 60 * ws.length
  | [],_=>by simp [Lib.lens]
  | w :: ws,h=>by
    have h1:=h w List.mem_cons_self
    have h2:=zEJ fun x hx=>h x (List.mem_cons_of_mem w hx)
    simp only [Lib.lens,List.map_cons,List.sum_cons,List.length_cons] at h2 ⊢
    omega
theorem ws_join {i:Nat} {ws:List (List UInt8)} (h:WsOK i ws) (hi:i ≤ 8):(Lib.join ws [32]).length ≤ 140737488355328:=by
  have hn:=h.n
  have hl:=zEJ h.l
  cases ws with
  | nil=>simp [Lib.join]
  | cons x r =>
    rw [Lib.join_length]
    simp only [List.length_cons,List.length_nil] at hn hl ⊢
    omega
theorem addS {l:List (List UInt8)} {x:List UInt8}:l.map strE ++ [strE x] = (l ++ [x]).map strE:=by simp
theorem addW4 {l:List (List UInt8)} {s:Sal} {n:Nat} (h:s.price.toNat = n):l.map strE ++ [strE (Lib.itoa ((n % 80 / 8:Nat):Int) ++ [46] ++ Lib.itoa ((n % 80 % 8:Nat):Int))] = (l ++ word4 s).map strE:=by subst h; simp [word4]
theorem len_word4 (s:Sal):∀ w ∈ word4 s,w.length ≤ 60:=fun w hw=>by
  simp only [word4,List.mem_singleton] at hw
  subst hw
  have h1:=yn (n:=s.price.toNat % 80 / 8) (by omega)
  have h2:=yn (n:=s.price.toNat % 80 % 8) (by omega)
  simp only [List.length_append,List.length_cons,List.length_nil]
  omega
theorem words_ok {b:Brd} {s bf:Sal} {i:Nat} {ws:List (List UInt8)} (v:BrdOK b) (h:WsOK i ws) (hs:okSal b s bf.minute = true) (hm:0 ≤ bf.minute):WsOK (i + 1) (ws ++ wordsOf b s bf):=by
  simp only [okSal,Bool.and_eq_true] at hs
  obtain ⟨⟨⟨k1,k2⟩,k3⟩,k4⟩:=hs
  have k1:=zZ.1 k1
  have k2:=zZ.1 k2
  have k4:=zZ.1 k4
  have l1:(word1 s bf).length ≤ 1 ∧ ∀ w ∈ word1 s bf,w.length ≤ 60:=by
    unfold word1
    cases s.minute != bf.minute
    · exact ⟨by simp,fun _ h=>by cases h⟩
    · obtain ⟨n,hn⟩:∃ n:Nat,s.minute = n:=⟨s.minute.toNat,by omega⟩
      have:=yn (n:=n) (by omega)
      refine ⟨by simp,fun w hw=>?_⟩
      simp only [cond_true,List.mem_singleton] at hw
      subst hw
      rw [hn]
      simp only [List.length_append,List.length_cons,List.length_nil]; omega
  have l2:(word2 b s bf).length ≤ 1 ∧ ∀ w ∈ word2 b s bf,w.length ≤ 60:=by
    unfold word2
    cases s.stock != bf.stock
    · exact ⟨by simp,fun _ h=>by cases h⟩
    · refine ⟨by simp,fun w hw=>?_⟩
      simp only [cond_true,List.mem_singleton] at hw
      subst hw
      obtain ⟨st,hst⟩:=zV (show s.stock.toNat < b.stocks.length by omega)
      unfold nameOf
      rw [zS hst]
      have:=(zBo v (List.mem_of_getElem? hst)).2.2.2
      simp only [namedB,Bool.and_eq_true] at this
      have:=zZ.1 this.1
      omega
  have l3:(word3 s).length ≤ 1 ∧ ∀ w ∈ word3 s,w.length ≤ 60:=by
    unfold word3
    cases decide (1 < s.number)
    · exact ⟨by simp,fun _ h=>by cases h⟩
    · obtain ⟨n,hn⟩:∃ n:Nat,s.number = n:=⟨s.number.toNat,by omega⟩
      have:=yn (n:=n) (by omega)
      refine ⟨by simp,fun w hw=>?_⟩
      simp only [cond_true,List.mem_singleton] at hw
      subst hw
      rw [hn]
      simp only [List.length_append,List.length_cons,List.length_nil]; omega
  have hn:=h.n
  unfold wordsOf
  refine ⟨?_,fun w hw=>?_⟩
  · simp only [List.length_append,word4,List.length_cons,List.length_nil]; omega
  · simp only [List.mem_append] at hw
    rcases hw with hw | ((hw | hw) | hw) | hw
    · exact h.l w hw
    · exact l1.2 w hw
    · exact l2.2 w hw
    · exact l3.2 w hw
    · exact len_word4 s w hw
theorem zr9:(Tryz.prog.info? 9).map (·.zero) = some (some (.string ⟨#[]⟩)):=by kernel_rfl
theorem elt230:ElT Tryz.prog 230 9 1 16:=kP underlying230 (z:=(.string ⟨#[]⟩)) (by kernel_rfl) rfl (by decide)
theorem Write_eff (b:Brd) (l:List Sal) (hN:NamesOK b):EffAt Tryz.prog 39 [.d (brdD b),.d (salsD l)] [] (X:=Unit) (fun _=>.d (.tup [strD (writeI b l).1,.int .i64 (writeI b l).2])) (fun _=>[]):=by
 refine EffAt.of_awp Tryz.func39 rfl (by kernel_rfl) rfl fun Γ hn=>?_
 refine Zu (Zb 2 hn rfl fun b2=>Zt 2 [] hn rfl (Zv (zD (Zu (Zt 1 [2] hn rfl (Zk hn rfl (ky _ (by assumption)) (Zt 1 [] hn rfl (Zv (Zu (Zt 2 [] hn rfl (Zv (zG rfl (fun hb0=>?_) (fun hb0=>?_)))))))))))))
 have q0:(checkT b != 0) = true:=hb0
 have e1:writeI b l = ([],checkT b):=by unfold writeI; rw [q0]; rfl
 rw [e1]
 refine Zu (Zt 3 [] hn rfl (Zv (zI (zB ?_))))
 exact ret_E (.inl rfl) () (zr rfl (.tmp rfl) (.tmp rfl)) trivial
 have q0:(checkT b != 0) = false:=hb0
 have v:BrdOK b:=yK (by simpa using q0)
 have hn1:=v.n1
 have hn4:=v.n4
 refine zJ (zA (zD (Zu (Zt 3 [] hn rfl (Zv (zG rfl (fun hb1=>?_) (fun hb1=>?_)))))))
 have q1:decide (8 < (l.length:Int)) = true:=by simp at hb1 ⊢; omega
 have e1:writeI b l = ([],3):=by unfold writeI; rw [q0,q1]; rfl
 rw [e1]
 refine Zu (Zt 2 [] hn rfl (Zv (zI (zB ?_))))
 exact ret_E (.inl rfl) () (zr rfl (.tmp rfl) (.tmp rfl)) trivial
 have q1:decide (8 < (l.length:Int)) = false:=by simp at hb1 ⊢; omega
 have hl8:l.length ≤ 8:=by simp at q1; omega
 refine zJ (zA (Zu (Zt 1 [] hn rfl (Zb 7 hn rfl fun b7=>Zt 1 [7] hn rfl (Zv (Zu (Zt 1 [] hn rfl (Zv (zD (zD (yH (g_nil (t:=8) (id:=8) 9 1 rfl (nb hn rfl)) ?_)))))))))))
 refine zH (Zt 3 [] hn rfl (Zv (zN (awp_loop_on (ι:={x:Nat × Sal × List (List UInt8) × Value // x.1 ≤ l.length ∧ 0 ≤ x.2.1.minute ∧ WsOK x.1 x.2.2.1 ∧ writeGo b (l.drop x.1) x.2.1 x.2.2.1 = writeGo b l sal0 []}) (fun x=>(23,true,.d (.int .i64 (x.1.1:Nat))) :: (8,true,.val x.1.2.2.2) :: anys [24,25,26,10,27,28,29,30,31,32,33,34,35,36,37,38,39,40,41,42,43,44,45,46,47,48,49,50,51,52,53,54,55,56,57,58,59,60,61,62,63,64,65,66,67,68,69,70,71,72,73,74,75,76,77,78,79,80,81,82,83,84,85,86,87,88,89,90,91,92,93,94,11,95,96,97,98,99,100,101,102,103,104,105,106,107]) (fun x=>(7,.box b7 224 ((salE x.1.2.1).map .d)) :: (8,.row x.1.2.2.2 9 1 (x.1.2.2.1.map strE)) :: gones [10]) (fun x=>l.length - x.1.1) ⟨(0,sal0,[],.slice none 0 0),Nat.zero_le _,by decide,⟨by simp,fun _ h=>(by cases h)⟩,rfl⟩ ⟨.inl rfl,.inl rfl,zF _⟩ ⟨.inl rfl,.inl rfl,zW _⟩ ?_))))
 rintro ⟨⟨i,bf,ws,vv⟩,hi,hbm,hws,hgo⟩
 dsimp only
 dsimp only at hi hbm hws hgo
 have hwn:=hws.n
 refine Zu (Zt 1 [] hn rfl (Zv (zD (zG rfl (fun hb2=>?_) (fun hb2=>?_)))))
 have hil:i < l.length:=by simp at hb2; omega
 obtain ⟨sl,hsl⟩:=zV hil
 refine zJ (zA (zD (zN (Zu (Zi (i:=i) hn rfl rfl (mget hsl) ?_)))))
 refine Zt 1 [] hn rfl (Zb 10 hn rfl fun b10=>Zt 1 [10] hn rfl (Zv (zD (Zu (Zt 5 [10,2] hn rfl (Zs hn (yB rfl rfl rfl (r:=(b.stocks.length:Int) - 1) (by rw [List.length_map]; exact i64w (by omega) rfl)) ?_))))))
 refine Zk hn rfl (zz _ _ _) (Zt 4 [10] hn rfl (Zkg hn rfl (fun hc=>zz _ _ _) (Zt 5 [10] hn rfl (Zkg hn rfl (fun hc=>zz _ _ _) (Zt 7 [10,7] hn rfl (Zkg hn rfl (fun hc=>zz _ _ _) (Zt 2 [] hn rfl (Zv (zG rfl (fun hb3=>?_) (fun hb3=>?_))))))))))
 have hok:okSal b sl bf.minute = false:=by unfold okSal; cases h1:withinB sl.stock 0 ((b.stocks.length:Int) - 1) <;> cases h2:withinB sl.number 1 99 <;> cases h3:withinB sl.price 1 799 <;> cases h4:withinB sl.minute bf.minute 600 <;> simp [h1,h2,h3,h4] at hb3 ⊢
 have e1:writeI b l = ([],2):=by unfold writeI; rw [q0,q1,← hgo,zf hsl,writeGo,hok]; rfl
 rw [e1]
 refine Zu (Zt 2 [] hn rfl (Zv (zI (zB (zL (zB (zB (zL (zB ?_)))))))))
 exact ret_E (.inl rfl) () (zr rfl (.tmp rfl) (.tmp rfl)) trivial
 have hok:okSal b sl bf.minute = true:=by unfold okSal; cases h1:withinB sl.stock 0 ((b.stocks.length:Int) - 1) <;> cases h2:withinB sl.number 1 99 <;> cases h3:withinB sl.price 1 799 <;> cases h4:withinB sl.minute bf.minute 600 <;> simp [h1,h2,h3,h4] at hb3 ⊢
 have hok2:=hok
 simp only [okSal,Bool.and_eq_true] at hok2
 obtain ⟨⟨⟨k1,k2⟩,k3⟩,k4⟩:=hok2
 replace k1:=zZ.1 k1
 replace k2:=zZ.1 k2
 replace k3:=zZ.1 k3
 replace k4:=zZ.1 k4
 obtain ⟨mn,hmn⟩:∃ n:Nat,sl.minute = n:=⟨sl.minute.toNat,by omega⟩
 have hm20:=yn (n:=mn) (by omega)
 rw [← hmn] at hm20
 obtain ⟨nn,hnn⟩:∃ n:Nat,sl.number = n:=⟨sl.number.toNat,by omega⟩
 have hn20:=yn (n:=nn) (by omega)
 rw [← hnn] at hn20
 obtain ⟨pn,hpn⟩:∃ n:Nat,sl.price = n:=⟨sl.price.toNat,by omega⟩
 have hp20:=yn (n:=pn % 80 / 8) (by omega)
 have hr20:=yn (n:=pn % 80 % 8) (by omega)
 have hpt:sl.price.toNat = pn:=by omega
 obtain ⟨k,hk⟩:∃ k:Nat,sl.stock = k:=⟨sl.stock.toNat,by omega⟩
 obtain ⟨st,hst⟩:=zV (show k < b.stocks.length by omega)
 refine zJ (zA (zD (Zu (Zt 5 [10,7] hn rfl (Zv (zb (e:=.normal) (ι:=Value) (fun x=>(8,true,.val x) :: anys [60,61,62,63,64,65,66]) (fun x=>[(8,.row x 9 1 ((ws ++ word1 sl bf).map strE))]) (fun hJ4=>?_) ?_))))))
 refine zG rfl (fun hb4=>?_) (fun hb4=>?_)
 have q4:(sl.minute != bf.minute) = true:=hb4
 have hw1:word1 sl bf = [[64] ++ Lib.itoa sl.minute]:=by unfold word1; rw [q4]; rfl
 refine zH (Zt 3 [10] hn rfl (Zk hn rfl (zAJ _ (by omega) (by omega)) (Zs hn (zBH rfl rfl rfl (by simp; omega) rfl) ?_)))
 refine stepW (zP rfl rfl rfl (nb hn rfl) underlying230 sz9 zr9 rfl rfl rfl (show _ = [.d (.str ⟨#[]⟩)] from by kernel_rfl) (by kernel_rfl) rfl rfl rfl rfl rfl) fun _=>?_
 refine stepW (s_append (id:=8) rfl rfl rfl (nb hn rfl) elt230 trivial rfl rfl rfl (by simp [chunk]; omega) (by simp [chunk]; omega) (fun b hb=>trivial)) fun v66=>?_
 refine Zt 1 [] hn rfl (zQ ?_)
 exact Zj hJ4 v66 ⟨.inl rfl,zF _⟩ ⟨.inl (by rw [hw1,← addS]; rfl),trivial⟩
 have q4:(sl.minute != bf.minute) = false:=hb4
 have hw1:word1 sl bf = []:=by unfold word1; rw [q4]; rfl
 refine zJ ?_
 exact Zj hJ4 vv ⟨.inl rfl,zF _⟩ ⟨.inl (by rw [hw1,List.append_nil]; rfl),trivial⟩
 rintro vw
 have hc1:(word1 sl bf).length ≤ 1:=by unfold word1; cases sl.minute != bf.minute <;> simp
 refine zA (zD (Zu (Zt 5 [10,7] hn rfl (Zv (zb (e:=.normal) (ι:=Value) (fun x=>(8,true,.val x) :: anys [72,73,74,75,76,77,78,79,80,81]) (fun x=>[(8,.row x 9 1 ((ws ++ word1 sl bf ++ word2 b sl bf).map strE))]) (fun hJ5=>?_) ?_)))))
 refine zG rfl (fun hb5=>?_) (fun hb5=>?_)
 have q5:(sl.stock != bf.stock) = true:=hb5
 have hw2:word2 b sl bf = [st.name]:=by unfold word2 nameOf; rw [q5,hk,Int.toNat_natCast,zS hst]; rfl
 refine zH (Zt 5 [2,10] hn rfl (Zs hn (q_index (i:=k) rfl rfl rfl underlying35 sz160 hk (mget hst)) ?_))
 refine Zt 2 [] hn rfl ?_
 refine stepW (zP rfl rfl rfl (nb hn rfl) underlying230 sz9 zr9 rfl rfl rfl (show _ = [.d (.str ⟨#[]⟩)] from by kernel_rfl) (by kernel_rfl) rfl rfl rfl rfl rfl) fun _=>?_
 refine stepW (s_append (id:=8) rfl rfl rfl (nb hn rfl) elt230 trivial rfl rfl rfl (by simp [chunk]; omega) (by simp [chunk]; omega) (fun b hb=>trivial)) fun v81=>?_
 refine Zt 1 [] hn rfl (zQ ?_)
 exact Zj hJ5 v81 ⟨.inl rfl,zF _⟩ ⟨.inl (by rw [hw2,← addS]; rfl),trivial⟩
 have q5:(sl.stock != bf.stock) = false:=hb5
 have hw2:word2 b sl bf = []:=by unfold word2; rw [q5]; rfl
 refine zJ ?_
 exact Zj hJ5 vw ⟨.inl rfl,zF _⟩ ⟨.inl (by rw [hw2,List.append_nil]; rfl),trivial⟩
 rintro vw
 have hc2:(word2 b sl bf).length ≤ 1:=by unfold word2; cases sl.stock != bf.stock <;> simp
 refine zA (zD (Zu (Zt 3 [10] hn rfl (Zv (zb (e:=.normal) (ι:=Value) (fun x=>(8,true,.val x) :: anys [85,86,87,88,89,90,91]) (fun x=>[(8,.row x 9 1 ((ws ++ word1 sl bf ++ word2 b sl bf ++ word3 sl).map strE))]) (fun hJ6=>?_) ?_)))))
 refine zG rfl (fun hb6=>?_) (fun hb6=>?_)
 have q6:decide (1 < sl.number) = true:=hb6
 have hw3:word3 sl = [Lib.itoa sl.number ++ [115]]:=by unfold word3; rw [q6]; rfl
 refine zH (Zt 3 [10] hn rfl (Zk hn rfl (zAJ _ (by omega) (by omega)) (Zs hn (zBH rfl rfl rfl (by simp; omega) rfl) ?_)))
 refine stepW (zP rfl rfl rfl (nb hn rfl) underlying230 sz9 zr9 rfl rfl rfl (show _ = [.d (.str ⟨#[]⟩)] from by kernel_rfl) (by kernel_rfl) rfl rfl rfl rfl rfl) fun _=>?_
 refine stepW (s_append (id:=8) rfl rfl rfl (nb hn rfl) elt230 trivial rfl rfl rfl (by simp [chunk]; omega) (by simp [chunk]; omega) (fun b hb=>trivial)) fun v91=>?_
 refine Zt 1 [] hn rfl (zQ ?_)
 exact Zj hJ6 v91 ⟨.inl rfl,zF _⟩ ⟨.inl (by rw [hw3,← addS]; rfl),trivial⟩
 have q6:decide (1 < sl.number) = false:=hb6
 have hw3:word3 sl = []:=by unfold word3; rw [q6]; rfl
 refine zJ ?_
 exact Zj hJ6 vw ⟨.inl rfl,zF _⟩ ⟨.inl (by rw [hw3,List.append_nil]; rfl),trivial⟩
 rintro vw
 have hc3:(word3 sl).length ≤ 1:=by unfold word3; cases decide (1 < sl.number) <;> simp
 refine zA (Zu (Zt 2 [10] hn rfl (Zs hn (zAT rfl rfl rfl (r:=((pn % 80:Nat):Int)) (by omega) (by rw [hpn]; exact modN (a:=pn) (b:=80) (by omega))) ?_)))
 refine Zt 1 [] hn rfl (Zv (Zu (Zt 2 [] hn rfl (Zs hn (q_quo rfl rfl rfl (r:=((pn % 80 / 8:Nat):Int)) (by omega) (quoN (a:=pn % 80) (b:=8) (by omega) (by omega))) ?_))))
 refine Zk hn rfl (zAJ _ (by omega) (by omega)) (Zs hn (zBH rfl rfl rfl (by simp only [List.length_append,List.length_cons,List.length_nil]; omega) rfl) ?_)
 refine Zt 1 [] hn rfl (Zs hn (zAT rfl rfl rfl (r:=((pn % 80 % 8:Nat):Int)) (by omega) (modN (a:=pn % 80) (b:=8) (by omega))) ?_)
 refine Zk hn rfl (zAJ _ (by omega) (by omega)) (Zs hn (zBH rfl rfl rfl (by simp only [List.length_append,List.length_cons,List.length_nil]; omega) rfl) ?_)
 refine stepW (zP rfl rfl rfl (nb hn rfl) underlying230 sz9 zr9 rfl rfl rfl (show _ = [.d (.str ⟨#[]⟩)] from by kernel_rfl) (by kernel_rfl) rfl rfl rfl rfl rfl) fun _=>?_
 refine stepW (s_append (id:=8) rfl rfl rfl (nb hn rfl) elt230 trivial rfl rfl rfl (by simp [chunk]; omega) (by simp [chunk]; omega) (fun b hb=>trivial)) fun v105=>?_
 refine Zt 1 [] hn rfl (Zv (zH (Zt 2 [10,7] hn rfl (zQ (zM (zA (zH (Zs hn (zh rfl rfl rfl (r:=((i + 1:Nat):Int)) (i64w (by omega) (by omega))) ?_))))))))
 refine Zt 1 [] hn rfl (zQ ?_)
 exact Zr ⟨(i + 1,sl,ws ++ word1 sl bf ++ word2 b sl bf ++ word3 sl ++ word4 sl,v105),by simp only; omega,by simp only; omega,by have:=words_ok v hws hok hbm; unfold wordsOf at this; simpa only [List.append_assoc] using this,by simp only; rw [← hgo,zf hsl,writeGo,hok]; unfold wordsOf; simp only [List.append_assoc,cond_true]⟩ ⟨.inl rfl,.inl rfl,zF _⟩ ⟨.inl rfl,.inl (congrArg (fun z=>some (Res.row v105 9 1 z)) (addW4 hpt)),zW _⟩ (by simp only; omega)
 have hie:i = l.length:=by simp at hb2; omega
 rw [hie,List.drop_length] at hgo
 have e1:writeI b l = (Lib.join ws [32],0):=by unfold writeI; rw [q0,q1,← hgo]; rfl
 rw [e1]
 refine zX (zC (zC (zO (zA (zD ?_)))))
 have hi8:i ≤ 8:=by omega
 refine zH (Zt 1 [] hn rfl (yd (g_row (t:=108) (id:=8) rfl rfl) ?_))
 refine Zk hn rfl (Join_ok ws [32] (ws_join hws hi8) (by omega)) (Zt 2 [] hn rfl (Zv (zI ?_)))
 exact ret_E (.inl rfl) () (zr rfl (.tmp rfl) (.tmp rfl)) trivial
theorem zDN (b:Brd) (l:List Sal) (hN:NamesOK b):PureAt Tryz.prog 39 [brdD b,salsD l] (.tup [strD (writeI b l).1,.int .i64 (writeI b l).2]):=PureAt.of_eff (ds:=[brdD b,salsD l]) (Write_eff b l hN)
end Go.Proofs.YticlpkgpmmhemaaGreatDoor
namespace Go.Proofs.YticlpkgpmmhemaaGreatDoor
open Go.RowKit
set_option linter.all false
/-- The number that a string is, as the document says. -/
def dig (s:List UInt8):Option Nat:=bif decide (1 ≤ s.length) && decide (s.length ≤ 3) && !(decide (1 < s.length) && s.getD 0 0 == 48) then Lib.decFrom 0 s else none
theorem tn {n:Nat} (h:n < 256):(UInt8.ofNat n).toNat = n:=by rw [UInt8.toNat_ofNat']; exact Nat.mod_eq_of_lt h
theorem yc {b:UInt8} {d:Nat} (h:Lib.digitVal b = some d):b = UInt8.ofNat (48 + d) ∧ d ≤ 9:=by
  obtain ⟨h1,h2,h3⟩:=Lib.digitVal_eq h
  refine ⟨?_,by omega⟩
  apply UInt8.toNat_inj.1
  rw [tn (by omega)]
  omega
theorem dd1 {m:Nat} (h:m < 10):Lib.decDigits m = [UInt8.ofNat (48 + m)]:=by rw [Lib.decDigits,dif_pos h]
theorem dd2 {m:Nat} (h:¬ m < 10):Lib.decDigits m = Lib.decDigits (m / 10) ++ [UInt8.ofNat (48 + m % 10)]:=by rw [Lib.decDigits,dif_neg h]
theorem zDf:∀ (m:Nat),∀ x ∈ Lib.decDigits m,48 ≤ x.toNat ∧ x.toNat ≤ 57:=by
  intro m
  induction m using Nat.strongRecOn with
  | _ m ih =>
    intro x hx
    by_cases h:m < 10
    · rw [dd1 h,List.mem_singleton] at hx
      subst hx
      rw [tn (by omega)]; omega
    · rw [dd2 h] at hx
      rcases List.mem_append.1 hx with hx | hx
      · exact ih (m / 10) (by omega) x hx
      · rw [List.mem_singleton] at hx
        subst hx
        rw [tn (by omega)]; omega
theorem zDp {m:Nat} (h:m < 100):(Lib.decDigits m).length ≤ 2:=by
  by_cases h1:m < 10
  · rw [dd1 h1]; simp
  · rw [dd2 h1,dd1 (by omega)]; simp
theorem zDy {s:List UInt8} {m:Nat} (h:Lib.decFrom 0 s = some m) (h1:1 ≤ s.length) (h3:s.length ≤ 3):Lib.decDigits m = s ↔ (decide (1 < s.length) && s.getD 0 0 == 48) = false:=by
  match s,h1,h3,h with
  | [a],_,_,h =>
    cases ha:Lib.digitVal a with
    | none=>simp [Lib.decFrom,ha] at h
    | some x =>
      obtain ⟨e1,e2⟩:=yc ha
      simp [Lib.decFrom,ha] at h
      subst h
      rw [dd1 (by omega),← e1]
      simp
  | [a,b],_,_,h =>
    cases ha:Lib.digitVal a with
    | none=>simp [Lib.decFrom,ha] at h
    | some x =>
      cases hb:Lib.digitVal b with
      | none=>simp [Lib.decFrom,ha,hb] at h
      | some y =>
        obtain ⟨e1,e2⟩:=yc ha
        obtain ⟨f1,f2⟩:=yc hb
        simp [Lib.decFrom,ha,hb] at h
        subst h
        by_cases hx:x = 0
        · subst hx
          rw [dd1 (by omega)]
          simp [e1]
        · rw [dd2 (by omega),dd1 (by omega),show (x * 10 + y) / 10 = x by omega,show (x * 10 + y) % 10 = y by omega,← e1,← f1]
          have hne:a ≠ 48:=fun e=>by
            have:=(Lib.digitVal_eq ha).2.2
            rw [e] at this
            exact hx (by simpa using this)
          simp [hne]
  | [a,b,c],_,_,h =>
    cases ha:Lib.digitVal a with
    | none=>simp [Lib.decFrom,ha] at h
    | some x =>
      cases hb:Lib.digitVal b with
      | none=>simp [Lib.decFrom,ha,hb] at h
      | some y =>
        cases hc:Lib.digitVal c with
        | none=>simp [Lib.decFrom,ha,hb,hc] at h
        | some z =>
          obtain ⟨e1,e2⟩:=yc ha
          obtain ⟨f1,f2⟩:=yc hb
          obtain ⟨g1,g2⟩:=yc hc
          simp [Lib.decFrom,ha,hb,hc] at h
          subst h
          by_cases hx:x = 0
          · subst hx
            constructor
            · intro q
              have:=zDp (m:=(0 * 10 + y) * 10 + z) (by omega)
              rw [show (0 * 10 + y) * 10 + z = y * 10 + z by omega] at this
              have e:=congrArg List.length q
              simp at e this
              omega
            · intro q
              simp [e1] at q
          · rw [dd2 (by omega),dd2 (by omega),dd1 (by omega),show ((x * 10 + y) * 10 + z) / 10 = x * 10 + y by omega,show ((x * 10 + y) * 10 + z) % 10 = z by omega,show (x * 10 + y) / 10 = x by omega,show (x * 10 + y) % 10 = y by omega,← e1,← f1,← g1]
            have hne:a ≠ 48:=fun e=>by
              have:=(Lib.digitVal_eq ha).2.2
              rw [e] at this
              exact hx (by simpa using this)
            simp [hne]
theorem kZ (s : List UInt8) : digI s = match dig s with
    | some n=>(n:Int)
    | none=>-1:=by
  by_cases h3:s.length ≤ 3
  · cases s with
    | nil=>rw [show dig [] = none from rfl]; unfold digI; rw [Lib.atoiAll_short [] (by simp)]; rfl
    | cons b r =>
      have hd1:decide (1 ≤ (b :: r).length) = true:=by simp
      unfold digI dig
      rw [Lib.atoiAll_short _ (by omega),hd1,show decide ((b :: r).length ≤ 3) = true by simpa using h3,show decide (3 < ((b :: r).length:Int)) = false by simp only [decide_eq_false_iff_not]; omega]
      simp only [Bool.true_and,Bool.or_false,Bool.and_self]
      simp only [Lib.atoi]
      by_cases h45:b = 45
      · subst h45
        have hn:Lib.decFrom 0 (45 :: r) = none:=rfl
        rw [hn]
        simp only [beq_self_eq_true,if_true]
        cases hr:Lib.decNat r with
        | none=>cases (!(decide (1 < (45 :: r).length) && (45 :: r).getD 0 0 == 48)) <;> rfl
        | some m =>
          have e:(bif decide (-(m:Int) < 0) || (Lib.itoa (-(m:Int)) != 45 :: r) then (-1:Int) else -(m:Int)) = -1:=by
            cases m with
            | succ m=>rw [show decide (-((m + 1:Nat):Int) < 0) = true by simp only [decide_eq_true_eq]; omega]; rfl
            | zero =>
              have:(Lib.itoa (-((0:Nat):Int)) != 45 :: r) = true:=by
                rw [show (-((0:Nat):Int)) = ((0:Nat):Int) by omega,Lib.itoa_nonneg,dd1 (by omega)]
                simp
              rw [this]; simp
          cases (!(decide (1 < (45 :: r).length) && (45 :: r).getD 0 0 == 48)) <;> exact e
      · by_cases h43:b = 43
        · subst h43
          have hn:Lib.decFrom 0 (43 :: r) = none:=rfl
          rw [hn,show ((43:UInt8) == 45) = false from rfl]
          simp only [beq_self_eq_true,if_true,Bool.false_eq_true,if_false]
          cases hr:Lib.decNat r with
          | none=>cases (!(decide (1 < (43 :: r).length) && (43 :: r).getD 0 0 == 48)) <;> rfl
          | some m =>
            have:(Lib.itoa (m:Int) != 43 :: r) = true:=by
              rw [Lib.itoa_nonneg,bne_iff_ne]
              intro q
              have:=zDf m 43 (by rw [q]; exact List.mem_cons_self)
              revert this; decide
            have e:(bif decide ((m:Int) < 0) || (Lib.itoa (m:Int) != 43 :: r) then (-1:Int) else (m:Int)) = -1:=by rw [this]; simp
            cases (!(decide (1 < (43 :: r).length) && (43 :: r).getD 0 0 == 48)) <;> exact e
        · rw [show (b == 45) = false by simpa using h45,show (b == 43) = false by simpa using h43]
          simp only [Bool.false_eq_true,if_false]
          unfold Lib.decNat
          simp only [List.isEmpty_cons,Bool.false_eq_true,if_false]
          cases hr:Lib.decFrom 0 (b :: r) with
          | none=>cases (!(decide (1 < (b :: r).length) && (b :: r).getD 0 0 == 48)) <;> rfl
          | some m =>
            have hs:=zDy hr (by simp) h3
            have e:(bif decide ((m:Int) < 0) || (Lib.itoa (m:Int) != b :: r) then (-1:Int) else (m:Int)) = bif (Lib.decDigits m != b :: r) then -1 else (m:Int):=by
              rw [Lib.itoa_nonneg,show decide ((m:Int) < 0) = false by simp only [decide_eq_false_iff_not]; omega]; rfl
            show (bif decide ((m:Int) < 0) || (Lib.itoa (m:Int) != b :: r) then (-1:Int) else (m:Int)) = _
            rw [e]
            cases hc:(decide (1 < (b :: r).length) && (b :: r).getD 0 0 == 48) with
            | false=>rw [show (Lib.decDigits m != b :: r) = false by rw [bne_eq_false_iff_eq]; exact hs.2 hc]; rfl
            | true =>
              rw [show (Lib.decDigits m != b :: r) = true by rw [bne_iff_ne]; intro q; rw [hs.1 q] at hc; cases hc]; rfl
  · have:dig s = none:=by unfold dig; rw [show decide (s.length ≤ 3) = false by simpa using h3]; simp
    rw [this]
    unfold digI
    cases Lib.atoiAll s with
    | ok v=>simp only; rw [show decide (3 < (s.length:Int)) = true by simp only [decide_eq_true_eq]; omega]; simp
    | range=>rfl
    | _=>rfl
theorem yh {s:List UInt8} {n:Nat} (h:dig s = some n):(∀ x ∈ s,48 ≤ x.toNat ∧ x.toNat ≤ 57) ∧ 1 ≤ s.length ∧ s.length ≤ 3 ∧ n ≤ 999:=by
  have hb:=zAa s
  rw [kZ,h] at hb
  unfold dig at h
  cases hc:(decide (1 ≤ s.length) && decide (s.length ≤ 3) && !(decide (1 < s.length) && s.getD 0 0 == 48)) <;> rw [hc] at h
  · cases h
  · simp only [Bool.and_eq_true,decide_eq_true_eq] at hc
    refine ⟨fun x hx=>?_,hc.1.1,hc.1.2,by simp only at hb; omega⟩
    obtain ⟨k,hk⟩:=List.getElem?_of_mem hx
    obtain ⟨d,hd⟩:=Lib.digit_of_decFrom s 0 n h k x hk
    have:=Lib.digitVal_eq hd
    omega
theorem zAh {s:List UInt8}:0 ≤ digI s ↔ ∃ n,dig s = some n:=by
  rw [kZ]
  cases dig s with
  | none=>simp
  | some n=>simp
theorem zC1 {c:UInt8}:∀ {s:List UInt8},c ∉ s → Lib.index s [c] = -1
  | [],_=>rfl
  | b :: l,h=>by
    have h1:c ≠ b:=fun e=>h (e ▸ List.mem_cons_self)
    have h2:c ∉ l:=fun e=>h (List.mem_cons_of_mem _ e)
    unfold Lib.index
    rw [zC1 h2,show ([c]:List UInt8).isPrefixOf (b :: l) = false by show (c == b && List.isPrefixOf [] l) = false; rw [show (c == b) = false by simpa using h1]; rfl]
    rfl
theorem zDl {c:UInt8} {b:List UInt8}:∀ {a:List UInt8},c ∉ a → Lib.index (a ++ c :: b) [c] = a.length
  | [],_=>by
    unfold Lib.index
    simp
  | x :: l,h=>by
    have h1:c ≠ x:=fun e=>h (e ▸ List.mem_cons_self)
    have h2:c ∉ l:=fun e=>h (List.mem_cons_of_mem _ e)
    show Lib.index (x :: (l ++ c :: b)) [c] = _
    unfold Lib.index
    rw [zDl h2,show ([c]:List UInt8).isPrefixOf (x :: (l ++ c :: b)) = false by show (c == x && List.isPrefixOf [] (l ++ c :: b)) = false; rw [show (c == x) = false by simpa using h1]; rfl]
    rw [show ((l.length:Int) == -1) = false by simp only [beq_eq_false_iff_ne]; omega]
    simp
theorem zBX {c:UInt8} {s:List UInt8} (h:c ∉ s):Lib.cut s [c] = (s,[],false):=by
  unfold Lib.cut
  rw [zC1 h]
  rfl
theorem kD {c:UInt8} {a b:List UInt8} (h:c ∉ a):Lib.cut (a ++ c :: b) [c] = (a,b,true):=by
  unfold Lib.cut
  rw [zDl h,if_pos (by omega)]
  simp
theorem zAc {c:UInt8}:∀ {s:List UInt8},c ∈ s → ∃ a b,s = a ++ c :: b ∧ c ∉ a
  | [],h=>by cases h
  | x :: l,h=>by
    by_cases e:c = x
    · subst e; exact ⟨[],l,rfl,by simp⟩
    · rcases List.mem_cons.1 h with h | h
      · exact (e h).elim
      · obtain ⟨a,b,rfl,h2⟩:=zAc h
        exact ⟨x :: a,b,rfl,fun q=>(List.mem_cons.1 q).elim e h2⟩
theorem dig_itoa {s:List UInt8} {n:Nat} (h:dig s = some n):Lib.decDigits n = s:=by
  obtain ⟨_,h1,h3,_⟩:=yh h
  unfold dig at h
  cases hc:(decide (1 ≤ s.length) && decide (s.length ≤ 3) && !(decide (1 < s.length) && s.getD 0 0 == 48)) <;> rw [hc] at h
  · cases h
  · simp only [Bool.and_eq_true] at hc
    exact (zDy h h1 h3).2 (by have:=hc.2; revert this; cases (decide (1 < s.length) && s.getD 0 0 == 48) <;> simp)
theorem zCX {s:List UInt8} {x:UInt8} (hx:x ∈ s) (h:x.toNat < 48 ∨ 57 < x.toNat):dig s = none:=by
  cases hd:dig s with
  | none=>rfl
  | some n=>have:=(yh hd).1 x hx; omega
theorem dig_one {c:UInt8} (h:48 ≤ c.toNat ∧ c.toNat ≤ 57):dig [c] = some (c.toNat - 48):=by
  show Lib.decFrom 0 [c] = _
  simp [Lib.decFrom,Lib.digitVal,h]
theorem dig_small {b:List UInt8} {n:Nat} (h:dig b = some n) (hn:n ≤ 9):∃ c:UInt8,b = [c] ∧ 48 ≤ c.toNat ∧ c.toNat ≤ 57 ∧ n = c.toNat - 48:=by
  have h1:=dig_itoa h
  rw [dd1 (by omega)] at h1
  subst h1
  refine ⟨_,rfl,?_⟩
  rw [tn (by omega)]
  omega
/-- The numbers before and after the point of a price, as the document says. -/
def pointD (s:List UInt8):Int × Int × Bool:=bif decide (s.length < 3) || (s.getD (s.length - 2) 0 != 46) then (0,0,false) else
  (((dig (s.take (s.length - 2))).getD 0:Nat),((s.getD (s.length - 1) 0).toNat:Int) - 48,(dig (s.take (s.length - 2))).isSome && withinB (((s.getD (s.length - 1) 0).toNat:Int) - 48) 0 7)
theorem y0 {s:List UInt8} (h:(pointD s).2.2 = true):∃ a c d,s = a ++ [46,c] ∧ dig a = some d ∧ 48 ≤ c.toNat ∧ c.toNat ≤ 55 ∧ pointD s = (((d:Nat):Int),((c.toNat - 48:Nat):Int),true):=by
  unfold pointD at h ⊢
  cases hc:(decide (s.length < 3) || (s.getD (s.length - 2) 0 != 46)) <;> rw [hc] at h
  · simp only [cond_false,Bool.and_eq_true] at h ⊢
    simp only [Bool.or_eq_false_iff,decide_eq_false_iff_not,bne_eq_false_iff_eq] at hc
    obtain ⟨hl,hp⟩:=hc
    obtain ⟨h1,h2⟩:=h
    obtain ⟨d,hd⟩:=Option.isSome_iff_exists.1 h1
    have h2:=zZ.1 h2
    obtain ⟨p,hp1⟩:=zV (show s.length - 2 < s.length by omega)
    obtain ⟨c,hc1⟩:=zV (show s.length - 1 < s.length by omega)
    rw [zS hp1] at hp
    subst hp
    rw [zS hc1] at h2 ⊢
    refine ⟨s.take (s.length - 2),c,d,?_,hd,by omega,by omega,?_⟩
    · have e1:=zf hp1
      have e2:=zf (show s[s.length - 2 + 1]? = some c by rw [show s.length - 2 + 1 = s.length - 1 by omega]; exact hc1)
      rw [e2,show s.length - 2 + 1 + 1 = s.length by omega,List.drop_length] at e1
      rw [← e1,List.take_append_drop]
    · rw [hd,show withinB ((c.toNat:Int) - 48) 0 7 = true from zZ.2 h2]
      simp
      omega
  · cases h
theorem zDF {a:List UInt8} {c:UInt8} {d:Nat} (hd:dig a = some d) (hc:48 ≤ c.toNat ∧ c.toNat ≤ 55):pointD (a ++ [46,c]) = (((d:Nat):Int),((c.toNat - 48:Nat):Int),true):=by
  have hl:=(yh hd).2.1
  unfold pointD
  have e0:(a ++ [46,c]).length = a.length + 2:=by simp
  have e1:(a ++ [46,c]).getD (a.length + 2 - 2) 0 = 46:=by
    rw [show a.length + 2 - 2 = a.length by omega,List.getD_eq_getElem?_getD,List.getElem?_append_right (by omega)]; simp
  have e2:(a ++ [46,c]).getD (a.length + 2 - 1) 0 = c:=by
    rw [show a.length + 2 - 1 = a.length + 1 by omega,List.getD_eq_getElem?_getD,List.getElem?_append_right (by omega)]; simp
  have e3:(a ++ [46,c]).take (a.length + 2 - 2) = a:=by rw [show a.length + 2 - 2 = a.length by omega,List.take_left]
  rw [e0,e1,e2,e3,hd,show decide (a.length + 2 < 3) = false by simp only [decide_eq_false_iff_not]; omega,show withinB ((c.toNat:Int) - 48) 0 7 = true from zZ.2 (by omega)]
  simp
  omega
theorem kl {a:List UInt8} {d:Nat} {x:UInt8} (h:dig a = some d) (hx:x.toNat < 48 ∨ 57 < x.toNat):x ∉ a:=fun hm=>by have:=(yh h).1 x hm; omega
theorem yM {s:List UInt8} {n:Nat} (h:dig s = some n):digI s = n:=by rw [kZ,h]
theorem zAW (s:List UInt8):pricedI s = bif (pointD s).2.2 then 8 * (pointD s).1 + (pointD s).2.1 else -1:=by
  cases hp:(pointD s).2.2 with
  | true =>
    obtain ⟨a,c,d,rfl,hd,h1,h2,he⟩:=y0 hp
    have hc:=dig_one (c:=c) (by omega)
    unfold pricedI
    rw [kD (kl hd (by decide)),he]
    simp only [yM hd,yM hc]
    rw [show decide ((d:Int) < 0) = false by simp only [decide_eq_false_iff_not]; omega,show withinB ((c.toNat - 48:Nat):Int) 0 7 = true from zZ.2 (by omega)]
    simp only [Bool.not_true,Bool.or_false,Bool.or_self,cond_false,cond_true]
    omega
  | false =>
    unfold pricedI
    cases hc:(!(Lib.cut s [46]).2.2 || decide (digI (Lib.cut s [46]).1 < 0) || !(withinB (digI (Lib.cut s [46]).2.1) 0 7)) with
    | true=>rfl
    | false =>
      exfalso
      by_cases hm:(46:UInt8) ∈ s
      · obtain ⟨a,b,rfl,hn⟩:=zAc hm
        rw [kD hn] at hc
        simp only [Bool.or_eq_false_iff,decide_eq_false_iff_not,Bool.not_eq_false'] at hc
        obtain ⟨⟨_,h1⟩,h2⟩:=hc
        have h2:=zZ.1 h2
        obtain ⟨d,hd⟩:=zAh.1 (show 0 ≤ digI a by omega)
        obtain ⟨e,he⟩:=zAh.1 h2.1
        rw [yM he] at h2
        obtain ⟨c,rfl,h3,h4,h5⟩:=dig_small he (by omega)
        have h6:=zDF hd (c:=c) (by omega)
        rw [h6] at hp
        cases hp
      · rw [zBX hm] at hc
        cases hc
/-- What follows an L, as the document says. -/
def lateAt (s:List UInt8) (i:Nat):Option (Nat × Nat):=bif s.getD 0 0 == 76 && s.getD i 0 == 45 && (dig ((s.take i).drop 1)).isSome && (dig (s.drop (i + 1))).isSome && decide (((dig ((s.take i).drop 1)).getD 0:Int) ≤ ((dig (s.drop (i + 1))).getD 0:Int)) && decide (((dig (s.drop (i + 1))).getD 0:Int) ≤ 60)
  then some ((dig ((s.take i).drop 1)).getD 0,(dig (s.drop (i + 1))).getD 0) else none
def lateL (s:List UInt8):Option (Nat × Nat):=(List.range' 2 (s.length - 3)).findSome? (lateAt s)
theorem zCA {r:List UInt8} {i x y:Nat} (h:lateAt (76 :: r) i = some (x,y)):∃ a b,r = a ++ 45 :: b ∧ dig a = some x ∧ dig b = some y ∧ x ≤ y ∧ y ≤ 60 ∧ i = a.length + 1:=by
  unfold lateAt at h
  cases hc:((76 :: r).getD 0 0 == 76 && (76 :: r).getD i 0 == 45 && (dig (((76 :: r).take i).drop 1)).isSome && (dig ((76 :: r).drop (i + 1))).isSome && decide (((dig (((76 :: r).take i).drop 1)).getD 0:Int) ≤ ((dig ((76 :: r).drop (i + 1))).getD 0:Int)) && decide (((dig ((76 :: r).drop (i + 1))).getD 0:Int) ≤ 60)) <;> rw [hc] at h
  · cases h
  · simp only [cond_true,Option.some.injEq,Prod.mk.injEq] at h
    simp only [Bool.and_eq_true,decide_eq_true_eq,beq_iff_eq] at hc
    obtain ⟨⟨⟨⟨⟨_,h2⟩,h3⟩,h4⟩,h5⟩,h6⟩:=hc
    obtain ⟨a,ha⟩:=Option.isSome_iff_exists.1 h3
    obtain ⟨b,hb⟩:=Option.isSome_iff_exists.1 h4
    rw [ha,hb] at h h5
    rw [hb] at h6
    simp only [Option.getD_some] at h h5 h6
    obtain ⟨rfl,rfl⟩:=h
    cases i with
    | zero=>rw [List.take_zero] at ha; cases ha
    | succ j =>
      rw [List.take_succ_cons,List.drop_succ_cons,List.drop_zero] at ha
      rw [List.drop_succ_cons] at hb
      rw [List.getD_cons_succ] at h2
      have hj:j < r.length:=by
        by_cases hj:j < r.length
        · exact hj
        · rw [List.drop_of_length_le (by omega)] at hb; cases hb
      have hg:=List.getElem?_eq_getElem hj
      rw [zS hg] at h2
      refine ⟨r.take j,r.drop (j + 1),?_,ha,hb,by omega,by omega,by rw [List.length_take]; omega⟩
      rw [← h2,← List.drop_eq_getElem_cons hj,List.take_append_drop]
theorem late_of {a b:List UInt8} {x y:Nat} (hx:dig a = some x) (hy:dig b = some y) (h1:x ≤ y) (h2:y ≤ 60):lateAt (76 :: (a ++ 45 :: b)) (a.length + 1) = some (x,y):=by
  unfold lateAt
  have e1:((76 :: (a ++ 45 :: b)).take (a.length + 1)).drop 1 = a:=by rw [List.take_succ_cons,List.drop_succ_cons,List.drop_zero,List.take_left]
  have e2:(76 :: (a ++ 45 :: b)).drop (a.length + 1 + 1) = b:=by
    rw [List.drop_succ_cons,show a.length + 1 = a.length + 1 from rfl,← List.drop_drop,List.drop_left]; rfl
  have e3:(76 :: (a ++ 45 :: b)).getD (a.length + 1) 0 = 45:=by
    rw [List.getD_cons_succ,List.getD_eq_getElem?_getD,List.getElem?_append_right (by omega)]; simp
  rw [e1,e2,e3,hx,hy]
  simp [h1]
  rw [show decide ((y:Int) ≤ 60) = true by simp only [decide_eq_true_eq]; omega]
  rfl
theorem find_uniq {α β:Type} {l:List α} {f:α → Option β} {v:β} (h1:∃ x ∈ l,f x = some v) (h2:∀ x ∈ l,∀ w,f x = some w → w = v):l.findSome? f = some v:=by
  cases h:l.findSome? f with
  | none =>
    obtain ⟨x,hx,hv⟩:=h1
    rw [List.findSome?_eq_none_iff.1 h x hx] at hv
    cases hv
  | some w =>
    obtain ⟨x,hx,hw⟩:=List.exists_of_findSome?_eq_some h
    rw [h2 x hx w hw]
theorem zEE (r:List UInt8):lateL (76 :: r) = bif (Lib.cut r [45]).2.2 && spansB (digI (Lib.cut r [45]).1) (digI (Lib.cut r [45]).2.1) 0 60 then some ((digI (Lib.cut r [45]).1).toNat,(digI (Lib.cut r [45]).2.1).toNat) else none:=by
  cases hc:((Lib.cut r [45]).2.2 && spansB (digI (Lib.cut r [45]).1) (digI (Lib.cut r [45]).2.1) 0 60) with
  | true =>
    by_cases hm:(45:UInt8) ∈ r
    · obtain ⟨a,b,rfl,hn⟩:=zAc hm
      rw [kD hn] at hc ⊢
      simp only [Bool.true_and,spansB,Bool.and_eq_true,decide_eq_true_eq,cond_true] at hc ⊢
      obtain ⟨x,hx⟩:=zAh.1 hc.1.1
      obtain ⟨y,hy⟩:=zAh.1 (show 0 ≤ digI b by omega)
      rw [yM hx,yM hy] at hc ⊢
      have ha:=(yh hx).2.1
      have hb:=(yh hy).2.1
      refine find_uniq ⟨a.length + 1,?_,by rw [late_of hx hy (by omega) (by omega)]; simp⟩ fun i _ w hw=>?_
      · rw [List.mem_range'_1]
        simp only [List.length_cons,List.length_append]
        omega
      · obtain ⟨x',y'⟩:=w
        obtain ⟨a',b',e,hx',hy',_,_,_⟩:=zCA hw
        have h1:=kD (b:=b) hn
        rw [e,kD (kl hx' (by decide))] at h1
        simp only [Prod.mk.injEq] at h1
        obtain ⟨rfl,rfl,_⟩:=h1
        rw [hx] at hx'; rw [hy] at hy'
        cases hx'; cases hy'
        simp
    · rw [zBX hm] at hc; cases hc
  | false =>
    refine List.findSome?_eq_none_iff.2 fun i _=>?_
    cases hl:lateAt (76 :: r) i with
    | none=>rfl
    | some w =>
      obtain ⟨x,y⟩:=w
      obtain ⟨a,b,rfl,hx,hy,h1,h2,_⟩:=zCA hl
      rw [kD (kl hx (by decide))] at hc
      simp only [Bool.true_and,yM hx,yM hy,spansB] at hc
      rw [show decide ((0:Int) ≤ x) = true by simp only [decide_eq_true_eq]; omega,show decide ((x:Int) ≤ y) = true by simp only [decide_eq_true_eq]; omega,show decide ((y:Int) ≤ 60) = true by simp only [decide_eq_true_eq]; omega] at hc
      cases hc
/-- A token as the document says. -/
def refTok (s:List UInt8):Tok :=
  bif s == [33] then ⟨7,0,0,s⟩ else bif s == [63] then ⟨8,0,0,s⟩ else bif namedB s then ⟨1,0,0,s⟩ else bif decide ((s.length:Int) < 2) then ⟨0,0,0,s⟩
  else bif (dig (s.take (s.length - 1))).isSome && s.getD (s.length - 1) 0 == 115 && withinB ((dig (s.take (s.length - 1))).getD 0:Nat) 1 99 then ⟨2,((dig (s.take (s.length - 1))).getD 0:Nat),0,s⟩
  else bif (pointD s).2.2 && (s.length:Int) == 3 then ⟨3,8 * (pointD s).1 + (pointD s).2.1,0,s⟩
  else bif (pointD (s.drop 1)).2.2 && s.getD 0 0 == 36 && withinB (8 * (pointD (s.drop 1)).1 + (pointD (s.drop 1)).2.1) 1 799 then ⟨4,8 * (pointD (s.drop 1)).1 + (pointD (s.drop 1)).2.1,0,s⟩
  else bif (dig (s.drop 1)).isSome && s.getD 0 0 == 64 && decide (((dig (s.drop 1)).getD 0:Int) ≤ 600) then ⟨5,((dig (s.drop 1)).getD 0:Nat),0,s⟩
  else match lateL s with
    | some (a,b)=>⟨6,a,b,s⟩
    | none=>⟨0,0,0,s⟩
structure TokSim (t t':Tok):Prop where
  kind:t.kind = t'.kind
  text:t.text = t'.text
  fst:1 < t.kind → t.kind < 7 → t.fst = t'.fst
  snd:t.kind = 6 → t.snd = t'.snd
theorem y7 {f g x y:Int} {s:List UInt8}:TokSim ⟨0,f,g,s⟩ ⟨0,x,y,s⟩:=⟨rfl,rfl,fun h _=>by simp only at h; omega,fun h=>by simp only at h; omega⟩
theorem kS {t:Tok}:TokSim t t:=⟨rfl,rfl,fun _ _=>rfl,fun _=>rfl⟩
theorem kR {b:UInt8} {r:List UInt8} (h:(pointD (b :: r)).2.2 = true):48 ≤ b.toNat ∧ b.toNat ≤ 57:=by
  obtain ⟨a,c,d,e,hd,_⟩:=y0 h
  have hl:=(yh hd).2.1
  cases a with
  | nil=>simp at hl
  | cons x a =>
    simp only [List.cons_append,List.cons.injEq] at e
    obtain ⟨rfl,_⟩:=e
    exact (yh hd).1 _ List.mem_cons_self
theorem kM {b:UInt8} {r:List UInt8} (h2:2 ≤ (b :: r).length) (h:b.toNat < 48 ∨ 57 < b.toNat):dig ((b :: r).take ((b :: r).length - 1)) = none:=by
  apply zCX (x:=b) _ h
  cases r with
  | nil=>simp at h2
  | cons x r=>simp
theorem zAs {b:UInt8} {r:List UInt8} (h:b ≠ 76):lateL (b :: r) = none:=List.findSome?_eq_none_iff.2 fun i _=>by
  unfold lateAt
  rw [show ((b :: r).getD 0 0 == 76) = false by simpa using h]
  rfl
theorem suffix_last {s:List UInt8} (h:s ≠ []):Lib.hasSuffix s [115] = (s.getD (s.length - 1) 0 == 115):=by
  have hl:=List.length_pos_iff.2 h
  obtain ⟨c,hc⟩:=zV (show s.length - 1 < s.length by omega)
  rw [zS hc]
  unfold Lib.hasSuffix
  have e:=zf hc
  rw [show s.length - 1 + 1 = s.length by omega,List.drop_length] at e
  have e2:s = s.take (s.length - 1) ++ [c]:=by rw [← e,List.take_append_drop]
  rw [Bool.eq_iff_iff,List.isSuffixOf_iff_suffix,beq_iff_eq]
  constructor
  · rintro ⟨t,ht⟩
    rw [e2] at ht
    have:=List.append_inj_right' ht rfl
    simpa using this.symm
  · rintro rfl
    exact ⟨_,e2.symm⟩
theorem point_last {s:List UInt8} (h:(pointD s).2.2 = true):s.getD (s.length - 1) 0 ≠ 115:=by
  obtain ⟨a,c,d,rfl,_,h1,h2,_⟩:=y0 h
  have:(a ++ [46,c]).getD ((a ++ [46,c]).length - 1) 0 = c:=by
    rw [show (a ++ [46,c]).length - 1 = a.length + 1 by simp,List.getD_eq_getElem?_getD,List.getElem?_append_right (by omega)]; simp
  rw [this]
  rintro rfl
  revert h2; decide
theorem zEW (s:List UInt8):TokSim (readT s) (refTok s):=by
  unfold readT refTok
  cases q0:s == [] with
  | true =>
    obtain rfl:s = []:=by simpa using q0
    exact y7
  | false =>
    cases q1:s == [33] with
    | true=>exact kS
    | false =>
      cases q2:s == [63] with
      | true=>exact kS
      | false =>
        cases q3:namedB s with
        | true=>exact kS
        | false =>
          simp only [cond_false]
          cases s with
          | nil=>cases q0
          | cons b r =>
            simp only [List.drop_succ_cons,List.drop_zero,List.getD_cons_zero]
            by_cases h36:b = 36
            · subst h36
              rw [show ((36:UInt8) == 36) = true from rfl,show ((36:UInt8) == 64) = false from rfl,zAs (by decide)]
              simp only [cond_true,Bool.and_true,Bool.and_false,Bool.false_and,cond_false]
              cases r with
              | nil=>rw [show withinB (pricedI []) 1 799 = false from rfl]; exact y7
              | cons x r =>
                rw [kM (by simp) (by decide),show decide (((36 :: x :: r).length:Int) < 2) = false by simp only [decide_eq_false_iff_not,List.length_cons]; omega]
                have h3:(pointD (36 :: x :: r)).2.2 = false:=by
                  cases h:(pointD (36 :: x :: r)).2.2 with
                  | false=>rfl
                  | true=>have:=kR h; revert this; decide
                rw [h3,zAW]
                simp only [Option.isSome_none,Bool.false_and,cond_false]
                cases hp:(pointD (x :: r)).2.2 with
                | false=>exact y7
                | true =>
                  simp only [cond_true,Bool.true_and]
                  cases withinB (8 * (pointD (x :: r)).1 + (pointD (x :: r)).2.1) 1 799
                  · exact y7
                  · exact kS
            · rw [show (b == 36) = false by simpa using h36]
              by_cases h64:b = 64
              · subst h64
                rw [show ((64:UInt8) == 64) = true from rfl,zAs (by decide)]
                simp only [cond_true,Bool.and_true,Bool.and_false,Bool.false_and,cond_false]
                cases r with
                | nil=>exact y7
                | cons x r =>
                  rw [kM (by simp) (by decide),show decide (((64 :: x :: r).length:Int) < 2) = false by simp only [decide_eq_false_iff_not,List.length_cons]; omega]
                  have h3:(pointD (64 :: x :: r)).2.2 = false:=by
                    cases h:(pointD (64 :: x :: r)).2.2 with
                    | false=>rfl
                    | true=>have:=kR h; revert this; decide
                  rw [h3,kZ]
                  simp only [Option.isSome_none,Bool.false_and,cond_false]
                  cases hd:dig (x :: r) with
                  | none=>exact y7
                  | some n =>
                    simp only [Option.isSome_some,Bool.true_and,Option.getD_some]
                    rw [show withinB (n:Int) 0 600 = decide ((n:Int) ≤ 600) by unfold withinB; rw [show decide ((0:Int) ≤ n) = true by simp only [decide_eq_true_eq]; omega]; rfl]
                    cases decide ((n:Int) ≤ 600)
                    · exact y7
                    · exact kS
              · rw [show (b == 64) = false by simpa using h64]
                by_cases h76:b = 76
                · subst h76
                  rw [show ((76:UInt8) == 76) = true from rfl]
                  simp only [cond_true,Bool.and_false,Bool.false_and,cond_false]
                  cases r with
                  | nil=>exact y7
                  | cons x r =>
                    rw [kM (by simp) (by decide),show decide (((76 :: x :: r).length:Int) < 2) = false by simp only [decide_eq_false_iff_not,List.length_cons]; omega]
                    have h3:(pointD (76 :: x :: r)).2.2 = false:=by
                      cases h:(pointD (76 :: x :: r)).2.2 with
                      | false=>rfl
                      | true=>have:=kR h; revert this; decide
                    rw [h3,zEE]
                    simp only [Option.isSome_none,Bool.false_and,cond_false]
                    cases hc:((Lib.cut (x :: r) [45]).2.2 && spansB (digI (Lib.cut (x :: r) [45]).1) (digI (Lib.cut (x :: r) [45]).2.1) 0 60) with
                    | false=>exact y7
                    | true =>
                      simp only [Bool.and_eq_true,spansB,decide_eq_true_eq] at hc
                      refine ⟨rfl,rfl,fun _ _=>?_,fun _=>?_⟩
                      · show digI (Lib.cut (x :: r) [45]).1 = ((digI (Lib.cut (x :: r) [45]).1).toNat:Int); omega
                      · show digI (Lib.cut (x :: r) [45]).2.1 = ((digI (Lib.cut (x :: r) [45]).2.1).toNat:Int); omega
                · rw [show (b == 76) = false by simpa using h76,zAs h76,suffix_last (by simp)]
                  simp only [Bool.and_false,Bool.false_and,cond_false]
                  cases r with
                  | nil =>
                    cases hs:((b :: []).getD ((b :: []).length - 1) 0 == 115) with
                    | true=>exact y7
                    | false=>exact y7
                  | cons x r =>
                    rw [show decide (((b :: x :: r).length:Int) < 2) = false by simp only [decide_eq_false_iff_not,List.length_cons]; omega]
                    simp only [cond_false]
                    generalize hS:b :: x :: r = S
                    cases hs:(S.getD (S.length - 1) 0 == 115) with
                    | true =>
                      have h3:(pointD S).2.2 = false:=by
                        cases h:(pointD S).2.2 with
                        | false=>rfl
                        | true=>exact (point_last h (by simpa using hs)).elim
                      rw [h3,kZ]
                      simp only [Bool.and_true,Bool.false_and,cond_true,cond_false]
                      cases hd:dig (S.take (S.length - 1)) with
                      | none=>exact y7
                      | some n =>
                        simp only [Option.isSome_some,Bool.true_and,Option.getD_some]
                        cases withinB (n:Int) 1 99
                        · exact y7
                        · exact kS
                    | false =>
                      simp only [Bool.and_false,Bool.false_and,cond_false]
                      rw [zAW]
                      cases hp:(pointD S).2.2 with
                      | false=>simp only [cond_false,Bool.false_and,Bool.and_false,show decide ((0:Int) ≤ -1) = false from rfl]; exact y7
                      | true =>
                        obtain ⟨a,c,d,_,_,h1,h2,he⟩:=y0 hp
                        have:decide (0 ≤ 8 * (pointD S).1 + (pointD S).2.1) = true:=by rw [he]; simp only [decide_eq_true_eq]; omega
                        simp only [cond_true,Bool.true_and]
                        rw [this,Bool.and_true]
                        cases (S.length:Int) == 3
                        · exact y7
                        · exact kS
end Go.Proofs.YticlpkgpmmhemaaGreatDoor
namespace Go.Proofs.YticlpkgpmmhemaaGreatDoor
open Go.Proofs.Tryz
open Go.RowKit
set_option maxRecDepth 20000
set_option linter.all false
theorem u8w {x r:Int} (h:0 ≤ x ∧ x ≤ 255) (e:x = r):IntKind.u8.wrap x = r:=by
  subst e
  simp only [IntKind.wrap,IntKind.bits,IntKind.signed]
  simp
  omega
theorem dig_good {s:List UInt8} (h:(!(withinB s.length 1 3) || (decide ((s.length:Int) > 1) && s.getD 0 0 == 48)) = false):dig s = Lib.decFrom 0 s ∧ 1 ≤ s.length ∧ s.length ≤ 3:=by
  simp only [Bool.or_eq_false_iff,Bool.not_eq_false'] at h
  obtain ⟨h1,h2⟩:=h
  have h1:=zZ.1 h1
  have h3:(decide (1 < s.length) && s.getD 0 0 == 48) = false:=by
    rw [show decide (1 < s.length) = decide ((s.length:Int) > 1) by simp only [decide_eq_decide]; omega]; exact h2
  unfold dig
  rw [h3,show decide (1 ≤ s.length) = true by simp only [decide_eq_true_eq]; omega,show decide (s.length ≤ 3) = true by simp only [decide_eq_true_eq]; omega]
  exact ⟨rfl,by omega,by omega⟩
theorem dig_fail {s:List UInt8} (h:(!(withinB s.length 1 3) || (decide ((s.length:Int) > 1) && s.getD 0 0 == 48)) = true):dig s = none:=by
  unfold dig
  cases h1:withinB s.length 1 3 <;> rw [h1] at h
  · have : (decide (1 ≤ s.length) && decide (s.length ≤ 3)) = false := by
      unfold withinB at h1
      rw [show decide (1 ≤ s.length) = decide ((1:Int) ≤ (s.length:Int)) by simp only [decide_eq_decide]; omega,show decide (s.length ≤ 3) = decide ((s.length:Int) ≤ 3) by simp only [decide_eq_decide]; omega]; exact h1
    rw [this]; rfl
  · simp only [Bool.not_true,Bool.false_or] at h
    rw [show decide (1 < s.length) = decide ((s.length:Int) > 1) by simp only [decide_eq_decide]; omega,h]
    simp
theorem dec_step {s:List UInt8} {i n:Nat} {b:UInt8} (hb:s[i]? = some b) (h:48 ≤ b.toNat ∧ b.toNat ≤ 57):Lib.decFrom n (s.drop i) = Lib.decFrom (n * 10 + (b.toNat - 48)) (s.drop (i + 1)):=by
  rw [zf hb,Lib.decFrom,show Lib.digitVal b = some (b.toNat - 48) by simp [Lib.digitVal,h]]
theorem dec_bad {s:List UInt8} {i n:Nat} {b:UInt8} (hb:s[i]? = some b) (h:b.toNat < 48 ∨ 57 < b.toNat):Lib.decFrom n (s.drop i) = none:=by
  rw [zf hb,Lib.decFrom,show Lib.digitVal b = none by simp [Lib.digitVal]; omega]
theorem beqN {a b:UInt8}:((a.toNat:Int) == (b.toNat:Int)) = (a == b):=(zCU a b).symm
theorem bneN {a b:UInt8}:((a.toNat:Int) != (b.toNat:Int)) = (a != b):=by unfold bne; rw [beqN]
theorem zAP {Γ : Cx} {P : Program} {σ : St} {o : Oper} {R : Rel} {x y : Operand} {t : TypeId} {l : List UInt8} {k : IntKind} (h : o.op = .index t x y) (hx : σ.ev x = some (true, .d (strD l))) (hy : σ.ev y = some (true, .d (.int k 0)))
    (ht:P.underlying t = some .string) (hi:0 < l.length):QV Γ P σ o R (.d (.int .u8 ((l.getD 0 0).toNat:Int))):=by
  obtain ⟨b,hb⟩:=zV hi
  rw [zS hb]
  exact z8 h hx hy ht (i:=0) rfl hb
theorem zBZ {Γ : Cx} {P : Program} {σ : St} {o : Oper} {R : Rel} {x y : Operand} {t : TypeId} {l : List UInt8} {k : IntKind} {m : Int} {i : Nat} (h : o.op = .index t x y) (hx : σ.ev x = some (true, .d (strD l))) (hy : σ.ev y = some (true, .d (.int k m)))
    (ht:P.underlying t = some .string) (hm:m = (i:Nat)) (hi:i < l.length):QV Γ P σ o R (.d (.int .u8 ((l.getD i 0).toNat:Int))):=by
  obtain ⟨b,hb⟩:=zV hi
  rw [zS hb]
  exact z8 h hx hy ht hm hb
theorem kL (s:List UInt8) (h5:s.length ≤ 4294967000):PureAt Tryz.prog 201 [strD s] (.tup [.int .i64 ((dig s).getD 0:Nat),.bool (dig s).isSome]):=by
 refine Zp Tryz.func201 rfl fun Γ hn hl=>?_
 obtain ⟨b0,hb0⟩:∃ b0,s.getD 0 0 = b0:=⟨_,rfl⟩
 refine Zu (Zt 2 [] hn rfl (Zv (zD (Zu (Zt 2 [] hn rfl (Zk hn rfl (zAN _ _ _) (Zt 7 [] hn rfl ?_)))))))
 refine Zh [(15,_)] (zK rfl rfl rfl) hn (fun hc=>⟨⟨_,rfl,hc⟩,trivial⟩) (fun hc=>zAP rfl rfl rfl underlying9 (by rw [zU] at hc; simp only [Bool.and_eq_true,beq_iff_eq,decide_eq_true_eq] at hc; omega)) ?_
 refine Zt 3 [] hn rfl (Zv ?_)
 rw [zU]
 rw [show (((s.getD 0 0).toNat:Int) == 48) = (s.getD 0 0 == 48) from beqN (b:=48)]
 refine zG rfl (fun hb0=>?_) (fun hb0=>?_)
 have hd:=dig_fail hb0
 rw [hd]
 refine Zu (Zt 2 [] hn rfl (Zv (zI (zB ?_))))
 exact zEF (.inl rfl) hl rfl (.tmp rfl) (.tmp rfl)
 obtain ⟨hd,hl1,hl3⟩:=dig_good hb0
 rw [hd]
 refine zJ (zA (Zu (Zt 1 [] hn rfl (Zv (zD (Zu (Zt 1 [] hn rfl (Zv (zN (awp_loop_on (ι:={x:Nat × Nat // x.1 ≤ s.length ∧ x.2 ≤ 1000000 ∧ x.2 < 10 ^ x.1 ∧ Lib.decFrom x.2 (s.drop x.1) = Lib.decFrom 0 s}) (fun x=>(4,true,.d (.int .i64 (x.1.2:Nat))) :: (5,true,.d (.int .i64 (x.1.1:Nat))) :: anys [20,21,22,23,26,27,28,29,30,31,32,33,34,35,36,37,38,39,40,41,42,43,24,25]) (fun x=>[]) (fun x=>s.length - x.1.1) ⟨(0,0),Nat.zero_le _,by simp,by simp,rfl⟩ ⟨.inl rfl,.inl rfl,zF _⟩ trivial ?_))))))))))
 rintro ⟨⟨i,n⟩,hi,hn6,hn10,hgo⟩
 dsimp only
 dsimp only at hi hn6 hn10 hgo
 have hn3:n < 10 ^ 3:=Nat.lt_of_lt_of_le hn10 (Nat.pow_le_pow_right (show 10 > 0 by omega) (show i ≤ 3 by omega))
 replace hn3:n < 1000:=hn3
 refine zD (Zu (Zt 4 [] hn rfl (Zv (zG rfl (fun hb1=>?_) (fun hb1=>?_)))))
 rw [zU] at hb1
 have hil:i < s.length:=by simp at hb1; omega
 obtain ⟨b,hb⟩:=zV hil
 refine zJ (zA (zD (zN (zD (Zu (Zt 2 [] hn rfl (Zs hn (z8 (i:=i) rfl rfl rfl underlying9 rfl hb) ?_)))))))
 refine Zt 4 [] hn rfl ?_
 refine Zh [(31,_),(32,_)] (zK rfl rfl rfl) hn (fun hc=>⟨⟨_,rfl,hc⟩,⟨_,rfl,hc⟩,trivial⟩) (fun hc=>z8 (i:=i) rfl rfl rfl underlying9 rfl hb) ?_
 refine Zt 2 [] hn rfl (Zv (zG rfl (fun hb2=>?_) (fun hb2=>?_)))
 have hbad:b.toNat < 48 ∨ 57 < b.toNat:=by simp at hb2; omega
 rw [dec_bad hb hbad] at hgo
 rw [← hgo]
 refine Zu (Zt 2 [] hn rfl (Zv (zI (zB (zL (zB (zB (zL (zB ?_)))))))))
 exact zEF (.inl rfl) hl rfl (.tmp rfl) (.tmp rfl)
 have hgd:48 ≤ b.toNat ∧ b.toNat ≤ 57:=by simp at hb2; omega
 refine zJ (zA (zH (Zt 1 [] hn rfl (Zs hn (zDL rfl rfl rfl (r:=((n * 10:Nat):Int)) (by rw [show (10:Int) * (n:Int) = ((n * 10:Nat):Int) by omega]; exact i64w (by omega) rfl)) ?_))))
 refine Zt 2 [] hn rfl (Zs hn (z8 (i:=i) rfl rfl rfl underlying9 rfl hb) ?_)
 refine Zs hn (yB rfl rfl rfl (r:=((b.toNat - 48:Nat):Int)) (u8w (by omega) (by omega))) ?_
 refine Zs hn (zBK rfl rfl underlying5 underlying3 (i64w (by omega) rfl)) ?_
 refine Zs hn (zh rfl rfl rfl (r:=((n * 10 + (b.toNat - 48):Nat):Int)) (i64w (by omega) (by omega))) ?_
 refine Zt 1 [] hn rfl (zQ (zM (zA (zH (Zt 1 [] hn rfl (Zs hn (zh rfl rfl rfl (r:=((i + 1:Nat):Int)) (i64w (by omega) (by omega))) ?_))))))
 refine Zt 1 [] hn rfl (zQ ?_)
 exact Zr ⟨(i + 1,n * 10 + (b.toNat - 48)),by simp only; omega,by simp only; omega,by simp only; rw [Nat.pow_succ]; omega,by simp only; rw [← hgo,dec_step hb (by omega)]⟩ ⟨.inl rfl,.inl rfl,zF _⟩ trivial (by simp only; omega)
 rw [zU] at hb1
 have hie:i = s.length:=by simp at hb1; omega
 rw [hie,List.drop_length] at hgo
 rw [← hgo]
 refine zX (zC (zC (zO (zA (Zu (Zt 3 [] hn rfl (Zv (zI ?_))))))))
 exact zEF (.inl rfl) hl rfl (.tmp rfl) (.tmp rfl)
theorem zDH (s:List UInt8) (h5:s.length ≤ 4294967000):PureAt Tryz.prog 202 [strD s] (.tup [.int .i64 (pointD s).1,.int .i64 (pointD s).2.1,.bool (pointD s).2.2]):=by
 refine Zp Tryz.func202 rfl fun Γ hn hl=>?_
 refine Zu (Zt 3 [] hn rfl (Zv (zD (Zu (Zt 7 [] hn rfl ?_)))))
 refine Zh [(14,_)] (zK rfl rfl rfl) hn (fun hc=>⟨⟨_,rfl,hc⟩,trivial⟩) (fun hc=>yB rfl rfl rfl (r:=((s.length - 2:Nat):Int)) (i64w (by rw [zU] at hc ⊢; simp only [Bool.and_eq_true,beq_iff_eq,Bool.true_and,decide_eq_false_iff_not] at hc; omega) (by rw [zU] at hc ⊢; simp only [Bool.and_eq_true,beq_iff_eq,Bool.true_and,decide_eq_false_iff_not] at hc; omega))) ?_
 refine Zh [(12,_),(15,_)] (zK rfl rfl rfl) hn (fun hc=>⟨⟨_,rfl,hc⟩,⟨_,rfl,hc⟩,trivial⟩) (fun hc=>zBZ (i:=s.length - 2) rfl rfl rfl underlying9 rfl (by rw [zU] at hc; simp only [Bool.and_eq_true,beq_iff_eq,Bool.true_and,decide_eq_false_iff_not] at hc; omega)) ?_
 refine Zt 2 [] hn rfl (Zv ?_)
 rw [zU]
 rw [show (((s.getD (s.length - 2) 0).toNat:Int) != 46) = (s.getD (s.length - 2) 0 != 46) from bneN (b:=46)]
 rw [show decide ((s.length:Int) < 3) = decide (s.length < 3) by simp only [decide_eq_decide]; omega]
 refine zG rfl (fun hb0=>?_) (fun hb0=>?_)
 have e1:pointD s = (0,0,false):=by unfold pointD; rw [hb0]; rfl
 rw [e1]
 refine Zu (Zt 3 [] hn rfl (Zv (zI (zB ?_))))
 rotate_left
 have hl3:3 ≤ s.length:=by have:=(Bool.or_eq_false_iff.1 hb0).1; simp at this; omega
 have e1:pointD s = ((((dig (s.take (s.length - 2))).getD 0:Nat):Int),((s.getD (s.length - 1) 0).toNat:Int) - 48,(dig (s.take (s.length - 2))).isSome && withinB (((s.getD (s.length - 1) 0).toNat:Int) - 48) 0 7):=by unfold pointD; rw [hb0]; rfl
 rw [e1]
 obtain ⟨c,hc⟩:=zV (show s.length - 1 < s.length by omega)
 have hcb:=c.toNat_lt
 rw [zS hc]
 refine zJ (zA (Zu (Zt 3 [] hn rfl (Zs hn (yB rfl rfl rfl (r:=((s.length - 1:Nat):Int)) (i64w (by rw [zU]; omega) (by rw [zU]; omega))) ?_))))
 refine Zs hn (z8 (i:=s.length - 1) rfl rfl rfl underlying9 rfl hc) ?_
 refine Zs hn (zBK rfl rfl underlying5 underlying3 (i64w (by omega) rfl)) ?_
 refine Zs hn (yB rfl rfl rfl (r:=(c.toNat:Int) - 48) (i64w (by omega) rfl)) ?_
 refine Zt 1 [] hn rfl (Zv (Zu (Zt 3 [] hn rfl (Zs hn (yB rfl rfl rfl (r:=((s.length - 2:Nat):Int)) (i64w (by rw [zU]; omega) (by rw [zU]; omega))) ?_))))
 refine Zs hn (zAp (i:=s.length - 2) rfl rfl rfl underlying9 rfl (by omega) rfl) ?_
 refine Zk hn rfl (kL (s.take (s.length - 2)) (by rw [List.length_take]; omega)) (Zt 5 [] hn rfl (Zv (Zu (Zt 5 [] hn rfl (Zkg hn rfl (fun hc=>zAN _ _ _) (Zt 4 [] hn rfl (Zv (zI ?_))))))))
 rotate_left
 all_goals
  exact ki (.inl rfl) hl rfl (.tmp rfl) (.tmp rfl) (.tmp rfl)
theorem zDg (s:List UInt8):(dig s).getD 0 ≤ 999:=by
  cases h:dig s with
  | none=>simp
  | some n=>exact (yh h).2.2.2
theorem zCG (s:List UInt8):0 ≤ (pointD s).1 ∧ (pointD s).1 ≤ 999 ∧ -48 ≤ (pointD s).2.1 ∧ (pointD s).2.1 ≤ 255:=by
  unfold pointD
  have h1:=zDg (s.take (s.length - 2))
  have h2:=(s.getD (s.length - 1) 0).toNat_lt
  cases (decide (s.length < 3) || (s.getD (s.length - 2) 0 != 46)) <;> simp only [cond_true,cond_false] <;> omega
def lateF (s:List UInt8) (i:Nat):Option (Nat × Nat):=(List.range' i (s.length - 1 - i)).findSome? (lateAt s)
theorem zBl {s : List UInt8} {i : Nat} (h : i + 1 < s.length) : lateF s i = match lateAt s i with
    | some v=>some v
    | none=>lateF s (i + 1):=by
  unfold lateF
  rw [show s.length - 1 - i = (s.length - 1 - (i + 1)) + 1 by omega,List.range'_succ,List.findSome?_cons]
  cases lateAt s i <;> rfl
theorem lateF_end {s:List UInt8} {i:Nat} (h:s.length ≤ i + 1):lateF s i = none:=by
  unfold lateF
  rw [show s.length - 1 - i = 0 by omega]
  rfl
theorem Token_ok (s:List UInt8) (h5:s.length ≤ 4294967000):PureAt Tryz.prog 162 [strD s] (.tup [.int .i64 (refTok s).kind,.int .i64 (refTok s).fst,.int .i64 (refTok s).snd]):=by
 refine Zp Tryz.func162 rfl fun Γ hn hl=>?_
 have hpb:=zCG s
 have hpb1:=zCG (s.drop 1)
 have hdl:(s.drop 1).length ≤ s.length:=by rw [List.length_drop]; omega
 have hdb:(dig (s.drop 1)).getD 0 ≤ 999:=zDg _
 have hdb2:(dig (s.take (s.length - 1))).getD 0 ≤ 999:=zDg _
 refine Zu (Zt 3 [] hn rfl (Zv (zD (Zu (Zt 1 [] hn rfl (Zs hn (yt rfl rfl rfl) ?_))))))
 refine Zv (zG rfl (fun hb0=>?_) (fun hb0=>?_))
 have q0:(s == [33]) = true:=hb0
 have e1:refTok s = ⟨7,0,0,s⟩:=by (unfold refTok; rw [q0]; simp only [cond_true,cond_false])
 rw [e1]
 refine Zu (Zt 3 [] hn rfl (Zv (zI (zB ?_))))
 exact ki (.inl rfl) hl rfl (.tmp rfl) (.tmp rfl) (.tmp rfl)
 have q0:(s == [33]) = false:=hb0
 refine zJ (zA (zD (Zu (Zt 1 [] hn rfl (Zs hn (yt rfl rfl rfl) ?_)))))
 refine Zv (zG rfl (fun hb1=>?_) (fun hb1=>?_))
 have q1:(s == [63]) = true:=hb1
 have e1:refTok s = ⟨8,0,0,s⟩:=by (unfold refTok; rw [q0,q1]; simp only [cond_true,cond_false])
 rw [e1]
 refine Zu (Zt 3 [] hn rfl (Zv (zI (zB ?_))))
 exact ki (.inl rfl) hl rfl (.tmp rfl) (.tmp rfl) (.tmp rfl)
 have q1:(s == [63]) = false:=hb1
 refine zJ (zA (zD (Zu (Zt 1 [] hn rfl (Zk hn rfl (zB2 s (by omega)) (Zv (zG rfl (fun hb2=>?_) (fun hb2=>?_))))))))
 have q2:namedB s = true:=hb2
 have e1:refTok s = ⟨1,0,0,s⟩:=by (unfold refTok; rw [q0,q1,q2]; simp only [cond_true,cond_false])
 rw [e1]
 refine Zu (Zt 3 [] hn rfl (Zv (zI (zB ?_))))
 exact ki (.inl rfl) hl rfl (.tmp rfl) (.tmp rfl) (.tmp rfl)
 have q2:namedB s = false:=hb2
 refine zJ (zA (zD (Zu (Zt 3 [] hn rfl (Zv ?_)))))
 rw [zU]
 refine zG rfl (fun hb3=>?_) (fun hb3=>?_)
 have q3:decide ((s.length:Int) < 2) = true:=hb3
 have e1:refTok s = ⟨0,0,0,s⟩:=by (unfold refTok; rw [q0,q1,q2,q3]; simp only [cond_true,cond_false])
 rw [e1]
 refine Zu (Zt 3 [] hn rfl (Zv (zI (zB ?_))))
 exact ki (.inl rfl) hl rfl (.tmp rfl) (.tmp rfl) (.tmp rfl)
 have q3:decide ((s.length:Int) < 2) = false:=hb3
 have hl2:2 ≤ s.length:=by simp at q3; omega
 refine zJ (zA (zD (Zu (Zt 3 [] hn rfl (Zs hn (yB rfl rfl rfl (r:=((s.length - 1:Nat):Int)) (i64w (by rw [zU]; omega) (by rw [zU]; omega))) ?_)))))
 refine Zs hn (zAp (i:=s.length - 1) rfl rfl rfl underlying9 rfl (by omega) rfl) ?_
 refine Zk hn rfl (kL (s.take (s.length - 1)) (by rw [List.length_take]; omega)) (Zt 5 [] hn rfl (Zv (Zu (Zt 5 [] hn rfl ?_))))
 refine Zh [(42,_)] (zK rfl rfl rfl) hn (fun hc=>⟨⟨_,rfl,hc⟩,trivial⟩) (fun hc=>yB rfl rfl rfl (r:=((s.length - 1:Nat):Int)) (i64w (by rw [zU]; omega) (by rw [zU]; omega))) ?_
 refine Zh [(40,_),(43,_)] (zK rfl rfl rfl) hn (fun hc=>⟨⟨_,rfl,hc⟩,⟨_,rfl,hc⟩,trivial⟩) (fun hc=>zBZ (i:=s.length - 1) rfl rfl rfl underlying9 rfl (by omega)) ?_
 refine Zt 4 [] hn rfl (Zkg hn rfl (fun hc=>zAN _ _ _) (Zt 1 [] hn rfl (Zv ?_)))
 rw [show (((s.getD (s.length - 1) 0).toNat:Int) == 115) = (s.getD (s.length - 1) 0 == 115) from beqN (b:=115)]
 refine zG rfl (fun hb4=>?_) (fun hb4=>?_)
 have q4:((dig (s.take (s.length - 1))).isSome && s.getD (s.length - 1) 0 == 115 && withinB ((dig (s.take (s.length - 1))).getD 0:Nat) 1 99) = true:=hb4
 have e1:refTok s = ⟨2,((dig (s.take (s.length - 1))).getD 0:Nat),0,s⟩:=by (unfold refTok; rw [q0,q1,q2,q3,q4]; simp only [cond_true,cond_false])
 rw [e1]
 refine Zu (Zt 4 [] hn rfl (Zv (zI (zB ?_))))
 exact ki (.inl rfl) hl rfl (.tmp rfl) (.tmp rfl) (.tmp rfl)
 have q4:((dig (s.take (s.length - 1))).isSome && s.getD (s.length - 1) 0 == 115 && withinB ((dig (s.take (s.length - 1))).getD 0:Nat) 1 99) = false:=hb4
 refine zJ (zA (zD (Zu (Zt 1 [] hn rfl (Zk hn rfl (zDH s h5) (Zt 7 [] hn rfl (Zv (Zu (Zt 6 [] hn rfl (Zv ?_))))))))))
 rw [zU]
 refine zG rfl (fun hb5=>?_) (fun hb5=>?_)
 have q5:((pointD s).2.2 && (s.length:Int) == 3) = true:=hb5
 have e1:refTok s = ⟨3,8 * (pointD s).1 + (pointD s).2.1,0,s⟩:=by (unfold refTok; rw [q0,q1,q2,q3,q4,q5]; simp only [cond_true,cond_false])
 rw [e1]
 refine Zu (Zt 1 [] hn rfl (Zs hn (zDL rfl rfl rfl (i64w (by omega) rfl)) ?_))
 refine Zt 1 [] hn rfl (Zs hn (zh rfl rfl rfl (i64w (by omega) rfl)) ?_)
 refine Zt 3 [] hn rfl (Zv (zI (zB ?_)))
 exact ki (.inl rfl) hl rfl (.tmp rfl) (.tmp rfl) (.tmp rfl)
 have q5:((pointD s).2.2 && (s.length:Int) == 3) = false:=hb5
 refine zJ (zA (zD (Zu (Zt 1 [] hn rfl (Zs hn (yy (i:=1) rfl rfl rfl underlying9 rfl (by omega) rfl) ?_)))))
 refine Zk hn rfl (zDH (s.drop 1) (by omega)) (Zt 7 [] hn rfl (Zv (Zu (Zt 3 [] hn rfl ?_))))
 refine Zh [(77,_)] (zK rfl rfl rfl) hn (fun hc=>⟨⟨_,rfl,hc⟩,trivial⟩) (fun hc=>zAP rfl rfl rfl underlying9 (by omega)) ?_
 refine Zt 4 [] hn rfl ?_
 refine Zh [(82,_)] (zK rfl rfl rfl) hn (fun hc=>⟨⟨_,rfl,hc⟩,trivial⟩) (fun hc=>zDL rfl rfl rfl (i64w (by omega) rfl)) ?_
 refine Zt 1 [] hn rfl ?_
 refine Zh [(83,_),(84,_)] (zK rfl rfl rfl) hn (fun hc=>⟨⟨_,rfl,hc⟩,⟨_,rfl,hc⟩,trivial⟩) (fun hc=>zh rfl rfl rfl (i64w (by omega) rfl)) ?_
 refine Zkg hn rfl (fun hc=>zAN _ _ _) (Zt 1 [] hn rfl (Zv ?_))
 rw [show (((s.getD 0 0).toNat:Int) == 36) = (s.getD 0 0 == 36) from beqN (b:=36)]
 refine zG rfl (fun hb6=>?_) (fun hb6=>?_)
 have q6:((pointD (s.drop 1)).2.2 && s.getD 0 0 == 36 && withinB (8 * (pointD (s.drop 1)).1 + (pointD (s.drop 1)).2.1) 1 799) = true:=hb6
 have e1:refTok s = ⟨4,8 * (pointD (s.drop 1)).1 + (pointD (s.drop 1)).2.1,0,s⟩:=by (unfold refTok; rw [q0,q1,q2,q3,q4,q5,q6]; simp only [cond_true,cond_false])
 rw [e1]
 refine Zu (Zt 1 [] hn rfl (Zs hn (zDL rfl rfl rfl (i64w (by omega) rfl)) ?_))
 refine Zt 1 [] hn rfl (Zs hn (zh rfl rfl rfl (i64w (by omega) rfl)) ?_)
 refine Zt 3 [] hn rfl (Zv (zI (zB ?_)))
 exact ki (.inl rfl) hl rfl (.tmp rfl) (.tmp rfl) (.tmp rfl)
 have q6:((pointD (s.drop 1)).2.2 && s.getD 0 0 == 36 && withinB (8 * (pointD (s.drop 1)).1 + (pointD (s.drop 1)).2.1) 1 799) = false:=hb6
 refine zJ (zA (zD (Zu (Zt 1 [] hn rfl (Zs hn (yy (i:=1) rfl rfl rfl underlying9 rfl (by omega) rfl) ?_)))))
 refine Zk hn rfl (kL (s.drop 1) (by omega)) (Zt 5 [] hn rfl (Zv (Zu (Zt 3 [] hn rfl ?_))))
 refine Zh [(100,_)] (zK rfl rfl rfl) hn (fun hc=>⟨⟨_,rfl,hc⟩,trivial⟩) (fun hc=>zAP rfl rfl rfl underlying9 (by omega)) ?_
 refine Zt 6 [] hn rfl (Zv ?_)
 rw [show (((s.getD 0 0).toNat:Int) == 64) = (s.getD 0 0 == 64) from beqN (b:=64)]
 refine zG rfl (fun hb7=>?_) (fun hb7=>?_)
 have q7:((dig (s.drop 1)).isSome && s.getD 0 0 == 64 && decide (((dig (s.drop 1)).getD 0:Int) ≤ 600)) = true:=hb7
 have e1:refTok s = ⟨5,((dig (s.drop 1)).getD 0:Nat),0,s⟩:=by (unfold refTok; rw [q0,q1,q2,q3,q4,q5,q6,q7]; simp only [cond_true,cond_false])
 rw [e1]
 refine Zu (Zt 4 [] hn rfl (Zv (zI (zB ?_))))
 exact ki (.inl rfl) hl rfl (.tmp rfl) (.tmp rfl) (.tmp rfl)
 have q7:((dig (s.drop 1)).isSome && s.getD 0 0 == 64 && decide (((dig (s.drop 1)).getD 0:Int) ≤ 600)) = false:=hb7
 have e0:refTok s = match lateL s with | some (a,b)=>⟨6,a,b,s⟩ | none=>⟨0,0,0,s⟩:=by (unfold refTok; rw [q0,q1,q2,q3,q4,q5,q6,q7]; simp only [cond_false]; try (cases lateL s <;> rfl))
 refine zJ (zA (zD (Zu (Zt 1 [] hn rfl (Zv (zN (awp_loop_on (ι:={i:Nat // 2 ≤ i ∧ i ≤ s.length ∧ lateL s = lateF s i}) (fun x=>(15,true,.d (.int .i64 (x.1:Nat))) :: anys [109,110,111,112,113,117,118,119,120,116,121,122,16,17,124,125,126,127,128,123,129,130,18,19,131,132,133,134,135,136,137,138,139,140,141,142,143,144,145,146,147,148,149,150,151,152,153,154,114,115]) (fun x=>[]) (fun x=>s.length - x.1) ⟨2,by omega,by omega,rfl⟩ ⟨.inl rfl,zF _⟩ trivial ?_)))))))
 rintro ⟨i,hi2,hil,hgo⟩
 dsimp only
 refine zD (Zu (Zt 1 [] hn rfl (Zs hn (zh rfl rfl rfl (r:=((i + 1:Nat):Int)) (i64w (by omega) (by omega))) ?_)))
 refine Zt 3 [] hn rfl (Zv (zG rfl (fun hb8=>?_) (fun hb8=>?_)))
 rw [zU] at hb8
 have hi1:i + 1 < s.length:=by simp at hb8; omega
 refine zJ (zA (zD (zN (Zu (Zt 2 [] hn rfl (Zs hn (zCH (i:=1) (j:=i) rfl rfl rfl rfl underlying9 rfl rfl (by omega) (by omega) (show _ = (s.take i).drop 1 by rw [List.drop_take])) ?_))))))
 refine Zk hn rfl (kL ((s.take i).drop 1) (by rw [List.length_drop,List.length_take]; omega)) (Zt 5 [] hn rfl (Zv (Zu (Zt 2 [] hn rfl (Zs hn (zh rfl rfl rfl (r:=((i + 1:Nat):Int)) (i64w (by omega) (by omega))) ?_)))))
 refine Zs hn (yy (i:=i + 1) rfl rfl rfl underlying9 rfl (by omega) rfl) ?_
 refine Zk hn rfl (kL (s.drop (i + 1)) (by rw [List.length_drop]; omega)) (Zt 5 [] hn rfl (Zv (Zu (Zt 1 [] hn rfl (Zs hn (zAP rfl rfl rfl underlying9 (by omega)) ?_)))))
 refine Zt 4 [] hn rfl ?_
 refine Zh [(135,_),(136,_)] (zK rfl rfl rfl) hn (fun hc=>⟨⟨_,rfl,hc⟩,⟨_,rfl,hc⟩,trivial⟩) (fun hc=>zBZ (i:=i) rfl rfl rfl underlying9 rfl (by omega)) ?_
 refine Zt 17 [] hn rfl (Zv ?_)
 rw [show (((s.getD 0 0).toNat:Int) == 76) = (s.getD 0 0 == 76) from beqN (b:=76)]
 rw [show (((s.getD i 0).toNat:Int) == 45) = (s.getD i 0 == 45) from beqN (b:=45)]
 refine zG rfl (fun hb9=>?_) (fun hb9=>?_)
 have hla:lateAt s i = some ((dig ((s.take i).drop 1)).getD 0,(dig (s.drop (i + 1))).getD 0):=by unfold lateAt; rw [hb9]; rfl
 rw [hgo,zBl hi1,hla] at e0
 rw [e0]
 refine Zu (Zt 5 [] hn rfl (Zv (zI (zL (zB (zB (zL (zB ?_))))))))
 exact ki (.inl rfl) hl rfl (.tmp rfl) (.tmp rfl) (.tmp rfl)
 have hno:lateAt s i = none:=by unfold lateAt; rw [hb9]; rfl
 refine zJ (zM (zA (zH (Zt 1 [] hn rfl (Zs hn (zh rfl rfl rfl (r:=((i + 1:Nat):Int)) (i64w (by omega) (by omega))) ?_)))))
 refine Zt 1 [] hn rfl (zQ ?_)
 exact Zr ⟨i + 1,by omega,by omega,by rw [hgo,zBl hi1,hno]⟩ ⟨.inl rfl,zF _⟩ trivial (by simp only; omega)
 rw [zU] at hb8
 have hi1:s.length ≤ i + 1:=by simp at hb8; omega
 rw [hgo,lateF_end hi1] at e0
 rw [e0]
 refine zX (zC (zC (zO (zA (Zu (Zt 3 [] hn rfl (Zv (zI ?_))))))))
 exact ki (.inl rfl) hl rfl (.tmp rfl) (.tmp rfl) (.tmp rfl)
end Go.Proofs.YticlpkgpmmhemaaGreatDoor
namespace Go.Proofs.YticlpkgpmmhemaaGreatDoor
open Go.RowKit
set_option linter.all false
def splitGo:List UInt8 → List UInt8 → List (List UInt8)
  | [],cur=>[cur]
  | b :: r,cur=>bif b == 32 then cur :: splitGo r [] else splitGo r (cur ++ [b])
def refToks (s:List UInt8):List (List UInt8):=bif s == [] then [] else splitGo s []
theorem yl {t:List UInt8}:∀ {a cur:List UInt8},(32:UInt8) ∉ a → splitGo (a ++ t) cur = splitGo t (cur ++ a)
  | [],cur,_=>by simp
  | x :: a,cur,h=>by
    have h1:(x == 32) = false:=by
      cases hx:x == 32
      · rfl
      · exact (h (by rw [beq_iff_eq] at hx; subst hx; exact List.mem_cons_self)).elim
    rw [List.cons_append,splitGo,h1,cond_false,yl fun e=>h (List.mem_cons_of_mem _ e)]
    simp
theorem zBN:∀ (n:Nat) (s:List UInt8),s.length ≤ n → s ≠ [] → toksOf s = (splitGo s []).map readT
  | 0,s,h,hne=>(hne (List.eq_nil_of_length_eq_zero (by omega))).elim
  | n + 1,s,h,hne=>by
    rw [zA3 hne]
    by_cases hm:(32:UInt8) ∈ s
    · obtain ⟨a,b,rfl,hn⟩:=zAc hm
      rw [kD hn,yl hn]
      simp only [Bool.true_and,List.nil_append]
      show _ = (bif (32:UInt8) == 32 then a :: splitGo b [] else splitGo b (a ++ [32])).map readT
      rw [show ((32:UInt8) == 32) = true from rfl,cond_true,List.map_cons]
      cases hb:b == [] with
      | true =>
        obtain rfl:b = []:=by simpa using hb
        rfl
      | false =>
        rw [cond_false,zBN n b (by simp at h; omega) (by rintro rfl; cases hb)]
    · rw [zBX hm]
      simp only [Bool.false_and,cond_false]
      have:=yl (t:=[]) (cur:=[]) hm
      rw [List.append_nil] at this
      rw [this]
      rfl
theorem toks_ref (s:List UInt8):toksOf s = (refToks s).map readT:=by
  unfold refToks
  cases hs:s == [] with
  | true =>
    obtain rfl:s = []:=by simpa using hs
    rfl
  | false=>rw [cond_false,zBN s.length s (Nat.le_refl _) (by rintro rfl; cases hs)]
/-- The number of the last stock of a name among the first; -1: none. -/
def nmUpto (b:Brd) (x:List UInt8):Nat → Int
  | 0=>-1
  | k + 1=>bif (b.stocks.getD k ⟨[],0,0⟩).name == x then (k:Nat) else nmUpto b x k
def nmI (b:Brd) (x:List UInt8):Int:=nmUpto b x b.stocks.length
def priceT (t:Tok):Bool:=t.kind == 3 || t.kind == 4
def refE (w:Wrk) (t:Tok) (nm:Int):Int :=
  bif t.kind == 0 then 4 else bif t.kind == 1 && decide (nm < 0) then 5
  else bif priceT t && decide (w.stock < 0) || !(priceT t) && decide (0 < w.number) || t.kind == 5 && decide (t.fst < w.minute) || t.kind == 7 && w.rush || t.kind == 8 && !w.rush then 8
  else bif priceT t && (w.out.length:Int) == 8 then 3 else 0
def refW (b:Brd) (w:Wrk) (t:Tok) (nm:Int):Wrk :=
  bif t.kind == 1 then { w with stock:=nm } else bif t.kind == 2 then numW w t else bif t.kind == 5 then timedW w t else bif t.kind == 6 then lateW w t else bif t.kind == 7 || t.kind == 8 then rushW w (t.kind == 7)
  else { w with number:=0,out:=w.out ++ [saleP w b t] }
def refGo (b:Brd):List (List UInt8) → Wrk → Int × Wrk
  | [],w=>(0,w)
  | x :: r,w=>bif refE w (refTok x) (nmI b x) != 0 then (refE w (refTok x) (nmI b x),w) else refGo b r (refW b w (refTok x) (nmI b x))
def refReadI (b:Brd) (s:List UInt8):List Prt × Int:=bif decide (160 < (s.length:Int)) then ([],3) else
  bif (refGo b (refToks s) wrk0).1 != 0 then ([],(refGo b (refToks s) wrk0).1) else bif decide (0 < (refGo b (refToks s) wrk0).2.number) then ([],8) else ((refGo b (refToks s) wrk0).2.out,0)
theorem zEm {b:Brd} (v:BrdOK b) (x:List UInt8):nmI b x = idxOf (fun s:Stk=>s.name == x) b.stocks:=by
  have huniq:∀ (i j:Nat) (s t:Stk),b.stocks[i]? = some s → b.stocks[j]? = some t → s.name = t.name → i = j:=by
    intro i j s t hi hj he
    have h1:=List.all_eq_true.1 v.al s (List.mem_of_getElem? hi)
    simp only [stockB,Bool.and_eq_true,beq_iff_eq] at h1
    have hcount:b.stocks.countP (eqN s) = 1:=by have:=h1.1.1; omega
    rcases Nat.lt_trichotomy i j with h | h | h
    · exfalso
      have e1:(b.stocks.take (i + 1)).countP (eqN s) = (b.stocks.take i).countP (eqN s) + 1:=by rw [yC hi,if_pos (by simp [eqN])]
      have e2:(b.stocks.take (j + 1)).countP (eqN s) = (b.stocks.take j).countP (eqN s) + 1:=by rw [yC hj,if_pos (by simp [eqN,he])]
      have e3:(b.stocks.take (i + 1)).countP (eqN s) ≤ (b.stocks.take j).countP (eqN s):=by
        rw [show b.stocks.take (i + 1) = (b.stocks.take j).take (i + 1) by rw [List.take_take,Nat.min_eq_left (by omega)]]
        exact (List.take_sublist _ _).countP_le
      have e4:(b.stocks.take (j + 1)).countP (eqN s) ≤ b.stocks.countP (eqN s):=(List.take_sublist _ _).countP_le
      omega
    · exact h
    · exfalso
      have e1:(b.stocks.take (i + 1)).countP (eqN s) = (b.stocks.take i).countP (eqN s) + 1:=by rw [yC hi,if_pos (by simp [eqN])]
      have e2:(b.stocks.take (j + 1)).countP (eqN s) = (b.stocks.take j).countP (eqN s) + 1:=by rw [yC hj,if_pos (by simp [eqN,he])]
      have e3:(b.stocks.take (j + 1)).countP (eqN s) ≤ (b.stocks.take i).countP (eqN s):=by
        rw [show b.stocks.take (j + 1) = (b.stocks.take i).take (j + 1) by rw [List.take_take,Nat.min_eq_left (by omega)]]
        exact (List.take_sublist _ _).countP_le
      have e4:(b.stocks.take (i + 1)).countP (eqN s) ≤ b.stocks.countP (eqN s):=(List.take_sublist _ _).countP_le
      omega
  have key:∀ k,k ≤ b.stocks.length → (nmUpto b x k = -1 ∧ ∀ j,j < k → ∀ s:Stk,b.stocks[j]? = some s → (s.name == x) = false) ∨ ∃ (i:Nat) (s:Stk),nmUpto b x k = i ∧ b.stocks[i]? = some s ∧ (s.name == x) = true:=by
    intro k
    induction k with
    | zero=>exact fun _=>.inl ⟨rfl,fun j hj=>by omega⟩
    | succ k ih =>
      intro hk
      obtain ⟨s,hs⟩:=zV (show k < b.stocks.length by omega)
      unfold nmUpto
      rw [zS hs]
      cases hb:s.name == x
      · simp only [cond_false]
        rcases ih (by omega) with ⟨h1,h2⟩ | h
        · refine .inl ⟨h1,fun j hj t ht=>?_⟩
          by_cases e:j = k
          · subst e; rw [hs] at ht; cases ht; exact hb
          · exact h2 j (by omega) t ht
        · exact .inr h
      · exact .inr ⟨k,s,rfl,hs,hb⟩
  unfold nmI
  rcases key _ (Nat.le_refl _) with ⟨h1,h2⟩ | ⟨i,s,h1,h2,h3⟩
  · rw [h1,kQ]
    rw [List.all_eq_true]
    intro s hs
    obtain ⟨j,hj⟩:=List.getElem?_of_mem hs
    simp [h2 j (List.getElem?_eq_some_iff.1 hj).1 s hj]
  · rw [h1,kG h2 ?_ h3]
    rw [List.all_eq_true]
    intro t ht
    obtain ⟨j,hj⟩:=List.getElem?_of_mem ht
    rw [List.getElem?_take] at hj
    split at hj
    · cases hb:t.name == x
      · rfl
      · have:=huniq j i t s hj h2 (by rw [beq_iff_eq] at hb h3; rw [hb,h3])
        omega
    · cases hj
theorem step_eq {b:Brd} (v:BrdOK b) {w:Wrk} {x:List UInt8} (h8:w.out.length ≤ 8):refE w (refTok x) (nmI b x) = actE b w (readT x) ∧ ((actE b w (readT x) != 0) = false → refW b w (refTok x) (nmI b x) = actW b w (readT x)):=by
  have hsim:=zEW x
  obtain ⟨k,hk,hk8⟩:=kU x
  have htext:(readT x).text = x:=by
    unfold readT
    cases x == [] <;> cases x == [33] <;> cases x == [63] <;> cases namedB x <;> cases x.getD 0 0 == 36 <;> cases x.getD 0 0 == 64 <;> cases x.getD 0 0 == 76 <;> cases Lib.hasSuffix x [115] <;> rfl
  rw [zEm v]
  generalize readT x = t at *
  generalize refTok x = t' at *
  obtain ⟨kd,f,g,tx⟩:=t
  obtain ⟨kd',f',g',tx'⟩:=t'
  obtain ⟨e1,e2,e3,e4⟩:=hsim
  dsimp only at e1 e2 e3 e4 hk htext
  subst e1; subst htext; subst hk
  have hal:∀ c:Bool,(bif c || decide (0 < w.number) then (8:Int) else 0) = aloneE w c:=fun c=>rfl
  have h3:∀ kd:Int,(bif decide (w.stock < 0) then (8:Int) else bif ((w.out.length:Int) == 8) then 3 else 0) = saleE w:=fun _=>rfl
  match k,hk8 with
  | 0,_=>exact ⟨rfl,fun h=>by cases h⟩
  | 1,_ =>
    show (bif decide (idxOf (fun s:Stk=>s.name == tx) b.stocks < 0) then (5:Int) else bif (false || (decide (0 < w.number)) || false || false || false) then 8 else 0) = namedE w b ⟨1,f,g,tx⟩ ∧ ((namedE w b ⟨1,f,g,tx⟩ != 0) = false → { w with stock:=idxOf (fun s:Stk=>s.name == tx) b.stocks } = namedW w b ⟨1,f,g,tx⟩)
    unfold namedE namedW nameI
    cases decide (idxOf (fun s:Stk=>s.name == tx) b.stocks < 0)
    · refine ⟨?_,fun _=>rfl⟩
      show (bif (false || decide (0 < w.number) || false || false || false) then (8:Int) else 0) = aloneE w false
      unfold aloneE; cases decide (0 < w.number) <;> rfl
    · exact ⟨rfl,fun h=>by cases h⟩
  | 2,_ =>
    refine ⟨?_,fun _=>?_⟩
    · show (bif (false || decide (0 < w.number) || false || false || false) then (8:Int) else 0) = aloneE w false
      unfold aloneE; cases decide (0 < w.number) <;> rfl
    · show numW w _ = numW w _
      unfold numW; rw [e3 (by simp) (by simp)]
  | 3,_ =>
    refine ⟨?_,fun h=>?_⟩
    · show (bif (decide (w.stock < 0) || false || false || false || false) then (8:Int) else bif ((w.out.length:Int) == 8) then 3 else 0) = saleE w
      unfold saleE; cases decide (w.stock < 0) <;> rfl
    · show ({ w with number:=0,out:=w.out ++ [saleP w b ⟨3,f',g',tx'⟩] }:Wrk) = saleW w b ⟨3,f,g,tx⟩
      have h:(saleE w != 0) = false:=h
      unfold saleE at h
      unfold saleW
      cases h1:decide (w.stock < 0) <;> rw [h1] at h
      · cases h2:((w.out.length:Int) == 8) <;> rw [h2] at h
        · simp only [cond_false]
          unfold saleP
          rw [e3 (by simp) (by simp)]
        · cases h
      · cases h
  | 4,_ =>
    refine ⟨?_,fun h=>?_⟩
    · show (bif (decide (w.stock < 0) || false || false || false || false) then (8:Int) else bif ((w.out.length:Int) == 8) then 3 else 0) = saleE w
      unfold saleE; cases decide (w.stock < 0) <;> rfl
    · show ({ w with number:=0,out:=w.out ++ [saleP w b ⟨4,f',g',tx'⟩] }:Wrk) = saleW w b ⟨4,f,g,tx⟩
      have h:(saleE w != 0) = false:=h
      unfold saleE at h
      unfold saleW
      cases h1:decide (w.stock < 0) <;> rw [h1] at h
      · cases h2:((w.out.length:Int) == 8) <;> rw [h2] at h
        · simp only [cond_false]
          unfold saleP
          rw [e3 (by simp) (by simp)]
        · cases h
      · cases h
  | 5,_ =>
    have e3:=e3 (by simp) (by simp)
    subst e3
    refine ⟨?_,fun _=>rfl⟩
    show (bif (false || decide (0 < w.number) || decide (f < w.minute) || false || false) then (8:Int) else 0) = aloneE w (decide (f < w.minute))
    unfold aloneE
    cases decide (f < w.minute) <;> cases decide (0 < w.number) <;> rfl
  | 6,_ =>
    refine ⟨?_,fun _=>?_⟩
    · show (bif (false || decide (0 < w.number) || false || false || false) then (8:Int) else 0) = aloneE w false
      unfold aloneE; cases decide (0 < w.number) <;> rfl
    · show lateW w _ = lateW w _
      unfold lateW; rw [e3 (by simp) (by simp),e4 rfl]
  | 7,_ =>
    refine ⟨?_,fun _=>rfl⟩
    show (bif (false || decide (0 < w.number) || false || w.rush || false) then (8:Int) else 0) = aloneE w w.rush
    unfold aloneE
    cases w.rush <;> cases decide (0 < w.number) <;> rfl
  | 8,_ =>
    refine ⟨?_,fun _=>rfl⟩
    show (bif (false || decide (0 < w.number) || false || false || !w.rush) then (8:Int) else 0) = aloneE w (!w.rush)
    unfold aloneE
    cases w.rush <;> cases decide (0 < w.number) <;> rfl
theorem zEt {b:Brd} (v:BrdOK b):∀ (l:List (List UInt8)) (w:Wrk),w.out.length ≤ 8 → refGo b l w = actsGo b (l.map readT) w
  | [],_,_=>rfl
  | x :: l,w,h=>by
    obtain ⟨e1,e2⟩:=step_eq (x:=x) v h
    rw [refGo,List.map_cons,actsGo,e1]
    cases he:(actE b w (readT x) != 0)
    · rw [cond_false,cond_false,e2 he,zEt v l _ (zCz h)]
    · rfl
theorem zAf {b:Brd} (h:checkT b = 0) (s:List UInt8):refReadI b s = readI b s:=by
  unfold refReadI readI
  rw [h,zEt (yK h) _ _ (by decide),toks_ref]
  rfl
end Go.Proofs.YticlpkgpmmhemaaGreatDoor
namespace Go.Proofs.YticlpkgpmmhemaaGreatDoor
open Go.Proofs.Tryz
open Go.RowKit
set_option maxRecDepth 20000
set_option linter.all false
set_option maxHeartbeats 4000000
@[reducible] def wT (l:List (List UInt8)):List TV:=l.map fun s=>.d (strD s)
theorem wvec_cons {v:Value} {l:List (List UInt8)} {x:List UInt8} (hV:VecV v 1 (wT (l ++ [x]))):∃ b cap,v = .slice (some ⟨b,0,none⟩) (l.length + 1) cap ∧ l.length + 1 ≤ cap ∧ cap ≤ maxLen:=by
  rcases hV with ⟨_,h⟩ | ⟨b,n,cap,rfl,h1,h2,h3⟩
  · simp at h
  · have:n = l.length + 1:=by simp at h3; omega
    subst this
    exact ⟨b,cap,rfl,h1,h2⟩
theorem zEB {b cap:Nat} {l:List (List UInt8)} {x:List UInt8} (h:l.length + 1 ≤ cap) (hm:cap ≤ maxLen):VecV (.slice (some ⟨b,0,none⟩) (l.length + 1) cap) 1 (wT (l ++ [x])):=.inr ⟨b,l.length + 1,cap,rfl,h,hm,by simp⟩
theorem zEP {l:List (List UInt8)} {x y:List UInt8}:wT (l ++ [x]) ++ ([[D.str ⟨y.toArray⟩]].flatten.map TV.d) = wT ((l ++ [x]) ++ [y]):=by simp
theorem wT_get {l:List (List UInt8)} {x:List UInt8} {r:List TV}:(wT (l ++ [x]) ++ r)[0 + l.length * 1]? = some (.d (strD x)):=by
  rw [List.getElem?_append_left (by simp),List.getElem?_map]
  simp
theorem wT_set {l:List (List UInt8)} {x y:List UInt8} {r:List TV}:(wT (l ++ [x]) ++ r).set (0 + l.length * 1) (.d (strD y)) = wT (l ++ [y]) ++ r:=by
  rw [List.set_append_left _ _ (by simp)]
  congr 1
  apply List.ext_getElem?
  intro i
  rw [List.getElem?_set]
  by_cases e:0 + l.length * 1 = i
  · subst e; simp
  · rw [if_neg e]
    by_cases hi:i < l.length
    · rw [List.getElem?_map,List.getElem?_map,List.getElem?_append_left hi,List.getElem?_append_left hi]
    · rw [List.getElem?_eq_none (by simp; omega),List.getElem?_eq_none (by simp; omega)]
theorem g_freezeW {Γ:Cx} {σ:St} {t:Nat} {v:Value} {l:List (List UInt8)} (id:Nat) (ht:σ.get t = some (true,.val v)) (hr:σ.rget id = some (vecRes 9 v 1 (wT l))) (hV:VecV v 1 (wT l)):Ghost Γ σ ((σ.put t true (.d (strsD l))).rput id .gone):=by
  rcases hV with ⟨rfl,h⟩ | ⟨b,n,cap,rfl,h1,h2,h3⟩
  · obtain rfl:l = []:=by simpa using h
    intro a w F hs
    exact ⟨F,(hs.rput (i:=id) (r:=.gone) trivial fun _ h=>h.elim).slot (t:=t) (tv:=.val (.slice none 0 0)) ht fun v hv=>by
      cases hv
      exact ⟨none,0,rfl,Nat.le_refl _,Nat.zero_le _,.inl rfl⟩,fun _ _ h=>h⟩
  · have hn:l.length = n:=by simpa using h3
    subst hn
    refine g_freezeVK (n:=l.length) (sz:=1) (cap:=cap) (ds:=l.map fun s=>strD s) (rest:=List.replicate ((cap - l.length) * 1) .any) id ht hr (by simp [wT,List.map_map,Function.comp_def]) (by simp) ?_ h1 h2
    have:∀ l:List (List UInt8),chunk 1 l.length (l.map fun s=>strD s) = l.map fun s=>[strD s]:=fun l=>by
      induction l with
      | nil=>rfl
      | cons x l ih=>simp [chunk,ih]
    exact this l
theorem kk:∀ (s cur:List UInt8),(splitGo s cur).length ≤ s.length + 1 ∧ ∀ x ∈ splitGo s cur,x.length ≤ s.length + cur.length
  | [],cur=>⟨by simp [splitGo],fun x hx=>by simp [splitGo] at hx; subst hx; simp⟩
  | b :: r,cur=>by
    unfold splitGo
    cases b == 32
    · have:=kk r (cur ++ [b])
      simp only [cond_false,List.length_append,List.length_cons,List.length_nil] at this ⊢
      exact ⟨by omega,fun x hx=>by have:=this.2 x hx; omega⟩
    · have:=kk r []
      simp only [cond_true,List.length_cons,List.length_nil] at this ⊢
      exact ⟨by omega,fun x hx=>by
        rcases List.mem_cons.1 hx with rfl | hx
        · omega
        · have:=this.2 x hx; omega⟩
theorem refToks_len (s:List UInt8):(refToks s).length ≤ s.length + 1 ∧ ∀ x ∈ refToks s,x.length ≤ s.length:=by
  unfold refToks
  cases s == []
  · have:=kk s []
    exact ⟨this.1,fun x hx=>by have:=this.2 x hx; simpa using this⟩
  · exact ⟨by simp,fun x hx=>by cases hx⟩
theorem split_sp {s cur:List UInt8} {i:Nat} {b:UInt8} (hb:s[i]? = some b) (h:(b == 32) = true):splitGo (s.drop i) cur = cur :: splitGo (s.drop (i + 1)) []:=by
  rw [zf hb,splitGo,h]; rfl
theorem split_ch {s cur:List UInt8} {i:Nat} {b:UInt8} (hb:s[i]? = some b) (h:(b == 32) = false):splitGo (s.drop i) cur = splitGo (s.drop (i + 1)) (cur ++ [b]):=by
  rw [zf hb,splitGo,h]; rfl
theorem elt109:ElT Tryz.prog 109 139 8 64:=kP underlying109 (z:=(.agg #[(.int .i64 0),(.int .i64 0),(.int .i64 0),(.int .i64 0),(.bool false),(.int .i64 0),(.int .i64 0),(.int .i64 0)])) (by kernel_rfl) rfl (by decide)
theorem Tokens_eff (s:List UInt8) (h5:s.length ≤ 1000):EffAt Tryz.prog 161 [.d (strD s)] [] (X:=Unit) (fun _=>.d (strsD (refToks s))) (fun _=>[]):=by
 refine EffAt.of_awp Tryz.func161 rfl (by kernel_rfl) rfl fun Γ hn=>?_
 refine Zu (Zt 1 [] hn rfl (Zv (zD (Zu (Zt 1 [] hn rfl (Zs hn (yt rfl rfl rfl) ?_))))))
 refine Zv (zG rfl (fun hb0=>?_) (fun hb0=>?_))
 have q0:(s == []) = true:=hb0
 have e1:refToks s = []:=by unfold refToks; rw [q0]; rfl
 rw [e1]
 refine Zu (Zt 1 [] hn rfl (Zv (zI (zB ?_))))
 exact ret_E (.inl rfl) () ((zj rfl (.tmp rfl)).le (.nil 1)) trivial
 have q0:(s == []) = false:=hb0
 have e1:refToks s = splitGo s []:=by unfold refToks; rw [q0]; rfl
 rw [e1]
 refine zJ (zA (Zu ?_))
 refine stepW (s_buildVec 1090 rfl rfl rfl (nb hn rfl) underlying230 sz9 zr9 rfl rfl (show _ = [.d (.str ⟨#[]⟩)] from by kernel_rfl) (by kernel_rfl) rfl rfl) fun b7=>?_
 refine Zt 1 [] hn rfl (Zv (zD (Zu (Zt 1 [] hn rfl (Zv (zN (awp_loop_on (ι:={x:Nat × List (List UInt8) × List UInt8 × Value // x.1 ≤ s.length ∧ x.2.1.length ≤ x.1 ∧ x.2.2.1.length ≤ x.1 ∧ VecV x.2.2.2 1 (wT (x.2.1 ++ [x.2.2.1])) ∧ x.2.1 ++ splitGo (s.drop x.1) x.2.2.1 = splitGo s []}) (fun x=>(3,true,.val x.1.2.2.2) :: (4,true,.d (.int .i64 (x.1.1:Nat))) :: anys [8,9,10,11,14,15,16,17,18,19,20,21,22,23,24,25,26,27,28,29,30,31,32,33,12,13]) (fun x=>[(1090,vecRes 9 x.1.2.2.2 1 (wT (x.1.2.1 ++ [x.1.2.2.1])))]) (fun x=>s.length - x.1.1) ⟨(0,[],[],.slice (some ⟨b7,0,none⟩) 1 1),Nat.zero_le _,by simp,by simp,zEB (l:=[]) (by simp) (by decide),rfl⟩ ⟨.inl rfl,.inl rfl,zF _⟩ ⟨.inl rfl,trivial⟩ ?_)))))))
 rintro ⟨⟨i,pre,cur,v⟩,hi,hpl,hcl,hV,hgo⟩
 dsimp only
 dsimp only at hi hpl hcl hV hgo
 refine zD (Zu (Zt 4 [] hn rfl (Zv (zG rfl (fun hb1=>?_) (fun hb1=>?_)))))
 rw [zU] at hb1
 have hil:i < s.length:=by simp at hb1; omega
 obtain ⟨b,hb⟩:=zV hil
 refine zJ (zA (zD (zN (Zu (Zt 2 [] hn rfl (Zs hn (z8 (i:=i) rfl rfl rfl underlying9 rfl hb) ?_))))))
 refine Zt 1 [] hn rfl (Zv ?_)
 rw [show ((b.toNat:Int) == 32) = (b == 32) from beqN (b:=32)]
 refine zG rfl (fun hb2=>?_) (fun hb2=>?_)
 have hsp:(b == 32) = true:=hb2
 refine zH (Zt 1 [] hn rfl ?_)
 refine stepW (zP rfl rfl rfl (nb hn rfl) underlying230 sz9 zr9 rfl rfl rfl (show _ = [.d (.str ⟨#[]⟩)] from by kernel_rfl) (by kernel_rfl) rfl rfl rfl rfl rfl) fun _=>?_
 refine stepW (zBu (id:=1090) rfl rfl rfl (nb hn rfl) elt230 zr9 rfl hV rfl rfl rfl (by simp [chunk]; omega) (by simp [chunk]; omega) (fun _ _=>trivial)) fun ⟨v2,hV2⟩=>?_
 refine Zt 1 [] hn rfl (zQ (zM (zA (zH (Zt 1 [] hn rfl (Zs hn (zh rfl rfl rfl (r:=((i + 1:Nat):Int)) (i64w (by omega) (by omega))) ?_))))))
 refine Zt 1 [] hn rfl (zQ ?_)
 exact Zr ⟨(i + 1,pre ++ [cur],[],v2),by simp only; omega,by simp only [List.length_append,List.length_cons,List.length_nil]; omega,by simp,by rw [← zEP]; exact hV2,by simp only; rw [← hgo,split_sp hb hsp]; simp⟩ ⟨.inl rfl,.inl rfl,zF _⟩ ⟨.inl (congrArg (fun z=>some (vecRes 9 v2 1 z)) zEP),trivial⟩ (by simp only; omega)
 have hsp:(b == 32) = false:=hb2
 obtain ⟨bv,cap,rfl,hcap,hcm⟩:=wvec_cons hV
 refine zb (e:=.normal) (ι:=Unit) (fun x=>anys [21,22,23,24,25,26,27,28,29,30,31,32,33]) (fun x=>[(1090,vecRes 9 (.slice (some ⟨bv,0,none⟩) (pre.length + 1) cap) 1 (wT (pre ++ [cur ++ [b]])))]) (fun hJ3=>?_) ?_
 refine zo (W:=fun b=>True) fmo ?_
 refine Zy [0,1,2] [] hn rfl (Zd 3 rfl hn (yB rfl rfl rfl (r:=((pre.length:Nat):Int)) (i64w (by omega) (by omega))) ?_)
 refine Zd 4 rfl hn (q_indexV (i:=pre.length) rfl rfl rfl underlying230 sz9 rfl (by omega)) ?_
 refine Zy [6,7,8] [] hn rfl (Zd 9 rfl hn (zh rfl rfl rfl (r:=((i + 1:Nat):Int)) (i64w (by omega) (by omega))) ?_)
 refine Zd 10 rfl hn (zCH (i:=i) (j:=i + 1) rfl rfl rfl rfl underlying9 rfl rfl (by omega) (by omega) (show _ = [b] by rw [zf hb,Nat.add_sub_cancel_left]; rfl)) ?_
 refine zE (Zo 5 rfl (Zw hn (zY rfl rfl (id:=1090) rfl underlying9 rfl wT_get sees0)) fun _=>?_)
 refine d2_of_d1 (Zd 11 rfl hn (zBH rfl rfl rfl (by simp only [List.length_cons,List.length_nil]; omega) rfl) ?_)
 refine Zd 12 rfl hn (q_indexV (i:=pre.length) rfl rfl rfl underlying230 sz9 rfl (by omega)) ?_
 refine zE (Zo 13 rfl (s_store1 rfl rfl rfl rfl rfl rfl (id:=1090) rfl sz9 (by simp) wT_set trivial) fun _=>?_)
 refine d2_of_d1 (zE (zl (by kernel_rfl) ?_))
 exact Zj hJ3 () (zF _) ⟨.inl rfl,trivial⟩
 rintro _
 refine zM (zA (zH (Zt 1 [] hn rfl (Zs hn (zh rfl rfl rfl (r:=((i + 1:Nat):Int)) (i64w (by omega) (by omega))) ?_))))
 refine Zt 1 [] hn rfl (zQ ?_)
 exact Zr ⟨(i + 1,pre,cur ++ [b],.slice (some ⟨bv,0,none⟩) (pre.length + 1) cap),by simp only; omega,by simp only; omega,by simp only [List.length_append,List.length_cons,List.length_nil]; omega,zEB hcap hcm,by simp only; rw [← hgo,split_ch hb hsp]⟩ ⟨.inl rfl,.inl rfl,zF _⟩ ⟨.inl rfl,trivial⟩ (by simp only; omega)
 rw [zU] at hb1
 have hie:i = s.length:=by simp at hb1; omega
 rw [hie,List.drop_length] at hgo
 have hgo:pre ++ [cur] = splitGo s []:=hgo
 rw [← hgo]
 refine zX (zC (zC (zO (zA (Zu (Zt 2 [] hn rfl (Zv (zI (y2 (g_freezeW (t:=2) (l:=pre ++ [cur]) 1090 rfl rfl hV) ?_)))))))))
 exact ret_E (.inl rfl) () (zj rfl (.tmp rfl)) trivial
theorem Tokens_ok (s:List UInt8) (h5:s.length ≤ 1000):PureAt Tryz.prog 161 [strD s] (strsD (refToks s)):=PureAt.of_eff (ds:=[strD s]) (Tokens_eff s h5)
theorem zBC {b:Brd} {s:List UInt8} {w:Wrk} {i:Nat} {tk:List UInt8} {e:Int} (q0:decide (160 < (s.length:Int)) = false) (ht:(refToks s)[i]? = some tk) (hgo:refGo b ((refToks s).drop i) w = refGo b (refToks s) wrk0) (hE:refE w (refTok tk) (nmI b tk) = e) (he:(e != 0) = true):refReadI b s = ([],e):=by
  rw [zf ht,refGo,hE,he] at hgo
  unfold refReadI
  rw [q0,← hgo]
  simp only [cond_true,cond_false]
  rw [he]
  rfl
theorem sale_row {l:List Prt} {p q:Prt} (h:q = p):l.map prtE ++ [prtE p] = (l ++ [q]).map prtE:=by subst h; simp
theorem refTok_kind (s:List UInt8):∃ k:Nat,(refTok s).kind = k ∧ k ≤ 8:=by
  obtain ⟨k,h1,h2⟩:=kU s
  exact ⟨k,by rw [← (zEW s).kind]; exact h1,h2⟩
theorem price_of {t:Tok} {k:Nat} (hk:t.kind = k) (h8:k ≤ 8) (p0:(t.kind == 0) = false) (k1:(t.kind == 1) = false) (k2:(t.kind == 2) = false) (k5:(t.kind == 5) = false) (k6:(t.kind == 6) = false) (k78:(t.kind == 7 || t.kind == 8) = false):priceT t = true:=by
  unfold priceT
  simp only [beq_eq_false_iff_ne,ne_eq,Bool.or_eq_false_iff] at p0 k1 k2 k5 k6 k78
  simp only [Bool.or_eq_true,beq_iff_eq]
  omega
theorem refRead_eff (b:Brd) (s:List UInt8) (hbl:b.stocks.length ≤ 1000) (h5:s.length ≤ 4294967000):EffAt Tryz.prog 101 [.d (brdD b),.d (strD s)] [] (X:=Unit) (fun _=>.d (.tup [prtsD (refReadI b s).1,.int .i64 (refReadI b s).2])) (fun _=>[]):=by
 refine EffAt.of_awp Tryz.func101 rfl (by kernel_rfl) rfl fun Γ hn=>?_
 refine Zu (Zb 2 hn rfl fun b2=>Zt 2 [] hn rfl (Zv (zD (Zu (Zt 3 [] hn rfl (Zv ?_))))))
 rw [zU]
 refine zG rfl (fun hb0=>?_) (fun hb0=>?_)
 have q0:decide (160 < (s.length:Int)) = true:=hb0
 have e1:refReadI b s = ([],3):=by unfold refReadI; rw [q0]; rfl
 rw [e1]
 refine Zu (Zt 2 [] hn rfl (Zv (zI (zB ?_))))
 exact ret_E (.inl rfl) () ((zr rfl (.tmp rfl) (.tmp rfl)).le (.tup (.cons (.nil 8) (.refl _)))) trivial
 have q0:decide (160 < (s.length:Int)) = false:=hb0
 have hs160:s.length ≤ 160:=by simp at q0; omega
 obtain ⟨htl,htx⟩:=refToks_len s
 refine zJ (zA (Zu (Zt 1 [] hn rfl (Zv (zD (yH (g_nil (t:=6) (id:=6) 139 8 rfl (nb hn rfl)) ?_))))))
 refine zH (Zt 1 [] hn rfl (Zk hn rfl (Tokens_ok s (by omega)) (Zt 1 [] hn rfl (Zv (Zu (Zt 1 [] hn rfl (Zb 10 hn rfl fun b10=>Zt 5 [10] hn rfl (Zv (zD (Zu (Zt 1 [] hn rfl (Zv (zN (awp_loop_on (ι:={x:Nat × Wrk × Value // x.1 ≤ (refToks s).length ∧ x.2.1.out.length ≤ 8 ∧ refGo b ((refToks s).drop x.1) x.2.1 = refGo b (refToks s) wrk0}) (fun x=>(13,true,.d (.int .i64 (x.1.1:Nat))) :: (8,true,.d (.int .i64 x.1.2.1.stock)) :: (9,true,.d (.int .i64 x.1.2.1.minute)) :: (11,true,.d (.bool x.1.2.1.rush)) :: (12,true,.d (.int .i64 x.1.2.1.number)) :: (6,true,.val x.1.2.2) :: anys [27,28,29,30,34,35,36,37,38,33,39,40,41,14,15,16,42,43,17,18,44,45,46,47,48,51,52,53,54,55,56,57,58,59,60,61,62,49,50,63,64,65,66,67,68,69,70,71,72,73,74,19,75,76,77,78,79,80,81,82,83,84,85,86,87,88,89,90,91,92,93,94,95,96,97,98,99,100,101,102,103,104,105,106,107,108,109,110,111,112,113,114,115,116,117,118,143,142,144,146,145,147,149,148,150,152,151,153,154,155,157,156,158,159,160,119,120,121,122,123,124,125,126,20,127,128,129,130,131,132,133,134,135,136,137,138,139,140,141,31,32]) (fun x=>(10,.box b10 59 [.d (.int .i64 x.1.2.1.llo),.d (.int .i64 x.1.2.1.lhi)]) :: (6,.row x.1.2.2 139 8 (x.1.2.1.out.map prtE)) :: gones [20]) (fun x=>(refToks s).length - x.1.1) ⟨(0,wrk0,_),Nat.zero_le _,by decide,rfl⟩ ⟨.inl rfl,.inl rfl,.inl rfl,.inl rfl,.inl rfl,.inl rfl,zF _⟩ ⟨.inl rfl,.inl rfl,zW _⟩ ?_))))))))))))))
 rintro ⟨⟨i,w,vv⟩,hi,h8,hgo⟩
 dsimp only
 dsimp only at hi h8 hgo
 refine zD (Zu (Zt 4 [] hn rfl (Zv (zG rfl (fun hb1=>?_) (fun hb1=>?_)))))
 ·
  have hil:i < (refToks s).length:=by simp at hb1; omega
  obtain ⟨tk,ht⟩:=zV hil
  have htl2:=htx tk (List.mem_of_getElem? ht)
  refine zJ (zA (zD (zN (Zu (Zt 2 [] hn rfl (Zi (i:=i) hn rfl rfl (mget ht) ?_))))))
  refine Zt 1 [] hn rfl (Zk hn rfl (Token_ok tk (by omega)) (Zt 7 [] hn rfl (Zv (zD (Zu (Zt 2 [] hn rfl (Zv (zG rfl (fun hb2=>?_) (fun hb2=>?_)))))))))
  have p0:((refTok tk).kind == 0) = true:=hb2
  have hE:refE w (refTok tk) (nmI b tk) = 4:=by unfold refE; rw [p0]; rfl
  have e1:refReadI b s = ([],4):=zBC q0 ht hgo hE (by decide)
  rw [e1]
  refine Zu (Zt 2 [] hn rfl (Zv (zI (zB (zL (zB (zB (zL (zB ?_)))))))))
  exact ret_E (.inl rfl) () ((zr rfl (.tmp rfl) (.tmp rfl)).le (.tup (.cons (.nil 8) (.refl _)))) trivial
  have p0:((refTok tk).kind == 0) = false:=hb2
  refine zJ (zA (Zu (Zt 1 [] hn rfl (Zv (zD (Zu (Zt 1 [] hn rfl (Zv (zN (awp_loop_on (ι:={k:Nat // k ≤ b.stocks.length}) (fun y=>(17,true,.d (.int .i64 (nmUpto b tk y.1))) :: (18,true,.d (.int .i64 (y.1:Nat))) :: anys [44,45,46,47,48,51,52,53,54,55,56,57,58,59,60,61,62,49,50]) (fun y=>[]) (fun y=>b.stocks.length - y.1) ⟨0,Nat.zero_le _⟩ ⟨.inl rfl,.inl rfl,zF _⟩ trivial ?_))))))))))
  rintro ⟨k,hk⟩
  dsimp only
  refine zD (Zu (Zt 5 [2] hn rfl (Zv (zG rfl (fun hb3=>?_) (fun hb3=>?_)))))
  ·
   have hkl:k < b.stocks.length:=by simp at hb3; omega
   obtain ⟨st,hst⟩:=zV hkl
   refine zJ (zA (zD (zN (zD (zo (W:=fun b=>b ≠ b2) fmo ?_)))))
   refine Zy [0,1,2] [2] hn rfl (Zd 3 rfl hn (q_index (i:=k) rfl rfl rfl underlying22 sz98 rfl (mget hst)) ?_)
   refine Zy [4,5,6,7] [] hn rfl (Zd 8 rfl hn (q_index (i:=i) rfl rfl rfl underlying230 sz9 rfl (mget ht)) ?_)
   refine Zy [9] [] hn rfl (Zd 10 rfl hn (yt rfl rfl rfl) ?_)
   refine zE (zl (by kernel_rfl) ?_)
   refine zA (zG rfl (fun hb4=>?_) (fun hb4=>?_))
   have hnm:(st.name == tk) = true:=hb4
   refine zH (Zt 2 [] hn rfl (zQ (zM (zA (zH ?_)))))
   rotate_left
   have hnm:(st.name == tk) = false:=hb4
   refine zJ (zM (zA (zH ?_)))
   rotate_left
   all_goals
    refine Zt 1 [] hn rfl (Zs hn (zh rfl rfl rfl (r:=((k + 1:Nat):Int)) (i64w (by omega) (by omega))) ?_)
    refine Zt 1 [] hn rfl (zQ ?_)
    exact Zr ⟨k + 1,by omega⟩ ⟨.inl (by rw [nmUpto,zS hst,hnm]; rfl),.inl rfl,zF _⟩ trivial (by simp only; omega)
  have hke:k = b.stocks.length:=by simp at hb3; omega
  subst hke
  refine zX (zC (zC (zO (zA (zD (Zu (Zt 6 [] hn rfl (Zv (zG rfl (fun hb5=>?_) (fun hb5=>?_))))))))))
  have p1:(((refTok tk).kind == 1) && decide (nmI b tk < 0)) = true:=hb5
  have hE:refE w (refTok tk) (nmI b tk) = 5:=by unfold refE; rw [p0,p1]; rfl
  have e1:refReadI b s = ([],5):=zBC q0 ht hgo hE (by decide)
  rw [e1]
  refine Zu (Zt 2 [] hn rfl (Zv (zI (zB (zL (zB (zB (zL (zB ?_)))))))))
  exact ret_E (.inl rfl) () ((zr rfl (.tmp rfl) (.tmp rfl)).le (.tup (.cons (.nil 8) (.refl _)))) trivial
  have p1:(((refTok tk).kind == 1) && decide (nmI b tk < 0)) = false:=hb5
  refine zJ (zA (Zu (Zt 7 [] hn rfl (Zv (zD (Zu (Zt 37 [] hn rfl (Zv (zG rfl (fun hb6=>?_) (fun hb6=>?_))))))))))
  have p2:(priceT (refTok tk) && decide (w.stock < 0) || !(priceT (refTok tk)) && decide (0 < w.number) || (refTok tk).kind == 5 && decide ((refTok tk).fst < w.minute) || (refTok tk).kind == 7 && w.rush || (refTok tk).kind == 8 && !w.rush) = true:=hb6
  have hE:refE w (refTok tk) (nmI b tk) = 8:=by unfold refE; rw [p0,p1,p2]; rfl
  have e1:refReadI b s = ([],8):=zBC q0 ht hgo hE (by decide)
  rw [e1]
  refine Zu (Zt 2 [] hn rfl (Zv (zI (zB (zL (zB (zB (zL (zB ?_)))))))))
  exact ret_E (.inl rfl) () ((zr rfl (.tmp rfl) (.tmp rfl)).le (.tup (.cons (.nil 8) (.refl _)))) trivial
  have p2:(priceT (refTok tk) && decide (w.stock < 0) || !(priceT (refTok tk)) && decide (0 < w.number) || (refTok tk).kind == 5 && decide ((refTok tk).fst < w.minute) || (refTok tk).kind == 7 && w.rush || (refTok tk).kind == 8 && !w.rush) = false:=hb6
  refine zJ (zA (zD (Zu (Zt 3 [] hn rfl ?_))))
  refine Zh [(114,_)] (zK rfl rfl rfl) hn (fun hc=>⟨⟨_,rfl,hc⟩,trivial⟩) (fun hc=>zEd rfl rfl (id:=6) rfl underlying109) ?_
  refine Zt 2 [] hn rfl (Zv (zG rfl (fun hb7=>?_) (fun hb7=>?_)))
  have p3:(priceT (refTok tk) && (w.out.length:Int) == 8) = true:=by have:=hb7; rw [List.length_map] at this; exact this
  have hE:refE w (refTok tk) (nmI b tk) = 3:=by unfold refE; rw [p0,p1,p2,p3]; rfl
  have e1:refReadI b s = ([],3):=zBC q0 ht hgo hE (by decide)
  rw [e1]
  refine Zu (Zt 2 [] hn rfl (Zv (zI (zB (zL (zB (zB (zL (zB ?_)))))))))
  exact ret_E (.inl rfl) () ((zr rfl (.tmp rfl) (.tmp rfl)).le (.tup (.cons (.nil 8) (.refl _)))) trivial
  have p3:(priceT (refTok tk) && (w.out.length:Int) == 8) = false:=by have:=hb7; rw [List.length_map] at this; exact this
  have hE0:(refE w (refTok tk) (nmI b tk) != 0) = false:=by unfold refE; rw [p0,p1,p2,p3]; rfl
  obtain ⟨kd,hkd,hk8⟩:=refTok_kind tk
  refine zJ (zA (Zu (Zt 1 [] hn rfl (Zv (zN (Zu (Zt 2 [] hn rfl (Zv (zG rfl (fun hb8=>?_) (fun hb8=>?_))))))))))
  have k1:((refTok tk).kind == 1) = true:=hb8
  have e2:refW b w (refTok tk) (nmI b tk) = { w with stock:=nmI b tk }:=by (unfold refW; rw [k1]; simp only [cond_true,cond_false])
  refine zH (Zt 2 [] hn rfl (zQ (zM (zM (zA (zH (Zt 1 [] hn rfl (Zs hn (zh rfl rfl rfl (r:=((i + 1:Nat):Int)) (i64w (by omega) (by omega))) ?_))))))))
  refine Zt 1 [] hn rfl (zQ ?_)
  exact Zr ⟨(i + 1,refW b w (refTok tk) (nmI b tk),vv),by simp only; omega,by simp only; rw [e2]; first | exact h8 | (simp only [List.length_append,List.length_cons,List.length_nil]; omega),by simp only; rw [← hgo,zf ht,refGo,hE0]; rfl⟩ ⟨.inl rfl,.inl (by have h:=congrArg (fun z:Wrk=>some (true,TV.d (D.int .i64 z.stock))) e2.symm; exact h),.inl (by have h:=congrArg (fun z:Wrk=>some (true,TV.d (D.int .i64 z.minute))) e2.symm; exact h),.inl (by have h:=congrArg (fun z:Wrk=>some (true,TV.d (D.bool z.rush))) e2.symm; exact h),.inl (by have h:=congrArg (fun z:Wrk=>some (true,TV.d (D.int .i64 z.number))) e2.symm; exact h),.inl rfl,zF _⟩ ⟨.inl (by have h:=congrArg (fun z:Wrk=>some (Res.box b10 59 [TV.d (D.int .i64 z.llo),TV.d (D.int .i64 z.lhi)])) e2.symm; exact h),.inl (by have h:=congrArg (fun z:Wrk=>some (Res.row vv 139 8 (z.out.map prtE))) e2.symm; exact h),zW _⟩ (by simp only; omega)
  have k1:((refTok tk).kind == 1) = false:=hb8
  refine Zu (Zt 2 [] hn rfl (Zv (zG rfl (fun hb9=>?_) (fun hb9=>?_))))
  have k2:((refTok tk).kind == 2) = true:=hb9
  have e2:refW b w (refTok tk) (nmI b tk) = numW w (refTok tk):=by (unfold refW; rw [k1,k2]; simp only [cond_true,cond_false])
  refine zH (Zt 2 [] hn rfl (zQ (zM (zM (zA (zH (Zt 1 [] hn rfl (Zs hn (zh rfl rfl rfl (r:=((i + 1:Nat):Int)) (i64w (by omega) (by omega))) ?_))))))))
  refine Zt 1 [] hn rfl (zQ ?_)
  exact Zr ⟨(i + 1,refW b w (refTok tk) (nmI b tk),vv),by simp only; omega,by simp only; rw [e2]; first | exact h8 | (simp only [List.length_append,List.length_cons,List.length_nil]; omega),by simp only; rw [← hgo,zf ht,refGo,hE0]; rfl⟩ ⟨.inl rfl,.inl (by have h:=congrArg (fun z:Wrk=>some (true,TV.d (D.int .i64 z.stock))) e2.symm; exact h),.inl (by have h:=congrArg (fun z:Wrk=>some (true,TV.d (D.int .i64 z.minute))) e2.symm; exact h),.inl (by have h:=congrArg (fun z:Wrk=>some (true,TV.d (D.bool z.rush))) e2.symm; exact h),.inl (by have h:=congrArg (fun z:Wrk=>some (true,TV.d (D.int .i64 z.number))) e2.symm; exact h),.inl rfl,zF _⟩ ⟨.inl (by have h:=congrArg (fun z:Wrk=>some (Res.box b10 59 [TV.d (D.int .i64 z.llo),TV.d (D.int .i64 z.lhi)])) e2.symm; exact h),.inl (by have h:=congrArg (fun z:Wrk=>some (Res.row vv 139 8 (z.out.map prtE))) e2.symm; exact h),zW _⟩ (by simp only; omega)
  have k2:((refTok tk).kind == 2) = false:=hb9
  refine Zu (Zt 2 [] hn rfl (Zv (zG rfl (fun hb10=>?_) (fun hb10=>?_))))
  have k5:((refTok tk).kind == 5) = true:=hb10
  have e2:refW b w (refTok tk) (nmI b tk) = timedW w (refTok tk):=by (unfold refW; rw [k1,k2,k5]; simp only [cond_true,cond_false])
  refine zH (Zt 2 [] hn rfl (zQ (zM (zM (zA (zH (Zt 1 [] hn rfl (Zs hn (zh rfl rfl rfl (r:=((i + 1:Nat):Int)) (i64w (by omega) (by omega))) ?_))))))))
  refine Zt 1 [] hn rfl (zQ ?_)
  exact Zr ⟨(i + 1,refW b w (refTok tk) (nmI b tk),vv),by simp only; omega,by simp only; rw [e2]; first | exact h8 | (simp only [List.length_append,List.length_cons,List.length_nil]; omega),by simp only; rw [← hgo,zf ht,refGo,hE0]; rfl⟩ ⟨.inl rfl,.inl (by have h:=congrArg (fun z:Wrk=>some (true,TV.d (D.int .i64 z.stock))) e2.symm; exact h),.inl (by have h:=congrArg (fun z:Wrk=>some (true,TV.d (D.int .i64 z.minute))) e2.symm; exact h),.inl (by have h:=congrArg (fun z:Wrk=>some (true,TV.d (D.bool z.rush))) e2.symm; exact h),.inl (by have h:=congrArg (fun z:Wrk=>some (true,TV.d (D.int .i64 z.number))) e2.symm; exact h),.inl rfl,zF _⟩ ⟨.inl (by have h:=congrArg (fun z:Wrk=>some (Res.box b10 59 [TV.d (D.int .i64 z.llo),TV.d (D.int .i64 z.lhi)])) e2.symm; exact h),.inl (by have h:=congrArg (fun z:Wrk=>some (Res.row vv 139 8 (z.out.map prtE))) e2.symm; exact h),zW _⟩ (by simp only; omega)
  have k5:((refTok tk).kind == 5) = false:=hb10
  refine Zu (Zt 2 [] hn rfl (Zv (zG rfl (fun hb11=>?_) (fun hb11=>?_))))
  have k6:((refTok tk).kind == 6) = true:=hb11
  have e2:refW b w (refTok tk) (nmI b tk) = lateW w (refTok tk):=by (unfold refW; rw [k1,k2,k5,k6]; simp only [cond_true,cond_false])
  refine zH (Zt 4 [10] hn rfl (zQ (zM (zM (zA (zH (Zt 1 [] hn rfl (Zs hn (zh rfl rfl rfl (r:=((i + 1:Nat):Int)) (i64w (by omega) (by omega))) ?_))))))))
  refine Zt 1 [] hn rfl (zQ ?_)
  exact Zr ⟨(i + 1,refW b w (refTok tk) (nmI b tk),vv),by simp only; omega,by simp only; rw [e2]; first | exact h8 | (simp only [List.length_append,List.length_cons,List.length_nil]; omega),by simp only; rw [← hgo,zf ht,refGo,hE0]; rfl⟩ ⟨.inl rfl,.inl (by have h:=congrArg (fun z:Wrk=>some (true,TV.d (D.int .i64 z.stock))) e2.symm; exact h),.inl (by have h:=congrArg (fun z:Wrk=>some (true,TV.d (D.int .i64 z.minute))) e2.symm; exact h),.inl (by have h:=congrArg (fun z:Wrk=>some (true,TV.d (D.bool z.rush))) e2.symm; exact h),.inl (by have h:=congrArg (fun z:Wrk=>some (true,TV.d (D.int .i64 z.number))) e2.symm; exact h),.inl rfl,zF _⟩ ⟨.inl (by have h:=congrArg (fun z:Wrk=>some (Res.box b10 59 [TV.d (D.int .i64 z.llo),TV.d (D.int .i64 z.lhi)])) e2.symm; exact h),.inl (by have h:=congrArg (fun z:Wrk=>some (Res.row vv 139 8 (z.out.map prtE))) e2.symm; exact h),zW _⟩ (by simp only; omega)
  have k6:((refTok tk).kind == 6) = false:=hb11
  refine zD (Zu (Zt 2 [] hn rfl (Zv (zb (e:=.normal) (ι:=Unit) (fun u0=>(156,true,.d (.bool (((refTok tk).kind == 7) || ((refTok tk).kind == 8)))) :: anys [158]) (fun u0=>[]) (fun hJ12=>?_) ?_))))
  refine zG rfl (fun hb12=>?_) (fun hb12=>?_)
  have k7:((refTok tk).kind == 7) = true:=hb12
  refine zJ ?_
  exact Zj hJ12 () ⟨.inl (congrArg (fun z=>some (true,TV.d (D.bool z))) (by rw [k7]; rfl:((refTok tk).kind == 7) = ((refTok tk).kind == 7 || (refTok tk).kind == 8))),zF _⟩ trivial
  have k7:((refTok tk).kind == 7) = false:=hb12
  refine zH (Zt 2 [] hn rfl (zQ ?_))
  exact Zj hJ12 () ⟨.inl (congrArg (fun z=>some (true,TV.d (D.bool z))) (by rw [k7]; rfl:((refTok tk).kind == 8) = ((refTok tk).kind == 7 || (refTok tk).kind == 8))),zF _⟩ trivial
  rintro _
  refine zA (zG rfl (fun hb13=>?_) (fun hb13=>?_))
  have k78:(((refTok tk).kind == 7) || ((refTok tk).kind == 8)) = true:=hb13
  have e2:refW b w (refTok tk) (nmI b tk) = rushW w ((refTok tk).kind == 7):=by (unfold refW; rw [k1,k2,k5,k6,k78]; simp only [cond_true,cond_false])
  refine zH (Zt 3 [] hn rfl (zQ (zM (zM (zA (zH (Zt 1 [] hn rfl (Zs hn (zh rfl rfl rfl (r:=((i + 1:Nat):Int)) (i64w (by omega) (by omega))) ?_))))))))
  refine Zt 1 [] hn rfl (zQ ?_)
  exact Zr ⟨(i + 1,refW b w (refTok tk) (nmI b tk),vv),by simp only; omega,by simp only; rw [e2]; first | exact h8 | (simp only [List.length_append,List.length_cons,List.length_nil]; omega),by simp only; rw [← hgo,zf ht,refGo,hE0]; rfl⟩ ⟨.inl rfl,.inl (by have h:=congrArg (fun z:Wrk=>some (true,TV.d (D.int .i64 z.stock))) e2.symm; exact h),.inl (by have h:=congrArg (fun z:Wrk=>some (true,TV.d (D.int .i64 z.minute))) e2.symm; exact h),.inl (by have h:=congrArg (fun z:Wrk=>some (true,TV.d (D.bool z.rush))) e2.symm; exact h),.inl (by have h:=congrArg (fun z:Wrk=>some (true,TV.d (D.int .i64 z.number))) e2.symm; exact h),.inl rfl,zF _⟩ ⟨.inl (by have h:=congrArg (fun z:Wrk=>some (Res.box b10 59 [TV.d (D.int .i64 z.llo),TV.d (D.int .i64 z.lhi)])) e2.symm; exact h),.inl (by have h:=congrArg (fun z:Wrk=>some (Res.row vv 139 8 (z.out.map prtE))) e2.symm; exact h),zW _⟩ (by simp only; omega)
  have k78:(((refTok tk).kind == 7) || ((refTok tk).kind == 8)) = false:=hb13
  have e2:refW b w (refTok tk) (nmI b tk) = { w with number:=0,out:=w.out ++ [saleP w b (refTok tk)] }:=by (unfold refW; rw [k1,k2,k5,k6,k78]; simp only [cond_true,cond_false])
  have hpr:priceT (refTok tk) = true:=price_of hkd hk8 p0 k1 k2 k5 k6 k78
  have hl7:w.out.length ≠ 8:=fun e=>by rw [hpr,e] at p3; cases p3
  refine Zu (Zt 8 [10] hn rfl (Zb 20 hn rfl fun b20=>Zt 1 [20] hn rfl (Zv (zD (Zu (Zt 1 [] hn rfl (Zv (zG rfl (fun hb14=>?_) (fun hb14=>?_)))))))))
  focus
   have m1:w.rush = true:=hb14
   refine zH (Zt 4 [2] hn rfl (stepW (s_store1 rfl rfl rfl rfl rfl rfl (id:=20) rfl sz3 (Nat.le_of_ble_eq_true rfl) rfl trivial) fun _=>?_))
   refine Zv (zD (Zu (Zt 2 [] hn rfl (Zv (zG rfl (fun hb15=>?_) (fun hb15=>?_))))))
   have m2:decide (0 < w.number) = true:=hb15
   have hsl:saleP w b (refTok tk) = ⟨w.stock,w.number,w.number,(refTok tk).fst,(refTok tk).kind == 4,w.minute,w.llo,w.lhi⟩:=by unfold saleP saleN; rw [m2]; rfl
   refine zH (Zt 5 [20] hn rfl (Zv (zH ?_)))
   rotate_left
   have m2:decide (0 < w.number) = false:=hb15
   have hsl:saleP w b (refTok tk) = ⟨w.stock,1,b.small,(refTok tk).fst,(refTok tk).kind == 4,w.minute,w.llo,w.lhi⟩:=by unfold saleP saleN; rw [m2,m1]; rfl
   refine zJ (zA (zH ?_))
   rotate_left
  rotate_left 2
  focus
   have m1:w.rush = false:=hb14
   refine zJ (zA (zD (Zu (Zt 2 [] hn rfl (Zv (zG rfl (fun hb16=>?_) (fun hb16=>?_)))))))
   have m2:decide (0 < w.number) = true:=hb16
   have hsl:saleP w b (refTok tk) = ⟨w.stock,w.number,w.number,(refTok tk).fst,(refTok tk).kind == 4,w.minute,w.llo,w.lhi⟩:=by unfold saleP saleN; rw [m2]; rfl
   refine zH (Zt 5 [20] hn rfl (Zv (zH ?_)))
   rotate_left
   have m2:decide (0 < w.number) = false:=hb16
   have hsl:saleP w b (refTok tk) = ⟨w.stock,1,1,(refTok tk).fst,(refTok tk).kind == 4,w.minute,w.llo,w.lhi⟩:=by unfold saleP saleN; rw [m2,m1]; rfl
   refine zJ (zA (zH ?_))
   rotate_left
  rotate_left 2
  all_goals
   refine Zt 2 [20] hn rfl (stepW (zP rfl rfl rfl (nb hn rfl) underlying109 sz139 zr139 rfl rfl rfl (show _ = [.d (.int .i64 0),.d (.int .i64 0),.d (.int .i64 0),.d (.int .i64 0),.d (.bool false),.d (.int .i64 0),.d (.int .i64 0),.d (.int .i64 0)] from by kernel_rfl) (by kernel_rfl) rfl (zk (by kernel_rfl) rfl) (zv _) (zq rfl) (zg rfl)) fun _=>?_)
   refine stepW (s_append (id:=6) rfl rfl rfl (nb hn rfl) elt109 trivial rfl rfl rfl (by simp [chunk]; omega) (by simp [chunk]; omega) (fun b hb=>trivial)) fun v141=>?_
   refine Zt 2 [] hn rfl (zQ (zM (zM (zA (zH (Zt 1 [] hn rfl (Zs hn (zh rfl rfl rfl (r:=((i + 1:Nat):Int)) (i64w (by omega) (by omega))) ?_)))))))
   refine Zt 1 [] hn rfl (zQ ?_)
   exact Zr ⟨(i + 1,refW b w (refTok tk) (nmI b tk),v141),by simp only; omega,by simp only; rw [e2]; first | exact h8 | (simp only [List.length_append,List.length_cons,List.length_nil]; omega),by simp only; rw [← hgo,zf ht,refGo,hE0]; rfl⟩ ⟨.inl rfl,.inl (by have h:=congrArg (fun z:Wrk=>some (true,TV.d (D.int .i64 z.stock))) e2.symm; exact h),.inl (by have h:=congrArg (fun z:Wrk=>some (true,TV.d (D.int .i64 z.minute))) e2.symm; exact h),.inl (by have h:=congrArg (fun z:Wrk=>some (true,TV.d (D.bool z.rush))) e2.symm; exact h),.inl (by have h:=congrArg (fun z:Wrk=>some (true,TV.d (D.int .i64 z.number))) e2.symm; exact h),.inl rfl,zF _⟩ ⟨.inl (by have h:=congrArg (fun z:Wrk=>some (Res.box b10 59 [TV.d (D.int .i64 z.llo),TV.d (D.int .i64 z.lhi)])) e2.symm; exact h),.inl (by have h:=congrArg (fun z:Wrk=>some (Res.row v141 139 8 (z.out.map prtE))) e2.symm; exact (congrArg (fun z=>some (Res.row v141 139 8 z)) (sale_row hsl)).trans h),zW _⟩ (by simp only; omega)
 have hie:i = (refToks s).length:=by simp at hb1; omega
 rw [hie,List.drop_length] at hgo
 have g1:((refGo b (refToks s) wrk0).1 != 0) = false:=by rw [← hgo]; rfl
 have g2:(refGo b (refToks s) wrk0).2 = w:=by rw [← hgo]; rfl
 refine zX (zC (zC (zO (zA (zD (Zu (Zt 2 [] hn rfl (Zv (zG rfl (fun hb17=>?_) (fun hb17=>?_))))))))))
 have g3:decide (0 < w.number) = true:=hb17
 have e1:refReadI b s = ([],8):=by unfold refReadI; rw [q0,g1,g2,g3]; rfl
 rw [e1]
 refine Zu (Zt 2 [] hn rfl (Zv (zI (zB ?_))))
 exact ret_E (.inl rfl) () ((zr rfl (.tmp rfl) (.tmp rfl)).le (.tup (.cons (.nil 8) (.refl _)))) trivial
 have g3:decide (0 < w.number) = false:=hb17
 have e1:refReadI b s = (w.out,0):=by unfold refReadI; rw [q0,g1,g2,g3]; rfl
 rw [e1]
 refine zJ (zA (Zu (Zt 3 [] hn rfl (Zv (zI (y2 (g_row (t:=4) (id:=6) rfl rfl) ?_))))))
 exact ret_E (.inl rfl) () (zr rfl (.tmp rfl) (.tmp rfl)) trivial
end Go.Proofs.YticlpkgpmmhemaaGreatDoor
