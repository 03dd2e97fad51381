/-
  A part of the proof that contangolaw.OddFee returns true: what the last text needs, and no more. No condition: no statement of the seat is proved here.
-/
import Derived.Test.YticlpkgpmmhemaaGreatDoorOddFeeO
namespace Go.Proofs.YticlpkgpmmhemaaGreatDoor
open Go.Proofs.Tryz
open Go.RowKit
set_option maxRecDepth 20000
set_option linter.all false
set_option maxHeartbeats 4000000
def lateS:List UInt8:=[64,53,32,65,66,32,51,115,32,56,46,50,32,76,49,45,50,32,64,55,32,56,46,53,32,67,32,48,46,49,32,33,32,64,56,32,48,46,55,32,63]
def latL4:List Prt:=[⟨0,3,3,66,false,5,0,0⟩,⟨0,1,1,69,false,7,1,2⟩,⟨1,1,1,1,false,7,1,2⟩,⟨1,1,4,7,false,8,1,2⟩]
def twoB:Brd:=⟨[⟨[65,66],300,310⟩,⟨[67],75,79⟩],10,4⟩
def thrO:List Ord:=[⟨true,0,10,0,4,5⟩,⟨false,0,20,308,5,5⟩,⟨true,1,30,85,4,6⟩]
def threeD:Dsk:=⟨twoB,lateS,1,thrO⟩
def toldT:Tru:=⟨[306,309,81,87],[5,6,6,7],[5,5,6]⟩
def lateM:List (Int × Int):=[(5,5),(5,6),(5,6),(6,7)]
theorem two_valid:checkT twoB = 0:=by kernel_rfl
theorem zAO:readI twoB lateS = (latL4,0):=by rw [← zCA two_valid]; kernel_rfl
theorem t_prices:(pricesI twoB lateS).2 = 0:=by unfold pricesI; rw [zAO]; kernel_rfl
theorem zAT:minutesI twoB lateS = (lateM,0):=by unfold minutesI; rw [zAO]; kernel_rfl
theorem zGA:deskI threeD = 0:=by unfold deskI; rw [show readI threeD.b threeD.tape = (latL4,0) from zAO]; kernel_rfl
theorem zEn (os:List Int) (h:(os.all fun n=>withinB n 0 ((threeD.orders.length:Int) - 1)) = true):sureO threeD os = 0:=by
  unfold sureO
  rw [zGA,h,show (pricesI threeD.b threeD.tape).2 = 0 from t_prices,show minutesI threeD.b threeD.tape = (lateM,0) from zAT]; rfl
theorem t_sales0:salesI threeD 0 = ([0,1],0):=by
  unfold salesI
  rw [zEn [0] (by kernel_rfl),show readI threeD.b threeD.tape = (latL4,0) from zAO,show minutesI threeD.b threeD.tape = (lateM,0) from zAT]; kernel_rfl
theorem t_bounds:boundsI threeD = ([(307,310),(308,308),(82,82)],0):=by
  unfold boundsI
  rw [zEn [] (by kernel_rfl),show readI threeD.b threeD.tape = (latL4,0) from zAO,show minutesI threeD.b threeD.tape = (lateM,0) from zAT]; kernel_rfl
theorem t_verds:verdsI threeD = ([3,3,3],0):=by
  unfold verdsI
  rw [zEn [] (by kernel_rfl),show readI threeD.b threeD.tape = (latL4,0) from zAO,show minutesI threeD.b threeD.tape = (lateM,0) from zAT]; kernel_rfl
theorem t_truth:truthW threeD (readI threeD.b threeD.tape).1 toldT = true:=by
  unfold truthW
  rw [zD9,show readI threeD.b threeD.tape = (latL4,0) from zAO]; kernel_rfl
theorem zHH:playI threeD toldT = ([(1,310),(1,308),(-1,0)],0):=by
  unfold playI
  rw [zGA,t_truth,show readI threeD.b threeD.tape = (latL4,0) from zAO]; kernel_rfl
theorem t_has:hasI threeD toldT = ([10,0],-3060,0):=by unfold hasI; rw [zHH]; kernel_rfl
theorem t_show {x:Tru × Int} (h:ShowR threeD 0 true x.1 x.2):∃ t,x = (t,0) ∧ (deskI threeD == 0 && truthW threeD (readI threeD.b threeD.tape).1 t) = true:=by
  have hb:(bndI threeD.b (readI threeD.b threeD.tape).1 threeD.fee (threeD.orders.getD (0:Int).toNat ord0) (minutesI threeD.b threeD.tape).1).2 = true:=by
    rw [show readI threeD.b threeD.tape = (latL4,0) from zAO,show minutesI threeD.b threeD.tape = (lateM,0) from zAT]; kernel_rfl
  obtain ⟨t,e⟩:=x
  have he:e = 0:=by
    change ShowR threeD 0 true t e at h
    cases h with
    | bad h1=>exact (h1 (zEn [0] (by kernel_rfl))).elim
    | no _ h2=>rw [hb] at h2; cases h2
    | yes=>rfl
  subst he
  obtain ⟨_,hT,_⟩:=show_yes (d:=threeD) (q:=0) (o:=⟨true,0,10,0,4,5⟩) (high:=true) rfl h
  exact ⟨t,rfl,by rw [zGA,(zAm (by rw [show readI threeD.b threeD.tape = (latL4,0) from zAO])).2 hT]; rfl⟩
theorem yr:NamesOK threeD.b:=fun s hs=>by
  have hs:s ∈ [(⟨[65,66],300,310⟩:Stk),⟨[67],75,79⟩]:=hs
  simp only [List.mem_cons,List.not_mem_nil,or_false] at hs
  rcases hs with rfl | rfl <;> simp
theorem kE :PureAt Tryz.prog 69 [] (dskD threeD):=by
 refine Zp Tryz.func69 rfl fun Γ hn hl=>?_
 refine Zu ?_
 refine Zb 0 hn rfl fun b0=>?_
 refine Zv (Zu ?_)
 refine Zt 4 [] hn rfl ?_
 refine stepW (zL rfl rfl rfl (nb hn rfl) underlying22 sz98 zr98 rfl rfl rfl (show _ = [.d (.str ⟨#[]⟩),.d (.int .i64 0),.d (.int .i64 0),.d (.str ⟨#[]⟩),.d (.int .i64 0),.d (.int .i64 0)] from by kernel_rfl) (by kernel_rfl) rfl rfl rfl rfl rfl) fun _=>?_
 refine Zt 1 [] hn rfl ?_
 refine Zk hn rfl (zC5 twoB (by decide)) ?_
 refine Zk hn rfl (y3 _ _) ?_
 refine Zt 1 [] hn rfl ?_
 refine Zk hn rfl (y3 _ _) ?_
 refine Zt 1 [] hn rfl ?_
 refine Zk hn rfl (y3 _ _) ?_
 refine Zt 1 [] hn rfl ?_
 refine stepW (zL rfl rfl rfl (nb hn rfl) underlying49 sz152 zr152 rfl rfl rfl (show _ = [.d (.bool false),.d (.int .i64 0),.d (.int .i64 0),.d (.int .i64 0),.d (.int .i64 0),.d (.int .i64 0),.d (.bool false),.d (.int .i64 0),.d (.int .i64 0),.d (.int .i64 0),.d (.int .i64 0),.d (.int .i64 0),.d (.bool false),.d (.int .i64 0),.d (.int .i64 0),.d (.int .i64 0),.d (.int .i64 0),.d (.int .i64 0)] from by kernel_rfl) (by kernel_rfl) rfl rfl rfl rfl rfl) fun _=>?_
 refine Zt 2 [0] hn rfl ?_
 refine Zv (zJ ?_)
 exact zY (.inl rfl) hl rfl (.cellA rfl (id:=0) rfl underlying51 rfl sz51 rfl rfl)
theorem zE5 :PureAt Tryz.prog 70 [] (truD toldT):=by
 refine Zp Tryz.func70 rfl fun Γ hn hl=>?_
 refine Zu ?_
 refine Zb 0 hn rfl fun b0=>?_
 refine Zv (Zu ?_)
 refine stepW (zL rfl rfl rfl (nb hn rfl) underlying29 sz3 zr3 rfl rfl rfl (show _ = [.d (.int .i64 0),.d (.int .i64 0),.d (.int .i64 0),.d (.int .i64 0)] from by kernel_rfl) (by kernel_rfl) rfl rfl rfl rfl rfl) fun _=>?_
 refine stepW (zL rfl rfl rfl (nb hn rfl) underlying29 sz3 zr3 rfl rfl rfl (show _ = [.d (.int .i64 0),.d (.int .i64 0),.d (.int .i64 0),.d (.int .i64 0)] from by kernel_rfl) (by kernel_rfl) rfl rfl rfl rfl rfl) fun _=>?_
 refine stepW (zL rfl rfl rfl (nb hn rfl) underlying29 sz3 zr3 rfl rfl rfl (show _ = [.d (.int .i64 0),.d (.int .i64 0),.d (.int .i64 0)] from by kernel_rfl) (by kernel_rfl) rfl rfl rfl rfl rfl) fun _=>?_
 refine Zt 2 [0] hn rfl ?_
 refine Zv (zJ ?_)
 exact zY (.inl rfl) hl rfl (.cellA rfl (id:=0) rfl underlying56 rfl sz56 rfl rfl)
theorem awake4_eff :EffAt Tryz.prog 45 [] [] (X:=Unit) (fun _=>.d (.bool true)) (fun _=>[]):=by
 refine EffAt.of_awp Tryz.func45 rfl (by kernel_rfl) rfl fun Γ hn=>?_
 refine Zu ?_
 refine Zt 1 [] hn rfl ?_
 refine Zv (Zu ?_)
 refine Zk hn rfl (kE) ?_
 refine Zk hn rfl ((by have h:=Sales4_ok threeD yr (by decide) (by decide) 0; rw [t_sales0] at h; exact h)) ?_
 refine Zt 5 [] hn rfl ?_
 refine Zv (Zu ?_)
 refine Zk hn rfl (kE) ?_
 refine Zk hn rfl ((by have h:=Bounds4_ok threeD yr (by decide) (by decide); rw [t_bounds] at h; exact h)) ?_
 refine Zt 5 [] hn rfl ?_
 refine Zv (Zu ?_)
 refine Zk hn rfl (kE) ?_
 refine Zk hn rfl ((by have h:=zAi threeD yr (by decide) (by decide); rw [t_verds] at h; exact h)) ?_
 refine Zt 5 [] hn rfl ?_
 refine Zv (Zu ?_)
 refine Zk hn rfl (kE) ?_
 refine Zk hn rfl (zE5) ?_
 refine Zk hn rfl ((by have h:=zB3 threeD yr (by decide) (by decide) toldT; rw [zHH] at h; exact h)) ?_
 refine Zt 5 [] hn rfl ?_
 refine Zv (Zu ?_)
 refine Zk hn rfl (kE) ?_
 refine Zk hn rfl (zE5) ?_
 refine Zk hn rfl ((by have h:=Has4_ok threeD yr (by decide) (by decide) toldT; rw [t_has] at h; exact h)) ?_
 refine Zt 7 [] hn rfl ?_
 refine Zv (Zu ?_)
 refine Zk hn rfl (kE) ?_
 refine stepW (s_callE (Show4_eff threeD yr (by decide) (by decide) 0 true) rfl rfl rfl (nb hn rfl) (.d rfl) rfl (.refl _) trivial (fun _=>rfl) (fun _ _=>trivial)) fun ⟨xx,hxx⟩=>?_
 obtain ⟨tt,rfl,hpt⟩:=t_show hxx
 refine Zt 3 [] hn rfl ?_
 refine Zb 12 hn rfl fun b12=>?_
 refine Zt 2 [12] hn rfl ?_
 refine Zv (zC ?_)
 refine zh (W:=fun b=>b ≠ b12) fmo ?_
 refine d1q (i:=0) rfl (by as_aux_lemma=>kernel_rfl) (fun _ _ _ _ h=>h) rfl rfl hn rfl (zr rfl rfl) ?_
 refine d1q (i:=1) rfl (by as_aux_lemma=>kernel_rfl) (fun _ _ _ _ h=>h) rfl rfl hn rfl (yS (tv':=.d (.bool true)) (zA5 rfl rfl rfl) rfl) ?_
 refine d1q (i:=2) rfl (by as_aux_lemma=>kernel_rfl) (fun _ _ _ _ h=>h) rfl rfl hn rfl (zr rfl rfl) ?_
 refine d1g (i:=3) [] rfl (by as_aux_lemma=>kernel_rfl) (fun _ _ _ _ h=>h) (zN rfl rfl rfl) rfl hn rfl (fun hc=>trivial) (fun hc=>zr rfl rfl) ?_
 refine zB ?_
 refine y7 (i:=4) (by as_aux_lemma=>kernel_rfl) rfl (zEK (zN rfl rfl rfl) rfl (nb hn rfl) (zL rfl rfl rfl (nb hn rfl) underlying29 sz3 zr3 rfl rfl rfl (show _ = [.d (.int .i64 0),.d (.int .i64 0)] from by kernel_rfl) (by kernel_rfl) rfl rfl rfl rfl rfl)) fun _=>?_
 refine d2_of_d1 (zB ?_)
 refine y7 (i:=5) (by as_aux_lemma=>kernel_rfl) rfl (s_call [(50,_),(51,_)] (fun hc=>zDL [0,1] [0,1]) rfl (zN rfl rfl rfl) rfl (nb hn rfl) (fun hc=>⟨⟨_,rfl,hc⟩,⟨_,rfl,hc⟩,trivial⟩) rfl rfl (.refl _)) fun _=>?_
 refine d2_of_d1 ?_
 refine d1q (i:=6) rfl (by as_aux_lemma=>kernel_rfl) (fun _ _ _ _ h=>h) rfl rfl hn rfl (yS (tv':=.d (.bool true)) (y2 rfl rfl rfl (by intro hB; first | (rw [hB]; rfl) | (rw [hB,hc]; rfl) | simp_all)) rfl) ?_
 refine d1q (i:=7) rfl (by as_aux_lemma=>kernel_rfl) (fun _ _ _ _ h=>h) rfl rfl hn rfl (zr rfl rfl) ?_
 refine d1g (i:=8) [] rfl (by as_aux_lemma=>kernel_rfl) (fun _ _ _ _ h=>h) (zN rfl rfl rfl) rfl hn rfl (fun hc=>trivial) (fun hc=>zr rfl rfl) ?_
 refine d1g (i:=9) [(55,_)] rfl (by as_aux_lemma=>kernel_rfl) (fun _ _ _ _ h=>h) (zN rfl rfl rfl) rfl hn rfl (fun hc=>⟨⟨_,rfl,hc⟩,trivial⟩) (fun hc=>yS (tv':=.d (.bool true)) (zA5 rfl rfl rfl) rfl) ?_
 refine d1q (i:=10) rfl (by as_aux_lemma=>kernel_rfl) (fun _ _ _ _ h=>h) rfl rfl hn rfl (yS (tv':=.d (.bool true)) (y2 rfl rfl rfl (by intro hB; first | (rw [hB]; rfl) | (rw [hB,hc]; rfl) | simp_all)) rfl) ?_
 refine d1q (i:=11) rfl (by as_aux_lemma=>kernel_rfl) (fun _ _ _ _ h=>h) rfl rfl hn rfl (zr rfl rfl) ?_
 refine d1g (i:=12) [] rfl (by as_aux_lemma=>kernel_rfl) (fun _ _ _ _ h=>h) (zN rfl rfl rfl) rfl hn rfl (fun hc=>trivial) (fun hc=>zr rfl rfl) ?_
 refine d1g (i:=13) [(59,_)] rfl (by as_aux_lemma=>kernel_rfl) (fun _ _ _ _ h=>h) (zN rfl rfl rfl) rfl hn rfl (fun hc=>⟨⟨_,rfl,hc⟩,trivial⟩) (fun hc=>zHg rfl rfl underlying46) ?_
 refine d1g (i:=14) [(60,_)] rfl (by as_aux_lemma=>kernel_rfl) (fun _ _ _ _ h=>h) (zN rfl rfl rfl) rfl hn rfl (fun hc=>⟨⟨_,rfl,hc⟩,trivial⟩) (fun hc=>yS (tv':=.d (.bool true)) (zA5 rfl rfl rfl) rfl) ?_
 refine d1q (i:=15) rfl (by as_aux_lemma=>kernel_rfl) (fun _ _ _ _ h=>h) rfl rfl hn rfl (yS (tv':=.d (.bool true)) (y2 rfl rfl rfl (by intro hB; first | (rw [hB]; rfl) | (rw [hB,hc]; rfl) | simp_all)) rfl) ?_
 refine d1q (i:=16) rfl (by as_aux_lemma=>kernel_rfl) (fun _ _ _ _ h=>h) rfl rfl hn rfl (zr rfl rfl) ?_
 refine d1g (i:=17) [] rfl (by as_aux_lemma=>kernel_rfl) (fun _ _ _ _ h=>h) (zN rfl rfl rfl) rfl hn rfl (fun hc=>trivial) (fun hc=>zr rfl rfl) ?_
 refine d1g (i:=18) [(64,_)] rfl (by as_aux_lemma=>kernel_rfl) (fun _ _ _ _ h=>h) (zN rfl rfl rfl) rfl hn rfl (fun hc=>⟨⟨_,rfl,hc⟩,trivial⟩) (fun hc=>q_index (i:=0) rfl rfl rfl underlying46 sz66 rfl rfl) ?_
 refine d1g (i:=19) [(65,_)] rfl (by as_aux_lemma=>kernel_rfl) (fun _ _ _ _ h=>h) (zN rfl rfl rfl) rfl hn rfl (fun hc=>⟨⟨_,rfl,hc⟩,trivial⟩) (fun hc=>yQ rfl rfl underlying66 rfl sz66 rfl rfl seesFA) ?_
 refine zB ?_
 refine y7 (i:=20) (by as_aux_lemma=>kernel_rfl) rfl (s_call [] (fun hc=>y3 _ _) rfl (zN rfl rfl rfl) rfl (nb hn rfl) (fun hc=>trivial) rfl rfl (.refl _)) fun _=>?_
 refine d2_of_d1 ?_
 refine d1g (i:=21) [(66,_),(67,_)] rfl (by as_aux_lemma=>kernel_rfl) (fun _ _ _ _ h=>h) (zN rfl rfl rfl) rfl hn rfl (fun hc=>⟨⟨_,rfl,hc⟩,⟨_,rfl,hc⟩,trivial⟩) (fun hc=>yS (tv':=.d (.bool true)) (zEi rfl rfl rfl) rfl) ?_
 refine d1q (i:=22) rfl (by as_aux_lemma=>kernel_rfl) (fun _ _ _ _ h=>h) rfl rfl hn rfl (yS (tv':=.d (.bool true)) (y2 rfl rfl rfl (by intro hB; first | (rw [hB]; rfl) | (rw [hB,hc]; rfl) | simp_all)) rfl) ?_
 refine d1q (i:=23) rfl (by as_aux_lemma=>kernel_rfl) (fun _ _ _ _ h=>h) rfl rfl hn rfl (zr rfl rfl) ?_
 refine d1g (i:=24) [] rfl (by as_aux_lemma=>kernel_rfl) (fun _ _ _ _ h=>h) (zN rfl rfl rfl) rfl hn rfl (fun hc=>trivial) (fun hc=>zr rfl rfl) ?_
 refine d1g (i:=25) [(71,_)] rfl (by as_aux_lemma=>kernel_rfl) (fun _ _ _ _ h=>h) (zN rfl rfl rfl) rfl hn rfl (fun hc=>⟨⟨_,rfl,hc⟩,trivial⟩) (fun hc=>q_index (i:=1) rfl rfl rfl underlying46 sz66 rfl rfl) ?_
 refine d1g (i:=26) [(72,_)] rfl (by as_aux_lemma=>kernel_rfl) (fun _ _ _ _ h=>h) (zN rfl rfl rfl) rfl hn rfl (fun hc=>⟨⟨_,rfl,hc⟩,trivial⟩) (fun hc=>yQ rfl rfl underlying66 rfl sz66 rfl rfl seesFA) ?_
 refine zB ?_
 refine y7 (i:=27) (by as_aux_lemma=>kernel_rfl) rfl (s_call [] (fun hc=>y3 _ _) rfl (zN rfl rfl rfl) rfl (nb hn rfl) (fun hc=>trivial) rfl rfl (.refl _)) fun _=>?_
 refine d2_of_d1 ?_
 refine d1g (i:=28) [(73,_),(74,_)] rfl (by as_aux_lemma=>kernel_rfl) (fun _ _ _ _ h=>h) (zN rfl rfl rfl) rfl hn rfl (fun hc=>⟨⟨_,rfl,hc⟩,⟨_,rfl,hc⟩,trivial⟩) (fun hc=>yS (tv':=.d (.bool true)) (zEi rfl rfl rfl) rfl) ?_
 refine d1q (i:=29) rfl (by as_aux_lemma=>kernel_rfl) (fun _ _ _ _ h=>h) rfl rfl hn rfl (yS (tv':=.d (.bool true)) (y2 rfl rfl rfl (by intro hB; first | (rw [hB]; rfl) | (rw [hB,hc]; rfl) | simp_all)) rfl) ?_
 refine d1q (i:=30) rfl (by as_aux_lemma=>kernel_rfl) (fun _ _ _ _ h=>h) rfl rfl hn rfl (zr rfl rfl) ?_
 refine d1g (i:=31) [] rfl (by as_aux_lemma=>kernel_rfl) (fun _ _ _ _ h=>h) (zN rfl rfl rfl) rfl hn rfl (fun hc=>trivial) (fun hc=>zr rfl rfl) ?_
 refine d1g (i:=32) [(78,_)] rfl (by as_aux_lemma=>kernel_rfl) (fun _ _ _ _ h=>h) (zN rfl rfl rfl) rfl hn rfl (fun hc=>⟨⟨_,rfl,hc⟩,trivial⟩) (fun hc=>q_index (i:=2) rfl rfl rfl underlying46 sz66 rfl rfl) ?_
 refine d1g (i:=33) [(79,_)] rfl (by as_aux_lemma=>kernel_rfl) (fun _ _ _ _ h=>h) (zN rfl rfl rfl) rfl hn rfl (fun hc=>⟨⟨_,rfl,hc⟩,trivial⟩) (fun hc=>yQ rfl rfl underlying66 rfl sz66 rfl rfl seesFA) ?_
 refine zB ?_
 refine y7 (i:=34) (by as_aux_lemma=>kernel_rfl) rfl (s_call [] (fun hc=>y3 _ _) rfl (zN rfl rfl rfl) rfl (nb hn rfl) (fun hc=>trivial) rfl rfl (.refl _)) fun _=>?_
 refine d2_of_d1 ?_
 refine d1g (i:=35) [(80,_),(81,_)] rfl (by as_aux_lemma=>kernel_rfl) (fun _ _ _ _ h=>h) (zN rfl rfl rfl) rfl hn rfl (fun hc=>⟨⟨_,rfl,hc⟩,⟨_,rfl,hc⟩,trivial⟩) (fun hc=>yS (tv':=.d (.bool true)) (zEi rfl rfl rfl) rfl) ?_
 refine d1q (i:=36) rfl (by as_aux_lemma=>kernel_rfl) (fun _ _ _ _ h=>h) rfl rfl hn rfl (yS (tv':=.d (.bool true)) (y2 rfl rfl rfl (by intro hB; first | (rw [hB]; rfl) | (rw [hB,hc]; rfl) | simp_all)) rfl) ?_
 refine d1q (i:=37) rfl (by as_aux_lemma=>kernel_rfl) (fun _ _ _ _ h=>h) rfl rfl hn rfl (zr rfl rfl) ?_
 refine d1g (i:=38) [] rfl (by as_aux_lemma=>kernel_rfl) (fun _ _ _ _ h=>h) (zN rfl rfl rfl) rfl hn rfl (fun hc=>trivial) (fun hc=>zr rfl rfl) ?_
 refine d1g (i:=39) [(85,_)] rfl (by as_aux_lemma=>kernel_rfl) (fun _ _ _ _ h=>h) (zN rfl rfl rfl) rfl hn rfl (fun hc=>⟨⟨_,rfl,hc⟩,trivial⟩) (fun hc=>yS (tv':=.d (.bool true)) (zA5 rfl rfl rfl) rfl) ?_
 refine d1q (i:=40) rfl (by as_aux_lemma=>kernel_rfl) (fun _ _ _ _ h=>h) rfl rfl hn rfl (yS (tv':=.d (.bool true)) (y2 rfl rfl rfl (by intro hB; first | (rw [hB]; rfl) | (rw [hB,hc]; rfl) | simp_all)) rfl) ?_
 refine d1q (i:=41) rfl (by as_aux_lemma=>kernel_rfl) (fun _ _ _ _ h=>h) rfl rfl hn rfl (zr rfl rfl) ?_
 refine d1g (i:=42) [] rfl (by as_aux_lemma=>kernel_rfl) (fun _ _ _ _ h=>h) (zN rfl rfl rfl) rfl hn rfl (fun hc=>trivial) (fun hc=>zr rfl rfl) ?_
 refine zB ?_
 refine y7 (i:=43) (by as_aux_lemma=>kernel_rfl) rfl (zEK (zN rfl rfl rfl) rfl (nb hn rfl) (zL rfl rfl rfl (nb hn rfl) underlying29 sz3 zr3 rfl rfl rfl (show _ = [.d (.int .i64 0),.d (.int .i64 0),.d (.int .i64 0)] from by kernel_rfl) (by kernel_rfl) rfl rfl rfl rfl rfl)) fun _=>?_
 refine d2_of_d1 (zB ?_)
 refine y7 (i:=44) (by as_aux_lemma=>kernel_rfl) rfl (s_call [(89,_),(90,_)] (fun hc=>zDL [3,3,3] [3,3,3]) rfl (zN rfl rfl rfl) rfl (nb hn rfl) (fun hc=>⟨⟨_,rfl,hc⟩,⟨_,rfl,hc⟩,trivial⟩) rfl rfl (.refl _)) fun _=>?_
 refine d2_of_d1 ?_
 refine d1q (i:=45) rfl (by as_aux_lemma=>kernel_rfl) (fun _ _ _ _ h=>h) rfl rfl hn rfl (yS (tv':=.d (.bool true)) (y2 rfl rfl rfl (by intro hB; first | (rw [hB]; rfl) | (rw [hB,hc]; rfl) | simp_all)) rfl) ?_
 refine d1q (i:=46) rfl (by as_aux_lemma=>kernel_rfl) (fun _ _ _ _ h=>h) rfl rfl hn rfl (zr rfl rfl) ?_
 refine d1g (i:=47) [] rfl (by as_aux_lemma=>kernel_rfl) (fun _ _ _ _ h=>h) (zN rfl rfl rfl) rfl hn rfl (fun hc=>trivial) (fun hc=>zr rfl rfl) ?_
 refine d1g (i:=48) [(94,_)] rfl (by as_aux_lemma=>kernel_rfl) (fun _ _ _ _ h=>h) (zN rfl rfl rfl) rfl hn rfl (fun hc=>⟨⟨_,rfl,hc⟩,trivial⟩) (fun hc=>yS (tv':=.d (.bool true)) (zA5 rfl rfl rfl) rfl) ?_
 refine d1q (i:=49) rfl (by as_aux_lemma=>kernel_rfl) (fun _ _ _ _ h=>h) rfl rfl hn rfl (yS (tv':=.d (.bool true)) (y2 rfl rfl rfl (by intro hB; first | (rw [hB]; rfl) | (rw [hB,hc]; rfl) | simp_all)) rfl) ?_
 refine d1q (i:=50) rfl (by as_aux_lemma=>kernel_rfl) (fun _ _ _ _ h=>h) rfl rfl hn rfl (zr rfl rfl) ?_
 refine d1g (i:=51) [] rfl (by as_aux_lemma=>kernel_rfl) (fun _ _ _ _ h=>h) (zN rfl rfl rfl) rfl hn rfl (fun hc=>trivial) (fun hc=>zr rfl rfl) ?_
 refine d1g (i:=52) [(98,_)] rfl (by as_aux_lemma=>kernel_rfl) (fun _ _ _ _ h=>h) (zN rfl rfl rfl) rfl hn rfl (fun hc=>⟨⟨_,rfl,hc⟩,trivial⟩) (fun hc=>zHg rfl rfl underlying53) ?_
 refine d1g (i:=53) [(99,_)] rfl (by as_aux_lemma=>kernel_rfl) (fun _ _ _ _ h=>h) (zN rfl rfl rfl) rfl hn rfl (fun hc=>⟨⟨_,rfl,hc⟩,trivial⟩) (fun hc=>yS (tv':=.d (.bool true)) (zA5 rfl rfl rfl) rfl) ?_
 refine d1q (i:=54) rfl (by as_aux_lemma=>kernel_rfl) (fun _ _ _ _ h=>h) rfl rfl hn rfl (yS (tv':=.d (.bool true)) (y2 rfl rfl rfl (by intro hB; first | (rw [hB]; rfl) | (rw [hB,hc]; rfl) | simp_all)) rfl) ?_
 refine d1q (i:=55) rfl (by as_aux_lemma=>kernel_rfl) (fun _ _ _ _ h=>h) rfl rfl hn rfl (zr rfl rfl) ?_
 refine d1g (i:=56) [] rfl (by as_aux_lemma=>kernel_rfl) (fun _ _ _ _ h=>h) (zN rfl rfl rfl) rfl hn rfl (fun hc=>trivial) (fun hc=>zr rfl rfl) ?_
 refine d1g (i:=57) [(103,_)] rfl (by as_aux_lemma=>kernel_rfl) (fun _ _ _ _ h=>h) (zN rfl rfl rfl) rfl hn rfl (fun hc=>⟨⟨_,rfl,hc⟩,trivial⟩) (fun hc=>q_index (i:=0) rfl rfl rfl underlying53 sz68 rfl rfl) ?_
 refine d1g (i:=58) [(104,_)] rfl (by as_aux_lemma=>kernel_rfl) (fun _ _ _ _ h=>h) (zN rfl rfl rfl) rfl hn rfl (fun hc=>⟨⟨_,rfl,hc⟩,trivial⟩) (fun hc=>yQ rfl rfl underlying68 rfl sz68 rfl rfl seesFA) ?_
 refine d1g (i:=59) [] rfl (by as_aux_lemma=>kernel_rfl) (fun _ _ _ _ h=>h) (zN rfl rfl rfl) rfl hn rfl (fun hc=>trivial) (fun hc=>yq rfl bt68 rfl rfl rfl rfl rfl) ?_
 refine d1g (i:=60) [(105,_),(106,_)] rfl (by as_aux_lemma=>kernel_rfl) (fun _ _ _ _ h=>h) (zN rfl rfl rfl) rfl hn rfl (fun hc=>⟨⟨_,rfl,hc⟩,⟨_,rfl,hc⟩,trivial⟩) (fun hc=>yS (tv':=.d (.bool true)) (zEd rfl rfl rfl) rfl) ?_
 refine d1q (i:=61) rfl (by as_aux_lemma=>kernel_rfl) (fun _ _ _ _ h=>h) rfl rfl hn rfl (yS (tv':=.d (.bool true)) (y2 rfl rfl rfl (by intro hB; first | (rw [hB]; rfl) | (rw [hB,hc]; rfl) | simp_all)) rfl) ?_
 refine d1q (i:=62) rfl (by as_aux_lemma=>kernel_rfl) (fun _ _ _ _ h=>h) rfl rfl hn rfl (zr rfl rfl) ?_
 refine d1g (i:=63) [] rfl (by as_aux_lemma=>kernel_rfl) (fun _ _ _ _ h=>h) (zN rfl rfl rfl) rfl hn rfl (fun hc=>trivial) (fun hc=>zr rfl rfl) ?_
 refine d1g (i:=64) [(110,_)] rfl (by as_aux_lemma=>kernel_rfl) (fun _ _ _ _ h=>h) (zN rfl rfl rfl) rfl hn rfl (fun hc=>⟨⟨_,rfl,hc⟩,trivial⟩) (fun hc=>q_index (i:=1) rfl rfl rfl underlying53 sz68 rfl rfl) ?_
 refine d1g (i:=65) [(111,_)] rfl (by as_aux_lemma=>kernel_rfl) (fun _ _ _ _ h=>h) (zN rfl rfl rfl) rfl hn rfl (fun hc=>⟨⟨_,rfl,hc⟩,trivial⟩) (fun hc=>yQ rfl rfl underlying68 rfl sz68 rfl rfl seesFA) ?_
 refine d1g (i:=66) [] rfl (by as_aux_lemma=>kernel_rfl) (fun _ _ _ _ h=>h) (zN rfl rfl rfl) rfl hn rfl (fun hc=>trivial) (fun hc=>yq rfl bt68 rfl rfl rfl rfl rfl) ?_
 refine d1g (i:=67) [(112,_),(113,_)] rfl (by as_aux_lemma=>kernel_rfl) (fun _ _ _ _ h=>h) (zN rfl rfl rfl) rfl hn rfl (fun hc=>⟨⟨_,rfl,hc⟩,⟨_,rfl,hc⟩,trivial⟩) (fun hc=>yS (tv':=.d (.bool true)) (zEd rfl rfl rfl) rfl) ?_
 refine d1q (i:=68) rfl (by as_aux_lemma=>kernel_rfl) (fun _ _ _ _ h=>h) rfl rfl hn rfl (yS (tv':=.d (.bool true)) (y2 rfl rfl rfl (by intro hB; first | (rw [hB]; rfl) | (rw [hB,hc]; rfl) | simp_all)) rfl) ?_
 refine d1q (i:=69) rfl (by as_aux_lemma=>kernel_rfl) (fun _ _ _ _ h=>h) rfl rfl hn rfl (zr rfl rfl) ?_
 refine d1g (i:=70) [] rfl (by as_aux_lemma=>kernel_rfl) (fun _ _ _ _ h=>h) (zN rfl rfl rfl) rfl hn rfl (fun hc=>trivial) (fun hc=>zr rfl rfl) ?_
 refine d1g (i:=71) [(117,_)] rfl (by as_aux_lemma=>kernel_rfl) (fun _ _ _ _ h=>h) (zN rfl rfl rfl) rfl hn rfl (fun hc=>⟨⟨_,rfl,hc⟩,trivial⟩) (fun hc=>q_index (i:=2) rfl rfl rfl underlying53 sz68 rfl rfl) ?_
 refine d1g (i:=72) [(118,_)] rfl (by as_aux_lemma=>kernel_rfl) (fun _ _ _ _ h=>h) (zN rfl rfl rfl) rfl hn rfl (fun hc=>⟨⟨_,rfl,hc⟩,trivial⟩) (fun hc=>yQ rfl rfl underlying68 rfl sz68 rfl rfl seesFA) ?_
 refine d1g (i:=73) [] rfl (by as_aux_lemma=>kernel_rfl) (fun _ _ _ _ h=>h) (zN rfl rfl rfl) rfl hn rfl (fun hc=>trivial) (fun hc=>yq rfl bt68 rfl rfl rfl rfl rfl) ?_
 refine d1g (i:=74) [(119,_),(120,_)] rfl (by as_aux_lemma=>kernel_rfl) (fun _ _ _ _ h=>h) (zN rfl rfl rfl) rfl hn rfl (fun hc=>⟨⟨_,rfl,hc⟩,⟨_,rfl,hc⟩,trivial⟩) (fun hc=>yS (tv':=.d (.bool true)) (zEd rfl rfl rfl) rfl) ?_
 refine d1q (i:=75) rfl (by as_aux_lemma=>kernel_rfl) (fun _ _ _ _ h=>h) rfl rfl hn rfl (yS (tv':=.d (.bool true)) (y2 rfl rfl rfl (by intro hB; first | (rw [hB]; rfl) | (rw [hB,hc]; rfl) | simp_all)) rfl) ?_
 refine d1q (i:=76) rfl (by as_aux_lemma=>kernel_rfl) (fun _ _ _ _ h=>h) rfl rfl hn rfl (zr rfl rfl) ?_
 refine d1g (i:=77) [] rfl (by as_aux_lemma=>kernel_rfl) (fun _ _ _ _ h=>h) (zN rfl rfl rfl) rfl hn rfl (fun hc=>trivial) (fun hc=>zr rfl rfl) ?_
 refine d1g (i:=78) [(124,_)] rfl (by as_aux_lemma=>kernel_rfl) (fun _ _ _ _ h=>h) (zN rfl rfl rfl) rfl hn rfl (fun hc=>⟨⟨_,rfl,hc⟩,trivial⟩) (fun hc=>yS (tv':=.d (.bool true)) (zA5 rfl rfl rfl) rfl) ?_
 refine d1q (i:=79) rfl (by as_aux_lemma=>kernel_rfl) (fun _ _ _ _ h=>h) rfl rfl hn rfl (yS (tv':=.d (.bool true)) (y2 rfl rfl rfl (by intro hB; first | (rw [hB]; rfl) | (rw [hB,hc]; rfl) | simp_all)) rfl) ?_
 refine d1q (i:=80) rfl (by as_aux_lemma=>kernel_rfl) (fun _ _ _ _ h=>h) rfl rfl hn rfl (zr rfl rfl) ?_
 refine d1g (i:=81) [] rfl (by as_aux_lemma=>kernel_rfl) (fun _ _ _ _ h=>h) (zN rfl rfl rfl) rfl hn rfl (fun hc=>trivial) (fun hc=>zr rfl rfl) ?_
 refine zB ?_
 refine y7 (i:=82) (by as_aux_lemma=>kernel_rfl) rfl (zEK (zN rfl rfl rfl) rfl (nb hn rfl) (zL rfl rfl rfl (nb hn rfl) underlying29 sz3 zr3 rfl rfl rfl (show _ = [.d (.int .i64 0),.d (.int .i64 0)] from by kernel_rfl) (by kernel_rfl) rfl rfl rfl rfl rfl)) fun _=>?_
 refine d2_of_d1 (zB ?_)
 refine y7 (i:=83) (by as_aux_lemma=>kernel_rfl) rfl (s_call [(128,_),(129,_)] (fun hc=>zDL [10,0] [10,0]) rfl (zN rfl rfl rfl) rfl (nb hn rfl) (fun hc=>⟨⟨_,rfl,hc⟩,⟨_,rfl,hc⟩,trivial⟩) rfl rfl (.refl _)) fun _=>?_
 refine d2_of_d1 ?_
 refine d1q (i:=84) rfl (by as_aux_lemma=>kernel_rfl) (fun _ _ _ _ h=>h) rfl rfl hn rfl (yS (tv':=.d (.bool true)) (y2 rfl rfl rfl (by intro hB; first | (rw [hB]; rfl) | (rw [hB,hc]; rfl) | simp_all)) rfl) ?_
 refine d1q (i:=85) rfl (by as_aux_lemma=>kernel_rfl) (fun _ _ _ _ h=>h) rfl rfl hn rfl (zr rfl rfl) ?_
 refine d1g (i:=86) [] rfl (by as_aux_lemma=>kernel_rfl) (fun _ _ _ _ h=>h) (zN rfl rfl rfl) rfl hn rfl (fun hc=>trivial) (fun hc=>zr rfl rfl) ?_
 refine d1g (i:=87) [(133,_)] rfl (by as_aux_lemma=>kernel_rfl) (fun _ _ _ _ h=>h) (zN rfl rfl rfl) rfl hn rfl (fun hc=>⟨⟨_,rfl,hc⟩,trivial⟩) (fun hc=>yS (tv':=.d (.bool true)) (zA5 rfl rfl rfl) rfl) ?_
 refine d1q (i:=88) rfl (by as_aux_lemma=>kernel_rfl) (fun _ _ _ _ h=>h) rfl rfl hn rfl (yS (tv':=.d (.bool true)) (y2 rfl rfl rfl (by intro hB; first | (rw [hB]; rfl) | (rw [hB,hc]; rfl) | simp_all)) rfl) ?_
 refine d1q (i:=89) rfl (by as_aux_lemma=>kernel_rfl) (fun _ _ _ _ h=>h) rfl rfl hn rfl (zr rfl rfl) ?_
 refine d1g (i:=90) [] rfl (by as_aux_lemma=>kernel_rfl) (fun _ _ _ _ h=>h) (zN rfl rfl rfl) rfl hn rfl (fun hc=>trivial) (fun hc=>zr rfl rfl) ?_
 refine d1g (i:=91) [(137,_)] rfl (by as_aux_lemma=>kernel_rfl) (fun _ _ _ _ h=>h) (zN rfl rfl rfl) rfl hn rfl (fun hc=>⟨⟨_,rfl,hc⟩,trivial⟩) (fun hc=>yS (tv':=.d (.bool true)) (zA5 rfl rfl rfl) rfl) ?_
 refine d1q (i:=92) rfl (by as_aux_lemma=>kernel_rfl) (fun _ _ _ _ h=>h) rfl rfl hn rfl (yS (tv':=.d (.bool true)) (y2 rfl rfl rfl (by intro hB; first | (rw [hB]; rfl) | (rw [hB,hc]; rfl) | simp_all)) rfl) ?_
 refine d1q (i:=93) rfl (by as_aux_lemma=>kernel_rfl) (fun _ _ _ _ h=>h) rfl rfl hn rfl (zr rfl rfl) ?_
 refine d1g (i:=95) [] rfl (by as_aux_lemma=>kernel_rfl) (fun _ _ _ _ h=>h) (zN rfl rfl rfl) rfl hn rfl (fun hc=>trivial) (fun hc=>zn rfl rfl (id:=12) rfl underlying56 rfl sz56 rfl rfl (seesA (by simp))) ?_
 refine zB ?_
 refine y7 (i:=94) (by as_aux_lemma=>kernel_rfl) rfl (s_call [] (fun hc=>kE) rfl (zN rfl rfl rfl) rfl (nb hn rfl) (fun hc=>trivial) rfl rfl (.refl _)) fun _=>?_
 refine d2_of_d1 (zB ?_)
 refine y7 (i:=96) (by as_aux_lemma=>kernel_rfl) rfl (s_call [(141,_),(142,_)] (fun hc=>(by have h:=Prove4_ok threeD yr (by decide) (by decide) tt; rw [hpt] at h; exact h)) rfl (zN rfl rfl rfl) rfl (nb hn rfl) (fun hc=>⟨⟨_,rfl,hc⟩,⟨_,rfl,hc⟩,trivial⟩) rfl rfl (.refl _)) fun _=>?_
 refine d2_of_d1 ?_
 refine d1q (i:=97) rfl (by as_aux_lemma=>kernel_rfl) (fun _ _ _ _ h=>h) rfl rfl hn rfl (yS (tv':=.d (.bool true)) (y2 rfl rfl rfl (by intro hB; first | (rw [hB]; rfl) | (rw [hB,hc]; rfl) | simp_all)) rfl) ?_
 refine d1q (i:=98) rfl (by as_aux_lemma=>kernel_rfl) (fun _ _ _ _ h=>h) rfl rfl hn rfl (zBg rfl rfl) ?_
 refine zB ?_
 refine ze (by as_aux_lemma=>kernel_rfl) ?_
 refine zA (zJ ?_)
 exact ret_E (.inl rfl) () ((zx rfl (.tmp rfl)).eq (by rfl)) trivial
theorem zDl:PureAt Tryz.prog 45 [] (.bool true):=PureAt.of_eff (ds:=[]) awake4_eff
end Go.Proofs.YticlpkgpmmhemaaGreatDoor
namespace Go.Proofs.YticlpkgpmmhemaaGreatDoor
open Go.RowKit
set_option linter.all false
set_option maxHeartbeats 4000000
def salP (s:Sal):Prt:=⟨s.stock,s.number,s.number,s.price,true,s.minute,0,0⟩
def lastMin:List Sal → Int → Int
  | [],bm=>bm
  | s :: r,_=>lastMin r s.minute
theorem zD5 {b:Brd} {s:Sal}:∀ {l:List Sal} {bm:Int},okAll b (l ++ [s]) bm = (okAll b l bm && okSal b s (lastMin l bm))
  | [],bm=>by simp [okAll,lastMin]
  | x :: l,bm=>by show (okSal b x bm && okAll b (l ++ [s]) x.minute) = _; rw [zD5]; simp only [okAll,lastMin,Bool.and_assoc]
theorem zCb {s:Sal}:∀ {l:List Sal} {bm:Int},lastMin (l ++ [s]) bm = s.minute
  | [],_=>rfl
  | x :: l,bm=>zCb (l:=l)
theorem zCI {l r:List Prt} {st:Int}:∀ {i:Nat},i ≤ l.length → aheadGo (l ++ r) st i = aheadGo l st i
  | 0,_=>rfl
  | i + 1,h=>by
    unfold aheadGo
    rw [zCI (by omega),List.getD_eq_getElem?_getD,List.getElem?_append_left (by omega),← List.getD_eq_getElem?_getD]
theorem zCc {l l':List Prt} {st:Int}:∀ {i:Nat},(∀ j,j < i → (l.getD j prt0).stock = (l'.getD j prt0).stock) → aheadGo l st i = aheadGo l' st i
  | 0,_=>rfl
  | i + 1,h=>by unfold aheadGo; rw [h i (by omega),zCc fun j hj=>h j (by omega)]
theorem steps_stock {b:Brd} {l l':List Prt} {j:Nat} {f:Nat → Int} (h:∀ k,k ≤ j → (l.getD k prt0).stock = (l'.getD k prt0).stock):stepsF b l j f = stepsF b l' j f:=by
  unfold stepsF aheadI
  rw [h j (Nat.le_refl _),zCc fun k hk=>h k (by omega)]
theorem zBk {α:Type} {l r:List α} {d:α} {j:Nat} (h:j < l.length):(l ++ r).getD j d = l.getD j d:=by
  rw [List.getD_eq_getElem?_getD,List.getElem?_append_left h,← List.getD_eq_getElem?_getD]
theorem zC1 {α:Type} {l:List α} {x d:α}:(l ++ [x]).getD l.length d = x:=by simp
/-- Prices keep the Jump. -/
def JumpOK (b:Brd) (l:List Sal):Prop:=∀ j,j < l.length → stepsF b (l.map salP) j (fun k=>(l.getD k sal0).price) = true
structure SoldI (b:Brd) (x:SoS):Prop where
  ok:okAll b x.out 0 = true
  last:lastMin x.out 0 = (x.minute:Nat)
  jump:JumpOK b x.out
  now:∀ k:Nat,k < b.stocks.length → (aheadGo (x.out.map salP) (k:Int) x.out.length < 0 ∧ (b.stocks.getD k stk0).lo ≤ x.now.getD k 0 ∧ x.now.getD k 0 ≤ (b.stocks.getD k stk0).hi) ∨ ∃ a:Nat,aheadGo (x.out.map salP) (k:Int) x.out.length = (a:Nat) ∧ x.now.getD k 0 = (x.out.getD a sal0).price
theorem zFH {b:Brd} {ws:List Int} (v:BrdOK b) (hw:WdsOK ws):∀ i,SoldI b (soldN b ws i)
  | 0=>by
    refine ⟨rfl,rfl,fun j hj=>by simp [soldN] at hj,fun k hk=>.inl ⟨?_,?_⟩⟩
    · show aheadGo [] (k:Int) 0 < 0; unfold aheadGo; omega
    · have:=zF3 (ws:=ws) v hk
      have e:(soldN b ws 0).now.getD k 0 = st0 b ws k:=by
        show (now0 b ws b.stocks.length).getD k 0 = _
        unfold now0
        rw [Nat.sub_self]
        simp only [List.replicate_zero,List.append_nil]
        exact zQ (by rw [List.getElem?_map,List.getElem?_range hk]; rfl)
      rw [e]; exact ⟨this.1,this.2.1⟩
  | i + 1=>by
    have ih:=zFH v hw i
    have ho:=zCw (ws:=ws) v i
    have hkl:=zHa (ws:=ws) v i
    have hj0:=v.j0
    have hj4:=v.j4
    obtain ⟨pn,hpn⟩:=zT (show soK b ws i < (soldN b ws i).now.length by rw [ho.n]; exact hkl)
    have hpb:=ho.p pn (List.mem_of_getElem? hpn)
    have hmm:=ho.m
    have hpd:(soldN b ws i).now.getD (soK b ws i) 0 = pn:=zQ hpn
    have hpe:soP b ws i (soldN b ws i).now = max 1 (min 799 (pn + (wrd ws (2 * i + 7):Int).tmod (2 * b.jump + 1) - b.jump)):=by unfold soP; rw [hpd]
    have htm:0 ≤ (wrd ws (2 * i + 7):Int).tmod (2 * b.jump + 1) ∧ (wrd ws (2 * i + 7):Int).tmod (2 * b.jump + 1) ≤ 2 * b.jump:=by
      rw [Int.tmod_eq_emod_of_nonneg (by omega)]
      have h1:=Int.emod_nonneg ((wrd ws (2 * i + 7):Nat):Int) (show 2 * b.jump + 1 ≠ 0 by omega)
      have h2:=Int.emod_lt_of_pos ((wrd ws (2 * i + 7):Nat):Int) (show 0 < 2 * b.jump + 1 by omega)
      omega
    generalize hK:soK b ws i = K at *
    generalize hP:soP b ws i (soldN b ws i).now = P at *
    have hP1:1 ≤ P ∧ P ≤ 799 ∧ P - pn ≤ b.jump ∧ pn - P ≤ b.jump:=by rw [hpe]; omega
    have hN:soN ws i = 1 ∨ ∃ n:Nat,soN ws i = n ∧ 1 ≤ n ∧ n ≤ 99:=by
      unfold soN
      cases wrd ws (2 * i + 6) % 4 == 0
      · left; rfl
      · right
        have:=Nat.mod_lt (wrd ws (2 * i + 6) / 64) (show 0 < 99 by omega)
        exact ⟨_,rfl,by omega,by omega⟩
    have hM:(soM ws i (soldN b ws i).minute) ≤ 600 ∧ (soldN b ws i).minute ≤ soM ws i (soldN b ws i).minute:=by unfold soM; omega
    have eS:soldN b ws (i + 1) = ⟨(soldN b ws i).now.set K P,soM ws i (soldN b ws i).minute,(soldN b ws i).out ++ [⟨(K:Nat),soN ws i,P,(soM ws i (soldN b ws i).minute:Nat)⟩]⟩:=by rw [← hK,← hP]; rfl
    rw [eS]
    generalize hX:soldN b ws i = X at *
    generalize hS:(⟨(K:Nat),soN ws i,P,(soM ws i X.minute:Nat)⟩:Sal) = S
    have hSs:S.stock = (K:Nat):=by rw [← hS]
    have hSp:S.price = P:=by rw [← hS]
    have hSm:S.minute = (soM ws i X.minute:Nat):=by rw [← hS]
    have hSn:1 ≤ S.number ∧ S.number ≤ 99:=by
      rw [← hS]; rcases hN with h | ⟨n,h,h1,h2⟩
      · show 1 ≤ soN ws i ∧ soN ws i ≤ 99; omega
      · show 1 ≤ soN ws i ∧ soN ws i ≤ 99; omega
    have hmap:(X.out ++ [S]).map salP = X.out.map salP ++ [salP S]:=by simp
    have hlen:(X.out.map salP).length = X.out.length:=List.length_map _
    refine ⟨?_,?_,?_,?_⟩
    · show okAll b (X.out ++ [S]) 0 = true
      rw [zD5,ih.ok,ih.last,Bool.true_and]
      exact kl.2 ⟨by omega,hSn,by omega,by omega⟩
    · show lastMin (X.out ++ [S]) 0 = _
      rw [zCb,hSm]
    · intro j hj
      simp only [List.length_append,List.length_cons,List.length_nil] at hj
      dsimp only
      by_cases e:j = X.out.length
      · subst e
        unfold stepsF aheadI
        rw [hmap,show ((X.out.map salP) ++ [salP S]).getD X.out.length prt0 = salP S by rw [← hlen]; exact zC1,zCI (by rw [hlen]; exact Nat.le_refl _)]
        dsimp only
        rw [zC1]
        show (bif decide (0 ≤ aheadGo (X.out.map salP) S.stock X.out.length) then nearB S.price ((X.out ++ [S]).getD (aheadGo (X.out.map salP) S.stock X.out.length).toNat sal0).price b.jump else withinB S.price ((b.stocks.getD S.stock.toNat stk0).lo - b.jump) ((b.stocks.getD S.stock.toNat stk0).hi + b.jump)) = true
        rw [hSs,hSp,Int.toNat_natCast]
        rcases ih.now K hkl with ⟨h1,h2,h3⟩ | ⟨a,h1,h2⟩
        · rw [decide_eq_false (by omega),cond_false]
          exact zk.2 (by omega)
        · rw [h1,decide_eq_true (by omega),cond_true,Int.toNat_natCast]
          have ha:=(yF.1 h1).1
          rw [zBk ha,← h2,hpd]
          exact zFf.2 (by omega)
      · have hj2:j < X.out.length:=by omega
        have h0:=ih.jump j hj2
        rw [← h0]
        have e1:stepsF b ((X.out ++ [S]).map salP) j (fun k=>((X.out ++ [S]).getD k sal0).price) = stepsF b (X.out.map salP) j (fun k=>((X.out ++ [S]).getD k sal0).price):=steps_stock fun k hk=>by
          rw [hmap,zBk (by rw [hlen]; omega)]
        rw [e1]
        refine zCC (by (try dsimp only); rw [zBk hj2]) fun k hk=>?_
        have hk:aheadGo (X.out.map salP) ((X.out.map salP).getD j prt0).stock j = (k:Nat):=hk
        have:=(yF.1 hk).1
        (try dsimp only)
        rw [zBk (by omega)]
    · intro k hk
      dsimp only
      rw [hmap,List.length_append,List.length_cons,List.length_nil,show X.out.length + (0 + 1) = X.out.length + 1 by omega]
      unfold aheadGo
      rw [show ((X.out.map salP) ++ [salP S]).getD X.out.length prt0 = salP S by rw [← hlen]; exact zC1,zCI (by rw [hlen]; exact Nat.le_refl _)]
      show ((bif S.stock == (k:Int) then ((X.out.length:Nat):Int) else _) < 0 ∧ _) ∨ ∃ a:Nat,(bif S.stock == (k:Int) then ((X.out.length:Nat):Int) else _) = (a:Nat) ∧ _
      rw [hSs]
      by_cases e:K = k
      · subst e
        rw [show (((K:Nat):Int) == (K:Int)) = true by simp,cond_true]
        refine .inr ⟨X.out.length,rfl,?_⟩
        rw [zC1,hSp]
        exact zQ (by rw [List.getElem?_set,if_pos rfl,if_pos (by rw [ho.n]; exact hkl)])
      · rw [show (((K:Nat):Int) == (k:Int)) = false by simp; omega,cond_false]
        have e2:(X.now.set K P).getD k 0 = X.now.getD k 0:=by rw [List.getD_eq_getElem?_getD,List.getElem?_set,if_neg e,← List.getD_eq_getElem?_getD]
        rw [e2]
        rcases ih.now k hk with h | ⟨a,h1,h2⟩
        · exact .inl h
        · exact .inr ⟨a,h1,by rw [zBk (yF.1 h1).1]; exact h2⟩
/-- What is so of sales that are chosen by words. -/
structure SoldOK (b:Brd) (l:List Sal):Prop where
  ok:okAll b l 0 = true
  l7:l.length ≤ 7
  jump:JumpOK b l
theorem zDG {b:Brd} {ws:List Int} (v:BrdOK b) (hw:WdsOK ws):SoldOK b (soldL b ws):=by
  have h:=zFH v hw (wrd ws 5 % 8)
  exact ⟨h.ok,by unfold soldL; rw [(zCw v _).o]; have:=Nat.mod_lt (wrd ws 5) (show 0 < 8 by omega); omega,h.jump⟩
def nnOf (b:Brd) (c rush:Bool) (s:Sal):Int × Int:=bif c then (s.number,s.number) else bif rush then (1,b.small) else (1,1)
def figW:Wd → Int × Bool
  | .sh x=>((x:Nat),false)
  | .lo p=>((p:Nat),true)
  | _=>(0,false)
def PriceW (b:Brd):Wd → Prop
  | .sh x=>x < 80
  | .lo p=>1 ≤ p ∧ p ≤ 799
  | _=>False
def prtOf (b:Brd) (w:Wrk) (s:Sal) (M:Nat) (c3:Bool) (P:Wd):Prt:=⟨s.stock,(nnOf b c3 w.rush s).1,(nnOf b c3 w.rush s).2,(figW P).1,(figW P).2,(M:Nat),w.llo,w.lhi⟩
theorem zCv {b:Brd} {c:Bool} {x:Wd} {w:Wrk} (h:c = true → x.ok b ∧ x.can w):CanAll b (optW c x) w:=by
  cases c
  · trivial
  · exact ⟨(h rfl).1,(h rfl).2,trivial⟩
theorem sale_run {b : Brd} {w : Wrk} {s : Sal} {bm : Int} {c1 c3 : Bool} {M : Nat} {P : Wd} {R : List Wd} (hs : okSal b s bm = true) (h1 : c1 = false → w.minute = (M : Nat)) (h2 : c1 = true → w.minute ≤ (M : Nat) ∧ M ≤ 600) (hn : w.number ≤ 0) (h8 : w.out.length ≠ 8) (h3 : c3 = true → 1 < s.number) (hP : PriceW b P)
    (hR:CanAll b R { w with minute:=(M:Nat),stock:=s.stock,number:=0,out:=w.out ++ [prtOf b w s M c3 P] }) :
    CanAll b (optW c1 (.mi M) ++ (optW (s.stock != w.stock) (.na s.stock.toNat) ++ (optW c3 (.nu s.number.toNat) ++ P :: R))) w ∧ runAll b (optW c1 (.mi M) ++ (optW (s.stock != w.stock) (.na s.stock.toNat) ++ (optW c3 (.nu s.number.toNat) ++ P :: R))) w = runAll b R { w with minute:=(M:Nat),stock:=s.stock,number:=0,out:=w.out ++ [prtOf b w s M c3 P] }:=by
  obtain ⟨k1,k2,k3,k4⟩:=kl.1 hs
  have s1:runAll b (optW c1 (.mi M)) w = { w with minute:=(M:Nat) }:=by
    cases c1
    · rw [← h1 rfl]; rfl
    · rfl
  have s2:runAll b (optW (s.stock != w.stock) (.na s.stock.toNat)) { w with minute:=(M:Nat) } = { w with minute:=(M:Nat),stock:=s.stock }:=by
    by_cases e:s.stock = w.stock
    · rw [show (s.stock != w.stock) = false by simpa using e,e]; rfl
    · rw [show (s.stock != w.stock) = true by simpa using e]
      show ({ w with minute:=(M:Nat),stock:=((s.stock.toNat:Nat):Int) }:Wrk) = _
      rw [show ((s.stock.toNat:Nat):Int) = s.stock by omega]
  obtain ⟨wn,s3,hwn⟩:∃ wn:Int,runAll b (optW c3 (.nu s.number.toNat)) { w with minute:=(M:Nat),stock:=s.stock } = { w with minute:=(M:Nat),stock:=s.stock,number:=wn } ∧ saleN { w with minute:=(M:Nat),stock:=s.stock,number:=wn } b = nnOf b c3 w.rush s:=by
    cases c3
    · refine ⟨w.number,rfl,?_⟩
      unfold saleN nnOf
      rw [decide_eq_false (by dsimp only; omega)]; rfl
    · refine ⟨s.number,?_,?_⟩
      · show ({ w with minute:=(M:Nat),stock:=s.stock,number:=((s.number.toNat:Nat):Int) }:Wrk) = _
        rw [show ((s.number.toNat:Nat):Int) = s.number by omega]
      · unfold saleN nnOf
        rw [decide_eq_true (by have:=h3 rfl; dsimp only; omega)]
  have s4:P.run b { w with minute:=(M:Nat),stock:=s.stock,number:=wn } = { w with minute:=(M:Nat),stock:=s.stock,number:=0,out:=w.out ++ [prtOf b w s M c3 P] } ∧ P.ok b ∧ P.can { w with minute:=(M:Nat),stock:=s.stock,number:=wn }:=by
    cases P with
    | sh x =>
      refine ⟨?_,hP,show 0 ≤ s.stock ∧ w.out.length ≠ 8 from ⟨k1.1,h8⟩⟩
      show ({ w with minute:=(M:Nat),stock:=s.stock,number:=0,out:=w.out ++ [⟨s.stock,(saleN { w with minute:=(M:Nat),stock:=s.stock,number:=wn } b).1,(saleN { w with minute:=(M:Nat),stock:=s.stock,number:=wn } b).2,((x:Nat):Int),false,(M:Nat),w.llo,w.lhi⟩] }:Wrk) = _
      rw [hwn]; rfl
    | lo x =>
      refine ⟨?_,hP,show 0 ≤ s.stock ∧ w.out.length ≠ 8 from ⟨k1.1,h8⟩⟩
      show ({ w with minute:=(M:Nat),stock:=s.stock,number:=0,out:=w.out ++ [⟨s.stock,(saleN { w with minute:=(M:Nat),stock:=s.stock,number:=wn } b).1,(saleN { w with minute:=(M:Nat),stock:=s.stock,number:=wn } b).2,((x:Nat):Int),true,(M:Nat),w.llo,w.lhi⟩] }:Wrk) = _
      rw [hwn]; rfl
    | mi _=>exact hP.elim
    | na _=>exact hP.elim
    | nu _=>exact hP.elim
    | la _ _=>exact hP.elim
    | ru=>exact hP.elim
  constructor
  · refine CanAll.app (zCv fun hc=>⟨(h2 hc).2,hn,(h2 hc).1⟩) ?_
    rw [s1]
    refine CanAll.app (zCv fun hc=>⟨show s.stock.toNat < b.stocks.length by omega,show w.number ≤ 0 from hn⟩) ?_
    rw [s2]
    refine CanAll.app (zCv fun hc=>⟨show 1 ≤ s.number.toNat ∧ s.number.toNat ≤ 99 by omega,show w.number ≤ 0 from hn⟩) ?_
    rw [s3]
    refine ⟨s4.2.1,s4.2.2,?_⟩
    rw [s4.1]; exact hR
  · rw [zAG,s1,zAG,s2,zAG,s3,runAll,s4.1]
/-- The sales that are read of the tape of sales. -/
def prL (b:Brd) (ws:List Int):List Sal → Nat → Nat → List Prt
  | [],_,_=>[]
  | s :: r,i,m=>⟨s.stock,(nnOf b (prNu b ws i s) (prRush ws) s).1,(nnOf b (prNu b ws i s) (prRush ws) s).2,(figW (prPr ws i s)).1,(figW (prPr ws i s)).2,(prM ws i m s:Nat),(prLate ws:Nat),((prLate ws + prWide ws:Nat):Int)⟩ :: prL b ws r (i + 1) (prM ws i m s)
theorem prP_price {b:Brd} {ws:List Int} {i:Nat} {s:Sal} (h:1 ≤ s.price ∧ s.price ≤ 799):PriceW b (prPr ws i s):=by
  unfold prPr
  cases wrd ws (i + 1) / 8 % 4 == 0
  · show s.price.toNat % 80 < 80; omega
  · show 1 ≤ s.price.toNat ∧ s.price.toNat ≤ 799; omega
theorem zHL {b : Brd} {ws : List Int} : ∀ {l : List Sal} {i m : Nat} {w : Wrk} {bm : Int}, okAll b l bm = true → w.minute = (m : Nat) → m ≤ 600 → w.number ≤ 0 → w.out.length + l.length ≤ 8 → w.rush = prRush ws → w.llo = (prLate ws : Nat) → w.lhi = ((prLate ws + prWide ws : Nat) : Int) →
    CanAll b (prW b ws l i m w.stock) w ∧ (runAll b (prW b ws l i m w.stock) w).out = w.out ++ prL b ws l i m ∧ (runAll b (prW b ws l i m w.stock) w).number ≤ 0
  | [],i,m,w,bm,_,_,_,hn,_,_,_,_=>⟨trivial,by simp [prW,prL,runAll],hn⟩
  | s :: r,i,m,w,bm,hok,hm,hm6,hn,h8,hr,hl1,hl2=>by
    unfold okAll at hok
    rw [Bool.and_eq_true] at hok
    obtain ⟨k1,k2,k3,k4⟩:=kl.1 hok.1
    simp only [List.length_cons] at h8
    have hp:=zEP (ws:=ws) (i:=i) (s:=s) hm6
    have ih:=zHL (b:=b) (ws:=ws) (l:=r) (i:=i + 1) (m:=prM ws i m s) (w:={ w with minute:=((prM ws i m s:Nat):Int),stock:=s.stock,number:=0,out:=w.out ++ [prtOf b w s (prM ws i m s) (prNu b ws i s) (prPr ws i s)] }) hok.2 rfl hp.1 (by dsimp only; omega) (by simp only [List.length_append,List.length_cons,List.length_nil]; omega) hr hl1 hl2
    have hs:=sale_run (b:=b) (w:=w) (c1:=prM ws i m s != m || i == 0) (c3:=prNu b ws i s) (M:=prM ws i m s) (P:=prPr ws i s) hok.1 (fun h=>by
      simp only [Bool.or_eq_false_iff,bne_eq_false_iff_eq] at h; rw [hm,h.1]) (fun _=>⟨by rw [hm]; omega,hp.1⟩) hn (by omega) (fun h=>by
      unfold prNu at h; simp only [Bool.and_eq_true,decide_eq_true_eq] at h; exact h.1) (prP_price k3) ih.1
    rw [prW]
    refine ⟨hs.1,?_,?_⟩
    · rw [hs.2,ih.2.1]
      show (w.out ++ [_]) ++ _ = w.out ++ prL b ws (s :: r) i m
      rw [prL,List.append_assoc]
      unfold prtOf
      rw [hr,hl1,hl2]; rfl
    · rw [hs.2]; exact ih.2.2
theorem la_step {b:Brd} {a c:Nat} (h:a ≤ c ∧ c ≤ 60) {R:List Wd} (hR:CanAll b R { wrk0 with llo:=(a:Nat),lhi:=(c:Nat) }):CanAll b (.la a c :: R) wrk0 ∧ runAll b (.la a c :: R) wrk0 = runAll b R { wrk0 with llo:=(a:Nat),lhi:=(c:Nat) }:=⟨⟨h,show wrk0.number ≤ 0 by decide,hR⟩,rfl⟩
theorem printed_read {b:Brd} {ws:List Int} {l:List Sal} (h:checkT b = 0) (hl:l.length ≤ 8) (hok:okAll b l 0 = true) (hlen:(prS b ws l).length ≤ 160):readI b (prS b ws l) = (prL b ws l 0 0,0):=by
  have hl6:=Nat.mod_lt (wrd ws 0) (show 0 < 6 by omega)
  have hw6:=Nat.mod_lt (wrd ws 0 / 8) (show 0 < 6 by omega)
  have e0:CanAll b (.la (prLate ws) (prLate ws + prWide ws) :: prT b ws l) wrk0 ∧ (runAll b (.la (prLate ws) (prLate ws + prWide ws) :: prT b ws l) wrk0).out = prL b ws l 0 0 ∧ (runAll b (.la (prLate ws) (prLate ws + prWide ws) :: prT b ws l) wrk0).number ≤ 0:=by
    have hr:=zHL (b:=b) (ws:=ws) (l:=l) (i:=0) (m:=0) (w:={ wrk0 with llo:=((prLate ws:Nat):Int),lhi:=((prLate ws + prWide ws:Nat):Int),rush:=prRush ws }) hok rfl (by omega) (show (0:Int) ≤ 0 by omega) (by simpa [wrk0] using hl) rfl rfl rfl
    have hru:CanAll b (prT b ws l) { wrk0 with llo:=((prLate ws:Nat):Int),lhi:=((prLate ws + prWide ws:Nat):Int) } ∧ runAll b (prT b ws l) { wrk0 with llo:=((prLate ws:Nat):Int),lhi:=((prLate ws + prWide ws:Nat):Int) } = runAll b (prW b ws l 0 0 (-1)) { wrk0 with llo:=((prLate ws:Nat):Int),lhi:=((prLate ws + prWide ws:Nat):Int),rush:=prRush ws }:=by
      unfold prT
      have es:runAll b (optW (prRush ws) .ru) { wrk0 with llo:=((prLate ws:Nat):Int),lhi:=((prLate ws + prWide ws:Nat):Int) } = { wrk0 with llo:=((prLate ws:Nat):Int),lhi:=((prLate ws + prWide ws:Nat):Int),rush:=prRush ws }:=by cases prRush ws <;> rfl
      refine ⟨CanAll.app (zCv fun _=>⟨trivial,show wrk0.number ≤ 0 ∧ wrk0.rush = false from ⟨by decide,rfl⟩⟩) ?_,by rw [zAG,es]⟩
      rw [es]; exact hr.1
    have hla:=la_step (b:=b) (a:=prLate ws) (c:=prLate ws + prWide ws) (by unfold prLate prWide; omega) hru.1
    refine ⟨hla.1,?_,?_⟩
    · rw [hla.2,hru.2]; exact hr.2.1
    · rw [hla.2,hru.2]; exact hr.2.2
  have:=read_words h e0.1 hlen
  rw [decide_eq_false (by omega),cond_false,e0.2.1] at this
  exact this
/-- Prints say sales, as far as they do. -/
structure PrSays (ps:List Prt) (l:List Sal):Prop where
  len:ps.length = l.length
  st:∀ j,j < l.length → (ps.getD j prt0).stock = (l.getD j sal0).stock
  fit:∀ j,j < l.length → refFits (ps.getD j prt0) j (l.getD j sal0).price 0 = true
  num:∀ j,j < l.length → (ps.getD j prt0).nlo ≤ (l.getD j sal0).number ∧ (l.getD j sal0).number ≤ (ps.getD j prt0).nhi
theorem fits_pr {p:Prt} {i j:Nat} {x:Int}:refFits p i x 0 = refFits p j x 0:=by unfold refFits; rw [Nat.zero_testBit,Nat.zero_testBit]
theorem PrSays.cons {p:Prt} {s:Sal} {ps:List Prt} {l:List Sal} (h:PrSays ps l) (h1:p.stock = s.stock) (h2:refFits p 0 s.price 0 = true) (h3:p.nlo ≤ s.number ∧ s.number ≤ p.nhi):PrSays (p :: ps) (s :: l):=by
  refine ⟨by simp [h.len],fun j hj=>?_,fun j hj=>?_,fun j hj=>?_⟩ <;> cases j with
    | zero=>first | exact h1 | exact h2 | exact h3
    | succ j =>
      simp only [List.length_cons] at hj
      first | exact h.st j (by omega) | exact fits_pr.trans (h.fit j (by omega)) | exact h.num j (by omega)
theorem fits_of {p:Prt} {x:Int} (h:1 ≤ x ∧ x ≤ 799) (hf:p.full = true ∧ p.fig = x ∨ p.full = false ∧ p.fig = ((x.toNat % 80:Nat):Int)):refFits p 0 x 0 = true:=by
  unfold refFits
  rw [zk.2 h,Nat.zero_testBit]
  rcases hf with ⟨h1,h2⟩ | ⟨h1,h2⟩
  · rw [h1,h2]; simp
  · rw [h1,h2,tmod80 (by omega)]; simp
theorem zG5 {b:Brd} {ws:List Int} (v:BrdOK b):∀ {l:List Sal} {i m:Nat} {bm:Int},okAll b l bm = true → PrSays (prL b ws l i m) l
  | [],i,m,bm,_=>⟨rfl,fun j hj=>by simp at hj,fun j hj=>by simp at hj,fun j hj=>by simp at hj⟩
  | s :: r,i,m,bm,h=>by
    unfold okAll at h
    rw [Bool.and_eq_true] at h
    obtain ⟨k1,k2,k3,k4⟩:=kl.1 h.1
    have hs1:=v.s1
    refine (zG5 v h.2).cons rfl (fits_of k3 ?_) ?_
    · unfold prPr
      cases wrd ws (i + 1) / 8 % 4 == 0
      · exact .inr ⟨rfl,rfl⟩
      · exact .inl ⟨rfl,show ((s.price.toNat:Nat):Int) = s.price by omega⟩
    · show (nnOf b (prNu b ws i s) (prRush ws) s).1 ≤ s.number ∧ s.number ≤ (nnOf b (prNu b ws i s) (prRush ws) s).2
      unfold nnOf
      cases hc:prNu b ws i s
      · unfold prNu at hc
        cases hr:prRush ws
        · rw [hr] at hc
          simp at hc
          show (1:Int) ≤ s.number ∧ s.number ≤ 1; omega
        · rw [hr] at hc
          simp at hc
          show (1:Int) ≤ s.number ∧ s.number ≤ b.small
          by_cases e:1 < s.number
          · have:=(hc e).1; omega
          · omega
      · exact ⟨Int.le_refl _,Int.le_refl _⟩
end Go.Proofs.YticlpkgpmmhemaaGreatDoor
namespace Go.Proofs.YticlpkgpmmhemaaGreatDoor
open Go.RowKit
set_option maxRecDepth 20000
set_option linter.all false
set_option maxHeartbeats 4000000
theorem zAz {b:Brd} {s:List UInt8} (h:(readI b s).2 = 0):checkT b = 0:=by
  unfold readI at h
  cases hc:checkT b != 0
  · simpa using hc
  · rw [hc] at h
    have h:checkT b = 0:=h
    rw [h] at hc; cases hc
theorem read_short {b:Brd} {s:List UInt8} (h:(readI b s).2 = 0):s.length ≤ 160:=by
  have v:=zAz h
  rw [← zCA v] at h
  unfold refReadI at h
  cases hc:decide (160 < (s.length:Int))
  · simp only [decide_eq_false_iff_not] at hc; omega
  · rw [hc] at h; cases h
theorem zHJ {b:Brd} {ws:List Int} {l:List Sal} (v:BrdOK b) (h8:l.length ≤ 8) (hok:okAll b l 0 = true):(prS b ws l).length ≤ 300:=by
  obtain ⟨h1,h2⟩:=zGH (ws:=ws) (i:=0) (m:=0) (st:=-1) hok (by omega)
  have h3:=zGe v h1
  have h4:=zFd v (wd:=.la (prLate ws) (prLate ws + prWide ws)) (show prLate ws ≤ prLate ws + prWide ws ∧ prLate ws + prWide ws ≤ 60 by unfold prLate prWide; have:=Nat.mod_lt (wrd ws 0) (show 0 < 6 by omega); have:=Nat.mod_lt (wrd ws 0 / 8) (show 0 < 6 by omega); omega)
  unfold prS prT
  rw [zB1,zAf]
  cases prRush ws <;> simp only [cond_false,cond_true,Wd.text,List.length_append,List.length_cons,List.length_nil] at h4 ⊢ <;> omega
theorem Sold_ok (b:Brd) (ws:List Int) (v:BrdOK b) (hw:WdsOK ws):PureAt Tryz.prog 71 [brdD b,wdsD ws] (salsD (soldL b ws)):=PureAt.of_eff (ds:=[brdD b,wdsD ws]) (Sold_eff b ws v hw)
end Go.Proofs.YticlpkgpmmhemaaGreatDoor
namespace Go.Proofs.YticlpkgpmmhemaaGreatDoor
open Go.Proofs.Tryz
open Go.RowKit
set_option maxRecDepth 20000
set_option linter.all false
set_option maxHeartbeats 4000000
theorem thin_bd {b:Brd} {n:Nat} (h:thinT b n = true):b.stocks.length ≤ 7 ∧ n ≤ 200:=by
  unfold thinT at h
  simp only [Bool.and_eq_true,decide_eq_true_eq] at h
  omega
theorem zC8 {d:Dsk}:(∀ p ∈ fltI d,PrtOK d.b p) ∧ (fltI d).length ≤ 8:=by
  unfold fltI
  cases deskI d != 0
  · exact yk
  · exact ⟨fun p hp=>(by cases hp),by simp⟩
theorem zGC {d:Dsk} (h:deskI d = 0):fltI d = (readI d.b d.tape).1:=by unfold fltI; rw [h]; rfl
/-- The desk with the tape of words. -/
@[reducible] def tldD (d:Dsk) (ws:List Int):Dsk:=⟨d.b,prS d.b ws (soldL d.b ws),d.fee,d.orders⟩
/-- What a desk and a truth by words are. -/
structure ToldP (d:Dsk) (x:Dsk × Tru × Bool):Prop where
  b:x.1.b = d.b
  os:x.1.orders = d.orders
  fe:x.1.fee = d.fee
  ok:x.2.2 = true → d.orders.length ≤ 8 ∧ x.1.tape.length ≤ 300 ∧ d.b.stocks.length ≤ 7 ∧ deskI x.1 = 0 ∧ TruW x.1 (readI x.1.b x.1.tape).1 x.2.1 ∧ timesB (readI x.1.b x.1.tape).1 = true
theorem tld_len {d:Dsk} {ws:List Int} (v:BrdOK d.b) (hw:WdsOK ws) (h:deskI (tldD d ws) = 0):(fltI (tldD d ws)).length ≤ (soldL d.b ws).length:=by
  have hs:=zDG v hw
  have hr:=(yf h).1
  rw [zGC h]
  have hr2:(readI d.b (prS d.b ws (soldL d.b ws))).2 = 0:=hr
  have h1:=read_short hr2
  have h2:=printed_read (ws:=ws) (zAz hr2) (by have:=hs.l7; omega) hs.ok h1
  show (readI d.b (prS d.b ws (soldL d.b ws))).1.length ≤ _
  rw [h2,(zG5 v hs.ok).len]
  exact Nat.le_refl _
theorem told_ok {d:Dsk} {ws:List Int} {t:Tru} (v:BrdOK d.b) (hw:WdsOK ws) (ho:d.orders.length ≤ 8) (hs:d.b.stocks.length ≤ 7) (h0:deskI (tldD d ws) = 0) (ht:timesB (fltI (tldD d ws)) = true):ToldP d (tldD d ws,t,isTB (tldD d ws) (fltI (tldD d ws)) t):=by
  have hs7:=zDG v hw
  refine ⟨rfl,rfl,rfl,fun h=>⟨ho,zHJ v (by have:=hs7.l7; omega) hs7.ok,hs,h0,?_,?_⟩⟩
  · rw [← zGC h0]; exact isT_iff.1 h
  · rw [← zGC h0]; exact ht
theorem zGS {d x:Dsk} {t:Tru} (h1:x.b = d.b) (h2:x.orders = d.orders) (h3:x.fee = d.fee):ToldP d (x,t,false):=⟨h1,h2,h3,fun h=>(by cases h)⟩
theorem zGs {a b:Int} (ha:0 ≤ a) (hb:0 < b):0 ≤ a.tmod b ∧ a.tmod b < b:=by
  rw [Int.tmod_eq_emod_of_nonneg ha]
  exact ⟨Int.emod_nonneg _ (by omega),Int.emod_lt_of_pos _ hb⟩
theorem zDN (ws:List Int) (i:Nat) (hw:WdsOK ws):PureAt Tryz.prog 74 [wdsD ws,.int .i64 (i:Nat)] (.int .i64 (wrd ws i:Nat)):=by
 refine Zp Tryz.func74 rfl fun Γ hn hl=>?_
 have hw1:=hw.1
 refine Zu (Zt 1 [] hn rfl (Zv (zC (Zu (Zt 3 [] hn rfl (Zv (zH rfl (fun hb0=>?_) (fun hb0=>?_))))))))
 obtain rfl:ws = []:=List.eq_nil_of_length_eq_zero (by simp at hb0; simpa using hb0)
 refine Zu (Zt 1 [] hn rfl (Zv (zJ (zD (zb (zY (.inl rfl) hl rfl (.tmp rfl)) ?_)))))
 simp [wrd]
 have hwl:ws.length ≠ 0:=by simp at hb0; simpa using hb0
 obtain ⟨x,hx⟩:=zT (show i % ws.length < ws.length from Nat.mod_lt _ (by omega))
 have hxb:=hw.2 x (List.mem_of_getElem? hx)
 have e1:((wrd ws i:Nat):Int) = x:=by unfold wrd; rw [zQ hx]; omega
 rw [e1]
 refine zI (zA (Zu (Zt 4 [] hn rfl (Zs hn (yh rfl rfl rfl (r:=((i % ws.length:Nat):Int)) (by rw [List.length_map]; omega) (by rw [List.length_map]; exact modN (by omega))) ?_))))
 refine Zi (i:=i % ws.length) hn rfl rfl (mget hx) ?_
 refine Zt 1 [] hn rfl (Zs hn (zCW rfl rfl underlying253 underlying3 (i64w (by omega) rfl)) ?_)
 refine Zt 1 [] hn rfl (Zv (zJ (zb (zY (.inl rfl) hl rfl (.tmp rfl)) ?_)))
 rfl
theorem Told_eff (d:Dsk) (ws:List Int) (hN:NamesOK d.b) (hw:WdsOK ws):EffAt Tryz.prog 17 [.d (dskD d),.d (wdsD ws)] [] (X:={x:Dsk × Tru × Bool // ToldP d x}) (fun x=>.d (.tup [dskD x.1.1,truD x.1.2.1,.bool x.1.2.2])) (fun _=>[]):=by
 refine EffAt.of_awp Tryz.func17 rfl (by kernel_rfl) rfl fun Γ hn=>?_
 refine Zu (Zb 2 hn rfl fun b2=>Zb 4 hn rfl fun b4=>Zb 5 hn rfl fun b5=>Zt 1 [] hn rfl (Zv (zC (Zu (Zt 7 [2,2] hn rfl (Zkg hn rfl (fun hc=>(show PureAt Tryz.prog 31 [brdD d.b,strD []] (.bool (thinT d.b ([]:List UInt8).length)) from Thin_ok d.b [] hN)) (Zt 5 [2] hn rfl (Zkg hn rfl (fun hc=>zFV d.b hN) (Zt 2 [] hn rfl (Zv (zH rfl (fun hb0=>?_) (fun hb0=>?_))))))))))))
 refine Zu (Zt 5 [2,4,5] hn rfl (Zv (zJ (zD ?_))))
 exact ret_E (.inl rfl) ⟨(d,⟨[],[],[]⟩,false),zGS rfl rfl rfl⟩ ((zBv rfl (.d (.cellA rfl (id:=4) rfl underlying27 rfl sz27 rfl rfl)) (.d (.cellA rfl (id:=5) rfl underlying31 rfl sz31 rfl rfl)) (.tmp rfl)).le (.tup (.cons (.refl _) (.cons (.agg (.cons (.nil 1) (.cons (.nil 1) (.cons (.nil 1) (.refl _))))) (.refl _))))) trivial
 obtain ⟨⟨q1,q2⟩,q3⟩:(d.orders.length ≤ 8 ∧ thinT d.b ([]:List UInt8).length = true) ∧ checkT d.b = 0:=by simp only [List.length_map,Bool.or_eq_false_iff,Bool.not_eq_false',decide_eq_false_iff_not] at hb0; exact ⟨⟨by omega,hb0.1.2⟩,by simpa using hb0.2⟩
 obtain ⟨hb7,_⟩:=thin_bd q2
 have v:=kn q3
 have hsk:=zDG v hw
 have hs7:=hsk.l7
 have hpl:=zHJ (ws:=ws) v (by omega) hsk.ok
 refine zI (zA (Zu (Zt 3 [2] hn rfl (Zk hn rfl (Sold_ok d.b ws v hw) (Zt 1 [] hn rfl (Zv (Zu (Zt 4 [2] hn rfl (Zk hn rfl (Printed_ok d.b (soldL d.b ws) ws v hw (by omega) hsk.ok) (Zt 1 [] hn rfl (stepW (s_store1 rfl rfl rfl rfl rfl rfl (id:=2) rfl sz9 (Nat.le_of_ble_eq_true rfl) rfl trivial) fun _=>?_)))))))))))
 refine Zv (Zu (Zt 1 [2] hn rfl (Zk hn rfl (Fault4_ok (tldD d ws) hN (show (prS d.b ws (soldL d.b ws)).length ≤ 4294967000 by omega) (show d.orders.length ≤ 1000 by omega)) (Zt 5 [] hn rfl (Zv (Zu (Zt 1 [] hn rfl (Zk hn rfl (Times_ok d.b (fltI (tldD d ws)) zC8.1 zC8.2) (Zt 5 [] hn rfl (Zv (zC (Zu (Zt 6 [] hn rfl (Zv (zH rfl (fun hb1=>?_) (fun hb1=>?_))))))))))))))))
 refine Zu (Zt 5 [2,4,5] hn rfl (Zv (zJ (zD ?_))))
 exact ret_E (.inl rfl) ⟨(tldD d ws,⟨[],[],[]⟩,false),zGS rfl rfl rfl⟩ ((zBv rfl (.d (.cellA rfl (id:=4) rfl underlying27 rfl sz27 rfl rfl)) (.d (.cellA rfl (id:=5) rfl underlying31 rfl sz31 rfl rfl)) (.tmp rfl)).le (.tup (.cons (.refl _) (.cons (.agg (.cons (.nil 1) (.cons (.nil 1) (.cons (.nil 1) (.refl _))))) (.refl _))))) trivial
 obtain ⟨h0,ht⟩:deskI (tldD d ws) = 0 ∧ timesB (fltI (tldD d ws)) = true:=by simp only [Bool.or_eq_false_iff,Bool.not_eq_false'] at hb1; exact ⟨by simpa using hb1.1,hb1.2⟩
 have htl:=tld_len v hw h0
 obtain ⟨hpo,hl8⟩:=zC8 (d:=tldD d ws)
 have hti:timesI (fltI (tldD d ws)) = timL (fltI (tldD d ws)) (fltI (tldD d ws)).length:=by unfold timesI; rw [ht]; rfl
 generalize hfl:fltI (tldD d ws) = l at hpo hl8 ht htl hti
 rw [hti]
 obtain ⟨_,_,_,hob⟩:=yf h0
 refine zI (zA (Zu (Zb 12 hn rfl fun b12=>Zv (zC (zp (gh_nilcell (id:=12) (k:=0) 1081 3 1 rfl rfl) ?_)))))
 refine zp (gh_nilcell (id:=12) (k:=1) 1082 3 1 rfl rfl) ?_
 refine zp (gh_nilcell (id:=12) (k:=2) 1083 3 1 rfl rfl) ?_
 refine zG (Zt 1 [] hn rfl (Zv (zC (Zu (Zt 1 [] hn rfl (Zv (zK (awp_loop_on (ι:={x:Nat × Int × (List Int × Value) × (List Int × Value) // x.1 ≤ l.length ∧ (-9999 ≤ x.2.1 ∧ x.2.1 ≤ 700) ∧ x.2.2.1.1.length = x.1 ∧ x.2.2.2.1.length = x.1}) (fun x=>(14,true,.d (.int .i64 (x.1.1:Nat))) :: (13,true,.d (.int .i64 x.1.2.1)) :: anys [63,64,65,66,69,70,71,72,73,74,75,76,77,78,79,80,81,82,83,84,85,86,87,88,89,90,91,92,93,94,95,96,97,98,99,100,101,102,103,67,68]) (fun x=>[(12,.box b12 31 [.val x.1.2.2.1.2,.val x.1.2.2.2.2,.val (.slice none 0 0)]),(1081,.row x.1.2.2.1.2 3 1 (x.1.2.2.1.1.map intE)),(1082,.row x.1.2.2.2.2 3 1 (x.1.2.2.2.1.map intE))]) (fun x=>l.length - x.1.1) ⟨(0,-9999,([],.slice none 0 0),([],.slice none 0 0)),by simp⟩ ⟨.inl rfl,.inl rfl,zF _⟩ ⟨.inl rfl,.inl rfl,.inl rfl,trivial⟩ ?_))))))))
 rintro ⟨⟨i,la,⟨ps,vp⟩,⟨ms,vm⟩⟩,hi,hla,hps,hms⟩
 dsimp only
 dsimp only at hi hla hps hms
 refine zC (Zu (Zt 4 [] hn rfl (Zv (zH rfl (fun hb2=>?_) (fun hb2=>?_)))))
 ·
  have hil:i < l.length:=by simp at hb2; omega
  have htm:=(tim_mono hpo ht hil).1
  have hpb:=zEl hpo hil
  have hrg:(timL l l.length)[i]? = some (timI l i):=by have:=zAN hil; obtain ⟨x,hx⟩:=zT (show i < (timL l l.length).length by rw [zCy]; exact hil); rw [zQ hx] at this; rw [hx,this]
  obtain ⟨sl,hsl⟩:=zT (show i < (soldL d.b ws).length by omega)
  have hwb:=zBa hw (i + 3)
  have hmo:=zGs (a:=(wrd ws (i + 3):Nat)) (b:=4) (by omega) (by omega)
  refine zI (zA (zC (zK (zC (zh (W:=fun b=>True) fmo ?_)))))
  refine Zy [0,1] [] hn rfl (Zd 2 rfl hn (q_index (i:=i) rfl rfl rfl underlying155 sz59 rfl (mget hrg)) ?_)
  refine Zy [3,4,5,6,7] [] hn rfl (Zd 8 rfl hn (q_index (i:=i) rfl rfl rfl underlying155 sz59 rfl (mget hrg)) ?_)
  refine Zy [9,10,11,12] [] hn rfl (Zd 13 rfl hn (za rfl rfl rfl (r:=((i + 3:Nat):Int)) (i64w (by omega) (by omega))) ?_)
  refine zB (Ze1 14 rfl hn rfl (zDN _ _ (by assumption)) (d2_of_d1 (Zd 15 rfl hn (yh rfl rfl rfl (by omega) rfl) ?_)))
  refine Zd 16 rfl hn (za rfl rfl rfl (i64w (by omega) rfl)) ?_
  refine Zd 17 rfl hn (kB rfl rfl rfl) ?_
  refine Zd 18 rfl hn (zFb rfl rfl rfl) ?_
  refine Zy [19] [] hn rfl (zB (ze (by kernel_rfl) ?_))
  refine zA ?_
  obtain ⟨la2,hla2⟩:∃ z:Int,z = min (timI l i).2 (max la ((timI l i).1 + (wrd ws (i + 3):Int).tmod 4)):=⟨_,rfl⟩
  rw [← hla2]
  refine zh (W:=fun b=>True) fmo ?_
  refine Zy [0,2,3] [] hn rfl (Zd 4 rfl hn (q_index (i:=i) rfl rfl rfl underlying91 sz96 rfl (mget hsl)) ?_)
  refine Zy [5,6,9,11] [] hn rfl (zB ?_)
  refine zj 1 [7,10,12] (by kernel_rfl) ⟨?_,?_,?_,?_,trivial⟩
  focus
   refine br rfl (Zw hn (zX rfl rfl (id:=12) rfl underlying29 rfl rfl sees0)) fun _=>?_
   refine d2_of_d1 (zB ?_)
   refine zj 7 [10,12] (by kernel_rfl) ⟨?_,?_,?_,trivial⟩
   focus
    refine br rfl (zL rfl rfl rfl (nb hn rfl) underlying29 sz3 zr3 rfl rfl rfl (show _ = [.d (.int .i64 0)] from by kernel_rfl) (by kernel_rfl) rfl rfl rfl rfl rfl) fun _=>?_
    refine d2_of_d1 (zB ?_)
    refine zj 8 [10,12] (by kernel_rfl) ⟨?_,?_,?_,trivial⟩
    focus
     refine br rfl (s_append (id:=1081) rfl rfl rfl (nb hn rfl) elt29 trivial rfl rfl rfl (by simp [chunk]; omega) (by simp [chunk]; omega) (fun b hb=>trivial)) fun v96=>?_
     refine d2_of_d1 (zB ?_)
     refine zj 10 [12] (by kernel_rfl) ⟨?_,?_,trivial⟩
     refine br rfl (Zw hn (zX rfl rfl (id:=12) rfl underlying29 rfl rfl sees0)) fun _=>?_
     refine d2_of_d1 (Zy [14] [] hn rfl (zB (Zo 12 rfl (zL rfl rfl rfl (nb hn rfl) underlying29 sz3 zr3 rfl rfl rfl (show _ = [.d (.int .i64 0)] from by kernel_rfl) (by kernel_rfl) rfl rfl rfl rfl rfl) fun _=>?_)))
     refine d2_of_d1 (zB ?_)
     rotate_left
     refine br rfl (zL rfl rfl rfl (nb hn rfl) underlying29 sz3 zr3 rfl rfl rfl (show _ = [.d (.int .i64 0)] from by kernel_rfl) (by kernel_rfl) rfl rfl rfl rfl rfl) fun _=>?_
     refine d2_of_d1 (zB (Ze [10] [12] hn rfl (d2_of_d1 (Zy [14] [] hn rfl (zB ?_)))))
     rotate_left
    rotate_left 2
    focus
     refine br rfl (Zw hn (zX rfl rfl (id:=12) rfl underlying29 rfl rfl sees0)) fun _=>?_
     refine d2_of_d1 (zB ?_)
     refine zj 8 [12] (by kernel_rfl) ⟨?_,?_,trivial⟩
     refine br rfl (s_append (id:=1081) rfl rfl rfl (nb hn rfl) elt29 trivial rfl rfl rfl (by simp [chunk]; omega) (by simp [chunk]; omega) (fun b hb=>trivial)) fun v96=>?_
     refine d2_of_d1 (Zy [14] [] hn rfl (zB (Zo 12 rfl (zL rfl rfl rfl (nb hn rfl) underlying29 sz3 zr3 rfl rfl rfl (show _ = [.d (.int .i64 0)] from by kernel_rfl) (by kernel_rfl) rfl rfl rfl rfl rfl) fun _=>?_)))
     refine d2_of_d1 (zB ?_)
     rotate_left
     refine br rfl (zL rfl rfl rfl (nb hn rfl) underlying29 sz3 zr3 rfl rfl rfl (show _ = [.d (.int .i64 0)] from by kernel_rfl) (by kernel_rfl) rfl rfl rfl rfl rfl) fun _=>?_
     refine d2_of_d1 (zB (Zo 8 rfl (s_append (id:=1081) rfl rfl rfl (nb hn rfl) elt29 trivial rfl rfl rfl (by simp [chunk]; omega) (by simp [chunk]; omega) (fun b hb=>trivial)) fun v96=>?_))
     refine d2_of_d1 (Zy [14] [] hn rfl (zB ?_))
     rotate_left
    rotate_left 2
    focus
     refine br rfl (zL rfl rfl rfl (nb hn rfl) underlying29 sz3 zr3 rfl rfl rfl (show _ = [.d (.int .i64 0)] from by kernel_rfl) (by kernel_rfl) rfl rfl rfl rfl rfl) fun _=>?_
     refine d2_of_d1 (zB ?_)
     refine zj 8 [10] (by kernel_rfl) ⟨?_,?_,trivial⟩
     refine br rfl (s_append (id:=1081) rfl rfl rfl (nb hn rfl) elt29 trivial rfl rfl rfl (by simp [chunk]; omega) (by simp [chunk]; omega) (fun b hb=>trivial)) fun v96=>?_
     refine d2_of_d1 (zB (Ze [10] [12] hn rfl ?_))
     rotate_left
     refine br rfl (Zw hn (zX rfl rfl (id:=12) rfl underlying29 rfl rfl sees0)) fun _=>?_
     refine d2_of_d1 (zB (Zo 8 rfl (s_append (id:=1081) rfl rfl rfl (nb hn rfl) elt29 trivial rfl rfl rfl (by simp [chunk]; omega) (by simp [chunk]; omega) (fun b hb=>trivial)) fun v96=>?_))
     rotate_left
     all_goals
      refine d2_of_d1 (Zy [14] [] hn rfl (zB ?_))
    rotate_left 2
   rotate_left 6
   focus
    refine br rfl (Zw hn (zX rfl rfl (id:=12) rfl underlying29 rfl rfl sees0)) fun _=>?_
    refine d2_of_d1 (zB ?_)
    refine zj 7 [12] (by kernel_rfl) ⟨?_,?_,trivial⟩
    focus
     refine br rfl (zL rfl rfl rfl (nb hn rfl) underlying29 sz3 zr3 rfl rfl rfl (show _ = [.d (.int .i64 0)] from by kernel_rfl) (by kernel_rfl) rfl rfl rfl rfl rfl) fun _=>?_
     refine d2_of_d1 (zB ?_)
     refine zj 8 [12] (by kernel_rfl) ⟨?_,?_,trivial⟩
     refine br rfl (s_append (id:=1081) rfl rfl rfl (nb hn rfl) elt29 trivial rfl rfl rfl (by simp [chunk]; omega) (by simp [chunk]; omega) (fun b hb=>trivial)) fun v96=>?_
     refine d2_of_d1 (Zy [14] [] hn rfl (zB (Zo 12 rfl (zL rfl rfl rfl (nb hn rfl) underlying29 sz3 zr3 rfl rfl rfl (show _ = [.d (.int .i64 0)] from by kernel_rfl) (by kernel_rfl) rfl rfl rfl rfl rfl) fun _=>?_)))
     refine d2_of_d1 (zB ?_)
     rotate_left
     refine br rfl (zL rfl rfl rfl (nb hn rfl) underlying29 sz3 zr3 rfl rfl rfl (show _ = [.d (.int .i64 0)] from by kernel_rfl) (by kernel_rfl) rfl rfl rfl rfl rfl) fun _=>?_
     refine d2_of_d1 (zB (Zo 8 rfl (s_append (id:=1081) rfl rfl rfl (nb hn rfl) elt29 trivial rfl rfl rfl (by simp [chunk]; omega) (by simp [chunk]; omega) (fun b hb=>trivial)) fun v96=>?_))
     refine d2_of_d1 (Zy [14] [] hn rfl (zB ?_))
     rotate_left
    rotate_left 2
    refine br rfl (zL rfl rfl rfl (nb hn rfl) underlying29 sz3 zr3 rfl rfl rfl (show _ = [.d (.int .i64 0)] from by kernel_rfl) (by kernel_rfl) rfl rfl rfl rfl rfl) fun _=>?_
    refine d2_of_d1 (zB (Zo 7 rfl (zL rfl rfl rfl (nb hn rfl) underlying29 sz3 zr3 rfl rfl rfl (show _ = [.d (.int .i64 0)] from by kernel_rfl) (by kernel_rfl) rfl rfl rfl rfl rfl) fun _=>?_))
    refine d2_of_d1 (zB (Zo 8 rfl (s_append (id:=1081) rfl rfl rfl (nb hn rfl) elt29 trivial rfl rfl rfl (by simp [chunk]; omega) (by simp [chunk]; omega) (fun b hb=>trivial)) fun v96=>?_))
    refine d2_of_d1 (Zy [14] [] hn rfl (zB ?_))
    rotate_left
   rotate_left 3
   focus
    refine br rfl (zL rfl rfl rfl (nb hn rfl) underlying29 sz3 zr3 rfl rfl rfl (show _ = [.d (.int .i64 0)] from by kernel_rfl) (by kernel_rfl) rfl rfl rfl rfl rfl) fun _=>?_
    refine d2_of_d1 (zB ?_)
    refine zj 7 [10] (by kernel_rfl) ⟨?_,?_,trivial⟩
    focus
     refine br rfl (zL rfl rfl rfl (nb hn rfl) underlying29 sz3 zr3 rfl rfl rfl (show _ = [.d (.int .i64 0)] from by kernel_rfl) (by kernel_rfl) rfl rfl rfl rfl rfl) fun _=>?_
     refine d2_of_d1 (zB ?_)
     refine zj 8 [10] (by kernel_rfl) ⟨?_,?_,trivial⟩
     refine br rfl (s_append (id:=1081) rfl rfl rfl (nb hn rfl) elt29 trivial rfl rfl rfl (by simp [chunk]; omega) (by simp [chunk]; omega) (fun b hb=>trivial)) fun v96=>?_
     refine d2_of_d1 (zB (Ze [10] [12] hn rfl ?_))
     rotate_left
     refine br rfl (Zw hn (zX rfl rfl (id:=12) rfl underlying29 rfl rfl sees0)) fun _=>?_
     refine d2_of_d1 (zB (Zo 8 rfl (s_append (id:=1081) rfl rfl rfl (nb hn rfl) elt29 trivial rfl rfl rfl (by simp [chunk]; omega) (by simp [chunk]; omega) (fun b hb=>trivial)) fun v96=>?_))
     rotate_left
    rotate_left 2
    refine br rfl (Zw hn (zX rfl rfl (id:=12) rfl underlying29 rfl rfl sees0)) fun _=>?_
    refine d2_of_d1 (zB (Zo 7 rfl (zL rfl rfl rfl (nb hn rfl) underlying29 sz3 zr3 rfl rfl rfl (show _ = [.d (.int .i64 0)] from by kernel_rfl) (by kernel_rfl) rfl rfl rfl rfl rfl) fun _=>?_))
    refine d2_of_d1 (zB (Zo 8 rfl (s_append (id:=1081) rfl rfl rfl (nb hn rfl) elt29 trivial rfl rfl rfl (by simp [chunk]; omega) (by simp [chunk]; omega) (fun b hb=>trivial)) fun v96=>?_))
    rotate_left
    all_goals
     refine d2_of_d1 (Zy [14] [] hn rfl (zB ?_))
   rotate_left 3
  rotate_left 12
  focus
   refine br rfl (zL rfl rfl rfl (nb hn rfl) underlying29 sz3 zr3 rfl rfl rfl (show _ = [.d (.int .i64 0)] from by kernel_rfl) (by kernel_rfl) rfl rfl rfl rfl rfl) fun _=>?_
   refine d2_of_d1 (zB ?_)
   refine zj 1 [10,12] (by kernel_rfl) ⟨?_,?_,?_,trivial⟩
   focus
    refine br rfl (Zw hn (zX rfl rfl (id:=12) rfl underlying29 rfl rfl sees0)) fun _=>?_
    refine d2_of_d1 (zB ?_)
    refine zj 8 [10,12] (by kernel_rfl) ⟨?_,?_,?_,trivial⟩
    focus
     refine br rfl (s_append (id:=1081) rfl rfl rfl (nb hn rfl) elt29 trivial rfl rfl rfl (by simp [chunk]; omega) (by simp [chunk]; omega) (fun b hb=>trivial)) fun v96=>?_
     refine d2_of_d1 (zB ?_)
     refine zj 10 [12] (by kernel_rfl) ⟨?_,?_,trivial⟩
     refine br rfl (Zw hn (zX rfl rfl (id:=12) rfl underlying29 rfl rfl sees0)) fun _=>?_
     refine d2_of_d1 (Zy [14] [] hn rfl (zB (Zo 12 rfl (zL rfl rfl rfl (nb hn rfl) underlying29 sz3 zr3 rfl rfl rfl (show _ = [.d (.int .i64 0)] from by kernel_rfl) (by kernel_rfl) rfl rfl rfl rfl rfl) fun _=>?_)))
     refine d2_of_d1 (zB ?_)
     rotate_left
     refine br rfl (zL rfl rfl rfl (nb hn rfl) underlying29 sz3 zr3 rfl rfl rfl (show _ = [.d (.int .i64 0)] from by kernel_rfl) (by kernel_rfl) rfl rfl rfl rfl rfl) fun _=>?_
     refine d2_of_d1 (zB (Ze [10] [12] hn rfl (d2_of_d1 (Zy [14] [] hn rfl (zB ?_)))))
     rotate_left
    rotate_left 2
    focus
     refine br rfl (Zw hn (zX rfl rfl (id:=12) rfl underlying29 rfl rfl sees0)) fun _=>?_
     refine d2_of_d1 (zB ?_)
     refine zj 8 [12] (by kernel_rfl) ⟨?_,?_,trivial⟩
     refine br rfl (s_append (id:=1081) rfl rfl rfl (nb hn rfl) elt29 trivial rfl rfl rfl (by simp [chunk]; omega) (by simp [chunk]; omega) (fun b hb=>trivial)) fun v96=>?_
     refine d2_of_d1 (Zy [14] [] hn rfl (zB (Zo 12 rfl (zL rfl rfl rfl (nb hn rfl) underlying29 sz3 zr3 rfl rfl rfl (show _ = [.d (.int .i64 0)] from by kernel_rfl) (by kernel_rfl) rfl rfl rfl rfl rfl) fun _=>?_)))
     refine d2_of_d1 (zB ?_)
     rotate_left
     refine br rfl (zL rfl rfl rfl (nb hn rfl) underlying29 sz3 zr3 rfl rfl rfl (show _ = [.d (.int .i64 0)] from by kernel_rfl) (by kernel_rfl) rfl rfl rfl rfl rfl) fun _=>?_
     refine d2_of_d1 (zB (Zo 8 rfl (s_append (id:=1081) rfl rfl rfl (nb hn rfl) elt29 trivial rfl rfl rfl (by simp [chunk]; omega) (by simp [chunk]; omega) (fun b hb=>trivial)) fun v96=>?_))
     refine d2_of_d1 (Zy [14] [] hn rfl (zB ?_))
     rotate_left
    rotate_left 2
    focus
     refine br rfl (zL rfl rfl rfl (nb hn rfl) underlying29 sz3 zr3 rfl rfl rfl (show _ = [.d (.int .i64 0)] from by kernel_rfl) (by kernel_rfl) rfl rfl rfl rfl rfl) fun _=>?_
     refine d2_of_d1 (zB ?_)
     refine zj 8 [10] (by kernel_rfl) ⟨?_,?_,trivial⟩
     refine br rfl (s_append (id:=1081) rfl rfl rfl (nb hn rfl) elt29 trivial rfl rfl rfl (by simp [chunk]; omega) (by simp [chunk]; omega) (fun b hb=>trivial)) fun v96=>?_
     refine d2_of_d1 (zB (Ze [10] [12] hn rfl ?_))
     rotate_left
     refine br rfl (Zw hn (zX rfl rfl (id:=12) rfl underlying29 rfl rfl sees0)) fun _=>?_
     refine d2_of_d1 (zB (Zo 8 rfl (s_append (id:=1081) rfl rfl rfl (nb hn rfl) elt29 trivial rfl rfl rfl (by simp [chunk]; omega) (by simp [chunk]; omega) (fun b hb=>trivial)) fun v96=>?_))
     rotate_left
     all_goals
      refine d2_of_d1 (Zy [14] [] hn rfl (zB ?_))
    rotate_left 2
   rotate_left 6
   focus
    refine br rfl (Zw hn (zX rfl rfl (id:=12) rfl underlying29 rfl rfl sees0)) fun _=>?_
    refine d2_of_d1 (zB ?_)
    refine zj 1 [12] (by kernel_rfl) ⟨?_,?_,trivial⟩
    focus
     refine br rfl (Zw hn (zX rfl rfl (id:=12) rfl underlying29 rfl rfl sees0)) fun _=>?_
     refine d2_of_d1 (zB ?_)
     refine zj 8 [12] (by kernel_rfl) ⟨?_,?_,trivial⟩
     refine br rfl (s_append (id:=1081) rfl rfl rfl (nb hn rfl) elt29 trivial rfl rfl rfl (by simp [chunk]; omega) (by simp [chunk]; omega) (fun b hb=>trivial)) fun v96=>?_
     refine d2_of_d1 (Zy [14] [] hn rfl (zB (Zo 12 rfl (zL rfl rfl rfl (nb hn rfl) underlying29 sz3 zr3 rfl rfl rfl (show _ = [.d (.int .i64 0)] from by kernel_rfl) (by kernel_rfl) rfl rfl rfl rfl rfl) fun _=>?_)))
     refine d2_of_d1 (zB ?_)
     rotate_left
     refine br rfl (zL rfl rfl rfl (nb hn rfl) underlying29 sz3 zr3 rfl rfl rfl (show _ = [.d (.int .i64 0)] from by kernel_rfl) (by kernel_rfl) rfl rfl rfl rfl rfl) fun _=>?_
     refine d2_of_d1 (zB (Zo 8 rfl (s_append (id:=1081) rfl rfl rfl (nb hn rfl) elt29 trivial rfl rfl rfl (by simp [chunk]; omega) (by simp [chunk]; omega) (fun b hb=>trivial)) fun v96=>?_))
     refine d2_of_d1 (Zy [14] [] hn rfl (zB ?_))
     rotate_left
    rotate_left 2
    refine br rfl (zL rfl rfl rfl (nb hn rfl) underlying29 sz3 zr3 rfl rfl rfl (show _ = [.d (.int .i64 0)] from by kernel_rfl) (by kernel_rfl) rfl rfl rfl rfl rfl) fun _=>?_
    refine d2_of_d1 (zB (Ze [1] [12] hn rfl (d2_of_d1 (zB (Zo 8 rfl (s_append (id:=1081) rfl rfl rfl (nb hn rfl) elt29 trivial rfl rfl rfl (by simp [chunk]; omega) (by simp [chunk]; omega) (fun b hb=>trivial)) fun v96=>?_)))))
    refine d2_of_d1 (Zy [14] [] hn rfl (zB ?_))
    rotate_left
   rotate_left 3
   focus
    refine br rfl (zL rfl rfl rfl (nb hn rfl) underlying29 sz3 zr3 rfl rfl rfl (show _ = [.d (.int .i64 0)] from by kernel_rfl) (by kernel_rfl) rfl rfl rfl rfl rfl) fun _=>?_
    refine d2_of_d1 (zB ?_)
    refine zj 1 [10] (by kernel_rfl) ⟨?_,?_,trivial⟩
    focus
     refine br rfl (Zw hn (zX rfl rfl (id:=12) rfl underlying29 rfl rfl sees0)) fun _=>?_
     refine d2_of_d1 (zB ?_)
     refine zj 8 [10] (by kernel_rfl) ⟨?_,?_,trivial⟩
     refine br rfl (s_append (id:=1081) rfl rfl rfl (nb hn rfl) elt29 trivial rfl rfl rfl (by simp [chunk]; omega) (by simp [chunk]; omega) (fun b hb=>trivial)) fun v96=>?_
     refine d2_of_d1 (zB (Ze [10] [12] hn rfl ?_))
     rotate_left
     refine br rfl (Zw hn (zX rfl rfl (id:=12) rfl underlying29 rfl rfl sees0)) fun _=>?_
     refine d2_of_d1 (zB (Zo 8 rfl (s_append (id:=1081) rfl rfl rfl (nb hn rfl) elt29 trivial rfl rfl rfl (by simp [chunk]; omega) (by simp [chunk]; omega) (fun b hb=>trivial)) fun v96=>?_))
     rotate_left
    rotate_left 2
    refine br rfl (Zw hn (zX rfl rfl (id:=12) rfl underlying29 rfl rfl sees0)) fun _=>?_
    refine d2_of_d1 (zB (Ze [1] [12] hn rfl (d2_of_d1 (zB (Zo 8 rfl (s_append (id:=1081) rfl rfl rfl (nb hn rfl) elt29 trivial rfl rfl rfl (by simp [chunk]; omega) (by simp [chunk]; omega) (fun b hb=>trivial)) fun v96=>?_)))))
    rotate_left
    all_goals
     refine d2_of_d1 (Zy [14] [] hn rfl (zB ?_))
   rotate_left 3
  rotate_left 12
  focus
   refine br rfl (Zw hn (zX rfl rfl (id:=12) rfl underlying29 rfl rfl sees0)) fun _=>?_
   refine d2_of_d1 (zB ?_)
   refine zj 1 [7,12] (by kernel_rfl) ⟨?_,?_,?_,trivial⟩
   focus
    refine br rfl (Zw hn (zX rfl rfl (id:=12) rfl underlying29 rfl rfl sees0)) fun _=>?_
    refine d2_of_d1 (zB ?_)
    refine zj 7 [12] (by kernel_rfl) ⟨?_,?_,trivial⟩
    focus
     refine br rfl (zL rfl rfl rfl (nb hn rfl) underlying29 sz3 zr3 rfl rfl rfl (show _ = [.d (.int .i64 0)] from by kernel_rfl) (by kernel_rfl) rfl rfl rfl rfl rfl) fun _=>?_
     refine d2_of_d1 (zB ?_)
     refine zj 8 [12] (by kernel_rfl) ⟨?_,?_,trivial⟩
     refine br rfl (s_append (id:=1081) rfl rfl rfl (nb hn rfl) elt29 trivial rfl rfl rfl (by simp [chunk]; omega) (by simp [chunk]; omega) (fun b hb=>trivial)) fun v96=>?_
     refine d2_of_d1 (Zy [14] [] hn rfl (zB (Zo 12 rfl (zL rfl rfl rfl (nb hn rfl) underlying29 sz3 zr3 rfl rfl rfl (show _ = [.d (.int .i64 0)] from by kernel_rfl) (by kernel_rfl) rfl rfl rfl rfl rfl) fun _=>?_)))
     refine d2_of_d1 (zB ?_)
     rotate_left
     refine br rfl (zL rfl rfl rfl (nb hn rfl) underlying29 sz3 zr3 rfl rfl rfl (show _ = [.d (.int .i64 0)] from by kernel_rfl) (by kernel_rfl) rfl rfl rfl rfl rfl) fun _=>?_
     refine d2_of_d1 (zB (Zo 8 rfl (s_append (id:=1081) rfl rfl rfl (nb hn rfl) elt29 trivial rfl rfl rfl (by simp [chunk]; omega) (by simp [chunk]; omega) (fun b hb=>trivial)) fun v96=>?_))
     refine d2_of_d1 (Zy [14] [] hn rfl (zB ?_))
     rotate_left
    rotate_left 2
    refine br rfl (zL rfl rfl rfl (nb hn rfl) underlying29 sz3 zr3 rfl rfl rfl (show _ = [.d (.int .i64 0)] from by kernel_rfl) (by kernel_rfl) rfl rfl rfl rfl rfl) fun _=>?_
    refine d2_of_d1 (zB (Zo 7 rfl (zL rfl rfl rfl (nb hn rfl) underlying29 sz3 zr3 rfl rfl rfl (show _ = [.d (.int .i64 0)] from by kernel_rfl) (by kernel_rfl) rfl rfl rfl rfl rfl) fun _=>?_))
    refine d2_of_d1 (zB (Zo 8 rfl (s_append (id:=1081) rfl rfl rfl (nb hn rfl) elt29 trivial rfl rfl rfl (by simp [chunk]; omega) (by simp [chunk]; omega) (fun b hb=>trivial)) fun v96=>?_))
    refine d2_of_d1 (Zy [14] [] hn rfl (zB ?_))
    rotate_left
   rotate_left 3
   focus
    refine br rfl (zL rfl rfl rfl (nb hn rfl) underlying29 sz3 zr3 rfl rfl rfl (show _ = [.d (.int .i64 0)] from by kernel_rfl) (by kernel_rfl) rfl rfl rfl rfl rfl) fun _=>?_
    refine d2_of_d1 (zB ?_)
    refine zj 1 [12] (by kernel_rfl) ⟨?_,?_,trivial⟩
    focus
     refine br rfl (Zw hn (zX rfl rfl (id:=12) rfl underlying29 rfl rfl sees0)) fun _=>?_
     refine d2_of_d1 (zB ?_)
     refine zj 8 [12] (by kernel_rfl) ⟨?_,?_,trivial⟩
     refine br rfl (s_append (id:=1081) rfl rfl rfl (nb hn rfl) elt29 trivial rfl rfl rfl (by simp [chunk]; omega) (by simp [chunk]; omega) (fun b hb=>trivial)) fun v96=>?_
     refine d2_of_d1 (Zy [14] [] hn rfl (zB (Zo 12 rfl (zL rfl rfl rfl (nb hn rfl) underlying29 sz3 zr3 rfl rfl rfl (show _ = [.d (.int .i64 0)] from by kernel_rfl) (by kernel_rfl) rfl rfl rfl rfl rfl) fun _=>?_)))
     refine d2_of_d1 (zB ?_)
     rotate_left
     refine br rfl (zL rfl rfl rfl (nb hn rfl) underlying29 sz3 zr3 rfl rfl rfl (show _ = [.d (.int .i64 0)] from by kernel_rfl) (by kernel_rfl) rfl rfl rfl rfl rfl) fun _=>?_
     refine d2_of_d1 (zB (Zo 8 rfl (s_append (id:=1081) rfl rfl rfl (nb hn rfl) elt29 trivial rfl rfl rfl (by simp [chunk]; omega) (by simp [chunk]; omega) (fun b hb=>trivial)) fun v96=>?_))
     refine d2_of_d1 (Zy [14] [] hn rfl (zB ?_))
     rotate_left
    rotate_left 2
    refine br rfl (zL rfl rfl rfl (nb hn rfl) underlying29 sz3 zr3 rfl rfl rfl (show _ = [.d (.int .i64 0)] from by kernel_rfl) (by kernel_rfl) rfl rfl rfl rfl rfl) fun _=>?_
    refine d2_of_d1 (zB (Ze [1] [12] hn rfl (d2_of_d1 (zB (Zo 8 rfl (s_append (id:=1081) rfl rfl rfl (nb hn rfl) elt29 trivial rfl rfl rfl (by simp [chunk]; omega) (by simp [chunk]; omega) (fun b hb=>trivial)) fun v96=>?_)))))
    refine d2_of_d1 (Zy [14] [] hn rfl (zB ?_))
    rotate_left
   rotate_left 3
   focus
    refine br rfl (zL rfl rfl rfl (nb hn rfl) underlying29 sz3 zr3 rfl rfl rfl (show _ = [.d (.int .i64 0)] from by kernel_rfl) (by kernel_rfl) rfl rfl rfl rfl rfl) fun _=>?_
    refine d2_of_d1 (zB ?_)
    refine zj 1 [7] (by kernel_rfl) ⟨?_,?_,trivial⟩
    refine br rfl (Zw hn (zX rfl rfl (id:=12) rfl underlying29 rfl rfl sees0)) fun _=>?_
    refine d2_of_d1 (zB (Zo 7 rfl (zL rfl rfl rfl (nb hn rfl) underlying29 sz3 zr3 rfl rfl rfl (show _ = [.d (.int .i64 0)] from by kernel_rfl) (by kernel_rfl) rfl rfl rfl rfl rfl) fun _=>?_))
    rotate_left
    refine br rfl (zL rfl rfl rfl (nb hn rfl) underlying29 sz3 zr3 rfl rfl rfl (show _ = [.d (.int .i64 0)] from by kernel_rfl) (by kernel_rfl) rfl rfl rfl rfl rfl) fun _=>?_
    refine d2_of_d1 (zB (Ze [1] [12] hn rfl ?_))
    rotate_left
    all_goals
     refine d2_of_d1 (zB (Zo 8 rfl (s_append (id:=1081) rfl rfl rfl (nb hn rfl) elt29 trivial rfl rfl rfl (by simp [chunk]; omega) (by simp [chunk]; omega) (fun b hb=>trivial)) fun v96=>?_))
     refine d2_of_d1 (Zy [14] [] hn rfl (zB ?_))
   rotate_left 2
  rotate_left 8
  focus
   refine br rfl (zL rfl rfl rfl (nb hn rfl) underlying29 sz3 zr3 rfl rfl rfl (show _ = [.d (.int .i64 0)] from by kernel_rfl) (by kernel_rfl) rfl rfl rfl rfl rfl) fun _=>?_
   refine d2_of_d1 (zB ?_)
   refine zj 1 [7,10] (by kernel_rfl) ⟨?_,?_,?_,trivial⟩
   focus
    refine br rfl (Zw hn (zX rfl rfl (id:=12) rfl underlying29 rfl rfl sees0)) fun _=>?_
    refine d2_of_d1 (zB ?_)
    refine zj 7 [10] (by kernel_rfl) ⟨?_,?_,trivial⟩
    focus
     refine br rfl (zL rfl rfl rfl (nb hn rfl) underlying29 sz3 zr3 rfl rfl rfl (show _ = [.d (.int .i64 0)] from by kernel_rfl) (by kernel_rfl) rfl rfl rfl rfl rfl) fun _=>?_
     refine d2_of_d1 (zB ?_)
     refine zj 8 [10] (by kernel_rfl) ⟨?_,?_,trivial⟩
     refine br rfl (s_append (id:=1081) rfl rfl rfl (nb hn rfl) elt29 trivial rfl rfl rfl (by simp [chunk]; omega) (by simp [chunk]; omega) (fun b hb=>trivial)) fun v96=>?_
     refine d2_of_d1 (zB (Ze [10] [12] hn rfl ?_))
     rotate_left
     refine br rfl (Zw hn (zX rfl rfl (id:=12) rfl underlying29 rfl rfl sees0)) fun _=>?_
     refine d2_of_d1 (zB (Zo 8 rfl (s_append (id:=1081) rfl rfl rfl (nb hn rfl) elt29 trivial rfl rfl rfl (by simp [chunk]; omega) (by simp [chunk]; omega) (fun b hb=>trivial)) fun v96=>?_))
     rotate_left
    rotate_left 2
    refine br rfl (Zw hn (zX rfl rfl (id:=12) rfl underlying29 rfl rfl sees0)) fun _=>?_
    refine d2_of_d1 (zB (Zo 7 rfl (zL rfl rfl rfl (nb hn rfl) underlying29 sz3 zr3 rfl rfl rfl (show _ = [.d (.int .i64 0)] from by kernel_rfl) (by kernel_rfl) rfl rfl rfl rfl rfl) fun _=>?_))
    refine d2_of_d1 (zB (Zo 8 rfl (s_append (id:=1081) rfl rfl rfl (nb hn rfl) elt29 trivial rfl rfl rfl (by simp [chunk]; omega) (by simp [chunk]; omega) (fun b hb=>trivial)) fun v96=>?_))
    rotate_left
   rotate_left 3
   focus
    refine br rfl (zL rfl rfl rfl (nb hn rfl) underlying29 sz3 zr3 rfl rfl rfl (show _ = [.d (.int .i64 0)] from by kernel_rfl) (by kernel_rfl) rfl rfl rfl rfl rfl) fun _=>?_
    refine d2_of_d1 (zB ?_)
    refine zj 1 [10] (by kernel_rfl) ⟨?_,?_,trivial⟩
    focus
     refine br rfl (Zw hn (zX rfl rfl (id:=12) rfl underlying29 rfl rfl sees0)) fun _=>?_
     refine d2_of_d1 (zB ?_)
     refine zj 8 [10] (by kernel_rfl) ⟨?_,?_,trivial⟩
     refine br rfl (s_append (id:=1081) rfl rfl rfl (nb hn rfl) elt29 trivial rfl rfl rfl (by simp [chunk]; omega) (by simp [chunk]; omega) (fun b hb=>trivial)) fun v96=>?_
     refine d2_of_d1 (zB (Ze [10] [12] hn rfl ?_))
     rotate_left
     refine br rfl (Zw hn (zX rfl rfl (id:=12) rfl underlying29 rfl rfl sees0)) fun _=>?_
     refine d2_of_d1 (zB (Zo 8 rfl (s_append (id:=1081) rfl rfl rfl (nb hn rfl) elt29 trivial rfl rfl rfl (by simp [chunk]; omega) (by simp [chunk]; omega) (fun b hb=>trivial)) fun v96=>?_))
     rotate_left
    rotate_left 2
    refine br rfl (Zw hn (zX rfl rfl (id:=12) rfl underlying29 rfl rfl sees0)) fun _=>?_
    refine d2_of_d1 (zB (Ze [1] [12] hn rfl (d2_of_d1 (zB (Zo 8 rfl (s_append (id:=1081) rfl rfl rfl (nb hn rfl) elt29 trivial rfl rfl rfl (by simp [chunk]; omega) (by simp [chunk]; omega) (fun b hb=>trivial)) fun v96=>?_)))))
    rotate_left
   rotate_left 3
   focus
    refine br rfl (Zw hn (zX rfl rfl (id:=12) rfl underlying29 rfl rfl sees0)) fun _=>?_
    refine d2_of_d1 (zB ?_)
    refine zj 1 [7] (by kernel_rfl) ⟨?_,?_,trivial⟩
    refine br rfl (Zw hn (zX rfl rfl (id:=12) rfl underlying29 rfl rfl sees0)) fun _=>?_
    refine d2_of_d1 (zB (Zo 7 rfl (zL rfl rfl rfl (nb hn rfl) underlying29 sz3 zr3 rfl rfl rfl (show _ = [.d (.int .i64 0)] from by kernel_rfl) (by kernel_rfl) rfl rfl rfl rfl rfl) fun _=>?_))
    rotate_left
    refine br rfl (zL rfl rfl rfl (nb hn rfl) underlying29 sz3 zr3 rfl rfl rfl (show _ = [.d (.int .i64 0)] from by kernel_rfl) (by kernel_rfl) rfl rfl rfl rfl rfl) fun _=>?_
    refine d2_of_d1 (zB (Ze [1] [12] hn rfl ?_))
    rotate_left
    all_goals
     refine d2_of_d1 (zB (Zo 8 rfl (s_append (id:=1081) rfl rfl rfl (nb hn rfl) elt29 trivial rfl rfl rfl (by simp [chunk]; omega) (by simp [chunk]; omega) (fun b hb=>trivial)) fun v96=>?_))
   rotate_left 2
   all_goals
    refine d2_of_d1 (Zy [14] [] hn rfl (zB ?_))
  rotate_left 8
  all_goals
   refine Zo 13 rfl (s_append (id:=1082) rfl rfl rfl (nb hn rfl) elt29 trivial rfl rfl rfl (by simp [chunk]; omega) (by simp [chunk]; omega) (fun b hb=>trivial)) fun v101=>?_
   refine d2_of_d1 (zB (Zo 15 rfl (s_storeRow rfl rfl rfl rfl rfl (rid:=1081) rfl (id:=12) rfl sz29 (Nat.le_of_ble_eq_true rfl) rfl trivial) fun _=>?_))
   refine d2_of_d1 (Zy [16] [] hn rfl (zB (Zo 17 rfl (s_storeRow rfl rfl rfl rfl rfl (rid:=1082) rfl (id:=12) rfl sz29 (Nat.le_of_ble_eq_true rfl) rfl trivial) fun _=>?_)))
   refine d2_of_d1 (zB (ze (by kernel_rfl) ?_))
   refine zP (zA (zG (Zt 1 [] hn rfl (Zs hn (za rfl rfl rfl (r:=((i + 1:Nat):Int)) (i64w (by omega) (by omega))) ?_))))
   refine Zt 1 [] hn rfl (zS ?_)
   exact Zr ⟨(i + 1,la2,(ps ++ [sl.price],v96),(ms ++ [la2],v101)),by simp; omega⟩ ⟨.inl rfl,.inl rfl,zF _⟩ ⟨.inl rfl,.inl (congrArg (fun z=>some (Res.row v96 3 1 z)) (by rw [List.map_append]; rfl)),.inl (congrArg (fun z=>some (Res.row v101 3 1 z)) (by rw [List.map_append]; rfl)),trivial⟩ (by simp only; omega)
 obtain rfl:i = l.length:=by simp at hb2; omega
 refine zU (zE (zE (zM (zA (zC (Zu (Zt 1 [] hn rfl (Zv (zK (awp_loop_on (ι:={x:Nat × List Int × Value // x.1 ≤ d.orders.length ∧ x.2.1.length = x.1}) (fun x=>(15,true,.d (.int .i64 (x.1.1:Nat))) :: anys [104,105,106,107,108,111,112,113,114,115,116,16,117,118,119,120,121,122,123,124,125,126,127,128,129,130,131,132,133,134,135,109,110]) (fun x=>(12,.box b12 31 [.val vp,.val vm,.val x.1.2.2]) :: (1083,.row x.1.2.2 3 1 (x.1.2.1.map intE)) :: gones [16]) (fun x=>d.orders.length - x.1.1) ⟨(0,[],.slice none 0 0),by simp⟩ ⟨.inl rfl,zF _⟩ ⟨.inl rfl,.inl rfl,zR _⟩ ?_))))))))))
 rintro ⟨⟨n,os,vo⟩,hn1,hos⟩
 dsimp only
 dsimp only at hn1 hos
 refine zC (Zu (Zt 5 [2] hn rfl (Zv (zH rfl (fun hb3=>?_) (fun hb3=>?_)))))
 ·
  have hnl:n < d.orders.length:=by simp at hb3; omega
  obtain ⟨o,hod⟩:=zT hnl
  have hbo:=zAc (hob o (List.mem_of_getElem? hod))
  have hwb:=zBa hw (n + 7)
  have hmo:=zGs (a:=(wrd ws (n + 7):Nat)) (b:=o.mhi - o.mlo + 1) (by omega) (by omega)
  refine zI (zA (zC (zK (Zu (Zt 3 [2] hn rfl (Zi (i:=n) hn rfl rfl (mget hod) ?_))))))
  refine Zt 2 [] hn rfl (Zb 16 hn rfl fun b16=>Zt 1 [16] hn rfl (Zv (zh (W:=fun b=>b ≠ b16) fmo ?_)))
  refine Zy [0,2,3,4,5] [16] hn rfl (Zd 6 rfl hn (za rfl rfl rfl (r:=((n + 7:Nat):Int)) (i64w (by omega) (by omega))) ?_)
  refine Zy [8,9,10,11] [16,16] hn rfl (Zd 12 rfl hn (yC rfl rfl rfl (i64w (by omega) rfl)) ?_)
  refine Zd 13 rfl hn (za rfl rfl rfl (i64w (by omega) rfl)) ?_
  refine zB ?_
  refine zj 1 [7] (by kernel_rfl) ⟨?_,?_,trivial⟩
  refine br rfl (Zw hn (zX rfl rfl (id:=12) rfl underlying29 rfl rfl sees0)) fun _=>?_
  refine d2_of_d1 (zB (Ze1 7 rfl hn rfl (zDN _ _ (by assumption)) (d2_of_d1 (Zd 14 rfl hn (yh rfl rfl rfl (by omega) rfl) ?_))))
  refine Zd 15 rfl hn (za rfl rfl rfl (i64w (by omega) rfl)) ?_
  refine zB (Zo 16 rfl (zL rfl rfl rfl (nb hn rfl) underlying29 sz3 zr3 rfl rfl rfl (show _ = [.d (.int .i64 0)] from by kernel_rfl) (by kernel_rfl) rfl rfl rfl rfl rfl) fun _=>?_)
  rotate_left
  focus
   refine br rfl (s_call [] (fun _=>zDN _ _ (by assumption)) rfl (yA rfl) rfl (nb hn rfl) (fun _=>trivial) rfl rfl (.refl _)) fun _=>?_
   refine d2_of_d1 (Zd 14 rfl hn (yh rfl rfl rfl (by omega) rfl) ?_)
   refine Zd 15 rfl hn (za rfl rfl rfl (i64w (by omega) rfl)) ?_
   refine zB ?_
   refine zj 1 [16] (by kernel_rfl) ⟨?_,?_,trivial⟩
   refine br rfl (Zw hn (zX rfl rfl (id:=12) rfl underlying29 rfl rfl sees0)) fun _=>?_
   refine d2_of_d1 (zB (Zo 16 rfl (zL rfl rfl rfl (nb hn rfl) underlying29 sz3 zr3 rfl rfl rfl (show _ = [.d (.int .i64 0)] from by kernel_rfl) (by kernel_rfl) rfl rfl rfl rfl rfl) fun _=>?_))
   rotate_left
   refine br rfl (zL rfl rfl rfl (nb hn rfl) underlying29 sz3 zr3 rfl rfl rfl (show _ = [.d (.int .i64 0)] from by kernel_rfl) (by kernel_rfl) rfl rfl rfl rfl rfl) fun _=>?_
   refine d2_of_d1 (zB (Ze [1] [12] hn rfl ?_))
   rotate_left
  rotate_left 2
  all_goals
   refine d2_of_d1 (zB (yE (i:=1083) (j:=16) rfl rfl rfl (fun hne1083_16=>?_)))
   refine Zo 17 rfl (s_append (id:=1083) rfl rfl rfl (nb hn rfl) elt29 trivial rfl rfl rfl (by simp [chunk]; omega) (by simp [chunk]; omega) (fun b hb=>(fun e=>hne1083_16 _ hb (congrArg some e.symm)))) fun v134=>?_
   refine d2_of_d1 (Zy [18] [] hn rfl (zB (yE (i:=12) (j:=16) rfl rfl rfl (fun hne12_16=>?_))))
   refine Zo 19 rfl (s_storeRow rfl rfl rfl rfl rfl (rid:=1083) rfl (id:=12) rfl sz29 (Nat.le_of_ble_eq_true rfl) rfl (fun e=>hne12_16 _ rfl (congrArg some e.symm))) fun _=>?_
   refine d2_of_d1 (zB (ze (by kernel_rfl) ?_))
   refine zP (zA (zG (Zt 1 [] hn rfl (Zs hn (za rfl rfl rfl (r:=((n + 1:Nat):Int)) (i64w (by omega) (by omega))) ?_))))
   refine Zt 1 [] hn rfl (zS ?_)
   exact Zr ⟨(n + 1,os ++ [o.mlo + (wrd ws (n + 7):Int).tmod (o.mhi - o.mlo + 1)],v134),by simp; omega⟩ ⟨.inl rfl,zF _⟩ ⟨.inl rfl,.inl (congrArg (fun z=>some (Res.row v134 3 1 z)) (by rw [List.map_append]; rfl)),zR _⟩ (by simp only; omega)
 obtain rfl:n = d.orders.length:=by simp at hb3; omega
 refine zU (zE (zE (zM (zA (zC (zp (gh_rowcell (id:=12) (k:=0) (rid:=1081) rfl rfl rfl) ?_))))))
 refine zp (gh_rowcell (id:=12) (k:=1) (rid:=1082) rfl rfl rfl) ?_
 refine zp (gh_rowcell (id:=12) (k:=2) (rid:=1083) rfl rfl rfl) ?_
 refine zh (W:=fun b=>b ≠ b2 ∧ b ≠ b12) fmo ?_
 refine Zy [0,1,2,3,4] [2,12,2,12] hn rfl (zB ?_)
 refine Ze1 5 rfl hn rfl ((by have h:=IsT4_ok (tldD d ws) (fltI (tldD d ws)) ⟨ps,ms,os⟩ v (show d.orders.length ≤ 1000 by omega) zC8.1 zC8.2; rw [hfl] at h; exact h)) ?_
 refine d2_of_d1 (zB (yE (i:=4) (j:=2) rfl rfl rfl (fun hne4_2=>?_)))
 refine yE (i:=4) (j:=12) rfl rfl rfl (fun hne4_12=>?_)
 refine Zo 6 rfl (zz rfl rfl rfl rfl rfl rfl (id:=4) rfl sz27 rfl (Nat.le_of_ble_eq_true rfl) rfl ⟨fun e=>hne4_2 _ rfl (congrArg some e.symm),fun e=>hne4_12 _ rfl (congrArg some e.symm)⟩) fun _=>?_
 refine d2_of_d1 (zB (yE (i:=5) (j:=2) rfl rfl rfl (fun hne5_2=>?_)))
 refine yE (i:=5) (j:=12) rfl rfl rfl (fun hne5_12=>?_)
 refine Zo 7 rfl (zz rfl rfl rfl rfl rfl rfl (id:=5) rfl sz31 rfl (Nat.le_of_ble_eq_true rfl) rfl ⟨fun e=>hne5_2 _ rfl (congrArg some e.symm),fun e=>hne5_12 _ rfl (congrArg some e.symm)⟩) fun _=>?_
 refine d2_of_d1 (Zy [8] [] hn rfl (zB (ze (by kernel_rfl) ?_)))
 refine zA (zJ ?_)
 exact ret_E (.inl rfl) ⟨(tldD d ws,⟨ps,ms,os⟩,isTB (tldD d ws) l ⟨ps,ms,os⟩),by rw [← hfl]; exact told_ok v hw q1 hb7 h0 (by rw [hfl]; exact ht)⟩ (zBv rfl (.d (.cellA rfl (id:=4) rfl underlying27 rfl sz27 rfl rfl)) (.d (.cellA rfl (id:=5) rfl underlying31 rfl sz31 rfl rfl)) (.tmp rfl)) trivial
end Go.Proofs.YticlpkgpmmhemaaGreatDoor
namespace Go.Proofs.YticlpkgpmmhemaaGreatDoor
open Go.RowKit
set_option linter.all false
theorem zEf {x:Dsk} {t:Tru} (h0:deskI x = 0) (hT:TruW x (readI x.b x.tape).1 t) (ht:timesB (readI x.b x.tape).1 = true) {os:List Int} (hos:∀ n ∈ os,0 ≤ n ∧ n < x.orders.length):sureO x os = 0:=by
  obtain ⟨hr0,ho5,hf,hob⟩:=yf h0
  obtain ⟨hpo,hl8⟩:=yk (b:=x.b) (s:=x.tape)
  have v:=yp hr0
  have h1:(os.all fun n=>withinB n 0 ((x.orders.length:Int) - 1)) = true:=List.all_eq_true.2 fun n hn=>zk.2 (by have:=hos n hn; omega)
  have h2:(pricesI x.b x.tape).2 = 0:=by
    obtain ⟨ms,hms⟩:=Option.isSome_iff_exists.1 ((y0 (out:=[]) (o:=0) kN v hpo).1.2 ⟨_,hT.tr⟩)
    unfold pricesI
    rw [hr0,hms]; rfl
  have h3:(minutesI x.b x.tape).2 = 0:=by
    unfold minutesI
    rw [hr0,zEG hpo,ht]; rfl
  unfold sureO
  rw [h0,h1,h2,h3]; rfl
theorem zHU {F:Nat → Int → Option Nat} {fee:Int} {o:Ord} {r:(Int × Int) × Bool} {n:Int} (hb:BndR F fee o r) (h:PriS F fee o (fun _=>True) n):r.2 = true ∧ r.1.1 ≤ n ∧ n ≤ r.1.2:=by
  rcases hb with ⟨_,h1⟩ | ⟨h0,⟨h1,h2⟩ | ⟨_,_,_,h2⟩⟩
  · exact (h1 n h).elim
  · rw [h1] at h0; cases h0
  · exact ⟨h0,h2 n h⟩
theorem zEz {d:Dsk} {l:List Prt} {mm:List (Int × Int)} (h:SurH d l mm) {j:Nat} {o:Ord} (hod:d.orders[j]? = some o):OddOK d.b l o:=⟨h.v,h.po,(zAc (h.ob o (List.mem_of_getElem? hod))).1,h.ex⟩
/-- How an order is filled in a truth, and what is so of it in all of them. -/
theorem fill_law {d : Dsk} {l : List Prt} {mm : List (Int × Int)} {t : Tru} (h : SurH d l mm) (hT : TruW d l t) {j : Nat} {o : Ord} (hod : d.orders[j]? = some o) :
    (fillGo d.fee o (t.orders.getD j 0) t.prices t.minutes 0 l = (-1,0) ∧ missI d.b l d.fee o mm = true) ∨
    ∃ k:Nat,k < l.length ∧ fillGo d.fee o (t.orders.getD j 0) t.prices t.minutes 0 l = ((k:Int),priceO d.fee o (t.prices.getD k 0)) ∧ saleB d.b l d.fee o mm k = true ∧ (bndI d.b l d.fee o mm).2 = true ∧ (bndI d.b l d.fee o mm).1.1 ≤ priceO d.fee o (t.prices.getD k 0) ∧ priceO d.fee o (t.prices.getD k 0) ≤ (bndI d.b l d.fee o mm).1.2:=by
  have hok:=zEz h hod
  have hod2:=hT.od j (List.getElem?_eq_some_iff.1 hod).1
  rw [zQ hod] at hod2
  have hmm:=h.mt
  subst hmm
  obtain ⟨hcl,hc⟩:=zGD hT.rm (t.orders.getD j 0) l.length (Nat.le_refl _)
  have hw:=wait_of h.po hT.rm hod2
  rcases zGX (fee:=d.fee) (o:=o) (ps:=t.prices) (ms:=t.minutes) (l:=l) (fr:=cntM l (fun j=>t.minutes.getD j 0) (t.orders.getD j 0) l.length) (a:=t.orders.getD j 0) hc with ⟨k,h1,h2⟩ | ⟨h1,h2⟩
  · right
    obtain ⟨c1,c2⟩:=zCr hok d.fee (timL l l.length) (cntM l (fun j=>t.minutes.getD j 0) (t.orders.getD j 0) l.length) k
    have hs:=c1.2 ⟨hw,_,hT.tr,h2⟩
    obtain ⟨m,hm⟩:=Option.isSome_iff_exists.1 hs
    have hb:=(hT.tr k h2.2.1).bd
    obtain ⟨p,hp⟩:∃ p:Nat,t.prices.getD k 0 = (p:Nat):=⟨(t.prices.getD k 0).toNat,by omega⟩
    have hb2:1 ≤ t.prices.getD k 0 ∧ t.prices.getD k 0 ≤ 799:=hb
    have hmb:=(c2 m hm p (by omega)).2 ⟨_,hT.tr,h2,hp⟩
    have hP:PriS (canO d.b l d.fee o (timL l l.length)) d.fee o (fun _=>True) (priceO d.fee o (t.prices.getD k 0)):=⟨_,(k:Nat),m,p,hm,by omega,trivial,by omega,hmb,by rw [hp]⟩
    obtain ⟨b1,b2,b3⟩:=zHU (zBM d.b l d.fee o (timL l l.length)) hP
    exact ⟨k,h2.2.1,h1,List.any_eq_true.2 ⟨_,List.mem_range.2 (by have:=h2.1; omega),hs⟩,b1,b2,b3⟩
  · left
    have hs:=(can_miss hok d.fee (timL l l.length) (cntM l (fun j=>t.minutes.getD j 0) (t.orders.getD j 0) l.length)).2 ⟨hcl,hw,_,hT.tr,h2⟩
    obtain ⟨m,hm⟩:=Option.isSome_iff_exists.1 hs
    exact ⟨h1,zEA.2 ⟨_,m,hm,trivial⟩⟩
/-- What the program answers about a desk with a truth. -/
structure TldF (x:Dsk) (t:Tru) (l:List Prt) (mm:List (Int × Int)) (fs bs:List (Int × Int)) (vs:List Int):Prop where
  S:SurH x l mm
  T:TruW x l t
  hl:(readI x.b x.tape).1 = l
  p:playI x t = (fs,0)
  b:boundsI x = (bs,0)
  v:verdsI x = (vs,0)
  fl:fs.length = x.orders.length
  bl:bs.length = x.orders.length
  vl:vs.length = x.orders.length
  pv:(deskI x == 0 && truthW x (readI x.b x.tape).1 t) = true
  su:∀ j:Nat,j < x.orders.length → sureO x [(j:Int)] = 0
  at_:∀ j o,x.orders[j]? = some o → fs[j]? = some (fillGo x.fee o (t.orders.getD j 0) t.prices t.minutes 0 l) ∧ bs[j]? = some (bndI x.b l x.fee o mm).1 ∧ vs[j]? = some (verdI x.b l x.fee o mm) ∧ salesI x (j:Nat) = (salesO x.b l x.fee o mm,0)
theorem zEF {x:Dsk} {t:Tru} (h0:deskI x = 0) (hT:TruW x (readI x.b x.tape).1 t) (ht:timesB (readI x.b x.tape).1 = true):∃ l mm fs bs vs,TldF x t l mm fs bs vs:=by
  have hs:=zEf h0 hT ht (os:=[]) (fun n hn=>by cases hn)
  obtain ⟨hS,_⟩:=kK hs
  have hw:=(zAm (yf h0).1).2 hT
  refine ⟨_,_,fillsN x.fee (readI x.b x.tape).1 t x.orders x.orders.length,(x.orders.map fun o=>(bndI x.b (readI x.b x.tape).1 x.fee o (minutesI x.b x.tape).1).1),(x.orders.map fun o=>verdI x.b (readI x.b x.tape).1 x.fee o (minutesI x.b x.tape).1),hS,hT,rfl,?_,?_,?_,yd _,?_,?_,?_,fun j hj=>zEf h0 hT ht (os:=[(j:Int)]) (fun n hn=>by simp at hn; omega),fun j o hod=>⟨?_,?_,?_,?_⟩⟩
  · unfold playI; rw [h0,hw]; rfl
  · unfold boundsI; rw [hs]; rfl
  · unfold verdsI; rw [hs]; rfl
  · simp
  · simp
  · rw [h0,hw]; rfl
  · have hj:=(List.getElem?_eq_some_iff.1 hod).1
    rw [zBb hj,zQ hod]
  · rw [List.getElem?_map,hod]; rfl
  · rw [List.getElem?_map,hod]; rfl
  · have hj:=(List.getElem?_eq_some_iff.1 hod).1
    have hs1:=zEf h0 hT ht (os:=[(j:Int)]) (fun n hn=>by simp at hn; omega)
    unfold salesI
    rw [hs1,Int.toNat_natCast,zQ hod]; rfl
end Go.Proofs.YticlpkgpmmhemaaGreatDoor
namespace Go.Proofs.YticlpkgpmmhemaaGreatDoor
open Go.RowKit
set_option maxRecDepth 20000
set_option linter.all false
set_option maxHeartbeats 4000000
theorem tld_get {d:Dsk} {x:Dsk} {t:Tru} (h:ToldP d (x,t,true)) (hN:NamesOK d.b):∃ l mm fs bs vs,TldF x t l mm fs bs vs ∧ NamesOK x.b ∧ x.tape.length ≤ 300 ∧ x.orders.length ≤ 8 ∧ x.b.stocks.length ≤ 7 ∧ t.prices.length ≤ 8 ∧ t.minutes.length ≤ 8 ∧ t.orders.length ≤ 8:=by
  obtain ⟨h1,h2,h3,h4,h5,h6⟩:=h.ok rfl
  obtain ⟨l,mm,fs,bs,vs,hF⟩:=zEF h4 h5 h6
  have e1:x.b = d.b:=h.b
  have e2:x.orders = d.orders:=h.os
  have hp:t.prices.length = (readI x.b x.tape).1.length:=h5.pl
  have hm:t.minutes.length = (readI x.b x.tape).1.length:=h5.ml
  have ho:t.orders.length = x.orders.length:=h5.ol
  have h8:=(yk (b:=x.b) (s:=x.tape)).2
  exact ⟨l,mm,fs,bs,vs,hF,by rw [e1]; exact hN,h2,by rw [e2]; exact h1,by rw [e1]; exact h3,by omega,by omega,by rw [ho,e2]; exact h1⟩
end Go.Proofs.YticlpkgpmmhemaaGreatDoor
namespace Go.Proofs.YticlpkgpmmhemaaGreatDoor
open Go.RowKit
set_option linter.all false
theorem bnd_some {d:Dsk} {l:List Prt} {mm:List (Int × Int)} (h:SurH d l mm) {j:Nat} {o:Ord} (hod:d.orders[j]? = some o):(bndI d.b l d.fee o mm).2 = true ↔ ∃ i,i < l.length ∧ saleB d.b l d.fee o mm i = true:=by
  have hok:=zEz h hod
  constructor
  · intro hb
    obtain ⟨fr,w,p,hg⟩:=zGt (high:=false) hb
    obtain ⟨m,hm,_⟩:=hg.ex
    obtain ⟨h1,h2,_⟩:=kJ hm
    exact ⟨w,h2,List.any_eq_true.2 ⟨fr,List.mem_range.2 (by omega),by rw [hm]; rfl⟩⟩
  · rintro ⟨i,hi,hs⟩
    obtain ⟨fr,_,hc⟩:=List.any_eq_true.1 hs
    obtain ⟨c1,c2⟩:=zCr hok d.fee mm fr i
    obtain ⟨_,f,hf,hH⟩:=c1.1 hc
    obtain ⟨m,hm⟩:=Option.isSome_iff_exists.1 hc
    have hb:=(hf i hi).bd
    obtain ⟨p,hp⟩:∃ p:Nat,f i = (p:Nat):=⟨(f i).toNat,by omega⟩
    have hmb:=(c2 m hm p (by omega)).2 ⟨f,hf,hH,hp⟩
    exact (zHU (n:=priceO d.fee o (p:Nat)) (zBM d.b l d.fee o mm) ⟨fr,(i:Nat),m,p,hm,by omega,trivial,by omega,hmb,rfl⟩).1
theorem zFB {d:Dsk} {l:List Prt} {mm:List (Int × Int)} {t:Tru} (h:SurH d l mm) (hT:TruW d l t) {j:Nat} {o:Ord} (hod:d.orders[j]? = some o):(verdI d.b l d.fee o mm = 2 ↔ (bndI d.b l d.fee o mm).2 = false) ∧ ((bndI d.b l d.fee o mm).2 = false ↔ salesO d.b l d.fee o mm = []):=by
  have hb:=bnd_some h hod
  have hf:=fill_law h hT hod
  refine ⟨?_,?_⟩
  · unfold verdI
    rcases hf with ⟨_,hm⟩ | ⟨_,_,_,_,hb2,_⟩
    · rw [hm]; cases (bndI d.b l d.fee o mm).2 <;> decide
    · rw [hb2]; cases missI d.b l d.fee o mm <;> decide
  · unfold salesO
    rw [List.map_eq_nil_iff,List.filter_eq_nil_iff,Bool.eq_false_iff,ne_eq,hb]
    constructor
    · exact fun h1 i hi h2=>h1 ⟨i,List.mem_range.1 hi,h2⟩
    · rintro h1 ⟨i,hi,h2⟩
      exact h1 i (List.mem_range.2 hi) h2
/-- An order waits from a sale on, and is filled by a sale, at a price, in a truth of the prices. -/
def PosP (b:Brd) (l:List Prt) (fee:Int) (o:Ord) (mm:List (Int × Int)) (n:Int) (i:Nat):Prop:=∃ (fr:Nat) (f:Nat → Int),waitsB o mm fr = true ∧ TruF b l 0 f ∧ HitP fee o l f fr i ∧ n = priceO fee o (f i)
theorem zGI {b:Brd} {l:List Prt} {fee:Int} {o:Ord} {mm:List (Int × Int)} (h:OddOK b l o) {n:Int}:PriS (canO b l fee o mm) fee o (fun _=>True) n ↔ ∃ i,PosP b l fee o mm n i:=by
  constructor
  · rintro ⟨fr,w,m,p,hm,hne,_,hp,hb,rfl⟩
    obtain ⟨_,h1⟩:=zBy hm
    rcases h1 with h1 | ⟨i,rfl,hi1,hi2⟩
    · exact (hne h1).elim
    · obtain ⟨c1,c2⟩:=zCr h fee mm fr i
      obtain ⟨hw,_⟩:=c1.1 (by rw [hm]; rfl)
      obtain ⟨f,hf,hH,hp2⟩:=(c2 m hm p hp).1 hb
      exact ⟨i,fr,f,hw,hf,hH,by rw [hp2]⟩
  · rintro ⟨i,fr,f,hw,hf,hH,rfl⟩
    obtain ⟨c1,c2⟩:=zCr h fee mm fr i
    obtain ⟨m,hm⟩:=Option.isSome_iff_exists.1 (c1.2 ⟨hw,f,hf,hH⟩)
    have hb:=(hf i hH.2.1).bd
    obtain ⟨p,hp⟩:∃ p:Nat,f i = (p:Nat):=⟨(f i).toNat,by omega⟩
    have hp8:p < 800:=by have:f i ≤ 799:=hb.2; omega
    exact ⟨fr,(i:Nat),m,p,hm,by omega,trivial,hp8,(c2 m hm p hp8).2 ⟨f,hf,hH,hp⟩,by rw [hp]⟩
theorem zG1 {b:Brd} {l:List Prt} {fee:Int} {o:Ord} {mm:List (Int × Int)} (h:OddOK b l o):(bndI b l fee o mm).2 = true ↔ ∃ n i,PosP b l fee o mm n i:=by
  rcases zBM b l fee o mm with ⟨h1,h2⟩ | ⟨h0,h1⟩
  · rw [h1]
    exact ⟨fun e=>(by cases e),fun ⟨n,i,hp⟩=>(h2 n ((zGI h).2 ⟨i,hp⟩)).elim⟩
  · rw [h0]
    refine ⟨fun _=>?_,fun _=>rfl⟩
    rcases h1 with ⟨e,_⟩ | ⟨_,k1,_⟩
    · rw [e] at h0; cases h0
    · obtain ⟨i,hi⟩:=(zGI h).1 k1; exact ⟨_,i,hi⟩
/-- The first sale by which it can be filled. -/
theorem hit_le {fee:Int} {o:Ord} {l:List Prt} {f:Nat → Int} {fr:Nat} (i:Nat):fr ≤ i → i < l.length → (l.getD i prt0).stock = o.stock → letsB fee o (f i) = true → ∃ j,j ≤ i ∧ HitP fee o l f fr j:=by
  induction i using Nat.strongRecOn with
  | ind i ih =>
    intro h1 h2 h3 h4
    by_cases h:∃ j,fr ≤ j ∧ j < i ∧ (l.getD j prt0).stock = o.stock ∧ letsB fee o (f j) = true
    · obtain ⟨j,k1,k2,k3,k4⟩:=h
      obtain ⟨k,hk,hH⟩:=ih j k2 k1 (by omega) k3 k4
      exact ⟨k,by omega,hH⟩
    · refine ⟨i,Nat.le_refl _,h1,h2,h3,h4,fun j k1 k2 k3=>?_⟩
      cases k5:letsB fee o (f j)
      · rfl
      · exact (h ⟨j,k1,k2,k3,k5⟩).elim
theorem lets_fee {fee:Int} {o:Ord} {p:Int} (h:letsB (fee + 1) o p = true):letsB fee o p = true:=by
  unfold letsB at h ⊢
  cases h0:o.limit == 0 <;> rw [h0] at h
  · simp only [cond_false] at h ⊢
    cases hb:o.buy <;> rw [hb] at h <;> simp only [cond_true,cond_false,decide_eq_true_eq] at h ⊢ <;> omega
  · rfl
/-- Looser Limits: what trades at the one trades at the other. -/
def LetsLe (fee fee':Int) (o o':Ord):Prop:=∀ p,letsB fee o p = true → letsB fee' o' p = true
theorem pos_le {b:Brd} {l:List Prt} {fee fee':Int} {o o':Ord} {mm:List (Int × Int)} {n:Int} {i:Nat} (hle:LetsLe fee fee' o o') (hs:o'.stock = o.stock) (hm:∀ fr,waitsB o mm fr = true → waitsB o' mm fr = true) (h:PosP b l fee o mm n i):∃ n' j,j ≤ i ∧ PosP b l fee' o' mm n' j:=by
  obtain ⟨fr,f,hw,hf,hH,_⟩:=h
  obtain ⟨j,hj,hH2⟩:=hit_le (fee:=fee') (o:=o') (fr:=fr) i hH.1 hH.2.1 (by rw [hs]; exact hH.2.2.1) (hle _ hH.2.2.2.1)
  exact ⟨_,j,hj,fr,f,hm fr hw,hf,hH2,rfl⟩
/-- With a Fee that is greater by 1. -/
theorem fill_fee {fee:Int} {o:Ord} {m:Int} {ps ms:List Int} (h0:o.limit = 0):∀ (l:List Prt) (i:Nat),(fillGo fee o m ps ms i l = (-1,0) ∧ fillGo (fee + 1) o m ps ms i l = (-1,0)) ∨ ∃ k:Nat,fillGo fee o m ps ms i l = ((k:Int),priceO fee o (ps.getD k 0)) ∧ fillGo (fee + 1) o m ps ms i l = ((k:Int),priceO (fee + 1) o (ps.getD k 0))
  | [],_=>.inl ⟨rfl,rfl⟩
  | s :: r,i=>by
    have e:∀ fee p,letsB fee o p = true:=fun fee p=>by unfold letsB; rw [h0]; rfl
    unfold fillGo
    rw [e,e,Bool.and_true]
    cases s.stock == o.stock && decide (m < ms.getD i 0)
    · exact fill_fee h0 r (i + 1)
    · exact .inr ⟨i,rfl,rfl⟩
theorem price_fee {fee:Int} {o:Ord} {p:Int}:priceO (fee + 1) o p = bif o.buy then priceO fee o p + 1 else max 0 (priceO fee o p - 1):=by
  unfold priceO
  cases o.buy <;> simp only [cond_true,cond_false] <;> omega
/-- A desk is valid if all its parts are. -/
theorem desk_of {d:Dsk} (h1:(readI d.b d.tape).2 = 0) (h2:d.orders.length ≤ 5) (h3:0 ≤ d.fee ∧ d.fee ≤ 4) (h4:∀ o ∈ d.orders,ordB d.b o = true):deskI d = 0:=by
  unfold deskI
  rw [h1,show decide (5 < (d.orders.length:Int)) = false from decide_eq_false (by omega),zk.2 h3,List.all_eq_true.2 h4]; rfl
/-- Another desk on the same tape, with a truth of its own. -/
theorem tld_mod {x y:Dsk} {t u:Tru} {l:List Prt} {mm fs bs:List (Int × Int)} {vs:List Int} (hF:TldF x t l mm fs bs vs) (hb:y.b = x.b) (ht:y.tape = x.tape) (ho5:y.orders.length ≤ 5) (hfe:0 ≤ y.fee ∧ y.fee ≤ 4) (hob:∀ o ∈ y.orders,ordB y.b o = true) (hu:TruW y l u):∃ fs bs vs,TldF y u l mm fs bs vs:=by
  have hl:(readI y.b y.tape).1 = l:=by rw [hb,ht]; exact hF.hl
  have h0:deskI y = 0:=desk_of (by rw [hb,ht,hF.S.hr]) ho5 hfe hob
  obtain ⟨l',mm',fs',bs',vs',hF'⟩:=zEF h0 (by rw [hl]; exact hu) (by rw [hl]; exact hF.S.tb)
  obtain rfl:l' = l:=hF'.hl.symm.trans hl
  have e1:=hF'.S.hmi
  have e2:=hF.S.hmi
  rw [hb,ht] at e1
  obtain rfl:mm' = mm:=congrArg Prod.fst (e1.symm.trans e2)
  exact ⟨fs',bs',vs',hF'⟩
/-- The desk with a Fee that is greater by 1. -/
@[reducible] def feeD (x:Dsk):Dsk:=⟨x.b,x.tape,x.fee + 1,x.orders⟩
theorem fee_tld {x:Dsk} {t:Tru} {l:List Prt} {mm fs bs:List (Int × Int)} {vs:List Int} (hF:TldF x t l mm fs bs vs) (h:x.fee < 4):∃ fs2 bs2 vs2,TldF (feeD x) t l mm fs2 bs2 vs2 :=
  tld_mod (y:=feeD x) (u:=t) hF rfl rfl hF.S.o5 (by have:=hF.S.fe; show 0 ≤ x.fee + 1 ∧ x.fee + 1 ≤ 4; omega) hF.S.ob ⟨hF.T.pl,hF.T.tr,hF.T.ml,hF.T.rm,hF.T.ol,hF.T.od⟩
theorem fee_verd {x:Dsk} {t:Tru} {l:List Prt} {mm fs bs fs2 bs2:List (Int × Int)} {vs vs2:List Int} (hF:TldF x t l mm fs bs vs) (hF2:TldF (feeD x) t l mm fs2 bs2 vs2) {j:Nat} {o:Ord} (hod:x.orders[j]? = some o) (hv:verdI x.b l x.fee o mm = 2):verdI x.b l (x.fee + 1) o mm = 2:=by
  have h1:=(zFB hF.S hF.T hod).1.1 hv
  refine (zFB hF2.S hF2.T (j:=j) hod).1.2 ?_
  show (bndI x.b l (x.fee + 1) o mm).2 = false
  cases hb:(bndI x.b l (x.fee + 1) o mm).2
  · rfl
  · obtain ⟨n,i,hp⟩:=(zG1 (zEz hF2.S (j:=j) hod)).1 hb
    obtain ⟨n',k,_,hp'⟩:=pos_le (fun p h=>lets_fee h) rfl (fun _ h=>h) hp
    rw [(zG1 (zEz hF.S hod)).2 ⟨n',k,hp'⟩] at h1; cases h1
theorem fee_fill {fee:Int} {o:Ord} {m:Int} {ps ms:List Int} {l:List Prt} (h0:o.limit = 0):(fillGo (fee + 1) o m ps ms 0 l).1 = (fillGo fee o m ps ms 0 l).1 ∧ (0 ≤ (fillGo fee o m ps ms 0 l).1 → (fillGo (fee + 1) o m ps ms 0 l).2 = bif o.buy then (fillGo fee o m ps ms 0 l).2 + 1 else max 0 ((fillGo fee o m ps ms 0 l).2 - 1)):=by
  rcases fill_fee (fee:=fee) (m:=m) (ps:=ps) (ms:=ms) h0 l 0 with ⟨e1,e2⟩ | ⟨k,e1,e2⟩
  · rw [e1,e2]; exact ⟨rfl,fun h=>(by cases h)⟩
  · rw [e1,e2]; exact ⟨rfl,fun _=>price_fee⟩
theorem tru_pb {x:Dsk} {l:List Prt} {t:Tru} (h:TruW x l t):∀ p ∈ t.prices,0 ≤ p ∧ p ≤ 1000:=fun p hp=>by
  obtain ⟨i,hi⟩:=List.getElem?_of_mem hp
  have hil:=(List.getElem?_eq_some_iff.1 hi).1
  have hb:=(h.tr i (by rw [← h.pl]; exact hil)).bd
  rw [zQ hi] at hb
  have h1:1 ≤ p ∧ p ≤ 799:=hb
  omega
end Go.Proofs.YticlpkgpmmhemaaGreatDoor
namespace Go.Proofs.YticlpkgpmmhemaaGreatDoor
open Go.Proofs.Tryz
open Go.RowKit
set_option maxRecDepth 20000
set_option linter.all false
set_option maxHeartbeats 4000000
theorem OddFee_eff (d:Dsk) (ws:List Int) (hN:NamesOK d.b) (hw:WdsOK ws):EffAt Tryz.prog 9 [.d (dskD d),.d (wdsD ws)] [] (X:=Unit) (fun _=>.d (.bool true)) (fun _=>[]):=by
 refine EffAt.of_awp Tryz.func9 rfl (by kernel_rfl) rfl fun Γ hn=>?_
 refine Zu (Zb 2 hn rfl fun b2=>Zt 1 [] hn rfl (Zv (Zu (Zt 2 [2] hn rfl ?_))))
 refine stepW (s_callE (Told_eff d ws hN hw) rfl rfl rfl (nb hn rfl) (.d rfl) rfl (.refl _) trivial (fun _=>rfl) (fun _ _=>trivial)) fun ⟨⟨x,t,isb⟩,hTp⟩=>?_
 refine Zt 4 [] hn rfl (Zb 5 hn rfl fun b5=>Zb 6 hn rfl fun b6=>Zt 3 [5,6] hn rfl (Zv (zC (Zu (Zt 7 [5] hn rfl (Zv (zH rfl (fun hb0=>?_) (fun hb0=>?_))))))))
 refine Zu (Zk hn rfl (zDl) (Zt 1 [] hn rfl (Zv (zJ (zD ?_)))))
 exact ret_E (.inl rfl) () (zx rfl (.tmp rfl)) trivial
 obtain ⟨rfl,hfe⟩:isb = true ∧ x.fee < 4:=by have h:=hb0; simp only [Bool.or_eq_false_iff,Bool.not_eq_false',decide_eq_false_iff_not] at h; exact ⟨h.1,by omega⟩
 obtain ⟨l,mm,fs,bs,vs,hF,hN2,hx3,hx8,hx7,htp,htm,hto⟩:=tld_get hTp hN
 have hfl:=hF.fl
 have hbl:=hF.bl
 have hvl:=hF.vl
 have hl8:=hF.S.l8
 obtain ⟨fs2,bs2,vs2,hF2⟩:=fee_tld hF hfe
 have hfl2:fs2.length = x.orders.length:=hF2.fl
 have hvl2:vs2.length = x.orders.length:=hF2.vl
 have hfe0:=hF.S.fe
 have hpb:=tru_pb hF.T
 refine zI (zA (Zu (Zt 1 [5] hn rfl (Zb 8 hn rfl fun b8=>Zt 1 [8] hn rfl (Zv (Zu (Zt 2 [8] hn rfl (Zs hn (za rfl rfl rfl (r:=x.fee + 1) (i64w (by dsimp only; omega) rfl)) ?_))))))))
 refine Zt 1 [] hn rfl (stepW (s_store1 rfl rfl rfl rfl rfl rfl (id:=8) rfl sz3 (Nat.le_of_ble_eq_true rfl) rfl trivial) fun _=>?_)
 refine Zv (zC (zh (W:=fun b=>b ≠ b5 ∧ b ≠ b6) fmo ?_))
 refine Zy [0,2] [5,6] hn rfl (zB (Ze1 1 rfl hn rfl (zBp x (by omega) (by omega)) (d2_of_d1 (zB (Ze1 3 rfl hn rfl (zEB t (by omega) (by omega) (by omega)) (d2_of_d1 (zB (Ze1 4 rfl hn rfl ((by have h:=zB3 x hN2 (by omega) (by omega) t; rw [hF.p] at h; exact h)) ?_))))))))
 refine d2_of_d1 (Zy [5,6,7,8,9] [] hn rfl (zB (ze (by kernel_rfl) ?_)))
 refine zA (zC (zh (W:=fun b=>b ≠ b6 ∧ b ≠ b8) fmo ?_))
 refine Zy [0,2] [8,6] hn rfl (zB (Ze1 1 rfl hn rfl (zBp (feeD x) (by dsimp only; omega) (by dsimp only; omega)) (d2_of_d1 (zB (Ze1 3 rfl hn rfl (zEB t (by omega) (by omega) (by omega)) (d2_of_d1 (zB (Ze1 4 rfl hn rfl ((by have h:=zB3 (feeD x) hN2 (by dsimp only; omega) (by dsimp only; omega) t; rw [hF2.p] at h; exact h)) ?_))))))))
 refine d2_of_d1 (Zy [5,6,7,8,9] [] hn rfl (zB (ze (by kernel_rfl) ?_)))
 refine zA (Zu (Zt 1 [5] hn rfl (Zk hn rfl (zBp x (by omega) (by omega)) (Zk hn rfl ((by have h:=zAi x hN2 (by omega) (by omega); rw [hF.v] at h; exact h)) ?_))))
 refine Zt 5 [] hn rfl (Zv (Zu (Zt 1 [8] hn rfl (Zk hn rfl (zBp (feeD x) (by dsimp only; omega) (by dsimp only; omega)) (Zk hn rfl ((by have h:=zAi (feeD x) hN2 (by dsimp only; omega) (by dsimp only; omega); rw [hF2.v] at h; exact h)) ?_)))))
 refine Zt 5 [] hn rfl (Zv (zC (Zu (Zt 43 [5] hn rfl (Zv (zH rfl (fun hb1=>?_) (fun hb1=>?_)))))))
 exact absurd hb1 (by simp [hfl,hfl2,hvl,hvl2])
 refine zI (zA (zC (Zu (Zt 1 [] hn rfl (Zv (zK (awp_loop_on (ι:={i:Nat // i ≤ x.orders.length}) (fun z=>(17,true,.d (.int .i64 (z.1:Nat))) :: anys [110,111,112,113,116,117,118,119,120,18,121,122,123,124,125,126,127,128,129,130,131,132,133,134,135,136,137,138,139,140,141,142,143,144,145,146,147,148,149,150,151,152,153,154,155,156,157,158,159,160,161,162,163,164,165,166,167,168,169,170,171,172,173,174,175,176,177,178,179,180,181,182,183,184,185,186,187,188,189,190,191,192,114,115]) (fun z=>gones [18]) (fun z=>x.orders.length - z.1) ⟨0,Nat.zero_le _⟩ ⟨.inl rfl,zF _⟩ (zR _) ?_)))))))
 rintro ⟨i,hi⟩
 dsimp only
 refine zC (Zu (Zt 4 [] hn rfl (Zv (zH rfl (fun hb2=>?_) (fun hb2=>?_)))))
 have hil:i < x.orders.length:=by simp [hfl] at hb2; omega
 obtain ⟨o,hod⟩:=zT hil
 have hob:=zAc (hF.S.ob o (List.mem_of_getElem? hod))
 obtain ⟨hf,_,hv2,_⟩:=hF.at_ i o hod
 obtain ⟨hf2,_,hv3,_⟩:=hF2.at_ i o hod
 have hvv:=fee_verd hF hF2 hod
 have hff:=fee_fill (fee:=x.fee) (o:=o) (m:=t.orders.getD i 0) (ps:=t.prices) (ms:=t.minutes) (l:=l)
 have hfb:=zCo (fee:=x.fee) (o:=o) (m:=t.orders.getD i 0) (ms:=t.minutes) hfe0 hpb (l:=l) (i:=0)
 have hgb:=zCo (fee:=x.fee + 1) (o:=o) (m:=t.orders.getD i 0) (ms:=t.minutes) (by omega) hpb (l:=l) (i:=0)
 dsimp only at hf2 hv3
 generalize fillGo x.fee o (t.orders.getD i 0) t.prices t.minutes 0 l = f at hf hff hfb
 generalize fillGo (x.fee + 1) o (t.orders.getD i 0) t.prices t.minutes 0 l = g at hf2 hff hgb
 refine zI (zA (zC (zK (Zu (Zt 3 [5] hn rfl (Zi (i:=i) hn rfl rfl (mget hod) ?_))))))
 refine Zt 1 [] hn rfl (Zb 18 hn rfl fun b18=>Zt 1 [18] hn rfl (Zv (zC (Zu (Zt 3 [18] hn rfl (Zv (zH rfl (fun hb3=>?_) (fun hb3=>?_))))))))
 refine zC (Zu (Zt 2 [] hn rfl (Zi (i:=i) hn rfl rfl (mget hv2) ?_)))
 refine Zt 5 [] hn rfl ?_
 refine Zh [(130,_),(131,_)] (zN rfl rfl rfl) hn (fun hc=>⟨⟨_,rfl,hc⟩,⟨_,rfl,hc⟩,trivial⟩) (fun hc=>q_index (i:=i) rfl rfl rfl underlying29 sz3 rfl (mget hv3)) ?_
 refine Zt 3 [] hn rfl (Zv (zH rfl (fun hb4=>?_) (fun hb4=>?_)))
 exact absurd hb4 (by intro h; have h6:=Bool.and_eq_true_iff.1 h; have h7:=hvv (by simpa using h6.1); simp [h7] at h6)
 refine zI (zA (zU (zE (zM (zA (zG (Zt 1 [] hn rfl (Zs hn (za rfl rfl rfl (r:=((i + 1:Nat):Int)) (i64w (by omega) (by omega))) ?_))))))))
 refine Zt 1 [] hn rfl (zS ?_)
 exact Zr ⟨i + 1,by omega⟩ ⟨.inl rfl,zF _⟩ (zR _) (by simp only; omega)
 have h0:o.limit = 0:=by have h:=hb3; simp at h; omega
 obtain ⟨k1,k2⟩:=hff h0
 refine zI (zA (zC (zh (W:=fun b=>b ≠ b18) fmo ?_)))
 refine Zy [0,1] [] hn rfl (Zd 2 rfl hn (q_index (i:=i) rfl rfl rfl underlying53 sz68 rfl (mget hf)) ?_)
 refine Zy [3,4,5,6] [] hn rfl (Zd 7 rfl hn (q_index (i:=i) rfl rfl rfl underlying53 sz68 rfl (mget hf2)) ?_)
 refine Zy [8,9,10,11,12,13] [] hn rfl ?_
 refine Zg 14 [(148,_),(149,_)] rfl (zN rfl rfl rfl) hn (fun hc=>⟨⟨_,rfl,hc⟩,⟨_,rfl,hc⟩,trivial⟩) (fun hc=>q_index (i:=i) rfl rfl rfl underlying53 sz68 rfl (mget hf)) ?_
 refine Zy [15,16,17,18,19,20,21,22,23] [18] hn rfl ?_
 refine Zg 24 [(158,_),(159,_)] rfl (zN rfl rfl rfl) hn (fun hc=>⟨⟨_,rfl,hc⟩,⟨_,rfl,hc⟩,trivial⟩) (fun hc=>q_index (i:=i) rfl rfl rfl underlying53 sz68 rfl (mget hf2)) ?_
 refine Zy [25,26,27,28] [] hn rfl ?_
 refine Zg 29 [(163,_),(164,_)] rfl (zN rfl rfl rfl) hn (fun hc=>⟨⟨_,rfl,hc⟩,⟨_,rfl,hc⟩,trivial⟩) (fun hc=>q_index (i:=i) rfl rfl rfl underlying53 sz68 rfl (mget hf)) ?_
 refine Zy [30,31] [] hn rfl ?_
 refine Zg 32 [(167,_)] rfl (zN rfl rfl rfl) hn (fun hc=>⟨⟨_,rfl,hc⟩,trivial⟩) (fun hc=>za rfl rfl rfl (i64w (by omega) rfl)) ?_
 refine Zy [33,34,35,36,37,38,39,40,41] [18] hn rfl ?_
 refine Zg 42 [(176,_),(177,_)] rfl (zN rfl rfl rfl) hn (fun hc=>⟨⟨_,rfl,hc⟩,⟨_,rfl,hc⟩,trivial⟩) (fun hc=>q_index (i:=i) rfl rfl rfl underlying53 sz68 rfl (mget hf2)) ?_
 refine Zy [43,44,45,46] [] hn rfl ?_
 refine Zg 47 [(181,_),(182,_)] rfl (zN rfl rfl rfl) hn (fun hc=>⟨⟨_,rfl,hc⟩,⟨_,rfl,hc⟩,trivial⟩) (fun hc=>q_index (i:=i) rfl rfl rfl underlying53 sz68 rfl (mget hf)) ?_
 refine Zy [48,49] [] hn rfl ?_
 refine Zg 50 [(185,_)] rfl (zN rfl rfl rfl) hn (fun hc=>⟨⟨_,rfl,hc⟩,trivial⟩) (fun hc=>yC rfl rfl rfl (i64w (by omega) rfl)) ?_
 refine Zg 51 [(186,_)] rfl (zN rfl rfl rfl) hn (fun hc=>⟨⟨_,rfl,hc⟩,trivial⟩) (fun hc=>kB rfl rfl rfl) ?_
 refine Zy [52,53,54,55,56] [] hn rfl (zB (ze (by kernel_rfl) ?_))
 refine zA (zH rfl (fun hb5=>?_) (fun hb5=>?_))
 exact absurd hb5 (by rw [k1]; by_cases h1:0 ≤ f.1; rw [k2 h1]; cases o.buy <;> simp; simp; omega)
 refine zI (zP (zA (zG (Zt 1 [] hn rfl (Zs hn (za rfl rfl rfl (r:=((i + 1:Nat):Int)) (i64w (by omega) (by omega))) ?_)))))
 refine Zt 1 [] hn rfl (zS ?_)
 exact Zr ⟨i + 1,by omega⟩ ⟨.inl rfl,zF _⟩ (zR _) (by simp only; omega)
 obtain rfl:i = x.orders.length:=by simp [hfl] at hb2; omega
 refine zU (zE (zE (zM (zA (Zu (Zk hn rfl (zDl) (Zt 1 [] hn rfl (Zv (zJ ?_)))))))))
 exact ret_E (.inl rfl) () (zx rfl (.tmp rfl)) trivial
theorem OddFee_ok (d:Dsk) (ws:List Int) (hN:NamesOK d.b) (hw:WdsOK ws):PureAt Tryz.prog 9 [dskD d,wdsD ws] (.bool true):=PureAt.of_eff (ds:=[dskD d,wdsD ws]) (OddFee_eff d ws hN hw)
end Go.Proofs.YticlpkgpmmhemaaGreatDoor
