/-
  A part of the proof that contangolaw.OddLimit returns true: what the last text needs, and no more. No condition: no statement of the seat is proved here.
-/
import Derived.Test.YticlpkgpmmhemaaGreatDoorOddLimitO
namespace Go.Proofs.YticlpkgpmmhemaaGreatDoor
open Go.Proofs.Tryz
open Go.RowKit
set_option maxRecDepth 20000
set_option linter.all false
set_option maxHeartbeats 4000000
def lateS:List UInt8:=[64,53,32,65,66,32,51,115,32,56,46,50,32,76,49,45,50,32,64,55,32,56,46,53,32,67,32,48,46,49,32,33,32,64,56,32,48,46,55,32,63]
def latL4:List Prt:=[⟨0,3,3,66,false,5,0,0⟩,⟨0,1,1,69,false,7,1,2⟩,⟨1,1,1,1,false,7,1,2⟩,⟨1,1,4,7,false,8,1,2⟩]
def twoB:Brd:=⟨[⟨[65,66],300,310⟩,⟨[67],75,79⟩],10,4⟩
def thrO:List Ord:=[⟨true,0,10,0,4,5⟩,⟨false,0,20,308,5,5⟩,⟨true,1,30,85,4,6⟩]
def threeD:Dsk:=⟨twoB,lateS,1,thrO⟩
def toldT:Tru:=⟨[306,309,81,87],[5,6,6,7],[5,5,6]⟩
def lateM:List (Int × Int):=[(5,5),(5,6),(5,6),(6,7)]
theorem two_valid:checkT twoB = 0:=by kernel_rfl
theorem zAX:readI twoB lateS = (latL4,0):=by rw [← zBr two_valid]; kernel_rfl
theorem t_prices:(pricesI twoB lateS).2 = 0:=by unfold pricesI; rw [zAX]; kernel_rfl
theorem zAg:minutesI twoB lateS = (lateM,0):=by unfold minutesI; rw [zAX]; kernel_rfl
theorem zGH:deskI threeD = 0:=by unfold deskI; rw [show readI threeD.b threeD.tape = (latL4,0) from zAX]; kernel_rfl
theorem zEp (os:List Int) (h:(os.all fun n=>withinB n 0 ((threeD.orders.length:Int) - 1)) = true):sureO threeD os = 0:=by
  unfold sureO
  rw [zGH,h,show (pricesI threeD.b threeD.tape).2 = 0 from t_prices,show minutesI threeD.b threeD.tape = (lateM,0) from zAg]; rfl
theorem t_sales0:salesI threeD 0 = ([0,1],0):=by
  unfold salesI
  rw [zEp [0] (by kernel_rfl),show readI threeD.b threeD.tape = (latL4,0) from zAX,show minutesI threeD.b threeD.tape = (lateM,0) from zAg]; kernel_rfl
theorem t_bounds:boundsI threeD = ([(307,310),(308,308),(82,82)],0):=by
  unfold boundsI
  rw [zEp [] (by kernel_rfl),show readI threeD.b threeD.tape = (latL4,0) from zAX,show minutesI threeD.b threeD.tape = (lateM,0) from zAg]; kernel_rfl
theorem t_verds:verdsI threeD = ([3,3,3],0):=by
  unfold verdsI
  rw [zEp [] (by kernel_rfl),show readI threeD.b threeD.tape = (latL4,0) from zAX,show minutesI threeD.b threeD.tape = (lateM,0) from zAg]; kernel_rfl
theorem t_truth:truthW threeD (readI threeD.b threeD.tape).1 toldT = true:=by
  unfold truthW
  rw [zEN,show readI threeD.b threeD.tape = (latL4,0) from zAX]; kernel_rfl
theorem zHb:playI threeD toldT = ([(1,310),(1,308),(-1,0)],0):=by
  unfold playI
  rw [zGH,t_truth,show readI threeD.b threeD.tape = (latL4,0) from zAX]; kernel_rfl
theorem t_has:hasI threeD toldT = ([10,0],-3060,0):=by unfold hasI; rw [zHb]; kernel_rfl
theorem t_show {x:Tru × Int} (h:ShowR threeD 0 true x.1 x.2):∃ t,x = (t,0) ∧ (deskI threeD == 0 && truthW threeD (readI threeD.b threeD.tape).1 t) = true:=by
  have hb:(bndI threeD.b (readI threeD.b threeD.tape).1 threeD.fee (threeD.orders.getD (0:Int).toNat ord0) (minutesI threeD.b threeD.tape).1).2 = true:=by
    rw [show readI threeD.b threeD.tape = (latL4,0) from zAX,show minutesI threeD.b threeD.tape = (lateM,0) from zAg]; kernel_rfl
  obtain ⟨t,e⟩:=x
  have he:e = 0:=by
    change ShowR threeD 0 true t e at h
    cases h with
    | bad h1=>exact (h1 (zEp [0] (by kernel_rfl))).elim
    | no _ h2=>rw [hb] at h2; cases h2
    | yes=>rfl
  subst he
  obtain ⟨_,hT,_⟩:=show_yes (d:=threeD) (q:=0) (o:=⟨true,0,10,0,4,5⟩) (high:=true) rfl h
  exact ⟨t,rfl,by rw [zGH,(zAl (by rw [show readI threeD.b threeD.tape = (latL4,0) from zAX])).2 hT]; rfl⟩
theorem yu:NamesOK threeD.b:=fun s hs=>by
  have hs:s ∈ [(⟨[65,66],300,310⟩:Stk),⟨[67],75,79⟩]:=hs
  simp only [List.mem_cons,List.not_mem_nil,or_false] at hs
  rcases hs with rfl | rfl <;> simp
theorem kK :PureAt Tryz.prog 69 [] (dskD threeD):=by
 refine Zp Tryz.func69 rfl fun Γ hn hl=>?_
 refine Zu ?_
 refine Zb 0 hn rfl fun b0=>?_
 refine Zv (Zu ?_)
 refine Zt 4 [] hn rfl ?_
 refine stepW (zL rfl rfl rfl (nb hn rfl) underlying22 sz98 zr98 rfl rfl rfl (show _ = [.d (.str ⟨#[]⟩),.d (.int .i64 0),.d (.int .i64 0),.d (.str ⟨#[]⟩),.d (.int .i64 0),.d (.int .i64 0)] from by kernel_rfl) (by kernel_rfl) rfl rfl rfl rfl rfl) fun _=>?_
 refine Zt 1 [] hn rfl ?_
 refine Zk hn rfl (zDA twoB (by decide)) ?_
 refine Zk hn rfl (y6 _ _) ?_
 refine Zt 1 [] hn rfl ?_
 refine Zk hn rfl (y6 _ _) ?_
 refine Zt 1 [] hn rfl ?_
 refine Zk hn rfl (y6 _ _) ?_
 refine Zt 1 [] hn rfl ?_
 refine stepW (zL rfl rfl rfl (nb hn rfl) underlying49 sz152 zr152 rfl rfl rfl (show _ = [.d (.bool false),.d (.int .i64 0),.d (.int .i64 0),.d (.int .i64 0),.d (.int .i64 0),.d (.int .i64 0),.d (.bool false),.d (.int .i64 0),.d (.int .i64 0),.d (.int .i64 0),.d (.int .i64 0),.d (.int .i64 0),.d (.bool false),.d (.int .i64 0),.d (.int .i64 0),.d (.int .i64 0),.d (.int .i64 0),.d (.int .i64 0)] from by kernel_rfl) (by kernel_rfl) rfl rfl rfl rfl rfl) fun _=>?_
 refine Zt 2 [0] hn rfl ?_
 refine Zv (zJ ?_)
 exact zY (.inl rfl) hl rfl (.cellA rfl (id:=0) rfl underlying51 rfl sz51 rfl rfl)
theorem zFU :PureAt Tryz.prog 70 [] (truD toldT):=by
 refine Zp Tryz.func70 rfl fun Γ hn hl=>?_
 refine Zu ?_
 refine Zb 0 hn rfl fun b0=>?_
 refine Zv (Zu ?_)
 refine stepW (zL rfl rfl rfl (nb hn rfl) underlying29 sz3 zr3 rfl rfl rfl (show _ = [.d (.int .i64 0),.d (.int .i64 0),.d (.int .i64 0),.d (.int .i64 0)] from by kernel_rfl) (by kernel_rfl) rfl rfl rfl rfl rfl) fun _=>?_
 refine stepW (zL rfl rfl rfl (nb hn rfl) underlying29 sz3 zr3 rfl rfl rfl (show _ = [.d (.int .i64 0),.d (.int .i64 0),.d (.int .i64 0),.d (.int .i64 0)] from by kernel_rfl) (by kernel_rfl) rfl rfl rfl rfl rfl) fun _=>?_
 refine stepW (zL rfl rfl rfl (nb hn rfl) underlying29 sz3 zr3 rfl rfl rfl (show _ = [.d (.int .i64 0),.d (.int .i64 0),.d (.int .i64 0)] from by kernel_rfl) (by kernel_rfl) rfl rfl rfl rfl rfl) fun _=>?_
 refine Zt 2 [0] hn rfl ?_
 refine Zv (zJ ?_)
 exact zY (.inl rfl) hl rfl (.cellA rfl (id:=0) rfl underlying56 rfl sz56 rfl rfl)
theorem awake4_eff :EffAt Tryz.prog 45 [] [] (X:=Unit) (fun _=>.d (.bool true)) (fun _=>[]):=by
 refine EffAt.of_awp Tryz.func45 rfl (by kernel_rfl) rfl fun Γ hn=>?_
 refine Zu ?_
 refine Zt 1 [] hn rfl ?_
 refine Zv (Zu ?_)
 refine Zk hn rfl (kK) ?_
 refine Zk hn rfl ((by have h:=Sales4_ok threeD yu (by decide) (by decide) 0; rw [t_sales0] at h; exact h)) ?_
 refine Zt 5 [] hn rfl ?_
 refine Zv (Zu ?_)
 refine Zk hn rfl (kK) ?_
 refine Zk hn rfl ((by have h:=Bounds4_ok threeD yu (by decide) (by decide); rw [t_bounds] at h; exact h)) ?_
 refine Zt 5 [] hn rfl ?_
 refine Zv (Zu ?_)
 refine Zk hn rfl (kK) ?_
 refine Zk hn rfl ((by have h:=zAu threeD yu (by decide) (by decide); rw [t_verds] at h; exact h)) ?_
 refine Zt 5 [] hn rfl ?_
 refine Zv (Zu ?_)
 refine Zk hn rfl (kK) ?_
 refine Zk hn rfl (zFU) ?_
 refine Zk hn rfl ((by have h:=zBC threeD yu (by decide) (by decide) toldT; rw [zHb] at h; exact h)) ?_
 refine Zt 5 [] hn rfl ?_
 refine Zv (Zu ?_)
 refine Zk hn rfl (kK) ?_
 refine Zk hn rfl (zFU) ?_
 refine Zk hn rfl ((by have h:=Has4_ok threeD yu (by decide) (by decide) toldT; rw [t_has] at h; exact h)) ?_
 refine Zt 7 [] hn rfl ?_
 refine Zv (Zu ?_)
 refine Zk hn rfl (kK) ?_
 refine stepW (s_callE (Show4_eff threeD yu (by decide) (by decide) 0 true) rfl rfl rfl (nb hn rfl) (.d rfl) rfl (.refl _) trivial (fun _=>rfl) (fun _ _=>trivial)) fun ⟨xx,hxx⟩=>?_
 obtain ⟨tt,rfl,hpt⟩:=t_show hxx
 refine Zt 3 [] hn rfl ?_
 refine Zb 12 hn rfl fun b12=>?_
 refine Zt 2 [12] hn rfl ?_
 refine Zv (zC ?_)
 refine ze (W:=fun b=>b ≠ b12) fmo ?_
 refine d1q (i:=0) rfl (by as_aux_lemma=>kernel_rfl) (fun _ _ _ _ h=>h) rfl rfl hn rfl (zu rfl rfl) ?_
 refine d1q (i:=1) rfl (by as_aux_lemma=>kernel_rfl) (fun _ _ _ _ h=>h) rfl rfl hn rfl (yS (tv':=.d (.bool true)) (zBK rfl rfl rfl) rfl) ?_
 refine d1q (i:=2) rfl (by as_aux_lemma=>kernel_rfl) (fun _ _ _ _ h=>h) rfl rfl hn rfl (zu rfl rfl) ?_
 refine d1g (i:=3) [] rfl (by as_aux_lemma=>kernel_rfl) (fun _ _ _ _ h=>h) (zM rfl rfl rfl) rfl hn rfl (fun hc=>trivial) (fun hc=>zu rfl rfl) ?_
 refine zB ?_
 refine kD (i:=4) (by as_aux_lemma=>kernel_rfl) rfl (zEi (zM rfl rfl rfl) rfl (nb hn rfl) (zL rfl rfl rfl (nb hn rfl) underlying29 sz3 zr3 rfl rfl rfl (show _ = [.d (.int .i64 0),.d (.int .i64 0)] from by kernel_rfl) (by kernel_rfl) rfl rfl rfl rfl rfl)) fun _=>?_
 refine d2_of_d1 (zB ?_)
 refine kD (i:=5) (by as_aux_lemma=>kernel_rfl) rfl (s_call [(50,_),(51,_)] (fun hc=>zDQ [0,1] [0,1]) rfl (zM rfl rfl rfl) rfl (nb hn rfl) (fun hc=>⟨⟨_,rfl,hc⟩,⟨_,rfl,hc⟩,trivial⟩) rfl rfl (.refl _)) fun _=>?_
 refine d2_of_d1 ?_
 refine d1q (i:=6) rfl (by as_aux_lemma=>kernel_rfl) (fun _ _ _ _ h=>h) rfl rfl hn rfl (yS (tv':=.d (.bool true)) (y9 rfl rfl rfl (by intro hB; first | (rw [hB]; rfl) | (rw [hB,hc]; rfl) | simp_all)) rfl) ?_
 refine d1q (i:=7) rfl (by as_aux_lemma=>kernel_rfl) (fun _ _ _ _ h=>h) rfl rfl hn rfl (zu rfl rfl) ?_
 refine d1g (i:=8) [] rfl (by as_aux_lemma=>kernel_rfl) (fun _ _ _ _ h=>h) (zM rfl rfl rfl) rfl hn rfl (fun hc=>trivial) (fun hc=>zu rfl rfl) ?_
 refine d1g (i:=9) [(55,_)] rfl (by as_aux_lemma=>kernel_rfl) (fun _ _ _ _ h=>h) (zM rfl rfl rfl) rfl hn rfl (fun hc=>⟨⟨_,rfl,hc⟩,trivial⟩) (fun hc=>yS (tv':=.d (.bool true)) (zBK rfl rfl rfl) rfl) ?_
 refine d1q (i:=10) rfl (by as_aux_lemma=>kernel_rfl) (fun _ _ _ _ h=>h) rfl rfl hn rfl (yS (tv':=.d (.bool true)) (y9 rfl rfl rfl (by intro hB; first | (rw [hB]; rfl) | (rw [hB,hc]; rfl) | simp_all)) rfl) ?_
 refine d1q (i:=11) rfl (by as_aux_lemma=>kernel_rfl) (fun _ _ _ _ h=>h) rfl rfl hn rfl (zu rfl rfl) ?_
 refine d1g (i:=12) [] rfl (by as_aux_lemma=>kernel_rfl) (fun _ _ _ _ h=>h) (zM rfl rfl rfl) rfl hn rfl (fun hc=>trivial) (fun hc=>zu rfl rfl) ?_
 refine d1g (i:=13) [(59,_)] rfl (by as_aux_lemma=>kernel_rfl) (fun _ _ _ _ h=>h) (zM rfl rfl rfl) rfl hn rfl (fun hc=>⟨⟨_,rfl,hc⟩,trivial⟩) (fun hc=>zHL rfl rfl underlying46) ?_
 refine d1g (i:=14) [(60,_)] rfl (by as_aux_lemma=>kernel_rfl) (fun _ _ _ _ h=>h) (zM rfl rfl rfl) rfl hn rfl (fun hc=>⟨⟨_,rfl,hc⟩,trivial⟩) (fun hc=>yS (tv':=.d (.bool true)) (zBK rfl rfl rfl) rfl) ?_
 refine d1q (i:=15) rfl (by as_aux_lemma=>kernel_rfl) (fun _ _ _ _ h=>h) rfl rfl hn rfl (yS (tv':=.d (.bool true)) (y9 rfl rfl rfl (by intro hB; first | (rw [hB]; rfl) | (rw [hB,hc]; rfl) | simp_all)) rfl) ?_
 refine d1q (i:=16) rfl (by as_aux_lemma=>kernel_rfl) (fun _ _ _ _ h=>h) rfl rfl hn rfl (zu rfl rfl) ?_
 refine d1g (i:=17) [] rfl (by as_aux_lemma=>kernel_rfl) (fun _ _ _ _ h=>h) (zM rfl rfl rfl) rfl hn rfl (fun hc=>trivial) (fun hc=>zu rfl rfl) ?_
 refine d1g (i:=18) [(64,_)] rfl (by as_aux_lemma=>kernel_rfl) (fun _ _ _ _ h=>h) (zM rfl rfl rfl) rfl hn rfl (fun hc=>⟨⟨_,rfl,hc⟩,trivial⟩) (fun hc=>q_index (i:=0) rfl rfl rfl underlying46 sz66 rfl rfl) ?_
 refine d1g (i:=19) [(65,_)] rfl (by as_aux_lemma=>kernel_rfl) (fun _ _ _ _ h=>h) (zM rfl rfl rfl) rfl hn rfl (fun hc=>⟨⟨_,rfl,hc⟩,trivial⟩) (fun hc=>yQ rfl rfl underlying66 rfl sz66 rfl rfl seesFA) ?_
 refine zB ?_
 refine kD (i:=20) (by as_aux_lemma=>kernel_rfl) rfl (s_call [] (fun hc=>y6 _ _) rfl (zM rfl rfl rfl) rfl (nb hn rfl) (fun hc=>trivial) rfl rfl (.refl _)) fun _=>?_
 refine d2_of_d1 ?_
 refine d1g (i:=21) [(66,_),(67,_)] rfl (by as_aux_lemma=>kernel_rfl) (fun _ _ _ _ h=>h) (zM rfl rfl rfl) rfl hn rfl (fun hc=>⟨⟨_,rfl,hc⟩,⟨_,rfl,hc⟩,trivial⟩) (fun hc=>yS (tv':=.d (.bool true)) (zE1 rfl rfl rfl) rfl) ?_
 refine d1q (i:=22) rfl (by as_aux_lemma=>kernel_rfl) (fun _ _ _ _ h=>h) rfl rfl hn rfl (yS (tv':=.d (.bool true)) (y9 rfl rfl rfl (by intro hB; first | (rw [hB]; rfl) | (rw [hB,hc]; rfl) | simp_all)) rfl) ?_
 refine d1q (i:=23) rfl (by as_aux_lemma=>kernel_rfl) (fun _ _ _ _ h=>h) rfl rfl hn rfl (zu rfl rfl) ?_
 refine d1g (i:=24) [] rfl (by as_aux_lemma=>kernel_rfl) (fun _ _ _ _ h=>h) (zM rfl rfl rfl) rfl hn rfl (fun hc=>trivial) (fun hc=>zu rfl rfl) ?_
 refine d1g (i:=25) [(71,_)] rfl (by as_aux_lemma=>kernel_rfl) (fun _ _ _ _ h=>h) (zM rfl rfl rfl) rfl hn rfl (fun hc=>⟨⟨_,rfl,hc⟩,trivial⟩) (fun hc=>q_index (i:=1) rfl rfl rfl underlying46 sz66 rfl rfl) ?_
 refine d1g (i:=26) [(72,_)] rfl (by as_aux_lemma=>kernel_rfl) (fun _ _ _ _ h=>h) (zM rfl rfl rfl) rfl hn rfl (fun hc=>⟨⟨_,rfl,hc⟩,trivial⟩) (fun hc=>yQ rfl rfl underlying66 rfl sz66 rfl rfl seesFA) ?_
 refine zB ?_
 refine kD (i:=27) (by as_aux_lemma=>kernel_rfl) rfl (s_call [] (fun hc=>y6 _ _) rfl (zM rfl rfl rfl) rfl (nb hn rfl) (fun hc=>trivial) rfl rfl (.refl _)) fun _=>?_
 refine d2_of_d1 ?_
 refine d1g (i:=28) [(73,_),(74,_)] rfl (by as_aux_lemma=>kernel_rfl) (fun _ _ _ _ h=>h) (zM rfl rfl rfl) rfl hn rfl (fun hc=>⟨⟨_,rfl,hc⟩,⟨_,rfl,hc⟩,trivial⟩) (fun hc=>yS (tv':=.d (.bool true)) (zE1 rfl rfl rfl) rfl) ?_
 refine d1q (i:=29) rfl (by as_aux_lemma=>kernel_rfl) (fun _ _ _ _ h=>h) rfl rfl hn rfl (yS (tv':=.d (.bool true)) (y9 rfl rfl rfl (by intro hB; first | (rw [hB]; rfl) | (rw [hB,hc]; rfl) | simp_all)) rfl) ?_
 refine d1q (i:=30) rfl (by as_aux_lemma=>kernel_rfl) (fun _ _ _ _ h=>h) rfl rfl hn rfl (zu rfl rfl) ?_
 refine d1g (i:=31) [] rfl (by as_aux_lemma=>kernel_rfl) (fun _ _ _ _ h=>h) (zM rfl rfl rfl) rfl hn rfl (fun hc=>trivial) (fun hc=>zu rfl rfl) ?_
 refine d1g (i:=32) [(78,_)] rfl (by as_aux_lemma=>kernel_rfl) (fun _ _ _ _ h=>h) (zM rfl rfl rfl) rfl hn rfl (fun hc=>⟨⟨_,rfl,hc⟩,trivial⟩) (fun hc=>q_index (i:=2) rfl rfl rfl underlying46 sz66 rfl rfl) ?_
 refine d1g (i:=33) [(79,_)] rfl (by as_aux_lemma=>kernel_rfl) (fun _ _ _ _ h=>h) (zM rfl rfl rfl) rfl hn rfl (fun hc=>⟨⟨_,rfl,hc⟩,trivial⟩) (fun hc=>yQ rfl rfl underlying66 rfl sz66 rfl rfl seesFA) ?_
 refine zB ?_
 refine kD (i:=34) (by as_aux_lemma=>kernel_rfl) rfl (s_call [] (fun hc=>y6 _ _) rfl (zM rfl rfl rfl) rfl (nb hn rfl) (fun hc=>trivial) rfl rfl (.refl _)) fun _=>?_
 refine d2_of_d1 ?_
 refine d1g (i:=35) [(80,_),(81,_)] rfl (by as_aux_lemma=>kernel_rfl) (fun _ _ _ _ h=>h) (zM rfl rfl rfl) rfl hn rfl (fun hc=>⟨⟨_,rfl,hc⟩,⟨_,rfl,hc⟩,trivial⟩) (fun hc=>yS (tv':=.d (.bool true)) (zE1 rfl rfl rfl) rfl) ?_
 refine d1q (i:=36) rfl (by as_aux_lemma=>kernel_rfl) (fun _ _ _ _ h=>h) rfl rfl hn rfl (yS (tv':=.d (.bool true)) (y9 rfl rfl rfl (by intro hB; first | (rw [hB]; rfl) | (rw [hB,hc]; rfl) | simp_all)) rfl) ?_
 refine d1q (i:=37) rfl (by as_aux_lemma=>kernel_rfl) (fun _ _ _ _ h=>h) rfl rfl hn rfl (zu rfl rfl) ?_
 refine d1g (i:=38) [] rfl (by as_aux_lemma=>kernel_rfl) (fun _ _ _ _ h=>h) (zM rfl rfl rfl) rfl hn rfl (fun hc=>trivial) (fun hc=>zu rfl rfl) ?_
 refine d1g (i:=39) [(85,_)] rfl (by as_aux_lemma=>kernel_rfl) (fun _ _ _ _ h=>h) (zM rfl rfl rfl) rfl hn rfl (fun hc=>⟨⟨_,rfl,hc⟩,trivial⟩) (fun hc=>yS (tv':=.d (.bool true)) (zBK rfl rfl rfl) rfl) ?_
 refine d1q (i:=40) rfl (by as_aux_lemma=>kernel_rfl) (fun _ _ _ _ h=>h) rfl rfl hn rfl (yS (tv':=.d (.bool true)) (y9 rfl rfl rfl (by intro hB; first | (rw [hB]; rfl) | (rw [hB,hc]; rfl) | simp_all)) rfl) ?_
 refine d1q (i:=41) rfl (by as_aux_lemma=>kernel_rfl) (fun _ _ _ _ h=>h) rfl rfl hn rfl (zu rfl rfl) ?_
 refine d1g (i:=42) [] rfl (by as_aux_lemma=>kernel_rfl) (fun _ _ _ _ h=>h) (zM rfl rfl rfl) rfl hn rfl (fun hc=>trivial) (fun hc=>zu rfl rfl) ?_
 refine zB ?_
 refine kD (i:=43) (by as_aux_lemma=>kernel_rfl) rfl (zEi (zM rfl rfl rfl) rfl (nb hn rfl) (zL rfl rfl rfl (nb hn rfl) underlying29 sz3 zr3 rfl rfl rfl (show _ = [.d (.int .i64 0),.d (.int .i64 0),.d (.int .i64 0)] from by kernel_rfl) (by kernel_rfl) rfl rfl rfl rfl rfl)) fun _=>?_
 refine d2_of_d1 (zB ?_)
 refine kD (i:=44) (by as_aux_lemma=>kernel_rfl) rfl (s_call [(89,_),(90,_)] (fun hc=>zDQ [3,3,3] [3,3,3]) rfl (zM rfl rfl rfl) rfl (nb hn rfl) (fun hc=>⟨⟨_,rfl,hc⟩,⟨_,rfl,hc⟩,trivial⟩) rfl rfl (.refl _)) fun _=>?_
 refine d2_of_d1 ?_
 refine d1q (i:=45) rfl (by as_aux_lemma=>kernel_rfl) (fun _ _ _ _ h=>h) rfl rfl hn rfl (yS (tv':=.d (.bool true)) (y9 rfl rfl rfl (by intro hB; first | (rw [hB]; rfl) | (rw [hB,hc]; rfl) | simp_all)) rfl) ?_
 refine d1q (i:=46) rfl (by as_aux_lemma=>kernel_rfl) (fun _ _ _ _ h=>h) rfl rfl hn rfl (zu rfl rfl) ?_
 refine d1g (i:=47) [] rfl (by as_aux_lemma=>kernel_rfl) (fun _ _ _ _ h=>h) (zM rfl rfl rfl) rfl hn rfl (fun hc=>trivial) (fun hc=>zu rfl rfl) ?_
 refine d1g (i:=48) [(94,_)] rfl (by as_aux_lemma=>kernel_rfl) (fun _ _ _ _ h=>h) (zM rfl rfl rfl) rfl hn rfl (fun hc=>⟨⟨_,rfl,hc⟩,trivial⟩) (fun hc=>yS (tv':=.d (.bool true)) (zBK rfl rfl rfl) rfl) ?_
 refine d1q (i:=49) rfl (by as_aux_lemma=>kernel_rfl) (fun _ _ _ _ h=>h) rfl rfl hn rfl (yS (tv':=.d (.bool true)) (y9 rfl rfl rfl (by intro hB; first | (rw [hB]; rfl) | (rw [hB,hc]; rfl) | simp_all)) rfl) ?_
 refine d1q (i:=50) rfl (by as_aux_lemma=>kernel_rfl) (fun _ _ _ _ h=>h) rfl rfl hn rfl (zu rfl rfl) ?_
 refine d1g (i:=51) [] rfl (by as_aux_lemma=>kernel_rfl) (fun _ _ _ _ h=>h) (zM rfl rfl rfl) rfl hn rfl (fun hc=>trivial) (fun hc=>zu rfl rfl) ?_
 refine d1g (i:=52) [(98,_)] rfl (by as_aux_lemma=>kernel_rfl) (fun _ _ _ _ h=>h) (zM rfl rfl rfl) rfl hn rfl (fun hc=>⟨⟨_,rfl,hc⟩,trivial⟩) (fun hc=>zHL rfl rfl underlying53) ?_
 refine d1g (i:=53) [(99,_)] rfl (by as_aux_lemma=>kernel_rfl) (fun _ _ _ _ h=>h) (zM rfl rfl rfl) rfl hn rfl (fun hc=>⟨⟨_,rfl,hc⟩,trivial⟩) (fun hc=>yS (tv':=.d (.bool true)) (zBK rfl rfl rfl) rfl) ?_
 refine d1q (i:=54) rfl (by as_aux_lemma=>kernel_rfl) (fun _ _ _ _ h=>h) rfl rfl hn rfl (yS (tv':=.d (.bool true)) (y9 rfl rfl rfl (by intro hB; first | (rw [hB]; rfl) | (rw [hB,hc]; rfl) | simp_all)) rfl) ?_
 refine d1q (i:=55) rfl (by as_aux_lemma=>kernel_rfl) (fun _ _ _ _ h=>h) rfl rfl hn rfl (zu rfl rfl) ?_
 refine d1g (i:=56) [] rfl (by as_aux_lemma=>kernel_rfl) (fun _ _ _ _ h=>h) (zM rfl rfl rfl) rfl hn rfl (fun hc=>trivial) (fun hc=>zu rfl rfl) ?_
 refine d1g (i:=57) [(103,_)] rfl (by as_aux_lemma=>kernel_rfl) (fun _ _ _ _ h=>h) (zM rfl rfl rfl) rfl hn rfl (fun hc=>⟨⟨_,rfl,hc⟩,trivial⟩) (fun hc=>q_index (i:=0) rfl rfl rfl underlying53 sz68 rfl rfl) ?_
 refine d1g (i:=58) [(104,_)] rfl (by as_aux_lemma=>kernel_rfl) (fun _ _ _ _ h=>h) (zM rfl rfl rfl) rfl hn rfl (fun hc=>⟨⟨_,rfl,hc⟩,trivial⟩) (fun hc=>yQ rfl rfl underlying68 rfl sz68 rfl rfl seesFA) ?_
 refine d1g (i:=59) [] rfl (by as_aux_lemma=>kernel_rfl) (fun _ _ _ _ h=>h) (zM rfl rfl rfl) rfl hn rfl (fun hc=>trivial) (fun hc=>yq rfl bt68 rfl rfl rfl rfl rfl) ?_
 refine d1g (i:=60) [(105,_),(106,_)] rfl (by as_aux_lemma=>kernel_rfl) (fun _ _ _ _ h=>h) (zM rfl rfl rfl) rfl hn rfl (fun hc=>⟨⟨_,rfl,hc⟩,⟨_,rfl,hc⟩,trivial⟩) (fun hc=>yS (tv':=.d (.bool true)) (zEo rfl rfl rfl) rfl) ?_
 refine d1q (i:=61) rfl (by as_aux_lemma=>kernel_rfl) (fun _ _ _ _ h=>h) rfl rfl hn rfl (yS (tv':=.d (.bool true)) (y9 rfl rfl rfl (by intro hB; first | (rw [hB]; rfl) | (rw [hB,hc]; rfl) | simp_all)) rfl) ?_
 refine d1q (i:=62) rfl (by as_aux_lemma=>kernel_rfl) (fun _ _ _ _ h=>h) rfl rfl hn rfl (zu rfl rfl) ?_
 refine d1g (i:=63) [] rfl (by as_aux_lemma=>kernel_rfl) (fun _ _ _ _ h=>h) (zM rfl rfl rfl) rfl hn rfl (fun hc=>trivial) (fun hc=>zu rfl rfl) ?_
 refine d1g (i:=64) [(110,_)] rfl (by as_aux_lemma=>kernel_rfl) (fun _ _ _ _ h=>h) (zM rfl rfl rfl) rfl hn rfl (fun hc=>⟨⟨_,rfl,hc⟩,trivial⟩) (fun hc=>q_index (i:=1) rfl rfl rfl underlying53 sz68 rfl rfl) ?_
 refine d1g (i:=65) [(111,_)] rfl (by as_aux_lemma=>kernel_rfl) (fun _ _ _ _ h=>h) (zM rfl rfl rfl) rfl hn rfl (fun hc=>⟨⟨_,rfl,hc⟩,trivial⟩) (fun hc=>yQ rfl rfl underlying68 rfl sz68 rfl rfl seesFA) ?_
 refine d1g (i:=66) [] rfl (by as_aux_lemma=>kernel_rfl) (fun _ _ _ _ h=>h) (zM rfl rfl rfl) rfl hn rfl (fun hc=>trivial) (fun hc=>yq rfl bt68 rfl rfl rfl rfl rfl) ?_
 refine d1g (i:=67) [(112,_),(113,_)] rfl (by as_aux_lemma=>kernel_rfl) (fun _ _ _ _ h=>h) (zM rfl rfl rfl) rfl hn rfl (fun hc=>⟨⟨_,rfl,hc⟩,⟨_,rfl,hc⟩,trivial⟩) (fun hc=>yS (tv':=.d (.bool true)) (zEo rfl rfl rfl) rfl) ?_
 refine d1q (i:=68) rfl (by as_aux_lemma=>kernel_rfl) (fun _ _ _ _ h=>h) rfl rfl hn rfl (yS (tv':=.d (.bool true)) (y9 rfl rfl rfl (by intro hB; first | (rw [hB]; rfl) | (rw [hB,hc]; rfl) | simp_all)) rfl) ?_
 refine d1q (i:=69) rfl (by as_aux_lemma=>kernel_rfl) (fun _ _ _ _ h=>h) rfl rfl hn rfl (zu rfl rfl) ?_
 refine d1g (i:=70) [] rfl (by as_aux_lemma=>kernel_rfl) (fun _ _ _ _ h=>h) (zM rfl rfl rfl) rfl hn rfl (fun hc=>trivial) (fun hc=>zu rfl rfl) ?_
 refine d1g (i:=71) [(117,_)] rfl (by as_aux_lemma=>kernel_rfl) (fun _ _ _ _ h=>h) (zM rfl rfl rfl) rfl hn rfl (fun hc=>⟨⟨_,rfl,hc⟩,trivial⟩) (fun hc=>q_index (i:=2) rfl rfl rfl underlying53 sz68 rfl rfl) ?_
 refine d1g (i:=72) [(118,_)] rfl (by as_aux_lemma=>kernel_rfl) (fun _ _ _ _ h=>h) (zM rfl rfl rfl) rfl hn rfl (fun hc=>⟨⟨_,rfl,hc⟩,trivial⟩) (fun hc=>yQ rfl rfl underlying68 rfl sz68 rfl rfl seesFA) ?_
 refine d1g (i:=73) [] rfl (by as_aux_lemma=>kernel_rfl) (fun _ _ _ _ h=>h) (zM rfl rfl rfl) rfl hn rfl (fun hc=>trivial) (fun hc=>yq rfl bt68 rfl rfl rfl rfl rfl) ?_
 refine d1g (i:=74) [(119,_),(120,_)] rfl (by as_aux_lemma=>kernel_rfl) (fun _ _ _ _ h=>h) (zM rfl rfl rfl) rfl hn rfl (fun hc=>⟨⟨_,rfl,hc⟩,⟨_,rfl,hc⟩,trivial⟩) (fun hc=>yS (tv':=.d (.bool true)) (zEo rfl rfl rfl) rfl) ?_
 refine d1q (i:=75) rfl (by as_aux_lemma=>kernel_rfl) (fun _ _ _ _ h=>h) rfl rfl hn rfl (yS (tv':=.d (.bool true)) (y9 rfl rfl rfl (by intro hB; first | (rw [hB]; rfl) | (rw [hB,hc]; rfl) | simp_all)) rfl) ?_
 refine d1q (i:=76) rfl (by as_aux_lemma=>kernel_rfl) (fun _ _ _ _ h=>h) rfl rfl hn rfl (zu rfl rfl) ?_
 refine d1g (i:=77) [] rfl (by as_aux_lemma=>kernel_rfl) (fun _ _ _ _ h=>h) (zM rfl rfl rfl) rfl hn rfl (fun hc=>trivial) (fun hc=>zu rfl rfl) ?_
 refine d1g (i:=78) [(124,_)] rfl (by as_aux_lemma=>kernel_rfl) (fun _ _ _ _ h=>h) (zM rfl rfl rfl) rfl hn rfl (fun hc=>⟨⟨_,rfl,hc⟩,trivial⟩) (fun hc=>yS (tv':=.d (.bool true)) (zBK rfl rfl rfl) rfl) ?_
 refine d1q (i:=79) rfl (by as_aux_lemma=>kernel_rfl) (fun _ _ _ _ h=>h) rfl rfl hn rfl (yS (tv':=.d (.bool true)) (y9 rfl rfl rfl (by intro hB; first | (rw [hB]; rfl) | (rw [hB,hc]; rfl) | simp_all)) rfl) ?_
 refine d1q (i:=80) rfl (by as_aux_lemma=>kernel_rfl) (fun _ _ _ _ h=>h) rfl rfl hn rfl (zu rfl rfl) ?_
 refine d1g (i:=81) [] rfl (by as_aux_lemma=>kernel_rfl) (fun _ _ _ _ h=>h) (zM rfl rfl rfl) rfl hn rfl (fun hc=>trivial) (fun hc=>zu rfl rfl) ?_
 refine zB ?_
 refine kD (i:=82) (by as_aux_lemma=>kernel_rfl) rfl (zEi (zM rfl rfl rfl) rfl (nb hn rfl) (zL rfl rfl rfl (nb hn rfl) underlying29 sz3 zr3 rfl rfl rfl (show _ = [.d (.int .i64 0),.d (.int .i64 0)] from by kernel_rfl) (by kernel_rfl) rfl rfl rfl rfl rfl)) fun _=>?_
 refine d2_of_d1 (zB ?_)
 refine kD (i:=83) (by as_aux_lemma=>kernel_rfl) rfl (s_call [(128,_),(129,_)] (fun hc=>zDQ [10,0] [10,0]) rfl (zM rfl rfl rfl) rfl (nb hn rfl) (fun hc=>⟨⟨_,rfl,hc⟩,⟨_,rfl,hc⟩,trivial⟩) rfl rfl (.refl _)) fun _=>?_
 refine d2_of_d1 ?_
 refine d1q (i:=84) rfl (by as_aux_lemma=>kernel_rfl) (fun _ _ _ _ h=>h) rfl rfl hn rfl (yS (tv':=.d (.bool true)) (y9 rfl rfl rfl (by intro hB; first | (rw [hB]; rfl) | (rw [hB,hc]; rfl) | simp_all)) rfl) ?_
 refine d1q (i:=85) rfl (by as_aux_lemma=>kernel_rfl) (fun _ _ _ _ h=>h) rfl rfl hn rfl (zu rfl rfl) ?_
 refine d1g (i:=86) [] rfl (by as_aux_lemma=>kernel_rfl) (fun _ _ _ _ h=>h) (zM rfl rfl rfl) rfl hn rfl (fun hc=>trivial) (fun hc=>zu rfl rfl) ?_
 refine d1g (i:=87) [(133,_)] rfl (by as_aux_lemma=>kernel_rfl) (fun _ _ _ _ h=>h) (zM rfl rfl rfl) rfl hn rfl (fun hc=>⟨⟨_,rfl,hc⟩,trivial⟩) (fun hc=>yS (tv':=.d (.bool true)) (zBK rfl rfl rfl) rfl) ?_
 refine d1q (i:=88) rfl (by as_aux_lemma=>kernel_rfl) (fun _ _ _ _ h=>h) rfl rfl hn rfl (yS (tv':=.d (.bool true)) (y9 rfl rfl rfl (by intro hB; first | (rw [hB]; rfl) | (rw [hB,hc]; rfl) | simp_all)) rfl) ?_
 refine d1q (i:=89) rfl (by as_aux_lemma=>kernel_rfl) (fun _ _ _ _ h=>h) rfl rfl hn rfl (zu rfl rfl) ?_
 refine d1g (i:=90) [] rfl (by as_aux_lemma=>kernel_rfl) (fun _ _ _ _ h=>h) (zM rfl rfl rfl) rfl hn rfl (fun hc=>trivial) (fun hc=>zu rfl rfl) ?_
 refine d1g (i:=91) [(137,_)] rfl (by as_aux_lemma=>kernel_rfl) (fun _ _ _ _ h=>h) (zM rfl rfl rfl) rfl hn rfl (fun hc=>⟨⟨_,rfl,hc⟩,trivial⟩) (fun hc=>yS (tv':=.d (.bool true)) (zBK rfl rfl rfl) rfl) ?_
 refine d1q (i:=92) rfl (by as_aux_lemma=>kernel_rfl) (fun _ _ _ _ h=>h) rfl rfl hn rfl (yS (tv':=.d (.bool true)) (y9 rfl rfl rfl (by intro hB; first | (rw [hB]; rfl) | (rw [hB,hc]; rfl) | simp_all)) rfl) ?_
 refine d1q (i:=93) rfl (by as_aux_lemma=>kernel_rfl) (fun _ _ _ _ h=>h) rfl rfl hn rfl (zu rfl rfl) ?_
 refine d1g (i:=95) [] rfl (by as_aux_lemma=>kernel_rfl) (fun _ _ _ _ h=>h) (zM rfl rfl rfl) rfl hn rfl (fun hc=>trivial) (fun hc=>zn rfl rfl (id:=12) rfl underlying56 rfl sz56 rfl rfl (seesA (by simp))) ?_
 refine zB ?_
 refine kD (i:=94) (by as_aux_lemma=>kernel_rfl) rfl (s_call [] (fun hc=>kK) rfl (zM rfl rfl rfl) rfl (nb hn rfl) (fun hc=>trivial) rfl rfl (.refl _)) fun _=>?_
 refine d2_of_d1 (zB ?_)
 refine kD (i:=96) (by as_aux_lemma=>kernel_rfl) rfl (s_call [(141,_),(142,_)] (fun hc=>(by have h:=Prove4_ok threeD yu (by decide) (by decide) tt; rw [hpt] at h; exact h)) rfl (zM rfl rfl rfl) rfl (nb hn rfl) (fun hc=>⟨⟨_,rfl,hc⟩,⟨_,rfl,hc⟩,trivial⟩) rfl rfl (.refl _)) fun _=>?_
 refine d2_of_d1 ?_
 refine d1q (i:=97) rfl (by as_aux_lemma=>kernel_rfl) (fun _ _ _ _ h=>h) rfl rfl hn rfl (yS (tv':=.d (.bool true)) (y9 rfl rfl rfl (by intro hB; first | (rw [hB]; rfl) | (rw [hB,hc]; rfl) | simp_all)) rfl) ?_
 refine d1q (i:=98) rfl (by as_aux_lemma=>kernel_rfl) (fun _ _ _ _ h=>h) rfl rfl hn rfl (zB4 rfl rfl) ?_
 refine zB ?_
 refine zb (by as_aux_lemma=>kernel_rfl) ?_
 refine zA (zJ ?_)
 exact ret_E (.inl rfl) () ((zy rfl (.tmp rfl)).eq (by rfl)) trivial
theorem zDt:PureAt Tryz.prog 45 [] (.bool true):=PureAt.of_eff (ds:=[]) awake4_eff
end Go.Proofs.YticlpkgpmmhemaaGreatDoor
namespace Go.Proofs.YticlpkgpmmhemaaGreatDoor
open Go.RowKit
set_option linter.all false
set_option maxHeartbeats 4000000
def salP (s:Sal):Prt:=⟨s.stock,s.number,s.number,s.price,true,s.minute,0,0⟩
def lastMin:List Sal → Int → Int
  | [],bm=>bm
  | s :: r,_=>lastMin r s.minute
theorem zDy {b:Brd} {s:Sal}:∀ {l:List Sal} {bm:Int},okAll b (l ++ [s]) bm = (okAll b l bm && okSal b s (lastMin l bm))
  | [],bm=>by simp [okAll,lastMin]
  | x :: l,bm=>by show (okSal b x bm && okAll b (l ++ [s]) x.minute) = _; rw [zDy]; simp only [okAll,lastMin,Bool.and_assoc]
theorem zCh {s:Sal}:∀ {l:List Sal} {bm:Int},lastMin (l ++ [s]) bm = s.minute
  | [],_=>rfl
  | x :: l,bm=>zCh (l:=l)
theorem zCd {l r:List Prt} {st:Int}:∀ {i:Nat},i ≤ l.length → aheadGo (l ++ r) st i = aheadGo l st i
  | 0,_=>rfl
  | i + 1,h=>by
    unfold aheadGo
    rw [zCd (by omega),List.getD_eq_getElem?_getD,List.getElem?_append_left (by omega),← List.getD_eq_getElem?_getD]
theorem zCg {l l':List Prt} {st:Int}:∀ {i:Nat},(∀ j,j < i → (l.getD j prt0).stock = (l'.getD j prt0).stock) → aheadGo l st i = aheadGo l' st i
  | 0,_=>rfl
  | i + 1,h=>by unfold aheadGo; rw [h i (by omega),zCg fun j hj=>h j (by omega)]
theorem steps_stock {b:Brd} {l l':List Prt} {j:Nat} {f:Nat → Int} (h:∀ k,k ≤ j → (l.getD k prt0).stock = (l'.getD k prt0).stock):stepsF b l j f = stepsF b l' j f:=by
  unfold stepsF aheadI
  rw [h j (Nat.le_refl _),zCg fun k hk=>h k (by omega)]
theorem zCJ {α:Type} {l r:List α} {d:α} {j:Nat} (h:j < l.length):(l ++ r).getD j d = l.getD j d:=by
  rw [List.getD_eq_getElem?_getD,List.getElem?_append_left h,← List.getD_eq_getElem?_getD]
theorem zC3 {α:Type} {l:List α} {x d:α}:(l ++ [x]).getD l.length d = x:=by simp
/-- Prices keep the Jump. -/
def JumpOK (b:Brd) (l:List Sal):Prop:=∀ j,j < l.length → stepsF b (l.map salP) j (fun k=>(l.getD k sal0).price) = true
structure SoldI (b:Brd) (x:SoS):Prop where
  ok:okAll b x.out 0 = true
  last:lastMin x.out 0 = (x.minute:Nat)
  jump:JumpOK b x.out
  now:∀ k:Nat,k < b.stocks.length → (aheadGo (x.out.map salP) (k:Int) x.out.length < 0 ∧ (b.stocks.getD k stk0).lo ≤ x.now.getD k 0 ∧ x.now.getD k 0 ≤ (b.stocks.getD k stk0).hi) ∨ ∃ a:Nat,aheadGo (x.out.map salP) (k:Int) x.out.length = (a:Nat) ∧ x.now.getD k 0 = (x.out.getD a sal0).price
theorem zFq {b:Brd} {ws:List Int} (v:BrdOK b) (hw:WdsOK ws):∀ i,SoldI b (soldN b ws i)
  | 0=>by
    refine ⟨rfl,rfl,fun j hj=>by simp [soldN] at hj,fun k hk=>.inl ⟨?_,?_⟩⟩
    · show aheadGo [] (k:Int) 0 < 0; unfold aheadGo; omega
    · have:=zGL (ws:=ws) v hk
      have e:(soldN b ws 0).now.getD k 0 = st0 b ws k:=by
        show (now0 b ws b.stocks.length).getD k 0 = _
        unfold now0
        rw [Nat.sub_self]
        simp only [List.replicate_zero,List.append_nil]
        exact zQ (by rw [List.getElem?_map,List.getElem?_range hk]; rfl)
      rw [e]; exact ⟨this.1,this.2.1⟩
  | i + 1=>by
    have ih:=zFq v hw i
    have ho:=zCy (ws:=ws) v i
    have hkl:=zHY (ws:=ws) v i
    have hj0:=v.j0
    have hj4:=v.j4
    obtain ⟨pn,hpn⟩:=zT (show soK b ws i < (soldN b ws i).now.length by rw [ho.n]; exact hkl)
    have hpb:=ho.p pn (List.mem_of_getElem? hpn)
    have hmm:=ho.m
    have hpd:(soldN b ws i).now.getD (soK b ws i) 0 = pn:=zQ hpn
    have hpe:soP b ws i (soldN b ws i).now = max 1 (min 799 (pn + (wrd ws (2 * i + 7):Int).tmod (2 * b.jump + 1) - b.jump)):=by unfold soP; rw [hpd]
    have htm:0 ≤ (wrd ws (2 * i + 7):Int).tmod (2 * b.jump + 1) ∧ (wrd ws (2 * i + 7):Int).tmod (2 * b.jump + 1) ≤ 2 * b.jump:=by
      rw [Int.tmod_eq_emod_of_nonneg (by omega)]
      have h1:=Int.emod_nonneg ((wrd ws (2 * i + 7):Nat):Int) (show 2 * b.jump + 1 ≠ 0 by omega)
      have h2:=Int.emod_lt_of_pos ((wrd ws (2 * i + 7):Nat):Int) (show 0 < 2 * b.jump + 1 by omega)
      omega
    generalize hK:soK b ws i = K at *
    generalize hP:soP b ws i (soldN b ws i).now = P at *
    have hP1:1 ≤ P ∧ P ≤ 799 ∧ P - pn ≤ b.jump ∧ pn - P ≤ b.jump:=by rw [hpe]; omega
    have hN:soN ws i = 1 ∨ ∃ n:Nat,soN ws i = n ∧ 1 ≤ n ∧ n ≤ 99:=by
      unfold soN
      cases wrd ws (2 * i + 6) % 4 == 0
      · left; rfl
      · right
        have:=Nat.mod_lt (wrd ws (2 * i + 6) / 64) (show 0 < 99 by omega)
        exact ⟨_,rfl,by omega,by omega⟩
    have hM:(soM ws i (soldN b ws i).minute) ≤ 600 ∧ (soldN b ws i).minute ≤ soM ws i (soldN b ws i).minute:=by unfold soM; omega
    have eS:soldN b ws (i + 1) = ⟨(soldN b ws i).now.set K P,soM ws i (soldN b ws i).minute,(soldN b ws i).out ++ [⟨(K:Nat),soN ws i,P,(soM ws i (soldN b ws i).minute:Nat)⟩]⟩:=by rw [← hK,← hP]; rfl
    rw [eS]
    generalize hX:soldN b ws i = X at *
    generalize hS:(⟨(K:Nat),soN ws i,P,(soM ws i X.minute:Nat)⟩:Sal) = S
    have hSs:S.stock = (K:Nat):=by rw [← hS]
    have hSp:S.price = P:=by rw [← hS]
    have hSm:S.minute = (soM ws i X.minute:Nat):=by rw [← hS]
    have hSn:1 ≤ S.number ∧ S.number ≤ 99:=by
      rw [← hS]; rcases hN with h | ⟨n,h,h1,h2⟩
      · show 1 ≤ soN ws i ∧ soN ws i ≤ 99; omega
      · show 1 ≤ soN ws i ∧ soN ws i ≤ 99; omega
    have hmap:(X.out ++ [S]).map salP = X.out.map salP ++ [salP S]:=by simp
    have hlen:(X.out.map salP).length = X.out.length:=List.length_map _
    refine ⟨?_,?_,?_,?_⟩
    · show okAll b (X.out ++ [S]) 0 = true
      rw [zDy,ih.ok,ih.last,Bool.true_and]
      exact kw.2 ⟨by omega,hSn,by omega,by omega⟩
    · show lastMin (X.out ++ [S]) 0 = _
      rw [zCh,hSm]
    · intro j hj
      simp only [List.length_append,List.length_cons,List.length_nil] at hj
      dsimp only
      by_cases e:j = X.out.length
      · subst e
        unfold stepsF aheadI
        rw [hmap,show ((X.out.map salP) ++ [salP S]).getD X.out.length prt0 = salP S by rw [← hlen]; exact zC3,zCd (by rw [hlen]; exact Nat.le_refl _)]
        dsimp only
        rw [zC3]
        show (bif decide (0 ≤ aheadGo (X.out.map salP) S.stock X.out.length) then nearB S.price ((X.out ++ [S]).getD (aheadGo (X.out.map salP) S.stock X.out.length).toNat sal0).price b.jump else withinB S.price ((b.stocks.getD S.stock.toNat stk0).lo - b.jump) ((b.stocks.getD S.stock.toNat stk0).hi + b.jump)) = true
        rw [hSs,hSp,Int.toNat_natCast]
        rcases ih.now K hkl with ⟨h1,h2,h3⟩ | ⟨a,h1,h2⟩
        · rw [decide_eq_false (by omega),cond_false]
          exact zk.2 (by omega)
        · rw [h1,decide_eq_true (by omega),cond_true,Int.toNat_natCast]
          have ha:=(yG.1 h1).1
          rw [zCJ ha,← h2,hpd]
          exact zF9.2 (by omega)
      · have hj2:j < X.out.length:=by omega
        have h0:=ih.jump j hj2
        rw [← h0]
        have e1:stepsF b ((X.out ++ [S]).map salP) j (fun k=>((X.out ++ [S]).getD k sal0).price) = stepsF b (X.out.map salP) j (fun k=>((X.out ++ [S]).getD k sal0).price):=steps_stock fun k hk=>by
          rw [hmap,zCJ (by rw [hlen]; omega)]
        rw [e1]
        refine zBu (by (try dsimp only); rw [zCJ hj2]) fun k hk=>?_
        have hk:aheadGo (X.out.map salP) ((X.out.map salP).getD j prt0).stock j = (k:Nat):=hk
        have:=(yG.1 hk).1
        (try dsimp only)
        rw [zCJ (by omega)]
    · intro k hk
      dsimp only
      rw [hmap,List.length_append,List.length_cons,List.length_nil,show X.out.length + (0 + 1) = X.out.length + 1 by omega]
      unfold aheadGo
      rw [show ((X.out.map salP) ++ [salP S]).getD X.out.length prt0 = salP S by rw [← hlen]; exact zC3,zCd (by rw [hlen]; exact Nat.le_refl _)]
      show ((bif S.stock == (k:Int) then ((X.out.length:Nat):Int) else _) < 0 ∧ _) ∨ ∃ a:Nat,(bif S.stock == (k:Int) then ((X.out.length:Nat):Int) else _) = (a:Nat) ∧ _
      rw [hSs]
      by_cases e:K = k
      · subst e
        rw [show (((K:Nat):Int) == (K:Int)) = true by simp,cond_true]
        refine .inr ⟨X.out.length,rfl,?_⟩
        rw [zC3,hSp]
        exact zQ (by rw [List.getElem?_set,if_pos rfl,if_pos (by rw [ho.n]; exact hkl)])
      · rw [show (((K:Nat):Int) == (k:Int)) = false by simp; omega,cond_false]
        have e2:(X.now.set K P).getD k 0 = X.now.getD k 0:=by rw [List.getD_eq_getElem?_getD,List.getElem?_set,if_neg e,← List.getD_eq_getElem?_getD]
        rw [e2]
        rcases ih.now k hk with h | ⟨a,h1,h2⟩
        · exact .inl h
        · exact .inr ⟨a,h1,by rw [zCJ (yG.1 h1).1]; exact h2⟩
/-- What is so of sales that are chosen by words. -/
structure SoldOK (b:Brd) (l:List Sal):Prop where
  ok:okAll b l 0 = true
  l7:l.length ≤ 7
  jump:JumpOK b l
theorem zDC {b:Brd} {ws:List Int} (v:BrdOK b) (hw:WdsOK ws):SoldOK b (soldL b ws):=by
  have h:=zFq v hw (wrd ws 5 % 8)
  exact ⟨h.ok,by unfold soldL; rw [(zCy v _).o]; have:=Nat.mod_lt (wrd ws 5) (show 0 < 8 by omega); omega,h.jump⟩
def nnOf (b:Brd) (c rush:Bool) (s:Sal):Int × Int:=bif c then (s.number,s.number) else bif rush then (1,b.small) else (1,1)
def figW:Wd → Int × Bool
  | .sh x=>((x:Nat),false)
  | .lo p=>((p:Nat),true)
  | _=>(0,false)
def PriceW (b:Brd):Wd → Prop
  | .sh x=>x < 80
  | .lo p=>1 ≤ p ∧ p ≤ 799
  | _=>False
def prtOf (b:Brd) (w:Wrk) (s:Sal) (M:Nat) (c3:Bool) (P:Wd):Prt:=⟨s.stock,(nnOf b c3 w.rush s).1,(nnOf b c3 w.rush s).2,(figW P).1,(figW P).2,(M:Nat),w.llo,w.lhi⟩
theorem zC4 {b:Brd} {c:Bool} {x:Wd} {w:Wrk} (h:c = true → x.ok b ∧ x.can w):CanAll b (optW c x) w:=by
  cases c
  · trivial
  · exact ⟨(h rfl).1,(h rfl).2,trivial⟩
theorem sale_run {b : Brd} {w : Wrk} {s : Sal} {bm : Int} {c1 c3 : Bool} {M : Nat} {P : Wd} {R : List Wd} (hs : okSal b s bm = true) (h1 : c1 = false → w.minute = (M : Nat)) (h2 : c1 = true → w.minute ≤ (M : Nat) ∧ M ≤ 600) (hn : w.number ≤ 0) (h8 : w.out.length ≠ 8) (h3 : c3 = true → 1 < s.number) (hP : PriceW b P)
    (hR:CanAll b R { w with minute:=(M:Nat),stock:=s.stock,number:=0,out:=w.out ++ [prtOf b w s M c3 P] }) :
    CanAll b (optW c1 (.mi M) ++ (optW (s.stock != w.stock) (.na s.stock.toNat) ++ (optW c3 (.nu s.number.toNat) ++ P :: R))) w ∧ runAll b (optW c1 (.mi M) ++ (optW (s.stock != w.stock) (.na s.stock.toNat) ++ (optW c3 (.nu s.number.toNat) ++ P :: R))) w = runAll b R { w with minute:=(M:Nat),stock:=s.stock,number:=0,out:=w.out ++ [prtOf b w s M c3 P] }:=by
  obtain ⟨k1,k2,k3,k4⟩:=kw.1 hs
  have s1:runAll b (optW c1 (.mi M)) w = { w with minute:=(M:Nat) }:=by
    cases c1
    · rw [← h1 rfl]; rfl
    · rfl
  have s2:runAll b (optW (s.stock != w.stock) (.na s.stock.toNat)) { w with minute:=(M:Nat) } = { w with minute:=(M:Nat),stock:=s.stock }:=by
    by_cases e:s.stock = w.stock
    · rw [show (s.stock != w.stock) = false by simpa using e,e]; rfl
    · rw [show (s.stock != w.stock) = true by simpa using e]
      show ({ w with minute:=(M:Nat),stock:=((s.stock.toNat:Nat):Int) }:Wrk) = _
      rw [show ((s.stock.toNat:Nat):Int) = s.stock by omega]
  obtain ⟨wn,s3,hwn⟩:∃ wn:Int,runAll b (optW c3 (.nu s.number.toNat)) { w with minute:=(M:Nat),stock:=s.stock } = { w with minute:=(M:Nat),stock:=s.stock,number:=wn } ∧ saleN { w with minute:=(M:Nat),stock:=s.stock,number:=wn } b = nnOf b c3 w.rush s:=by
    cases c3
    · refine ⟨w.number,rfl,?_⟩
      unfold saleN nnOf
      rw [decide_eq_false (by dsimp only; omega)]; rfl
    · refine ⟨s.number,?_,?_⟩
      · show ({ w with minute:=(M:Nat),stock:=s.stock,number:=((s.number.toNat:Nat):Int) }:Wrk) = _
        rw [show ((s.number.toNat:Nat):Int) = s.number by omega]
      · unfold saleN nnOf
        rw [decide_eq_true (by have:=h3 rfl; dsimp only; omega)]
  have s4:P.run b { w with minute:=(M:Nat),stock:=s.stock,number:=wn } = { w with minute:=(M:Nat),stock:=s.stock,number:=0,out:=w.out ++ [prtOf b w s M c3 P] } ∧ P.ok b ∧ P.can { w with minute:=(M:Nat),stock:=s.stock,number:=wn }:=by
    cases P with
    | sh x =>
      refine ⟨?_,hP,show 0 ≤ s.stock ∧ w.out.length ≠ 8 from ⟨k1.1,h8⟩⟩
      show ({ w with minute:=(M:Nat),stock:=s.stock,number:=0,out:=w.out ++ [⟨s.stock,(saleN { w with minute:=(M:Nat),stock:=s.stock,number:=wn } b).1,(saleN { w with minute:=(M:Nat),stock:=s.stock,number:=wn } b).2,((x:Nat):Int),false,(M:Nat),w.llo,w.lhi⟩] }:Wrk) = _
      rw [hwn]; rfl
    | lo x =>
      refine ⟨?_,hP,show 0 ≤ s.stock ∧ w.out.length ≠ 8 from ⟨k1.1,h8⟩⟩
      show ({ w with minute:=(M:Nat),stock:=s.stock,number:=0,out:=w.out ++ [⟨s.stock,(saleN { w with minute:=(M:Nat),stock:=s.stock,number:=wn } b).1,(saleN { w with minute:=(M:Nat),stock:=s.stock,number:=wn } b).2,((x:Nat):Int),true,(M:Nat),w.llo,w.lhi⟩] }:Wrk) = _
      rw [hwn]; rfl
    | mi _=>exact hP.elim
    | na _=>exact hP.elim
    | nu _=>exact hP.elim
    | la _ _=>exact hP.elim
    | ru=>exact hP.elim
  constructor
  · refine CanAll.app (zC4 fun hc=>⟨(h2 hc).2,hn,(h2 hc).1⟩) ?_
    rw [s1]
    refine CanAll.app (zC4 fun hc=>⟨show s.stock.toNat < b.stocks.length by omega,show w.number ≤ 0 from hn⟩) ?_
    rw [s2]
    refine CanAll.app (zC4 fun hc=>⟨show 1 ≤ s.number.toNat ∧ s.number.toNat ≤ 99 by omega,show w.number ≤ 0 from hn⟩) ?_
    rw [s3]
    refine ⟨s4.2.1,s4.2.2,?_⟩
    rw [s4.1]; exact hR
  · rw [zAG,s1,zAG,s2,zAG,s3,runAll,s4.1]
/-- The sales that are read of the tape of sales. -/
def prL (b:Brd) (ws:List Int):List Sal → Nat → Nat → List Prt
  | [],_,_=>[]
  | s :: r,i,m=>⟨s.stock,(nnOf b (prNu b ws i s) (prRush ws) s).1,(nnOf b (prNu b ws i s) (prRush ws) s).2,(figW (prPr ws i s)).1,(figW (prPr ws i s)).2,(prM ws i m s:Nat),(prLate ws:Nat),((prLate ws + prWide ws:Nat):Int)⟩ :: prL b ws r (i + 1) (prM ws i m s)
theorem prP_price {b:Brd} {ws:List Int} {i:Nat} {s:Sal} (h:1 ≤ s.price ∧ s.price ≤ 799):PriceW b (prPr ws i s):=by
  unfold prPr
  cases wrd ws (i + 1) / 8 % 4 == 0
  · show s.price.toNat % 80 < 80; omega
  · show 1 ≤ s.price.toNat ∧ s.price.toNat ≤ 799; omega
theorem zHd {b : Brd} {ws : List Int} : ∀ {l : List Sal} {i m : Nat} {w : Wrk} {bm : Int}, okAll b l bm = true → w.minute = (m : Nat) → m ≤ 600 → w.number ≤ 0 → w.out.length + l.length ≤ 8 → w.rush = prRush ws → w.llo = (prLate ws : Nat) → w.lhi = ((prLate ws + prWide ws : Nat) : Int) →
    CanAll b (prW b ws l i m w.stock) w ∧ (runAll b (prW b ws l i m w.stock) w).out = w.out ++ prL b ws l i m ∧ (runAll b (prW b ws l i m w.stock) w).number ≤ 0
  | [],i,m,w,bm,_,_,_,hn,_,_,_,_=>⟨trivial,by simp [prW,prL,runAll],hn⟩
  | s :: r,i,m,w,bm,hok,hm,hm6,hn,h8,hr,hl1,hl2=>by
    unfold okAll at hok
    rw [Bool.and_eq_true] at hok
    obtain ⟨k1,k2,k3,k4⟩:=kw.1 hok.1
    simp only [List.length_cons] at h8
    have hp:=zE0 (ws:=ws) (i:=i) (s:=s) hm6
    have ih:=zHd (b:=b) (ws:=ws) (l:=r) (i:=i + 1) (m:=prM ws i m s) (w:={ w with minute:=((prM ws i m s:Nat):Int),stock:=s.stock,number:=0,out:=w.out ++ [prtOf b w s (prM ws i m s) (prNu b ws i s) (prPr ws i s)] }) hok.2 rfl hp.1 (by dsimp only; omega) (by simp only [List.length_append,List.length_cons,List.length_nil]; omega) hr hl1 hl2
    have hs:=sale_run (b:=b) (w:=w) (c1:=prM ws i m s != m || i == 0) (c3:=prNu b ws i s) (M:=prM ws i m s) (P:=prPr ws i s) hok.1 (fun h=>by
      simp only [Bool.or_eq_false_iff,bne_eq_false_iff_eq] at h; rw [hm,h.1]) (fun _=>⟨by rw [hm]; omega,hp.1⟩) hn (by omega) (fun h=>by
      unfold prNu at h; simp only [Bool.and_eq_true,decide_eq_true_eq] at h; exact h.1) (prP_price k3) ih.1
    rw [prW]
    refine ⟨hs.1,?_,?_⟩
    · rw [hs.2,ih.2.1]
      show (w.out ++ [_]) ++ _ = w.out ++ prL b ws (s :: r) i m
      rw [prL,List.append_assoc]
      unfold prtOf
      rw [hr,hl1,hl2]; rfl
    · rw [hs.2]; exact ih.2.2
theorem la_step {b:Brd} {a c:Nat} (h:a ≤ c ∧ c ≤ 60) {R:List Wd} (hR:CanAll b R { wrk0 with llo:=(a:Nat),lhi:=(c:Nat) }):CanAll b (.la a c :: R) wrk0 ∧ runAll b (.la a c :: R) wrk0 = runAll b R { wrk0 with llo:=(a:Nat),lhi:=(c:Nat) }:=⟨⟨h,show wrk0.number ≤ 0 by decide,hR⟩,rfl⟩
theorem printed_read {b:Brd} {ws:List Int} {l:List Sal} (h:checkT b = 0) (hl:l.length ≤ 8) (hok:okAll b l 0 = true) (hlen:(prS b ws l).length ≤ 160):readI b (prS b ws l) = (prL b ws l 0 0,0):=by
  have hl6:=Nat.mod_lt (wrd ws 0) (show 0 < 6 by omega)
  have hw6:=Nat.mod_lt (wrd ws 0 / 8) (show 0 < 6 by omega)
  have e0:CanAll b (.la (prLate ws) (prLate ws + prWide ws) :: prT b ws l) wrk0 ∧ (runAll b (.la (prLate ws) (prLate ws + prWide ws) :: prT b ws l) wrk0).out = prL b ws l 0 0 ∧ (runAll b (.la (prLate ws) (prLate ws + prWide ws) :: prT b ws l) wrk0).number ≤ 0:=by
    have hr:=zHd (b:=b) (ws:=ws) (l:=l) (i:=0) (m:=0) (w:={ wrk0 with llo:=((prLate ws:Nat):Int),lhi:=((prLate ws + prWide ws:Nat):Int),rush:=prRush ws }) hok rfl (by omega) (show (0:Int) ≤ 0 by omega) (by simpa [wrk0] using hl) rfl rfl rfl
    have hru:CanAll b (prT b ws l) { wrk0 with llo:=((prLate ws:Nat):Int),lhi:=((prLate ws + prWide ws:Nat):Int) } ∧ runAll b (prT b ws l) { wrk0 with llo:=((prLate ws:Nat):Int),lhi:=((prLate ws + prWide ws:Nat):Int) } = runAll b (prW b ws l 0 0 (-1)) { wrk0 with llo:=((prLate ws:Nat):Int),lhi:=((prLate ws + prWide ws:Nat):Int),rush:=prRush ws }:=by
      unfold prT
      have es:runAll b (optW (prRush ws) .ru) { wrk0 with llo:=((prLate ws:Nat):Int),lhi:=((prLate ws + prWide ws:Nat):Int) } = { wrk0 with llo:=((prLate ws:Nat):Int),lhi:=((prLate ws + prWide ws:Nat):Int),rush:=prRush ws }:=by cases prRush ws <;> rfl
      refine ⟨CanAll.app (zC4 fun _=>⟨trivial,show wrk0.number ≤ 0 ∧ wrk0.rush = false from ⟨by decide,rfl⟩⟩) ?_,by rw [zAG,es]⟩
      rw [es]; exact hr.1
    have hla:=la_step (b:=b) (a:=prLate ws) (c:=prLate ws + prWide ws) (by unfold prLate prWide; omega) hru.1
    refine ⟨hla.1,?_,?_⟩
    · rw [hla.2,hru.2]; exact hr.2.1
    · rw [hla.2,hru.2]; exact hr.2.2
  have:=read_words h e0.1 hlen
  rw [decide_eq_false (by omega),cond_false,e0.2.1] at this
  exact this
/-- Prints say sales, as far as they do. -/
structure PrSays (ps:List Prt) (l:List Sal):Prop where
  len:ps.length = l.length
  st:∀ j,j < l.length → (ps.getD j prt0).stock = (l.getD j sal0).stock
  fit:∀ j,j < l.length → refFits (ps.getD j prt0) j (l.getD j sal0).price 0 = true
  num:∀ j,j < l.length → (ps.getD j prt0).nlo ≤ (l.getD j sal0).number ∧ (l.getD j sal0).number ≤ (ps.getD j prt0).nhi
theorem fits_pr {p:Prt} {i j:Nat} {x:Int}:refFits p i x 0 = refFits p j x 0:=by unfold refFits; rw [Nat.zero_testBit,Nat.zero_testBit]
theorem PrSays.cons {p:Prt} {s:Sal} {ps:List Prt} {l:List Sal} (h:PrSays ps l) (h1:p.stock = s.stock) (h2:refFits p 0 s.price 0 = true) (h3:p.nlo ≤ s.number ∧ s.number ≤ p.nhi):PrSays (p :: ps) (s :: l):=by
  refine ⟨by simp [h.len],fun j hj=>?_,fun j hj=>?_,fun j hj=>?_⟩ <;> cases j with
    | zero=>first | exact h1 | exact h2 | exact h3
    | succ j =>
      simp only [List.length_cons] at hj
      first | exact h.st j (by omega) | exact fits_pr.trans (h.fit j (by omega)) | exact h.num j (by omega)
theorem fits_of {p:Prt} {x:Int} (h:1 ≤ x ∧ x ≤ 799) (hf:p.full = true ∧ p.fig = x ∨ p.full = false ∧ p.fig = ((x.toNat % 80:Nat):Int)):refFits p 0 x 0 = true:=by
  unfold refFits
  rw [zk.2 h,Nat.zero_testBit]
  rcases hf with ⟨h1,h2⟩ | ⟨h1,h2⟩
  · rw [h1,h2]; simp
  · rw [h1,h2,tmod80 (by omega)]; simp
theorem zGS {b:Brd} {ws:List Int} (v:BrdOK b):∀ {l:List Sal} {i m:Nat} {bm:Int},okAll b l bm = true → PrSays (prL b ws l i m) l
  | [],i,m,bm,_=>⟨rfl,fun j hj=>by simp at hj,fun j hj=>by simp at hj,fun j hj=>by simp at hj⟩
  | s :: r,i,m,bm,h=>by
    unfold okAll at h
    rw [Bool.and_eq_true] at h
    obtain ⟨k1,k2,k3,k4⟩:=kw.1 h.1
    have hs1:=v.s1
    refine (zGS v h.2).cons rfl (fits_of k3 ?_) ?_
    · unfold prPr
      cases wrd ws (i + 1) / 8 % 4 == 0
      · exact .inr ⟨rfl,rfl⟩
      · exact .inl ⟨rfl,show ((s.price.toNat:Nat):Int) = s.price by omega⟩
    · show (nnOf b (prNu b ws i s) (prRush ws) s).1 ≤ s.number ∧ s.number ≤ (nnOf b (prNu b ws i s) (prRush ws) s).2
      unfold nnOf
      cases hc:prNu b ws i s
      · unfold prNu at hc
        cases hr:prRush ws
        · rw [hr] at hc
          simp at hc
          show (1:Int) ≤ s.number ∧ s.number ≤ 1; omega
        · rw [hr] at hc
          simp at hc
          show (1:Int) ≤ s.number ∧ s.number ≤ b.small
          by_cases e:1 < s.number
          · have:=(hc e).1; omega
          · omega
      · exact ⟨Int.le_refl _,Int.le_refl _⟩
end Go.Proofs.YticlpkgpmmhemaaGreatDoor
namespace Go.Proofs.YticlpkgpmmhemaaGreatDoor
open Go.RowKit
set_option maxRecDepth 20000
set_option linter.all false
set_option maxHeartbeats 4000000
theorem zBB {b:Brd} {s:List UInt8} (h:(readI b s).2 = 0):checkT b = 0:=by
  unfold readI at h
  cases hc:checkT b != 0
  · simpa using hc
  · rw [hc] at h
    have h:checkT b = 0:=h
    rw [h] at hc; cases hc
theorem read_short {b:Brd} {s:List UInt8} (h:(readI b s).2 = 0):s.length ≤ 160:=by
  have v:=zBB h
  rw [← zBr v] at h
  unfold refReadI at h
  cases hc:decide (160 < (s.length:Int))
  · simp only [decide_eq_false_iff_not] at hc; omega
  · rw [hc] at h; cases h
theorem zHs {b:Brd} {ws:List Int} {l:List Sal} (v:BrdOK b) (h8:l.length ≤ 8) (hok:okAll b l 0 = true):(prS b ws l).length ≤ 300:=by
  obtain ⟨h1,h2⟩:=zGB (ws:=ws) (i:=0) (m:=0) (st:=-1) hok (by omega)
  have h3:=zG1 v h1
  have h4:=zE9 v (wd:=.la (prLate ws) (prLate ws + prWide ws)) (show prLate ws ≤ prLate ws + prWide ws ∧ prLate ws + prWide ws ≤ 60 by unfold prLate prWide; have:=Nat.mod_lt (wrd ws 0) (show 0 < 6 by omega); have:=Nat.mod_lt (wrd ws 0 / 8) (show 0 < 6 by omega); omega)
  unfold prS prT
  rw [zBx,zAp]
  cases prRush ws <;> simp only [cond_false,cond_true,Wd.text,List.length_append,List.length_cons,List.length_nil] at h4 ⊢ <;> omega
structure TruthL (b:Brd) (s:List UInt8) (l:List Sal) (R:List Prt) (ms:List Nat):Prop where
  rd:readI b s = (R,0)
  sy:PrSays R l
  lv:levelsI b R [] = some ms
  pr:pricesI b s = (ms.map bndN,0)
  mi:misI b s = ([],0)
  pv:proveI b s (l.map (·.price)) = true
  bd:∀ i,i < l.length → (bndN (ms.getD i 0)).1 ≤ (l.getD i sal0).price ∧ (l.getD i sal0).price ≤ (bndN (ms.getD i 0)).2
theorem Sold_ok (b:Brd) (ws:List Int) (v:BrdOK b) (hw:WdsOK ws):PureAt Tryz.prog 71 [brdD b,wdsD ws] (salsD (soldL b ws)):=PureAt.of_eff (ds:=[brdD b,wdsD ws]) (Sold_eff b ws v hw)
end Go.Proofs.YticlpkgpmmhemaaGreatDoor
namespace Go.Proofs.YticlpkgpmmhemaaGreatDoor
open Go.Proofs.Tryz
open Go.RowKit
set_option maxRecDepth 20000
set_option linter.all false
set_option maxHeartbeats 4000000
theorem thin_bd {b:Brd} {n:Nat} (h:thinT b n = true):b.stocks.length ≤ 7 ∧ n ≤ 200:=by
  unfold thinT at h
  simp only [Bool.and_eq_true,decide_eq_true_eq] at h
  omega
theorem zDa {d:Dsk}:(∀ p ∈ fltI d,PrtOK d.b p) ∧ (fltI d).length ≤ 8:=by
  unfold fltI
  cases deskI d != 0
  · exact ym
  · exact ⟨fun p hp=>(by cases hp),by simp⟩
theorem zGK {d:Dsk} (h:deskI d = 0):fltI d = (readI d.b d.tape).1:=by unfold fltI; rw [h]; rfl
/-- The desk with the tape of words. -/
@[reducible] def tldD (d:Dsk) (ws:List Int):Dsk:=⟨d.b,prS d.b ws (soldL d.b ws),d.fee,d.orders⟩
/-- What a desk and a truth by words are. -/
structure ToldP (d:Dsk) (x:Dsk × Tru × Bool):Prop where
  b:x.1.b = d.b
  os:x.1.orders = d.orders
  fe:x.1.fee = d.fee
  ok:x.2.2 = true → d.orders.length ≤ 8 ∧ x.1.tape.length ≤ 300 ∧ d.b.stocks.length ≤ 7 ∧ deskI x.1 = 0 ∧ TruW x.1 (readI x.1.b x.1.tape).1 x.2.1 ∧ timesB (readI x.1.b x.1.tape).1 = true
theorem tld_len {d:Dsk} {ws:List Int} (v:BrdOK d.b) (hw:WdsOK ws) (h:deskI (tldD d ws) = 0):(fltI (tldD d ws)).length ≤ (soldL d.b ws).length:=by
  have hs:=zDC v hw
  have hr:=(yi h).1
  rw [zGK h]
  have hr2:(readI d.b (prS d.b ws (soldL d.b ws))).2 = 0:=hr
  have h1:=read_short hr2
  have h2:=printed_read (ws:=ws) (zBB hr2) (by have:=hs.l7; omega) hs.ok h1
  show (readI d.b (prS d.b ws (soldL d.b ws))).1.length ≤ _
  rw [h2,(zGS v hs.ok).len]
  exact Nat.le_refl _
theorem told_ok {d:Dsk} {ws:List Int} {t:Tru} (v:BrdOK d.b) (hw:WdsOK ws) (ho:d.orders.length ≤ 8) (hs:d.b.stocks.length ≤ 7) (h0:deskI (tldD d ws) = 0) (ht:timesB (fltI (tldD d ws)) = true):ToldP d (tldD d ws,t,isTB (tldD d ws) (fltI (tldD d ws)) t):=by
  have hs7:=zDC v hw
  refine ⟨rfl,rfl,rfl,fun h=>⟨ho,zHs v (by have:=hs7.l7; omega) hs7.ok,hs,h0,?_,?_⟩⟩
  · rw [← zGK h0]; exact isT_iff.1 h
  · rw [← zGK h0]; exact ht
theorem zGy {d x:Dsk} {t:Tru} (h1:x.b = d.b) (h2:x.orders = d.orders) (h3:x.fee = d.fee):ToldP d (x,t,false):=⟨h1,h2,h3,fun h=>(by cases h)⟩
theorem zGo {a b:Int} (ha:0 ≤ a) (hb:0 < b):0 ≤ a.tmod b ∧ a.tmod b < b:=by
  rw [Int.tmod_eq_emod_of_nonneg ha]
  exact ⟨Int.emod_nonneg _ (by omega),Int.emod_lt_of_pos _ hb⟩
theorem zC6 (ws:List Int) (i:Nat) (hw:WdsOK ws):PureAt Tryz.prog 74 [wdsD ws,.int .i64 (i:Nat)] (.int .i64 (wrd ws i:Nat)):=by
 refine Zp Tryz.func74 rfl fun Γ hn hl=>?_
 have hw1:=hw.1
 refine Zu (Zt 1 [] hn rfl (Zv (zC (Zu (Zt 3 [] hn rfl (Zv (zH rfl (fun hb0=>?_) (fun hb0=>?_))))))))
 obtain rfl:ws = []:=List.eq_nil_of_length_eq_zero (by simp at hb0; simpa using hb0)
 refine Zu (Zt 1 [] hn rfl (Zv (zJ (zD (zg (zY (.inl rfl) hl rfl (.tmp rfl)) ?_)))))
 simp [wrd]
 have hwl:ws.length ≠ 0:=by simp at hb0; simpa using hb0
 obtain ⟨x,hx⟩:=zT (show i % ws.length < ws.length from Nat.mod_lt _ (by omega))
 have hxb:=hw.2 x (List.mem_of_getElem? hx)
 have e1:((wrd ws i:Nat):Int) = x:=by unfold wrd; rw [zQ hx]; omega
 rw [e1]
 refine zI (zA (Zu (Zt 4 [] hn rfl (Zs hn (ya rfl rfl rfl (r:=((i % ws.length:Nat):Int)) (by rw [List.length_map]; omega) (by rw [List.length_map]; exact modN (by omega))) ?_))))
 refine Zi (i:=i % ws.length) hn rfl rfl (mget hx) ?_
 refine Zt 1 [] hn rfl (Zs hn (zAV rfl rfl underlying253 underlying3 (i64w (by omega) rfl)) ?_)
 refine Zt 1 [] hn rfl (Zv (zJ (zg (zY (.inl rfl) hl rfl (.tmp rfl)) ?_)))
 rfl
theorem Told_eff (d:Dsk) (ws:List Int) (hN:NamesOK d.b) (hw:WdsOK ws):EffAt Tryz.prog 17 [.d (dskD d),.d (wdsD ws)] [] (X:={x:Dsk × Tru × Bool // ToldP d x}) (fun x=>.d (.tup [dskD x.1.1,truD x.1.2.1,.bool x.1.2.2])) (fun _=>[]):=by
 refine EffAt.of_awp Tryz.func17 rfl (by kernel_rfl) rfl fun Γ hn=>?_
 refine Zu (Zb 2 hn rfl fun b2=>Zb 4 hn rfl fun b4=>Zb 5 hn rfl fun b5=>Zt 1 [] hn rfl (Zv (zC (Zu (Zt 7 [2,2] hn rfl (Zkg hn rfl (fun hc=>(show PureAt Tryz.prog 31 [brdD d.b,strD []] (.bool (thinT d.b ([]:List UInt8).length)) from Thin_ok d.b [] hN)) (Zt 5 [2] hn rfl (Zkg hn rfl (fun hc=>zFp d.b hN) (Zt 2 [] hn rfl (Zv (zH rfl (fun hb0=>?_) (fun hb0=>?_))))))))))))
 refine Zu (Zt 5 [2,4,5] hn rfl (Zv (zJ (zD ?_))))
 exact ret_E (.inl rfl) ⟨(d,⟨[],[],[]⟩,false),zGy rfl rfl rfl⟩ ((zB0 rfl (.d (.cellA rfl (id:=4) rfl underlying27 rfl sz27 rfl rfl)) (.d (.cellA rfl (id:=5) rfl underlying31 rfl sz31 rfl rfl)) (.tmp rfl)).le (.tup (.cons (.refl _) (.cons (.agg (.cons (.nil 1) (.cons (.nil 1) (.cons (.nil 1) (.refl _))))) (.refl _))))) trivial
 obtain ⟨⟨q1,q2⟩,q3⟩:(d.orders.length ≤ 8 ∧ thinT d.b ([]:List UInt8).length = true) ∧ checkT d.b = 0:=by simp only [List.length_map,Bool.or_eq_false_iff,Bool.not_eq_false',decide_eq_false_iff_not] at hb0; exact ⟨⟨by omega,hb0.1.2⟩,by simpa using hb0.2⟩
 obtain ⟨hb7,_⟩:=thin_bd q2
 have v:=zAI q3
 have hsk:=zDC v hw
 have hs7:=hsk.l7
 have hpl:=zHs (ws:=ws) v (by omega) hsk.ok
 refine zI (zA (Zu (Zt 3 [2] hn rfl (Zk hn rfl (Sold_ok d.b ws v hw) (Zt 1 [] hn rfl (Zv (Zu (Zt 4 [2] hn rfl (Zk hn rfl (Printed_ok d.b (soldL d.b ws) ws v hw (by omega) hsk.ok) (Zt 1 [] hn rfl (stepW (s_store1 rfl rfl rfl rfl rfl rfl (id:=2) rfl sz9 (Nat.le_of_ble_eq_true rfl) rfl trivial) fun _=>?_)))))))))))
 refine Zv (Zu (Zt 1 [2] hn rfl (Zk hn rfl (Fault4_ok (tldD d ws) hN (show (prS d.b ws (soldL d.b ws)).length ≤ 4294967000 by omega) (show d.orders.length ≤ 1000 by omega)) (Zt 5 [] hn rfl (Zv (Zu (Zt 1 [] hn rfl (Zk hn rfl (Times_ok d.b (fltI (tldD d ws)) zDa.1 zDa.2) (Zt 5 [] hn rfl (Zv (zC (Zu (Zt 6 [] hn rfl (Zv (zH rfl (fun hb1=>?_) (fun hb1=>?_))))))))))))))))
 refine Zu (Zt 5 [2,4,5] hn rfl (Zv (zJ (zD ?_))))
 exact ret_E (.inl rfl) ⟨(tldD d ws,⟨[],[],[]⟩,false),zGy rfl rfl rfl⟩ ((zB0 rfl (.d (.cellA rfl (id:=4) rfl underlying27 rfl sz27 rfl rfl)) (.d (.cellA rfl (id:=5) rfl underlying31 rfl sz31 rfl rfl)) (.tmp rfl)).le (.tup (.cons (.refl _) (.cons (.agg (.cons (.nil 1) (.cons (.nil 1) (.cons (.nil 1) (.refl _))))) (.refl _))))) trivial
 obtain ⟨h0,ht⟩:deskI (tldD d ws) = 0 ∧ timesB (fltI (tldD d ws)) = true:=by simp only [Bool.or_eq_false_iff,Bool.not_eq_false'] at hb1; exact ⟨by simpa using hb1.1,hb1.2⟩
 have htl:=tld_len v hw h0
 obtain ⟨hpo,hl8⟩:=zDa (d:=tldD d ws)
 have hti:timesI (fltI (tldD d ws)) = timL (fltI (tldD d ws)) (fltI (tldD d ws)).length:=by unfold timesI; rw [ht]; rfl
 generalize hfl:fltI (tldD d ws) = l at hpo hl8 ht htl hti
 rw [hti]
 obtain ⟨_,_,_,hob⟩:=yi h0
 refine zI (zA (Zu (Zb 12 hn rfl fun b12=>Zv (zC (zo (gh_nilcell (id:=12) (k:=0) 1081 3 1 rfl rfl) ?_)))))
 refine zo (gh_nilcell (id:=12) (k:=1) 1082 3 1 rfl rfl) ?_
 refine zo (gh_nilcell (id:=12) (k:=2) 1083 3 1 rfl rfl) ?_
 refine zG (Zt 1 [] hn rfl (Zv (zC (Zu (Zt 1 [] hn rfl (Zv (zK (awp_loop_on (ι:={x:Nat × Int × (List Int × Value) × (List Int × Value) // x.1 ≤ l.length ∧ (-9999 ≤ x.2.1 ∧ x.2.1 ≤ 700) ∧ x.2.2.1.1.length = x.1 ∧ x.2.2.2.1.length = x.1}) (fun x=>(14,true,.d (.int .i64 (x.1.1:Nat))) :: (13,true,.d (.int .i64 x.1.2.1)) :: anys [63,64,65,66,69,70,71,72,73,74,75,76,77,78,79,80,81,82,83,84,85,86,87,88,89,90,91,92,93,94,95,96,97,98,99,100,101,102,103,67,68]) (fun x=>[(12,.box b12 31 [.val x.1.2.2.1.2,.val x.1.2.2.2.2,.val (.slice none 0 0)]),(1081,.row x.1.2.2.1.2 3 1 (x.1.2.2.1.1.map intE)),(1082,.row x.1.2.2.2.2 3 1 (x.1.2.2.2.1.map intE))]) (fun x=>l.length - x.1.1) ⟨(0,-9999,([],.slice none 0 0),([],.slice none 0 0)),by simp⟩ ⟨.inl rfl,.inl rfl,zF _⟩ ⟨.inl rfl,.inl rfl,.inl rfl,trivial⟩ ?_))))))))
 rintro ⟨⟨i,la,⟨ps,vp⟩,⟨ms,vm⟩⟩,hi,hla,hps,hms⟩
 dsimp only
 dsimp only at hi hla hps hms
 refine zC (Zu (Zt 4 [] hn rfl (Zv (zH rfl (fun hb2=>?_) (fun hb2=>?_)))))
 ·
  have hil:i < l.length:=by simp at hb2; omega
  have htm:=(tim_mono hpo ht hil).1
  have hpb:=zHQ hpo hil
  have hrg:(timL l l.length)[i]? = some (timI l i):=by have:=zBZ hil; obtain ⟨x,hx⟩:=zT (show i < (timL l l.length).length by rw [zEv]; exact hil); rw [zQ hx] at this; rw [hx,this]
  obtain ⟨sl,hsl⟩:=zT (show i < (soldL d.b ws).length by omega)
  have hwb:=zBk hw (i + 3)
  have hmo:=zGo (a:=(wrd ws (i + 3):Nat)) (b:=4) (by omega) (by omega)
  refine zI (zA (zC (zK (zC (ze (W:=fun b=>True) fmo ?_)))))
  refine Zy [0,1] [] hn rfl (Zd 2 rfl hn (q_index (i:=i) rfl rfl rfl underlying155 sz59 rfl (mget hrg)) ?_)
  refine Zy [3,4,5,6,7] [] hn rfl (Zd 8 rfl hn (q_index (i:=i) rfl rfl rfl underlying155 sz59 rfl (mget hrg)) ?_)
  refine Zy [9,10,11,12] [] hn rfl (Zd 13 rfl hn (za rfl rfl rfl (r:=((i + 3:Nat):Int)) (i64w (by omega) (by omega))) ?_)
  refine zB (Ze1 14 rfl hn rfl (zC6 _ _ (by assumption)) (d2_of_d1 (Zd 15 rfl hn (ya rfl rfl rfl (by omega) rfl) ?_)))
  refine Zd 16 rfl hn (za rfl rfl rfl (i64w (by omega) rfl)) ?_
  refine Zd 17 rfl hn (yj rfl rfl rfl) ?_
  refine Zd 18 rfl hn (zDk rfl rfl rfl) ?_
  refine Zy [19] [] hn rfl (zB (zb (by kernel_rfl) ?_))
  refine zA ?_
  obtain ⟨la2,hla2⟩:∃ z:Int,z = min (timI l i).2 (max la ((timI l i).1 + (wrd ws (i + 3):Int).tmod 4)):=⟨_,rfl⟩
  rw [← hla2]
  refine ze (W:=fun b=>True) fmo ?_
  refine Zy [0,2,3] [] hn rfl (Zd 4 rfl hn (q_index (i:=i) rfl rfl rfl underlying91 sz96 rfl (mget hsl)) ?_)
  refine Zy [5,6,9,11] [] hn rfl (zB ?_)
  refine zf 1 [7,10,12] (by kernel_rfl) ⟨?_,?_,?_,?_,trivial⟩
  focus
   refine br rfl (Zw hn (zU rfl rfl (id:=12) rfl underlying29 rfl rfl sees0)) fun _=>?_
   refine d2_of_d1 (zB ?_)
   refine zf 7 [10,12] (by kernel_rfl) ⟨?_,?_,?_,trivial⟩
   focus
    refine br rfl (zL rfl rfl rfl (nb hn rfl) underlying29 sz3 zr3 rfl rfl rfl (show _ = [.d (.int .i64 0)] from by kernel_rfl) (by kernel_rfl) rfl rfl rfl rfl rfl) fun _=>?_
    refine d2_of_d1 (zB ?_)
    refine zf 8 [10,12] (by kernel_rfl) ⟨?_,?_,?_,trivial⟩
    focus
     refine br rfl (s_append (id:=1081) rfl rfl rfl (nb hn rfl) elt29 trivial rfl rfl rfl (by simp [chunk]; omega) (by simp [chunk]; omega) (fun b hb=>trivial)) fun v96=>?_
     refine d2_of_d1 (zB ?_)
     refine zf 10 [12] (by kernel_rfl) ⟨?_,?_,trivial⟩
     refine br rfl (Zw hn (zU rfl rfl (id:=12) rfl underlying29 rfl rfl sees0)) fun _=>?_
     refine d2_of_d1 (Zy [14] [] hn rfl (zB (Zo 12 rfl (zL rfl rfl rfl (nb hn rfl) underlying29 sz3 zr3 rfl rfl rfl (show _ = [.d (.int .i64 0)] from by kernel_rfl) (by kernel_rfl) rfl rfl rfl rfl rfl) fun _=>?_)))
     refine d2_of_d1 (zB ?_)
     rotate_left
     refine br rfl (zL rfl rfl rfl (nb hn rfl) underlying29 sz3 zr3 rfl rfl rfl (show _ = [.d (.int .i64 0)] from by kernel_rfl) (by kernel_rfl) rfl rfl rfl rfl rfl) fun _=>?_
     refine d2_of_d1 (zB (Ze [10] [12] hn rfl (d2_of_d1 (Zy [14] [] hn rfl (zB ?_)))))
     rotate_left
    rotate_left 2
    focus
     refine br rfl (Zw hn (zU rfl rfl (id:=12) rfl underlying29 rfl rfl sees0)) fun _=>?_
     refine d2_of_d1 (zB ?_)
     refine zf 8 [12] (by kernel_rfl) ⟨?_,?_,trivial⟩
     refine br rfl (s_append (id:=1081) rfl rfl rfl (nb hn rfl) elt29 trivial rfl rfl rfl (by simp [chunk]; omega) (by simp [chunk]; omega) (fun b hb=>trivial)) fun v96=>?_
     refine d2_of_d1 (Zy [14] [] hn rfl (zB (Zo 12 rfl (zL rfl rfl rfl (nb hn rfl) underlying29 sz3 zr3 rfl rfl rfl (show _ = [.d (.int .i64 0)] from by kernel_rfl) (by kernel_rfl) rfl rfl rfl rfl rfl) fun _=>?_)))
     refine d2_of_d1 (zB ?_)
     rotate_left
     refine br rfl (zL rfl rfl rfl (nb hn rfl) underlying29 sz3 zr3 rfl rfl rfl (show _ = [.d (.int .i64 0)] from by kernel_rfl) (by kernel_rfl) rfl rfl rfl rfl rfl) fun _=>?_
     refine d2_of_d1 (zB (Zo 8 rfl (s_append (id:=1081) rfl rfl rfl (nb hn rfl) elt29 trivial rfl rfl rfl (by simp [chunk]; omega) (by simp [chunk]; omega) (fun b hb=>trivial)) fun v96=>?_))
     refine d2_of_d1 (Zy [14] [] hn rfl (zB ?_))
     rotate_left
    rotate_left 2
    focus
     refine br rfl (zL rfl rfl rfl (nb hn rfl) underlying29 sz3 zr3 rfl rfl rfl (show _ = [.d (.int .i64 0)] from by kernel_rfl) (by kernel_rfl) rfl rfl rfl rfl rfl) fun _=>?_
     refine d2_of_d1 (zB ?_)
     refine zf 8 [10] (by kernel_rfl) ⟨?_,?_,trivial⟩
     refine br rfl (s_append (id:=1081) rfl rfl rfl (nb hn rfl) elt29 trivial rfl rfl rfl (by simp [chunk]; omega) (by simp [chunk]; omega) (fun b hb=>trivial)) fun v96=>?_
     refine d2_of_d1 (zB (Ze [10] [12] hn rfl ?_))
     rotate_left
     refine br rfl (Zw hn (zU rfl rfl (id:=12) rfl underlying29 rfl rfl sees0)) fun _=>?_
     refine d2_of_d1 (zB (Zo 8 rfl (s_append (id:=1081) rfl rfl rfl (nb hn rfl) elt29 trivial rfl rfl rfl (by simp [chunk]; omega) (by simp [chunk]; omega) (fun b hb=>trivial)) fun v96=>?_))
     rotate_left
     all_goals
      refine d2_of_d1 (Zy [14] [] hn rfl (zB ?_))
    rotate_left 2
   rotate_left 6
   focus
    refine br rfl (Zw hn (zU rfl rfl (id:=12) rfl underlying29 rfl rfl sees0)) fun _=>?_
    refine d2_of_d1 (zB ?_)
    refine zf 7 [12] (by kernel_rfl) ⟨?_,?_,trivial⟩
    focus
     refine br rfl (zL rfl rfl rfl (nb hn rfl) underlying29 sz3 zr3 rfl rfl rfl (show _ = [.d (.int .i64 0)] from by kernel_rfl) (by kernel_rfl) rfl rfl rfl rfl rfl) fun _=>?_
     refine d2_of_d1 (zB ?_)
     refine zf 8 [12] (by kernel_rfl) ⟨?_,?_,trivial⟩
     refine br rfl (s_append (id:=1081) rfl rfl rfl (nb hn rfl) elt29 trivial rfl rfl rfl (by simp [chunk]; omega) (by simp [chunk]; omega) (fun b hb=>trivial)) fun v96=>?_
     refine d2_of_d1 (Zy [14] [] hn rfl (zB (Zo 12 rfl (zL rfl rfl rfl (nb hn rfl) underlying29 sz3 zr3 rfl rfl rfl (show _ = [.d (.int .i64 0)] from by kernel_rfl) (by kernel_rfl) rfl rfl rfl rfl rfl) fun _=>?_)))
     refine d2_of_d1 (zB ?_)
     rotate_left
     refine br rfl (zL rfl rfl rfl (nb hn rfl) underlying29 sz3 zr3 rfl rfl rfl (show _ = [.d (.int .i64 0)] from by kernel_rfl) (by kernel_rfl) rfl rfl rfl rfl rfl) fun _=>?_
     refine d2_of_d1 (zB (Zo 8 rfl (s_append (id:=1081) rfl rfl rfl (nb hn rfl) elt29 trivial rfl rfl rfl (by simp [chunk]; omega) (by simp [chunk]; omega) (fun b hb=>trivial)) fun v96=>?_))
     refine d2_of_d1 (Zy [14] [] hn rfl (zB ?_))
     rotate_left
    rotate_left 2
    refine br rfl (zL rfl rfl rfl (nb hn rfl) underlying29 sz3 zr3 rfl rfl rfl (show _ = [.d (.int .i64 0)] from by kernel_rfl) (by kernel_rfl) rfl rfl rfl rfl rfl) fun _=>?_
    refine d2_of_d1 (zB (Zo 7 rfl (zL rfl rfl rfl (nb hn rfl) underlying29 sz3 zr3 rfl rfl rfl (show _ = [.d (.int .i64 0)] from by kernel_rfl) (by kernel_rfl) rfl rfl rfl rfl rfl) fun _=>?_))
    refine d2_of_d1 (zB (Zo 8 rfl (s_append (id:=1081) rfl rfl rfl (nb hn rfl) elt29 trivial rfl rfl rfl (by simp [chunk]; omega) (by simp [chunk]; omega) (fun b hb=>trivial)) fun v96=>?_))
    refine d2_of_d1 (Zy [14] [] hn rfl (zB ?_))
    rotate_left
   rotate_left 3
   focus
    refine br rfl (zL rfl rfl rfl (nb hn rfl) underlying29 sz3 zr3 rfl rfl rfl (show _ = [.d (.int .i64 0)] from by kernel_rfl) (by kernel_rfl) rfl rfl rfl rfl rfl) fun _=>?_
    refine d2_of_d1 (zB ?_)
    refine zf 7 [10] (by kernel_rfl) ⟨?_,?_,trivial⟩
    focus
     refine br rfl (zL rfl rfl rfl (nb hn rfl) underlying29 sz3 zr3 rfl rfl rfl (show _ = [.d (.int .i64 0)] from by kernel_rfl) (by kernel_rfl) rfl rfl rfl rfl rfl) fun _=>?_
     refine d2_of_d1 (zB ?_)
     refine zf 8 [10] (by kernel_rfl) ⟨?_,?_,trivial⟩
     refine br rfl (s_append (id:=1081) rfl rfl rfl (nb hn rfl) elt29 trivial rfl rfl rfl (by simp [chunk]; omega) (by simp [chunk]; omega) (fun b hb=>trivial)) fun v96=>?_
     refine d2_of_d1 (zB (Ze [10] [12] hn rfl ?_))
     rotate_left
     refine br rfl (Zw hn (zU rfl rfl (id:=12) rfl underlying29 rfl rfl sees0)) fun _=>?_
     refine d2_of_d1 (zB (Zo 8 rfl (s_append (id:=1081) rfl rfl rfl (nb hn rfl) elt29 trivial rfl rfl rfl (by simp [chunk]; omega) (by simp [chunk]; omega) (fun b hb=>trivial)) fun v96=>?_))
     rotate_left
    rotate_left 2
    refine br rfl (Zw hn (zU rfl rfl (id:=12) rfl underlying29 rfl rfl sees0)) fun _=>?_
    refine d2_of_d1 (zB (Zo 7 rfl (zL rfl rfl rfl (nb hn rfl) underlying29 sz3 zr3 rfl rfl rfl (show _ = [.d (.int .i64 0)] from by kernel_rfl) (by kernel_rfl) rfl rfl rfl rfl rfl) fun _=>?_))
    refine d2_of_d1 (zB (Zo 8 rfl (s_append (id:=1081) rfl rfl rfl (nb hn rfl) elt29 trivial rfl rfl rfl (by simp [chunk]; omega) (by simp [chunk]; omega) (fun b hb=>trivial)) fun v96=>?_))
    rotate_left
    all_goals
     refine d2_of_d1 (Zy [14] [] hn rfl (zB ?_))
   rotate_left 3
  rotate_left 12
  focus
   refine br rfl (zL rfl rfl rfl (nb hn rfl) underlying29 sz3 zr3 rfl rfl rfl (show _ = [.d (.int .i64 0)] from by kernel_rfl) (by kernel_rfl) rfl rfl rfl rfl rfl) fun _=>?_
   refine d2_of_d1 (zB ?_)
   refine zf 1 [10,12] (by kernel_rfl) ⟨?_,?_,?_,trivial⟩
   focus
    refine br rfl (Zw hn (zU rfl rfl (id:=12) rfl underlying29 rfl rfl sees0)) fun _=>?_
    refine d2_of_d1 (zB ?_)
    refine zf 8 [10,12] (by kernel_rfl) ⟨?_,?_,?_,trivial⟩
    focus
     refine br rfl (s_append (id:=1081) rfl rfl rfl (nb hn rfl) elt29 trivial rfl rfl rfl (by simp [chunk]; omega) (by simp [chunk]; omega) (fun b hb=>trivial)) fun v96=>?_
     refine d2_of_d1 (zB ?_)
     refine zf 10 [12] (by kernel_rfl) ⟨?_,?_,trivial⟩
     refine br rfl (Zw hn (zU rfl rfl (id:=12) rfl underlying29 rfl rfl sees0)) fun _=>?_
     refine d2_of_d1 (Zy [14] [] hn rfl (zB (Zo 12 rfl (zL rfl rfl rfl (nb hn rfl) underlying29 sz3 zr3 rfl rfl rfl (show _ = [.d (.int .i64 0)] from by kernel_rfl) (by kernel_rfl) rfl rfl rfl rfl rfl) fun _=>?_)))
     refine d2_of_d1 (zB ?_)
     rotate_left
     refine br rfl (zL rfl rfl rfl (nb hn rfl) underlying29 sz3 zr3 rfl rfl rfl (show _ = [.d (.int .i64 0)] from by kernel_rfl) (by kernel_rfl) rfl rfl rfl rfl rfl) fun _=>?_
     refine d2_of_d1 (zB (Ze [10] [12] hn rfl (d2_of_d1 (Zy [14] [] hn rfl (zB ?_)))))
     rotate_left
    rotate_left 2
    focus
     refine br rfl (Zw hn (zU rfl rfl (id:=12) rfl underlying29 rfl rfl sees0)) fun _=>?_
     refine d2_of_d1 (zB ?_)
     refine zf 8 [12] (by kernel_rfl) ⟨?_,?_,trivial⟩
     refine br rfl (s_append (id:=1081) rfl rfl rfl (nb hn rfl) elt29 trivial rfl rfl rfl (by simp [chunk]; omega) (by simp [chunk]; omega) (fun b hb=>trivial)) fun v96=>?_
     refine d2_of_d1 (Zy [14] [] hn rfl (zB (Zo 12 rfl (zL rfl rfl rfl (nb hn rfl) underlying29 sz3 zr3 rfl rfl rfl (show _ = [.d (.int .i64 0)] from by kernel_rfl) (by kernel_rfl) rfl rfl rfl rfl rfl) fun _=>?_)))
     refine d2_of_d1 (zB ?_)
     rotate_left
     refine br rfl (zL rfl rfl rfl (nb hn rfl) underlying29 sz3 zr3 rfl rfl rfl (show _ = [.d (.int .i64 0)] from by kernel_rfl) (by kernel_rfl) rfl rfl rfl rfl rfl) fun _=>?_
     refine d2_of_d1 (zB (Zo 8 rfl (s_append (id:=1081) rfl rfl rfl (nb hn rfl) elt29 trivial rfl rfl rfl (by simp [chunk]; omega) (by simp [chunk]; omega) (fun b hb=>trivial)) fun v96=>?_))
     refine d2_of_d1 (Zy [14] [] hn rfl (zB ?_))
     rotate_left
    rotate_left 2
    focus
     refine br rfl (zL rfl rfl rfl (nb hn rfl) underlying29 sz3 zr3 rfl rfl rfl (show _ = [.d (.int .i64 0)] from by kernel_rfl) (by kernel_rfl) rfl rfl rfl rfl rfl) fun _=>?_
     refine d2_of_d1 (zB ?_)
     refine zf 8 [10] (by kernel_rfl) ⟨?_,?_,trivial⟩
     refine br rfl (s_append (id:=1081) rfl rfl rfl (nb hn rfl) elt29 trivial rfl rfl rfl (by simp [chunk]; omega) (by simp [chunk]; omega) (fun b hb=>trivial)) fun v96=>?_
     refine d2_of_d1 (zB (Ze [10] [12] hn rfl ?_))
     rotate_left
     refine br rfl (Zw hn (zU rfl rfl (id:=12) rfl underlying29 rfl rfl sees0)) fun _=>?_
     refine d2_of_d1 (zB (Zo 8 rfl (s_append (id:=1081) rfl rfl rfl (nb hn rfl) elt29 trivial rfl rfl rfl (by simp [chunk]; omega) (by simp [chunk]; omega) (fun b hb=>trivial)) fun v96=>?_))
     rotate_left
     all_goals
      refine d2_of_d1 (Zy [14] [] hn rfl (zB ?_))
    rotate_left 2
   rotate_left 6
   focus
    refine br rfl (Zw hn (zU rfl rfl (id:=12) rfl underlying29 rfl rfl sees0)) fun _=>?_
    refine d2_of_d1 (zB ?_)
    refine zf 1 [12] (by kernel_rfl) ⟨?_,?_,trivial⟩
    focus
     refine br rfl (Zw hn (zU rfl rfl (id:=12) rfl underlying29 rfl rfl sees0)) fun _=>?_
     refine d2_of_d1 (zB ?_)
     refine zf 8 [12] (by kernel_rfl) ⟨?_,?_,trivial⟩
     refine br rfl (s_append (id:=1081) rfl rfl rfl (nb hn rfl) elt29 trivial rfl rfl rfl (by simp [chunk]; omega) (by simp [chunk]; omega) (fun b hb=>trivial)) fun v96=>?_
     refine d2_of_d1 (Zy [14] [] hn rfl (zB (Zo 12 rfl (zL rfl rfl rfl (nb hn rfl) underlying29 sz3 zr3 rfl rfl rfl (show _ = [.d (.int .i64 0)] from by kernel_rfl) (by kernel_rfl) rfl rfl rfl rfl rfl) fun _=>?_)))
     refine d2_of_d1 (zB ?_)
     rotate_left
     refine br rfl (zL rfl rfl rfl (nb hn rfl) underlying29 sz3 zr3 rfl rfl rfl (show _ = [.d (.int .i64 0)] from by kernel_rfl) (by kernel_rfl) rfl rfl rfl rfl rfl) fun _=>?_
     refine d2_of_d1 (zB (Zo 8 rfl (s_append (id:=1081) rfl rfl rfl (nb hn rfl) elt29 trivial rfl rfl rfl (by simp [chunk]; omega) (by simp [chunk]; omega) (fun b hb=>trivial)) fun v96=>?_))
     refine d2_of_d1 (Zy [14] [] hn rfl (zB ?_))
     rotate_left
    rotate_left 2
    refine br rfl (zL rfl rfl rfl (nb hn rfl) underlying29 sz3 zr3 rfl rfl rfl (show _ = [.d (.int .i64 0)] from by kernel_rfl) (by kernel_rfl) rfl rfl rfl rfl rfl) fun _=>?_
    refine d2_of_d1 (zB (Ze [1] [12] hn rfl (d2_of_d1 (zB (Zo 8 rfl (s_append (id:=1081) rfl rfl rfl (nb hn rfl) elt29 trivial rfl rfl rfl (by simp [chunk]; omega) (by simp [chunk]; omega) (fun b hb=>trivial)) fun v96=>?_)))))
    refine d2_of_d1 (Zy [14] [] hn rfl (zB ?_))
    rotate_left
   rotate_left 3
   focus
    refine br rfl (zL rfl rfl rfl (nb hn rfl) underlying29 sz3 zr3 rfl rfl rfl (show _ = [.d (.int .i64 0)] from by kernel_rfl) (by kernel_rfl) rfl rfl rfl rfl rfl) fun _=>?_
    refine d2_of_d1 (zB ?_)
    refine zf 1 [10] (by kernel_rfl) ⟨?_,?_,trivial⟩
    focus
     refine br rfl (Zw hn (zU rfl rfl (id:=12) rfl underlying29 rfl rfl sees0)) fun _=>?_
     refine d2_of_d1 (zB ?_)
     refine zf 8 [10] (by kernel_rfl) ⟨?_,?_,trivial⟩
     refine br rfl (s_append (id:=1081) rfl rfl rfl (nb hn rfl) elt29 trivial rfl rfl rfl (by simp [chunk]; omega) (by simp [chunk]; omega) (fun b hb=>trivial)) fun v96=>?_
     refine d2_of_d1 (zB (Ze [10] [12] hn rfl ?_))
     rotate_left
     refine br rfl (Zw hn (zU rfl rfl (id:=12) rfl underlying29 rfl rfl sees0)) fun _=>?_
     refine d2_of_d1 (zB (Zo 8 rfl (s_append (id:=1081) rfl rfl rfl (nb hn rfl) elt29 trivial rfl rfl rfl (by simp [chunk]; omega) (by simp [chunk]; omega) (fun b hb=>trivial)) fun v96=>?_))
     rotate_left
    rotate_left 2
    refine br rfl (Zw hn (zU rfl rfl (id:=12) rfl underlying29 rfl rfl sees0)) fun _=>?_
    refine d2_of_d1 (zB (Ze [1] [12] hn rfl (d2_of_d1 (zB (Zo 8 rfl (s_append (id:=1081) rfl rfl rfl (nb hn rfl) elt29 trivial rfl rfl rfl (by simp [chunk]; omega) (by simp [chunk]; omega) (fun b hb=>trivial)) fun v96=>?_)))))
    rotate_left
    all_goals
     refine d2_of_d1 (Zy [14] [] hn rfl (zB ?_))
   rotate_left 3
  rotate_left 12
  focus
   refine br rfl (Zw hn (zU rfl rfl (id:=12) rfl underlying29 rfl rfl sees0)) fun _=>?_
   refine d2_of_d1 (zB ?_)
   refine zf 1 [7,12] (by kernel_rfl) ⟨?_,?_,?_,trivial⟩
   focus
    refine br rfl (Zw hn (zU rfl rfl (id:=12) rfl underlying29 rfl rfl sees0)) fun _=>?_
    refine d2_of_d1 (zB ?_)
    refine zf 7 [12] (by kernel_rfl) ⟨?_,?_,trivial⟩
    focus
     refine br rfl (zL rfl rfl rfl (nb hn rfl) underlying29 sz3 zr3 rfl rfl rfl (show _ = [.d (.int .i64 0)] from by kernel_rfl) (by kernel_rfl) rfl rfl rfl rfl rfl) fun _=>?_
     refine d2_of_d1 (zB ?_)
     refine zf 8 [12] (by kernel_rfl) ⟨?_,?_,trivial⟩
     refine br rfl (s_append (id:=1081) rfl rfl rfl (nb hn rfl) elt29 trivial rfl rfl rfl (by simp [chunk]; omega) (by simp [chunk]; omega) (fun b hb=>trivial)) fun v96=>?_
     refine d2_of_d1 (Zy [14] [] hn rfl (zB (Zo 12 rfl (zL rfl rfl rfl (nb hn rfl) underlying29 sz3 zr3 rfl rfl rfl (show _ = [.d (.int .i64 0)] from by kernel_rfl) (by kernel_rfl) rfl rfl rfl rfl rfl) fun _=>?_)))
     refine d2_of_d1 (zB ?_)
     rotate_left
     refine br rfl (zL rfl rfl rfl (nb hn rfl) underlying29 sz3 zr3 rfl rfl rfl (show _ = [.d (.int .i64 0)] from by kernel_rfl) (by kernel_rfl) rfl rfl rfl rfl rfl) fun _=>?_
     refine d2_of_d1 (zB (Zo 8 rfl (s_append (id:=1081) rfl rfl rfl (nb hn rfl) elt29 trivial rfl rfl rfl (by simp [chunk]; omega) (by simp [chunk]; omega) (fun b hb=>trivial)) fun v96=>?_))
     refine d2_of_d1 (Zy [14] [] hn rfl (zB ?_))
     rotate_left
    rotate_left 2
    refine br rfl (zL rfl rfl rfl (nb hn rfl) underlying29 sz3 zr3 rfl rfl rfl (show _ = [.d (.int .i64 0)] from by kernel_rfl) (by kernel_rfl) rfl rfl rfl rfl rfl) fun _=>?_
    refine d2_of_d1 (zB (Zo 7 rfl (zL rfl rfl rfl (nb hn rfl) underlying29 sz3 zr3 rfl rfl rfl (show _ = [.d (.int .i64 0)] from by kernel_rfl) (by kernel_rfl) rfl rfl rfl rfl rfl) fun _=>?_))
    refine d2_of_d1 (zB (Zo 8 rfl (s_append (id:=1081) rfl rfl rfl (nb hn rfl) elt29 trivial rfl rfl rfl (by simp [chunk]; omega) (by simp [chunk]; omega) (fun b hb=>trivial)) fun v96=>?_))
    refine d2_of_d1 (Zy [14] [] hn rfl (zB ?_))
    rotate_left
   rotate_left 3
   focus
    refine br rfl (zL rfl rfl rfl (nb hn rfl) underlying29 sz3 zr3 rfl rfl rfl (show _ = [.d (.int .i64 0)] from by kernel_rfl) (by kernel_rfl) rfl rfl rfl rfl rfl) fun _=>?_
    refine d2_of_d1 (zB ?_)
    refine zf 1 [12] (by kernel_rfl) ⟨?_,?_,trivial⟩
    focus
     refine br rfl (Zw hn (zU rfl rfl (id:=12) rfl underlying29 rfl rfl sees0)) fun _=>?_
     refine d2_of_d1 (zB ?_)
     refine zf 8 [12] (by kernel_rfl) ⟨?_,?_,trivial⟩
     refine br rfl (s_append (id:=1081) rfl rfl rfl (nb hn rfl) elt29 trivial rfl rfl rfl (by simp [chunk]; omega) (by simp [chunk]; omega) (fun b hb=>trivial)) fun v96=>?_
     refine d2_of_d1 (Zy [14] [] hn rfl (zB (Zo 12 rfl (zL rfl rfl rfl (nb hn rfl) underlying29 sz3 zr3 rfl rfl rfl (show _ = [.d (.int .i64 0)] from by kernel_rfl) (by kernel_rfl) rfl rfl rfl rfl rfl) fun _=>?_)))
     refine d2_of_d1 (zB ?_)
     rotate_left
     refine br rfl (zL rfl rfl rfl (nb hn rfl) underlying29 sz3 zr3 rfl rfl rfl (show _ = [.d (.int .i64 0)] from by kernel_rfl) (by kernel_rfl) rfl rfl rfl rfl rfl) fun _=>?_
     refine d2_of_d1 (zB (Zo 8 rfl (s_append (id:=1081) rfl rfl rfl (nb hn rfl) elt29 trivial rfl rfl rfl (by simp [chunk]; omega) (by simp [chunk]; omega) (fun b hb=>trivial)) fun v96=>?_))
     refine d2_of_d1 (Zy [14] [] hn rfl (zB ?_))
     rotate_left
    rotate_left 2
    refine br rfl (zL rfl rfl rfl (nb hn rfl) underlying29 sz3 zr3 rfl rfl rfl (show _ = [.d (.int .i64 0)] from by kernel_rfl) (by kernel_rfl) rfl rfl rfl rfl rfl) fun _=>?_
    refine d2_of_d1 (zB (Ze [1] [12] hn rfl (d2_of_d1 (zB (Zo 8 rfl (s_append (id:=1081) rfl rfl rfl (nb hn rfl) elt29 trivial rfl rfl rfl (by simp [chunk]; omega) (by simp [chunk]; omega) (fun b hb=>trivial)) fun v96=>?_)))))
    refine d2_of_d1 (Zy [14] [] hn rfl (zB ?_))
    rotate_left
   rotate_left 3
   focus
    refine br rfl (zL rfl rfl rfl (nb hn rfl) underlying29 sz3 zr3 rfl rfl rfl (show _ = [.d (.int .i64 0)] from by kernel_rfl) (by kernel_rfl) rfl rfl rfl rfl rfl) fun _=>?_
    refine d2_of_d1 (zB ?_)
    refine zf 1 [7] (by kernel_rfl) ⟨?_,?_,trivial⟩
    refine br rfl (Zw hn (zU rfl rfl (id:=12) rfl underlying29 rfl rfl sees0)) fun _=>?_
    refine d2_of_d1 (zB (Zo 7 rfl (zL rfl rfl rfl (nb hn rfl) underlying29 sz3 zr3 rfl rfl rfl (show _ = [.d (.int .i64 0)] from by kernel_rfl) (by kernel_rfl) rfl rfl rfl rfl rfl) fun _=>?_))
    rotate_left
    refine br rfl (zL rfl rfl rfl (nb hn rfl) underlying29 sz3 zr3 rfl rfl rfl (show _ = [.d (.int .i64 0)] from by kernel_rfl) (by kernel_rfl) rfl rfl rfl rfl rfl) fun _=>?_
    refine d2_of_d1 (zB (Ze [1] [12] hn rfl ?_))
    rotate_left
    all_goals
     refine d2_of_d1 (zB (Zo 8 rfl (s_append (id:=1081) rfl rfl rfl (nb hn rfl) elt29 trivial rfl rfl rfl (by simp [chunk]; omega) (by simp [chunk]; omega) (fun b hb=>trivial)) fun v96=>?_))
     refine d2_of_d1 (Zy [14] [] hn rfl (zB ?_))
   rotate_left 2
  rotate_left 8
  focus
   refine br rfl (zL rfl rfl rfl (nb hn rfl) underlying29 sz3 zr3 rfl rfl rfl (show _ = [.d (.int .i64 0)] from by kernel_rfl) (by kernel_rfl) rfl rfl rfl rfl rfl) fun _=>?_
   refine d2_of_d1 (zB ?_)
   refine zf 1 [7,10] (by kernel_rfl) ⟨?_,?_,?_,trivial⟩
   focus
    refine br rfl (Zw hn (zU rfl rfl (id:=12) rfl underlying29 rfl rfl sees0)) fun _=>?_
    refine d2_of_d1 (zB ?_)
    refine zf 7 [10] (by kernel_rfl) ⟨?_,?_,trivial⟩
    focus
     refine br rfl (zL rfl rfl rfl (nb hn rfl) underlying29 sz3 zr3 rfl rfl rfl (show _ = [.d (.int .i64 0)] from by kernel_rfl) (by kernel_rfl) rfl rfl rfl rfl rfl) fun _=>?_
     refine d2_of_d1 (zB ?_)
     refine zf 8 [10] (by kernel_rfl) ⟨?_,?_,trivial⟩
     refine br rfl (s_append (id:=1081) rfl rfl rfl (nb hn rfl) elt29 trivial rfl rfl rfl (by simp [chunk]; omega) (by simp [chunk]; omega) (fun b hb=>trivial)) fun v96=>?_
     refine d2_of_d1 (zB (Ze [10] [12] hn rfl ?_))
     rotate_left
     refine br rfl (Zw hn (zU rfl rfl (id:=12) rfl underlying29 rfl rfl sees0)) fun _=>?_
     refine d2_of_d1 (zB (Zo 8 rfl (s_append (id:=1081) rfl rfl rfl (nb hn rfl) elt29 trivial rfl rfl rfl (by simp [chunk]; omega) (by simp [chunk]; omega) (fun b hb=>trivial)) fun v96=>?_))
     rotate_left
    rotate_left 2
    refine br rfl (Zw hn (zU rfl rfl (id:=12) rfl underlying29 rfl rfl sees0)) fun _=>?_
    refine d2_of_d1 (zB (Zo 7 rfl (zL rfl rfl rfl (nb hn rfl) underlying29 sz3 zr3 rfl rfl rfl (show _ = [.d (.int .i64 0)] from by kernel_rfl) (by kernel_rfl) rfl rfl rfl rfl rfl) fun _=>?_))
    refine d2_of_d1 (zB (Zo 8 rfl (s_append (id:=1081) rfl rfl rfl (nb hn rfl) elt29 trivial rfl rfl rfl (by simp [chunk]; omega) (by simp [chunk]; omega) (fun b hb=>trivial)) fun v96=>?_))
    rotate_left
   rotate_left 3
   focus
    refine br rfl (zL rfl rfl rfl (nb hn rfl) underlying29 sz3 zr3 rfl rfl rfl (show _ = [.d (.int .i64 0)] from by kernel_rfl) (by kernel_rfl) rfl rfl rfl rfl rfl) fun _=>?_
    refine d2_of_d1 (zB ?_)
    refine zf 1 [10] (by kernel_rfl) ⟨?_,?_,trivial⟩
    focus
     refine br rfl (Zw hn (zU rfl rfl (id:=12) rfl underlying29 rfl rfl sees0)) fun _=>?_
     refine d2_of_d1 (zB ?_)
     refine zf 8 [10] (by kernel_rfl) ⟨?_,?_,trivial⟩
     refine br rfl (s_append (id:=1081) rfl rfl rfl (nb hn rfl) elt29 trivial rfl rfl rfl (by simp [chunk]; omega) (by simp [chunk]; omega) (fun b hb=>trivial)) fun v96=>?_
     refine d2_of_d1 (zB (Ze [10] [12] hn rfl ?_))
     rotate_left
     refine br rfl (Zw hn (zU rfl rfl (id:=12) rfl underlying29 rfl rfl sees0)) fun _=>?_
     refine d2_of_d1 (zB (Zo 8 rfl (s_append (id:=1081) rfl rfl rfl (nb hn rfl) elt29 trivial rfl rfl rfl (by simp [chunk]; omega) (by simp [chunk]; omega) (fun b hb=>trivial)) fun v96=>?_))
     rotate_left
    rotate_left 2
    refine br rfl (Zw hn (zU rfl rfl (id:=12) rfl underlying29 rfl rfl sees0)) fun _=>?_
    refine d2_of_d1 (zB (Ze [1] [12] hn rfl (d2_of_d1 (zB (Zo 8 rfl (s_append (id:=1081) rfl rfl rfl (nb hn rfl) elt29 trivial rfl rfl rfl (by simp [chunk]; omega) (by simp [chunk]; omega) (fun b hb=>trivial)) fun v96=>?_)))))
    rotate_left
   rotate_left 3
   focus
    refine br rfl (Zw hn (zU rfl rfl (id:=12) rfl underlying29 rfl rfl sees0)) fun _=>?_
    refine d2_of_d1 (zB ?_)
    refine zf 1 [7] (by kernel_rfl) ⟨?_,?_,trivial⟩
    refine br rfl (Zw hn (zU rfl rfl (id:=12) rfl underlying29 rfl rfl sees0)) fun _=>?_
    refine d2_of_d1 (zB (Zo 7 rfl (zL rfl rfl rfl (nb hn rfl) underlying29 sz3 zr3 rfl rfl rfl (show _ = [.d (.int .i64 0)] from by kernel_rfl) (by kernel_rfl) rfl rfl rfl rfl rfl) fun _=>?_))
    rotate_left
    refine br rfl (zL rfl rfl rfl (nb hn rfl) underlying29 sz3 zr3 rfl rfl rfl (show _ = [.d (.int .i64 0)] from by kernel_rfl) (by kernel_rfl) rfl rfl rfl rfl rfl) fun _=>?_
    refine d2_of_d1 (zB (Ze [1] [12] hn rfl ?_))
    rotate_left
    all_goals
     refine d2_of_d1 (zB (Zo 8 rfl (s_append (id:=1081) rfl rfl rfl (nb hn rfl) elt29 trivial rfl rfl rfl (by simp [chunk]; omega) (by simp [chunk]; omega) (fun b hb=>trivial)) fun v96=>?_))
   rotate_left 2
   all_goals
    refine d2_of_d1 (Zy [14] [] hn rfl (zB ?_))
  rotate_left 8
  all_goals
   refine Zo 13 rfl (s_append (id:=1082) rfl rfl rfl (nb hn rfl) elt29 trivial rfl rfl rfl (by simp [chunk]; omega) (by simp [chunk]; omega) (fun b hb=>trivial)) fun v101=>?_
   refine d2_of_d1 (zB (Zo 15 rfl (s_storeRow rfl rfl rfl rfl rfl (rid:=1081) rfl (id:=12) rfl sz29 (Nat.le_of_ble_eq_true rfl) rfl trivial) fun _=>?_))
   refine d2_of_d1 (Zy [16] [] hn rfl (zB (Zo 17 rfl (s_storeRow rfl rfl rfl rfl rfl (rid:=1082) rfl (id:=12) rfl sz29 (Nat.le_of_ble_eq_true rfl) rfl trivial) fun _=>?_)))
   refine d2_of_d1 (zB (zb (by kernel_rfl) ?_))
   refine zP (zA (zG (Zt 1 [] hn rfl (Zs hn (za rfl rfl rfl (r:=((i + 1:Nat):Int)) (i64w (by omega) (by omega))) ?_))))
   refine Zt 1 [] hn rfl (zR ?_)
   exact Zr ⟨(i + 1,la2,(ps ++ [sl.price],v96),(ms ++ [la2],v101)),by simp; omega⟩ ⟨.inl rfl,.inl rfl,zF _⟩ ⟨.inl rfl,.inl (congrArg (fun z=>some (Res.row v96 3 1 z)) (by rw [List.map_append]; rfl)),.inl (congrArg (fun z=>some (Res.row v101 3 1 z)) (by rw [List.map_append]; rfl)),trivial⟩ (by simp only; omega)
 obtain rfl:i = l.length:=by simp at hb2; omega
 refine zV (zE (zE (zO (zA (zC (Zu (Zt 1 [] hn rfl (Zv (zK (awp_loop_on (ι:={x:Nat × List Int × Value // x.1 ≤ d.orders.length ∧ x.2.1.length = x.1}) (fun x=>(15,true,.d (.int .i64 (x.1.1:Nat))) :: anys [104,105,106,107,108,111,112,113,114,115,116,16,117,118,119,120,121,122,123,124,125,126,127,128,129,130,131,132,133,134,135,109,110]) (fun x=>(12,.box b12 31 [.val vp,.val vm,.val x.1.2.2]) :: (1083,.row x.1.2.2 3 1 (x.1.2.1.map intE)) :: gones [16]) (fun x=>d.orders.length - x.1.1) ⟨(0,[],.slice none 0 0),by simp⟩ ⟨.inl rfl,zF _⟩ ⟨.inl rfl,.inl rfl,zS _⟩ ?_))))))))))
 rintro ⟨⟨n,os,vo⟩,hn1,hos⟩
 dsimp only
 dsimp only at hn1 hos
 refine zC (Zu (Zt 5 [2] hn rfl (Zv (zH rfl (fun hb3=>?_) (fun hb3=>?_)))))
 ·
  have hnl:n < d.orders.length:=by simp at hb3; omega
  obtain ⟨o,hod⟩:=zT hnl
  have hbo:=zAU (hob o (List.mem_of_getElem? hod))
  have hwb:=zBk hw (n + 7)
  have hmo:=zGo (a:=(wrd ws (n + 7):Nat)) (b:=o.mhi - o.mlo + 1) (by omega) (by omega)
  refine zI (zA (zC (zK (Zu (Zt 3 [2] hn rfl (Zi (i:=n) hn rfl rfl (mget hod) ?_))))))
  refine Zt 2 [] hn rfl (Zb 16 hn rfl fun b16=>Zt 1 [16] hn rfl (Zv (ze (W:=fun b=>b ≠ b16) fmo ?_)))
  refine Zy [0,2,3,4,5] [16] hn rfl (Zd 6 rfl hn (za rfl rfl rfl (r:=((n + 7:Nat):Int)) (i64w (by omega) (by omega))) ?_)
  refine Zy [8,9,10,11] [16,16] hn rfl (Zd 12 rfl hn (yE rfl rfl rfl (i64w (by omega) rfl)) ?_)
  refine Zd 13 rfl hn (za rfl rfl rfl (i64w (by omega) rfl)) ?_
  refine zB ?_
  refine zf 1 [7] (by kernel_rfl) ⟨?_,?_,trivial⟩
  refine br rfl (Zw hn (zU rfl rfl (id:=12) rfl underlying29 rfl rfl sees0)) fun _=>?_
  refine d2_of_d1 (zB (Ze1 7 rfl hn rfl (zC6 _ _ (by assumption)) (d2_of_d1 (Zd 14 rfl hn (ya rfl rfl rfl (by omega) rfl) ?_))))
  refine Zd 15 rfl hn (za rfl rfl rfl (i64w (by omega) rfl)) ?_
  refine zB (Zo 16 rfl (zL rfl rfl rfl (nb hn rfl) underlying29 sz3 zr3 rfl rfl rfl (show _ = [.d (.int .i64 0)] from by kernel_rfl) (by kernel_rfl) rfl rfl rfl rfl rfl) fun _=>?_)
  rotate_left
  focus
   refine br rfl (s_call [] (fun _=>zC6 _ _ (by assumption)) rfl (yB rfl) rfl (nb hn rfl) (fun _=>trivial) rfl rfl (.refl _)) fun _=>?_
   refine d2_of_d1 (Zd 14 rfl hn (ya rfl rfl rfl (by omega) rfl) ?_)
   refine Zd 15 rfl hn (za rfl rfl rfl (i64w (by omega) rfl)) ?_
   refine zB ?_
   refine zf 1 [16] (by kernel_rfl) ⟨?_,?_,trivial⟩
   refine br rfl (Zw hn (zU rfl rfl (id:=12) rfl underlying29 rfl rfl sees0)) fun _=>?_
   refine d2_of_d1 (zB (Zo 16 rfl (zL rfl rfl rfl (nb hn rfl) underlying29 sz3 zr3 rfl rfl rfl (show _ = [.d (.int .i64 0)] from by kernel_rfl) (by kernel_rfl) rfl rfl rfl rfl rfl) fun _=>?_))
   rotate_left
   refine br rfl (zL rfl rfl rfl (nb hn rfl) underlying29 sz3 zr3 rfl rfl rfl (show _ = [.d (.int .i64 0)] from by kernel_rfl) (by kernel_rfl) rfl rfl rfl rfl rfl) fun _=>?_
   refine d2_of_d1 (zB (Ze [1] [12] hn rfl ?_))
   rotate_left
  rotate_left 2
  all_goals
   refine d2_of_d1 (zB (zp (i:=1083) (j:=16) rfl rfl rfl (fun hne1083_16=>?_)))
   refine Zo 17 rfl (s_append (id:=1083) rfl rfl rfl (nb hn rfl) elt29 trivial rfl rfl rfl (by simp [chunk]; omega) (by simp [chunk]; omega) (fun b hb=>(fun e=>hne1083_16 _ hb (congrArg some e.symm)))) fun v134=>?_
   refine d2_of_d1 (Zy [18] [] hn rfl (zB (zp (i:=12) (j:=16) rfl rfl rfl (fun hne12_16=>?_))))
   refine Zo 19 rfl (s_storeRow rfl rfl rfl rfl rfl (rid:=1083) rfl (id:=12) rfl sz29 (Nat.le_of_ble_eq_true rfl) rfl (fun e=>hne12_16 _ rfl (congrArg some e.symm))) fun _=>?_
   refine d2_of_d1 (zB (zb (by kernel_rfl) ?_))
   refine zP (zA (zG (Zt 1 [] hn rfl (Zs hn (za rfl rfl rfl (r:=((n + 1:Nat):Int)) (i64w (by omega) (by omega))) ?_))))
   refine Zt 1 [] hn rfl (zR ?_)
   exact Zr ⟨(n + 1,os ++ [o.mlo + (wrd ws (n + 7):Int).tmod (o.mhi - o.mlo + 1)],v134),by simp; omega⟩ ⟨.inl rfl,zF _⟩ ⟨.inl rfl,.inl (congrArg (fun z=>some (Res.row v134 3 1 z)) (by rw [List.map_append]; rfl)),zS _⟩ (by simp only; omega)
 obtain rfl:n = d.orders.length:=by simp at hb3; omega
 refine zV (zE (zE (zO (zA (zC (zo (gh_rowcell (id:=12) (k:=0) (rid:=1081) rfl rfl rfl) ?_))))))
 refine zo (gh_rowcell (id:=12) (k:=1) (rid:=1082) rfl rfl rfl) ?_
 refine zo (gh_rowcell (id:=12) (k:=2) (rid:=1083) rfl rfl rfl) ?_
 refine ze (W:=fun b=>b ≠ b2 ∧ b ≠ b12) fmo ?_
 refine Zy [0,1,2,3,4] [2,12,2,12] hn rfl (zB ?_)
 refine Ze1 5 rfl hn rfl ((by have h:=IsT4_ok (tldD d ws) (fltI (tldD d ws)) ⟨ps,ms,os⟩ v (show d.orders.length ≤ 1000 by omega) zDa.1 zDa.2; rw [hfl] at h; exact h)) ?_
 refine d2_of_d1 (zB (zp (i:=4) (j:=2) rfl rfl rfl (fun hne4_2=>?_)))
 refine zp (i:=4) (j:=12) rfl rfl rfl (fun hne4_12=>?_)
 refine Zo 6 rfl (zv rfl rfl rfl rfl rfl rfl (id:=4) rfl sz27 rfl (Nat.le_of_ble_eq_true rfl) rfl ⟨fun e=>hne4_2 _ rfl (congrArg some e.symm),fun e=>hne4_12 _ rfl (congrArg some e.symm)⟩) fun _=>?_
 refine d2_of_d1 (zB (zp (i:=5) (j:=2) rfl rfl rfl (fun hne5_2=>?_)))
 refine zp (i:=5) (j:=12) rfl rfl rfl (fun hne5_12=>?_)
 refine Zo 7 rfl (zv rfl rfl rfl rfl rfl rfl (id:=5) rfl sz31 rfl (Nat.le_of_ble_eq_true rfl) rfl ⟨fun e=>hne5_2 _ rfl (congrArg some e.symm),fun e=>hne5_12 _ rfl (congrArg some e.symm)⟩) fun _=>?_
 refine d2_of_d1 (Zy [8] [] hn rfl (zB (zb (by kernel_rfl) ?_)))
 refine zA (zJ ?_)
 exact ret_E (.inl rfl) ⟨(tldD d ws,⟨ps,ms,os⟩,isTB (tldD d ws) l ⟨ps,ms,os⟩),by rw [← hfl]; exact told_ok v hw q1 hb7 h0 (by rw [hfl]; exact ht)⟩ (zB0 rfl (.d (.cellA rfl (id:=4) rfl underlying27 rfl sz27 rfl rfl)) (.d (.cellA rfl (id:=5) rfl underlying31 rfl sz31 rfl rfl)) (.tmp rfl)) trivial
end Go.Proofs.YticlpkgpmmhemaaGreatDoor
namespace Go.Proofs.YticlpkgpmmhemaaGreatDoor
open Go.RowKit
set_option linter.all false
theorem zEY {x:Dsk} {t:Tru} (h0:deskI x = 0) (hT:TruW x (readI x.b x.tape).1 t) (ht:timesB (readI x.b x.tape).1 = true) {os:List Int} (hos:∀ n ∈ os,0 ≤ n ∧ n < x.orders.length):sureO x os = 0:=by
  obtain ⟨hr0,ho5,hf,hob⟩:=yi h0
  obtain ⟨hpo,hl8⟩:=ym (b:=x.b) (s:=x.tape)
  have v:=yw hr0
  have h1:(os.all fun n=>withinB n 0 ((x.orders.length:Int) - 1)) = true:=List.all_eq_true.2 fun n hn=>zk.2 (by have:=hos n hn; omega)
  have h2:(pricesI x.b x.tape).2 = 0:=by
    obtain ⟨ms,hms⟩:=Option.isSome_iff_exists.1 ((y5 (out:=[]) (o:=0) kU v hpo).1.2 ⟨_,hT.tr⟩)
    unfold pricesI
    rw [hr0,hms]; rfl
  have h3:(minutesI x.b x.tape).2 = 0:=by
    unfold minutesI
    rw [hr0,zEF hpo,ht]; rfl
  unfold sureO
  rw [h0,h1,h2,h3]; rfl
theorem zHl {d:Dsk} {l:List Prt} {mm:List (Int × Int)} (h:SurH d l mm) {j:Nat} {o:Ord} (hod:d.orders[j]? = some o):OddOK d.b l o:=⟨h.v,h.po,(zAU (h.ob o (List.mem_of_getElem? hod))).1,h.ex⟩
/-- What the program answers about a desk with a truth. -/
structure TldF (x:Dsk) (t:Tru) (l:List Prt) (mm:List (Int × Int)) (fs bs:List (Int × Int)) (vs:List Int):Prop where
  S:SurH x l mm
  T:TruW x l t
  hl:(readI x.b x.tape).1 = l
  p:playI x t = (fs,0)
  b:boundsI x = (bs,0)
  v:verdsI x = (vs,0)
  fl:fs.length = x.orders.length
  bl:bs.length = x.orders.length
  vl:vs.length = x.orders.length
  pv:(deskI x == 0 && truthW x (readI x.b x.tape).1 t) = true
  su:∀ j:Nat,j < x.orders.length → sureO x [(j:Int)] = 0
  at_:∀ j o,x.orders[j]? = some o → fs[j]? = some (fillGo x.fee o (t.orders.getD j 0) t.prices t.minutes 0 l) ∧ bs[j]? = some (bndI x.b l x.fee o mm).1 ∧ vs[j]? = some (verdI x.b l x.fee o mm) ∧ salesI x (j:Nat) = (salesO x.b l x.fee o mm,0)
theorem zD1 {x:Dsk} {t:Tru} (h0:deskI x = 0) (hT:TruW x (readI x.b x.tape).1 t) (ht:timesB (readI x.b x.tape).1 = true):∃ l mm fs bs vs,TldF x t l mm fs bs vs:=by
  have hs:=zEY h0 hT ht (os:=[]) (fun n hn=>by cases hn)
  obtain ⟨hS,_⟩:=kL hs
  have hw:=(zAl (yi h0).1).2 hT
  refine ⟨_,_,fillsN x.fee (readI x.b x.tape).1 t x.orders x.orders.length,(x.orders.map fun o=>(bndI x.b (readI x.b x.tape).1 x.fee o (minutesI x.b x.tape).1).1),(x.orders.map fun o=>verdI x.b (readI x.b x.tape).1 x.fee o (minutesI x.b x.tape).1),hS,hT,rfl,?_,?_,?_,yh _,?_,?_,?_,fun j hj=>zEY h0 hT ht (os:=[(j:Int)]) (fun n hn=>by simp at hn; omega),fun j o hod=>⟨?_,?_,?_,?_⟩⟩
  · unfold playI; rw [h0,hw]; rfl
  · unfold boundsI; rw [hs]; rfl
  · unfold verdsI; rw [hs]; rfl
  · simp
  · simp
  · rw [h0,hw]; rfl
  · have hj:=(List.getElem?_eq_some_iff.1 hod).1
    rw [zBl hj,zQ hod]
  · rw [List.getElem?_map,hod]; rfl
  · rw [List.getElem?_map,hod]; rfl
  · have hj:=(List.getElem?_eq_some_iff.1 hod).1
    have hs1:=zEY h0 hT ht (os:=[(j:Int)]) (fun n hn=>by simp at hn; omega)
    unfold salesI
    rw [hs1,Int.toNat_natCast,zQ hod]; rfl
theorem verd_miss {b:Brd} {l:List Prt} {fee:Int} {o:Ord} {mm:List (Int × Int)}:verdI b l fee o mm = 1 ↔ missI b l fee o mm = false:=by
  unfold verdI
  cases missI b l fee o mm <;> cases (bndI b l fee o mm).2 <;> decide
end Go.Proofs.YticlpkgpmmhemaaGreatDoor
namespace Go.Proofs.YticlpkgpmmhemaaGreatDoor
open Go.RowKit
set_option maxRecDepth 20000
set_option linter.all false
set_option maxHeartbeats 4000000
theorem tld_get {d:Dsk} {x:Dsk} {t:Tru} (h:ToldP d (x,t,true)) (hN:NamesOK d.b):∃ l mm fs bs vs,TldF x t l mm fs bs vs ∧ NamesOK x.b ∧ x.tape.length ≤ 300 ∧ x.orders.length ≤ 8 ∧ x.b.stocks.length ≤ 7 ∧ t.prices.length ≤ 8 ∧ t.minutes.length ≤ 8 ∧ t.orders.length ≤ 8:=by
  obtain ⟨h1,h2,h3,h4,h5,h6⟩:=h.ok rfl
  obtain ⟨l,mm,fs,bs,vs,hF⟩:=zD1 h4 h5 h6
  have e1:x.b = d.b:=h.b
  have e2:x.orders = d.orders:=h.os
  have hp:t.prices.length = (readI x.b x.tape).1.length:=h5.pl
  have hm:t.minutes.length = (readI x.b x.tape).1.length:=h5.ml
  have ho:t.orders.length = x.orders.length:=h5.ol
  have h8:=(ym (b:=x.b) (s:=x.tape)).2
  exact ⟨l,mm,fs,bs,vs,hF,by rw [e1]; exact hN,h2,by rw [e2]; exact h1,by rw [e1]; exact h3,by omega,by omega,by rw [ho,e2]; exact h1⟩
end Go.Proofs.YticlpkgpmmhemaaGreatDoor
namespace Go.Proofs.YticlpkgpmmhemaaGreatDoor
open Go.RowKit
set_option linter.all false
theorem zFI {b:Brd} {l:List Prt} {fee:Int} {o:Ord} {mm:List (Int × Int)} (h:OddOK b l o):missI b l fee o mm = true ↔ ∃ (fr:Nat) (f:Nat → Int),fr ≤ l.length ∧ waitsB o mm fr = true ∧ TruF b l 0 f ∧ MissP fee o l f fr:=by
  rw [zDo]
  constructor
  · rintro ⟨fr,m,hm,_⟩
    obtain ⟨h1,h2,f,hf,hM⟩:=(zFe h fee mm fr).1 (by rw [hm]; rfl)
    exact ⟨fr,f,h1,h2,hf,hM⟩
  · rintro ⟨fr,f,h1,h2,hf,hM⟩
    obtain ⟨m,hm⟩:=Option.isSome_iff_exists.1 ((zFe h fee mm fr).2 ⟨h1,h2,f,hf,hM⟩)
    exact ⟨fr,m,hm,trivial⟩
/-- Looser Limits: what trades at the one trades at the other. -/
def LetsLe (fee fee':Int) (o o':Ord):Prop:=∀ p,letsB fee o p = true → letsB fee' o' p = true
theorem miss_le {b:Brd} {l:List Prt} {fee fee':Int} {o o':Ord} {mm:List (Int × Int)} (h:OddOK b l o) (h':OddOK b l o') (hle:LetsLe fee fee' o o') (hs:o'.stock = o.stock) (hm:∀ fr,waitsB o' mm fr = true → waitsB o mm fr = true) (hM:missI b l fee' o' mm = true):missI b l fee o mm = true:=by
  obtain ⟨fr,f,h1,h2,hf,hM⟩:=(zFI h').1 hM
  refine (zFI h).2 ⟨fr,f,h1,hm fr h2,hf,fun j k1 k2 k3=>?_⟩
  have:=hM j k1 k2 (by rw [hs]; exact k3)
  cases e:letsB fee o (f j)
  · rfl
  · rw [hle _ e] at this; cases this
/-- A desk is valid if all its parts are. -/
theorem desk_of {d:Dsk} (h1:(readI d.b d.tape).2 = 0) (h2:d.orders.length ≤ 5) (h3:0 ≤ d.fee ∧ d.fee ≤ 4) (h4:∀ o ∈ d.orders,ordB d.b o = true):deskI d = 0:=by
  unfold deskI
  rw [h1,show decide (5 < (d.orders.length:Int)) = false from decide_eq_false (by omega),zk.2 h3,List.all_eq_true.2 h4]; rfl
/-- Another desk on the same tape, with a truth of its own. -/
theorem tld_mod {x y:Dsk} {t u:Tru} {l:List Prt} {mm fs bs:List (Int × Int)} {vs:List Int} (hF:TldF x t l mm fs bs vs) (hb:y.b = x.b) (ht:y.tape = x.tape) (ho5:y.orders.length ≤ 5) (hfe:0 ≤ y.fee ∧ y.fee ≤ 4) (hob:∀ o ∈ y.orders,ordB y.b o = true) (hu:TruW y l u):∃ fs bs vs,TldF y u l mm fs bs vs:=by
  have hl:(readI y.b y.tape).1 = l:=by rw [hb,ht]; exact hF.hl
  have h0:deskI y = 0:=desk_of (by rw [hb,ht,hF.S.hr]) ho5 hfe hob
  obtain ⟨l',mm',fs',bs',vs',hF'⟩:=zD1 h0 (by rw [hl]; exact hu) (by rw [hl]; exact hF.S.tb)
  obtain rfl:l' = l:=hF'.hl.symm.trans hl
  have e1:=hF'.S.hmi
  have e2:=hF.S.hmi
  rw [hb,ht] at e1
  obtain rfl:mm' = mm:=congrArg Prod.fst (e1.symm.trans e2)
  exact ⟨fs',bs',vs',hF'⟩
theorem zHH {fee:Int} {o:Ord} {m:Int} {ps ms:List Int}:∀ (l:List Prt) (i:Nat),0 ≤ (fillGo fee o m ps ms i l).1 → (i:Int) ≤ (fillGo fee o m ps ms i l).1
  | [],_,h=>by simp [fillGo] at h
  | s :: r,i,h=>by
    unfold fillGo at h ⊢
    cases h1:(s.stock == o.stock && decide (m < ms.getD i 0)) && letsB fee o (ps.getD i 0) <;> rw [h1] at h
    · have:=zHH r (i + 1) h
      rw [cond_false]
      omega
    · simp
/-- Looser, or come earlier: filled no later. -/
theorem fill_le {fee fee':Int} {o o':Ord} {a a':Int} {ps ms:List Int} (hs:o'.stock = o.stock) (hle:LetsLe fee fee' o o') (ha:a' ≤ a):∀ (l:List Prt) (i:Nat),0 ≤ (fillGo fee o a ps ms i l).1 → 0 ≤ (fillGo fee' o' a' ps ms i l).1 ∧ (fillGo fee' o' a' ps ms i l).1 ≤ (fillGo fee o a ps ms i l).1
  | [],_,h=>by simp [fillGo] at h
  | s :: r,i,h=>by
    unfold fillGo at h ⊢
    rw [hs]
    cases h1:(s.stock == o.stock && decide (a < ms.getD i 0)) && letsB fee o (ps.getD i 0) <;> rw [h1] at h
    · rw [cond_false] at h ⊢
      cases h2:(s.stock == o.stock && decide (a' < ms.getD i 0)) && letsB fee' o' (ps.getD i 0)
      · exact fill_le hs hle ha r (i + 1) h
      · rw [cond_true]
        have:=zHH (fee:=fee) (o:=o) (m:=a) (ps:=ps) (ms:=ms) r (i + 1) h
        dsimp only
        omega
    · simp only [Bool.and_eq_true_iff,decide_eq_true_eq] at h1
      have h2:((s.stock == o.stock && decide (a' < ms.getD i 0)) && letsB fee' o' (ps.getD i 0)) = true:=by
        rw [h1.1.1,hle _ h1.2,decide_eq_true (by omega:a' < ms.getD i 0)]; rfl
      rw [h2]
      simp
def ordT (l:List Ord):List TV:=(l.map ordE).flatten.map .d
theorem ky (o:Ord) (l:List Ord):ordT (o :: l) = .d (.bool o.buy) :: .d (.int .i64 o.stock) :: .d (.int .i64 o.number) :: .d (.int .i64 o.limit) :: .d (.int .i64 o.mlo) :: .d (.int .i64 o.mhi) :: ordT l:=rfl
theorem kg:∀ l:List Ord,(ordT l).length = l.length * 6
  | []=>rfl
  | o :: l=>by rw [ky]; simp only [List.length_cons,kg l]; omega
theorem zF6 {r:List TV}:∀ {l:List Ord} {k:Nat} {o:Ord} (c:Nat),c < 6 → l[k]? = some o → (ordT l ++ r)[k * 6 + c]? = ((ordE o).map TV.d)[c]?
  | [],_,_,_,_,h=>by cases h
  | a :: l,0,o,c,hc,h=>by
    cases h
    match c,hc with
    | 0,_ | 1,_ | 2,_ | 3,_ | 4,_ | 5,_=>rfl
  | a :: l,k + 1,o,c,hc,h=>by
    have e:(k + 1) * 6 + c = (k * 6 + c) + 1 + 1 + 1 + 1 + 1 + 1:=by omega
    rw [e,ky]
    simp only [List.cons_append,List.getElem?_cons_succ]
    exact zF6 c hc (by simpa using h)
theorem zFa {r:List TV} {x:TV} {o':Ord}:∀ {l:List Ord} {k:Nat} {o:Ord} (c:Nat),c < 6 → l[k]? = some o → ((ordE o).map TV.d).set c x = (ordE o').map TV.d → (ordT l ++ r).set (k * 6 + c) x = ordT (l.set k o') ++ r
  | [],_,_,_,_,h,_=>by cases h
  | a :: l,0,o,c,hc,h,e=>by
    cases h
    have e2:∀ (a:Ord) (l:List Ord),ordT (a :: l) = (ordE a).map TV.d ++ ordT l:=fun a l=>rfl
    rw [List.set_cons_zero,e2,e2,← e,List.append_assoc,List.append_assoc,Nat.zero_mul,Nat.zero_add,List.set_append,if_pos (by simp; exact hc)]
  | a :: l,k + 1,o,c,hc,h,he=>by
    have e:(k + 1) * 6 + c = (k * 6 + c) + 1 + 1 + 1 + 1 + 1 + 1:=by omega
    rw [e,ky,List.set_cons_succ,ky]
    simp only [List.cons_append,List.set_cons_succ]
    rw [zFa c hc (by simpa using h) he]
theorem zDs {l:List Ord}:∀ c ∈ l.map ordE,c.length = 6:=fun c hc=>by obtain ⟨x,_,rfl⟩:=List.mem_map.1 hc; rfl
theorem zBc {v:Value} {cs:List TV} {m:Nat} (hV:VecV v 6 cs) (hl:cs.length = m * 6) (h:0 < m):∃ b cap,v = .slice (some ⟨b,0,none⟩) m cap ∧ m ≤ cap ∧ cap ≤ maxLen:=by
  rcases hV with ⟨_,h1⟩ | ⟨b,n,cap,rfl,h1,h2,h3⟩
  · subst h1; simp at hl; omega
  · obtain rfl:n = m:=by omega
    exact ⟨b,cap,rfl,h1,h2⟩
theorem zDe {k:Nat}:∀ {rows:List (List D)},(∀ r ∈ rows,r.length = k) → rows.flatten.length = rows.length * k
  | [],_=>by simp
  | r :: rows,h=>by
    rw [List.flatten_cons,List.length_append,zDe (rows:=rows) fun x hx=>h x (List.mem_cons_of_mem _ hx),h r (List.mem_cons_self ..),List.length_cons,Nat.succ_mul]; omega
theorem zBJ {k:Nat}:∀ {rows:List (List D)},(∀ r ∈ rows,r.length = k) → chunk k rows.length rows.flatten = rows
  | [],_=>rfl
  | r :: rows,h=>by
    have hr:=h r (List.mem_cons_self ..)
    rw [List.length_cons,chunk,List.flatten_cons,List.take_append_of_le_length (by omega),List.take_of_length_le (by omega),List.drop_append_of_le_length (by omega),List.drop_of_length_le (by omega),List.nil_append,zBJ fun x hx=>h x (List.mem_cons_of_mem _ hx)]
/-- A desk with one order replaced, a truth with one minute replaced. -/
@[reducible] def setD (x:Dsk) (k:Nat) (o:Ord):Dsk:=⟨x.b,x.tape,x.fee,x.orders.set k o⟩
@[reducible] def setT (t:Tru) (k:Nat) (m:Int):Tru:=⟨t.prices,t.minutes,t.orders.set k m⟩
theorem zGz {x : Dsk} {t u : Tru} {l : List Prt} {mm fs bs : List (Int × Int)} {vs : List Int} (hF : TldF x t l mm fs bs vs) {k : Nat} {o o' : Ord} (hod : x.orders[k]? = some o) (hob : ordB x.b o' = true) (hp : u.prices = t.prices) (hm : u.minutes = t.minutes) (hl : u.orders.length = t.orders.length) (hne : ∀ j, j ≠ k → u.orders.getD j 0 = t.orders.getD j 0) (hk : o'.mlo ≤ u.orders.getD k 0 ∧ u.orders.getD k 0 ≤ o'.mhi) :
    ∃ fs2 bs2 vs2,TldF (setD x k o') u l mm fs2 bs2 vs2:=by
  refine tld_mod (y:=setD x k o') (u:=u) hF rfl rfl (by simp only [List.length_set]; exact hF.S.o5) hF.S.fe (fun a ha=>?_) ⟨by rw [hp]; exact hF.T.pl,by rw [hp]; exact hF.T.tr,by rw [hm]; exact hF.T.ml,by rw [hm]; exact hF.T.rm,by rw [hl]; simp only [List.length_set]; exact hF.T.ol,fun j hj=>?_⟩
  · rcases List.mem_or_eq_of_mem_set ha with ha | rfl
    · exact hF.S.ob a ha
    · exact hob
  · simp only [List.length_set] at hj
    by_cases e:j = k
    · subst e
      rw [show (x.orders.set j o').getD j ord0 = o' from zQ (by rw [List.getElem?_set,if_pos rfl,if_pos hj])]
      exact hk
    · rw [hne j e,show (x.orders.set k o').getD j ord0 = x.orders.getD j ord0 from by rw [List.getD_eq_getElem?_getD,List.getElem?_set,if_neg (fun q=>e q.symm),← List.getD_eq_getElem?_getD]]
      exact hF.T.od j hj
theorem zET {x:Dsk} {k:Nat} {o o':Ord} (hod:x.orders[k]? = some o):(setD x k o').orders[k]? = some o':=by
  show (x.orders.set k o')[k]? = some o'
  rw [List.getElem?_set,if_pos rfl,if_pos (List.getElem?_eq_some_iff.1 hod).1]
theorem zGW {b:Brd} {o:Ord} (h:(0 ≤ o.stock ∧ o.stock < b.stocks.length) ∧ (1 ≤ o.number ∧ o.number ≤ 99) ∧ (0 ≤ o.limit ∧ o.limit ≤ 799) ∧ 0 ≤ o.mlo ∧ o.mlo ≤ o.mhi ∧ o.mhi ≤ 600):ordB b o = true:=by
  unfold ordB
  rw [zk.2 (show 0 ≤ o.stock ∧ o.stock ≤ (b.stocks.length:Int) - 1 by omega),zk.2 h.2.1,zk.2 h.2.2.1,decide_eq_true h.2.2.2.1,decide_eq_true h.2.2.2.2.1,decide_eq_true h.2.2.2.2.2]; rfl
@[reducible] def wideO (o:Ord) (a c:Int):Ord:=⟨o.buy,o.stock,o.number,o.limit,max 0 (o.mlo - a),min 600 (o.mhi + c)⟩
structure WideF (b:Brd) (l:List Prt) (fee:Int) (o:Ord) (mm:List (Int × Int)) (a c:Int):Prop where
  sub:∀ i:Nat,(salesO b l fee o mm)[i]? = none ∨ ∃ k:Int,(salesO b l fee o mm)[i]? = some k ∧ ((salesO b l fee (wideO o a c) mm).any fun x=>x == k) = true
  bd:verdI b l fee o mm ≠ 2 → (bndI b l fee (wideO o a c) mm).1.1 ≤ (bndI b l fee o mm).1.1 ∧ (bndI b l fee o mm).1.2 ≤ (bndI b l fee (wideO o a c) mm).1.2
  op:verdI b l fee o mm = 3 → verdI b l fee (wideO o a c) mm = 3
@[reducible] def limO (o:Ord) (c:Int):Ord:=⟨o.buy,o.stock,o.number,bif decide (0 < o.limit) && o.buy then min 799 (o.limit + c) else bif decide (0 < o.limit) then max 1 (o.limit - c) else o.limit,o.mlo,o.mhi⟩
theorem zHq {o:Ord} {c:Int}:(0 < o.limit ∧ o.buy = true ∧ limO o c = ⟨o.buy,o.stock,o.number,min 799 (o.limit + c),o.mlo,o.mhi⟩) ∨ (0 < o.limit ∧ o.buy = false ∧ limO o c = ⟨o.buy,o.stock,o.number,max 1 (o.limit - c),o.mlo,o.mhi⟩) ∨ (¬ 0 < o.limit ∧ limO o c = o):=by
  by_cases h0:0 < o.limit
  · cases hb:o.buy
    · exact .inr (.inl ⟨h0,rfl,by unfold limO; rw [decide_eq_true h0,hb]; rfl⟩)
    · exact .inl ⟨h0,rfl,by unfold limO; rw [decide_eq_true h0,hb]; rfl⟩
  · exact .inr (.inr ⟨h0,by unfold limO; rw [decide_eq_false h0]; rfl⟩)
theorem lim_le {fee:Int} {o:Ord} {c:Int} (hc:0 ≤ c) (hl:0 ≤ o.limit ∧ o.limit ≤ 799):LetsLe fee fee o (limO o c):=fun p h=>by
  rcases zHq (o:=o) (c:=c) with ⟨h0,hb,e⟩ | ⟨h0,hb,e⟩ | ⟨_,e⟩
  · rw [e]
    unfold letsB at h ⊢
    rw [show (o.limit == 0) = false by simp; omega,hb] at h
    rw [show (min 799 (o.limit + c) == 0) = false by simp; omega,hb]
    simp only [cond_true,cond_false,decide_eq_true_eq] at h ⊢
    omega
  · rw [e]
    unfold letsB at h ⊢
    rw [show (o.limit == 0) = false by simp; omega,hb] at h
    rw [show (max 1 (o.limit - c) == 0) = false by simp; omega,hb]
    simp only [cond_true,cond_false,decide_eq_true_eq] at h ⊢
    omega
  · rw [e]; exact h
theorem lim_bd {o:Ord} {c:Int} (hl:0 ≤ o.limit ∧ o.limit ≤ 799) (hc:0 ≤ c):0 ≤ (limO o c).limit ∧ (limO o c).limit ≤ 799:=by
  rcases zHq (o:=o) (c:=c) with ⟨h0,hb,e⟩ | ⟨h0,hb,e⟩ | ⟨_,e⟩ <;> rw [e]
  · dsimp only; omega
  · dsimp only; omega
  · exact hl
/-- Come earlier. -/
@[reducible] def earlO (o:Ord) (m:Int):Ord:=⟨o.buy,o.stock,o.number,o.limit,m,max m o.mhi⟩
theorem TReps.split {F:Nat → Nat → Prop} {w:World}:∀ {ds es:List TV} {vs:List Value},TReps F w (ds ++ es) vs → ∃ xs ys,vs = xs ++ ys ∧ TReps F w ds xs ∧ TReps F w es ys
  | [],_,vs,h=>⟨[],vs,rfl,rfl,h⟩
  | _ :: ds,_,_,⟨v,vs',e,h1,h2⟩=>by
    subst e
    obtain ⟨xs,ys,rfl,k1,k2⟩:=TReps.split h2
    exact ⟨v :: xs,ys,rfl,⟨v,xs,rfl,h1,k1⟩,k2⟩
end Go.Proofs.YticlpkgpmmhemaaGreatDoor
namespace Go.Proofs.YticlpkgpmmhemaaGreatDoor
open Go.RowKit
set_option maxRecDepth 20000
set_option linter.all false
theorem s_appendVe {Γ : Cx} {P : Program} {σ : St} {ops : Array Oper} {o : Oper} {W : Nat → Prop} {x y : Operand} {t e : TypeId} {sz bytes id dt : Nat} {v : Value} {cs : List TV} {fs : List (List D)} (h : o.op = .call { callee := .builtin .append, args := #[x, y], argTypes := #[t, t] })
    (hg:o.guard = none) (hd:o.dst = some dt) (hn:Nat.blt dt Γ.n = true) (hT:ElT P t e sz bytes) {z0:Value} (hz0:(P.info? e).map (·.zero) = some (some z0)) (hz1:z0.cells.toList.all (·.oneCell') = true) (hV:VecV v sz cs) (hxv:∀ a w F,RS Γ σ a w F → a.eval x = v) (hres:σ.rget id = some (vecRes e v sz cs)) (hy:σ.ev y = some (true,.d (.slice sz fs)))
    (hb:(cs.length + fs.length) * bytes ≤ 140737488355328) (h63:cs.length + fs.length ≤ 9223372036854775807) (hWb:∀ b,v.ownBlock = some b → W b) :
    StepW Γ P ops σ o W fun v':{v' // VecV v' sz (cs ++ fs.flatten.map .d)}=>(σ.put dt true (.val v'.1)).rput id (vecRes e v'.1 sz (cs ++ fs.flatten.map .d)):=fun a w F hs K Q hK=>by
  rw [if_pos (zr hg a)]
  have hx':=hxv a w F hs
  obtain ⟨i,z,hi,hz,hisz,hibt,hzs⟩:=hT.info
  have hpos:=hT.pos
  obtain ⟨ad,c,hu,hfs⟩:=slice_vals (hs.ev hy)
  have fin : ∀ (v' : Value) (w' : World) (hV' : VecV v' sz (cs ++ fs.flatten.map .d)), (Builtin.append_ #[t, t] o.type #[v, .slice ad fs.length c]).run P w = .ok v' w' → RS Γ (σ.rput id (vecRes e v' sz (cs ++ fs.flatten.map .d))) a w' F → (∃ but, Grow F F w w' but ∧ ∀ b, but = some b → W b) →
      o.wp P a w K Q:=by
    intro v' w' hV' hrun hRS hgr
    have hex:(execOp a.eval o).run P w = .ok (.value v') w':=by
      simp [execOp,h,resolve,invoke,builtin,hx',hu,hrun]
    obtain ⟨but,hg2,hg3⟩:=hgr
    unfold Oper.wp
    rw [hex]
    show K (a.put o.dst _) _
    rw [hd]
    exact hK ⟨v',hV'⟩ _ _ F (hRS.put (yM hn) (fun _=>rfl) (fun h=>by cases h)) (fun _ _ h=>h) hg2.size (hg2.agree hg3)
  by_cases hm:fs = []
  · subst hm
    have hrefl:Grow F F w w none:=⟨rfl,rfl,rfl,Nat.le_refl _,fun _ _ _=>rfl,fun _ _ h=>h,fun _ _ h _ _=>h,hs.fcell,fun _ _ _=>rfl⟩
    have hRS:RS Γ (σ.rput id (vecRes e v sz cs)) a w F:=hs.rput (hs.rs _ _ hres) fun b hb j r' hne hj e2=>hne (hs.sep j id r' _ b hj hres e2 hb)
    refine fin v w (by simpa using hV) ?_ (by simpa using hRS) ⟨none,hrefl,fun _ e=>by cases e⟩
    rcases hV with ⟨rfl,rfl⟩ | ⟨b,n,cap,rfl,h2,h3,h4⟩
    · exact yy hT (by simp) (fun _=>rfl)
    · exact yy hT h2 (by simp)
  obtain ⟨b2,o2,rfl,hr2⟩:=hfs.resolve_left hm
  obtain ⟨ns,hnl,hnr,hn1,hnc⟩:=hr2.vals
  have hnews:∀ j x,ns[j]? = some x → w.cell? ((⟨b2,o2,none⟩:Addr).add j) = some x:=fun j x hx=>by rw [yz]; exact (hnc j x hx).1
  have hfl:0 < fs.length:=by cases fs with | nil=>exact absurd rfl hm | cons _ _=>simp
  have hflat:(fs.flatten.map TV.d).length = fs.length * sz:=by rw [List.length_map,kW (RepRows.flat.1 hr2).1]
  have hzl:∀ k,(Builtin.zeroCells z.cells k).toList.length = k * sz:=fun k=>by simp [Builtin.zeroCells,hzs]
  -- a new block
  have fresh : ∀ (n cap : Nat) (xs tail : List Value) (hz : n * sz = cs.length), TReps F w cs xs → (∀ x ∈ xs, x.oneCell' = true) → (∀ x ∈ tail, x.oneCell' = true) → n + fs.length ≤ cap → cap ≤ maxLen → tail.length = (cap - (n + fs.length)) * sz →
      VecV (.slice (some ⟨w.heap.size,0,none⟩) (n + fs.length) cap) sz (cs ++ fs.flatten.map .d) ∧ RS Γ (σ.rput id (vecRes e (.slice (some ⟨w.heap.size,0,none⟩) (n + fs.length) cap) sz (cs ++ fs.flatten.map .d))) a (w.drew.alloc (.cells (xs ++ ns ++ tail).toArray e)) F ∧
        ∃ but,Grow F F w (w.drew.alloc (.cells (xs ++ ns ++ tail).toArray e)) but ∧ ∀ b,but = some b → W b:=by
    intro n cap xs tail hlc hx hx1 ht1 hcap hcm hlen
    have hgd:Grow F F w w.drew none:=⟨rfl,rfl,rfl,Nat.le_refl _,fun _ _ _=>rfl,fun _ _ h=>h,fun _ _ h _ _=>h,hs.fcell,fun _ _ _=>rfl⟩
    have hsd:=hs.grow hgd
    have hga:=Grow.alloc (F:=F) hsd.fcell (.cells (xs ++ ns ++ tail).toArray e)
    refine ⟨.inr ⟨_,_,_,rfl,hcap,hcm,by rw [List.length_append,hflat,Nat.add_mul,hlc]⟩,?_,none,⟨rfl,rfl,rfl,by simp,fun k hk _=>Below.heap_alloc w.drew _ k hk,fun _ _ h=>h,fun _ _ h _ _=>h,hga.cell,fun b o hf=>hga.keep b o hf⟩,fun _ e=>by cases e⟩
    have htail:TReps F w.drew (List.replicate ((cap - (n + fs.length)) * sz) .any) tail:=by rw [← hlen]; exact zAY
    have hnd:TReps F w.drew (fs.flatten.map .d) ns:=(hnr.to_d).ext' fun b o hf=>⟨hf,rfl⟩
    have:=hsd.newBox (ty:=e) (vs:=(xs ++ ns ++ tail).toArray) (cs:=(cs ++ fs.flatten.map .d) ++ List.replicate ((cap - (n + fs.length)) * sz) .any) id (by
      have h1:=((hx.ext' fun b o hf=>⟨hf,rfl⟩:TReps F w.drew cs xs).append hnd).append htail
      simpa using h1) (by
      intro u hu
      simp only [List.mem_append] at hu
      rcases hu with (hu | hu) | hu
      · exact hx1 u hu
      · exact hn1 u hu
      · exact ht1 u hu)
    simpa [vecRes] using this
  obtain rfl:z = z0:=by simpa [hi,hz] using hz0
  have hzone:∀ k,∀ u ∈ (Builtin.zeroCells z.cells k).toList,u.oneCell' = true:=fun k u hu=>by
    have e:(Builtin.zeroCells z.cells k).toList = (List.replicate k z.cells.toList).flatten:=by
      rw [← zAR hzs hpos k]
      simp [Builtin.zeroCells,hzs]
    rw [e] at hu
    obtain ⟨l,hl,hu⟩:=List.mem_flatten.1 hu
    rw [List.eq_of_mem_replicate hl] at hu
    exact List.all_eq_true.1 hz1 u hu
  rcases hV with ⟨rfl,rfl⟩ | ⟨b,n,cap,rfl,h2,h3,h4⟩
  · have hr:=run_append_nil (P:=P) w t o.type e i z hT.ht hi hz ⟨b2,o2,none⟩ fs.length c ns (by rw [hisz]; exact hnl) hnews hfl (by simp at h63; omega) (by simp at hb; rw [hibt]; omega)
    obtain ⟨k1,k2,k3⟩:=fresh 0 (grownCap w fs.length 0 e) [] (Builtin.zeroCells z.cells (grownCap w fs.length 0 e - fs.length)).toList (by simp) rfl (by simp) (hzone _)
      (by simpa using grownCap_ge w fs.length 0 e) (grownCap_le_maxLen w fs.length 0 e (by simp only [maxLen]; simp at h63; omega)) (by rw [hzl,Nat.zero_add])
    have harr:([] ++ ns ++ (Builtin.zeroCells z.cells (grownCap w fs.length 0 e - fs.length)).toList).toArray = ns.toArray ++ Builtin.zeroCells z.cells (grownCap w fs.length 0 e - fs.length):=by
      apply Array.ext'; simp
    rw [harr] at k2 k3
    simp only [Nat.zero_add] at k1 k2
    exact fin _ _ k1 hr k2 k3
  · have hnle:n ≤ cs.length:=by rw [h4]; exact Nat.le_mul_of_pos_right n hpos
    have hres':σ.rget id = some (.box b e (cs ++ List.replicate ((cap - n) * sz) .any)):=hres
    obtain ⟨hown,hF,vs,hh,hvs,hone⟩:=hs.rs id _ hres'
    obtain ⟨xs,ys,rfl,hxs,hys⟩:=hvs.puts
    have hxl:=hxs.length
    have hyl:ys.length = (cap - n) * sz:=by have:=hys.length; simpa using this
    have hxn:xs.length = n * i.size:=by rw [hisz,← h4,hxl]
    have hvsz:(xs ++ ys).toArray.size = cap * sz:=by
      have:n * sz + (cap - n) * sz = cap * sz:=by rw [← Nat.add_mul]; congr 1; omega
      simp only [List.size_toArray,List.length_append,hyl]
      rw [hxn,hisz]; omega
    have hx1:∀ x ∈ xs,x.oneCell' = true:=fun x hx=>hone x (by simp [hx])
    by_cases hroom:n + fs.length ≤ cap
    · have hfit:n * i.size + ns.length ≤ (xs ++ ys).toArray.size:=by rw [hvsz,hnl,hisz,← Nat.add_mul]; exact Nat.mul_le_mul_right _ hroom
      have hr:=run_append_room (P:=P) w t o.type e i hT.ht hi b n cap (xs ++ ys).toArray hh ⟨b2,o2,none⟩ fs.length c ns (by rw [hisz]; exact hnl) hnews hn1 hroom hfit
      have htake:(xs ++ ys).toArray.toList.take (n * i.size) = xs:=by simp [← hxn]
      have hdrop:(xs ++ ys).toArray.toList.drop (n * i.size + ns.length) = ys.drop ns.length:=by
        rw [← hxn]; simp [List.drop_append]
      rw [htake,hdrop] at hr
      have hgr:Grow F F w (w.setRow b (xs ++ ns ++ ys.drop ns.length).toArray) (some b):=Grow.setRow hs.fcell hh (fun o ho=>absurd ho (hF o))
      have hext:Ext F F w (w.setRow b (xs ++ ns ++ ys.drop ns.length).toArray):=fun c o hf=>⟨hf,hgr.keep c o hf⟩
      have hrow:=kG w b (xs ++ ys).toArray (xs ++ ns ++ ys.drop ns.length).toArray e hh
      have hdl:(ys.drop ns.length).length = (cap - (n + fs.length)) * sz:=by
        rw [List.length_drop,hyl,hnl,← Nat.sub_mul]
        congr 1; omega
      refine fin _ _ (.inr ⟨b,n + fs.length,cap,rfl,hroom,h3,by rw [List.length_append,hflat,Nat.add_mul,h4]⟩) hr ?_ ⟨some b,hgr,fun c e=>by cases e; exact hWb b rfl⟩
      refine hs.write hres' rfl (fun _ e=>e.symm) hown hgr ⟨hown,hF,_,hrow,?_,fun u hu=>?_⟩
      · rw [← hdl]
        exact (((hxs.ext' hext).append ((hnr.to_d).ext' hext)).append zAY)
      · simp only [List.mem_append] at hu
        rcases hu with (hu | hu) | hu
        · exact hx1 u hu
        · exact hn1 u hu
        · exact hone u (by simp [List.mem_of_mem_drop hu])
    · have holds : ∀ j x, xs[j]? = some x → w.cell? ((⟨b, 0, none⟩ : Addr).add j) = some x := fun j x hx => by
        rw [yz,Nat.zero_add]
        have hj:=(List.getElem?_eq_some_iff.1 hx).1
        simp [World.cell?,hh,List.getElem?_append_left hj,hx]
      have hr:=run_append_grow (P:=P) w t o.type e i z hT.ht hi hz ⟨b,0,none⟩ n cap xs hxn holds ⟨b2,o2,none⟩ fs.length c ns (by rw [hisz]; exact hnl) hnews (by omega) (by omega)
        (growslice_fits (by omega) (by rw [hibt]; exact Nat.le_trans (Nat.mul_le_mul_right _ (by omega)) hb))
      obtain ⟨k1,k2,k3⟩:=fresh n (grownCap w (n + fs.length) cap e) xs (Builtin.zeroCells z.cells (grownCap w (n + fs.length) cap e - (n + fs.length))).toList h4.symm hxs hx1 (hzone _)
        (grownCap_ge w _ cap e) (grownCap_le_maxLen w _ cap e (by simp only [maxLen]; omega)) (hzl _)
      have harr:(xs ++ ns ++ (Builtin.zeroCells z.cells (grownCap w (n + fs.length) cap e - (n + fs.length))).toList).toArray = xs.toArray ++ ns.toArray ++ Builtin.zeroCells z.cells (grownCap w (n + fs.length) cap e - (n + fs.length)):=by
        apply Array.ext'; simp
      rw [harr] at k2 k3
      exact fin _ _ k1 hr k2 k3
/-- append(nil, t...), the new slice is one's own and may be written. -/
theorem s_appendNV {Γ : Cx} {P : Program} {σ : St} {ops : Array Oper} {o : Oper} {W : Nat → Prop} {x y : Operand} {t e : TypeId} {sz bytes id dt : Nat} {fs : List (List D)} (h : o.op = .call { callee := .builtin .append, args := #[x, y], argTypes := #[t, t] })
    (hg:o.guard = none) (hd:o.dst = some dt) (hn:Nat.blt dt Γ.n = true) (hT:ElT P t e sz bytes) {z0:Value} (hz0:(P.info? e).map (·.zero) = some (some z0)) (hz1:z0.cells.toList.all (·.oneCell') = true) (hx:σ.ev x = some (true,.d .nil)) (hres:σ.rget id = some .gone) (hy:σ.ev y = some (true,.d (.slice sz fs)))
    (hb:(0 + fs.length) * bytes ≤ 140737488355328) (h63:0 + fs.length ≤ 9223372036854775807) :
    StepW Γ P ops σ o W fun v':{v' // VecV v' sz (fs.flatten.map TV.d)}=>(σ.put dt true (.val v'.1)).rput id (vecRes e v'.1 sz (fs.flatten.map .d)) :=
  s_appendVe (v:=.slice none 0 0) (cs:=[]) h hg hd hn hT hz0 hz1 (VecV.nil sz) (fun a w F hs=>hs.ev hx) hres hy hb h63 (fun b hb=>by simp [Value.ownBlock] at hb)
end Go.Proofs.YticlpkgpmmhemaaGreatDoor
namespace Go.Proofs.YticlpkgpmmhemaaGreatDoor
open Go.Proofs.Tryz
open Go.RowKit
set_option maxRecDepth 20000
set_option linter.all false
set_option maxHeartbeats 4000000
theorem ovec0 (b sz:Nat):VecV (.slice (some ⟨b,0,none⟩) 0 0) sz []:=.inr ⟨b,0,0,rfl,Nat.le_refl _,Nat.zero_le _,by simp⟩
theorem ordG {r:List TV} {l:List Ord} {k j:Nat} {o:Ord} {tv:TV} (c:Nat) (hc:c < 6) (h:l[k]? = some o) (hj:j = k * 6 + c) (he:((ordE o).map TV.d)[c]? = some tv):(ordT l ++ r)[j]? = some tv:=by
  subst hj; rw [zF6 c hc h,he]
theorem ordS {r:List TV} {l:List Ord} {k j:Nat} {o:Ord} {x:TV} (o':Ord) (c:Nat) (hc:c < 6) (h:l[k]? = some o) (hj:j = k * 6 + c) (he:((ordE o).map TV.d).set c x = (ordE o').map TV.d):(ordT l ++ r).set j x = ordT (l.set k o') ++ r:=by
  subst hj; exact zFa c hc h he
theorem ofl {l:List Ord} {n:Nat} (h:l.length = n):((l.map ordE).flatten).length = n * 6:=by
  rw [zDe zDs,List.length_map,h]
theorem och {l:List Ord} {n:Nat} (h:l.length = n):chunk 6 n (l.map ordE).flatten = l.map ordE:=by
  have:=zBJ (k:=6) (rows:=l.map ordE) zDs
  rw [List.length_map,h] at this; exact this
theorem lvec_cns {v:Value} {l:List Int} (h:VecV v 1 (intsT l)) (hl:0 < l.length):∃ b cap,v = .slice (some ⟨b,0,none⟩) l.length cap ∧ l.length ≤ cap ∧ cap ≤ maxLen:=by
  rcases h with ⟨_,h⟩ | ⟨b,n,cap,rfl,h1,h2,h3⟩
  · rw [List.map_eq_nil_iff] at h; subst h; simp at hl
  · rw [List.length_map,Nat.mul_one] at h3
    subst h3
    exact ⟨b,cap,rfl,h1,h2⟩
theorem zEq (l:List Int):intsT l = (l.map intE).flatten.map .d:=by induction l with
  | nil=>rfl
  | cons x l ih=>show .d (.int .i64 x) :: intsT l = _; rw [ih]; rfl
theorem ichunk {l:List Int} {n:Nat} (h:l.length = n):chunk 1 n (l.map intE).flatten = l.map intE:=by
  have:=zBJ (k:=1) (rows:=l.map intE) (fun c hc=>by obtain ⟨x,_,rfl⟩:=List.mem_map.1 hc; rfl)
  rw [List.length_map,h] at this; exact this
theorem ilen {l:List Int} {n:Nat} (h:l.length = n):((l.map intE).flatten).length = n * 1:=by
  rw [zDe (k:=1) (fun c hc=>by obtain ⟨x,_,rfl⟩:=List.mem_map.1 hc; rfl),List.length_map,h]
theorem kS {l:List Int} {r:List TV} {i:Nat} {x:Int} (h:l[i]? = some x):(intsT l ++ r)[0 + i * 1]? = some (.d (.int .i64 x)):=by
  have hl:=(List.getElem?_eq_some_iff.1 h).1
  rw [List.getElem?_append_left (by rw [List.length_map]; omega),Nat.zero_add,Nat.mul_one,List.getElem?_map,h]; rfl
theorem iT_setA {l:List Int} {r:List TV} {i:Nat} {x:Int} (h:i < l.length):(intsT l ++ r).set (0 + i * 1) (.d (.int .i64 x)) = intsT (l.set i x) ++ r:=by
  rw [Nat.zero_add,Nat.mul_one,List.set_append,if_pos (by rw [List.length_map]; exact h),intsT,intsT,List.map_set]
theorem yv {l:List Int} {i:Nat} {x y:Int} (h:l[i]? = some x):(l.set i y)[i]? = some y:=by
  rw [List.getElem?_set,if_pos rfl,if_pos (List.getElem?_eq_some_iff.1 h).1]
theorem ordS2 {r:List TV} {a c:Int}:∀ {l:List Ord} {k:Nat} {o:Ord},l[k]? = some o → (ordT l ++ r).take (k * 6 + 4) ++ [.d (.int .i64 a),.d (.int .i64 c)] ++ (ordT l ++ r).drop (k * 6 + 4 + 2) = ordT (l.set k ⟨o.buy,o.stock,o.number,o.limit,a,c⟩) ++ r
  | [],_,_,h=>by cases h
  | x :: l,0,o,h=>by cases h; rfl
  | x :: l,k + 1,o,h=>by
    have e:(k + 1) * 6 + 4 = (k * 6 + 4) + 1 + 1 + 1 + 1 + 1 + 1:=by omega
    have e2:(k + 1) * 6 + 4 + 2 = (k * 6 + 4 + 2) + 1 + 1 + 1 + 1 + 1 + 1:=by omega
    rw [e,show k * 6 + 4 + 1 + 1 + 1 + 1 + 1 + 1 + 2 = (k * 6 + 4 + 2) + 1 + 1 + 1 + 1 + 1 + 1 by omega,ky,List.set_cons_succ,ky]
    simp only [List.cons_append,List.take_succ_cons,List.drop_succ_cons]
    rw [ordS2 (by simpa using h)]
theorem ordS3 {r:List TV} {a c:Int} {l:List Ord} {k j:Nat} {o:Ord} (h:l[k]? = some o) (hj:j = k * 6 + 4):(ordT l ++ r).take j ++ (TV.d (.agg [.int .i64 a,.int .i64 c])).cells ++ (ordT l ++ r).drop (j + 2) = ordT (l.set k ⟨o.buy,o.stock,o.number,o.limit,a,c⟩) ++ r:=by
  subst hj; exact ordS2 h
theorem lets_earl {fee:Int} {o:Ord} {m:Int}:LetsLe fee fee o (earlO o m):=fun p h=>h
theorem lim_waits {o:Ord} {c:Int} {mm:List (Int × Int)} {fr:Nat} (h:waitsB (limO o c) mm fr = true):waitsB o mm fr = true:=h
/-- What is so of the three orders in the truth. -/
structure LimF (x:Dsk) (l:List Prt) (o:Ord) (mm:List (Int × Int)) (c:Int) (f g h:Int × Int):Prop where
  gf:0 ≤ f.1 → 0 ≤ g.1 ∧ g.1 ≤ f.1
  hf:0 ≤ f.1 → 0 ≤ h.1 ∧ h.1 ≤ f.1
  vv:verdI x.b l x.fee o mm = 1 → verdI x.b l x.fee (limO o c) mm = 1
theorem lim_law {x : Dsk} {t u2 : Tru} {l : List Prt} {mm fs bs fs2 bs2 fs3 bs3 : List (Int × Int)} {vs vs2 vs3 : List Int} {k : Nat} {o : Ord} {c m : Int} (hF : TldF x t l mm fs bs vs) (hod : x.orders[k]? = some o) (hc : 0 ≤ c) (hm : m ≤ t.orders.getD k 0) (hF2 : TldF (setD x k (limO o c)) t l mm fs2 bs2 vs2) (hF3 : TldF (setD x k (earlO o m)) u2 l mm fs3 bs3 vs3) (hu : u2.prices = t.prices ∧ u2.minutes = t.minutes ∧ u2.orders.getD k 0 = m) :
    ∃ f g h,fs[k]? = some f ∧ fs2[k]? = some g ∧ fs3[k]? = some h ∧ LimF x l o mm c f g h:=by
  have h1:=(hF.at_ k o hod).1
  have h2:=(hF2.at_ k _ (zET hod)).1
  have h3:=(hF3.at_ k _ (zET hod)).1
  have hob:=zAU (hF.S.ob o (List.mem_of_getElem? hod))
  rw [hu.1,hu.2.1,hu.2.2] at h3
  have hl:LetsLe x.fee x.fee o (limO o c):=lim_le hc hob.2.2.1
  refine ⟨_,_,_,h1,h2,h3,⟨fun e=>fill_le (fee:=x.fee) (fee':=x.fee) (o:=o) (o':=limO o c) rfl hl (Int.le_refl _) l 0 e,fun e=>fill_le (fee:=x.fee) (fee':=x.fee) (o:=o) (o':=earlO o m) rfl lets_earl hm l 0 e,fun hv=>?_⟩⟩
  have hO:=zHl hF.S hod
  have hO2:OddOK x.b l (limO o c):=zHl hF2.S (zET hod)
  rw [verd_miss] at hv ⊢
  cases hq:missI x.b l x.fee (limO o c) mm
  · rfl
  · rw [miss_le hO hO2 hl rfl (fun fr h=>lim_waits h) hq] at hv; cases hv
theorem lim_fin {x:Dsk} {l:List Prt} {o:Ord} {mm:List (Int × Int)} {c:Int} {f g h:Int × Int} (k:LimF x l o mm c f g h):TV.d (D.bool (!(decide (0 ≤ f.1) && (decide (g.1 < 0) || decide (f.1 < g.1) || decide (h.1 < 0) || decide (f.1 < h.1))) && (verdI x.b l x.fee o mm != 1 || verdI x.b l x.fee (limO o c) mm == 1) && true)) = TV.d (D.bool true):=by
  have e1:(decide (0 ≤ f.1) && (decide (g.1 < 0) || decide (f.1 < g.1) || decide (h.1 < 0) || decide (f.1 < h.1))) = false:=by
    cases q:decide (0 ≤ f.1)
    · rfl
    · have h1:=k.gf (of_decide_eq_true q)
      have h2:=k.hf (of_decide_eq_true q)
      rw [decide_eq_false (show ¬ g.1 < 0 by omega),decide_eq_false (show ¬ f.1 < g.1 by omega),decide_eq_false (show ¬ h.1 < 0 by omega),decide_eq_false (show ¬ f.1 < h.1 by omega)]; rfl
  have e2:(verdI x.b l x.fee o mm != 1 || verdI x.b l x.fee (limO o c) mm == 1) = true:=by
    by_cases q:verdI x.b l x.fee o mm = 1
    · rw [k.vv q]; simp
    · rw [show (verdI x.b l x.fee o mm != 1) = true by simpa using q]; rfl
  rw [e1,e2]; rfl
theorem lim_eq1 {o:Ord} {c:Int} (h:0 < o.limit ∧ o.buy = true):limO o c = ⟨o.buy,o.stock,o.number,min 799 (o.limit + c),o.mlo,o.mhi⟩:=by
  unfold limO; rw [decide_eq_true h.1,h.2]; rfl
theorem lim_eq2 {o:Ord} {c:Int} (h:0 < o.limit) (h2:¬ (0 < o.limit ∧ o.buy = true)):limO o c = ⟨o.buy,o.stock,o.number,max 1 (o.limit - c),o.mlo,o.mhi⟩:=by
  have hb:o.buy = false:=by cases hb:o.buy; rfl; exact (h2 ⟨h,hb⟩).elim
  unfold limO; rw [decide_eq_true h,hb]; rfl
theorem lim_eq3 {o:Ord} {c:Int} (h:¬ 0 < o.limit):limO o c = o:=by
  unfold limO; rw [decide_eq_false h]; rfl
theorem set_same {l:List Ord} {k:Nat} {o:Ord} (h:l[k]? = some o):l.set k o = l:=by
  refine List.ext_getElem? fun j=>?_
  rw [List.getElem?_set]
  by_cases e:k = j
  · subst e; rw [if_pos rfl,if_pos (List.getElem?_eq_some_iff.1 h).1,h]
  · rw [if_neg e]
theorem lget_sne {l:List Int} {k j:Nat} {x:Int} (h:j ≠ k):(l.set k x).getD j 0 = l.getD j 0:=by
  rw [List.getD_eq_getElem?_getD,List.getElem?_set,if_neg (fun e=>h e.symm),← List.getD_eq_getElem?_getD]
theorem elt25:ElT Tryz.prog 25 61 6 48:=kn underlying25 (z:=(.agg #[(.bool false),(.int .i64 0),(.int .i64 0),(.int .i64 0),(.int .i64 0),(.int .i64 0)])) (by kernel_rfl) rfl (by decide)
theorem list4_vec (l:List Int) (h5:l.length ≤ 1000000):EffAt Tryz.prog 60 [.d (ints l)] [] (X:={v:Value // VecV v 1 (intsT l)}) (fun v=>.val v.1) (fun v=>[(1099,vecRes 3 v.1 1 (intsT l))]):=by
 refine EffAt.of_awp Tryz.func60 rfl (by kernel_rfl) rfl fun Γ hn=>?_
 refine Zu ?_
 refine Zt 1 [] hn rfl ?_
 refine Zv (Zu ?_)
 refine Zt 1 [] hn rfl ?_
 refine ko (zCn 1099) ?_
 refine stepW (s_appendNV (id:=1099) rfl rfl rfl (nb hn rfl) elt29 zr3 rfl rfl rfl rfl (by simp [chunk]; omega) (by simp [chunk]; omega)) fun ⟨v4,hV4⟩=>?_
 refine Zt 1 [] hn rfl ?_
 refine Zv (zJ ?_)
 exact ret_E (.inl rfl) ⟨v4,by rw [zEq]; exact hV4⟩ (zy rfl (.tmp rfl)) ⟨(congrArg (fun z=>some (vecRes 3 v4 1 z)) (zEq l).symm),trivial⟩
theorem OddLimit_eff (d:Dsk) (ws:List Int) (wh by_:Nat) (hN:NamesOK d.b) (hw:WdsOK ws) (hwh:wh ≤ 255) (hby:by_ ≤ 255):EffAt Tryz.prog 10 [.d (dskD d),.d (wdsD ws),.d (.int .u8 (wh:Nat)),.d (.int .u8 (by_:Nat))] [] (X:=Unit) (fun _=>.d (.bool true)) (fun _=>[]):=by
 refine EffAt.of_awp Tryz.func10 rfl (by kernel_rfl) rfl fun Γ hn=>?_
 refine Zu (Zb 4 hn rfl fun b4=>Zt 1 [] hn rfl (Zv (Zu (Zt 2 [4] hn rfl ?_))))
 refine stepW (s_callE (Told_eff d ws hN hw) rfl rfl rfl (nb hn rfl) (.d rfl) rfl (.refl _) trivial (fun _=>rfl) (fun _ _=>trivial)) fun ⟨⟨x,t,isb⟩,hTp⟩=>?_
 refine Zt 4 [] hn rfl (Zb 9 hn rfl fun b9=>Zb 10 hn rfl fun b10=>Zt 3 [9,10] hn rfl (Zv (zC (Zu (Zt 8 [9] hn rfl (Zv (zH rfl (fun hb0=>?_) (fun hb0=>?_))))))))
 refine Zu (Zk hn rfl (zDt) (Zt 1 [] hn rfl (Zv (zJ (zD ?_)))))
 exact ret_E (.inl rfl) () (zy rfl (.tmp rfl)) trivial
 obtain ⟨rfl,hne⟩:isb = true ∧ x.orders.length ≠ 0:=by have h:=hb0; simp only [List.length_map,Bool.or_eq_false_iff,Bool.not_eq_false',beq_eq_false_iff_ne] at h; exact ⟨h.1,fun e=>h.2 (by rw [e]; rfl)⟩
 obtain ⟨l,mm,fs,bs,vs,hF,hN2,hx3,hx8,hx7,htp,htm,hto⟩:=tld_get hTp hN
 have hfl:=hF.fl
 have hbl:=hF.bl
 have hvl:=hF.vl
 have hl8:=hF.S.l8
 obtain ⟨k,hkd⟩:∃ k,wh % x.orders.length = k:=⟨_,rfl⟩
 have hkl:k < x.orders.length:=by rw [← hkd]; exact Nat.mod_lt wh (by omega)
 obtain ⟨o,hod⟩:=zT hkl
 have hoB:=hF.S.ob o (List.mem_of_getElem? hod)
 have hob:=zAU hoB
 have hod2:=hF.T.od k hkl
 rw [zQ hod] at hod2
 have hotl:t.orders.length = x.orders.length:=hF.T.ol
 obtain ⟨mk,hmk⟩:=zT (show k < t.orders.length by omega)
 rw [zQ hmk] at hod2
 have hb8:=Nat.mod_lt by_ (show 0 < 8 by decide)
 have hlb:=lim_bd (c:=((by_:Nat):Int)) hob.2.2.1 (by omega)
 have hLB:ordB x.b (limO o ((by_:Nat):Int)) = true:=zGW ⟨by have:=hob.1; omega,hob.2.1,hlb,hob.2.2.2⟩
 have hEB:ordB x.b (earlO o (max 0 (mk - ((by_ % 8:Nat):Int)))) = true:=zGW ⟨by have:=hob.1; omega,hob.2.1,hob.2.2.1,by dsimp only; omega,by dsimp only; omega,by dsimp only; omega⟩
 obtain ⟨fs2,bs2,vs2,hF2⟩:=zGz (u:=t) hF hod hLB rfl rfl rfl (fun _ _=>rfl) (by rw [zQ hmk]; exact hod2)
 have hgk:(setT t k (max 0 (mk - ((by_ % 8:Nat):Int)))).orders.getD k 0 = (max 0 (mk - ((by_ % 8:Nat):Int))):=zQ (yv hmk)
 obtain ⟨fs3,bs3,vs3,hF3⟩:=zGz (u:=(setT t k (max 0 (mk - ((by_ % 8:Nat):Int))))) hF hod hEB rfl rfl List.length_set (fun j hj=>lget_sne hj) (by rw [hgk]; dsimp only; omega)
 obtain ⟨f,g,h,hf,hg,hh,hLF⟩:=lim_law (c:=((by_:Nat):Int)) (m:=(max 0 (mk - ((by_ % 8:Nat):Int)))) hF hod (by omega) (by rw [zQ hmk]; omega) hF2 hF3 ⟨rfl,rfl,hgk⟩
 have hfl2:fs2.length = x.orders.length:=by rw [hF2.fl]; exact List.length_set
 have hvl2:vs2.length = x.orders.length:=by rw [hF2.vl]; exact List.length_set
 have hfl3:fs3.length = x.orders.length:=by rw [hF3.fl]; exact List.length_set
 have hv1:=(hF.at_ k o hod).2.2.1
 have hv2:=(hF2.at_ k _ (zET hod)).2.2.1
 dsimp only at hv2
 refine zI (zA (Zu (Zt 1 [] hn rfl (Zs hn (zAV rfl rfl underlying5 underlying3 (i64w (by omega) rfl)) ?_))))
 refine Zt 3 [9] hn rfl (Zs hn (ya rfl rfl rfl (r:=((k:Nat):Int)) (by rw [List.length_map]; show (x.orders.length:Int) ≠ 0; omega) (by rw [List.length_map,← hkd]; exact modN (a:=wh) (b:=x.orders.length) (by omega))) ?_)
 refine Zt 1 [] hn rfl (Zv (zC ?_))
 refine zi (e:=.normal) (ι:=Nat × Nat × Nat) (fun z=>(13,true,.val (.pointer (some ⟨z.1,0,none⟩))) :: (14,true,.val (.pointer (some ⟨z.2.1,0,none⟩))) :: (15,true,.val (.pointer (some ⟨z.2.2,0,none⟩))) :: anys [50,51,52]) (fun z=>[(13,.box z.1 27 [.d (stksD x.b.stocks),.d (.int .i64 x.b.jump),.d (.int .i64 x.b.small),.d (strD x.tape),.d (.int .i64 x.fee),.d (ordsD x.orders)]),(14,.box z.2.1 27 [.d (stksD x.b.stocks),.d (.int .i64 x.b.jump),.d (.int .i64 x.b.small),.d (strD x.tape),.d (.int .i64 x.fee),.d (ordsD x.orders)]),(15,.box z.2.2 31 [.d (ints t.prices),.d (ints t.minutes),.d (ints t.orders)])]) (fun hJ1=>?_) ?_
 ·
  refine ze (W:=fun b=>b ≠ b9 ∧ b ≠ b10) fmo ?_
  refine Zy [0,1,2] [9,9,10] hn rfl (zB ?_)
  refine zf 3 [4,5] (by kernel_rfl) ⟨?_,?_,?_,trivial⟩
  focus
   refine br rfl (zt 13 rfl rfl rfl (nb hn rfl) zr27 rfl rfl) fun b13=>?_
   refine d2_of_d1 (zB ?_)
   refine zf 4 [5] (by kernel_rfl) ⟨?_,?_,trivial⟩
   refine br rfl (zt 14 rfl rfl rfl (nb hn rfl) zr27 rfl rfl) fun b14=>?_
   refine d2_of_d1 (zB (Zo 5 rfl (zt 15 rfl rfl rfl (nb hn rfl) zr31 rfl rfl) fun b15=>?_))
   rotate_left
   refine br rfl (zt 15 rfl rfl rfl (nb hn rfl) zr31 rfl rfl) fun b15=>?_
   refine d2_of_d1 (zB (Zo 4 rfl (zt 14 rfl rfl rfl (nb hn rfl) zr27 rfl rfl) fun b14=>?_))
   rotate_left
  rotate_left 2
  focus
   refine br rfl (zt 14 rfl rfl rfl (nb hn rfl) zr27 rfl rfl) fun b14=>?_
   refine d2_of_d1 (zB ?_)
   refine zf 3 [5] (by kernel_rfl) ⟨?_,?_,trivial⟩
   refine br rfl (zt 13 rfl rfl rfl (nb hn rfl) zr27 rfl rfl) fun b13=>?_
   refine d2_of_d1 (zB (Zo 5 rfl (zt 15 rfl rfl rfl (nb hn rfl) zr31 rfl rfl) fun b15=>?_))
   rotate_left
   refine br rfl (zt 15 rfl rfl rfl (nb hn rfl) zr31 rfl rfl) fun b15=>?_
   refine d2_of_d1 (zB (Zo 3 rfl (zt 13 rfl rfl rfl (nb hn rfl) zr27 rfl rfl) fun b13=>?_))
   rotate_left
  rotate_left 2
  focus
   refine br rfl (zt 15 rfl rfl rfl (nb hn rfl) zr31 rfl rfl) fun b15=>?_
   refine d2_of_d1 (zB ?_)
   refine zf 3 [4] (by kernel_rfl) ⟨?_,?_,trivial⟩
   refine br rfl (zt 13 rfl rfl rfl (nb hn rfl) zr27 rfl rfl) fun b13=>?_
   refine d2_of_d1 (zB (Zo 4 rfl (zt 14 rfl rfl rfl (nb hn rfl) zr27 rfl rfl) fun b14=>?_))
   rotate_left
   refine br rfl (zt 14 rfl rfl rfl (nb hn rfl) zr27 rfl rfl) fun b14=>?_
   refine d2_of_d1 (zB (Zo 3 rfl (zt 13 rfl rfl rfl (nb hn rfl) zr27 rfl rfl) fun b13=>?_))
   rotate_left
  rotate_left 2
  all_goals
   refine d2_of_d1 (zB (zp (i:=13) (j:=9) rfl rfl rfl (fun hne13_9=>?_)))
   refine zp (i:=13) (j:=10) rfl rfl rfl (fun hne13_10=>?_)
   refine Zo 6 rfl (zv rfl rfl rfl rfl rfl rfl (id:=13) rfl sz27 rfl (Nat.le_of_ble_eq_true rfl) rfl ⟨fun e=>hne13_9 _ rfl (congrArg some e.symm),fun e=>hne13_10 _ rfl (congrArg some e.symm)⟩) fun _=>?_
   refine d2_of_d1 (zB (zp (i:=14) (j:=9) rfl rfl rfl (fun hne14_9=>?_)))
   refine zp (i:=14) (j:=10) rfl rfl rfl (fun hne14_10=>?_)
   refine Zo 7 rfl (zv rfl rfl rfl rfl rfl rfl (id:=14) rfl sz27 rfl (Nat.le_of_ble_eq_true rfl) rfl ⟨fun e=>hne14_9 _ rfl (congrArg some e.symm),fun e=>hne14_10 _ rfl (congrArg some e.symm)⟩) fun _=>?_
   refine d2_of_d1 (zB (zp (i:=15) (j:=9) rfl rfl rfl (fun hne15_9=>?_)))
   refine zp (i:=15) (j:=10) rfl rfl rfl (fun hne15_10=>?_)
   refine Zo 8 rfl (zv rfl rfl rfl rfl rfl rfl (id:=15) rfl sz31 rfl (Nat.le_of_ble_eq_true rfl) rfl ⟨fun e=>hne15_9 _ rfl (congrArg some e.symm),fun e=>hne15_10 _ rfl (congrArg some e.symm)⟩) fun _=>?_
   refine d2_of_d1 (zB (zb (by kernel_rfl) ?_))
   exact Zj hJ1 (b13,b14,b15) ⟨.inl rfl,.inl rfl,.inl rfl,zF _⟩ ⟨.inl rfl,.inl rfl,.inl rfl,trivial⟩
 rintro ⟨b13,b14,b15⟩
 dsimp only
 refine zA (zC ?_)
 refine zi (e:=.normal) (ι:={z:(Nat × Nat) × Nat × Nat // x.orders.length ≤ z.1.2 ∧ z.1.2 ≤ maxLen ∧ x.orders.length ≤ z.2.2 ∧ z.2.2 ≤ maxLen}) (fun z=>anys [53,54,55,56,57,58,59,60,61,62]) (fun z=>[(13,.box b13 27 [.d (stksD x.b.stocks),.d (.int .i64 x.b.jump),.d (.int .i64 x.b.small),.d (strD x.tape),.d (.int .i64 x.fee),.val (.slice (some ⟨z.1.1.1,0,none⟩) x.orders.length z.1.1.2)]),(14,.box b14 27 [.d (stksD x.b.stocks),.d (.int .i64 x.b.jump),.d (.int .i64 x.b.small),.d (strD x.tape),.d (.int .i64 x.fee),.val (.slice (some ⟨z.1.2.1,0,none⟩) x.orders.length z.1.2.2)]),(53,.box z.1.1.1 61 (ordT x.orders ++ List.replicate ((z.1.1.2 - x.orders.length) * 6) TV.any)),(57,.box z.1.2.1 61 (ordT x.orders ++ List.replicate ((z.1.2.2 - x.orders.length) * 6) TV.any))]) (fun hJ2=>?_) ?_
 ·
  refine ze (W:=fun b=>b ≠ b9) fmo ?_
  refine Zy [1,2,5,6] [9,9] hn rfl (zB ?_)
  refine zf 0 [4] (by kernel_rfl) ⟨?_,?_,trivial⟩
  focus
   refine br rfl (y4 53 rfl rfl rfl (nb hn rfl) underlying25 sz61 zr61 rfl rfl (show _ = [] from by kernel_rfl) (by kernel_rfl) rfl rfl) fun b53=>?_
   refine d2_of_d1 (zB (zp (i:=53) (j:=9) rfl rfl rfl (fun hne53_9=>?_)))
   refine zf 3 [4] (by kernel_rfl) ⟨?_,?_,trivial⟩
   refine br rfl (kO (id:=53) rfl rfl rfl (nb hn rfl) elt25 zr61 rfl (ovec0 b53 6) rfl rfl rfl (by simp [chunk]; omega) (by simp [chunk]; omega) (fun b hb=>(fun e=>hne53_9 _ hb (congrArg some e.symm)))) fun ⟨v56,hV56⟩=>?_
   obtain ⟨bv,cv,rfl,hcv,hcm⟩:=zBc (cs:=ordT x.orders) (m:=x.orders.length) hV56 (kg _) (by omega)
   refine d2_of_d1 (Zy [8] [] hn rfl (zB (Zo 4 rfl (y4 57 rfl rfl rfl (nb hn rfl) underlying25 sz61 zr61 rfl rfl (show _ = [] from by kernel_rfl) (by kernel_rfl) rfl rfl) fun b57=>?_)))
   refine d2_of_d1 (zB ?_)
   rotate_left
   refine br rfl (y4 57 rfl rfl rfl (nb hn rfl) underlying25 sz61 zr61 rfl rfl (show _ = [] from by kernel_rfl) (by kernel_rfl) rfl rfl) fun b57=>?_
   refine d2_of_d1 (zB (zp (i:=53) (j:=9) rfl rfl rfl (fun hne53_9=>?_)))
   refine Zo 3 rfl (kO (id:=53) rfl rfl rfl (nb hn rfl) elt25 zr61 rfl (ovec0 b53 6) rfl rfl rfl (by simp [chunk]; omega) (by simp [chunk]; omega) (fun b hb=>(fun e=>hne53_9 _ hb (congrArg some e.symm)))) fun ⟨v56,hV56⟩=>?_
   obtain ⟨bv,cv,rfl,hcv,hcm⟩:=zBc (cs:=ordT x.orders) (m:=x.orders.length) hV56 (kg _) (by omega)
   refine d2_of_d1 (Zy [8] [] hn rfl (zB ?_))
   rotate_left
  rotate_left 2
  refine br rfl (y4 57 rfl rfl rfl (nb hn rfl) underlying25 sz61 zr61 rfl rfl (show _ = [] from by kernel_rfl) (by kernel_rfl) rfl rfl) fun b57=>?_
  refine d2_of_d1 (zB (Zo 0 rfl (y4 53 rfl rfl rfl (nb hn rfl) underlying25 sz61 zr61 rfl rfl (show _ = [] from by kernel_rfl) (by kernel_rfl) rfl rfl) fun b53=>?_))
  refine d2_of_d1 (zB (zp (i:=53) (j:=9) rfl rfl rfl (fun hne53_9=>?_)))
  refine Zo 3 rfl (kO (id:=53) rfl rfl rfl (nb hn rfl) elt25 zr61 rfl (ovec0 b53 6) rfl rfl rfl (by simp [chunk]; omega) (by simp [chunk]; omega) (fun b hb=>(fun e=>hne53_9 _ hb (congrArg some e.symm)))) fun ⟨v56,hV56⟩=>?_
  obtain ⟨bv,cv,rfl,hcv,hcm⟩:=zBc (cs:=ordT x.orders) (m:=x.orders.length) hV56 (kg _) (by omega)
  refine d2_of_d1 (Zy [8] [] hn rfl (zB ?_))
  rotate_left
  all_goals
   refine zp (i:=57) (j:=9) rfl rfl rfl (fun hne57_9=>?_)
   refine Zo 7 rfl (kO (id:=57) rfl rfl rfl (nb hn rfl) elt25 zr61 rfl (ovec0 b57 6) rfl rfl rfl (by simp [chunk]; omega) (by simp [chunk]; omega) (fun b hb=>(fun e=>hne57_9 _ hb (congrArg some e.symm)))) fun ⟨v60,hV60⟩=>?_
   obtain ⟨bw,cw,rfl,hcw,hcn⟩:=zBc (cs:=ordT x.orders) (m:=x.orders.length) hV60 (kg _) (by omega)
   refine d2_of_d1 (zB (zp (i:=13) (j:=9) rfl rfl rfl (fun hne13_9=>?_)))
   refine Zo 9 rfl (s_store1 rfl rfl rfl rfl rfl rfl (id:=13) rfl sz25 (Nat.le_of_ble_eq_true rfl) rfl (fun e=>hne13_9 _ rfl (congrArg some e.symm))) fun _=>?_
   refine d2_of_d1 (Zy [10] [] hn rfl (zB (zp (i:=14) (j:=9) rfl rfl rfl (fun hne14_9=>?_))))
   refine Zo 11 rfl (s_store1 rfl rfl rfl rfl rfl rfl (id:=14) rfl sz25 (Nat.le_of_ble_eq_true rfl) rfl (fun e=>hne14_9 _ rfl (congrArg some e.symm))) fun _=>?_
   refine d2_of_d1 (zB (zb (by kernel_rfl) ?_))
   exact Zj hJ2 ⟨((bv,cv),bw,cw),hcv,hcm,hcw,hcn⟩ (zF _) ⟨.inl rfl,.inl rfl,.inl rfl,.inl rfl,trivial⟩
 rintro ⟨⟨⟨bv,cv⟩,bw,cw⟩,hcv,hcm,hcw,hcn⟩
 dsimp only
 dsimp only at hcv hcm hcw hcn
 refine zA (zC (Zu (Zt 3 [13] hn rfl (Zs hn (q_indexV (i:=k) rfl rfl rfl underlying25 sz61 rfl hkl) ?_))))
 refine Zt 1 [] hn rfl (Zv (Zu (Zt 3 [] hn rfl (Zs hn (zU rfl rfl (id:=53) rfl underlying3 rfl (ordG 3 (by decide) hod (by show 0 + k * 6 + 3 = k * 6 + 3; omega) rfl) sees0) ?_))))
 refine Zt 5 [] hn rfl ?_
 refine Zh [(75,_)] (zM rfl rfl rfl) hn (fun hc=>⟨⟨_,rfl,hc⟩,trivial⟩) (fun hc=>zU rfl rfl (id:=53) rfl underlying4 rfl (ordG 0 (by decide) hod (by show 0 + k * 6 + 0 = k * 6 + 0; omega) rfl) sees0) ?_
 refine Zt 1 [] hn rfl (Zv (zi (e:=.normal) (ι:=Unit) (fun u0=>anys [78,79,80,81,82,83,84,85,86,87,88,89,90,91,92,93,94,95,96,97,98,99,100,101,102,103,104]) (fun u0=>[(53,.box bv 61 (ordT (x.orders.set k (limO o ((by_:Nat):Int))) ++ List.replicate ((cv - x.orders.length) * 6) TV.any))]) (fun hJ3=>?_) ?_))
 ·
  refine zH rfl (fun hb3=>?_) (fun hb3=>?_)
  ·
   have eL:=lim_eq1 (c:=((by_:Nat):Int)) (show 0 < o.limit ∧ o.buy = true by have q:=hb3; simpa using q)
   refine zG (Zt 4 [] hn rfl (Zs hn (zU rfl rfl (id:=53) rfl underlying3 rfl (ordG 3 (by decide) hod (by show 0 + k * 6 + 3 = k * 6 + 3; omega) rfl) sees0) ?_))
   refine Zt 1 [] hn rfl (Zs hn (zAV rfl rfl underlying5 underlying3 (r:=((by_:Nat):Int)) (i64w (by omega) rfl)) ?_)
   refine Zs hn (za rfl rfl rfl (r:=o.limit + ((by_:Nat):Int)) (i64w (by omega) rfl)) ?_
   refine Zs hn (zDk rfl rfl rfl) ?_
   refine Zt 2 [] hn rfl ?_
   refine stepW (s_store1 rfl rfl rfl rfl rfl rfl (id:=53) rfl sz3 (by show 0 + k * 6 + 3 < _; rw [List.length_append,kg]; omega) (ordS ⟨o.buy,o.stock,o.number,min 799 (o.limit + ((by_:Nat):Int)),o.mlo,o.mhi⟩ 3 (by decide) hod (by show 0 + k * 6 + 3 = k * 6 + 3; omega) rfl) trivial) fun _=>?_
   refine zR ?_
   exact Zj hJ3 () (zF _) ⟨.inl (by rw [eL]; first | done | rfl),trivial⟩
  have q1:¬ (0 < o.limit ∧ o.buy = true):=by have q:=hb3; simpa using q
  refine Zu (Zt 3 [] hn rfl (Zs hn (zU rfl rfl (id:=53) rfl underlying3 rfl (ordG 3 (by decide) hod (by show 0 + k * 6 + 3 = k * 6 + 3; omega) rfl) sees0) ?_))
  refine Zt 1 [] hn rfl (Zv (zH rfl (fun hb4=>?_) (fun hb4=>?_)))
  ·
   have eL:=lim_eq2 (c:=((by_:Nat):Int)) (show 0 < o.limit by have q:=hb4; simpa using q) q1
   refine zG (Zt 4 [] hn rfl (Zs hn (zU rfl rfl (id:=53) rfl underlying3 rfl (ordG 3 (by decide) hod (by show 0 + k * 6 + 3 = k * 6 + 3; omega) rfl) sees0) ?_))
   refine Zt 1 [] hn rfl (Zs hn (zAV rfl rfl underlying5 underlying3 (r:=((by_:Nat):Int)) (i64w (by omega) rfl)) ?_)
   refine Zs hn (yE rfl rfl rfl (r:=o.limit - ((by_:Nat):Int)) (i64w (by omega) rfl)) ?_
   refine Zs hn (yj rfl rfl rfl) ?_
   refine Zt 2 [] hn rfl ?_
   refine stepW (s_store1 rfl rfl rfl rfl rfl rfl (id:=53) rfl sz3 (by show 0 + k * 6 + 3 < _; rw [List.length_append,kg]; omega) (ordS ⟨o.buy,o.stock,o.number,max 1 (o.limit - ((by_:Nat):Int)),o.mlo,o.mhi⟩ 3 (by decide) hod (by show 0 + k * 6 + 3 = k * 6 + 3; omega) rfl) trivial) fun _=>?_
   refine zR ?_
   exact Zj hJ3 () (zF _) ⟨.inl (by rw [eL]; first | done | rfl),trivial⟩
  have eL:=lim_eq3 (c:=((by_:Nat):Int)) (show ¬ 0 < o.limit by have q:=hb4; simpa using q)
  refine zI ?_
  exact Zj hJ3 () (zF _) ⟨.inl (by rw [eL,set_same hod]; first | done | rfl),trivial⟩
 rintro _
 refine zA (Zu (Zt 2 [10] hn rfl ?_))
 refine stepW (s_callE (list4_vec t.orders (by omega)) rfl rfl rfl (nb hn rfl) (.d rfl) rfl (.refl _) trivial (fun _=>rfl) (fun _ _=>trivial)) fun ⟨vl,hVl⟩=>?_
 obtain ⟨bl,cl,rfl,hcl,hclm⟩:=lvec_cns hVl (by omega)
 refine Zt 1 [] hn rfl (stepW (s_store1 rfl rfl rfl rfl rfl rfl (id:=15) rfl sz29 (Nat.le_of_ble_eq_true rfl) rfl trivial) fun _=>?_)
 refine Zv (zC (zo (gh_req (id:=1099) rfl (show _ = Res.box bl 3 (intsT t.orders ++ List.replicate ((cl - t.orders.length) * 1) TV.any) from rfl)) ?_))
 refine zi (e:=.normal) (ι:=Unit) (fun u0=>anys [109,110,111,112,113,114,115,116,117,118,119,120,121,122]) (fun u0=>[(1099,.box bl 3 (intsT (t.orders.set k (max 0 (mk - ((by_ % 8:Nat):Int)))) ++ List.replicate ((cl - t.orders.length) * 1) TV.any))]) (fun hJ5=>?_) ?_
 refine ze (W:=fun b=>b ≠ b10 ∧ b ≠ b15) fmo ?_
 refine Zy [0,1,2,3,4,5] [15,10] hn rfl (Zd 6 rfl hn (q_index (i:=k) rfl rfl rfl underlying29 sz3 rfl (mget hmk)) ?_)
 refine Zy [7,8] [] hn rfl (Zd 9 rfl hn (zAV rfl rfl underlying5 underlying3 (r:=((by_:Nat):Int)) (i64w (by omega) rfl)) ?_)
 refine Zd 10 rfl hn (ya rfl rfl rfl (r:=((by_ % 8:Nat):Int)) (by omega) (modN (b:=8) (by omega))) ?_
 refine Zd 11 rfl hn (yE rfl rfl rfl (r:=mk - ((by_ % 8:Nat):Int)) (i64w (by omega) rfl)) ?_
 refine Zd 12 rfl hn (yj rfl rfl rfl) ?_
 refine Zd 13 rfl hn (q_indexV (i:=k) rfl rfl rfl underlying29 sz3 rfl (by omega)) ?_
 refine zB (zp (i:=1099) (j:=10) rfl rfl rfl (fun hne1099_10=>?_))
 refine zp (i:=1099) (j:=15) rfl rfl rfl (fun hne1099_15=>?_)
 refine Zo 14 rfl (s_store1 rfl rfl rfl rfl rfl rfl (id:=1099) rfl sz3 (by rw [List.length_append,List.length_map]; omega) (iT_setA (by omega)) ⟨fun e=>hne1099_10 _ rfl (congrArg some e.symm),fun e=>hne1099_15 _ rfl (congrArg some e.symm)⟩) fun _=>?_
 refine d2_of_d1 (zB (zb (by kernel_rfl) ?_))
 exact Zj hJ5 () (zF _) ⟨.inl rfl,trivial⟩
 rintro _
 refine zA (zC (zi (e:=.normal) (ι:=Unit) (fun u0=>anys [123,124,125,126,127,128,129,130,131,132,133,134,135,136,137,138,139,140,141,142,143,144,145,146]) (fun u0=>[(57,.box bw 61 (ordT (x.orders.set k (earlO o (max 0 (mk - ((by_ % 8:Nat):Int))))) ++ List.replicate ((cw - x.orders.length) * 6) TV.any))]) (fun hJ6=>?_) ?_))
 ·
  refine ze (W:=fun b=>b ≠ b14 ∧ b ≠ b15) fmo ?_
  refine Zy [0,1,2,3,4,5] [14,15] hn rfl (Zd 6 rfl hn (q_indexV (i:=k) rfl rfl rfl underlying29 sz3 rfl (by omega)) ?_)
  refine Zy [8,9,10] [15] hn rfl (Zd 11 rfl hn (q_indexV (i:=k) rfl rfl rfl underlying29 sz3 rfl (by omega)) ?_)
  refine Zy [13,14,15] [14] hn rfl (Zd 16 rfl hn (q_indexV (i:=k) rfl rfl rfl underlying25 sz61 rfl hkl) ?_)
  refine Zy [17,18] [] hn rfl (zB ?_)
  refine zf 7 [12,19] (by kernel_rfl) ⟨?_,?_,?_,trivial⟩
  focus
   refine br rfl (Zw hn (zU rfl rfl (id:=1099) rfl underlying3 rfl (kS (yv hmk)) sees0)) fun _=>?_
   refine d2_of_d1 (zB ?_)
   refine zf 12 [19] (by kernel_rfl) ⟨?_,?_,trivial⟩
   refine br rfl (Zw hn (zU rfl rfl (id:=1099) rfl underlying3 rfl (kS (yv hmk)) sees0)) fun _=>?_
   refine d2_of_d1 (zB (Zo 19 rfl (Zw hn (zU rfl rfl (id:=57) rfl underlying3 rfl (ordG 5 (by decide) hod (by show 0 + k * 6 + 4 + 1 = k * 6 + 5; omega) rfl) sees0)) fun _=>?_))
   rotate_left
   refine br rfl (Zw hn (zU rfl rfl (id:=57) rfl underlying3 rfl (ordG 5 (by decide) hod (by show 0 + k * 6 + 4 + 1 = k * 6 + 5; omega) rfl) sees0)) fun _=>?_
   refine d2_of_d1 (zB (Zo 12 rfl (Zw hn (zU rfl rfl (id:=1099) rfl underlying3 rfl (kS (yv hmk)) sees0)) fun _=>?_))
   rotate_left
   all_goals
    refine d2_of_d1 (Zd 20 rfl hn (yj rfl rfl rfl) ?_)
  rotate_left 2
  focus
   refine br rfl (Zw hn (zU rfl rfl (id:=1099) rfl underlying3 rfl (kS (yv hmk)) sees0)) fun _=>?_
   refine d2_of_d1 (zB ?_)
   refine zf 7 [19] (by kernel_rfl) ⟨?_,?_,trivial⟩
   refine br rfl (Zw hn (zU rfl rfl (id:=1099) rfl underlying3 rfl (kS (yv hmk)) sees0)) fun _=>?_
   refine d2_of_d1 (zB (Zo 19 rfl (Zw hn (zU rfl rfl (id:=57) rfl underlying3 rfl (ordG 5 (by decide) hod (by show 0 + k * 6 + 4 + 1 = k * 6 + 5; omega) rfl) sees0)) fun _=>?_))
   refine d2_of_d1 (Zd 20 rfl hn (yj rfl rfl rfl) ?_)
   rotate_left
   refine br rfl (Zw hn (zU rfl rfl (id:=57) rfl underlying3 rfl (ordG 5 (by decide) hod (by show 0 + k * 6 + 4 + 1 = k * 6 + 5; omega) rfl) sees0)) fun _=>?_
   refine d2_of_d1 (Zd 20 rfl hn (yj rfl rfl rfl) ?_)
   refine zB (Zo 7 rfl (Zw hn (zU rfl rfl (id:=1099) rfl underlying3 rfl (kS (yv hmk)) sees0)) fun _=>?_)
   refine d2_of_d1 ?_
   rotate_left
  rotate_left 2
  focus
   refine br rfl (Zw hn (zU rfl rfl (id:=57) rfl underlying3 rfl (ordG 5 (by decide) hod (by show 0 + k * 6 + 4 + 1 = k * 6 + 5; omega) rfl) sees0)) fun _=>?_
   refine d2_of_d1 (zB ?_)
   refine zf 7 [12] (by kernel_rfl) ⟨?_,?_,trivial⟩
   refine br rfl (Zw hn (zU rfl rfl (id:=1099) rfl underlying3 rfl (kS (yv hmk)) sees0)) fun _=>?_
   refine d2_of_d1 (zB (Zo 12 rfl (Zw hn (zU rfl rfl (id:=1099) rfl underlying3 rfl (kS (yv hmk)) sees0)) fun _=>?_))
   refine d2_of_d1 (Zd 20 rfl hn (yj rfl rfl rfl) ?_)
   rotate_left
   refine br rfl (Zw hn (zU rfl rfl (id:=1099) rfl underlying3 rfl (kS (yv hmk)) sees0)) fun _=>?_
   refine d2_of_d1 (Zd 20 rfl hn (yj rfl rfl rfl) ?_)
   refine zB (Zo 7 rfl (Zw hn (zU rfl rfl (id:=1099) rfl underlying3 rfl (kS (yv hmk)) sees0)) fun _=>?_)
   refine d2_of_d1 ?_
   rotate_left
  rotate_left 2
  all_goals
   refine Zy [21] [] hn rfl (Zd 22 rfl hn (q_indexV (i:=k) rfl rfl rfl underlying25 sz61 rfl hkl) ?_)
   refine Zy [23] [] hn rfl (zB (zp (i:=57) (j:=14) rfl rfl rfl (fun hne57_14=>?_)))
   refine zp (i:=57) (j:=15) rfl rfl rfl (fun hne57_15=>?_)
   refine Zo 24 rfl (zv rfl rfl rfl rfl rfl rfl (id:=57) rfl sz59 rfl (by show 0 + k * 6 + 4 + 2 ≤ _; rw [List.length_append,kg]; omega) (ordS3 hod (by show 0 + k * 6 + 4 = k * 6 + 4; omega)) ⟨fun e=>hne57_14 _ rfl (congrArg some e.symm),fun e=>hne57_15 _ rfl (congrArg some e.symm)⟩) fun _=>?_
   refine d2_of_d1 (zB (zb (by kernel_rfl) ?_))
   exact Zj hJ6 () (zF _) ⟨.inl rfl,trivial⟩
 rintro _
 refine zA (zC (ze (W:=fun b=>b ≠ b9 ∧ b ≠ b10) fmo ?_))
 refine Zy [0,2] [9,10] hn rfl (zB (Ze1 1 rfl hn rfl (zBR x (by omega) (by omega)) (d2_of_d1 (zB (Ze1 3 rfl hn rfl (zCK t (by omega) (by omega) (by omega)) (d2_of_d1 (zB (Ze1 4 rfl hn rfl ((by have h:=zBC x hN2 (by omega) (by omega) t; rw [hF.p] at h; exact h)) ?_))))))))
 refine d2_of_d1 (Zy [5,6,7,8,9] [] hn rfl (zB (zb (by kernel_rfl) ?_)))
 refine zA (zC (zo (gh_veccell (id:=13) (k:=5) (rid:=53) (ds:=((x.orders.set k (limO o ((by_:Nat):Int))).map ordE).flatten) (n:=x.orders.length) (sz:=6) rfl rfl rfl rfl (ofl List.length_set) (och List.length_set) hcv hcm) ?_))
 refine ze (W:=fun b=>b ≠ b10 ∧ b ≠ b13) fmo ?_
 refine Zy [0,2] [13,10] hn rfl (zB (Ze1 1 rfl hn rfl (zBR (setD x k (limO o ((by_:Nat):Int))) (by dsimp only; omega) (by simp only [List.length_set]; omega)) (d2_of_d1 (zB (Ze1 3 rfl hn rfl (zCK t (by omega) (by omega) (by omega)) (d2_of_d1 (zB (Ze1 4 rfl hn rfl ((by have h:=zBC (setD x k (limO o ((by_:Nat):Int))) hN2 (by dsimp only; omega) (by simp only [List.length_set]; omega) t; rw [hF2.p] at h; exact h)) ?_))))))))
 refine d2_of_d1 (Zy [5,6,7,8,9] [] hn rfl (zB (zb (by kernel_rfl) ?_)))
 refine zA (zC (zo (gh_veccell (id:=14) (k:=5) (rid:=57) (ds:=((x.orders.set k (earlO o (max 0 (mk - ((by_ % 8:Nat):Int))))).map ordE).flatten) (n:=x.orders.length) (sz:=6) rfl rfl rfl rfl (ofl List.length_set) (och List.length_set) hcw hcn) ?_))
 refine zo (gh_veccell (id:=15) (k:=2) (rid:=1099) (ds:=((t.orders.set k (max 0 (mk - ((by_ % 8:Nat):Int)))).map intE).flatten) (rest:=List.replicate ((cl - t.orders.length) * 1) TV.any) (n:=t.orders.length) (sz:=1) rfl rfl (congrArg (fun z=>some (Res.box bl 3 (z ++ List.replicate ((cl - t.orders.length) * 1) TV.any))) (zEq _)) rfl (ilen List.length_set) (ichunk List.length_set) hcl hclm) ?_
 refine ze (W:=fun b=>b ≠ b14 ∧ b ≠ b15) fmo ?_
 refine Zy [0,2] [14,15] hn rfl (zB (Ze1 1 rfl hn rfl (zBR (setD x k (earlO o (max 0 (mk - ((by_ % 8:Nat):Int))))) (by dsimp only; omega) (by simp only [List.length_set]; omega)) (d2_of_d1 (zB (Ze1 3 rfl hn rfl (zCK (setT t k (max 0 (mk - ((by_ % 8:Nat):Int)))) (by dsimp only; omega) (by dsimp only; omega) (by simp only [List.length_set]; omega)) (d2_of_d1 (zB (Ze1 4 rfl hn rfl ((by have h:=zBC (setD x k (earlO o (max 0 (mk - ((by_ % 8:Nat):Int))))) hN2 (by dsimp only; omega) (by simp only [List.length_set]; omega) (setT t k (max 0 (mk - ((by_ % 8:Nat):Int)))); rw [hF3.p] at h; exact h)) ?_))))))))
 refine d2_of_d1 (Zy [5,6,7,8,9] [] hn rfl (zB (zb (by kernel_rfl) ?_)))
 refine zA (Zu (Zt 1 [9] hn rfl (Zk hn rfl (zBR x (by omega) (by omega)) (Zk hn rfl ((by have h:=zAu x hN2 (by omega) (by omega); rw [hF.v] at h; exact h)) ?_))))
 refine Zt 5 [] hn rfl (Zv (Zu (Zt 1 [13] hn rfl (Zk hn rfl (zBR (setD x k (limO o ((by_:Nat):Int))) (by dsimp only; omega) (by simp only [List.length_set]; omega)) (Zk hn rfl ((by have h:=zAu (setD x k (limO o ((by_:Nat):Int))) hN2 (by dsimp only; omega) (by simp only [List.length_set]; omega); rw [hF2.v] at h; exact h)) ?_)))))
 refine Zt 5 [] hn rfl (Zv (zC (Zu (Zt 54 [9] hn rfl (Zv (zH rfl (fun hb7=>?_) (fun hb7=>?_)))))))
 exact absurd hb7 (by simp [hfl,hvl,hfl2,hvl2,hfl3])
 refine zI (zA (zC (ze (W:=fun b=>True) fmo ?_)))
 refine Zy [0,1] [] hn rfl (Zd 2 rfl hn (q_index (i:=k) rfl rfl rfl underlying53 sz68 rfl (mget hf)) ?_)
 refine Zy [3,4,5,6,7,8] [] hn rfl ?_
 refine Zg 9 [(244,_),(245,_)] rfl (zM rfl rfl rfl) hn (fun hc=>⟨⟨_,rfl,hc⟩,⟨_,rfl,hc⟩,trivial⟩) (fun hc=>q_index (i:=k) rfl rfl rfl underlying53 sz68 rfl (mget hg)) ?_
 refine Zy [10,11,12,13,14,15] [] hn rfl ?_
 refine Zg 16 [(251,_),(252,_)] rfl (zM rfl rfl rfl) hn (fun hc=>⟨⟨_,rfl,hc⟩,⟨_,rfl,hc⟩,trivial⟩) (fun hc=>q_index (i:=k) rfl rfl rfl underlying53 sz68 rfl (mget hg)) ?_
 refine Zy [17,18,19,20] [] hn rfl ?_
 refine Zg 21 [(256,_),(257,_)] rfl (zM rfl rfl rfl) hn (fun hc=>⟨⟨_,rfl,hc⟩,⟨_,rfl,hc⟩,trivial⟩) (fun hc=>q_index (i:=k) rfl rfl rfl underlying53 sz68 rfl (mget hf)) ?_
 refine Zy [22,23,24,25,26,27,28] [] hn rfl ?_
 refine Zg 29 [(264,_),(265,_)] rfl (zM rfl rfl rfl) hn (fun hc=>⟨⟨_,rfl,hc⟩,⟨_,rfl,hc⟩,trivial⟩) (fun hc=>q_index (i:=k) rfl rfl rfl underlying53 sz68 rfl (mget hh)) ?_
 refine Zy [30,31,32,33,34,35,36] [] hn rfl ?_
 refine Zg 37 [(272,_),(273,_)] rfl (zM rfl rfl rfl) hn (fun hc=>⟨⟨_,rfl,hc⟩,⟨_,rfl,hc⟩,trivial⟩) (fun hc=>q_index (i:=k) rfl rfl rfl underlying53 sz68 rfl (mget hh)) ?_
 refine Zy [38,39,40,41] [] hn rfl ?_
 refine Zg 42 [(277,_),(278,_)] rfl (zM rfl rfl rfl) hn (fun hc=>⟨⟨_,rfl,hc⟩,⟨_,rfl,hc⟩,trivial⟩) (fun hc=>q_index (i:=k) rfl rfl rfl underlying53 sz68 rfl (mget hf)) ?_
 refine Zy [43,44,45,46,47,48] [] hn rfl (zB (zb (by kernel_rfl) ?_))
 refine zA (Zu (Zt 5 [] hn rfl ?_))
 refine Zh [(288,_),(289,_)] (zM rfl rfl rfl) hn (fun hc=>⟨⟨_,rfl,hc⟩,⟨_,rfl,hc⟩,trivial⟩) (fun hc=>q_index (i:=k) rfl rfl rfl underlying29 sz3 rfl (mget hv1)) ?_
 refine Zt 5 [] hn rfl ?_
 refine Zh [(294,_),(295,_)] (zM rfl rfl rfl) hn (fun hc=>⟨⟨_,rfl,hc⟩,⟨_,rfl,hc⟩,trivial⟩) (fun hc=>q_index (i:=k) rfl rfl rfl underlying29 sz3 rfl (mget hv2)) ?_
 refine Zt 5 [] hn rfl (Zkg hn rfl (fun hc=>zDt) (Zt 2 [] hn rfl (Zv (zJ ?_))))
 exact ret_E (.inl rfl) () ((zy rfl (.tmp rfl)).eq (lim_fin hLF)) trivial
theorem OddLimit_ok (d:Dsk) (ws:List Int) (wh by_:Nat) (hN:NamesOK d.b) (hw:WdsOK ws) (hwh:wh ≤ 255) (hby:by_ ≤ 255):PureAt Tryz.prog 10 [dskD d,wdsD ws,.int .u8 (wh:Nat),.int .u8 (by_:Nat)] (.bool true):=PureAt.of_eff (ds:=[dskD d,wdsD ws,.int .u8 (wh:Nat),.int .u8 (by_:Nat)]) (OddLimit_eff d ws wh by_ hN hw hwh hby)
end Go.Proofs.YticlpkgpmmhemaaGreatDoor
