/-
  A part of the proof that contangolaw.OddMore returns true: what the last text needs, and no more. No condition: no statement of the seat is proved here.
-/
import Derived.Test.YticlpkgpmmhemaaGreatDoorOddMoreO
namespace Go.Proofs.YticlpkgpmmhemaaGreatDoor
open Go.Proofs.Tryz
open Go.RowKit
set_option maxRecDepth 20000
set_option linter.all false
set_option maxHeartbeats 4000000
def lateS:List UInt8:=[64,53,32,65,66,32,51,115,32,56,46,50,32,76,49,45,50,32,64,55,32,56,46,53,32,67,32,48,46,49,32,33,32,64,56,32,48,46,55,32,63]
def latL4:List Prt:=[⟨0,3,3,66,false,5,0,0⟩,⟨0,1,1,69,false,7,1,2⟩,⟨1,1,1,1,false,7,1,2⟩,⟨1,1,4,7,false,8,1,2⟩]
def twoB:Brd:=⟨[⟨[65,66],300,310⟩,⟨[67],75,79⟩],10,4⟩
def thrO:List Ord:=[⟨true,0,10,0,4,5⟩,⟨false,0,20,308,5,5⟩,⟨true,1,30,85,4,6⟩]
def threeD:Dsk:=⟨twoB,lateS,1,thrO⟩
def toldT:Tru:=⟨[306,309,81,87],[5,6,6,7],[5,5,6]⟩
def lateM:List (Int × Int):=[(5,5),(5,6),(5,6),(6,7)]
theorem two_valid:checkT twoB = 0:=by kernel_rfl
theorem zAT:readI twoB lateS = (latL4,0):=by rw [← zB8 two_valid]; kernel_rfl
theorem t_prices:(pricesI twoB lateS).2 = 0:=by unfold pricesI; rw [zAT]; kernel_rfl
theorem zAb:minutesI twoB lateS = (lateM,0):=by unfold minutesI; rw [zAT]; kernel_rfl
theorem zGR:deskI threeD = 0:=by unfold deskI; rw [show readI threeD.b threeD.tape = (latL4,0) from zAT]; kernel_rfl
theorem zEV (os:List Int) (h:(os.all fun n=>withinB n 0 ((threeD.orders.length:Int) - 1)) = true):sureO threeD os = 0:=by
  unfold sureO
  rw [zGR,h,show (pricesI threeD.b threeD.tape).2 = 0 from t_prices,show minutesI threeD.b threeD.tape = (lateM,0) from zAb]; rfl
theorem t_sales0:salesI threeD 0 = ([0,1],0):=by
  unfold salesI
  rw [zEV [0] (by kernel_rfl),show readI threeD.b threeD.tape = (latL4,0) from zAT,show minutesI threeD.b threeD.tape = (lateM,0) from zAb]; kernel_rfl
theorem t_bounds:boundsI threeD = ([(307,310),(308,308),(82,82)],0):=by
  unfold boundsI
  rw [zEV [] (by kernel_rfl),show readI threeD.b threeD.tape = (latL4,0) from zAT,show minutesI threeD.b threeD.tape = (lateM,0) from zAb]; kernel_rfl
theorem t_verds:verdsI threeD = ([3,3,3],0):=by
  unfold verdsI
  rw [zEV [] (by kernel_rfl),show readI threeD.b threeD.tape = (latL4,0) from zAT,show minutesI threeD.b threeD.tape = (lateM,0) from zAb]; kernel_rfl
theorem t_truth:truthW threeD (readI threeD.b threeD.tape).1 toldT = true:=by
  unfold truthW
  rw [zD3,show readI threeD.b threeD.tape = (latL4,0) from zAT]; kernel_rfl
theorem zHS:playI threeD toldT = ([(1,310),(1,308),(-1,0)],0):=by
  unfold playI
  rw [zGR,t_truth,show readI threeD.b threeD.tape = (latL4,0) from zAT]; kernel_rfl
theorem t_has:hasI threeD toldT = ([10,0],-3060,0):=by unfold hasI; rw [zHS]; kernel_rfl
theorem t_show {x:Tru × Int} (h:ShowR threeD 0 true x.1 x.2):∃ t,x = (t,0) ∧ (deskI threeD == 0 && truthW threeD (readI threeD.b threeD.tape).1 t) = true:=by
  have hb:(bndI threeD.b (readI threeD.b threeD.tape).1 threeD.fee (threeD.orders.getD (0:Int).toNat ord0) (minutesI threeD.b threeD.tape).1).2 = true:=by
    rw [show readI threeD.b threeD.tape = (latL4,0) from zAT,show minutesI threeD.b threeD.tape = (lateM,0) from zAb]; kernel_rfl
  obtain ⟨t,e⟩:=x
  have he:e = 0:=by
    change ShowR threeD 0 true t e at h
    cases h with
    | bad h1=>exact (h1 (zEV [0] (by kernel_rfl))).elim
    | no _ h2=>rw [hb] at h2; cases h2
    | yes=>rfl
  subst he
  obtain ⟨_,hT,_⟩:=show_yes (d:=threeD) (q:=0) (o:=⟨true,0,10,0,4,5⟩) (high:=true) rfl h
  exact ⟨t,rfl,by rw [zGR,(zAG (by rw [show readI threeD.b threeD.tape = (latL4,0) from zAT])).2 hT]; rfl⟩
theorem yq:NamesOK threeD.b:=fun s hs=>by
  have hs:s ∈ [(⟨[65,66],300,310⟩:Stk),⟨[67],75,79⟩]:=hs
  simp only [List.mem_cons,List.not_mem_nil,or_false] at hs
  rcases hs with rfl | rfl <;> simp
theorem kL :PureAt Tryz.prog 69 [] (dskD threeD):=by
 refine Zp Tryz.func69 rfl fun Γ hn hl=>?_
 refine Zu ?_
 refine Zb 0 hn rfl fun b0=>?_
 refine Zv (Zu ?_)
 refine Zt 4 [] hn rfl ?_
 refine stepW (zL rfl rfl rfl (nb hn rfl) underlying22 sz98 zr98 rfl rfl rfl (show _ = [.d (.str ⟨#[]⟩),.d (.int .i64 0),.d (.int .i64 0),.d (.str ⟨#[]⟩),.d (.int .i64 0),.d (.int .i64 0)] from by kernel_rfl) (by kernel_rfl) rfl rfl rfl rfl rfl) fun _=>?_
 refine Zt 1 [] hn rfl ?_
 refine Zk hn rfl (zDH twoB (by decide)) ?_
 refine Zk hn rfl (y8 _ _) ?_
 refine Zt 1 [] hn rfl ?_
 refine Zk hn rfl (y8 _ _) ?_
 refine Zt 1 [] hn rfl ?_
 refine Zk hn rfl (y8 _ _) ?_
 refine Zt 1 [] hn rfl ?_
 refine stepW (zL rfl rfl rfl (nb hn rfl) underlying49 sz152 zr152 rfl rfl rfl (show _ = [.d (.bool false),.d (.int .i64 0),.d (.int .i64 0),.d (.int .i64 0),.d (.int .i64 0),.d (.int .i64 0),.d (.bool false),.d (.int .i64 0),.d (.int .i64 0),.d (.int .i64 0),.d (.int .i64 0),.d (.int .i64 0),.d (.bool false),.d (.int .i64 0),.d (.int .i64 0),.d (.int .i64 0),.d (.int .i64 0),.d (.int .i64 0)] from by kernel_rfl) (by kernel_rfl) rfl rfl rfl rfl rfl) fun _=>?_
 refine Zt 2 [0] hn rfl ?_
 refine Zv (zJ ?_)
 exact zZ (.inl rfl) hl rfl (.cellA rfl (id:=0) rfl underlying51 rfl sz51 rfl rfl)
theorem zFx :PureAt Tryz.prog 70 [] (truD toldT):=by
 refine Zp Tryz.func70 rfl fun Γ hn hl=>?_
 refine Zu ?_
 refine Zb 0 hn rfl fun b0=>?_
 refine Zv (Zu ?_)
 refine stepW (zL rfl rfl rfl (nb hn rfl) underlying29 sz3 zr3 rfl rfl rfl (show _ = [.d (.int .i64 0),.d (.int .i64 0),.d (.int .i64 0),.d (.int .i64 0)] from by kernel_rfl) (by kernel_rfl) rfl rfl rfl rfl rfl) fun _=>?_
 refine stepW (zL rfl rfl rfl (nb hn rfl) underlying29 sz3 zr3 rfl rfl rfl (show _ = [.d (.int .i64 0),.d (.int .i64 0),.d (.int .i64 0),.d (.int .i64 0)] from by kernel_rfl) (by kernel_rfl) rfl rfl rfl rfl rfl) fun _=>?_
 refine stepW (zL rfl rfl rfl (nb hn rfl) underlying29 sz3 zr3 rfl rfl rfl (show _ = [.d (.int .i64 0),.d (.int .i64 0),.d (.int .i64 0)] from by kernel_rfl) (by kernel_rfl) rfl rfl rfl rfl rfl) fun _=>?_
 refine Zt 2 [0] hn rfl ?_
 refine Zv (zJ ?_)
 exact zZ (.inl rfl) hl rfl (.cellA rfl (id:=0) rfl underlying56 rfl sz56 rfl rfl)
theorem awake4_eff :EffAt Tryz.prog 45 [] [] (X:=Unit) (fun _=>.d (.bool true)) (fun _=>[]):=by
 refine EffAt.of_awp Tryz.func45 rfl (by kernel_rfl) rfl fun Γ hn=>?_
 refine Zu ?_
 refine Zt 1 [] hn rfl ?_
 refine Zv (Zu ?_)
 refine Zk hn rfl (kL) ?_
 refine Zk hn rfl ((by have h:=Sales4_ok threeD yq (by decide) (by decide) 0; rw [t_sales0] at h; exact h)) ?_
 refine Zt 5 [] hn rfl ?_
 refine Zv (Zu ?_)
 refine Zk hn rfl (kL) ?_
 refine Zk hn rfl ((by have h:=Bounds4_ok threeD yq (by decide) (by decide); rw [t_bounds] at h; exact h)) ?_
 refine Zt 5 [] hn rfl ?_
 refine Zv (Zu ?_)
 refine Zk hn rfl (kL) ?_
 refine Zk hn rfl ((by have h:=zAh threeD yq (by decide) (by decide); rw [t_verds] at h; exact h)) ?_
 refine Zt 5 [] hn rfl ?_
 refine Zv (Zu ?_)
 refine Zk hn rfl (kL) ?_
 refine Zk hn rfl (zFx) ?_
 refine Zk hn rfl ((by have h:=zB4 threeD yq (by decide) (by decide) toldT; rw [zHS] at h; exact h)) ?_
 refine Zt 5 [] hn rfl ?_
 refine Zv (Zu ?_)
 refine Zk hn rfl (kL) ?_
 refine Zk hn rfl (zFx) ?_
 refine Zk hn rfl ((by have h:=Has4_ok threeD yq (by decide) (by decide) toldT; rw [t_has] at h; exact h)) ?_
 refine Zt 7 [] hn rfl ?_
 refine Zv (Zu ?_)
 refine Zk hn rfl (kL) ?_
 refine stepW (s_callE (Show4_eff threeD yq (by decide) (by decide) 0 true) rfl rfl rfl (nb hn rfl) (.d rfl) rfl (.refl _) trivial (fun _=>rfl) (fun _ _=>trivial)) fun ⟨xx,hxx⟩=>?_
 obtain ⟨tt,rfl,hpt⟩:=t_show hxx
 refine Zt 3 [] hn rfl ?_
 refine Zb 12 hn rfl fun b12=>?_
 refine Zt 2 [12] hn rfl ?_
 refine Zv (zC ?_)
 refine ze (W:=fun b=>b ≠ b12) fmo ?_
 refine d1q (i:=0) rfl (by as_aux_lemma=>kernel_rfl) (fun _ _ _ _ h=>h) rfl rfl hn rfl (zt rfl rfl) ?_
 refine d1q (i:=1) rfl (by as_aux_lemma=>kernel_rfl) (fun _ _ _ _ h=>h) rfl rfl hn rfl (yU (tv':=.d (.bool true)) (zBJ rfl rfl rfl) rfl) ?_
 refine d1q (i:=2) rfl (by as_aux_lemma=>kernel_rfl) (fun _ _ _ _ h=>h) rfl rfl hn rfl (zt rfl rfl) ?_
 refine d1g (i:=3) [] rfl (by as_aux_lemma=>kernel_rfl) (fun _ _ _ _ h=>h) (zO rfl rfl rfl) rfl hn rfl (fun hc=>trivial) (fun hc=>zt rfl rfl) ?_
 refine zB ?_
 refine kB (i:=4) (by as_aux_lemma=>kernel_rfl) rfl (zEo (zO rfl rfl rfl) rfl (nb hn rfl) (zL rfl rfl rfl (nb hn rfl) underlying29 sz3 zr3 rfl rfl rfl (show _ = [.d (.int .i64 0),.d (.int .i64 0)] from by kernel_rfl) (by kernel_rfl) rfl rfl rfl rfl rfl)) fun _=>?_
 refine d2_of_d1 (zB ?_)
 refine kB (i:=5) (by as_aux_lemma=>kernel_rfl) rfl (s_call [(50,_),(51,_)] (fun hc=>zDB [0,1] [0,1]) rfl (zO rfl rfl rfl) rfl (nb hn rfl) (fun hc=>⟨⟨_,rfl,hc⟩,⟨_,rfl,hc⟩,trivial⟩) rfl rfl (.refl _)) fun _=>?_
 refine d2_of_d1 ?_
 refine d1q (i:=6) rfl (by as_aux_lemma=>kernel_rfl) (fun _ _ _ _ h=>h) rfl rfl hn rfl (yU (tv':=.d (.bool true)) (kA rfl rfl rfl (by intro hB; first | (rw [hB]; rfl) | (rw [hB,hc]; rfl) | simp_all)) rfl) ?_
 refine d1q (i:=7) rfl (by as_aux_lemma=>kernel_rfl) (fun _ _ _ _ h=>h) rfl rfl hn rfl (zt rfl rfl) ?_
 refine d1g (i:=8) [] rfl (by as_aux_lemma=>kernel_rfl) (fun _ _ _ _ h=>h) (zO rfl rfl rfl) rfl hn rfl (fun hc=>trivial) (fun hc=>zt rfl rfl) ?_
 refine d1g (i:=9) [(55,_)] rfl (by as_aux_lemma=>kernel_rfl) (fun _ _ _ _ h=>h) (zO rfl rfl rfl) rfl hn rfl (fun hc=>⟨⟨_,rfl,hc⟩,trivial⟩) (fun hc=>yU (tv':=.d (.bool true)) (zBJ rfl rfl rfl) rfl) ?_
 refine d1q (i:=10) rfl (by as_aux_lemma=>kernel_rfl) (fun _ _ _ _ h=>h) rfl rfl hn rfl (yU (tv':=.d (.bool true)) (kA rfl rfl rfl (by intro hB; first | (rw [hB]; rfl) | (rw [hB,hc]; rfl) | simp_all)) rfl) ?_
 refine d1q (i:=11) rfl (by as_aux_lemma=>kernel_rfl) (fun _ _ _ _ h=>h) rfl rfl hn rfl (zt rfl rfl) ?_
 refine d1g (i:=12) [] rfl (by as_aux_lemma=>kernel_rfl) (fun _ _ _ _ h=>h) (zO rfl rfl rfl) rfl hn rfl (fun hc=>trivial) (fun hc=>zt rfl rfl) ?_
 refine d1g (i:=13) [(59,_)] rfl (by as_aux_lemma=>kernel_rfl) (fun _ _ _ _ h=>h) (zO rfl rfl rfl) rfl hn rfl (fun hc=>⟨⟨_,rfl,hc⟩,trivial⟩) (fun hc=>zHW rfl rfl underlying46) ?_
 refine d1g (i:=14) [(60,_)] rfl (by as_aux_lemma=>kernel_rfl) (fun _ _ _ _ h=>h) (zO rfl rfl rfl) rfl hn rfl (fun hc=>⟨⟨_,rfl,hc⟩,trivial⟩) (fun hc=>yU (tv':=.d (.bool true)) (zBJ rfl rfl rfl) rfl) ?_
 refine d1q (i:=15) rfl (by as_aux_lemma=>kernel_rfl) (fun _ _ _ _ h=>h) rfl rfl hn rfl (yU (tv':=.d (.bool true)) (kA rfl rfl rfl (by intro hB; first | (rw [hB]; rfl) | (rw [hB,hc]; rfl) | simp_all)) rfl) ?_
 refine d1q (i:=16) rfl (by as_aux_lemma=>kernel_rfl) (fun _ _ _ _ h=>h) rfl rfl hn rfl (zt rfl rfl) ?_
 refine d1g (i:=17) [] rfl (by as_aux_lemma=>kernel_rfl) (fun _ _ _ _ h=>h) (zO rfl rfl rfl) rfl hn rfl (fun hc=>trivial) (fun hc=>zt rfl rfl) ?_
 refine d1g (i:=18) [(64,_)] rfl (by as_aux_lemma=>kernel_rfl) (fun _ _ _ _ h=>h) (zO rfl rfl rfl) rfl hn rfl (fun hc=>⟨⟨_,rfl,hc⟩,trivial⟩) (fun hc=>q_index (i:=0) rfl rfl rfl underlying46 sz66 rfl rfl) ?_
 refine d1g (i:=19) [(65,_)] rfl (by as_aux_lemma=>kernel_rfl) (fun _ _ _ _ h=>h) (zO rfl rfl rfl) rfl hn rfl (fun hc=>⟨⟨_,rfl,hc⟩,trivial⟩) (fun hc=>yS rfl rfl underlying66 rfl sz66 rfl rfl seesFA) ?_
 refine zB ?_
 refine kB (i:=20) (by as_aux_lemma=>kernel_rfl) rfl (s_call [] (fun hc=>y8 _ _) rfl (zO rfl rfl rfl) rfl (nb hn rfl) (fun hc=>trivial) rfl rfl (.refl _)) fun _=>?_
 refine d2_of_d1 ?_
 refine d1g (i:=21) [(66,_),(67,_)] rfl (by as_aux_lemma=>kernel_rfl) (fun _ _ _ _ h=>h) (zO rfl rfl rfl) rfl hn rfl (fun hc=>⟨⟨_,rfl,hc⟩,⟨_,rfl,hc⟩,trivial⟩) (fun hc=>yU (tv':=.d (.bool true)) (zE3 rfl rfl rfl) rfl) ?_
 refine d1q (i:=22) rfl (by as_aux_lemma=>kernel_rfl) (fun _ _ _ _ h=>h) rfl rfl hn rfl (yU (tv':=.d (.bool true)) (kA rfl rfl rfl (by intro hB; first | (rw [hB]; rfl) | (rw [hB,hc]; rfl) | simp_all)) rfl) ?_
 refine d1q (i:=23) rfl (by as_aux_lemma=>kernel_rfl) (fun _ _ _ _ h=>h) rfl rfl hn rfl (zt rfl rfl) ?_
 refine d1g (i:=24) [] rfl (by as_aux_lemma=>kernel_rfl) (fun _ _ _ _ h=>h) (zO rfl rfl rfl) rfl hn rfl (fun hc=>trivial) (fun hc=>zt rfl rfl) ?_
 refine d1g (i:=25) [(71,_)] rfl (by as_aux_lemma=>kernel_rfl) (fun _ _ _ _ h=>h) (zO rfl rfl rfl) rfl hn rfl (fun hc=>⟨⟨_,rfl,hc⟩,trivial⟩) (fun hc=>q_index (i:=1) rfl rfl rfl underlying46 sz66 rfl rfl) ?_
 refine d1g (i:=26) [(72,_)] rfl (by as_aux_lemma=>kernel_rfl) (fun _ _ _ _ h=>h) (zO rfl rfl rfl) rfl hn rfl (fun hc=>⟨⟨_,rfl,hc⟩,trivial⟩) (fun hc=>yS rfl rfl underlying66 rfl sz66 rfl rfl seesFA) ?_
 refine zB ?_
 refine kB (i:=27) (by as_aux_lemma=>kernel_rfl) rfl (s_call [] (fun hc=>y8 _ _) rfl (zO rfl rfl rfl) rfl (nb hn rfl) (fun hc=>trivial) rfl rfl (.refl _)) fun _=>?_
 refine d2_of_d1 ?_
 refine d1g (i:=28) [(73,_),(74,_)] rfl (by as_aux_lemma=>kernel_rfl) (fun _ _ _ _ h=>h) (zO rfl rfl rfl) rfl hn rfl (fun hc=>⟨⟨_,rfl,hc⟩,⟨_,rfl,hc⟩,trivial⟩) (fun hc=>yU (tv':=.d (.bool true)) (zE3 rfl rfl rfl) rfl) ?_
 refine d1q (i:=29) rfl (by as_aux_lemma=>kernel_rfl) (fun _ _ _ _ h=>h) rfl rfl hn rfl (yU (tv':=.d (.bool true)) (kA rfl rfl rfl (by intro hB; first | (rw [hB]; rfl) | (rw [hB,hc]; rfl) | simp_all)) rfl) ?_
 refine d1q (i:=30) rfl (by as_aux_lemma=>kernel_rfl) (fun _ _ _ _ h=>h) rfl rfl hn rfl (zt rfl rfl) ?_
 refine d1g (i:=31) [] rfl (by as_aux_lemma=>kernel_rfl) (fun _ _ _ _ h=>h) (zO rfl rfl rfl) rfl hn rfl (fun hc=>trivial) (fun hc=>zt rfl rfl) ?_
 refine d1g (i:=32) [(78,_)] rfl (by as_aux_lemma=>kernel_rfl) (fun _ _ _ _ h=>h) (zO rfl rfl rfl) rfl hn rfl (fun hc=>⟨⟨_,rfl,hc⟩,trivial⟩) (fun hc=>q_index (i:=2) rfl rfl rfl underlying46 sz66 rfl rfl) ?_
 refine d1g (i:=33) [(79,_)] rfl (by as_aux_lemma=>kernel_rfl) (fun _ _ _ _ h=>h) (zO rfl rfl rfl) rfl hn rfl (fun hc=>⟨⟨_,rfl,hc⟩,trivial⟩) (fun hc=>yS rfl rfl underlying66 rfl sz66 rfl rfl seesFA) ?_
 refine zB ?_
 refine kB (i:=34) (by as_aux_lemma=>kernel_rfl) rfl (s_call [] (fun hc=>y8 _ _) rfl (zO rfl rfl rfl) rfl (nb hn rfl) (fun hc=>trivial) rfl rfl (.refl _)) fun _=>?_
 refine d2_of_d1 ?_
 refine d1g (i:=35) [(80,_),(81,_)] rfl (by as_aux_lemma=>kernel_rfl) (fun _ _ _ _ h=>h) (zO rfl rfl rfl) rfl hn rfl (fun hc=>⟨⟨_,rfl,hc⟩,⟨_,rfl,hc⟩,trivial⟩) (fun hc=>yU (tv':=.d (.bool true)) (zE3 rfl rfl rfl) rfl) ?_
 refine d1q (i:=36) rfl (by as_aux_lemma=>kernel_rfl) (fun _ _ _ _ h=>h) rfl rfl hn rfl (yU (tv':=.d (.bool true)) (kA rfl rfl rfl (by intro hB; first | (rw [hB]; rfl) | (rw [hB,hc]; rfl) | simp_all)) rfl) ?_
 refine d1q (i:=37) rfl (by as_aux_lemma=>kernel_rfl) (fun _ _ _ _ h=>h) rfl rfl hn rfl (zt rfl rfl) ?_
 refine d1g (i:=38) [] rfl (by as_aux_lemma=>kernel_rfl) (fun _ _ _ _ h=>h) (zO rfl rfl rfl) rfl hn rfl (fun hc=>trivial) (fun hc=>zt rfl rfl) ?_
 refine d1g (i:=39) [(85,_)] rfl (by as_aux_lemma=>kernel_rfl) (fun _ _ _ _ h=>h) (zO rfl rfl rfl) rfl hn rfl (fun hc=>⟨⟨_,rfl,hc⟩,trivial⟩) (fun hc=>yU (tv':=.d (.bool true)) (zBJ rfl rfl rfl) rfl) ?_
 refine d1q (i:=40) rfl (by as_aux_lemma=>kernel_rfl) (fun _ _ _ _ h=>h) rfl rfl hn rfl (yU (tv':=.d (.bool true)) (kA rfl rfl rfl (by intro hB; first | (rw [hB]; rfl) | (rw [hB,hc]; rfl) | simp_all)) rfl) ?_
 refine d1q (i:=41) rfl (by as_aux_lemma=>kernel_rfl) (fun _ _ _ _ h=>h) rfl rfl hn rfl (zt rfl rfl) ?_
 refine d1g (i:=42) [] rfl (by as_aux_lemma=>kernel_rfl) (fun _ _ _ _ h=>h) (zO rfl rfl rfl) rfl hn rfl (fun hc=>trivial) (fun hc=>zt rfl rfl) ?_
 refine zB ?_
 refine kB (i:=43) (by as_aux_lemma=>kernel_rfl) rfl (zEo (zO rfl rfl rfl) rfl (nb hn rfl) (zL rfl rfl rfl (nb hn rfl) underlying29 sz3 zr3 rfl rfl rfl (show _ = [.d (.int .i64 0),.d (.int .i64 0),.d (.int .i64 0)] from by kernel_rfl) (by kernel_rfl) rfl rfl rfl rfl rfl)) fun _=>?_
 refine d2_of_d1 (zB ?_)
 refine kB (i:=44) (by as_aux_lemma=>kernel_rfl) rfl (s_call [(89,_),(90,_)] (fun hc=>zDB [3,3,3] [3,3,3]) rfl (zO rfl rfl rfl) rfl (nb hn rfl) (fun hc=>⟨⟨_,rfl,hc⟩,⟨_,rfl,hc⟩,trivial⟩) rfl rfl (.refl _)) fun _=>?_
 refine d2_of_d1 ?_
 refine d1q (i:=45) rfl (by as_aux_lemma=>kernel_rfl) (fun _ _ _ _ h=>h) rfl rfl hn rfl (yU (tv':=.d (.bool true)) (kA rfl rfl rfl (by intro hB; first | (rw [hB]; rfl) | (rw [hB,hc]; rfl) | simp_all)) rfl) ?_
 refine d1q (i:=46) rfl (by as_aux_lemma=>kernel_rfl) (fun _ _ _ _ h=>h) rfl rfl hn rfl (zt rfl rfl) ?_
 refine d1g (i:=47) [] rfl (by as_aux_lemma=>kernel_rfl) (fun _ _ _ _ h=>h) (zO rfl rfl rfl) rfl hn rfl (fun hc=>trivial) (fun hc=>zt rfl rfl) ?_
 refine d1g (i:=48) [(94,_)] rfl (by as_aux_lemma=>kernel_rfl) (fun _ _ _ _ h=>h) (zO rfl rfl rfl) rfl hn rfl (fun hc=>⟨⟨_,rfl,hc⟩,trivial⟩) (fun hc=>yU (tv':=.d (.bool true)) (zBJ rfl rfl rfl) rfl) ?_
 refine d1q (i:=49) rfl (by as_aux_lemma=>kernel_rfl) (fun _ _ _ _ h=>h) rfl rfl hn rfl (yU (tv':=.d (.bool true)) (kA rfl rfl rfl (by intro hB; first | (rw [hB]; rfl) | (rw [hB,hc]; rfl) | simp_all)) rfl) ?_
 refine d1q (i:=50) rfl (by as_aux_lemma=>kernel_rfl) (fun _ _ _ _ h=>h) rfl rfl hn rfl (zt rfl rfl) ?_
 refine d1g (i:=51) [] rfl (by as_aux_lemma=>kernel_rfl) (fun _ _ _ _ h=>h) (zO rfl rfl rfl) rfl hn rfl (fun hc=>trivial) (fun hc=>zt rfl rfl) ?_
 refine d1g (i:=52) [(98,_)] rfl (by as_aux_lemma=>kernel_rfl) (fun _ _ _ _ h=>h) (zO rfl rfl rfl) rfl hn rfl (fun hc=>⟨⟨_,rfl,hc⟩,trivial⟩) (fun hc=>zHW rfl rfl underlying53) ?_
 refine d1g (i:=53) [(99,_)] rfl (by as_aux_lemma=>kernel_rfl) (fun _ _ _ _ h=>h) (zO rfl rfl rfl) rfl hn rfl (fun hc=>⟨⟨_,rfl,hc⟩,trivial⟩) (fun hc=>yU (tv':=.d (.bool true)) (zBJ rfl rfl rfl) rfl) ?_
 refine d1q (i:=54) rfl (by as_aux_lemma=>kernel_rfl) (fun _ _ _ _ h=>h) rfl rfl hn rfl (yU (tv':=.d (.bool true)) (kA rfl rfl rfl (by intro hB; first | (rw [hB]; rfl) | (rw [hB,hc]; rfl) | simp_all)) rfl) ?_
 refine d1q (i:=55) rfl (by as_aux_lemma=>kernel_rfl) (fun _ _ _ _ h=>h) rfl rfl hn rfl (zt rfl rfl) ?_
 refine d1g (i:=56) [] rfl (by as_aux_lemma=>kernel_rfl) (fun _ _ _ _ h=>h) (zO rfl rfl rfl) rfl hn rfl (fun hc=>trivial) (fun hc=>zt rfl rfl) ?_
 refine d1g (i:=57) [(103,_)] rfl (by as_aux_lemma=>kernel_rfl) (fun _ _ _ _ h=>h) (zO rfl rfl rfl) rfl hn rfl (fun hc=>⟨⟨_,rfl,hc⟩,trivial⟩) (fun hc=>q_index (i:=0) rfl rfl rfl underlying53 sz68 rfl rfl) ?_
 refine d1g (i:=58) [(104,_)] rfl (by as_aux_lemma=>kernel_rfl) (fun _ _ _ _ h=>h) (zO rfl rfl rfl) rfl hn rfl (fun hc=>⟨⟨_,rfl,hc⟩,trivial⟩) (fun hc=>yS rfl rfl underlying68 rfl sz68 rfl rfl seesFA) ?_
 refine d1g (i:=59) [] rfl (by as_aux_lemma=>kernel_rfl) (fun _ _ _ _ h=>h) (zO rfl rfl rfl) rfl hn rfl (fun hc=>trivial) (fun hc=>yn rfl bt68 rfl rfl rfl rfl rfl) ?_
 refine d1g (i:=60) [(105,_),(106,_)] rfl (by as_aux_lemma=>kernel_rfl) (fun _ _ _ _ h=>h) (zO rfl rfl rfl) rfl hn rfl (fun hc=>⟨⟨_,rfl,hc⟩,⟨_,rfl,hc⟩,trivial⟩) (fun hc=>yU (tv':=.d (.bool true)) (zER rfl rfl rfl) rfl) ?_
 refine d1q (i:=61) rfl (by as_aux_lemma=>kernel_rfl) (fun _ _ _ _ h=>h) rfl rfl hn rfl (yU (tv':=.d (.bool true)) (kA rfl rfl rfl (by intro hB; first | (rw [hB]; rfl) | (rw [hB,hc]; rfl) | simp_all)) rfl) ?_
 refine d1q (i:=62) rfl (by as_aux_lemma=>kernel_rfl) (fun _ _ _ _ h=>h) rfl rfl hn rfl (zt rfl rfl) ?_
 refine d1g (i:=63) [] rfl (by as_aux_lemma=>kernel_rfl) (fun _ _ _ _ h=>h) (zO rfl rfl rfl) rfl hn rfl (fun hc=>trivial) (fun hc=>zt rfl rfl) ?_
 refine d1g (i:=64) [(110,_)] rfl (by as_aux_lemma=>kernel_rfl) (fun _ _ _ _ h=>h) (zO rfl rfl rfl) rfl hn rfl (fun hc=>⟨⟨_,rfl,hc⟩,trivial⟩) (fun hc=>q_index (i:=1) rfl rfl rfl underlying53 sz68 rfl rfl) ?_
 refine d1g (i:=65) [(111,_)] rfl (by as_aux_lemma=>kernel_rfl) (fun _ _ _ _ h=>h) (zO rfl rfl rfl) rfl hn rfl (fun hc=>⟨⟨_,rfl,hc⟩,trivial⟩) (fun hc=>yS rfl rfl underlying68 rfl sz68 rfl rfl seesFA) ?_
 refine d1g (i:=66) [] rfl (by as_aux_lemma=>kernel_rfl) (fun _ _ _ _ h=>h) (zO rfl rfl rfl) rfl hn rfl (fun hc=>trivial) (fun hc=>yn rfl bt68 rfl rfl rfl rfl rfl) ?_
 refine d1g (i:=67) [(112,_),(113,_)] rfl (by as_aux_lemma=>kernel_rfl) (fun _ _ _ _ h=>h) (zO rfl rfl rfl) rfl hn rfl (fun hc=>⟨⟨_,rfl,hc⟩,⟨_,rfl,hc⟩,trivial⟩) (fun hc=>yU (tv':=.d (.bool true)) (zER rfl rfl rfl) rfl) ?_
 refine d1q (i:=68) rfl (by as_aux_lemma=>kernel_rfl) (fun _ _ _ _ h=>h) rfl rfl hn rfl (yU (tv':=.d (.bool true)) (kA rfl rfl rfl (by intro hB; first | (rw [hB]; rfl) | (rw [hB,hc]; rfl) | simp_all)) rfl) ?_
 refine d1q (i:=69) rfl (by as_aux_lemma=>kernel_rfl) (fun _ _ _ _ h=>h) rfl rfl hn rfl (zt rfl rfl) ?_
 refine d1g (i:=70) [] rfl (by as_aux_lemma=>kernel_rfl) (fun _ _ _ _ h=>h) (zO rfl rfl rfl) rfl hn rfl (fun hc=>trivial) (fun hc=>zt rfl rfl) ?_
 refine d1g (i:=71) [(117,_)] rfl (by as_aux_lemma=>kernel_rfl) (fun _ _ _ _ h=>h) (zO rfl rfl rfl) rfl hn rfl (fun hc=>⟨⟨_,rfl,hc⟩,trivial⟩) (fun hc=>q_index (i:=2) rfl rfl rfl underlying53 sz68 rfl rfl) ?_
 refine d1g (i:=72) [(118,_)] rfl (by as_aux_lemma=>kernel_rfl) (fun _ _ _ _ h=>h) (zO rfl rfl rfl) rfl hn rfl (fun hc=>⟨⟨_,rfl,hc⟩,trivial⟩) (fun hc=>yS rfl rfl underlying68 rfl sz68 rfl rfl seesFA) ?_
 refine d1g (i:=73) [] rfl (by as_aux_lemma=>kernel_rfl) (fun _ _ _ _ h=>h) (zO rfl rfl rfl) rfl hn rfl (fun hc=>trivial) (fun hc=>yn rfl bt68 rfl rfl rfl rfl rfl) ?_
 refine d1g (i:=74) [(119,_),(120,_)] rfl (by as_aux_lemma=>kernel_rfl) (fun _ _ _ _ h=>h) (zO rfl rfl rfl) rfl hn rfl (fun hc=>⟨⟨_,rfl,hc⟩,⟨_,rfl,hc⟩,trivial⟩) (fun hc=>yU (tv':=.d (.bool true)) (zER rfl rfl rfl) rfl) ?_
 refine d1q (i:=75) rfl (by as_aux_lemma=>kernel_rfl) (fun _ _ _ _ h=>h) rfl rfl hn rfl (yU (tv':=.d (.bool true)) (kA rfl rfl rfl (by intro hB; first | (rw [hB]; rfl) | (rw [hB,hc]; rfl) | simp_all)) rfl) ?_
 refine d1q (i:=76) rfl (by as_aux_lemma=>kernel_rfl) (fun _ _ _ _ h=>h) rfl rfl hn rfl (zt rfl rfl) ?_
 refine d1g (i:=77) [] rfl (by as_aux_lemma=>kernel_rfl) (fun _ _ _ _ h=>h) (zO rfl rfl rfl) rfl hn rfl (fun hc=>trivial) (fun hc=>zt rfl rfl) ?_
 refine d1g (i:=78) [(124,_)] rfl (by as_aux_lemma=>kernel_rfl) (fun _ _ _ _ h=>h) (zO rfl rfl rfl) rfl hn rfl (fun hc=>⟨⟨_,rfl,hc⟩,trivial⟩) (fun hc=>yU (tv':=.d (.bool true)) (zBJ rfl rfl rfl) rfl) ?_
 refine d1q (i:=79) rfl (by as_aux_lemma=>kernel_rfl) (fun _ _ _ _ h=>h) rfl rfl hn rfl (yU (tv':=.d (.bool true)) (kA rfl rfl rfl (by intro hB; first | (rw [hB]; rfl) | (rw [hB,hc]; rfl) | simp_all)) rfl) ?_
 refine d1q (i:=80) rfl (by as_aux_lemma=>kernel_rfl) (fun _ _ _ _ h=>h) rfl rfl hn rfl (zt rfl rfl) ?_
 refine d1g (i:=81) [] rfl (by as_aux_lemma=>kernel_rfl) (fun _ _ _ _ h=>h) (zO rfl rfl rfl) rfl hn rfl (fun hc=>trivial) (fun hc=>zt rfl rfl) ?_
 refine zB ?_
 refine kB (i:=82) (by as_aux_lemma=>kernel_rfl) rfl (zEo (zO rfl rfl rfl) rfl (nb hn rfl) (zL rfl rfl rfl (nb hn rfl) underlying29 sz3 zr3 rfl rfl rfl (show _ = [.d (.int .i64 0),.d (.int .i64 0)] from by kernel_rfl) (by kernel_rfl) rfl rfl rfl rfl rfl)) fun _=>?_
 refine d2_of_d1 (zB ?_)
 refine kB (i:=83) (by as_aux_lemma=>kernel_rfl) rfl (s_call [(128,_),(129,_)] (fun hc=>zDB [10,0] [10,0]) rfl (zO rfl rfl rfl) rfl (nb hn rfl) (fun hc=>⟨⟨_,rfl,hc⟩,⟨_,rfl,hc⟩,trivial⟩) rfl rfl (.refl _)) fun _=>?_
 refine d2_of_d1 ?_
 refine d1q (i:=84) rfl (by as_aux_lemma=>kernel_rfl) (fun _ _ _ _ h=>h) rfl rfl hn rfl (yU (tv':=.d (.bool true)) (kA rfl rfl rfl (by intro hB; first | (rw [hB]; rfl) | (rw [hB,hc]; rfl) | simp_all)) rfl) ?_
 refine d1q (i:=85) rfl (by as_aux_lemma=>kernel_rfl) (fun _ _ _ _ h=>h) rfl rfl hn rfl (zt rfl rfl) ?_
 refine d1g (i:=86) [] rfl (by as_aux_lemma=>kernel_rfl) (fun _ _ _ _ h=>h) (zO rfl rfl rfl) rfl hn rfl (fun hc=>trivial) (fun hc=>zt rfl rfl) ?_
 refine d1g (i:=87) [(133,_)] rfl (by as_aux_lemma=>kernel_rfl) (fun _ _ _ _ h=>h) (zO rfl rfl rfl) rfl hn rfl (fun hc=>⟨⟨_,rfl,hc⟩,trivial⟩) (fun hc=>yU (tv':=.d (.bool true)) (zBJ rfl rfl rfl) rfl) ?_
 refine d1q (i:=88) rfl (by as_aux_lemma=>kernel_rfl) (fun _ _ _ _ h=>h) rfl rfl hn rfl (yU (tv':=.d (.bool true)) (kA rfl rfl rfl (by intro hB; first | (rw [hB]; rfl) | (rw [hB,hc]; rfl) | simp_all)) rfl) ?_
 refine d1q (i:=89) rfl (by as_aux_lemma=>kernel_rfl) (fun _ _ _ _ h=>h) rfl rfl hn rfl (zt rfl rfl) ?_
 refine d1g (i:=90) [] rfl (by as_aux_lemma=>kernel_rfl) (fun _ _ _ _ h=>h) (zO rfl rfl rfl) rfl hn rfl (fun hc=>trivial) (fun hc=>zt rfl rfl) ?_
 refine d1g (i:=91) [(137,_)] rfl (by as_aux_lemma=>kernel_rfl) (fun _ _ _ _ h=>h) (zO rfl rfl rfl) rfl hn rfl (fun hc=>⟨⟨_,rfl,hc⟩,trivial⟩) (fun hc=>yU (tv':=.d (.bool true)) (zBJ rfl rfl rfl) rfl) ?_
 refine d1q (i:=92) rfl (by as_aux_lemma=>kernel_rfl) (fun _ _ _ _ h=>h) rfl rfl hn rfl (yU (tv':=.d (.bool true)) (kA rfl rfl rfl (by intro hB; first | (rw [hB]; rfl) | (rw [hB,hc]; rfl) | simp_all)) rfl) ?_
 refine d1q (i:=93) rfl (by as_aux_lemma=>kernel_rfl) (fun _ _ _ _ h=>h) rfl rfl hn rfl (zt rfl rfl) ?_
 refine d1g (i:=95) [] rfl (by as_aux_lemma=>kernel_rfl) (fun _ _ _ _ h=>h) (zO rfl rfl rfl) rfl hn rfl (fun hc=>trivial) (fun hc=>zn rfl rfl (id:=12) rfl underlying56 rfl sz56 rfl rfl (seesA (by simp))) ?_
 refine zB ?_
 refine kB (i:=94) (by as_aux_lemma=>kernel_rfl) rfl (s_call [] (fun hc=>kL) rfl (zO rfl rfl rfl) rfl (nb hn rfl) (fun hc=>trivial) rfl rfl (.refl _)) fun _=>?_
 refine d2_of_d1 (zB ?_)
 refine kB (i:=96) (by as_aux_lemma=>kernel_rfl) rfl (s_call [(141,_),(142,_)] (fun hc=>(by have h:=Prove4_ok threeD yq (by decide) (by decide) tt; rw [hpt] at h; exact h)) rfl (zO rfl rfl rfl) rfl (nb hn rfl) (fun hc=>⟨⟨_,rfl,hc⟩,⟨_,rfl,hc⟩,trivial⟩) rfl rfl (.refl _)) fun _=>?_
 refine d2_of_d1 ?_
 refine d1q (i:=97) rfl (by as_aux_lemma=>kernel_rfl) (fun _ _ _ _ h=>h) rfl rfl hn rfl (yU (tv':=.d (.bool true)) (kA rfl rfl rfl (by intro hB; first | (rw [hB]; rfl) | (rw [hB,hc]; rfl) | simp_all)) rfl) ?_
 refine d1q (i:=98) rfl (by as_aux_lemma=>kernel_rfl) (fun _ _ _ _ h=>h) rfl rfl hn rfl (zBs rfl rfl) ?_
 refine zB ?_
 refine zb (by as_aux_lemma=>kernel_rfl) ?_
 refine zA (zJ ?_)
 exact ret_E (.inl rfl) () ((zr rfl (.tmp rfl)).eq (by rfl)) trivial
theorem zBX:PureAt Tryz.prog 45 [] (.bool true):=PureAt.of_eff (ds:=[]) awake4_eff
end Go.Proofs.YticlpkgpmmhemaaGreatDoor
namespace Go.Proofs.YticlpkgpmmhemaaGreatDoor
open Go.RowKit
set_option linter.all false
set_option maxHeartbeats 4000000
def salP (s:Sal):Prt:=⟨s.stock,s.number,s.number,s.price,true,s.minute,0,0⟩
def lastMin:List Sal → Int → Int
  | [],bm=>bm
  | s :: r,_=>lastMin r s.minute
theorem zDt {b:Brd} {s:Sal}:∀ {l:List Sal} {bm:Int},okAll b (l ++ [s]) bm = (okAll b l bm && okSal b s (lastMin l bm))
  | [],bm=>by simp [okAll,lastMin]
  | x :: l,bm=>by show (okSal b x bm && okAll b (l ++ [s]) x.minute) = _; rw [zDt]; simp only [okAll,lastMin,Bool.and_assoc]
theorem zCq {s:Sal}:∀ {l:List Sal} {bm:Int},lastMin (l ++ [s]) bm = s.minute
  | [],_=>rfl
  | x :: l,bm=>zCq (l:=l)
theorem zCT {l r:List Prt} {st:Int}:∀ {i:Nat},i ≤ l.length → aheadGo (l ++ r) st i = aheadGo l st i
  | 0,_=>rfl
  | i + 1,h=>by
    unfold aheadGo
    rw [zCT (by omega),List.getD_eq_getElem?_getD,List.getElem?_append_left (by omega),← List.getD_eq_getElem?_getD]
theorem zCp {l l':List Prt} {st:Int}:∀ {i:Nat},(∀ j,j < i → (l.getD j prt0).stock = (l'.getD j prt0).stock) → aheadGo l st i = aheadGo l' st i
  | 0,_=>rfl
  | i + 1,h=>by unfold aheadGo; rw [h i (by omega),zCp fun j hj=>h j (by omega)]
theorem steps_stock {b:Brd} {l l':List Prt} {j:Nat} {f:Nat → Int} (h:∀ k,k ≤ j → (l.getD k prt0).stock = (l'.getD k prt0).stock):stepsF b l j f = stepsF b l' j f:=by
  unfold stepsF aheadI
  rw [h j (Nat.le_refl _),zCp fun k hk=>h k (by omega)]
theorem zCC {α:Type} {l r:List α} {d:α} {j:Nat} (h:j < l.length):(l ++ r).getD j d = l.getD j d:=by
  rw [List.getD_eq_getElem?_getD,List.getElem?_append_left h,← List.getD_eq_getElem?_getD]
theorem zC6 {α:Type} {l:List α} {x d:α}:(l ++ [x]).getD l.length d = x:=by simp
/-- Prices keep the Jump. -/
def JumpOK (b:Brd) (l:List Sal):Prop:=∀ j,j < l.length → stepsF b (l.map salP) j (fun k=>(l.getD k sal0).price) = true
structure SoldI (b:Brd) (x:SoS):Prop where
  ok:okAll b x.out 0 = true
  last:lastMin x.out 0 = (x.minute:Nat)
  jump:JumpOK b x.out
  now:∀ k:Nat,k < b.stocks.length → (aheadGo (x.out.map salP) (k:Int) x.out.length < 0 ∧ (b.stocks.getD k stk0).lo ≤ x.now.getD k 0 ∧ x.now.getD k 0 ≤ (b.stocks.getD k stk0).hi) ∨ ∃ a:Nat,aheadGo (x.out.map salP) (k:Int) x.out.length = (a:Nat) ∧ x.now.getD k 0 = (x.out.getD a sal0).price
theorem zFb {b:Brd} {ws:List Int} (v:BrdOK b) (hw:WdsOK ws):∀ i,SoldI b (soldN b ws i)
  | 0=>by
    refine ⟨rfl,rfl,fun j hj=>by simp [soldN] at hj,fun k hk=>.inl ⟨?_,?_⟩⟩
    · show aheadGo [] (k:Int) 0 < 0; unfold aheadGo; omega
    · have:=zGT (ws:=ws) v hk
      have e:(soldN b ws 0).now.getD k 0 = st0 b ws k:=by
        show (now0 b ws b.stocks.length).getD k 0 = _
        unfold now0
        rw [Nat.sub_self]
        simp only [List.replicate_zero,List.append_nil]
        exact zQ (by rw [List.getElem?_map,List.getElem?_range hk]; rfl)
      rw [e]; exact ⟨this.1,this.2.1⟩
  | i + 1=>by
    have ih:=zFb v hw i
    have ho:=zCr (ws:=ws) v i
    have hkl:=zHr (ws:=ws) v i
    have hj0:=v.j0
    have hj4:=v.j4
    obtain ⟨pn,hpn⟩:=zT (show soK b ws i < (soldN b ws i).now.length by rw [ho.n]; exact hkl)
    have hpb:=ho.p pn (List.mem_of_getElem? hpn)
    have hmm:=ho.m
    have hpd:(soldN b ws i).now.getD (soK b ws i) 0 = pn:=zQ hpn
    have hpe:soP b ws i (soldN b ws i).now = max 1 (min 799 (pn + (wrd ws (2 * i + 7):Int).tmod (2 * b.jump + 1) - b.jump)):=by unfold soP; rw [hpd]
    have htm:0 ≤ (wrd ws (2 * i + 7):Int).tmod (2 * b.jump + 1) ∧ (wrd ws (2 * i + 7):Int).tmod (2 * b.jump + 1) ≤ 2 * b.jump:=by
      rw [Int.tmod_eq_emod_of_nonneg (by omega)]
      have h1:=Int.emod_nonneg ((wrd ws (2 * i + 7):Nat):Int) (show 2 * b.jump + 1 ≠ 0 by omega)
      have h2:=Int.emod_lt_of_pos ((wrd ws (2 * i + 7):Nat):Int) (show 0 < 2 * b.jump + 1 by omega)
      omega
    generalize hK:soK b ws i = K at *
    generalize hP:soP b ws i (soldN b ws i).now = P at *
    have hP1:1 ≤ P ∧ P ≤ 799 ∧ P - pn ≤ b.jump ∧ pn - P ≤ b.jump:=by rw [hpe]; omega
    have hN:soN ws i = 1 ∨ ∃ n:Nat,soN ws i = n ∧ 1 ≤ n ∧ n ≤ 99:=by
      unfold soN
      cases wrd ws (2 * i + 6) % 4 == 0
      · left; rfl
      · right
        have:=Nat.mod_lt (wrd ws (2 * i + 6) / 64) (show 0 < 99 by omega)
        exact ⟨_,rfl,by omega,by omega⟩
    have hM:(soM ws i (soldN b ws i).minute) ≤ 600 ∧ (soldN b ws i).minute ≤ soM ws i (soldN b ws i).minute:=by unfold soM; omega
    have eS:soldN b ws (i + 1) = ⟨(soldN b ws i).now.set K P,soM ws i (soldN b ws i).minute,(soldN b ws i).out ++ [⟨(K:Nat),soN ws i,P,(soM ws i (soldN b ws i).minute:Nat)⟩]⟩:=by rw [← hK,← hP]; rfl
    rw [eS]
    generalize hX:soldN b ws i = X at *
    generalize hS:(⟨(K:Nat),soN ws i,P,(soM ws i X.minute:Nat)⟩:Sal) = S
    have hSs:S.stock = (K:Nat):=by rw [← hS]
    have hSp:S.price = P:=by rw [← hS]
    have hSm:S.minute = (soM ws i X.minute:Nat):=by rw [← hS]
    have hSn:1 ≤ S.number ∧ S.number ≤ 99:=by
      rw [← hS]; rcases hN with h | ⟨n,h,h1,h2⟩
      · show 1 ≤ soN ws i ∧ soN ws i ≤ 99; omega
      · show 1 ≤ soN ws i ∧ soN ws i ≤ 99; omega
    have hmap:(X.out ++ [S]).map salP = X.out.map salP ++ [salP S]:=by simp
    have hlen:(X.out.map salP).length = X.out.length:=List.length_map _
    refine ⟨?_,?_,?_,?_⟩
    · show okAll b (X.out ++ [S]) 0 = true
      rw [zDt,ih.ok,ih.last,Bool.true_and]
      exact kn.2 ⟨by omega,hSn,by omega,by omega⟩
    · show lastMin (X.out ++ [S]) 0 = _
      rw [zCq,hSm]
    · intro j hj
      simp only [List.length_append,List.length_cons,List.length_nil] at hj
      dsimp only
      by_cases e:j = X.out.length
      · subst e
        unfold stepsF aheadI
        rw [hmap,show ((X.out.map salP) ++ [salP S]).getD X.out.length prt0 = salP S by rw [← hlen]; exact zC6,zCT (by rw [hlen]; exact Nat.le_refl _)]
        dsimp only
        rw [zC6]
        show (bif decide (0 ≤ aheadGo (X.out.map salP) S.stock X.out.length) then nearB S.price ((X.out ++ [S]).getD (aheadGo (X.out.map salP) S.stock X.out.length).toNat sal0).price b.jump else withinB S.price ((b.stocks.getD S.stock.toNat stk0).lo - b.jump) ((b.stocks.getD S.stock.toNat stk0).hi + b.jump)) = true
        rw [hSs,hSp,Int.toNat_natCast]
        rcases ih.now K hkl with ⟨h1,h2,h3⟩ | ⟨a,h1,h2⟩
        · rw [decide_eq_false (by omega),cond_false]
          exact zl.2 (by omega)
        · rw [h1,decide_eq_true (by omega),cond_true,Int.toNat_natCast]
          have ha:=(yG.1 h1).1
          rw [zCC ha,← h2,hpd]
          exact zF7.2 (by omega)
      · have hj2:j < X.out.length:=by omega
        have h0:=ih.jump j hj2
        rw [← h0]
        have e1:stepsF b ((X.out ++ [S]).map salP) j (fun k=>((X.out ++ [S]).getD k sal0).price) = stepsF b (X.out.map salP) j (fun k=>((X.out ++ [S]).getD k sal0).price):=steps_stock fun k hk=>by
          rw [hmap,zCC (by rw [hlen]; omega)]
        rw [e1]
        refine zB2 (by (try dsimp only); rw [zCC hj2]) fun k hk=>?_
        have hk:aheadGo (X.out.map salP) ((X.out.map salP).getD j prt0).stock j = (k:Nat):=hk
        have:=(yG.1 hk).1
        (try dsimp only)
        rw [zCC (by omega)]
    · intro k hk
      dsimp only
      rw [hmap,List.length_append,List.length_cons,List.length_nil,show X.out.length + (0 + 1) = X.out.length + 1 by omega]
      unfold aheadGo
      rw [show ((X.out.map salP) ++ [salP S]).getD X.out.length prt0 = salP S by rw [← hlen]; exact zC6,zCT (by rw [hlen]; exact Nat.le_refl _)]
      show ((bif S.stock == (k:Int) then ((X.out.length:Nat):Int) else _) < 0 ∧ _) ∨ ∃ a:Nat,(bif S.stock == (k:Int) then ((X.out.length:Nat):Int) else _) = (a:Nat) ∧ _
      rw [hSs]
      by_cases e:K = k
      · subst e
        rw [show (((K:Nat):Int) == (K:Int)) = true by simp,cond_true]
        refine .inr ⟨X.out.length,rfl,?_⟩
        rw [zC6,hSp]
        exact zQ (by rw [List.getElem?_set,if_pos rfl,if_pos (by rw [ho.n]; exact hkl)])
      · rw [show (((K:Nat):Int) == (k:Int)) = false by simp; omega,cond_false]
        have e2:(X.now.set K P).getD k 0 = X.now.getD k 0:=by rw [List.getD_eq_getElem?_getD,List.getElem?_set,if_neg e,← List.getD_eq_getElem?_getD]
        rw [e2]
        rcases ih.now k hk with h | ⟨a,h1,h2⟩
        · exact .inl h
        · exact .inr ⟨a,h1,by rw [zCC (yG.1 h1).1]; exact h2⟩
/-- What is so of sales that are chosen by words. -/
structure SoldOK (b:Brd) (l:List Sal):Prop where
  ok:okAll b l 0 = true
  l7:l.length ≤ 7
  jump:JumpOK b l
theorem zDc {b:Brd} {ws:List Int} (v:BrdOK b) (hw:WdsOK ws):SoldOK b (soldL b ws):=by
  have h:=zFb v hw (wrd ws 5 % 8)
  exact ⟨h.ok,by unfold soldL; rw [(zCr v _).o]; have:=Nat.mod_lt (wrd ws 5) (show 0 < 8 by omega); omega,h.jump⟩
def nnOf (b:Brd) (c rush:Bool) (s:Sal):Int × Int:=bif c then (s.number,s.number) else bif rush then (1,b.small) else (1,1)
def figW:Wd → Int × Bool
  | .sh x=>((x:Nat),false)
  | .lo p=>((p:Nat),true)
  | _=>(0,false)
def PriceW (b:Brd):Wd → Prop
  | .sh x=>x < 80
  | .lo p=>1 ≤ p ∧ p ≤ 799
  | _=>False
def prtOf (b:Brd) (w:Wrk) (s:Sal) (M:Nat) (c3:Bool) (P:Wd):Prt:=⟨s.stock,(nnOf b c3 w.rush s).1,(nnOf b c3 w.rush s).2,(figW P).1,(figW P).2,(M:Nat),w.llo,w.lhi⟩
theorem zCz {b:Brd} {c:Bool} {x:Wd} {w:Wrk} (h:c = true → x.ok b ∧ x.can w):CanAll b (optW c x) w:=by
  cases c
  · trivial
  · exact ⟨(h rfl).1,(h rfl).2,trivial⟩
theorem sale_run {b : Brd} {w : Wrk} {s : Sal} {bm : Int} {c1 c3 : Bool} {M : Nat} {P : Wd} {R : List Wd} (hs : okSal b s bm = true) (h1 : c1 = false → w.minute = (M : Nat)) (h2 : c1 = true → w.minute ≤ (M : Nat) ∧ M ≤ 600) (hn : w.number ≤ 0) (h8 : w.out.length ≠ 8) (h3 : c3 = true → 1 < s.number) (hP : PriceW b P)
    (hR:CanAll b R { w with minute:=(M:Nat),stock:=s.stock,number:=0,out:=w.out ++ [prtOf b w s M c3 P] }) :
    CanAll b (optW c1 (.mi M) ++ (optW (s.stock != w.stock) (.na s.stock.toNat) ++ (optW c3 (.nu s.number.toNat) ++ P :: R))) w ∧ runAll b (optW c1 (.mi M) ++ (optW (s.stock != w.stock) (.na s.stock.toNat) ++ (optW c3 (.nu s.number.toNat) ++ P :: R))) w = runAll b R { w with minute:=(M:Nat),stock:=s.stock,number:=0,out:=w.out ++ [prtOf b w s M c3 P] }:=by
  obtain ⟨k1,k2,k3,k4⟩:=kn.1 hs
  have s1:runAll b (optW c1 (.mi M)) w = { w with minute:=(M:Nat) }:=by
    cases c1
    · rw [← h1 rfl]; rfl
    · rfl
  have s2:runAll b (optW (s.stock != w.stock) (.na s.stock.toNat)) { w with minute:=(M:Nat) } = { w with minute:=(M:Nat),stock:=s.stock }:=by
    by_cases e:s.stock = w.stock
    · rw [show (s.stock != w.stock) = false by simpa using e,e]; rfl
    · rw [show (s.stock != w.stock) = true by simpa using e]
      show ({ w with minute:=(M:Nat),stock:=((s.stock.toNat:Nat):Int) }:Wrk) = _
      rw [show ((s.stock.toNat:Nat):Int) = s.stock by omega]
  obtain ⟨wn,s3,hwn⟩:∃ wn:Int,runAll b (optW c3 (.nu s.number.toNat)) { w with minute:=(M:Nat),stock:=s.stock } = { w with minute:=(M:Nat),stock:=s.stock,number:=wn } ∧ saleN { w with minute:=(M:Nat),stock:=s.stock,number:=wn } b = nnOf b c3 w.rush s:=by
    cases c3
    · refine ⟨w.number,rfl,?_⟩
      unfold saleN nnOf
      rw [decide_eq_false (by dsimp only; omega)]; rfl
    · refine ⟨s.number,?_,?_⟩
      · show ({ w with minute:=(M:Nat),stock:=s.stock,number:=((s.number.toNat:Nat):Int) }:Wrk) = _
        rw [show ((s.number.toNat:Nat):Int) = s.number by omega]
      · unfold saleN nnOf
        rw [decide_eq_true (by have:=h3 rfl; dsimp only; omega)]
  have s4:P.run b { w with minute:=(M:Nat),stock:=s.stock,number:=wn } = { w with minute:=(M:Nat),stock:=s.stock,number:=0,out:=w.out ++ [prtOf b w s M c3 P] } ∧ P.ok b ∧ P.can { w with minute:=(M:Nat),stock:=s.stock,number:=wn }:=by
    cases P with
    | sh x =>
      refine ⟨?_,hP,show 0 ≤ s.stock ∧ w.out.length ≠ 8 from ⟨k1.1,h8⟩⟩
      show ({ w with minute:=(M:Nat),stock:=s.stock,number:=0,out:=w.out ++ [⟨s.stock,(saleN { w with minute:=(M:Nat),stock:=s.stock,number:=wn } b).1,(saleN { w with minute:=(M:Nat),stock:=s.stock,number:=wn } b).2,((x:Nat):Int),false,(M:Nat),w.llo,w.lhi⟩] }:Wrk) = _
      rw [hwn]; rfl
    | lo x =>
      refine ⟨?_,hP,show 0 ≤ s.stock ∧ w.out.length ≠ 8 from ⟨k1.1,h8⟩⟩
      show ({ w with minute:=(M:Nat),stock:=s.stock,number:=0,out:=w.out ++ [⟨s.stock,(saleN { w with minute:=(M:Nat),stock:=s.stock,number:=wn } b).1,(saleN { w with minute:=(M:Nat),stock:=s.stock,number:=wn } b).2,((x:Nat):Int),true,(M:Nat),w.llo,w.lhi⟩] }:Wrk) = _
      rw [hwn]; rfl
    | mi _=>exact hP.elim
    | na _=>exact hP.elim
    | nu _=>exact hP.elim
    | la _ _=>exact hP.elim
    | ru=>exact hP.elim
  constructor
  · refine CanAll.app (zCz fun hc=>⟨(h2 hc).2,hn,(h2 hc).1⟩) ?_
    rw [s1]
    refine CanAll.app (zCz fun hc=>⟨show s.stock.toNat < b.stocks.length by omega,show w.number ≤ 0 from hn⟩) ?_
    rw [s2]
    refine CanAll.app (zCz fun hc=>⟨show 1 ≤ s.number.toNat ∧ s.number.toNat ≤ 99 by omega,show w.number ≤ 0 from hn⟩) ?_
    rw [s3]
    refine ⟨s4.2.1,s4.2.2,?_⟩
    rw [s4.1]; exact hR
  · rw [k8,s1,k8,s2,k8,s3,runAll,s4.1]
/-- The sales that are read of the tape of sales. -/
def prL (b:Brd) (ws:List Int):List Sal → Nat → Nat → List Prt
  | [],_,_=>[]
  | s :: r,i,m=>⟨s.stock,(nnOf b (prNu b ws i s) (prRush ws) s).1,(nnOf b (prNu b ws i s) (prRush ws) s).2,(figW (prPr ws i s)).1,(figW (prPr ws i s)).2,(prM ws i m s:Nat),(prLate ws:Nat),((prLate ws + prWide ws:Nat):Int)⟩ :: prL b ws r (i + 1) (prM ws i m s)
theorem prP_price {b:Brd} {ws:List Int} {i:Nat} {s:Sal} (h:1 ≤ s.price ∧ s.price ≤ 799):PriceW b (prPr ws i s):=by
  unfold prPr
  cases wrd ws (i + 1) / 8 % 4 == 0
  · show s.price.toNat % 80 < 80; omega
  · show 1 ≤ s.price.toNat ∧ s.price.toNat ≤ 799; omega
theorem zHy {b : Brd} {ws : List Int} : ∀ {l : List Sal} {i m : Nat} {w : Wrk} {bm : Int}, okAll b l bm = true → w.minute = (m : Nat) → m ≤ 600 → w.number ≤ 0 → w.out.length + l.length ≤ 8 → w.rush = prRush ws → w.llo = (prLate ws : Nat) → w.lhi = ((prLate ws + prWide ws : Nat) : Int) →
    CanAll b (prW b ws l i m w.stock) w ∧ (runAll b (prW b ws l i m w.stock) w).out = w.out ++ prL b ws l i m ∧ (runAll b (prW b ws l i m w.stock) w).number ≤ 0
  | [],i,m,w,bm,_,_,_,hn,_,_,_,_=>⟨trivial,by simp [prW,prL,runAll],hn⟩
  | s :: r,i,m,w,bm,hok,hm,hm6,hn,h8,hr,hl1,hl2=>by
    unfold okAll at hok
    rw [Bool.and_eq_true] at hok
    obtain ⟨k1,k2,k3,k4⟩:=kn.1 hok.1
    simp only [List.length_cons] at h8
    have hp:=zEd (ws:=ws) (i:=i) (s:=s) hm6
    have ih:=zHy (b:=b) (ws:=ws) (l:=r) (i:=i + 1) (m:=prM ws i m s) (w:={ w with minute:=((prM ws i m s:Nat):Int),stock:=s.stock,number:=0,out:=w.out ++ [prtOf b w s (prM ws i m s) (prNu b ws i s) (prPr ws i s)] }) hok.2 rfl hp.1 (by dsimp only; omega) (by simp only [List.length_append,List.length_cons,List.length_nil]; omega) hr hl1 hl2
    have hs:=sale_run (b:=b) (w:=w) (c1:=prM ws i m s != m || i == 0) (c3:=prNu b ws i s) (M:=prM ws i m s) (P:=prPr ws i s) hok.1 (fun h=>by
      simp only [Bool.or_eq_false_iff,bne_eq_false_iff_eq] at h; rw [hm,h.1]) (fun _=>⟨by rw [hm]; omega,hp.1⟩) hn (by omega) (fun h=>by
      unfold prNu at h; simp only [Bool.and_eq_true,decide_eq_true_eq] at h; exact h.1) (prP_price k3) ih.1
    rw [prW]
    refine ⟨hs.1,?_,?_⟩
    · rw [hs.2,ih.2.1]
      show (w.out ++ [_]) ++ _ = w.out ++ prL b ws (s :: r) i m
      rw [prL,List.append_assoc]
      unfold prtOf
      rw [hr,hl1,hl2]; rfl
    · rw [hs.2]; exact ih.2.2
theorem la_step {b:Brd} {a c:Nat} (h:a ≤ c ∧ c ≤ 60) {R:List Wd} (hR:CanAll b R { wrk0 with llo:=(a:Nat),lhi:=(c:Nat) }):CanAll b (.la a c :: R) wrk0 ∧ runAll b (.la a c :: R) wrk0 = runAll b R { wrk0 with llo:=(a:Nat),lhi:=(c:Nat) }:=⟨⟨h,show wrk0.number ≤ 0 by decide,hR⟩,rfl⟩
theorem printed_read {b:Brd} {ws:List Int} {l:List Sal} (h:checkT b = 0) (hl:l.length ≤ 8) (hok:okAll b l 0 = true) (hlen:(prS b ws l).length ≤ 160):readI b (prS b ws l) = (prL b ws l 0 0,0):=by
  have hl6:=Nat.mod_lt (wrd ws 0) (show 0 < 6 by omega)
  have hw6:=Nat.mod_lt (wrd ws 0 / 8) (show 0 < 6 by omega)
  have e0:CanAll b (.la (prLate ws) (prLate ws + prWide ws) :: prT b ws l) wrk0 ∧ (runAll b (.la (prLate ws) (prLate ws + prWide ws) :: prT b ws l) wrk0).out = prL b ws l 0 0 ∧ (runAll b (.la (prLate ws) (prLate ws + prWide ws) :: prT b ws l) wrk0).number ≤ 0:=by
    have hr:=zHy (b:=b) (ws:=ws) (l:=l) (i:=0) (m:=0) (w:={ wrk0 with llo:=((prLate ws:Nat):Int),lhi:=((prLate ws + prWide ws:Nat):Int),rush:=prRush ws }) hok rfl (by omega) (show (0:Int) ≤ 0 by omega) (by simpa [wrk0] using hl) rfl rfl rfl
    have hru:CanAll b (prT b ws l) { wrk0 with llo:=((prLate ws:Nat):Int),lhi:=((prLate ws + prWide ws:Nat):Int) } ∧ runAll b (prT b ws l) { wrk0 with llo:=((prLate ws:Nat):Int),lhi:=((prLate ws + prWide ws:Nat):Int) } = runAll b (prW b ws l 0 0 (-1)) { wrk0 with llo:=((prLate ws:Nat):Int),lhi:=((prLate ws + prWide ws:Nat):Int),rush:=prRush ws }:=by
      unfold prT
      have es:runAll b (optW (prRush ws) .ru) { wrk0 with llo:=((prLate ws:Nat):Int),lhi:=((prLate ws + prWide ws:Nat):Int) } = { wrk0 with llo:=((prLate ws:Nat):Int),lhi:=((prLate ws + prWide ws:Nat):Int),rush:=prRush ws }:=by cases prRush ws <;> rfl
      refine ⟨CanAll.app (zCz fun _=>⟨trivial,show wrk0.number ≤ 0 ∧ wrk0.rush = false from ⟨by decide,rfl⟩⟩) ?_,by rw [k8,es]⟩
      rw [es]; exact hr.1
    have hla:=la_step (b:=b) (a:=prLate ws) (c:=prLate ws + prWide ws) (by unfold prLate prWide; omega) hru.1
    refine ⟨hla.1,?_,?_⟩
    · rw [hla.2,hru.2]; exact hr.2.1
    · rw [hla.2,hru.2]; exact hr.2.2
  have:=read_words h e0.1 hlen
  rw [decide_eq_false (by omega),cond_false,e0.2.1] at this
  exact this
/-- Prints say sales, as far as they do. -/
structure PrSays (ps:List Prt) (l:List Sal):Prop where
  len:ps.length = l.length
  st:∀ j,j < l.length → (ps.getD j prt0).stock = (l.getD j sal0).stock
  fit:∀ j,j < l.length → refFits (ps.getD j prt0) j (l.getD j sal0).price 0 = true
  num:∀ j,j < l.length → (ps.getD j prt0).nlo ≤ (l.getD j sal0).number ∧ (l.getD j sal0).number ≤ (ps.getD j prt0).nhi
theorem fits_pr {p:Prt} {i j:Nat} {x:Int}:refFits p i x 0 = refFits p j x 0:=by unfold refFits; rw [Nat.zero_testBit,Nat.zero_testBit]
theorem PrSays.cons {p:Prt} {s:Sal} {ps:List Prt} {l:List Sal} (h:PrSays ps l) (h1:p.stock = s.stock) (h2:refFits p 0 s.price 0 = true) (h3:p.nlo ≤ s.number ∧ s.number ≤ p.nhi):PrSays (p :: ps) (s :: l):=by
  refine ⟨by simp [h.len],fun j hj=>?_,fun j hj=>?_,fun j hj=>?_⟩ <;> cases j with
    | zero=>first | exact h1 | exact h2 | exact h3
    | succ j =>
      simp only [List.length_cons] at hj
      first | exact h.st j (by omega) | exact fits_pr.trans (h.fit j (by omega)) | exact h.num j (by omega)
theorem fits_of {p:Prt} {x:Int} (h:1 ≤ x ∧ x ≤ 799) (hf:p.full = true ∧ p.fig = x ∨ p.full = false ∧ p.fig = ((x.toNat % 80:Nat):Int)):refFits p 0 x 0 = true:=by
  unfold refFits
  rw [zl.2 h,Nat.zero_testBit]
  rcases hf with ⟨h1,h2⟩ | ⟨h1,h2⟩
  · rw [h1,h2]; simp
  · rw [h1,h2,tmod80 (by omega)]; simp
theorem zGl {b:Brd} {ws:List Int} (v:BrdOK b):∀ {l:List Sal} {i m:Nat} {bm:Int},okAll b l bm = true → PrSays (prL b ws l i m) l
  | [],i,m,bm,_=>⟨rfl,fun j hj=>by simp at hj,fun j hj=>by simp at hj,fun j hj=>by simp at hj⟩
  | s :: r,i,m,bm,h=>by
    unfold okAll at h
    rw [Bool.and_eq_true] at h
    obtain ⟨k1,k2,k3,k4⟩:=kn.1 h.1
    have hs1:=v.s1
    refine (zGl v h.2).cons rfl (fits_of k3 ?_) ?_
    · unfold prPr
      cases wrd ws (i + 1) / 8 % 4 == 0
      · exact .inr ⟨rfl,rfl⟩
      · exact .inl ⟨rfl,show ((s.price.toNat:Nat):Int) = s.price by omega⟩
    · show (nnOf b (prNu b ws i s) (prRush ws) s).1 ≤ s.number ∧ s.number ≤ (nnOf b (prNu b ws i s) (prRush ws) s).2
      unfold nnOf
      cases hc:prNu b ws i s
      · unfold prNu at hc
        cases hr:prRush ws
        · rw [hr] at hc
          simp at hc
          show (1:Int) ≤ s.number ∧ s.number ≤ 1; omega
        · rw [hr] at hc
          simp at hc
          show (1:Int) ≤ s.number ∧ s.number ≤ b.small
          by_cases e:1 < s.number
          · have:=(hc e).1; omega
          · omega
      · exact ⟨Int.le_refl _,Int.le_refl _⟩
end Go.Proofs.YticlpkgpmmhemaaGreatDoor
namespace Go.Proofs.YticlpkgpmmhemaaGreatDoor
open Go.RowKit
set_option maxRecDepth 20000
set_option linter.all false
set_option maxHeartbeats 4000000
theorem zBG {b:Brd} {s:List UInt8} (h:(readI b s).2 = 0):checkT b = 0:=by
  unfold readI at h
  cases hc:checkT b != 0
  · simpa using hc
  · rw [hc] at h
    have h:checkT b = 0:=h
    rw [h] at hc; cases hc
theorem read_short {b:Brd} {s:List UInt8} (h:(readI b s).2 = 0):s.length ≤ 160:=by
  have v:=zBG h
  rw [← zB8 v] at h
  unfold refReadI at h
  cases hc:decide (160 < (s.length:Int))
  · simp only [decide_eq_false_iff_not] at hc; omega
  · rw [hc] at h; cases h
theorem zHY {b:Brd} {ws:List Int} {l:List Sal} (v:BrdOK b) (h8:l.length ≤ 8) (hok:okAll b l 0 = true):(prS b ws l).length ≤ 300:=by
  obtain ⟨h1,h2⟩:=zGL (ws:=ws) (i:=0) (m:=0) (st:=-1) hok (by omega)
  have h3:=zGj v h1
  have h4:=zFj v (wd:=.la (prLate ws) (prLate ws + prWide ws)) (show prLate ws ≤ prLate ws + prWide ws ∧ prLate ws + prWide ws ≤ 60 by unfold prLate prWide; have:=Nat.mod_lt (wrd ws 0) (show 0 < 6 by omega); have:=Nat.mod_lt (wrd ws 0 / 8) (show 0 < 6 by omega); omega)
  unfold prS prT
  rw [zCA,zAn]
  cases prRush ws <;> simp only [cond_false,cond_true,Wd.text,List.length_append,List.length_cons,List.length_nil] at h4 ⊢ <;> omega
theorem Sold_ok (b:Brd) (ws:List Int) (v:BrdOK b) (hw:WdsOK ws):PureAt Tryz.prog 71 [brdD b,wdsD ws] (salsD (soldL b ws)):=PureAt.of_eff (ds:=[brdD b,wdsD ws]) (Sold_eff b ws v hw)
end Go.Proofs.YticlpkgpmmhemaaGreatDoor
namespace Go.Proofs.YticlpkgpmmhemaaGreatDoor
open Go.Proofs.Tryz
open Go.RowKit
set_option maxRecDepth 20000
set_option linter.all false
set_option maxHeartbeats 4000000
theorem thin_bd {b:Brd} {n:Nat} (h:thinT b n = true):b.stocks.length ≤ 7 ∧ n ≤ 200:=by
  unfold thinT at h
  simp only [Bool.and_eq_true,decide_eq_true_eq] at h
  omega
theorem zDN {d:Dsk}:(∀ p ∈ fltI d,PrtOK d.b p) ∧ (fltI d).length ≤ 8:=by
  unfold fltI
  cases deskI d != 0
  · exact yZ
  · exact ⟨fun p hp=>(by cases hp),by simp⟩
theorem zGQ {d:Dsk} (h:deskI d = 0):fltI d = (readI d.b d.tape).1:=by unfold fltI; rw [h]; rfl
/-- The desk with the tape of words. -/
@[reducible] def tldD (d:Dsk) (ws:List Int):Dsk:=⟨d.b,prS d.b ws (soldL d.b ws),d.fee,d.orders⟩
/-- What a desk and a truth by words are. -/
structure ToldP (d:Dsk) (x:Dsk × Tru × Bool):Prop where
  b:x.1.b = d.b
  os:x.1.orders = d.orders
  fe:x.1.fee = d.fee
  ok:x.2.2 = true → d.orders.length ≤ 8 ∧ x.1.tape.length ≤ 300 ∧ d.b.stocks.length ≤ 7 ∧ deskI x.1 = 0 ∧ TruW x.1 (readI x.1.b x.1.tape).1 x.2.1 ∧ timesB (readI x.1.b x.1.tape).1 = true
theorem tld_len {d:Dsk} {ws:List Int} (v:BrdOK d.b) (hw:WdsOK ws) (h:deskI (tldD d ws) = 0):(fltI (tldD d ws)).length ≤ (soldL d.b ws).length:=by
  have hs:=zDc v hw
  have hr:=(yQ h).1
  rw [zGQ h]
  have hr2:(readI d.b (prS d.b ws (soldL d.b ws))).2 = 0:=hr
  have h1:=read_short hr2
  have h2:=printed_read (ws:=ws) (zBG hr2) (by have:=hs.l7; omega) hs.ok h1
  show (readI d.b (prS d.b ws (soldL d.b ws))).1.length ≤ _
  rw [h2,(zGl v hs.ok).len]
  exact Nat.le_refl _
theorem told_ok {d:Dsk} {ws:List Int} {t:Tru} (v:BrdOK d.b) (hw:WdsOK ws) (ho:d.orders.length ≤ 8) (hs:d.b.stocks.length ≤ 7) (h0:deskI (tldD d ws) = 0) (ht:timesB (fltI (tldD d ws)) = true):ToldP d (tldD d ws,t,isTB (tldD d ws) (fltI (tldD d ws)) t):=by
  have hs7:=zDc v hw
  refine ⟨rfl,rfl,rfl,fun h=>⟨ho,zHY v (by have:=hs7.l7; omega) hs7.ok,hs,h0,?_,?_⟩⟩
  · rw [← zGQ h0]; exact zGb.1 h
  · rw [← zGQ h0]; exact ht
theorem zG0 {d x:Dsk} {t:Tru} (h1:x.b = d.b) (h2:x.orders = d.orders) (h3:x.fee = d.fee):ToldP d (x,t,false):=⟨h1,h2,h3,fun h=>(by cases h)⟩
theorem zGi {a b:Int} (ha:0 ≤ a) (hb:0 < b):0 ≤ a.tmod b ∧ a.tmod b < b:=by
  rw [Int.tmod_eq_emod_of_nonneg ha]
  exact ⟨Int.emod_nonneg _ (by omega),Int.emod_lt_of_pos _ hb⟩
theorem zDG (ws:List Int) (i:Nat) (hw:WdsOK ws):PureAt Tryz.prog 74 [wdsD ws,.int .i64 (i:Nat)] (.int .i64 (wrd ws i:Nat)):=by
 refine Zp Tryz.func74 rfl fun Γ hn hl=>?_
 have hw1:=hw.1
 refine Zu (Zt 1 [] hn rfl (Zv (zC (Zu (Zt 3 [] hn rfl (Zv (zH rfl (fun hb0=>?_) (fun hb0=>?_))))))))
 obtain rfl:ws = []:=List.eq_nil_of_length_eq_zero (by simp at hb0; simpa using hb0)
 refine Zu (Zt 1 [] hn rfl (Zv (zJ (zD (zg (zZ (.inl rfl) hl rfl (.tmp rfl)) ?_)))))
 simp [wrd]
 have hwl:ws.length ≠ 0:=by simp at hb0; simpa using hb0
 obtain ⟨x,hx⟩:=zT (show i % ws.length < ws.length from Nat.mod_lt _ (by omega))
 have hxb:=hw.2 x (List.mem_of_getElem? hx)
 have e1:((wrd ws i:Nat):Int) = x:=by unfold wrd; rw [zQ hx]; omega
 rw [e1]
 refine zI (zA (Zu (Zt 4 [] hn rfl (Zs hn (ye rfl rfl rfl (r:=((i % ws.length:Nat):Int)) (by rw [List.length_map]; omega) (by rw [List.length_map]; exact modN (by omega))) ?_))))
 refine Zi (i:=i % ws.length) hn rfl rfl (mget hx) ?_
 refine Zt 1 [] hn rfl (Zs hn (zBT rfl rfl underlying253 underlying3 (i64w (by omega) rfl)) ?_)
 refine Zt 1 [] hn rfl (Zv (zJ (zg (zZ (.inl rfl) hl rfl (.tmp rfl)) ?_)))
 rfl
theorem Told_eff (d:Dsk) (ws:List Int) (hN:NamesOK d.b) (hw:WdsOK ws):EffAt Tryz.prog 17 [.d (dskD d),.d (wdsD ws)] [] (X:={x:Dsk × Tru × Bool // ToldP d x}) (fun x=>.d (.tup [dskD x.1.1,truD x.1.2.1,.bool x.1.2.2])) (fun _=>[]):=by
 refine EffAt.of_awp Tryz.func17 rfl (by kernel_rfl) rfl fun Γ hn=>?_
 refine Zu (Zb 2 hn rfl fun b2=>Zb 4 hn rfl fun b4=>Zb 5 hn rfl fun b5=>Zt 1 [] hn rfl (Zv (zC (Zu (Zt 7 [2,2] hn rfl (Zkg hn rfl (fun hc=>(show PureAt Tryz.prog 31 [brdD d.b,strD []] (.bool (thinT d.b ([]:List UInt8).length)) from Thin_ok d.b [] hN)) (Zt 5 [2] hn rfl (Zkg hn rfl (fun hc=>zGB d.b hN) (Zt 2 [] hn rfl (Zv (zH rfl (fun hb0=>?_) (fun hb0=>?_))))))))))))
 refine Zu (Zt 5 [2,4,5] hn rfl (Zv (zJ (zD ?_))))
 exact ret_E (.inl rfl) ⟨(d,⟨[],[],[]⟩,false),zG0 rfl rfl rfl⟩ ((zBy rfl (.d (.cellA rfl (id:=4) rfl underlying27 rfl sz27 rfl rfl)) (.d (.cellA rfl (id:=5) rfl underlying31 rfl sz31 rfl rfl)) (.tmp rfl)).le (.tup (.cons (.refl _) (.cons (.agg (.cons (.nil 1) (.cons (.nil 1) (.cons (.nil 1) (.refl _))))) (.refl _))))) trivial
 obtain ⟨⟨q1,q2⟩,q3⟩:(d.orders.length ≤ 8 ∧ thinT d.b ([]:List UInt8).length = true) ∧ checkT d.b = 0:=by simp only [List.length_map,Bool.or_eq_false_iff,Bool.not_eq_false',decide_eq_false_iff_not] at hb0; exact ⟨⟨by omega,hb0.1.2⟩,by simpa using hb0.2⟩
 obtain ⟨hb7,_⟩:=thin_bd q2
 have v:=ku q3
 have hsk:=zDc v hw
 have hs7:=hsk.l7
 have hpl:=zHY (ws:=ws) v (by omega) hsk.ok
 refine zI (zA (Zu (Zt 3 [2] hn rfl (Zk hn rfl (Sold_ok d.b ws v hw) (Zt 1 [] hn rfl (Zv (Zu (Zt 4 [2] hn rfl (Zk hn rfl (Printed_ok d.b (soldL d.b ws) ws v hw (by omega) hsk.ok) (Zt 1 [] hn rfl (stepW (s_store1 rfl rfl rfl rfl rfl rfl (id:=2) rfl sz9 (Nat.le_of_ble_eq_true rfl) rfl trivial) fun _=>?_)))))))))))
 refine Zv (Zu (Zt 1 [2] hn rfl (Zk hn rfl (zEH (tldD d ws) hN (show (prS d.b ws (soldL d.b ws)).length ≤ 4294967000 by omega) (show d.orders.length ≤ 1000 by omega)) (Zt 5 [] hn rfl (Zv (Zu (Zt 1 [] hn rfl (Zk hn rfl (Times_ok d.b (fltI (tldD d ws)) zDN.1 zDN.2) (Zt 5 [] hn rfl (Zv (zC (Zu (Zt 6 [] hn rfl (Zv (zH rfl (fun hb1=>?_) (fun hb1=>?_))))))))))))))))
 refine Zu (Zt 5 [2,4,5] hn rfl (Zv (zJ (zD ?_))))
 exact ret_E (.inl rfl) ⟨(tldD d ws,⟨[],[],[]⟩,false),zG0 rfl rfl rfl⟩ ((zBy rfl (.d (.cellA rfl (id:=4) rfl underlying27 rfl sz27 rfl rfl)) (.d (.cellA rfl (id:=5) rfl underlying31 rfl sz31 rfl rfl)) (.tmp rfl)).le (.tup (.cons (.refl _) (.cons (.agg (.cons (.nil 1) (.cons (.nil 1) (.cons (.nil 1) (.refl _))))) (.refl _))))) trivial
 obtain ⟨h0,ht⟩:deskI (tldD d ws) = 0 ∧ timesB (fltI (tldD d ws)) = true:=by simp only [Bool.or_eq_false_iff,Bool.not_eq_false'] at hb1; exact ⟨by simpa using hb1.1,hb1.2⟩
 have htl:=tld_len v hw h0
 obtain ⟨hpo,hl8⟩:=zDN (d:=tldD d ws)
 have hti:timesI (fltI (tldD d ws)) = timL (fltI (tldD d ws)) (fltI (tldD d ws)).length:=by unfold timesI; rw [ht]; rfl
 generalize hfl:fltI (tldD d ws) = l at hpo hl8 ht htl hti
 rw [hti]
 obtain ⟨_,_,_,hob⟩:=yQ h0
 refine zI (zA (Zu (Zb 12 hn rfl fun b12=>Zv (zC (zo (gh_nilcell (id:=12) (k:=0) 1081 3 1 rfl rfl) ?_)))))
 refine zo (gh_nilcell (id:=12) (k:=1) 1082 3 1 rfl rfl) ?_
 refine zo (gh_nilcell (id:=12) (k:=2) 1083 3 1 rfl rfl) ?_
 refine zG (Zt 1 [] hn rfl (Zv (zC (Zu (Zt 1 [] hn rfl (Zv (zK (awp_loop_on (ι:={x:Nat × Int × (List Int × Value) × (List Int × Value) // x.1 ≤ l.length ∧ (-9999 ≤ x.2.1 ∧ x.2.1 ≤ 700) ∧ x.2.2.1.1.length = x.1 ∧ x.2.2.2.1.length = x.1}) (fun x=>(14,true,.d (.int .i64 (x.1.1:Nat))) :: (13,true,.d (.int .i64 x.1.2.1)) :: anys [63,64,65,66,69,70,71,72,73,74,75,76,77,78,79,80,81,82,83,84,85,86,87,88,89,90,91,92,93,94,95,96,97,98,99,100,101,102,103,67,68]) (fun x=>[(12,.box b12 31 [.val x.1.2.2.1.2,.val x.1.2.2.2.2,.val (.slice none 0 0)]),(1081,.row x.1.2.2.1.2 3 1 (x.1.2.2.1.1.map intE)),(1082,.row x.1.2.2.2.2 3 1 (x.1.2.2.2.1.map intE))]) (fun x=>l.length - x.1.1) ⟨(0,-9999,([],.slice none 0 0),([],.slice none 0 0)),by simp⟩ ⟨.inl rfl,.inl rfl,zF _⟩ ⟨.inl rfl,.inl rfl,.inl rfl,trivial⟩ ?_))))))))
 rintro ⟨⟨i,la,⟨ps,vp⟩,⟨ms,vm⟩⟩,hi,hla,hps,hms⟩
 dsimp only
 dsimp only at hi hla hps hms
 refine zC (Zu (Zt 4 [] hn rfl (Zv (zH rfl (fun hb2=>?_) (fun hb2=>?_)))))
 ·
  have hil:i < l.length:=by simp at hb2; omega
  have htm:=(tim_mono hpo ht hil).1
  have hpb:=zHV hpo hil
  have hrg:(timL l l.length)[i]? = some (timI l i):=by have:=zBb hil; obtain ⟨x,hx⟩:=zT (show i < (timL l l.length).length by rw [zEe]; exact hil); rw [zQ hx] at this; rw [hx,this]
  obtain ⟨sl,hsl⟩:=zT (show i < (soldL d.b ws).length by omega)
  have hwb:=zBo hw (i + 3)
  have hmo:=zGi (a:=(wrd ws (i + 3):Nat)) (b:=4) (by omega) (by omega)
  refine zI (zA (zC (zK (zC (ze (W:=fun b=>True) fmo ?_)))))
  refine Zy [0,1] [] hn rfl (Zd 2 rfl hn (q_index (i:=i) rfl rfl rfl underlying155 sz59 rfl (mget hrg)) ?_)
  refine Zy [3,4,5,6,7] [] hn rfl (Zd 8 rfl hn (q_index (i:=i) rfl rfl rfl underlying155 sz59 rfl (mget hrg)) ?_)
  refine Zy [9,10,11,12] [] hn rfl (Zd 13 rfl hn (za rfl rfl rfl (r:=((i + 3:Nat):Int)) (i64w (by omega) (by omega))) ?_)
  refine zB (Ze1 14 rfl hn rfl (zDG _ _ (by assumption)) (d2_of_d1 (Zd 15 rfl hn (ye rfl rfl rfl (by omega) rfl) ?_)))
  refine Zd 16 rfl hn (za rfl rfl rfl (i64w (by omega) rfl)) ?_
  refine Zd 17 rfl hn (kK rfl rfl rfl) ?_
  refine Zd 18 rfl hn (zF1 rfl rfl rfl) ?_
  refine Zy [19] [] hn rfl (zB (zb (by kernel_rfl) ?_))
  refine zA ?_
  obtain ⟨la2,hla2⟩:∃ z:Int,z = min (timI l i).2 (max la ((timI l i).1 + (wrd ws (i + 3):Int).tmod 4)):=⟨_,rfl⟩
  rw [← hla2]
  refine ze (W:=fun b=>True) fmo ?_
  refine Zy [0,2,3] [] hn rfl (Zd 4 rfl hn (q_index (i:=i) rfl rfl rfl underlying91 sz96 rfl (mget hsl)) ?_)
  refine Zy [5,6,9,11] [] hn rfl (zB ?_)
  refine zj 1 [7,10,12] (by kernel_rfl) ⟨?_,?_,?_,?_,trivial⟩
  focus
   refine br rfl (Zw hn (zX rfl rfl (id:=12) rfl underlying29 rfl rfl sees0)) fun _=>?_
   refine d2_of_d1 (zB ?_)
   refine zj 7 [10,12] (by kernel_rfl) ⟨?_,?_,?_,trivial⟩
   focus
    refine br rfl (zL rfl rfl rfl (nb hn rfl) underlying29 sz3 zr3 rfl rfl rfl (show _ = [.d (.int .i64 0)] from by kernel_rfl) (by kernel_rfl) rfl rfl rfl rfl rfl) fun _=>?_
    refine d2_of_d1 (zB ?_)
    refine zj 8 [10,12] (by kernel_rfl) ⟨?_,?_,?_,trivial⟩
    focus
     refine br rfl (s_append (id:=1081) rfl rfl rfl (nb hn rfl) elt29 trivial rfl rfl rfl (by simp [chunk]; omega) (by simp [chunk]; omega) (fun b hb=>trivial)) fun v96=>?_
     refine d2_of_d1 (zB ?_)
     refine zj 10 [12] (by kernel_rfl) ⟨?_,?_,trivial⟩
     refine br rfl (Zw hn (zX rfl rfl (id:=12) rfl underlying29 rfl rfl sees0)) fun _=>?_
     refine d2_of_d1 (Zy [14] [] hn rfl (zB (Zo 12 rfl (zL rfl rfl rfl (nb hn rfl) underlying29 sz3 zr3 rfl rfl rfl (show _ = [.d (.int .i64 0)] from by kernel_rfl) (by kernel_rfl) rfl rfl rfl rfl rfl) fun _=>?_)))
     refine d2_of_d1 (zB ?_)
     rotate_left
     refine br rfl (zL rfl rfl rfl (nb hn rfl) underlying29 sz3 zr3 rfl rfl rfl (show _ = [.d (.int .i64 0)] from by kernel_rfl) (by kernel_rfl) rfl rfl rfl rfl rfl) fun _=>?_
     refine d2_of_d1 (zB (Ze [10] [12] hn rfl (d2_of_d1 (Zy [14] [] hn rfl (zB ?_)))))
     rotate_left
    rotate_left 2
    focus
     refine br rfl (Zw hn (zX rfl rfl (id:=12) rfl underlying29 rfl rfl sees0)) fun _=>?_
     refine d2_of_d1 (zB ?_)
     refine zj 8 [12] (by kernel_rfl) ⟨?_,?_,trivial⟩
     refine br rfl (s_append (id:=1081) rfl rfl rfl (nb hn rfl) elt29 trivial rfl rfl rfl (by simp [chunk]; omega) (by simp [chunk]; omega) (fun b hb=>trivial)) fun v96=>?_
     refine d2_of_d1 (Zy [14] [] hn rfl (zB (Zo 12 rfl (zL rfl rfl rfl (nb hn rfl) underlying29 sz3 zr3 rfl rfl rfl (show _ = [.d (.int .i64 0)] from by kernel_rfl) (by kernel_rfl) rfl rfl rfl rfl rfl) fun _=>?_)))
     refine d2_of_d1 (zB ?_)
     rotate_left
     refine br rfl (zL rfl rfl rfl (nb hn rfl) underlying29 sz3 zr3 rfl rfl rfl (show _ = [.d (.int .i64 0)] from by kernel_rfl) (by kernel_rfl) rfl rfl rfl rfl rfl) fun _=>?_
     refine d2_of_d1 (zB (Zo 8 rfl (s_append (id:=1081) rfl rfl rfl (nb hn rfl) elt29 trivial rfl rfl rfl (by simp [chunk]; omega) (by simp [chunk]; omega) (fun b hb=>trivial)) fun v96=>?_))
     refine d2_of_d1 (Zy [14] [] hn rfl (zB ?_))
     rotate_left
    rotate_left 2
    focus
     refine br rfl (zL rfl rfl rfl (nb hn rfl) underlying29 sz3 zr3 rfl rfl rfl (show _ = [.d (.int .i64 0)] from by kernel_rfl) (by kernel_rfl) rfl rfl rfl rfl rfl) fun _=>?_
     refine d2_of_d1 (zB ?_)
     refine zj 8 [10] (by kernel_rfl) ⟨?_,?_,trivial⟩
     refine br rfl (s_append (id:=1081) rfl rfl rfl (nb hn rfl) elt29 trivial rfl rfl rfl (by simp [chunk]; omega) (by simp [chunk]; omega) (fun b hb=>trivial)) fun v96=>?_
     refine d2_of_d1 (zB (Ze [10] [12] hn rfl ?_))
     rotate_left
     refine br rfl (Zw hn (zX rfl rfl (id:=12) rfl underlying29 rfl rfl sees0)) fun _=>?_
     refine d2_of_d1 (zB (Zo 8 rfl (s_append (id:=1081) rfl rfl rfl (nb hn rfl) elt29 trivial rfl rfl rfl (by simp [chunk]; omega) (by simp [chunk]; omega) (fun b hb=>trivial)) fun v96=>?_))
     rotate_left
     all_goals
      refine d2_of_d1 (Zy [14] [] hn rfl (zB ?_))
    rotate_left 2
   rotate_left 6
   focus
    refine br rfl (Zw hn (zX rfl rfl (id:=12) rfl underlying29 rfl rfl sees0)) fun _=>?_
    refine d2_of_d1 (zB ?_)
    refine zj 7 [12] (by kernel_rfl) ⟨?_,?_,trivial⟩
    focus
     refine br rfl (zL rfl rfl rfl (nb hn rfl) underlying29 sz3 zr3 rfl rfl rfl (show _ = [.d (.int .i64 0)] from by kernel_rfl) (by kernel_rfl) rfl rfl rfl rfl rfl) fun _=>?_
     refine d2_of_d1 (zB ?_)
     refine zj 8 [12] (by kernel_rfl) ⟨?_,?_,trivial⟩
     refine br rfl (s_append (id:=1081) rfl rfl rfl (nb hn rfl) elt29 trivial rfl rfl rfl (by simp [chunk]; omega) (by simp [chunk]; omega) (fun b hb=>trivial)) fun v96=>?_
     refine d2_of_d1 (Zy [14] [] hn rfl (zB (Zo 12 rfl (zL rfl rfl rfl (nb hn rfl) underlying29 sz3 zr3 rfl rfl rfl (show _ = [.d (.int .i64 0)] from by kernel_rfl) (by kernel_rfl) rfl rfl rfl rfl rfl) fun _=>?_)))
     refine d2_of_d1 (zB ?_)
     rotate_left
     refine br rfl (zL rfl rfl rfl (nb hn rfl) underlying29 sz3 zr3 rfl rfl rfl (show _ = [.d (.int .i64 0)] from by kernel_rfl) (by kernel_rfl) rfl rfl rfl rfl rfl) fun _=>?_
     refine d2_of_d1 (zB (Zo 8 rfl (s_append (id:=1081) rfl rfl rfl (nb hn rfl) elt29 trivial rfl rfl rfl (by simp [chunk]; omega) (by simp [chunk]; omega) (fun b hb=>trivial)) fun v96=>?_))
     refine d2_of_d1 (Zy [14] [] hn rfl (zB ?_))
     rotate_left
    rotate_left 2
    refine br rfl (zL rfl rfl rfl (nb hn rfl) underlying29 sz3 zr3 rfl rfl rfl (show _ = [.d (.int .i64 0)] from by kernel_rfl) (by kernel_rfl) rfl rfl rfl rfl rfl) fun _=>?_
    refine d2_of_d1 (zB (Zo 7 rfl (zL rfl rfl rfl (nb hn rfl) underlying29 sz3 zr3 rfl rfl rfl (show _ = [.d (.int .i64 0)] from by kernel_rfl) (by kernel_rfl) rfl rfl rfl rfl rfl) fun _=>?_))
    refine d2_of_d1 (zB (Zo 8 rfl (s_append (id:=1081) rfl rfl rfl (nb hn rfl) elt29 trivial rfl rfl rfl (by simp [chunk]; omega) (by simp [chunk]; omega) (fun b hb=>trivial)) fun v96=>?_))
    refine d2_of_d1 (Zy [14] [] hn rfl (zB ?_))
    rotate_left
   rotate_left 3
   focus
    refine br rfl (zL rfl rfl rfl (nb hn rfl) underlying29 sz3 zr3 rfl rfl rfl (show _ = [.d (.int .i64 0)] from by kernel_rfl) (by kernel_rfl) rfl rfl rfl rfl rfl) fun _=>?_
    refine d2_of_d1 (zB ?_)
    refine zj 7 [10] (by kernel_rfl) ⟨?_,?_,trivial⟩
    focus
     refine br rfl (zL rfl rfl rfl (nb hn rfl) underlying29 sz3 zr3 rfl rfl rfl (show _ = [.d (.int .i64 0)] from by kernel_rfl) (by kernel_rfl) rfl rfl rfl rfl rfl) fun _=>?_
     refine d2_of_d1 (zB ?_)
     refine zj 8 [10] (by kernel_rfl) ⟨?_,?_,trivial⟩
     refine br rfl (s_append (id:=1081) rfl rfl rfl (nb hn rfl) elt29 trivial rfl rfl rfl (by simp [chunk]; omega) (by simp [chunk]; omega) (fun b hb=>trivial)) fun v96=>?_
     refine d2_of_d1 (zB (Ze [10] [12] hn rfl ?_))
     rotate_left
     refine br rfl (Zw hn (zX rfl rfl (id:=12) rfl underlying29 rfl rfl sees0)) fun _=>?_
     refine d2_of_d1 (zB (Zo 8 rfl (s_append (id:=1081) rfl rfl rfl (nb hn rfl) elt29 trivial rfl rfl rfl (by simp [chunk]; omega) (by simp [chunk]; omega) (fun b hb=>trivial)) fun v96=>?_))
     rotate_left
    rotate_left 2
    refine br rfl (Zw hn (zX rfl rfl (id:=12) rfl underlying29 rfl rfl sees0)) fun _=>?_
    refine d2_of_d1 (zB (Zo 7 rfl (zL rfl rfl rfl (nb hn rfl) underlying29 sz3 zr3 rfl rfl rfl (show _ = [.d (.int .i64 0)] from by kernel_rfl) (by kernel_rfl) rfl rfl rfl rfl rfl) fun _=>?_))
    refine d2_of_d1 (zB (Zo 8 rfl (s_append (id:=1081) rfl rfl rfl (nb hn rfl) elt29 trivial rfl rfl rfl (by simp [chunk]; omega) (by simp [chunk]; omega) (fun b hb=>trivial)) fun v96=>?_))
    rotate_left
    all_goals
     refine d2_of_d1 (Zy [14] [] hn rfl (zB ?_))
   rotate_left 3
  rotate_left 12
  focus
   refine br rfl (zL rfl rfl rfl (nb hn rfl) underlying29 sz3 zr3 rfl rfl rfl (show _ = [.d (.int .i64 0)] from by kernel_rfl) (by kernel_rfl) rfl rfl rfl rfl rfl) fun _=>?_
   refine d2_of_d1 (zB ?_)
   refine zj 1 [10,12] (by kernel_rfl) ⟨?_,?_,?_,trivial⟩
   focus
    refine br rfl (Zw hn (zX rfl rfl (id:=12) rfl underlying29 rfl rfl sees0)) fun _=>?_
    refine d2_of_d1 (zB ?_)
    refine zj 8 [10,12] (by kernel_rfl) ⟨?_,?_,?_,trivial⟩
    focus
     refine br rfl (s_append (id:=1081) rfl rfl rfl (nb hn rfl) elt29 trivial rfl rfl rfl (by simp [chunk]; omega) (by simp [chunk]; omega) (fun b hb=>trivial)) fun v96=>?_
     refine d2_of_d1 (zB ?_)
     refine zj 10 [12] (by kernel_rfl) ⟨?_,?_,trivial⟩
     refine br rfl (Zw hn (zX rfl rfl (id:=12) rfl underlying29 rfl rfl sees0)) fun _=>?_
     refine d2_of_d1 (Zy [14] [] hn rfl (zB (Zo 12 rfl (zL rfl rfl rfl (nb hn rfl) underlying29 sz3 zr3 rfl rfl rfl (show _ = [.d (.int .i64 0)] from by kernel_rfl) (by kernel_rfl) rfl rfl rfl rfl rfl) fun _=>?_)))
     refine d2_of_d1 (zB ?_)
     rotate_left
     refine br rfl (zL rfl rfl rfl (nb hn rfl) underlying29 sz3 zr3 rfl rfl rfl (show _ = [.d (.int .i64 0)] from by kernel_rfl) (by kernel_rfl) rfl rfl rfl rfl rfl) fun _=>?_
     refine d2_of_d1 (zB (Ze [10] [12] hn rfl (d2_of_d1 (Zy [14] [] hn rfl (zB ?_)))))
     rotate_left
    rotate_left 2
    focus
     refine br rfl (Zw hn (zX rfl rfl (id:=12) rfl underlying29 rfl rfl sees0)) fun _=>?_
     refine d2_of_d1 (zB ?_)
     refine zj 8 [12] (by kernel_rfl) ⟨?_,?_,trivial⟩
     refine br rfl (s_append (id:=1081) rfl rfl rfl (nb hn rfl) elt29 trivial rfl rfl rfl (by simp [chunk]; omega) (by simp [chunk]; omega) (fun b hb=>trivial)) fun v96=>?_
     refine d2_of_d1 (Zy [14] [] hn rfl (zB (Zo 12 rfl (zL rfl rfl rfl (nb hn rfl) underlying29 sz3 zr3 rfl rfl rfl (show _ = [.d (.int .i64 0)] from by kernel_rfl) (by kernel_rfl) rfl rfl rfl rfl rfl) fun _=>?_)))
     refine d2_of_d1 (zB ?_)
     rotate_left
     refine br rfl (zL rfl rfl rfl (nb hn rfl) underlying29 sz3 zr3 rfl rfl rfl (show _ = [.d (.int .i64 0)] from by kernel_rfl) (by kernel_rfl) rfl rfl rfl rfl rfl) fun _=>?_
     refine d2_of_d1 (zB (Zo 8 rfl (s_append (id:=1081) rfl rfl rfl (nb hn rfl) elt29 trivial rfl rfl rfl (by simp [chunk]; omega) (by simp [chunk]; omega) (fun b hb=>trivial)) fun v96=>?_))
     refine d2_of_d1 (Zy [14] [] hn rfl (zB ?_))
     rotate_left
    rotate_left 2
    focus
     refine br rfl (zL rfl rfl rfl (nb hn rfl) underlying29 sz3 zr3 rfl rfl rfl (show _ = [.d (.int .i64 0)] from by kernel_rfl) (by kernel_rfl) rfl rfl rfl rfl rfl) fun _=>?_
     refine d2_of_d1 (zB ?_)
     refine zj 8 [10] (by kernel_rfl) ⟨?_,?_,trivial⟩
     refine br rfl (s_append (id:=1081) rfl rfl rfl (nb hn rfl) elt29 trivial rfl rfl rfl (by simp [chunk]; omega) (by simp [chunk]; omega) (fun b hb=>trivial)) fun v96=>?_
     refine d2_of_d1 (zB (Ze [10] [12] hn rfl ?_))
     rotate_left
     refine br rfl (Zw hn (zX rfl rfl (id:=12) rfl underlying29 rfl rfl sees0)) fun _=>?_
     refine d2_of_d1 (zB (Zo 8 rfl (s_append (id:=1081) rfl rfl rfl (nb hn rfl) elt29 trivial rfl rfl rfl (by simp [chunk]; omega) (by simp [chunk]; omega) (fun b hb=>trivial)) fun v96=>?_))
     rotate_left
     all_goals
      refine d2_of_d1 (Zy [14] [] hn rfl (zB ?_))
    rotate_left 2
   rotate_left 6
   focus
    refine br rfl (Zw hn (zX rfl rfl (id:=12) rfl underlying29 rfl rfl sees0)) fun _=>?_
    refine d2_of_d1 (zB ?_)
    refine zj 1 [12] (by kernel_rfl) ⟨?_,?_,trivial⟩
    focus
     refine br rfl (Zw hn (zX rfl rfl (id:=12) rfl underlying29 rfl rfl sees0)) fun _=>?_
     refine d2_of_d1 (zB ?_)
     refine zj 8 [12] (by kernel_rfl) ⟨?_,?_,trivial⟩
     refine br rfl (s_append (id:=1081) rfl rfl rfl (nb hn rfl) elt29 trivial rfl rfl rfl (by simp [chunk]; omega) (by simp [chunk]; omega) (fun b hb=>trivial)) fun v96=>?_
     refine d2_of_d1 (Zy [14] [] hn rfl (zB (Zo 12 rfl (zL rfl rfl rfl (nb hn rfl) underlying29 sz3 zr3 rfl rfl rfl (show _ = [.d (.int .i64 0)] from by kernel_rfl) (by kernel_rfl) rfl rfl rfl rfl rfl) fun _=>?_)))
     refine d2_of_d1 (zB ?_)
     rotate_left
     refine br rfl (zL rfl rfl rfl (nb hn rfl) underlying29 sz3 zr3 rfl rfl rfl (show _ = [.d (.int .i64 0)] from by kernel_rfl) (by kernel_rfl) rfl rfl rfl rfl rfl) fun _=>?_
     refine d2_of_d1 (zB (Zo 8 rfl (s_append (id:=1081) rfl rfl rfl (nb hn rfl) elt29 trivial rfl rfl rfl (by simp [chunk]; omega) (by simp [chunk]; omega) (fun b hb=>trivial)) fun v96=>?_))
     refine d2_of_d1 (Zy [14] [] hn rfl (zB ?_))
     rotate_left
    rotate_left 2
    refine br rfl (zL rfl rfl rfl (nb hn rfl) underlying29 sz3 zr3 rfl rfl rfl (show _ = [.d (.int .i64 0)] from by kernel_rfl) (by kernel_rfl) rfl rfl rfl rfl rfl) fun _=>?_
    refine d2_of_d1 (zB (Ze [1] [12] hn rfl (d2_of_d1 (zB (Zo 8 rfl (s_append (id:=1081) rfl rfl rfl (nb hn rfl) elt29 trivial rfl rfl rfl (by simp [chunk]; omega) (by simp [chunk]; omega) (fun b hb=>trivial)) fun v96=>?_)))))
    refine d2_of_d1 (Zy [14] [] hn rfl (zB ?_))
    rotate_left
   rotate_left 3
   focus
    refine br rfl (zL rfl rfl rfl (nb hn rfl) underlying29 sz3 zr3 rfl rfl rfl (show _ = [.d (.int .i64 0)] from by kernel_rfl) (by kernel_rfl) rfl rfl rfl rfl rfl) fun _=>?_
    refine d2_of_d1 (zB ?_)
    refine zj 1 [10] (by kernel_rfl) ⟨?_,?_,trivial⟩
    focus
     refine br rfl (Zw hn (zX rfl rfl (id:=12) rfl underlying29 rfl rfl sees0)) fun _=>?_
     refine d2_of_d1 (zB ?_)
     refine zj 8 [10] (by kernel_rfl) ⟨?_,?_,trivial⟩
     refine br rfl (s_append (id:=1081) rfl rfl rfl (nb hn rfl) elt29 trivial rfl rfl rfl (by simp [chunk]; omega) (by simp [chunk]; omega) (fun b hb=>trivial)) fun v96=>?_
     refine d2_of_d1 (zB (Ze [10] [12] hn rfl ?_))
     rotate_left
     refine br rfl (Zw hn (zX rfl rfl (id:=12) rfl underlying29 rfl rfl sees0)) fun _=>?_
     refine d2_of_d1 (zB (Zo 8 rfl (s_append (id:=1081) rfl rfl rfl (nb hn rfl) elt29 trivial rfl rfl rfl (by simp [chunk]; omega) (by simp [chunk]; omega) (fun b hb=>trivial)) fun v96=>?_))
     rotate_left
    rotate_left 2
    refine br rfl (Zw hn (zX rfl rfl (id:=12) rfl underlying29 rfl rfl sees0)) fun _=>?_
    refine d2_of_d1 (zB (Ze [1] [12] hn rfl (d2_of_d1 (zB (Zo 8 rfl (s_append (id:=1081) rfl rfl rfl (nb hn rfl) elt29 trivial rfl rfl rfl (by simp [chunk]; omega) (by simp [chunk]; omega) (fun b hb=>trivial)) fun v96=>?_)))))
    rotate_left
    all_goals
     refine d2_of_d1 (Zy [14] [] hn rfl (zB ?_))
   rotate_left 3
  rotate_left 12
  focus
   refine br rfl (Zw hn (zX rfl rfl (id:=12) rfl underlying29 rfl rfl sees0)) fun _=>?_
   refine d2_of_d1 (zB ?_)
   refine zj 1 [7,12] (by kernel_rfl) ⟨?_,?_,?_,trivial⟩
   focus
    refine br rfl (Zw hn (zX rfl rfl (id:=12) rfl underlying29 rfl rfl sees0)) fun _=>?_
    refine d2_of_d1 (zB ?_)
    refine zj 7 [12] (by kernel_rfl) ⟨?_,?_,trivial⟩
    focus
     refine br rfl (zL rfl rfl rfl (nb hn rfl) underlying29 sz3 zr3 rfl rfl rfl (show _ = [.d (.int .i64 0)] from by kernel_rfl) (by kernel_rfl) rfl rfl rfl rfl rfl) fun _=>?_
     refine d2_of_d1 (zB ?_)
     refine zj 8 [12] (by kernel_rfl) ⟨?_,?_,trivial⟩
     refine br rfl (s_append (id:=1081) rfl rfl rfl (nb hn rfl) elt29 trivial rfl rfl rfl (by simp [chunk]; omega) (by simp [chunk]; omega) (fun b hb=>trivial)) fun v96=>?_
     refine d2_of_d1 (Zy [14] [] hn rfl (zB (Zo 12 rfl (zL rfl rfl rfl (nb hn rfl) underlying29 sz3 zr3 rfl rfl rfl (show _ = [.d (.int .i64 0)] from by kernel_rfl) (by kernel_rfl) rfl rfl rfl rfl rfl) fun _=>?_)))
     refine d2_of_d1 (zB ?_)
     rotate_left
     refine br rfl (zL rfl rfl rfl (nb hn rfl) underlying29 sz3 zr3 rfl rfl rfl (show _ = [.d (.int .i64 0)] from by kernel_rfl) (by kernel_rfl) rfl rfl rfl rfl rfl) fun _=>?_
     refine d2_of_d1 (zB (Zo 8 rfl (s_append (id:=1081) rfl rfl rfl (nb hn rfl) elt29 trivial rfl rfl rfl (by simp [chunk]; omega) (by simp [chunk]; omega) (fun b hb=>trivial)) fun v96=>?_))
     refine d2_of_d1 (Zy [14] [] hn rfl (zB ?_))
     rotate_left
    rotate_left 2
    refine br rfl (zL rfl rfl rfl (nb hn rfl) underlying29 sz3 zr3 rfl rfl rfl (show _ = [.d (.int .i64 0)] from by kernel_rfl) (by kernel_rfl) rfl rfl rfl rfl rfl) fun _=>?_
    refine d2_of_d1 (zB (Zo 7 rfl (zL rfl rfl rfl (nb hn rfl) underlying29 sz3 zr3 rfl rfl rfl (show _ = [.d (.int .i64 0)] from by kernel_rfl) (by kernel_rfl) rfl rfl rfl rfl rfl) fun _=>?_))
    refine d2_of_d1 (zB (Zo 8 rfl (s_append (id:=1081) rfl rfl rfl (nb hn rfl) elt29 trivial rfl rfl rfl (by simp [chunk]; omega) (by simp [chunk]; omega) (fun b hb=>trivial)) fun v96=>?_))
    refine d2_of_d1 (Zy [14] [] hn rfl (zB ?_))
    rotate_left
   rotate_left 3
   focus
    refine br rfl (zL rfl rfl rfl (nb hn rfl) underlying29 sz3 zr3 rfl rfl rfl (show _ = [.d (.int .i64 0)] from by kernel_rfl) (by kernel_rfl) rfl rfl rfl rfl rfl) fun _=>?_
    refine d2_of_d1 (zB ?_)
    refine zj 1 [12] (by kernel_rfl) ⟨?_,?_,trivial⟩
    focus
     refine br rfl (Zw hn (zX rfl rfl (id:=12) rfl underlying29 rfl rfl sees0)) fun _=>?_
     refine d2_of_d1 (zB ?_)
     refine zj 8 [12] (by kernel_rfl) ⟨?_,?_,trivial⟩
     refine br rfl (s_append (id:=1081) rfl rfl rfl (nb hn rfl) elt29 trivial rfl rfl rfl (by simp [chunk]; omega) (by simp [chunk]; omega) (fun b hb=>trivial)) fun v96=>?_
     refine d2_of_d1 (Zy [14] [] hn rfl (zB (Zo 12 rfl (zL rfl rfl rfl (nb hn rfl) underlying29 sz3 zr3 rfl rfl rfl (show _ = [.d (.int .i64 0)] from by kernel_rfl) (by kernel_rfl) rfl rfl rfl rfl rfl) fun _=>?_)))
     refine d2_of_d1 (zB ?_)
     rotate_left
     refine br rfl (zL rfl rfl rfl (nb hn rfl) underlying29 sz3 zr3 rfl rfl rfl (show _ = [.d (.int .i64 0)] from by kernel_rfl) (by kernel_rfl) rfl rfl rfl rfl rfl) fun _=>?_
     refine d2_of_d1 (zB (Zo 8 rfl (s_append (id:=1081) rfl rfl rfl (nb hn rfl) elt29 trivial rfl rfl rfl (by simp [chunk]; omega) (by simp [chunk]; omega) (fun b hb=>trivial)) fun v96=>?_))
     refine d2_of_d1 (Zy [14] [] hn rfl (zB ?_))
     rotate_left
    rotate_left 2
    refine br rfl (zL rfl rfl rfl (nb hn rfl) underlying29 sz3 zr3 rfl rfl rfl (show _ = [.d (.int .i64 0)] from by kernel_rfl) (by kernel_rfl) rfl rfl rfl rfl rfl) fun _=>?_
    refine d2_of_d1 (zB (Ze [1] [12] hn rfl (d2_of_d1 (zB (Zo 8 rfl (s_append (id:=1081) rfl rfl rfl (nb hn rfl) elt29 trivial rfl rfl rfl (by simp [chunk]; omega) (by simp [chunk]; omega) (fun b hb=>trivial)) fun v96=>?_)))))
    refine d2_of_d1 (Zy [14] [] hn rfl (zB ?_))
    rotate_left
   rotate_left 3
   focus
    refine br rfl (zL rfl rfl rfl (nb hn rfl) underlying29 sz3 zr3 rfl rfl rfl (show _ = [.d (.int .i64 0)] from by kernel_rfl) (by kernel_rfl) rfl rfl rfl rfl rfl) fun _=>?_
    refine d2_of_d1 (zB ?_)
    refine zj 1 [7] (by kernel_rfl) ⟨?_,?_,trivial⟩
    refine br rfl (Zw hn (zX rfl rfl (id:=12) rfl underlying29 rfl rfl sees0)) fun _=>?_
    refine d2_of_d1 (zB (Zo 7 rfl (zL rfl rfl rfl (nb hn rfl) underlying29 sz3 zr3 rfl rfl rfl (show _ = [.d (.int .i64 0)] from by kernel_rfl) (by kernel_rfl) rfl rfl rfl rfl rfl) fun _=>?_))
    rotate_left
    refine br rfl (zL rfl rfl rfl (nb hn rfl) underlying29 sz3 zr3 rfl rfl rfl (show _ = [.d (.int .i64 0)] from by kernel_rfl) (by kernel_rfl) rfl rfl rfl rfl rfl) fun _=>?_
    refine d2_of_d1 (zB (Ze [1] [12] hn rfl ?_))
    rotate_left
    all_goals
     refine d2_of_d1 (zB (Zo 8 rfl (s_append (id:=1081) rfl rfl rfl (nb hn rfl) elt29 trivial rfl rfl rfl (by simp [chunk]; omega) (by simp [chunk]; omega) (fun b hb=>trivial)) fun v96=>?_))
     refine d2_of_d1 (Zy [14] [] hn rfl (zB ?_))
   rotate_left 2
  rotate_left 8
  focus
   refine br rfl (zL rfl rfl rfl (nb hn rfl) underlying29 sz3 zr3 rfl rfl rfl (show _ = [.d (.int .i64 0)] from by kernel_rfl) (by kernel_rfl) rfl rfl rfl rfl rfl) fun _=>?_
   refine d2_of_d1 (zB ?_)
   refine zj 1 [7,10] (by kernel_rfl) ⟨?_,?_,?_,trivial⟩
   focus
    refine br rfl (Zw hn (zX rfl rfl (id:=12) rfl underlying29 rfl rfl sees0)) fun _=>?_
    refine d2_of_d1 (zB ?_)
    refine zj 7 [10] (by kernel_rfl) ⟨?_,?_,trivial⟩
    focus
     refine br rfl (zL rfl rfl rfl (nb hn rfl) underlying29 sz3 zr3 rfl rfl rfl (show _ = [.d (.int .i64 0)] from by kernel_rfl) (by kernel_rfl) rfl rfl rfl rfl rfl) fun _=>?_
     refine d2_of_d1 (zB ?_)
     refine zj 8 [10] (by kernel_rfl) ⟨?_,?_,trivial⟩
     refine br rfl (s_append (id:=1081) rfl rfl rfl (nb hn rfl) elt29 trivial rfl rfl rfl (by simp [chunk]; omega) (by simp [chunk]; omega) (fun b hb=>trivial)) fun v96=>?_
     refine d2_of_d1 (zB (Ze [10] [12] hn rfl ?_))
     rotate_left
     refine br rfl (Zw hn (zX rfl rfl (id:=12) rfl underlying29 rfl rfl sees0)) fun _=>?_
     refine d2_of_d1 (zB (Zo 8 rfl (s_append (id:=1081) rfl rfl rfl (nb hn rfl) elt29 trivial rfl rfl rfl (by simp [chunk]; omega) (by simp [chunk]; omega) (fun b hb=>trivial)) fun v96=>?_))
     rotate_left
    rotate_left 2
    refine br rfl (Zw hn (zX rfl rfl (id:=12) rfl underlying29 rfl rfl sees0)) fun _=>?_
    refine d2_of_d1 (zB (Zo 7 rfl (zL rfl rfl rfl (nb hn rfl) underlying29 sz3 zr3 rfl rfl rfl (show _ = [.d (.int .i64 0)] from by kernel_rfl) (by kernel_rfl) rfl rfl rfl rfl rfl) fun _=>?_))
    refine d2_of_d1 (zB (Zo 8 rfl (s_append (id:=1081) rfl rfl rfl (nb hn rfl) elt29 trivial rfl rfl rfl (by simp [chunk]; omega) (by simp [chunk]; omega) (fun b hb=>trivial)) fun v96=>?_))
    rotate_left
   rotate_left 3
   focus
    refine br rfl (zL rfl rfl rfl (nb hn rfl) underlying29 sz3 zr3 rfl rfl rfl (show _ = [.d (.int .i64 0)] from by kernel_rfl) (by kernel_rfl) rfl rfl rfl rfl rfl) fun _=>?_
    refine d2_of_d1 (zB ?_)
    refine zj 1 [10] (by kernel_rfl) ⟨?_,?_,trivial⟩
    focus
     refine br rfl (Zw hn (zX rfl rfl (id:=12) rfl underlying29 rfl rfl sees0)) fun _=>?_
     refine d2_of_d1 (zB ?_)
     refine zj 8 [10] (by kernel_rfl) ⟨?_,?_,trivial⟩
     refine br rfl (s_append (id:=1081) rfl rfl rfl (nb hn rfl) elt29 trivial rfl rfl rfl (by simp [chunk]; omega) (by simp [chunk]; omega) (fun b hb=>trivial)) fun v96=>?_
     refine d2_of_d1 (zB (Ze [10] [12] hn rfl ?_))
     rotate_left
     refine br rfl (Zw hn (zX rfl rfl (id:=12) rfl underlying29 rfl rfl sees0)) fun _=>?_
     refine d2_of_d1 (zB (Zo 8 rfl (s_append (id:=1081) rfl rfl rfl (nb hn rfl) elt29 trivial rfl rfl rfl (by simp [chunk]; omega) (by simp [chunk]; omega) (fun b hb=>trivial)) fun v96=>?_))
     rotate_left
    rotate_left 2
    refine br rfl (Zw hn (zX rfl rfl (id:=12) rfl underlying29 rfl rfl sees0)) fun _=>?_
    refine d2_of_d1 (zB (Ze [1] [12] hn rfl (d2_of_d1 (zB (Zo 8 rfl (s_append (id:=1081) rfl rfl rfl (nb hn rfl) elt29 trivial rfl rfl rfl (by simp [chunk]; omega) (by simp [chunk]; omega) (fun b hb=>trivial)) fun v96=>?_)))))
    rotate_left
   rotate_left 3
   focus
    refine br rfl (Zw hn (zX rfl rfl (id:=12) rfl underlying29 rfl rfl sees0)) fun _=>?_
    refine d2_of_d1 (zB ?_)
    refine zj 1 [7] (by kernel_rfl) ⟨?_,?_,trivial⟩
    refine br rfl (Zw hn (zX rfl rfl (id:=12) rfl underlying29 rfl rfl sees0)) fun _=>?_
    refine d2_of_d1 (zB (Zo 7 rfl (zL rfl rfl rfl (nb hn rfl) underlying29 sz3 zr3 rfl rfl rfl (show _ = [.d (.int .i64 0)] from by kernel_rfl) (by kernel_rfl) rfl rfl rfl rfl rfl) fun _=>?_))
    rotate_left
    refine br rfl (zL rfl rfl rfl (nb hn rfl) underlying29 sz3 zr3 rfl rfl rfl (show _ = [.d (.int .i64 0)] from by kernel_rfl) (by kernel_rfl) rfl rfl rfl rfl rfl) fun _=>?_
    refine d2_of_d1 (zB (Ze [1] [12] hn rfl ?_))
    rotate_left
    all_goals
     refine d2_of_d1 (zB (Zo 8 rfl (s_append (id:=1081) rfl rfl rfl (nb hn rfl) elt29 trivial rfl rfl rfl (by simp [chunk]; omega) (by simp [chunk]; omega) (fun b hb=>trivial)) fun v96=>?_))
   rotate_left 2
   all_goals
    refine d2_of_d1 (Zy [14] [] hn rfl (zB ?_))
  rotate_left 8
  all_goals
   refine Zo 13 rfl (s_append (id:=1082) rfl rfl rfl (nb hn rfl) elt29 trivial rfl rfl rfl (by simp [chunk]; omega) (by simp [chunk]; omega) (fun b hb=>trivial)) fun v101=>?_
   refine d2_of_d1 (zB (Zo 15 rfl (s_storeRow rfl rfl rfl rfl rfl (rid:=1081) rfl (id:=12) rfl sz29 (Nat.le_of_ble_eq_true rfl) rfl trivial) fun _=>?_))
   refine d2_of_d1 (Zy [16] [] hn rfl (zB (Zo 17 rfl (s_storeRow rfl rfl rfl rfl rfl (rid:=1082) rfl (id:=12) rfl sz29 (Nat.le_of_ble_eq_true rfl) rfl trivial) fun _=>?_)))
   refine d2_of_d1 (zB (zb (by kernel_rfl) ?_))
   refine zP (zA (zG (Zt 1 [] hn rfl (Zs hn (za rfl rfl rfl (r:=((i + 1:Nat):Int)) (i64w (by omega) (by omega))) ?_))))
   refine Zt 1 [] hn rfl (zR ?_)
   exact Zr ⟨(i + 1,la2,(ps ++ [sl.price],v96),(ms ++ [la2],v101)),by simp; omega⟩ ⟨.inl rfl,.inl rfl,zF _⟩ ⟨.inl rfl,.inl (congrArg (fun z=>some (Res.row v96 3 1 z)) (by rw [List.map_append]; rfl)),.inl (congrArg (fun z=>some (Res.row v101 3 1 z)) (by rw [List.map_append]; rfl)),trivial⟩ (by simp only; omega)
 obtain rfl:i = l.length:=by simp at hb2; omega
 refine zV (zE (zE (zM (zA (zC (Zu (Zt 1 [] hn rfl (Zv (zK (awp_loop_on (ι:={x:Nat × List Int × Value // x.1 ≤ d.orders.length ∧ x.2.1.length = x.1}) (fun x=>(15,true,.d (.int .i64 (x.1.1:Nat))) :: anys [104,105,106,107,108,111,112,113,114,115,116,16,117,118,119,120,121,122,123,124,125,126,127,128,129,130,131,132,133,134,135,109,110]) (fun x=>(12,.box b12 31 [.val vp,.val vm,.val x.1.2.2]) :: (1083,.row x.1.2.2 3 1 (x.1.2.1.map intE)) :: gones [16]) (fun x=>d.orders.length - x.1.1) ⟨(0,[],.slice none 0 0),by simp⟩ ⟨.inl rfl,zF _⟩ ⟨.inl rfl,.inl rfl,zS _⟩ ?_))))))))))
 rintro ⟨⟨n,os,vo⟩,hn1,hos⟩
 dsimp only
 dsimp only at hn1 hos
 refine zC (Zu (Zt 5 [2] hn rfl (Zv (zH rfl (fun hb3=>?_) (fun hb3=>?_)))))
 ·
  have hnl:n < d.orders.length:=by simp at hb3; omega
  obtain ⟨o,hod⟩:=zT hnl
  have hbo:=zA9 (hob o (List.mem_of_getElem? hod))
  have hwb:=zBo hw (n + 7)
  have hmo:=zGi (a:=(wrd ws (n + 7):Nat)) (b:=o.mhi - o.mlo + 1) (by omega) (by omega)
  refine zI (zA (zC (zK (Zu (Zt 3 [2] hn rfl (Zi (i:=n) hn rfl rfl (mget hod) ?_))))))
  refine Zt 2 [] hn rfl (Zb 16 hn rfl fun b16=>Zt 1 [16] hn rfl (Zv (ze (W:=fun b=>b ≠ b16) fmo ?_)))
  refine Zy [0,2,3,4,5] [16] hn rfl (Zd 6 rfl hn (za rfl rfl rfl (r:=((n + 7:Nat):Int)) (i64w (by omega) (by omega))) ?_)
  refine Zy [8,9,10,11] [16,16] hn rfl (Zd 12 rfl hn (yD rfl rfl rfl (i64w (by omega) rfl)) ?_)
  refine Zd 13 rfl hn (za rfl rfl rfl (i64w (by omega) rfl)) ?_
  refine zB ?_
  refine zj 1 [7] (by kernel_rfl) ⟨?_,?_,trivial⟩
  refine br rfl (Zw hn (zX rfl rfl (id:=12) rfl underlying29 rfl rfl sees0)) fun _=>?_
  refine d2_of_d1 (zB (Ze1 7 rfl hn rfl (zDG _ _ (by assumption)) (d2_of_d1 (Zd 14 rfl hn (ye rfl rfl rfl (by omega) rfl) ?_))))
  refine Zd 15 rfl hn (za rfl rfl rfl (i64w (by omega) rfl)) ?_
  refine zB (Zo 16 rfl (zL rfl rfl rfl (nb hn rfl) underlying29 sz3 zr3 rfl rfl rfl (show _ = [.d (.int .i64 0)] from by kernel_rfl) (by kernel_rfl) rfl rfl rfl rfl rfl) fun _=>?_)
  rotate_left
  focus
   refine br rfl (s_call [] (fun _=>zDG _ _ (by assumption)) rfl (yB rfl) rfl (nb hn rfl) (fun _=>trivial) rfl rfl (.refl _)) fun _=>?_
   refine d2_of_d1 (Zd 14 rfl hn (ye rfl rfl rfl (by omega) rfl) ?_)
   refine Zd 15 rfl hn (za rfl rfl rfl (i64w (by omega) rfl)) ?_
   refine zB ?_
   refine zj 1 [16] (by kernel_rfl) ⟨?_,?_,trivial⟩
   refine br rfl (Zw hn (zX rfl rfl (id:=12) rfl underlying29 rfl rfl sees0)) fun _=>?_
   refine d2_of_d1 (zB (Zo 16 rfl (zL rfl rfl rfl (nb hn rfl) underlying29 sz3 zr3 rfl rfl rfl (show _ = [.d (.int .i64 0)] from by kernel_rfl) (by kernel_rfl) rfl rfl rfl rfl rfl) fun _=>?_))
   rotate_left
   refine br rfl (zL rfl rfl rfl (nb hn rfl) underlying29 sz3 zr3 rfl rfl rfl (show _ = [.d (.int .i64 0)] from by kernel_rfl) (by kernel_rfl) rfl rfl rfl rfl rfl) fun _=>?_
   refine d2_of_d1 (zB (Ze [1] [12] hn rfl ?_))
   rotate_left
  rotate_left 2
  all_goals
   refine d2_of_d1 (zB (yC (i:=1083) (j:=16) rfl rfl rfl (fun hne1083_16=>?_)))
   refine Zo 17 rfl (s_append (id:=1083) rfl rfl rfl (nb hn rfl) elt29 trivial rfl rfl rfl (by simp [chunk]; omega) (by simp [chunk]; omega) (fun b hb=>(fun e=>hne1083_16 _ hb (congrArg some e.symm)))) fun v134=>?_
   refine d2_of_d1 (Zy [18] [] hn rfl (zB (yC (i:=12) (j:=16) rfl rfl rfl (fun hne12_16=>?_))))
   refine Zo 19 rfl (s_storeRow rfl rfl rfl rfl rfl (rid:=1083) rfl (id:=12) rfl sz29 (Nat.le_of_ble_eq_true rfl) rfl (fun e=>hne12_16 _ rfl (congrArg some e.symm))) fun _=>?_
   refine d2_of_d1 (zB (zb (by kernel_rfl) ?_))
   refine zP (zA (zG (Zt 1 [] hn rfl (Zs hn (za rfl rfl rfl (r:=((n + 1:Nat):Int)) (i64w (by omega) (by omega))) ?_))))
   refine Zt 1 [] hn rfl (zR ?_)
   exact Zr ⟨(n + 1,os ++ [o.mlo + (wrd ws (n + 7):Int).tmod (o.mhi - o.mlo + 1)],v134),by simp; omega⟩ ⟨.inl rfl,zF _⟩ ⟨.inl rfl,.inl (congrArg (fun z=>some (Res.row v134 3 1 z)) (by rw [List.map_append]; rfl)),zS _⟩ (by simp only; omega)
 obtain rfl:n = d.orders.length:=by simp at hb3; omega
 refine zV (zE (zE (zM (zA (zC (zo (gh_rowcell (id:=12) (k:=0) (rid:=1081) rfl rfl rfl) ?_))))))
 refine zo (gh_rowcell (id:=12) (k:=1) (rid:=1082) rfl rfl rfl) ?_
 refine zo (gh_rowcell (id:=12) (k:=2) (rid:=1083) rfl rfl rfl) ?_
 refine ze (W:=fun b=>b ≠ b2 ∧ b ≠ b12) fmo ?_
 refine Zy [0,1,2,3,4] [2,12,2,12] hn rfl (zB ?_)
 refine Ze1 5 rfl hn rfl ((by have h:=zHF (tldD d ws) (fltI (tldD d ws)) ⟨ps,ms,os⟩ v (show d.orders.length ≤ 1000 by omega) zDN.1 zDN.2; rw [hfl] at h; exact h)) ?_
 refine d2_of_d1 (zB (yC (i:=4) (j:=2) rfl rfl rfl (fun hne4_2=>?_)))
 refine yC (i:=4) (j:=12) rfl rfl rfl (fun hne4_12=>?_)
 refine Zo 6 rfl (zz rfl rfl rfl rfl rfl rfl (id:=4) rfl sz27 rfl (Nat.le_of_ble_eq_true rfl) rfl ⟨fun e=>hne4_2 _ rfl (congrArg some e.symm),fun e=>hne4_12 _ rfl (congrArg some e.symm)⟩) fun _=>?_
 refine d2_of_d1 (zB (yC (i:=5) (j:=2) rfl rfl rfl (fun hne5_2=>?_)))
 refine yC (i:=5) (j:=12) rfl rfl rfl (fun hne5_12=>?_)
 refine Zo 7 rfl (zz rfl rfl rfl rfl rfl rfl (id:=5) rfl sz31 rfl (Nat.le_of_ble_eq_true rfl) rfl ⟨fun e=>hne5_2 _ rfl (congrArg some e.symm),fun e=>hne5_12 _ rfl (congrArg some e.symm)⟩) fun _=>?_
 refine d2_of_d1 (Zy [8] [] hn rfl (zB (zb (by kernel_rfl) ?_)))
 refine zA (zJ ?_)
 exact ret_E (.inl rfl) ⟨(tldD d ws,⟨ps,ms,os⟩,isTB (tldD d ws) l ⟨ps,ms,os⟩),by rw [← hfl]; exact told_ok v hw q1 hb7 h0 (by rw [hfl]; exact ht)⟩ (zBy rfl (.d (.cellA rfl (id:=4) rfl underlying27 rfl sz27 rfl rfl)) (.d (.cellA rfl (id:=5) rfl underlying31 rfl sz31 rfl rfl)) (.tmp rfl)) trivial
end Go.Proofs.YticlpkgpmmhemaaGreatDoor
namespace Go.Proofs.YticlpkgpmmhemaaGreatDoor
open Go.RowKit
set_option linter.all false
theorem zEg {x:Dsk} {t:Tru} (h0:deskI x = 0) (hT:TruW x (readI x.b x.tape).1 t) (ht:timesB (readI x.b x.tape).1 = true) {os:List Int} (hos:∀ n ∈ os,0 ≤ n ∧ n < x.orders.length):sureO x os = 0:=by
  obtain ⟨hr0,ho5,hf,hob⟩:=yQ h0
  obtain ⟨hpo,hl8⟩:=yZ (b:=x.b) (s:=x.tape)
  have v:=yt hr0
  have h1:(os.all fun n=>withinB n 0 ((x.orders.length:Int) - 1)) = true:=List.all_eq_true.2 fun n hn=>zl.2 (by have:=hos n hn; omega)
  have h2:(pricesI x.b x.tape).2 = 0:=by
    obtain ⟨ms,hms⟩:=Option.isSome_iff_exists.1 ((y3 (out:=[]) (o:=0) kU v hpo).1.2 ⟨_,hT.tr⟩)
    unfold pricesI
    rw [hr0,hms]; rfl
  have h3:(minutesI x.b x.tape).2 = 0:=by
    unfold minutesI
    rw [hr0,zDy hpo,ht]; rfl
  unfold sureO
  rw [h0,h1,h2,h3]; rfl
theorem zHX {d:Dsk} {l:List Prt} {mm:List (Int × Int)} (h:SurH d l mm) {j:Nat} {o:Ord} (hod:d.orders[j]? = some o):OddOK d.b l o:=⟨h.v,h.po,(zA9 (h.ob o (List.mem_of_getElem? hod))).1,h.ex⟩
/-- What the program answers about a desk with a truth. -/
structure TldF (x:Dsk) (t:Tru) (l:List Prt) (mm:List (Int × Int)) (fs bs:List (Int × Int)) (vs:List Int):Prop where
  S:SurH x l mm
  T:TruW x l t
  hl:(readI x.b x.tape).1 = l
  p:playI x t = (fs,0)
  b:boundsI x = (bs,0)
  v:verdsI x = (vs,0)
  fl:fs.length = x.orders.length
  bl:bs.length = x.orders.length
  vl:vs.length = x.orders.length
  pv:(deskI x == 0 && truthW x (readI x.b x.tape).1 t) = true
  su:∀ j:Nat,j < x.orders.length → sureO x [(j:Int)] = 0
  at_:∀ j o,x.orders[j]? = some o → fs[j]? = some (fillGo x.fee o (t.orders.getD j 0) t.prices t.minutes 0 l) ∧ bs[j]? = some (bndI x.b l x.fee o mm).1 ∧ vs[j]? = some (verdI x.b l x.fee o mm) ∧ salesI x (j:Nat) = (salesO x.b l x.fee o mm,0)
theorem tld_facts {x:Dsk} {t:Tru} (h0:deskI x = 0) (hT:TruW x (readI x.b x.tape).1 t) (ht:timesB (readI x.b x.tape).1 = true):∃ l mm fs bs vs,TldF x t l mm fs bs vs:=by
  have hs:=zEg h0 hT ht (os:=[]) (fun n hn=>by cases hn)
  obtain ⟨hS,_⟩:=y4 hs
  have hw:=(zAG (yQ h0).1).2 hT
  refine ⟨_,_,fillsN x.fee (readI x.b x.tape).1 t x.orders x.orders.length,(x.orders.map fun o=>(bndI x.b (readI x.b x.tape).1 x.fee o (minutesI x.b x.tape).1).1),(x.orders.map fun o=>verdI x.b (readI x.b x.tape).1 x.fee o (minutesI x.b x.tape).1),hS,hT,rfl,?_,?_,?_,yd _,?_,?_,?_,fun j hj=>zEg h0 hT ht (os:=[(j:Int)]) (fun n hn=>by simp at hn; omega),fun j o hod=>⟨?_,?_,?_,?_⟩⟩
  · unfold playI; rw [h0,hw]; rfl
  · unfold boundsI; rw [hs]; rfl
  · unfold verdsI; rw [hs]; rfl
  · simp
  · simp
  · rw [h0,hw]; rfl
  · have hj:=(List.getElem?_eq_some_iff.1 hod).1
    rw [zAi hj,zQ hod]
  · rw [List.getElem?_map,hod]; rfl
  · rw [List.getElem?_map,hod]; rfl
  · have hj:=(List.getElem?_eq_some_iff.1 hod).1
    have hs1:=zEg h0 hT ht (os:=[(j:Int)]) (fun n hn=>by simp at hn; omega)
    unfold salesI
    rw [hs1,Int.toNat_natCast,zQ hod]; rfl
theorem verd_miss {b:Brd} {l:List Prt} {fee:Int} {o:Ord} {mm:List (Int × Int)}:verdI b l fee o mm = 1 ↔ missI b l fee o mm = false:=by
  unfold verdI
  cases missI b l fee o mm <;> cases (bndI b l fee o mm).2 <;> decide
end Go.Proofs.YticlpkgpmmhemaaGreatDoor
namespace Go.Proofs.YticlpkgpmmhemaaGreatDoor
open Go.RowKit
set_option maxRecDepth 20000
set_option linter.all false
set_option maxHeartbeats 4000000
theorem tld_get {d:Dsk} {x:Dsk} {t:Tru} (h:ToldP d (x,t,true)) (hN:NamesOK d.b):∃ l mm fs bs vs,TldF x t l mm fs bs vs ∧ NamesOK x.b ∧ x.tape.length ≤ 300 ∧ x.orders.length ≤ 8 ∧ x.b.stocks.length ≤ 7 ∧ t.prices.length ≤ 8 ∧ t.minutes.length ≤ 8 ∧ t.orders.length ≤ 8:=by
  obtain ⟨h1,h2,h3,h4,h5,h6⟩:=h.ok rfl
  obtain ⟨l,mm,fs,bs,vs,hF⟩:=tld_facts h4 h5 h6
  have e1:x.b = d.b:=h.b
  have e2:x.orders = d.orders:=h.os
  have hp:t.prices.length = (readI x.b x.tape).1.length:=h5.pl
  have hm:t.minutes.length = (readI x.b x.tape).1.length:=h5.ml
  have ho:t.orders.length = x.orders.length:=h5.ol
  have h8:=(yZ (b:=x.b) (s:=x.tape)).2
  exact ⟨l,mm,fs,bs,vs,hF,by rw [e1]; exact hN,h2,by rw [e2]; exact h1,by rw [e1]; exact h3,by omega,by omega,by rw [ho,e2]; exact h1⟩
end Go.Proofs.YticlpkgpmmhemaaGreatDoor
namespace Go.Proofs.YticlpkgpmmhemaaGreatDoor
open Go.RowKit
set_option linter.all false
theorem zFd {b:Brd} {l:List Prt} {fee:Int} {o:Ord} {mm:List (Int × Int)} (h:OddOK b l o):missI b l fee o mm = true ↔ ∃ (fr:Nat) (f:Nat → Int),fr ≤ l.length ∧ waitsB o mm fr = true ∧ TruF b l 0 f ∧ MissP fee o l f fr:=by
  rw [zDv]
  constructor
  · rintro ⟨fr,m,hm,_⟩
    obtain ⟨h1,h2,f,hf,hM⟩:=(zFB h fee mm fr).1 (by rw [hm]; rfl)
    exact ⟨fr,f,h1,h2,hf,hM⟩
  · rintro ⟨fr,f,h1,h2,hf,hM⟩
    obtain ⟨m,hm⟩:=Option.isSome_iff_exists.1 ((zFB h fee mm fr).2 ⟨h1,h2,f,hf,hM⟩)
    exact ⟨fr,m,hm,trivial⟩
theorem kp {t:List UInt8}:∀ {s cur:List UInt8},splitGo (s ++ 32 :: t) cur = splitGo s cur ++ splitGo t []
  | [],cur=>rfl
  | x :: s,cur=>by
    rw [List.cons_append]
    show (bif x == 32 then cur :: splitGo (s ++ 32 :: t) [] else splitGo (s ++ 32 :: t) (cur ++ [x])) = (bif x == 32 then cur :: splitGo s [] else splitGo s (cur ++ [x])) ++ splitGo t []
    cases x == 32
    · simp only [cond_false]; exact kp
    · simp only [cond_true,List.cons_append]; rw [kp]
theorem zBZ {a:List UInt8} (h:(32:UInt8) ∉ a):splitGo a [] = [a]:=by
  have:=y5 (t:=[]) (cur:=[]) h
  rw [List.append_nil] at this
  exact this
theorem toks_add {s nm fg:List UInt8} (hs:s ≠ []) (hn:(32:UInt8) ∉ nm) (hf:(32:UInt8) ∉ fg):toksOf (s ++ 32 :: (nm ++ 32 :: fg)) = toksOf s ++ [readT nm,readT fg]:=by
  rw [zAC _ _ (Nat.le_refl _) (by simp),zAC _ _ (Nat.le_refl _) hs,kp,kp,zBZ hn,zBZ hf]
  simp
theorem zE8 {b:Brd} {us:List Tok}:∀ {ts:List Tok} {w:Wrk},(actsGo b ts w).1 = 0 → actsGo b (ts ++ us) w = actsGo b us (actsGo b ts w).2
  | [],w,_=>rfl
  | t :: ts,w,h=>by
    rw [List.cons_append]
    simp only [actsGo] at h ⊢
    cases e:actE b w t != 0 <;> rw [e] at h
    · simp only [cond_false] at h ⊢; exact zE8 h
    · simp only [cond_true] at h
      rw [h] at e; cases e
theorem named_kind {nm:List UInt8} (h:namedB nm = true):(readT nm).kind.toNat = 0 ∨ (readT nm).kind.toNat = 1 ∨ (readT nm).kind.toNat = 7 ∨ (readT nm).kind.toNat = 8:=by
  unfold readT
  rw [h]
  cases nm == [] <;> cases nm == [33] <;> cases nm == [63] <;> simp
theorem named_out {w:Wrk} {b:Brd} {t:Tok}:(namedW w b t).out = w.out:=by
  unfold namedW
  cases decide (nameI b t < 0) <;> rfl
/-- The tape with one more sale. -/
theorem read_more {b:Brd} {s nm fg:List UInt8} {l:List Prt} (h:readI b s = (l,0)) (hn:namedB nm = true) (hn2:(32:UInt8) ∉ nm) (hf:(32:UInt8) ∉ fg) (hk:(readT fg).kind = 3) (he:(readI b (s ++ 32 :: (nm ++ 32 :: fg))).2 = 0):∃ p,(readI b (s ++ 32 :: (nm ++ 32 :: fg))).1 = l ++ [p]:=by
  by_cases hs:s = []
  · exfalso
    subst hs
    have ht:toksOf ([] ++ 32 :: (nm ++ 32 :: fg)) = readT [] :: [readT nm,readT fg]:=by
      rw [zAC _ _ (Nat.le_refl _) (by simp),kp,kp,zBZ hn2,zBZ hf]
      rfl
    unfold readI at he
    rw [ht] at he
    have e0:∀ w,actE b w (readT []) = 4:=fun w=>rfl
    simp only [actsGo,e0] at he
    cases e1:checkT b != 0 <;> rw [e1] at he
    · cases e2:decide (160 < ((([]:List UInt8) ++ 32 :: (nm ++ 32 :: fg)).length:Int)) <;> rw [e2] at he
      · have he2:(4:Int) = 0:=he
        cases he2
      · have he2:(3:Int) = 0:=he
        cases he2
    · simp only [cond_true] at he
      rw [he] at e1; cases e1
  · have ht:=toks_add hs hn2 hf
    unfold readI at h he ⊢
    rw [ht] at he ⊢
    generalize s ++ 32 :: (nm ++ 32 :: fg) = y at he ⊢
    cases e1:checkT b != 0 <;> rw [e1] at h he
    · cases e2:decide (160 < (s.length:Int)) <;> rw [e2] at h
      · cases e3:decide (160 < (y.length:Int)) <;> rw [e3] at he
        · simp only [cond_false] at h he ⊢
          cases e4:(actsGo b (toksOf s) wrk0).1 != 0 <;> rw [e4] at h
          · have e5:(actsGo b (toksOf s) wrk0).1 = 0:=by simpa using e4
            rw [zE8 e5] at he ⊢
            generalize (actsGo b (toksOf s) wrk0).2 = w at h he ⊢
            cases e6:decide (0 < w.number) <;> rw [e6] at h
            · simp only [cond_false,Prod.mk.injEq] at h
              obtain ⟨hl,_⟩:=h
              subst hl
              simp only [actsGo] at he ⊢
              have e7:(actE b w (readT nm) != 0) = false:=by
                cases e7:actE b w (readT nm) != 0
                · rfl
                · exfalso
                  simp only [e7,cond_true] at he
                  rw [he] at e7; cases e7
              simp only [e7,cond_false] at he ⊢
              have hw:(actW b w (readT nm)).out = w.out:=by
                have hz:(readT nm).kind.toNat ≠ 0:=fun hz=>by
                  unfold actE at e7; rw [hz] at e7; cases e7
                unfold actW
                rcases named_kind hn with hq | hq | hq | hq
                · exact (hz hq).elim
                · rw [hq]; exact named_out
                all_goals (rw [hq]; rfl)
              generalize actW b w (readT nm) = w2 at he hw ⊢
              rw [← hw]
              have a1:actE b w2 (readT fg) = saleE w2:=by unfold actE; rw [hk]; rfl
              have a2:actW b w2 (readT fg) = saleW w2 b (readT fg):=by unfold actW; rw [hk]; rfl
              rw [a1,a2] at he ⊢
              have e8:decide (w2.stock < 0) = false:=by
                cases e8:decide (w2.stock < 0)
                · rfl
                · exfalso
                  have e9:saleE w2 = 8:=by unfold saleE; rw [e8]; rfl
                  rw [e9] at he
                  have he2:(8:Int) = 0:=he
                  cases he2
              have e9:((w2.out.length:Int) == 8) = false:=by
                cases e9:(w2.out.length:Int) == 8
                · rfl
                · exfalso
                  have e10:saleE w2 = 3:=by unfold saleE; rw [e8,e9]; rfl
                  rw [e10] at he
                  have he2:(3:Int) = 0:=he
                  cases he2
              have e10:saleE w2 = 0:=by unfold saleE; rw [e8,e9]; rfl
              have e11:saleW w2 b (readT fg) = { w2 with number:=0,out:=w2.out ++ [saleP w2 b (readT fg)] }:=by unfold saleW; rw [e8,e9]; rfl
              rw [e10,e11]
              exact ⟨saleP w2 b (readT fg),rfl⟩
            · simp only [cond_true,cond_false,Prod.mk.injEq] at h
              exact absurd h.2 (by decide)
          · simp only [cond_true,cond_false,Prod.mk.injEq] at h
            rw [h.2] at e4; cases e4
        · have he2:(3:Int) = 0:=he
          cases he2
      · simp only [cond_false,cond_true,Prod.mk.injEq] at h
        exact absurd h.2 (by decide)
    · simp only [cond_true,cond_false,Prod.mk.injEq] at h
      rw [h.2] at e1; cases e1
@[reducible] def figT (n:Nat):List UInt8:=Lib.decDigits (n / 8) ++ [46] ++ Lib.decDigits (n % 8)
theorem fig_all:(List.range 80).all (fun n=>(readT (figT n)).kind == 3 && !((figT n).contains 32)) = true:=by kernel_rfl
theorem fig_is {n:Nat} (h:n < 80):(readT (figT n)).kind = 3 ∧ (32:UInt8) ∉ figT n:=by
  have:=List.all_eq_true.1 fig_all n (List.mem_range.2 h)
  simp only [Bool.and_eq_true,beq_iff_eq,Bool.not_eq_true',List.contains_eq_mem,decide_eq_false_iff_not] at this
  exact this
theorem named_sp {nm:List UInt8} (h:namedB nm = true):(32:UInt8) ∉ nm:=fun hm=>by
  unfold namedB at h
  have:=List.all_eq_true.1 (Bool.and_eq_true_iff.1 h).2 _ hm
  exact absurd this (by decide)
/-- The bounds of the minutes, with one more sale. -/
theorem getD_app0 {l:List Prt} {p:Prt} {i:Nat} (h:i < l.length):(l ++ [p]).getD i prt0 = l.getD i prt0:=by
  rw [List.getD_eq_getElem?_getD,List.getElem?_append_left h,← List.getD_eq_getElem?_getD]
theorem zGG {l:List Prt} {p:Prt}:∀ k,k ≤ l.length → loU (l ++ [p]) k = loU l k
  | 0,_=>rfl
  | k + 1,h=>by unfold loU; rw [zGG k (by omega),getD_app0 (by omega)]
theorem zHz {l:List Prt} {p:Prt} {i:Nat}:∀ j,i + j ≤ l.length → hiV (l ++ [p]) i j = hiV l i j
  | 0,_=>rfl
  | j + 1,h=>by unfold hiV; rw [zHz j (by omega),getD_app0 (by omega)]
theorem zG2 {l:List Prt} {p:Prt} {i:Nat} (h:i < l.length):(timI (l ++ [p]) i).1 = (timI l i).1 ∧ (timI (l ++ [p]) i).2 ≤ (timI l i).2:=by
  unfold timI
  refine ⟨zGG _ (by omega),?_⟩
  have e:(l ++ [p]).length - i = (l.length - i) + 1:=by rw [List.length_append,List.length_singleton]; omega
  dsimp only
  rw [e]
  show min (hiV (l ++ [p]) i (l.length - i)) _ ≤ _
  rw [zHz _ (by omega)]
  exact Int.min_le_left _ _
theorem zCI {l:List Prt} {n i:Nat} (h:i < n):(timL l n).getD i (0,0) = timI l i:=by
  unfold timL
  rw [List.getD_eq_getElem?_getD,List.getElem?_map,List.getElem?_range h]; rfl
theorem zFw {l:List Prt} {n:Nat}:(timL l n).length = n:=by simp [timL]
theorem wait_app {o:Ord} {l:List Prt} {p:Prt} {fr:Nat} (hf:fr ≤ (l ++ [p]).length) (h:waitsB o (timL (l ++ [p]) (l ++ [p]).length) fr = true):waitsB o (timL l l.length) (min fr l.length) = true:=by
  have hl:(l ++ [p]).length = l.length + 1:=by simp
  rw [hl] at hf
  unfold waitsB at h ⊢
  rw [zFw,hl] at h
  rw [zFw]
  have key:∀ {lo lo' hi hi':Int},decide (lo ≤ hi) = true → lo' ≤ lo → hi ≤ hi' → decide (lo' ≤ hi') = true:=fun h1 h2 h3=>by
    rw [decide_eq_true_eq] at h1 ⊢; omega
  refine key h ?_ ?_
  · by_cases h0:0 < fr
    · by_cases h1:0 < min fr l.length
      · rw [decide_eq_true h0,decide_eq_true h1,cond_true,cond_true,zCI (by omega),zCI (by omega)]
        by_cases h2:fr ≤ l.length
        · rw [Nat.min_eq_left h2,(zG2 (p:=p) (show fr - 1 < l.length by omega)).1]
          exact Int.le_refl _
        · obtain rfl:fr = l.length + 1:=by omega
          rw [Nat.min_eq_right (by omega)]
          have e:(timI l (l.length - 1)).1 ≤ (timI (l ++ [p]) (l.length + 1 - 1)).1:=by
            unfold timI
            dsimp only
            rw [show l.length - 1 + 1 = l.length by omega,show l.length + 1 - 1 + 1 = l.length + 1 by omega]
            rw [← zGG (p:=p) l.length (Nat.le_refl _)]
            show _ ≤ max _ _
            exact Int.le_max_left _ _
          omega
      · rw [decide_eq_true h0,decide_eq_false h1,cond_true,cond_false]
        exact Int.le_max_left _ _
    · rw [decide_eq_false h0,decide_eq_false (show ¬ 0 < min fr l.length by omega)]
      exact Int.le_refl _
  · by_cases h1:min fr l.length < l.length
    · have h2:fr < l.length:=by omega
      rw [decide_eq_true h1,decide_eq_true (show fr < l.length + 1 by omega),cond_true,cond_true,zCI (by omega),zCI (by omega),Nat.min_eq_left (by omega)]
      have:=(zG2 (p:=p) h2).2
      omega
    · rw [decide_eq_false h1,cond_false]
      by_cases h3:fr < l.length + 1
      · rw [decide_eq_true h3,cond_true]; exact Int.min_le_left _ _
      · rw [decide_eq_false h3,cond_false]; exact Int.le_refl _
theorem zDq {l:List Prt} {p:Prt} {st:Int}:∀ i,i ≤ l.length → aheadGo (l ++ [p]) st i = aheadGo l st i
  | 0,_=>rfl
  | i + 1,h=>by unfold aheadGo; rw [getD_app0 (by omega),zDq i (by omega)]
theorem tru_app {b:Brd} {l:List Prt} {p:Prt} {f:Nat → Int} (h:TruF b (l ++ [p]) 0 f):TruF b l 0 f:=fun j hj=>by
  have h1:=h j (by rw [List.length_append]; omega)
  have e1:=getD_app0 (p:=p) hj
  have e2:aheadI (l ++ [p]) j = aheadI l j:=by unfold aheadI; rw [e1,zDq j (by omega)]
  unfold OkF stepsF at h1 ⊢
  rw [e1,e2] at h1
  exact h1
theorem miss_app {b:Brd} {l:List Prt} {p:Prt} {fee:Int} {o:Ord} (h:OddOK b l o) (h':OddOK b (l ++ [p]) o) (hM:missI b (l ++ [p]) fee o (timL (l ++ [p]) (l ++ [p]).length) = true):missI b l fee o (timL l l.length) = true:=by
  obtain ⟨fr,f,h1,h2,hf,hm⟩:=(zFd h').1 hM
  refine (zFd h).2 ⟨min fr l.length,f,by omega,wait_app h1 h2,tru_app hf,fun j k1 k2 k3=>?_⟩
  exact hm j (by rw [List.length_append] at h1; simp at h1; omega) (by rw [List.length_append]; omega) (by rw [getD_app0 k2]; exact k3)
theorem zFF {fee:Int} {o:Ord} {m x y:Int} {ps ms:List Int} {p:Prt}:∀ (l:List Prt) (i:Nat),i + l.length ≤ ps.length → i + l.length ≤ ms.length → 0 ≤ (fillGo fee o m ps ms i l).1 → fillGo fee o m (ps ++ [x]) (ms ++ [y]) i (l ++ [p]) = fillGo fee o m ps ms i l
  | [],_,_,_,h=>by simp [fillGo] at h
  | s :: r,i,h1,h2,h=>by
    simp only [List.length_cons] at h1 h2
    rw [List.cons_append]
    unfold fillGo at h ⊢
    rw [show (ps ++ [x]).getD i 0 = ps.getD i 0 from zAK (by omega),show (ms ++ [y]).getD i 0 = ms.getD i 0 from zAK (by omega)]
    cases e:(s.stock == o.stock && decide (m < ms.getD i 0)) && letsB fee o (ps.getD i 0) <;> rw [e] at h
    · simp only [cond_false] at h ⊢
      exact zFF r (i + 1) (by omega) (by omega) h
    · rfl
theorem TReps.split {F:Nat → Nat → Prop} {w:World}:∀ {ds es:List TV} {vs:List Value},TReps F w (ds ++ es) vs → ∃ xs ys,vs = xs ++ ys ∧ TReps F w ds xs ∧ TReps F w es ys
  | [],_,vs,h=>⟨[],vs,rfl,rfl,h⟩
  | _ :: ds,_,_,⟨v,vs',e,h1,h2⟩=>by
    subst e
    obtain ⟨xs,ys,rfl,k1,k2⟩:=TReps.split h2
    exact ⟨v :: xs,ys,rfl,⟨v,xs,rfl,h1,k1⟩,k2⟩
theorem zAu {w w':World} {b o:Nat} (h:w'.heap[b]? = w.heap[b]?):w'.cell? ⟨b,o,none⟩ = w.cell? ⟨b,o,none⟩:=by
  simp only [World.cell?,h]
theorem PureAt.vec {P : Program} {f : FuncId} {ds1 ds2 : List D} {r : D} {u : Value} {sz : Nat} {es : List (List D)} {b n cap id ty : Nat} {cs rest : List TV} (h : PureAt P f (ds1 ++ .slice sz es :: ds2) r) (hr : r.sim = some u) (hn : n = es.length)
    (hc:cs = es.flatten.map .d ++ rest) (hsz:∀ c ∈ es,c.length = sz) (hcap:n ≤ cap) (hcm:cap ≤ maxLen) :
    EffAt P f (ds1.map .d ++ .val (.slice (some ⟨b,0,none⟩) n cap) :: ds2.map .d) [(id,.box b ty cs)] (X:=Unit) (fun _=>.d r) (fun _=>[(id,.box b ty cs)]):=by
  subst hn hc
  refine ⟨h.1,fun w F vs hv hh=>?_⟩
  obtain ⟨hown,hF,vs0,hheap,hvs,hone⟩:=hh.res id _ (zU _ _ _)
  obtain ⟨xs,ys,rfl,hx,hy⟩:=hv.split
  obtain ⟨v1,zs,rfl,hv1,hz⟩:=hy
  obtain ⟨ps,qs,e0,hps,hqs⟩:=hvs.split
  subst e0
  let F':Nat → Nat → Prop:=fun c o=>F c o ∨ (c = b ∧ o < ps.length)
  have hcell:∀ j v,ps[j]? = some v → w.cell? ⟨b,j,none⟩ = some v:=fun j v hj=>(kG hheap).trans (by rw [List.getElem?_append_left (List.getElem?_eq_some_iff.1 hj).1]; exact hj)
  have hext:Ext F F' w w:=fun c o hf=>⟨.inl hf,rfl⟩
  have hcells:RepCells F' w es.flatten b 0:=RepCells.of_vals (hps.of_d.ext' hext) (fun u hu=>hone u (List.mem_append_left _ hu)) fun j v hj=>by
    rw [Nat.zero_add]
    exact ⟨hcell j v hj,.inr ⟨rfl,(List.getElem?_eq_some_iff.1 hj).1⟩⟩
  have hrow:Rep F' w (.slice sz es) v1:=by
    simp only [TRep] at hv1
    exact ⟨_,cap,hv1,hcap,hcm,.inr ⟨b,0,rfl,RepRows.flat.2 ⟨hsz,hcells⟩⟩⟩
  have hargs:RepVals F' w (ds1 ++ .slice sz es :: ds2) (xs ++ v1 :: zs):=(hx.of_d.ext' hext).append ⟨v1,zs,rfl,hrow,hz.of_d.ext' hext⟩
  have hF':∀ c o,F' c o → ∃ v,w.cell? ⟨c,o,none⟩ = some v:=fun c o hf=>by
    rcases hf with hf | ⟨rfl,hlt⟩
    · exact hh.fcell c o hf
    · exact ⟨_,hcell o _ (List.getElem?_eq_getElem hlt)⟩
  have hglob:GOK w (fun _=>False):=fun g hg=>by
    obtain ⟨h1,h2,h3⟩:=hh.glob g hg
    exact ⟨h1,fun k=>k,h3⟩
  refine (h.2 w F' _ hF' hglob hargs).mono fun e w' ⟨v,F2,e1,hb,hrep,_⟩=>⟨(),v,F,e1,?_,?_⟩
  · exact (zAs hr).2 ((zAs hr).1 hrep)
  · have hlt : ∀ c o, F c o → c < w.heap.size := fun c o hf => by
      obtain ⟨x,hx⟩:=hh.fcell c o hf
      exact World.block_lt_of_cell? w ⟨c,o,none⟩ hx
    have hsame:Ext F F w w':=fun c o hf=>⟨hf,zAu (hb.block c (hlt c o hf))⟩
    exact {
      os:=hb.os
      tape:=hb.tape
      output:=hb.output
      hsize:=hb.size
      old:=fun k hk _=>hb.block k hk
      fcell:=fun c o hf=>by
        obtain ⟨x,hx⟩:=hh.fcell c o hf
        exact ⟨x,((hsame c o hf).2).trans hx⟩
      keep:=fun c o hf=>(hsame c o hf).2
      f0:=fun _ _ hf=>hf
      fnew:=fun _ _ hf _ _=>hf
      glob:=hh.glob
      res:=fun i r1 hi=>by
        by_cases e2:id = i
        · subst e2
          rw [zU] at hi
          cases hi
          refine ⟨hown,hF,ps ++ qs,(hb.block b (yX hheap)).trans hheap,(hps.append hqs).ext' hsame,hone⟩
        · rw [zY _ _ e2] at hi; cases hi
      sep:=hh.sep }
end Go.Proofs.YticlpkgpmmhemaaGreatDoor
namespace Go.Proofs.YticlpkgpmmhemaaGreatDoor
open Go.RowKit
set_option maxRecDepth 20000
set_option linter.all false
theorem s_appendVe {Γ : Cx} {P : Program} {σ : St} {ops : Array Oper} {o : Oper} {W : Nat → Prop} {x y : Operand} {t e : TypeId} {sz bytes id dt : Nat} {v : Value} {cs : List TV} {fs : List (List D)} (h : o.op = .call { callee := .builtin .append, args := #[x, y], argTypes := #[t, t] })
    (hg:o.guard = none) (hd:o.dst = some dt) (hn:Nat.blt dt Γ.n = true) (hT:ElT P t e sz bytes) {z0:Value} (hz0:(P.info? e).map (·.zero) = some (some z0)) (hz1:z0.cells.toList.all (·.oneCell') = true) (hV:VecV v sz cs) (hxv:∀ a w F,RS Γ σ a w F → a.eval x = v) (hres:σ.rget id = some (vecRes e v sz cs)) (hy:σ.ev y = some (true,.d (.slice sz fs)))
    (hb:(cs.length + fs.length) * bytes ≤ 140737488355328) (h63:cs.length + fs.length ≤ 9223372036854775807) (hWb:∀ b,v.ownBlock = some b → W b) :
    StepW Γ P ops σ o W fun v':{v' // VecV v' sz (cs ++ fs.flatten.map .d)}=>(σ.put dt true (.val v'.1)).rput id (vecRes e v'.1 sz (cs ++ fs.flatten.map .d)):=fun a w F hs K Q hK=>by
  rw [if_pos (zq hg a)]
  have hx':=hxv a w F hs
  obtain ⟨i,z,hi,hz,hisz,hibt,hzs⟩:=hT.info
  have hpos:=hT.pos
  obtain ⟨ad,c,hu,hfs⟩:=slice_vals (hs.ev hy)
  have fin : ∀ (v' : Value) (w' : World) (hV' : VecV v' sz (cs ++ fs.flatten.map .d)), (Builtin.append_ #[t, t] o.type #[v, .slice ad fs.length c]).run P w = .ok v' w' → RS Γ (σ.rput id (vecRes e v' sz (cs ++ fs.flatten.map .d))) a w' F → (∃ but, Grow F F w w' but ∧ ∀ b, but = some b → W b) →
      o.wp P a w K Q:=by
    intro v' w' hV' hrun hRS hgr
    have hex:(execOp a.eval o).run P w = .ok (.value v') w':=by
      simp [execOp,h,resolve,invoke,builtin,hx',hu,hrun]
    obtain ⟨but,hg2,hg3⟩:=hgr
    unfold Oper.wp
    rw [hex]
    show K (a.put o.dst _) _
    rw [hd]
    exact hK ⟨v',hV'⟩ _ _ F (hRS.put (yM hn) (fun _=>rfl) (fun h=>by cases h)) (fun _ _ h=>h) hg2.size (hg2.agree hg3)
  by_cases hm:fs = []
  · subst hm
    have hrefl:Grow F F w w none:=⟨rfl,rfl,rfl,Nat.le_refl _,fun _ _ _=>rfl,fun _ _ h=>h,fun _ _ h _ _=>h,hs.fcell,fun _ _ _=>rfl⟩
    have hRS:RS Γ (σ.rput id (vecRes e v sz cs)) a w F:=hs.rput (hs.rs _ _ hres) fun b hb j r' hne hj e2=>hne (hs.sep j id r' _ b hj hres e2 hb)
    refine fin v w (by simpa using hV) ?_ (by simpa using hRS) ⟨none,hrefl,fun _ e=>by cases e⟩
    rcases hV with ⟨rfl,rfl⟩ | ⟨b,n,cap,rfl,h2,h3,h4⟩
    · exact yw hT (by simp) (fun _=>rfl)
    · exact yw hT h2 (by simp)
  obtain ⟨b2,o2,rfl,hr2⟩:=hfs.resolve_left hm
  obtain ⟨ns,hnl,hnr,hn1,hnc⟩:=hr2.vals
  have hnews:∀ j x,ns[j]? = some x → w.cell? ((⟨b2,o2,none⟩:Addr).add j) = some x:=fun j x hx=>by rw [yu]; exact (hnc j x hx).1
  have hfl:0 < fs.length:=by cases fs with | nil=>exact absurd rfl hm | cons _ _=>simp
  have hflat:(fs.flatten.map TV.d).length = fs.length * sz:=by rw [List.length_map,y6 (RepRows.flat.1 hr2).1]
  have hzl:∀ k,(Builtin.zeroCells z.cells k).toList.length = k * sz:=fun k=>by simp [Builtin.zeroCells,hzs]
  -- a new block
  have fresh : ∀ (n cap : Nat) (xs tail : List Value) (hz : n * sz = cs.length), TReps F w cs xs → (∀ x ∈ xs, x.oneCell' = true) → (∀ x ∈ tail, x.oneCell' = true) → n + fs.length ≤ cap → cap ≤ maxLen → tail.length = (cap - (n + fs.length)) * sz →
      VecV (.slice (some ⟨w.heap.size,0,none⟩) (n + fs.length) cap) sz (cs ++ fs.flatten.map .d) ∧ RS Γ (σ.rput id (vecRes e (.slice (some ⟨w.heap.size,0,none⟩) (n + fs.length) cap) sz (cs ++ fs.flatten.map .d))) a (w.drew.alloc (.cells (xs ++ ns ++ tail).toArray e)) F ∧
        ∃ but,Grow F F w (w.drew.alloc (.cells (xs ++ ns ++ tail).toArray e)) but ∧ ∀ b,but = some b → W b:=by
    intro n cap xs tail hlc hx hx1 ht1 hcap hcm hlen
    have hgd:Grow F F w w.drew none:=⟨rfl,rfl,rfl,Nat.le_refl _,fun _ _ _=>rfl,fun _ _ h=>h,fun _ _ h _ _=>h,hs.fcell,fun _ _ _=>rfl⟩
    have hsd:=hs.grow hgd
    have hga:=Grow.alloc (F:=F) hsd.fcell (.cells (xs ++ ns ++ tail).toArray e)
    refine ⟨.inr ⟨_,_,_,rfl,hcap,hcm,by rw [List.length_append,hflat,Nat.add_mul,hlc]⟩,?_,none,⟨rfl,rfl,rfl,by simp,fun k hk _=>Below.heap_alloc w.drew _ k hk,fun _ _ h=>h,fun _ _ h _ _=>h,hga.cell,fun b o hf=>hga.keep b o hf⟩,fun _ e=>by cases e⟩
    have htail:TReps F w.drew (List.replicate ((cap - (n + fs.length)) * sz) .any) tail:=by rw [← hlen]; exact zAg
    have hnd:TReps F w.drew (fs.flatten.map .d) ns:=(hnr.to_d).ext' fun b o hf=>⟨hf,rfl⟩
    have:=hsd.newBox (ty:=e) (vs:=(xs ++ ns ++ tail).toArray) (cs:=(cs ++ fs.flatten.map .d) ++ List.replicate ((cap - (n + fs.length)) * sz) .any) id (by
      have h1:=((hx.ext' fun b o hf=>⟨hf,rfl⟩:TReps F w.drew cs xs).append hnd).append htail
      simpa using h1) (by
      intro u hu
      simp only [List.mem_append] at hu
      rcases hu with (hu | hu) | hu
      · exact hx1 u hu
      · exact hn1 u hu
      · exact ht1 u hu)
    simpa [vecRes] using this
  obtain rfl:z = z0:=by simpa [hi,hz] using hz0
  have hzone:∀ k,∀ u ∈ (Builtin.zeroCells z.cells k).toList,u.oneCell' = true:=fun k u hu=>by
    have e:(Builtin.zeroCells z.cells k).toList = (List.replicate k z.cells.toList).flatten:=by
      rw [← zAO hzs hpos k]
      simp [Builtin.zeroCells,hzs]
    rw [e] at hu
    obtain ⟨l,hl,hu⟩:=List.mem_flatten.1 hu
    rw [List.eq_of_mem_replicate hl] at hu
    exact List.all_eq_true.1 hz1 u hu
  rcases hV with ⟨rfl,rfl⟩ | ⟨b,n,cap,rfl,h2,h3,h4⟩
  · have hr:=run_append_nil (P:=P) w t o.type e i z hT.ht hi hz ⟨b2,o2,none⟩ fs.length c ns (by rw [hisz]; exact hnl) hnews hfl (by simp at h63; omega) (by simp at hb; rw [hibt]; omega)
    obtain ⟨k1,k2,k3⟩:=fresh 0 (grownCap w fs.length 0 e) [] (Builtin.zeroCells z.cells (grownCap w fs.length 0 e - fs.length)).toList (by simp) rfl (by simp) (hzone _)
      (by simpa using grownCap_ge w fs.length 0 e) (grownCap_le_maxLen w fs.length 0 e (by simp only [maxLen]; simp at h63; omega)) (by rw [hzl,Nat.zero_add])
    have harr:([] ++ ns ++ (Builtin.zeroCells z.cells (grownCap w fs.length 0 e - fs.length)).toList).toArray = ns.toArray ++ Builtin.zeroCells z.cells (grownCap w fs.length 0 e - fs.length):=by
      apply Array.ext'; simp
    rw [harr] at k2 k3
    simp only [Nat.zero_add] at k1 k2
    exact fin _ _ k1 hr k2 k3
  · have hnle:n ≤ cs.length:=by rw [h4]; exact Nat.le_mul_of_pos_right n hpos
    have hres':σ.rget id = some (.box b e (cs ++ List.replicate ((cap - n) * sz) .any)):=hres
    obtain ⟨hown,hF,vs,hh,hvs,hone⟩:=hs.rs id _ hres'
    obtain ⟨xs,ys,rfl,hxs,hys⟩:=hvs.puts
    have hxl:=hxs.length
    have hyl:ys.length = (cap - n) * sz:=by have:=hys.length; simpa using this
    have hxn:xs.length = n * i.size:=by rw [hisz,← h4,hxl]
    have hvsz:(xs ++ ys).toArray.size = cap * sz:=by
      have:n * sz + (cap - n) * sz = cap * sz:=by rw [← Nat.add_mul]; congr 1; omega
      simp only [List.size_toArray,List.length_append,hyl]
      rw [hxn,hisz]; omega
    have hx1:∀ x ∈ xs,x.oneCell' = true:=fun x hx=>hone x (by simp [hx])
    by_cases hroom:n + fs.length ≤ cap
    · have hfit:n * i.size + ns.length ≤ (xs ++ ys).toArray.size:=by rw [hvsz,hnl,hisz,← Nat.add_mul]; exact Nat.mul_le_mul_right _ hroom
      have hr:=run_append_room (P:=P) w t o.type e i hT.ht hi b n cap (xs ++ ys).toArray hh ⟨b2,o2,none⟩ fs.length c ns (by rw [hisz]; exact hnl) hnews hn1 hroom hfit
      have htake:(xs ++ ys).toArray.toList.take (n * i.size) = xs:=by simp [← hxn]
      have hdrop:(xs ++ ys).toArray.toList.drop (n * i.size + ns.length) = ys.drop ns.length:=by
        rw [← hxn]; simp [List.drop_append]
      rw [htake,hdrop] at hr
      have hgr:Grow F F w (w.setRow b (xs ++ ns ++ ys.drop ns.length).toArray) (some b):=Grow.setRow hs.fcell hh (fun o ho=>absurd ho (hF o))
      have hext:Ext F F w (w.setRow b (xs ++ ns ++ ys.drop ns.length).toArray):=fun c o hf=>⟨hf,hgr.keep c o hf⟩
      have hrow:=kJ w b (xs ++ ys).toArray (xs ++ ns ++ ys.drop ns.length).toArray e hh
      have hdl:(ys.drop ns.length).length = (cap - (n + fs.length)) * sz:=by
        rw [List.length_drop,hyl,hnl,← Nat.sub_mul]
        congr 1; omega
      refine fin _ _ (.inr ⟨b,n + fs.length,cap,rfl,hroom,h3,by rw [List.length_append,hflat,Nat.add_mul,h4]⟩) hr ?_ ⟨some b,hgr,fun c e=>by cases e; exact hWb b rfl⟩
      refine hs.write hres' rfl (fun _ e=>e.symm) hown hgr ⟨hown,hF,_,hrow,?_,fun u hu=>?_⟩
      · rw [← hdl]
        exact (((hxs.ext' hext).append ((hnr.to_d).ext' hext)).append zAg)
      · simp only [List.mem_append] at hu
        rcases hu with (hu | hu) | hu
        · exact hx1 u hu
        · exact hn1 u hu
        · exact hone u (by simp [List.mem_of_mem_drop hu])
    · have holds : ∀ j x, xs[j]? = some x → w.cell? ((⟨b, 0, none⟩ : Addr).add j) = some x := fun j x hx => by
        rw [yu,Nat.zero_add]
        have hj:=(List.getElem?_eq_some_iff.1 hx).1
        simp [World.cell?,hh,List.getElem?_append_left hj,hx]
      have hr:=run_append_grow (P:=P) w t o.type e i z hT.ht hi hz ⟨b,0,none⟩ n cap xs hxn holds ⟨b2,o2,none⟩ fs.length c ns (by rw [hisz]; exact hnl) hnews (by omega) (by omega)
        (growslice_fits (by omega) (by rw [hibt]; exact Nat.le_trans (Nat.mul_le_mul_right _ (by omega)) hb))
      obtain ⟨k1,k2,k3⟩:=fresh n (grownCap w (n + fs.length) cap e) xs (Builtin.zeroCells z.cells (grownCap w (n + fs.length) cap e - (n + fs.length))).toList h4.symm hxs hx1 (hzone _)
        (grownCap_ge w _ cap e) (grownCap_le_maxLen w _ cap e (by simp only [maxLen]; omega)) (hzl _)
      have harr:(xs ++ ns ++ (Builtin.zeroCells z.cells (grownCap w (n + fs.length) cap e - (n + fs.length))).toList).toArray = xs.toArray ++ ns.toArray ++ Builtin.zeroCells z.cells (grownCap w (n + fs.length) cap e - (n + fs.length)):=by
        apply Array.ext'; simp
      rw [harr] at k2 k3
      exact fin _ _ k1 hr k2 k3
/-- append(nil, t...), the new slice is one's own and may be written. -/
theorem s_appendNV {Γ : Cx} {P : Program} {σ : St} {ops : Array Oper} {o : Oper} {W : Nat → Prop} {x y : Operand} {t e : TypeId} {sz bytes id dt : Nat} {fs : List (List D)} (h : o.op = .call { callee := .builtin .append, args := #[x, y], argTypes := #[t, t] })
    (hg:o.guard = none) (hd:o.dst = some dt) (hn:Nat.blt dt Γ.n = true) (hT:ElT P t e sz bytes) {z0:Value} (hz0:(P.info? e).map (·.zero) = some (some z0)) (hz1:z0.cells.toList.all (·.oneCell') = true) (hx:σ.ev x = some (true,.d .nil)) (hres:σ.rget id = some .gone) (hy:σ.ev y = some (true,.d (.slice sz fs)))
    (hb:(0 + fs.length) * bytes ≤ 140737488355328) (h63:0 + fs.length ≤ 9223372036854775807) :
    StepW Γ P ops σ o W fun v':{v' // VecV v' sz (fs.flatten.map TV.d)}=>(σ.put dt true (.val v'.1)).rput id (vecRes e v'.1 sz (fs.flatten.map .d)) :=
  s_appendVe (v:=.slice none 0 0) (cs:=[]) h hg hd hn hT hz0 hz1 (VecV.nil sz) (fun a w F hs=>hs.ev hx) hres hy hb h63 (fun b hb=>by simp [Value.ownBlock] at hb)
end Go.Proofs.YticlpkgpmmhemaaGreatDoor
namespace Go.Proofs.YticlpkgpmmhemaaGreatDoor
open Go.RowKit
set_option linter.all false
theorem flatten_lenV {es:List (List D)} {sz:Nat} (h:∀ c ∈ es,c.length = sz):es.flatten.length = es.length * sz:=y6 h
theorem PureAt.vecV {P : Program} {f : FuncId} {ds1 ds2 : List D} {r : D} {u : Value} {sz : Nat} {es : List (List D)} {id e : Nat} {v : Value} {cs : List TV} (h : PureAt P f (ds1 ++ .slice sz es :: ds2) r) (hr : r.sim = some u) (hV : VecV v sz cs)
    (hc:cs = es.flatten.map .d) (hsz:∀ c ∈ es,c.length = sz) (hpos:0 < sz) :
    EffAt P f (ds1.map .d ++ .val v :: ds2.map .d) [(id,vecRes e v sz cs)] (X:=Unit) (fun _=>.d r) (fun _=>[(id,vecRes e v sz cs)]):=by
  have hfl:=flatten_lenV hsz
  rcases hV with ⟨rfl,h0⟩ | ⟨b,n,cap,rfl,h1,h2,h3⟩
  · have he : es = [] := by
      rw [hc,List.map_eq_nil_iff] at h0
      rw [h0] at hfl
      have:es.length * sz = 0:=hfl.symm
      rcases Nat.mul_eq_zero.1 this with k | k
      · exact List.eq_nil_of_length_eq_zero k
      · omega
    subst he
    refine ⟨h.1,fun w F vs hv hh=>?_⟩
    obtain ⟨xs,ys,rfl,hx,hy⟩:=hv.split
    obtain ⟨v1,zs,rfl,hv1,hz⟩:=hy
    have hrow:Rep F w (.slice sz []) v1:=by
      simp only [TRep] at hv1
      exact ⟨none,0,hv1,Nat.le_refl _,Nat.zero_le _,.inl rfl⟩
    have hargs:RepVals F w (ds1 ++ .slice sz [] :: ds2) (xs ++ v1 :: zs):=(hx.of_d).append ⟨v1,zs,rfl,hrow,hz.of_d⟩
    have hglob:GOK w (fun _=>False):=fun g hg=>by
      obtain ⟨h1,h2,h3⟩:=hh.glob g hg
      exact ⟨h1,fun k=>k,h3⟩
    refine (h.2 w F _ hh.fcell hglob hargs).mono fun e w' ⟨v,F2,e1,hb,hrep,_⟩=>⟨(),v,F,e1,?_,?_⟩
    · exact (zAs hr).2 ((zAs hr).1 hrep)
    · have hlt : ∀ c o, F c o → c < w.heap.size := fun c o hf => by
        obtain ⟨x,hx⟩:=hh.fcell c o hf
        exact World.block_lt_of_cell? w ⟨c,o,none⟩ hx
      exact {
        os:=hb.os
        tape:=hb.tape
        output:=hb.output
        hsize:=hb.size
        old:=fun k hk _=>hb.block k hk
        fcell:=fun c o hf=>by
          obtain ⟨x,hx⟩:=hh.fcell c o hf
          exact ⟨x,(zAu (hb.block c (hlt c o hf))).trans hx⟩
        keep:=fun c o hf=>zAu (hb.block c (hlt c o hf))
        f0:=fun _ _ hf=>hf
        fnew:=fun _ _ hf _ _=>hf
        glob:=hh.glob
        res:=fun i r1 hi=>by
          by_cases e2:id = i
          · subst e2
            rw [zU] at hi
            cases hi
            trivial
          · rw [zY _ _ e2] at hi; cases hi
        sep:=hh.sep }
  · have hn : n = es.length := by
      rw [hc,List.length_map,hfl] at h3
      exact (Nat.eq_of_mul_eq_mul_right hpos h3).symm
    exact PureAt.vec (rest:=List.replicate ((cap - n) * sz) .any) h hr hn (by rw [hc]) hsz h1 h2
end Go.Proofs.YticlpkgpmmhemaaGreatDoor
namespace Go.Proofs.YticlpkgpmmhemaaGreatDoor
open Go.Proofs.Tryz
open Go.RowKit
set_option maxRecDepth 20000
set_option linter.all false
set_option maxHeartbeats 4000000
theorem qu8 {a b:Nat} (ha:a ≤ 9223372036854775807) (hb:0 < b):IntKind.i64.wrap ((a:Int).tdiv (b:Int)) = ((a / b:Nat):Int):=by
  rw [Int.tdiv_eq_ediv_of_nonneg (by omega)]
  have:((a:Int) / (b:Int)) = ((a / b:Nat):Int):=by simp
  rw [this]
  have h:=Nat.div_le_self a b
  generalize a / b = c at *
  exact i64w (by omega) rfl
theorem zFu {v:Value} {l:List Int} (h:VecV v 1 (intsT l)) (hl:0 < l.length):∃ b cap,v = .slice (some ⟨b,0,none⟩) l.length cap ∧ l.length ≤ cap ∧ cap ≤ maxLen:=by
  rcases h with ⟨_,h⟩ | ⟨b,n,cap,rfl,h1,h2,h3⟩
  · rw [List.map_eq_nil_iff] at h; subst h; simp at hl
  · rw [List.length_map,Nat.mul_one] at h3
    subst h3
    exact ⟨b,cap,rfl,h1,h2⟩
theorem zAm (l:List Int):intsT l = (l.map intE).flatten.map .d:=by induction l with
  | nil=>rfl
  | cons x l ih=>show .d (.int .i64 x) :: intsT l = _; rw [ih]; rfl
theorem zGh {l:List Int} {x:Int}:intsT l ++ [TV.d (.int .i64 x)] = intsT (l ++ [x]):=by simp [intsT]
theorem irows {l:List Int}:∀ c ∈ l.map intE,c.length = 1:=fun c hc=>by obtain ⟨x,_,rfl⟩:=List.mem_map.1 hc; rfl
theorem iflen {k:Nat}:∀ {rows:List (List D)},(∀ r ∈ rows,r.length = k) → rows.flatten.length = rows.length * k
  | [],_=>by simp
  | r :: rows,h=>by
    rw [List.flatten_cons,List.length_append,iflen (rows:=rows) fun x hx=>h x (List.mem_cons_of_mem _ hx),h r (List.mem_cons_self ..),List.length_cons,Nat.succ_mul]; omega
theorem ichk {k:Nat}:∀ {rows:List (List D)},(∀ r ∈ rows,r.length = k) → chunk k rows.length rows.flatten = rows
  | [],_=>rfl
  | r :: rows,h=>by
    have hr:=h r (List.mem_cons_self ..)
    rw [List.length_cons,chunk,List.flatten_cons,List.take_append_of_le_length (by omega),List.take_of_length_le (by omega),List.drop_append_of_le_length (by omega),List.drop_of_length_le (by omega),List.nil_append,ichk fun x hx=>h x (List.mem_cons_of_mem _ hx)]
theorem ichunk {l:List Int} {n:Nat} (h:l.length = n):chunk 1 n (l.map intE).flatten = l.map intE:=by
  have:=ichk (k:=1) (rows:=l.map intE) irows
  rw [List.length_map,h] at this; exact this
theorem ilen {l:List Int} {n:Nat} (h:l.length = n):((l.map intE).flatten).length = n * 1:=by
  rw [iflen (k:=1) irows,List.length_map,h]
theorem zC8 {v1 v2:Value} {l:List Int} (h1:(TV.val v1).one = true) (h2:(TV.val v2).one = true):fillTV (fun i=>([(0,1),(1,1),(2,1)]:List (Nat × Nat))[i]?) [.d .nil,.d .nil,.d .nil] [(0,.val v1),(1,.val v2),(2,.d (ints l))] = some [.val v1,.val v2,.d (ints l)]:=by
  have f1:(TV.val v1).flat = true:=h1
  have f2:(TV.val v2).flat = true:=h2
  simp only [fillTV,List.getElem?_cons_zero,List.getElem?_cons_succ,f1,f2]
  rfl
@[reducible] def moreS (s nm:List UInt8) (n:Nat):List UInt8:=s ++ 32 :: (nm ++ 32 :: figT n)
theorem more_tape {s nm:List UInt8} {n:Nat}:s ++ ([32] ++ nm ++ [32] ++ Lib.decDigits (n / 8) ++ [46] ++ Lib.decDigits (n % 8)) = moreS s nm n:=by simp [moreS,figT]
@[reducible] def moreD (x:Dsk) (nm:List UInt8) (n:Nat):Dsk:=⟨x.b,moreS x.tape nm n,x.fee,x.orders⟩
theorem sure_01 {d:Dsk} (h:deskI d = 0):(sureO d [] = 0 ∨ sureO d [] = 11) ∧ (verdsI d).2 = sureO d []:=by
  have e1:(pricesI d.b d.tape).2 = 0 ∨ (pricesI d.b d.tape).2 = 11:=by
    unfold pricesI
    rw [(yQ h).1]
    simp only [bne_self_eq_false,cond_false]
    cases levelsI d.b (readI d.b d.tape).1 []
    · exact .inr rfl
    · exact .inl rfl
  have e2:(minutesI d.b d.tape).2 = 0 ∨ (minutesI d.b d.tape).2 = 11:=by
    unfold minutesI
    rw [(yQ h).1]
    simp only [bne_self_eq_false,cond_false]
    cases rightB (minI (readI d.b d.tape).1)
    · exact .inr rfl
    · exact .inl rfl
  refine ⟨?_,?_⟩
  · unfold sureO
    rw [h]
    rcases e1 with e1 | e1 <;> rcases e2 with e2 | e2 <;> rw [e1] <;> simp [e2]
  · unfold verdsI
    cases hs:sureO d [] != 0
    · have:sureO d [] = 0:=by simpa using hs
      rw [this]; rfl
    · rfl
theorem figT_len {n:Nat} (h:n < 80):(figT n).length ≤ 5:=by
  have:(List.range 80).all (fun n=>decide ((figT n).length ≤ 5)) = true:=by kernel_rfl
  exact of_decide_eq_true (List.all_eq_true.1 this n (List.mem_range.2 h))
/-- All that is so of the desk with one more sale. -/
structure MoreF (x y:Dsk) (t u:Tru) (l L:List Prt) (mm mmY:List (Int × Int)) (fs fs2:List (Int × Int)) (e2:Int):Prop where
  py:playI y u = (fs2,e2)
  vv:∀ (j:Nat) (o:Ord),x.orders[j]? = some o → verdI x.b l x.fee o mm = 1 → verdI x.b L x.fee o mmY = 1
  pl:isTB y L u = true → e2 = 0 ∧ fs2.length = x.orders.length ∧ ∀ (j:Nat) (o:Ord),x.orders[j]? = some o → ∃ g,fs2[j]? = some g ∧ (0 ≤ (fillGo x.fee o (t.orders.getD j 0) t.prices t.minutes 0 l).1 → g = fillGo x.fee o (t.orders.getD j 0) t.prices t.minutes 0 l)
theorem more_law {x : Dsk} {t : Tru} {l : List Prt} {mm fs bs : List (Int × Int)} {vs : List Int} (hF : TldF x t l mm fs bs vs) {nm : List UInt8} {n : Nat} {p : Prt} {pc lm : Int} (h0 : deskI (moreD x nm n) = 0) (hL : (readI x.b (moreS x.tape nm n)).1 = l ++ [p]) (hs : sureO (moreD x nm n) [] = 0) :
    ∃ fs2 e2,MoreF x (moreD x nm n) t ⟨t.prices ++ [pc],t.minutes ++ [lm],t.orders⟩ l (l ++ [p]) mm (minutesI x.b (moreS x.tape nm n)).1 fs fs2 e2:=by
  obtain ⟨hS,_⟩:=y4 hs
  have hL2:(readI (moreD x nm n).b (moreD x nm n).tape).1 = l ++ [p]:=hL
  refine ⟨(playI (moreD x nm n) ⟨t.prices ++ [pc],t.minutes ++ [lm],t.orders⟩).1,(playI (moreD x nm n) ⟨t.prices ++ [pc],t.minutes ++ [lm],t.orders⟩).2,rfl,fun j o hod hv=>?_,fun hT=>?_⟩
  · have hO:=zHX hF.S hod
    have hO2:OddOK x.b (l ++ [p]) o:=by
      have h:=zHX hS (j:=j) hod
      rw [hL2] at h; exact h
    have hmy:(minutesI x.b (moreS x.tape nm n)).1 = timL (l ++ [p]) (l ++ [p]).length:=by
      have h:=hS.mt
      rw [hL2] at h; exact h
    rw [verd_miss] at hv ⊢
    cases hq:missI x.b (l ++ [p]) x.fee o (minutesI x.b (moreS x.tape nm n)).1
    · rfl
    · rw [hmy] at hq
      have:=miss_app hO hO2 hq
      rw [← hF.S.mt] at this
      rw [this] at hv; cases hv
  · have hT2:=zGb.1 hT
    have hw:=(zAG (yQ h0).1).2 (by rw [hL2]; exact hT2)
    have hp:playI (moreD x nm n) ⟨t.prices ++ [pc],t.minutes ++ [lm],t.orders⟩ = (fillsN x.fee (l ++ [p]) ⟨t.prices ++ [pc],t.minutes ++ [lm],t.orders⟩ x.orders x.orders.length,0):=by
      unfold playI
      rw [h0,hw,hL2]; rfl
    rw [hp]
    refine ⟨rfl,yd _,fun j o hod=>?_⟩
    have hj:=(List.getElem?_eq_some_iff.1 hod).1
    refine ⟨_,zAi hj,fun h=>?_⟩
    rw [zQ hod]
    have h1:=hF.T.pl
    have h2:=hF.T.ml
    exact zFF l 0 (by omega) (by omega) h
theorem mgetF {l:List (Int × Int)} {i:Nat} (h:i < l.length):(l.map filE)[i]? = some (filE (l.getD i (0,0))):=by
  obtain ⟨x,hx⟩:=zT h
  rw [List.getElem?_map,hx,zQ hx]; rfl
theorem more_no {x y : Dsk} {t u : Tru} {l L : List Prt} {mm mmY fs fs2 : List (Int × Int)} {e2 : Int} (h : MoreF x y t u l L mm mmY fs fs2 e2) {j : Nat} {o : Ord} (hod : x.orders[j]? = some o) {f : Int × Int} (hf : f = fillGo x.fee o (t.orders.getD j 0) t.prices t.minutes 0 l) (hl : fs.length = x.orders.length) :
    (isTB y L u && (e2 != 0 || (((fs2.map filE).length:Int) != ((fs.map filE).length:Int)) || (decide (0 ≤ f.1) && !((fs2.getD j (0,0)).1 == f.1 && (fs2.getD j (0,0)).2 == f.2)))) = false:=by
  cases hT:isTB y L u
  · rfl
  · obtain ⟨rfl,h2,h3⟩:=h.pl hT
    obtain ⟨g,hg,hgf⟩:=h3 j o hod
    rw [List.length_map,List.length_map,h2,hl,zQ hg]
    by_cases h0:0 ≤ f.1
    · rw [hgf (hf ▸ h0),← hf]; simp
    · simp [h0]
theorem zGA (l:List Int) (h5:l.length ≤ 1000000):EffAt Tryz.prog 60 [.d (ints l)] [] (X:={v:Value // VecV v 1 (intsT l)}) (fun v=>.val v.1) (fun v=>[(1098,vecRes 3 v.1 1 (intsT l))]):=by
 refine EffAt.of_awp Tryz.func60 rfl (by kernel_rfl) rfl fun Γ hn=>?_
 refine Zu ?_
 refine Zt 1 [] hn rfl ?_
 refine Zv (Zu ?_)
 refine Zt 1 [] hn rfl ?_
 refine kE (zBu 1098) ?_
 refine stepW (s_appendNV (id:=1098) rfl rfl rfl (nb hn rfl) elt29 zr3 rfl rfl rfl rfl (by simp [chunk]; omega) (by simp [chunk]; omega)) fun ⟨v4,hV4⟩=>?_
 refine Zt 1 [] hn rfl ?_
 refine Zv (zJ ?_)
 exact ret_E (.inl rfl) ⟨v4,by rw [zAm]; exact hV4⟩ (zr rfl (.tmp rfl)) ⟨(congrArg (fun z=>some (vecRes 3 v4 1 z)) (zAm l).symm),trivial⟩
theorem zDX (l:List Int) (h5:l.length ≤ 1000000):EffAt Tryz.prog 60 [.d (ints l)] [] (X:={v:Value // VecV v 1 (intsT l)}) (fun v=>.val v.1) (fun v=>[(1099,vecRes 3 v.1 1 (intsT l))]):=by
 refine EffAt.of_awp Tryz.func60 rfl (by kernel_rfl) rfl fun Γ hn=>?_
 refine Zu ?_
 refine Zt 1 [] hn rfl ?_
 refine Zv (Zu ?_)
 refine Zt 1 [] hn rfl ?_
 refine kE (zBu 1099) ?_
 refine stepW (s_appendNV (id:=1099) rfl rfl rfl (nb hn rfl) elt29 zr3 rfl rfl rfl rfl (by simp [chunk]; omega) (by simp [chunk]; omega)) fun ⟨v4,hV4⟩=>?_
 refine Zt 1 [] hn rfl ?_
 refine Zv (zJ ?_)
 exact ret_E (.inl rfl) ⟨v4,by rw [zAm]; exact hV4⟩ (zr rfl (.tmp rfl)) ⟨(congrArg (fun z=>some (vecRes 3 v4 1 z)) (zAm l).symm),trivial⟩
theorem OddMore_eff (d:Dsk) (ws:List Int) (sk fg:Nat) (hN:NamesOK d.b) (hw:WdsOK ws) (hsk:sk ≤ 255) (hfg:fg ≤ 255):EffAt Tryz.prog 11 [.d (dskD d),.d (wdsD ws),.d (.int .u8 (sk:Nat)),.d (.int .u8 (fg:Nat))] [] (X:=Unit) (fun _=>.d (.bool true)) (fun _=>[]):=by
 refine EffAt.of_awp Tryz.func11 rfl (by kernel_rfl) rfl fun Γ hn=>?_
 refine Zu (Zb 4 hn rfl fun b4=>Zt 1 [] hn rfl (Zv (Zu (Zt 2 [4] hn rfl ?_))))
 refine stepW (s_callE (Told_eff d ws hN hw) rfl rfl rfl (nb hn rfl) (.d rfl) rfl (.refl _) trivial (fun _=>rfl) (fun _ _=>trivial)) fun ⟨⟨x,t,isb⟩,hTp⟩=>?_
 refine Zt 4 [] hn rfl (Zb 9 hn rfl fun b9=>Zb 10 hn rfl fun b10=>Zt 3 [9,10] hn rfl (Zv (zC (Zu (Zt 2 [] hn rfl (Zv (zH rfl (fun hb0=>?_) (fun hb0=>?_))))))))
 refine Zu (Zk hn rfl (zBX) (Zt 1 [] hn rfl (Zv (zJ (zD ?_)))))
 exact ret_E (.inl rfl) () (zr rfl (.tmp rfl)) trivial
 obtain rfl:isb = true:=by simpa using hb0
 obtain ⟨l,mm,fs,bs,vs,hF,hN2,hx3,hx8,hx7,htp,htm,hto⟩:=tld_get hTp hN
 have hfl:=hF.fl
 have hbl:=hF.bl
 have hvl:=hF.vl
 have hl8:=hF.S.l8
 have hn4:=hF.S.v.n4
 have hn1:=hF.S.v.n1
 obtain ⟨nf,hnf⟩:∃ n,fg % 80 = n:=⟨_,rfl⟩
 have hn80:nf < 80:=by rw [← hnf]; exact Nat.mod_lt fg (by decide)
 obtain ⟨ks,hks⟩:∃ k,sk % x.b.stocks.length = k:=⟨_,rfl⟩
 have hksl:ks < x.b.stocks.length:=by rw [← hks]; exact Nat.mod_lt sk (by omega)
 obtain ⟨sx,hsx⟩:=zT hksl
 have hsnm:=(zBp hF.S.v (List.mem_of_getElem? hsx)).2.2.2
 obtain ⟨nm,hnm⟩:∃ nm,sx.name = nm:=⟨_,rfl⟩
 rw [hnm] at hsnm
 have hnl:nm.length ≤ 3:=by have h:=hsnm; unfold namedB at h; have h1:=(zl.1 (Bool.and_eq_true_iff.1 h).1).2; omega
 have hfl5:=figT_len hn80
 have hfp:=fig_is hn80
 have hsp:=named_sp hsnm
 have hy5:(moreD x nm nf).tape.length ≤ 4294967000:=by show (moreS x.tape nm nf).length ≤ _; rw [List.length_append,List.length_cons,List.length_append,List.length_cons]; omega
 have hdd1:=kT (show nf / 8 < 1000 by omega)
 have hdd2:=kT (show nf % 8 < 1000 by omega)
 have htpl:t.prices.length = l.length:=hF.T.pl
 have html:t.minutes.length = l.length:=hF.T.ml
 refine zI (zA (Zu (Zt 1 [9] hn rfl (Zb 12 hn rfl fun b12=>Zt 1 [12] hn rfl (Zv (Zu (Zt 1 [] hn rfl (Zs hn (zBT rfl rfl underlying5 underlying3 (r:=(fg:Int)) (i64w (by omega) rfl)) ?_))))))))
 refine Zs hn (ye rfl rfl rfl (r:=((nf:Nat):Int)) (by omega) (by rw [← hnf]; exact modN (b:=80) (by omega))) ?_
 refine Zt 1 [] hn rfl (Zv (zC (zi (e:=.normal) (ι:=Unit) (fun u0=>anys [42,43,44,45,46,47,48,49,50,51,52,53,54,55,56,57,58,59,60,61,62,63,64,65,66,67,68,69]) (fun u0=>[(12,.box b12 27 [.d (stksD x.b.stocks),.d (.int .i64 x.b.jump),.d (.int .i64 x.b.small),.d (strD (moreS x.tape nm nf)),.d (.int .i64 x.fee),.d (ordsD x.orders)])]) (fun hJ1=>?_) ?_)))
 ·
  refine ze (W:=fun b=>b ≠ b9) fmo ?_
  refine Zy [0,2,3,4,5] [9] hn rfl (Zd 6 rfl hn (zBT rfl rfl underlying5 underlying3 (r:=(sk:Int)) (i64w (by omega) rfl)) ?_)
  refine Zy [7,8,9,10] [9] hn rfl (Zd 11 rfl hn (ye rfl rfl rfl (r:=((ks:Nat):Int)) (by rw [List.length_map]; show (x.b.stocks.length:Int) ≠ 0; omega) (by rw [List.length_map,← hks]; exact modN (a:=sk) (b:=x.b.stocks.length) (by omega))) ?_)
  refine Zd 12 rfl hn (q_index (i:=ks) rfl rfl rfl underlying22 sz98 rfl (mget hsx)) ?_
  refine Zy [13,14] [] hn rfl (Zd 15 rfl hn (yP rfl rfl rfl (c:=[32] ++ nm) (by rw [hnm]; simp; omega) (by rw [hnm])) ?_)
  refine Zd 16 rfl hn (yP rfl rfl rfl (by simp; omega) rfl) ?_
  refine Zy [17] [] hn rfl (Zd 18 rfl hn (zBf rfl rfl rfl (r:=((nf / 8:Nat):Int)) (by omega) (qu8 (b:=8) (by omega) (by omega))) ?_)
  refine Zy [22] [] hn rfl (Zd 23 rfl hn (ye rfl rfl rfl (r:=((nf % 8:Nat):Int)) (by omega) (modN (b:=8) (by omega))) ?_)
  refine zB ?_
  refine zj 1 [19] (by kernel_rfl) ⟨?_,?_,trivial⟩
  refine br rfl (Zw hn (zX rfl rfl (id:=12) rfl underlying9 rfl rfl sees0)) fun _=>?_
  refine d2_of_d1 (zB (Ze1 19 rfl hn rfl (y0 (nf / 8) (by omega)) (d2_of_d1 (Zd 20 rfl hn (yP rfl rfl rfl (by simp; omega) rfl) ?_))))
  refine Zd 21 rfl hn (yP rfl rfl rfl (by simp; omega) rfl) ?_
  refine zB (Ze1 24 rfl hn rfl (y0 (nf % 8) (by omega)) (d2_of_d1 (Zd 25 rfl hn (yP rfl rfl rfl (by simp; omega) rfl) ?_)))
  rotate_left
  focus
   refine br rfl (Zc hn (y0 (nf / 8) (by omega))) fun _=>?_
   refine d2_of_d1 (Zd 20 rfl hn (yP rfl rfl rfl (by simp; omega) rfl) ?_)
   refine Zd 21 rfl hn (yP rfl rfl rfl (by simp; omega) rfl) ?_
   refine zB ?_
   refine zj 1 [24] (by kernel_rfl) ⟨?_,?_,trivial⟩
   refine br rfl (Zw hn (zX rfl rfl (id:=12) rfl underlying9 rfl rfl sees0)) fun _=>?_
   refine d2_of_d1 (zB (Ze1 24 rfl hn rfl (y0 (nf % 8) (by omega)) (d2_of_d1 (Zd 25 rfl hn (yP rfl rfl rfl (by simp; omega) rfl) ?_))))
   rotate_left
   refine br rfl (Zc hn (y0 (nf % 8) (by omega))) fun _=>?_
   refine d2_of_d1 (Zd 25 rfl hn (yP rfl rfl rfl (by simp; omega) rfl) ?_)
   refine zB (Ze [1] [12] hn rfl (d2_of_d1 ?_))
   rotate_left
  rotate_left 2
  all_goals
   refine Zd 26 rfl hn (yP rfl rfl rfl (c:=moreS x.tape nm nf) (by simp; omega) more_tape) ?_
   refine Zy [27] [] hn rfl (zB (yC (i:=12) (j:=9) rfl rfl rfl (fun hne12_9=>?_)))
   refine Zo 28 rfl (s_store1 rfl rfl rfl rfl rfl rfl (id:=12) rfl sz9 (Nat.le_of_ble_eq_true rfl) rfl (fun e=>hne12_9 _ rfl (congrArg some e.symm))) fun _=>?_
   refine d2_of_d1 (zB (zb (by kernel_rfl) ?_))
   exact Zj hJ1 () (zF _) ⟨.inl rfl,trivial⟩
 rintro _
 refine zA (Zu (Zt 1 [12] hn rfl (Zk hn rfl (zEH (moreD x nm nf) hN2 hy5 (by dsimp only; omega)) (Zt 5 [] hn rfl (Zv (Zu (Zt 1 [9] hn rfl (Zk hn rfl (zCF x (by omega) (by omega)) (Zk hn rfl ((by have h:=zAh x hN2 (by omega) (by omega); rw [hF.v] at h; exact h)) ?_)))))))))
 refine Zt 5 [] hn rfl (Zv (Zu (Zt 1 [12] hn rfl (Zk hn rfl (zCF (moreD x nm nf) (by dsimp only; omega) (by dsimp only; omega)) (Zk hn rfl (zAh (moreD x nm nf) hN2 hy5 (by dsimp only; omega)) (Zt 5 [] hn rfl (Zv (zC (Zu (Zt 7 [] hn rfl (Zv (zH rfl (fun hb2=>?_) (fun hb2=>?_)))))))))))))
 refine Zu (Zk hn rfl (zBX) (Zt 1 [] hn rfl (Zv (zJ (zD ?_)))))
 exact ret_E (.inl rfl) () (zr rfl (.tmp rfl)) trivial
 have h0:deskI (moreD x nm nf) = 0:=by have h:=hb2; simp at h; exact h.1
 have hrd:=(yQ h0).1
 obtain ⟨p,hL⟩:=read_more hF.S.hr hsnm hsp hfp.2 hfp.1 hrd
 have hft:fltI (moreD x nm nf) = l ++ [p]:=by unfold fltI; rw [h0]; exact hL
 have hpY:=(yZ (b:=x.b) (s:=moreS x.tape nm nf)).1
 have hlY:=(yZ (b:=x.b) (s:=moreS x.tape nm nf)).2
 rw [show (readI x.b (moreS x.tape nm nf)).1 = l ++ [p] from hL] at hpY hlY
 have hll:(l ++ [p]).length = l.length + 1:=by simp
 have hgl:(l ++ [p])[l.length]? = some p:=by simp
 have hpk:=hpY p (by simp)
 have hpmi:=hpk.mi
 have hpla:=hpk.la
 obtain ⟨hsu,hsv⟩:=sure_01 h0
 rw [hft]
 refine zI (zA (zC (Zu (Zt 10 [] hn rfl (Zv (zH rfl (fun hb3=>?_) (fun hb3=>?_)))))))
 exact absurd hb3 (by rw [hsv]; rcases hsu with e | e <;> rw [e] <;> simp)
 refine zI (zA (zC (Zu (Zt 2 [] hn rfl (Zv (zH rfl (fun hb4=>?_) (fun hb4=>?_)))))))
 refine Zu (Zk hn rfl (zBX) (Zt 1 [] hn rfl (Zv (zJ (zD ?_)))))
 exact ret_E (.inl rfl) () (zr rfl (.tmp rfl)) trivial
 have hs0:sureO (moreD x nm nf) [] = 0:=by rw [← hsv]; simpa using hb4
 have hvY:verdsI (moreD x nm nf) = (x.orders.map fun o=>verdI x.b (l ++ [p]) x.fee o (minutesI x.b (moreS x.tape nm nf)).1,0):=by unfold verdsI; rw [hs0]; show (x.orders.map fun o=>verdI x.b (readI x.b (moreS x.tape nm nf)).1 x.fee o (minutesI x.b (moreS x.tape nm nf)).1,(0:Int)) = _; rw [show (readI x.b (moreS x.tape nm nf)).1 = l ++ [p] from hL]
 rw [hvY]
 refine zI (zA (zC ?_))
 refine zi (e:=.normal) (ι:={z:Nat × Value × Value // VecV z.2.1 1 (intsT t.prices) ∧ VecV z.2.2 1 (intsT t.minutes)}) (fun z=>(20,true,.val (.pointer (some ⟨z.1.1,0,none⟩))) :: anys [108,109,110,111,112,113,114,115,116]) (fun z=>[(20,.box z.1.1 31 [.val z.1.2.1,.val z.1.2.2,.d (ints t.orders)]),(1098,vecRes 3 z.1.2.1 1 (intsT t.prices)),(1099,vecRes 3 z.1.2.2 1 (intsT t.minutes))]) (fun hJ5=>?_) ?_
 ·
  refine ze (W:=fun b=>b ≠ b10) fmo ?_
  refine Zy [0,1,3,4,6,7] [10,10,10] hn rfl (zB ?_)
  refine zj 2 [9] (by kernel_rfl) ⟨?_,?_,trivial⟩
  focus
   refine br rfl (s_callE (zGA t.prices (by omega)) rfl rfl rfl (nb hn rfl) (.d rfl) rfl (.refl _) trivial (fun _=>rfl) (fun _ h=>zBY h)) fun ⟨vp,hVp⟩=>?_
   refine d2_of_d1 (zB ?_)
   refine zj 5 [9] (by kernel_rfl) ⟨?_,?_,trivial⟩
   refine br rfl (s_callE (zDX t.minutes (by omega)) rfl rfl rfl (nb hn rfl) (.d rfl) rfl (.refl _) trivial (fun _=>rfl) (fun _ h=>zBY h)) fun ⟨vm,hVm⟩=>?_
   refine d2_of_d1 (Zd 8 rfl hn (zB3 rfl bt31 rfl rfl rfl (zC8 (zAv hVp) (zAv hVm))) ?_)
   refine zB (Zo 9 rfl (yF 20 rfl rfl rfl (nb hn rfl) zr31 rfl rfl) fun b20=>?_)
   refine d2_of_d1 (zB ?_)
   rotate_left
   refine br rfl (yF 20 rfl rfl rfl (nb hn rfl) zr31 rfl rfl) fun b20=>?_
   refine d2_of_d1 (zB ?_)
   refine Zo 5 rfl (s_callE (zDX t.minutes (by omega)) rfl rfl rfl (nb hn rfl) (.d rfl) rfl (.refl _) trivial (fun _=>rfl) (fun _ h=>zBY h)) fun ⟨vm,hVm⟩=>?_
   refine d2_of_d1 (Zd 8 rfl hn (zB3 rfl bt31 rfl rfl rfl (zC8 (zAv hVp) (zAv hVm))) ?_)
   refine zB ?_
   rotate_left
  rotate_left 2
  refine br rfl (yF 20 rfl rfl rfl (nb hn rfl) zr31 rfl rfl) fun b20=>?_
  refine d2_of_d1 (zB ?_)
  refine Zo 2 rfl (s_callE (zGA t.prices (by omega)) rfl rfl rfl (nb hn rfl) (.d rfl) rfl (.refl _) trivial (fun _=>rfl) (fun _ h=>zBY h)) fun ⟨vp,hVp⟩=>?_
  refine d2_of_d1 (zB ?_)
  refine Zo 5 rfl (s_callE (zDX t.minutes (by omega)) rfl rfl rfl (nb hn rfl) (.d rfl) rfl (.refl _) trivial (fun _=>rfl) (fun _ h=>zBY h)) fun ⟨vm,hVm⟩=>?_
  refine d2_of_d1 (Zd 8 rfl hn (zB3 rfl bt31 rfl rfl rfl (zC8 (zAv hVp) (zAv hVm))) ?_)
  refine zB ?_
  rotate_left
  all_goals
   refine yC (i:=20) (j:=10) rfl rfl rfl (fun hne20_10=>?_)
   refine Zo 10 rfl (zz rfl rfl rfl rfl rfl rfl (id:=20) rfl sz31 rfl (Nat.le_of_ble_eq_true rfl) rfl (fun e=>hne20_10 _ rfl (congrArg some e.symm))) fun _=>?_
   refine d2_of_d1 (zB (zb (by kernel_rfl) ?_))
   exact Zj hJ5 ⟨(b20,vp,vm),hVp,hVm⟩ ⟨.inl rfl,zF _⟩ ⟨.inl rfl,.inl rfl,.inl rfl,trivial⟩
 rintro ⟨⟨b20,vp,vm⟩,hVp,hVm⟩
 dsimp only
 dsimp only at hVp hVm
 refine zA (Zu (Zt 2 [] hn rfl (Zs hn (yD rfl rfl rfl (r:=((l.length:Nat):Int)) (by rw [List.length_map,hll]; exact i64w (by omega) (by omega))) ?_)))
 refine Zt 1 [] hn rfl (Zv (zC ?_))
 refine zi (e:=.normal) (ι:={z:Nat × Nat // (t.minutes ++ [(p.minute - p.llo)]).length ≤ z.2 ∧ z.2 ≤ maxLen}) (fun z=>anys [120,121,122,123,124,125,126,127,128,129,130,131,132,133,134,135,136]) (fun z=>[(20,.box b20 31 [.val vp,.val (.slice (some ⟨z.1.1,0,none⟩) (t.minutes ++ [(p.minute - p.llo)]).length z.1.2),.d (ints t.orders)]),(1099,.box z.1.1 3 (intsT (t.minutes ++ [(p.minute - p.llo)]) ++ List.replicate ((z.1.2 - (t.minutes ++ [(p.minute - p.llo)]).length) * 1) .any))]) (fun hJ6=>?_) ?_
 ·
  refine ze (W:=fun b=>True) fmo ?_
  refine Zy [0,2,3] [] hn rfl (Zd 4 rfl hn (q_index (i:=l.length) rfl rfl rfl underlying109 sz139 rfl (mget hgl)) ?_)
  refine Zy [5,6,7,8] [] hn rfl (Zd 9 rfl hn (q_index (i:=l.length) rfl rfl rfl underlying109 sz139 rfl (mget hgl)) ?_)
  refine Zy [10,11,12] [] hn rfl (Zd 13 rfl hn (yD rfl rfl rfl (r:=(p.minute - p.llo)) (i64w (by omega) rfl)) ?_)
  refine zB ?_
  refine zj 1 [14] (by kernel_rfl) ⟨?_,?_,trivial⟩
  refine br rfl (Zw hn (zX rfl rfl (id:=20) rfl underlying29 rfl rfl sees0)) fun _=>?_
  refine d2_of_d1 (zB (Zo 14 rfl (zL rfl rfl rfl (nb hn rfl) underlying29 sz3 zr3 rfl rfl rfl (show _ = [.d (.int .i64 0)] from by kernel_rfl) (by kernel_rfl) rfl rfl rfl rfl rfl) fun _=>?_))
  rotate_left
  refine br rfl (zL rfl rfl rfl (nb hn rfl) underlying29 sz3 zr3 rfl rfl rfl (show _ = [.d (.int .i64 0)] from by kernel_rfl) (by kernel_rfl) rfl rfl rfl rfl rfl) fun _=>?_
  refine d2_of_d1 (zB (Ze [1] [20] hn rfl ?_))
  rotate_left
  all_goals
   refine d2_of_d1 (zB ?_)
   refine Zo 15 rfl (zAf (id:=1099) rfl rfl rfl (nb hn rfl) elt29 zr3 rfl hVm rfl rfl rfl (by simp [chunk]; omega) (by simp [chunk]; omega) (fun b hb=>trivial)) fun ⟨v135,hVm2⟩=>?_
   have hVm3:VecV v135 1 (intsT (t.minutes ++ [(p.minute - p.llo)])):=by rw [← zGh]; exact hVm2
   obtain ⟨bm,cm,rfl,hcm,hcmm⟩:=zFu hVm3 (by simp)
   refine d2_of_d1 (Zy [16] [] hn rfl (zB (Zo 17 rfl (s_store1 rfl rfl rfl rfl rfl rfl (id:=20) rfl sz29 (Nat.le_of_ble_eq_true rfl) rfl trivial) fun _=>?_)))
   refine d2_of_d1 (zB (zb (by kernel_rfl) ?_))
   exact Zj hJ6 ⟨(bm,cm),hcm,hcmm⟩ (zF _) ⟨.inl rfl,.inl (by rw [← zGh]; rfl),trivial⟩
 rintro ⟨⟨bm,cm⟩,hcm,hcmm⟩
 dsimp only
 dsimp only at hcm hcmm
 refine zA (zC ?_)
 have hpri:∀ k y,k < l.length → t.prices[k]? = some y → 1 ≤ y ∧ y ≤ 799:=fun k y hk hy=>by have h:=(hF.T.tr k hk).bd; rw [zQ hy] at h; exact h
 refine zG (Zt 1 [] hn rfl (Zv (zC (zK (awp_loop_on (ι:={n:Nat // n ≤ 799}) (fun z=>(22,true,.d (.int .i64 ((z.1 + 1:Nat):Int))) :: anys [137,138,139,140,141,142,143,144,145,146,147,148,149,150,151,152,153,154,155,156,157,158,159,160]) (fun z=>[(1098,vecRes 3 vp 1 (intsT t.prices))]) (fun z=>799 - z.1) ⟨0,Nat.zero_le _⟩ ⟨.inl rfl,zF _⟩ ⟨.inl rfl,trivial⟩ ?_)))))
 rintro ⟨n,hn9⟩
 dsimp only
 refine zC (Zu (Zt 5 [] hn rfl ?_))
 refine Zh [(140,_),(141,_)] (zO rfl rfl rfl) hn (fun hc=>⟨⟨_,rfl,hc⟩,⟨_,rfl,hc⟩,trivial⟩) (fun hc=>q_index (i:=l.length) rfl rfl rfl underlying109 sz139 rfl (mget hgl)) ?_
 refine Zt 3 [] hn rfl (Zkg hn rfl (fun hc=>zGg p l.length ((n + 1:Nat):Int) 0 (by omega) (by decide)) (Zt 8 [12,20] hn rfl ?_))
 refine stepW (s_callEg [(149,_),(150,_),(151,_),(152,_),(154,_)] () (fun hc=>PureAt.vecV (id:=1098) (e:=3) (ds1:=[brdD x.b,prtsD (l ++ [p]),.int .i64 (l.length:Nat),.int .i64 ((n + 1:Nat):Int)]) (ds2:=[]) (zFa x.b (l ++ [p]) l.length ((n + 1:Nat):Int) t.prices hF.S.v hpY (by omega) (by omega) (by omega) ⟨by omega,by have h:=hc; simp at h; omega⟩ hpri) rfl hVp (zAm t.prices) irows (by decide)) rfl (zO rfl rfl rfl) rfl (nb hn rfl) (fun hc=>⟨⟨_,rfl,hc⟩,⟨_,rfl,hc⟩,⟨_,rfl,hc⟩,⟨_,rfl,hc⟩,⟨_,rfl,hc⟩,trivial⟩) (.d rfl) rfl (.refl _) ⟨rfl,trivial⟩ (fun _=>rfl) (fun _ _=>trivial) ⟨rfl,trivial⟩) fun _=>?_
 refine Zt 3 [] hn rfl (Zv (zH rfl (fun hb7=>?_) (fun hb7=>?_)))
 have hnl9:n < 799:=by have h:=(Bool.and_eq_true_iff.1 hb7).1; have:=of_decide_eq_true h; omega
 refine zI (zA (zK (zG (Zt 1 [] hn rfl (Zs hn (za rfl rfl rfl (r:=((n + 1 + 1:Nat):Int)) (i64w (by omega) (by omega))) ?_)))))
 refine Zt 1 [] hn rfl (zR (zP ?_))
 exact Zr ⟨n + 1,by omega⟩ ⟨.inl rfl,zF _⟩ ⟨.inl rfl,trivial⟩ (by simp only; omega)
 refine zV (zE (zE (zM (zA (Zu (Zt 3 [20] hn rfl (stepW (zL rfl rfl rfl (nb hn rfl) underlying29 sz3 zr3 rfl rfl rfl (show _ = [.d (.int .i64 0)] from by kernel_rfl) (by kernel_rfl) rfl rfl rfl rfl rfl) fun _=>?_)))))))
 refine stepW (zAf (id:=1098) rfl rfl rfl (nb hn rfl) elt29 zr3 rfl hVp rfl rfl rfl (by simp [chunk]; omega) (by simp [chunk]; omega) (fun _ _=>trivial)) fun ⟨v165,hVp2⟩=>?_
 have hVp3:VecV v165 1 (intsT (t.prices ++ [((n + 1:Nat):Int)])):=by rw [← zGh]; exact hVp2
 obtain ⟨bp,cp,rfl,hcp,hcpm⟩:=zFu hVp3 (by simp)
 refine kE (gh_req (id:=1098) rfl (show _ = Res.box bp 3 (intsT (t.prices ++ [((n + 1:Nat):Int)]) ++ List.replicate ((cp - (t.prices ++ [((n + 1:Nat):Int)]).length) * 1) .any) from by rw [← zGh]; rfl)) ?_
 refine Zt 1 [] hn rfl (stepW (s_store1 rfl rfl rfl rfl rfl rfl (id:=20) rfl sz29 (Nat.le_of_ble_eq_true rfl) rfl trivial) fun _=>?_)
 refine Zv (zC (Zu (Zt 13 [9] hn rfl (Zv (zH rfl (fun hb8=>?_) (fun hb8=>?_))))))
 exact absurd hb8 (by simp [hvl])
 refine zI (zA (zC (ze (W:=fun b=>b ≠ b9 ∧ b ≠ b10) fmo ?_)))
 refine Zy [0,2] [9,10] hn rfl (zB (Ze1 1 rfl hn rfl (zCF x (by omega) (by omega)) (d2_of_d1 (zB (Ze1 3 rfl hn rfl (zEF t (by omega) (by omega) (by omega)) (d2_of_d1 (zB (Ze1 4 rfl hn rfl ((by have h:=zB4 x hN2 (by omega) (by omega) t; rw [hF.p] at h; exact h)) ?_))))))))
 refine d2_of_d1 (Zy [5,6,7,8,9] [] hn rfl (zB (zb (by kernel_rfl) ?_)))
 refine zA (zC ?_)
 obtain ⟨fs2,e2,hM⟩:=more_law (pc:=((n + 1:Nat):Int)) (lm:=(p.minute - p.llo)) hF h0 hL hs0
 refine zo (gh_veccell (id:=20) (k:=0) (rid:=1098) (ds:=((t.prices ++ [((n + 1:Nat):Int)]).map intE).flatten) (rest:=List.replicate ((cp - (t.prices ++ [((n + 1:Nat):Int)]).length) * 1) TV.any) (n:=(t.prices ++ [((n + 1:Nat):Int)]).length) (sz:=1) rfl rfl (congrArg (fun z=>some (Res.box bp 3 (z ++ List.replicate ((cp - (t.prices ++ [((n + 1:Nat):Int)]).length) * 1) TV.any))) (zAm _)) rfl (ilen rfl) (ichunk rfl) hcp hcpm) ?_
 refine zo (gh_veccell (id:=20) (k:=1) (rid:=1099) (ds:=((t.minutes ++ [(p.minute - p.llo)]).map intE).flatten) (rest:=List.replicate ((cm - (t.minutes ++ [(p.minute - p.llo)]).length) * 1) TV.any) (n:=(t.minutes ++ [(p.minute - p.llo)]).length) (sz:=1) rfl rfl (congrArg (fun z=>some (Res.box bm 3 (z ++ List.replicate ((cm - (t.minutes ++ [(p.minute - p.llo)]).length) * 1) TV.any))) (zAm _)) rfl (ilen rfl) (ichunk rfl) hcm hcmm) ?_
 refine ze (W:=fun b=>b ≠ b12 ∧ b ≠ b20) fmo ?_
 refine Zy [0,2] [12,20] hn rfl (zB (Ze1 1 rfl hn rfl (zCF (moreD x nm nf) (by dsimp only; omega) (by dsimp only; omega)) (d2_of_d1 (zB (Ze1 3 rfl hn rfl (zEF ⟨t.prices ++ [((n + 1:Nat):Int)],t.minutes ++ [(p.minute - p.llo)],t.orders⟩ (by simp; omega) (by simp; omega) (by dsimp only; omega)) (d2_of_d1 (zB ?_)))))))
 refine Ze1 4 rfl hn rfl ((by have h:=zB4 (moreD x nm nf) hN2 hy5 (by dsimp only; omega) ⟨t.prices ++ [((n + 1:Nat):Int)],t.minutes ++ [(p.minute - p.llo)],t.orders⟩; rw [hM.py] at h; exact h)) ?_
 refine d2_of_d1 (Zy [5,6,7,8,9] [] hn rfl (zB (zb (by kernel_rfl) ?_)))
 refine zA (zC (Zu (Zt 9 [] hn rfl (Zv (zH rfl (fun hb9=>?_) (fun hb9=>?_))))))
 exact absurd hb9 (by simp [hfl,hvl])
 refine zI (zA (zC (Zu (Zt 1 [] hn rfl (Zv (zK (awp_loop_on (ι:={i:Nat // i ≤ x.orders.length}) (fun z=>(27,true,.d (.int .i64 (z.1:Nat))) :: anys [205,206,207,208,211,212,213,214,215,216,217,218,219,220,221,222,223,224,225,226,227,228,229,230,231,232,233,234,235,236,237,238,239,240,241,242,243,244,245,246,247,248,249,250,251,252,253,254,255,256,209,210]) (fun z=>[]) (fun z=>x.orders.length - z.1) ⟨0,Nat.zero_le _⟩ ⟨.inl rfl,zF _⟩ trivial ?_)))))))
 rintro ⟨i,hi⟩
 dsimp only
 refine zC (Zu (Zt 4 [] hn rfl (Zv (zH rfl (fun hb10=>?_) (fun hb10=>?_)))))
 have hil:i < x.orders.length:=by simp [hvl] at hb10; omega
 obtain ⟨o,hod⟩:=zT hil
 obtain ⟨hf,_,hv1,_⟩:=hF.at_ i o hod
 have hv2:(x.orders.map fun o=>verdI x.b (l ++ [p]) x.fee o (minutesI x.b (moreS x.tape nm nf)).1)[i]? = some (verdI x.b (l ++ [p]) x.fee o (minutesI x.b (moreS x.tape nm nf)).1):=by rw [List.getElem?_map,hod]; rfl
 have hvv:=hM.vv i o hod
 refine zI (zA (zC (zK (zC (Zu (Zt 2 [] hn rfl (Zi (i:=i) hn rfl rfl (mget hv1) ?_)))))))
 refine Zt 5 [] hn rfl ?_
 refine Zh [(217,_),(218,_)] (zO rfl rfl rfl) hn (fun hc=>⟨⟨_,rfl,hc⟩,⟨_,rfl,hc⟩,trivial⟩) (fun hc=>q_index (i:=i) rfl rfl rfl underlying29 sz3 rfl (mget hv2)) ?_
 refine Zt 3 [] hn rfl (Zv (zH rfl (fun hb11=>?_) (fun hb11=>?_)))
 exact absurd hb11 (by intro h; have h6:=Bool.and_eq_true_iff.1 h; have h7:=hvv (by simpa using h6.1); simp [h7] at h6)
 refine zI (zA (zC (zi (e:=.normal) (ι:=Unit) (fun u0=>(256,true,.d (.bool false)) :: anys [223,224,225,226,227,228,229,230,231,232,233,234,235,236,237,238,239,240,241,242,243,244,245,246,247,248,249,250,251,252,253,254,255]) (fun u0=>[]) (fun hJ12=>?_) ?_)))
 refine ze (W:=fun b=>b ≠ b12 ∧ b ≠ b20) fmo ?_
 refine Zy [0,1,2] [12,20] hn rfl (zB (Ze1 3 rfl hn rfl (zHF (moreD x nm nf) (l ++ [p]) ⟨t.prices ++ [((n + 1:Nat):Int)],t.minutes ++ [(p.minute - p.llo)],t.orders⟩ hF.S.v (by dsimp only; omega) hpY hlY) (d2_of_d1 (Zy [4,5,6,7,8,9,10,11,12,13,14,15,16] [] hn rfl ?_))))
 refine Zg 17 [(238,_),(239,_)] rfl (zO rfl rfl rfl) hn (fun hc=>⟨⟨_,rfl,hc⟩,⟨_,rfl,hc⟩,trivial⟩) (fun hc=>q_index (i:=i) rfl rfl rfl underlying53 sz68 rfl (mget hf)) ?_
 refine Zy [18,19,20,21,22,23] [] hn rfl ?_
 refine Zg 24 [(245,_),(246,_)] rfl (zO rfl rfl rfl) hn (fun hc=>⟨⟨_,rfl,hc⟩,⟨_,rfl,hc⟩,trivial⟩) (fun hc=>q_index (i:=i) rfl rfl rfl underlying53 sz68 rfl (mgetF (by have h:=hc; simp at h; omega))) ?_
 refine Zy [25,26,27] [] hn rfl ?_
 refine Zg 28 [(249,_),(250,_)] rfl (zO rfl rfl rfl) hn (fun hc=>⟨⟨_,rfl,hc⟩,⟨_,rfl,hc⟩,trivial⟩) (fun hc=>q_index (i:=i) rfl rfl rfl underlying53 sz68 rfl (mget hf)) ?_
 refine Zy [29] [] hn rfl ?_
 refine Zg 30 [(248,_),(252,_)] rfl (zO rfl rfl rfl) hn (fun hc=>⟨⟨_,rfl,hc⟩,⟨_,rfl,hc⟩,trivial⟩) (fun hc=>q_neq68 rfl rfl rfl) ?_
 refine Zy [31,32,33] [] hn rfl (zB (zb (by kernel_rfl) ?_))
 exact Zj hJ12 () ⟨.inl (congrArg (fun z=>some (true,TV.d (D.bool z))) (more_no hM hod rfl hfl)),zF _⟩ trivial
 rintro _
 refine zA (zH rfl (fun hb13=>?_) (fun hb13=>?_))
 exact absurd hb13 (by decide)
 refine zI (zP (zA (zG (Zt 1 [] hn rfl (Zs hn (za rfl rfl rfl (r:=((i + 1:Nat):Int)) (i64w (by omega) (by omega))) ?_)))))
 refine Zt 1 [] hn rfl (zR ?_)
 exact Zr ⟨i + 1,by omega⟩ ⟨.inl rfl,zF _⟩ trivial (by simp only; omega)
 obtain rfl:i = x.orders.length:=by simp [hvl] at hb10; omega
 refine zV (zE (zE (zM (zA (Zu (Zk hn rfl (zBX) (Zt 1 [] hn rfl (Zv (zJ ?_)))))))))
 exact ret_E (.inl rfl) () (zr rfl (.tmp rfl)) trivial
theorem OddMore_ok (d:Dsk) (ws:List Int) (sk fg:Nat) (hN:NamesOK d.b) (hw:WdsOK ws) (hsk:sk ≤ 255) (hfg:fg ≤ 255):PureAt Tryz.prog 11 [dskD d,wdsD ws,.int .u8 (sk:Nat),.int .u8 (fg:Nat)] (.bool true):=PureAt.of_eff (ds:=[dskD d,wdsD ws,.int .u8 (sk:Nat),.int .u8 (fg:Nat)]) (OddMore_eff d ws sk fg hN hw hsk hfg)
end Go.Proofs.YticlpkgpmmhemaaGreatDoor
