/-
  A part of the proof that contangolaw.OddPair returns true: what the last text needs, and no more. No condition: no statement of the seat is proved here.
-/
import Derived.Test.YticlpkgpmmhemaaGreatDoorOddPairO
namespace Go.Proofs.YticlpkgpmmhemaaGreatDoor
open Go.Proofs.Tryz
open Go.RowKit
set_option maxRecDepth 20000
set_option linter.all false
set_option maxHeartbeats 4000000
def lateS:List UInt8:=[64,53,32,65,66,32,51,115,32,56,46,50,32,76,49,45,50,32,64,55,32,56,46,53,32,67,32,48,46,49,32,33,32,64,56,32,48,46,55,32,63]
def latL4:List Prt:=[⟨0,3,3,66,false,5,0,0⟩,⟨0,1,1,69,false,7,1,2⟩,⟨1,1,1,1,false,7,1,2⟩,⟨1,1,4,7,false,8,1,2⟩]
def twoB:Brd:=⟨[⟨[65,66],300,310⟩,⟨[67],75,79⟩],10,4⟩
def thrO:List Ord:=[⟨true,0,10,0,4,5⟩,⟨false,0,20,308,5,5⟩,⟨true,1,30,85,4,6⟩]
def threeD:Dsk:=⟨twoB,lateS,1,thrO⟩
def toldT:Tru:=⟨[306,309,81,87],[5,6,6,7],[5,5,6]⟩
def lateM:List (Int × Int):=[(5,5),(5,6),(5,6),(6,7)]
theorem two_valid:checkT twoB = 0:=by kernel_rfl
theorem zAQ:readI twoB lateS = (latL4,0):=by rw [← zBm two_valid]; kernel_rfl
theorem t_prices:(pricesI twoB lateS).2 = 0:=by unfold pricesI; rw [zAQ]; kernel_rfl
theorem zAb:minutesI twoB lateS = (lateM,0):=by unfold minutesI; rw [zAQ]; kernel_rfl
theorem zF4:deskI threeD = 0:=by unfold deskI; rw [show readI threeD.b threeD.tape = (latL4,0) from zAQ]; kernel_rfl
theorem zEM (os:List Int) (h:(os.all fun n=>withinB n 0 ((threeD.orders.length:Int) - 1)) = true):sureO threeD os = 0:=by
  unfold sureO
  rw [zF4,h,show (pricesI threeD.b threeD.tape).2 = 0 from t_prices,show minutesI threeD.b threeD.tape = (lateM,0) from zAb]; rfl
theorem t_sales0:salesI threeD 0 = ([0,1],0):=by
  unfold salesI
  rw [zEM [0] (by kernel_rfl),show readI threeD.b threeD.tape = (latL4,0) from zAQ,show minutesI threeD.b threeD.tape = (lateM,0) from zAb]; kernel_rfl
theorem t_bounds:boundsI threeD = ([(307,310),(308,308),(82,82)],0):=by
  unfold boundsI
  rw [zEM [] (by kernel_rfl),show readI threeD.b threeD.tape = (latL4,0) from zAQ,show minutesI threeD.b threeD.tape = (lateM,0) from zAb]; kernel_rfl
theorem t_verds:verdsI threeD = ([3,3,3],0):=by
  unfold verdsI
  rw [zEM [] (by kernel_rfl),show readI threeD.b threeD.tape = (latL4,0) from zAQ,show minutesI threeD.b threeD.tape = (lateM,0) from zAb]; kernel_rfl
theorem t_truth:truthW threeD (readI threeD.b threeD.tape).1 toldT = true:=by
  unfold truthW
  rw [zDz,show readI threeD.b threeD.tape = (latL4,0) from zAQ]; kernel_rfl
theorem zHc:playI threeD toldT = ([(1,310),(1,308),(-1,0)],0):=by
  unfold playI
  rw [zF4,t_truth,show readI threeD.b threeD.tape = (latL4,0) from zAQ]; kernel_rfl
theorem t_has:hasI threeD toldT = ([10,0],-3060,0):=by unfold hasI; rw [zHc]; kernel_rfl
theorem t_show {x:Tru × Int} (h:ShowR threeD 0 true x.1 x.2):∃ t,x = (t,0) ∧ (deskI threeD == 0 && truthW threeD (readI threeD.b threeD.tape).1 t) = true:=by
  have hb:(bndI threeD.b (readI threeD.b threeD.tape).1 threeD.fee (threeD.orders.getD (0:Int).toNat ord0) (minutesI threeD.b threeD.tape).1).2 = true:=by
    rw [show readI threeD.b threeD.tape = (latL4,0) from zAQ,show minutesI threeD.b threeD.tape = (lateM,0) from zAb]; kernel_rfl
  obtain ⟨t,e⟩:=x
  have he:e = 0:=by
    change ShowR threeD 0 true t e at h
    cases h with
    | bad h1=>exact (h1 (zEM [0] (by kernel_rfl))).elim
    | no _ h2=>rw [hb] at h2; cases h2
    | yes=>rfl
  subst he
  obtain ⟨_,hT,_⟩:=show_yes (d:=threeD) (q:=0) (o:=⟨true,0,10,0,4,5⟩) (high:=true) rfl h
  exact ⟨t,rfl,by rw [zF4,(zAo (by rw [show readI threeD.b threeD.tape = (latL4,0) from zAQ])).2 hT]; rfl⟩
theorem yl:NamesOK threeD.b:=fun s hs=>by
  have hs:s ∈ [(⟨[65,66],300,310⟩:Stk),⟨[67],75,79⟩]:=hs
  simp only [List.mem_cons,List.not_mem_nil,or_false] at hs
  rcases hs with rfl | rfl <;> simp
theorem kG :PureAt Tryz.prog 69 [] (dskD threeD):=by
 refine Zp Tryz.func69 rfl fun Γ hn hl=>?_
 refine Zu ?_
 refine Zb 0 hn rfl fun b0=>?_
 refine Zv (Zu ?_)
 refine Zt 4 [] hn rfl ?_
 refine stepW (zK rfl rfl rfl (nb hn rfl) underlying22 sz98 zr98 rfl rfl rfl (show _ = [.d (.str ⟨#[]⟩),.d (.int .i64 0),.d (.int .i64 0),.d (.str ⟨#[]⟩),.d (.int .i64 0),.d (.int .i64 0)] from by kernel_rfl) (by kernel_rfl) rfl rfl rfl rfl rfl) fun _=>?_
 refine Zt 1 [] hn rfl ?_
 refine Zk hn rfl (zDZ twoB (by decide)) ?_
 refine Zk hn rfl (y2 _ _) ?_
 refine Zt 1 [] hn rfl ?_
 refine Zk hn rfl (y2 _ _) ?_
 refine Zt 1 [] hn rfl ?_
 refine Zk hn rfl (y2 _ _) ?_
 refine Zt 1 [] hn rfl ?_
 refine stepW (zK rfl rfl rfl (nb hn rfl) underlying49 sz152 zr152 rfl rfl rfl (show _ = [.d (.bool false),.d (.int .i64 0),.d (.int .i64 0),.d (.int .i64 0),.d (.int .i64 0),.d (.int .i64 0),.d (.bool false),.d (.int .i64 0),.d (.int .i64 0),.d (.int .i64 0),.d (.int .i64 0),.d (.int .i64 0),.d (.bool false),.d (.int .i64 0),.d (.int .i64 0),.d (.int .i64 0),.d (.int .i64 0),.d (.int .i64 0)] from by kernel_rfl) (by kernel_rfl) rfl rfl rfl rfl rfl) fun _=>?_
 refine Zt 2 [0] hn rfl ?_
 refine Zv (zJ ?_)
 exact zY (.inl rfl) hl rfl (.cellA rfl (id:=0) rfl underlying51 rfl sz51 rfl rfl)
theorem zE7 :PureAt Tryz.prog 70 [] (truD toldT):=by
 refine Zp Tryz.func70 rfl fun Γ hn hl=>?_
 refine Zu ?_
 refine Zb 0 hn rfl fun b0=>?_
 refine Zv (Zu ?_)
 refine stepW (zK rfl rfl rfl (nb hn rfl) underlying29 sz3 zr3 rfl rfl rfl (show _ = [.d (.int .i64 0),.d (.int .i64 0),.d (.int .i64 0),.d (.int .i64 0)] from by kernel_rfl) (by kernel_rfl) rfl rfl rfl rfl rfl) fun _=>?_
 refine stepW (zK rfl rfl rfl (nb hn rfl) underlying29 sz3 zr3 rfl rfl rfl (show _ = [.d (.int .i64 0),.d (.int .i64 0),.d (.int .i64 0),.d (.int .i64 0)] from by kernel_rfl) (by kernel_rfl) rfl rfl rfl rfl rfl) fun _=>?_
 refine stepW (zK rfl rfl rfl (nb hn rfl) underlying29 sz3 zr3 rfl rfl rfl (show _ = [.d (.int .i64 0),.d (.int .i64 0),.d (.int .i64 0)] from by kernel_rfl) (by kernel_rfl) rfl rfl rfl rfl rfl) fun _=>?_
 refine Zt 2 [0] hn rfl ?_
 refine Zv (zJ ?_)
 exact zY (.inl rfl) hl rfl (.cellA rfl (id:=0) rfl underlying56 rfl sz56 rfl rfl)
theorem awake4_eff :EffAt Tryz.prog 45 [] [] (X:=Unit) (fun _=>.d (.bool true)) (fun _=>[]):=by
 refine EffAt.of_awp Tryz.func45 rfl (by kernel_rfl) rfl fun Γ hn=>?_
 refine Zu ?_
 refine Zt 1 [] hn rfl ?_
 refine Zv (Zu ?_)
 refine Zk hn rfl (kG) ?_
 refine Zk hn rfl ((by have h:=zCG threeD yl (by decide) (by decide) 0; rw [t_sales0] at h; exact h)) ?_
 refine Zt 5 [] hn rfl ?_
 refine Zv (Zu ?_)
 refine Zk hn rfl (kG) ?_
 refine Zk hn rfl ((by have h:=zBZ threeD yl (by decide) (by decide); rw [t_bounds] at h; exact h)) ?_
 refine Zt 5 [] hn rfl ?_
 refine Zv (Zu ?_)
 refine Zk hn rfl (kG) ?_
 refine Zk hn rfl ((by have h:=zAk threeD yl (by decide) (by decide); rw [t_verds] at h; exact h)) ?_
 refine Zt 5 [] hn rfl ?_
 refine Zv (Zu ?_)
 refine Zk hn rfl (kG) ?_
 refine Zk hn rfl (zE7) ?_
 refine Zk hn rfl ((by have h:=zDF threeD yl (by decide) (by decide) toldT; rw [zHc] at h; exact h)) ?_
 refine Zt 5 [] hn rfl ?_
 refine Zv (Zu ?_)
 refine Zk hn rfl (kG) ?_
 refine Zk hn rfl (zE7) ?_
 refine Zk hn rfl ((by have h:=zGx threeD yl (by decide) (by decide) toldT; rw [t_has] at h; exact h)) ?_
 refine Zt 7 [] hn rfl ?_
 refine Zv (Zu ?_)
 refine Zk hn rfl (kG) ?_
 refine stepW (s_callE (Show4_eff threeD yl (by decide) (by decide) 0 true) rfl rfl rfl (nb hn rfl) (.d rfl) rfl (.refl _) trivial (fun _=>rfl) (fun _ _=>trivial)) fun ⟨xx,hxx⟩=>?_
 obtain ⟨tt,rfl,hpt⟩:=t_show hxx
 refine Zt 3 [] hn rfl ?_
 refine Zb 12 hn rfl fun b12=>?_
 refine Zt 2 [12] hn rfl ?_
 refine Zv (zC ?_)
 refine ze (W:=fun b=>b ≠ b12) fmo ?_
 refine d1q (i:=0) rfl (by as_aux_lemma=>kernel_rfl) (fun _ _ _ _ h=>h) rfl rfl hn rfl (zt rfl rfl) ?_
 refine d1q (i:=1) rfl (by as_aux_lemma=>kernel_rfl) (fun _ _ _ _ h=>h) rfl rfl hn rfl (yS (tv':=.d (.bool true)) (zAw rfl rfl rfl) rfl) ?_
 refine d1q (i:=2) rfl (by as_aux_lemma=>kernel_rfl) (fun _ _ _ _ h=>h) rfl rfl hn rfl (zt rfl rfl) ?_
 refine d1g (i:=3) [] rfl (by as_aux_lemma=>kernel_rfl) (fun _ _ _ _ h=>h) (zM rfl rfl rfl) rfl hn rfl (fun hc=>trivial) (fun hc=>zt rfl rfl) ?_
 refine zB ?_
 refine kB (i:=4) (by as_aux_lemma=>kernel_rfl) rfl (zEs (zM rfl rfl rfl) rfl (nb hn rfl) (zK rfl rfl rfl (nb hn rfl) underlying29 sz3 zr3 rfl rfl rfl (show _ = [.d (.int .i64 0),.d (.int .i64 0)] from by kernel_rfl) (by kernel_rfl) rfl rfl rfl rfl rfl)) fun _=>?_
 refine d2_of_d1 (zB ?_)
 refine kB (i:=5) (by as_aux_lemma=>kernel_rfl) rfl (s_call [(50,_),(51,_)] (fun hc=>zBr [0,1] [0,1]) rfl (zM rfl rfl rfl) rfl (nb hn rfl) (fun hc=>⟨⟨_,rfl,hc⟩,⟨_,rfl,hc⟩,trivial⟩) rfl rfl (.refl _)) fun _=>?_
 refine d2_of_d1 ?_
 refine d1q (i:=6) rfl (by as_aux_lemma=>kernel_rfl) (fun _ _ _ _ h=>h) rfl rfl hn rfl (yS (tv':=.d (.bool true)) (y4 rfl rfl rfl (by intro hB; first | (rw [hB]; rfl) | (rw [hB,hc]; rfl) | simp_all)) rfl) ?_
 refine d1q (i:=7) rfl (by as_aux_lemma=>kernel_rfl) (fun _ _ _ _ h=>h) rfl rfl hn rfl (zt rfl rfl) ?_
 refine d1g (i:=8) [] rfl (by as_aux_lemma=>kernel_rfl) (fun _ _ _ _ h=>h) (zM rfl rfl rfl) rfl hn rfl (fun hc=>trivial) (fun hc=>zt rfl rfl) ?_
 refine d1g (i:=9) [(55,_)] rfl (by as_aux_lemma=>kernel_rfl) (fun _ _ _ _ h=>h) (zM rfl rfl rfl) rfl hn rfl (fun hc=>⟨⟨_,rfl,hc⟩,trivial⟩) (fun hc=>yS (tv':=.d (.bool true)) (zAw rfl rfl rfl) rfl) ?_
 refine d1q (i:=10) rfl (by as_aux_lemma=>kernel_rfl) (fun _ _ _ _ h=>h) rfl rfl hn rfl (yS (tv':=.d (.bool true)) (y4 rfl rfl rfl (by intro hB; first | (rw [hB]; rfl) | (rw [hB,hc]; rfl) | simp_all)) rfl) ?_
 refine d1q (i:=11) rfl (by as_aux_lemma=>kernel_rfl) (fun _ _ _ _ h=>h) rfl rfl hn rfl (zt rfl rfl) ?_
 refine d1g (i:=12) [] rfl (by as_aux_lemma=>kernel_rfl) (fun _ _ _ _ h=>h) (zM rfl rfl rfl) rfl hn rfl (fun hc=>trivial) (fun hc=>zt rfl rfl) ?_
 refine d1g (i:=13) [(59,_)] rfl (by as_aux_lemma=>kernel_rfl) (fun _ _ _ _ h=>h) (zM rfl rfl rfl) rfl hn rfl (fun hc=>⟨⟨_,rfl,hc⟩,trivial⟩) (fun hc=>zHH rfl rfl underlying46) ?_
 refine d1g (i:=14) [(60,_)] rfl (by as_aux_lemma=>kernel_rfl) (fun _ _ _ _ h=>h) (zM rfl rfl rfl) rfl hn rfl (fun hc=>⟨⟨_,rfl,hc⟩,trivial⟩) (fun hc=>yS (tv':=.d (.bool true)) (zAw rfl rfl rfl) rfl) ?_
 refine d1q (i:=15) rfl (by as_aux_lemma=>kernel_rfl) (fun _ _ _ _ h=>h) rfl rfl hn rfl (yS (tv':=.d (.bool true)) (y4 rfl rfl rfl (by intro hB; first | (rw [hB]; rfl) | (rw [hB,hc]; rfl) | simp_all)) rfl) ?_
 refine d1q (i:=16) rfl (by as_aux_lemma=>kernel_rfl) (fun _ _ _ _ h=>h) rfl rfl hn rfl (zt rfl rfl) ?_
 refine d1g (i:=17) [] rfl (by as_aux_lemma=>kernel_rfl) (fun _ _ _ _ h=>h) (zM rfl rfl rfl) rfl hn rfl (fun hc=>trivial) (fun hc=>zt rfl rfl) ?_
 refine d1g (i:=18) [(64,_)] rfl (by as_aux_lemma=>kernel_rfl) (fun _ _ _ _ h=>h) (zM rfl rfl rfl) rfl hn rfl (fun hc=>⟨⟨_,rfl,hc⟩,trivial⟩) (fun hc=>q_index (i:=0) rfl rfl rfl underlying46 sz66 rfl rfl) ?_
 refine d1g (i:=19) [(65,_)] rfl (by as_aux_lemma=>kernel_rfl) (fun _ _ _ _ h=>h) (zM rfl rfl rfl) rfl hn rfl (fun hc=>⟨⟨_,rfl,hc⟩,trivial⟩) (fun hc=>yQ rfl rfl underlying66 rfl sz66 rfl rfl seesFA) ?_
 refine zB ?_
 refine kB (i:=20) (by as_aux_lemma=>kernel_rfl) rfl (s_call [] (fun hc=>y2 _ _) rfl (zM rfl rfl rfl) rfl (nb hn rfl) (fun hc=>trivial) rfl rfl (.refl _)) fun _=>?_
 refine d2_of_d1 ?_
 refine d1g (i:=21) [(66,_),(67,_)] rfl (by as_aux_lemma=>kernel_rfl) (fun _ _ _ _ h=>h) (zM rfl rfl rfl) rfl hn rfl (fun hc=>⟨⟨_,rfl,hc⟩,⟨_,rfl,hc⟩,trivial⟩) (fun hc=>yS (tv':=.d (.bool true)) (zEw rfl rfl rfl) rfl) ?_
 refine d1q (i:=22) rfl (by as_aux_lemma=>kernel_rfl) (fun _ _ _ _ h=>h) rfl rfl hn rfl (yS (tv':=.d (.bool true)) (y4 rfl rfl rfl (by intro hB; first | (rw [hB]; rfl) | (rw [hB,hc]; rfl) | simp_all)) rfl) ?_
 refine d1q (i:=23) rfl (by as_aux_lemma=>kernel_rfl) (fun _ _ _ _ h=>h) rfl rfl hn rfl (zt rfl rfl) ?_
 refine d1g (i:=24) [] rfl (by as_aux_lemma=>kernel_rfl) (fun _ _ _ _ h=>h) (zM rfl rfl rfl) rfl hn rfl (fun hc=>trivial) (fun hc=>zt rfl rfl) ?_
 refine d1g (i:=25) [(71,_)] rfl (by as_aux_lemma=>kernel_rfl) (fun _ _ _ _ h=>h) (zM rfl rfl rfl) rfl hn rfl (fun hc=>⟨⟨_,rfl,hc⟩,trivial⟩) (fun hc=>q_index (i:=1) rfl rfl rfl underlying46 sz66 rfl rfl) ?_
 refine d1g (i:=26) [(72,_)] rfl (by as_aux_lemma=>kernel_rfl) (fun _ _ _ _ h=>h) (zM rfl rfl rfl) rfl hn rfl (fun hc=>⟨⟨_,rfl,hc⟩,trivial⟩) (fun hc=>yQ rfl rfl underlying66 rfl sz66 rfl rfl seesFA) ?_
 refine zB ?_
 refine kB (i:=27) (by as_aux_lemma=>kernel_rfl) rfl (s_call [] (fun hc=>y2 _ _) rfl (zM rfl rfl rfl) rfl (nb hn rfl) (fun hc=>trivial) rfl rfl (.refl _)) fun _=>?_
 refine d2_of_d1 ?_
 refine d1g (i:=28) [(73,_),(74,_)] rfl (by as_aux_lemma=>kernel_rfl) (fun _ _ _ _ h=>h) (zM rfl rfl rfl) rfl hn rfl (fun hc=>⟨⟨_,rfl,hc⟩,⟨_,rfl,hc⟩,trivial⟩) (fun hc=>yS (tv':=.d (.bool true)) (zEw rfl rfl rfl) rfl) ?_
 refine d1q (i:=29) rfl (by as_aux_lemma=>kernel_rfl) (fun _ _ _ _ h=>h) rfl rfl hn rfl (yS (tv':=.d (.bool true)) (y4 rfl rfl rfl (by intro hB; first | (rw [hB]; rfl) | (rw [hB,hc]; rfl) | simp_all)) rfl) ?_
 refine d1q (i:=30) rfl (by as_aux_lemma=>kernel_rfl) (fun _ _ _ _ h=>h) rfl rfl hn rfl (zt rfl rfl) ?_
 refine d1g (i:=31) [] rfl (by as_aux_lemma=>kernel_rfl) (fun _ _ _ _ h=>h) (zM rfl rfl rfl) rfl hn rfl (fun hc=>trivial) (fun hc=>zt rfl rfl) ?_
 refine d1g (i:=32) [(78,_)] rfl (by as_aux_lemma=>kernel_rfl) (fun _ _ _ _ h=>h) (zM rfl rfl rfl) rfl hn rfl (fun hc=>⟨⟨_,rfl,hc⟩,trivial⟩) (fun hc=>q_index (i:=2) rfl rfl rfl underlying46 sz66 rfl rfl) ?_
 refine d1g (i:=33) [(79,_)] rfl (by as_aux_lemma=>kernel_rfl) (fun _ _ _ _ h=>h) (zM rfl rfl rfl) rfl hn rfl (fun hc=>⟨⟨_,rfl,hc⟩,trivial⟩) (fun hc=>yQ rfl rfl underlying66 rfl sz66 rfl rfl seesFA) ?_
 refine zB ?_
 refine kB (i:=34) (by as_aux_lemma=>kernel_rfl) rfl (s_call [] (fun hc=>y2 _ _) rfl (zM rfl rfl rfl) rfl (nb hn rfl) (fun hc=>trivial) rfl rfl (.refl _)) fun _=>?_
 refine d2_of_d1 ?_
 refine d1g (i:=35) [(80,_),(81,_)] rfl (by as_aux_lemma=>kernel_rfl) (fun _ _ _ _ h=>h) (zM rfl rfl rfl) rfl hn rfl (fun hc=>⟨⟨_,rfl,hc⟩,⟨_,rfl,hc⟩,trivial⟩) (fun hc=>yS (tv':=.d (.bool true)) (zEw rfl rfl rfl) rfl) ?_
 refine d1q (i:=36) rfl (by as_aux_lemma=>kernel_rfl) (fun _ _ _ _ h=>h) rfl rfl hn rfl (yS (tv':=.d (.bool true)) (y4 rfl rfl rfl (by intro hB; first | (rw [hB]; rfl) | (rw [hB,hc]; rfl) | simp_all)) rfl) ?_
 refine d1q (i:=37) rfl (by as_aux_lemma=>kernel_rfl) (fun _ _ _ _ h=>h) rfl rfl hn rfl (zt rfl rfl) ?_
 refine d1g (i:=38) [] rfl (by as_aux_lemma=>kernel_rfl) (fun _ _ _ _ h=>h) (zM rfl rfl rfl) rfl hn rfl (fun hc=>trivial) (fun hc=>zt rfl rfl) ?_
 refine d1g (i:=39) [(85,_)] rfl (by as_aux_lemma=>kernel_rfl) (fun _ _ _ _ h=>h) (zM rfl rfl rfl) rfl hn rfl (fun hc=>⟨⟨_,rfl,hc⟩,trivial⟩) (fun hc=>yS (tv':=.d (.bool true)) (zAw rfl rfl rfl) rfl) ?_
 refine d1q (i:=40) rfl (by as_aux_lemma=>kernel_rfl) (fun _ _ _ _ h=>h) rfl rfl hn rfl (yS (tv':=.d (.bool true)) (y4 rfl rfl rfl (by intro hB; first | (rw [hB]; rfl) | (rw [hB,hc]; rfl) | simp_all)) rfl) ?_
 refine d1q (i:=41) rfl (by as_aux_lemma=>kernel_rfl) (fun _ _ _ _ h=>h) rfl rfl hn rfl (zt rfl rfl) ?_
 refine d1g (i:=42) [] rfl (by as_aux_lemma=>kernel_rfl) (fun _ _ _ _ h=>h) (zM rfl rfl rfl) rfl hn rfl (fun hc=>trivial) (fun hc=>zt rfl rfl) ?_
 refine zB ?_
 refine kB (i:=43) (by as_aux_lemma=>kernel_rfl) rfl (zEs (zM rfl rfl rfl) rfl (nb hn rfl) (zK rfl rfl rfl (nb hn rfl) underlying29 sz3 zr3 rfl rfl rfl (show _ = [.d (.int .i64 0),.d (.int .i64 0),.d (.int .i64 0)] from by kernel_rfl) (by kernel_rfl) rfl rfl rfl rfl rfl)) fun _=>?_
 refine d2_of_d1 (zB ?_)
 refine kB (i:=44) (by as_aux_lemma=>kernel_rfl) rfl (s_call [(89,_),(90,_)] (fun hc=>zBr [3,3,3] [3,3,3]) rfl (zM rfl rfl rfl) rfl (nb hn rfl) (fun hc=>⟨⟨_,rfl,hc⟩,⟨_,rfl,hc⟩,trivial⟩) rfl rfl (.refl _)) fun _=>?_
 refine d2_of_d1 ?_
 refine d1q (i:=45) rfl (by as_aux_lemma=>kernel_rfl) (fun _ _ _ _ h=>h) rfl rfl hn rfl (yS (tv':=.d (.bool true)) (y4 rfl rfl rfl (by intro hB; first | (rw [hB]; rfl) | (rw [hB,hc]; rfl) | simp_all)) rfl) ?_
 refine d1q (i:=46) rfl (by as_aux_lemma=>kernel_rfl) (fun _ _ _ _ h=>h) rfl rfl hn rfl (zt rfl rfl) ?_
 refine d1g (i:=47) [] rfl (by as_aux_lemma=>kernel_rfl) (fun _ _ _ _ h=>h) (zM rfl rfl rfl) rfl hn rfl (fun hc=>trivial) (fun hc=>zt rfl rfl) ?_
 refine d1g (i:=48) [(94,_)] rfl (by as_aux_lemma=>kernel_rfl) (fun _ _ _ _ h=>h) (zM rfl rfl rfl) rfl hn rfl (fun hc=>⟨⟨_,rfl,hc⟩,trivial⟩) (fun hc=>yS (tv':=.d (.bool true)) (zAw rfl rfl rfl) rfl) ?_
 refine d1q (i:=49) rfl (by as_aux_lemma=>kernel_rfl) (fun _ _ _ _ h=>h) rfl rfl hn rfl (yS (tv':=.d (.bool true)) (y4 rfl rfl rfl (by intro hB; first | (rw [hB]; rfl) | (rw [hB,hc]; rfl) | simp_all)) rfl) ?_
 refine d1q (i:=50) rfl (by as_aux_lemma=>kernel_rfl) (fun _ _ _ _ h=>h) rfl rfl hn rfl (zt rfl rfl) ?_
 refine d1g (i:=51) [] rfl (by as_aux_lemma=>kernel_rfl) (fun _ _ _ _ h=>h) (zM rfl rfl rfl) rfl hn rfl (fun hc=>trivial) (fun hc=>zt rfl rfl) ?_
 refine d1g (i:=52) [(98,_)] rfl (by as_aux_lemma=>kernel_rfl) (fun _ _ _ _ h=>h) (zM rfl rfl rfl) rfl hn rfl (fun hc=>⟨⟨_,rfl,hc⟩,trivial⟩) (fun hc=>zHH rfl rfl underlying53) ?_
 refine d1g (i:=53) [(99,_)] rfl (by as_aux_lemma=>kernel_rfl) (fun _ _ _ _ h=>h) (zM rfl rfl rfl) rfl hn rfl (fun hc=>⟨⟨_,rfl,hc⟩,trivial⟩) (fun hc=>yS (tv':=.d (.bool true)) (zAw rfl rfl rfl) rfl) ?_
 refine d1q (i:=54) rfl (by as_aux_lemma=>kernel_rfl) (fun _ _ _ _ h=>h) rfl rfl hn rfl (yS (tv':=.d (.bool true)) (y4 rfl rfl rfl (by intro hB; first | (rw [hB]; rfl) | (rw [hB,hc]; rfl) | simp_all)) rfl) ?_
 refine d1q (i:=55) rfl (by as_aux_lemma=>kernel_rfl) (fun _ _ _ _ h=>h) rfl rfl hn rfl (zt rfl rfl) ?_
 refine d1g (i:=56) [] rfl (by as_aux_lemma=>kernel_rfl) (fun _ _ _ _ h=>h) (zM rfl rfl rfl) rfl hn rfl (fun hc=>trivial) (fun hc=>zt rfl rfl) ?_
 refine d1g (i:=57) [(103,_)] rfl (by as_aux_lemma=>kernel_rfl) (fun _ _ _ _ h=>h) (zM rfl rfl rfl) rfl hn rfl (fun hc=>⟨⟨_,rfl,hc⟩,trivial⟩) (fun hc=>q_index (i:=0) rfl rfl rfl underlying53 sz68 rfl rfl) ?_
 refine d1g (i:=58) [(104,_)] rfl (by as_aux_lemma=>kernel_rfl) (fun _ _ _ _ h=>h) (zM rfl rfl rfl) rfl hn rfl (fun hc=>⟨⟨_,rfl,hc⟩,trivial⟩) (fun hc=>yQ rfl rfl underlying68 rfl sz68 rfl rfl seesFA) ?_
 refine d1g (i:=59) [] rfl (by as_aux_lemma=>kernel_rfl) (fun _ _ _ _ h=>h) (zM rfl rfl rfl) rfl hn rfl (fun hc=>trivial) (fun hc=>yp rfl bt68 rfl rfl rfl rfl rfl) ?_
 refine d1g (i:=60) [(105,_),(106,_)] rfl (by as_aux_lemma=>kernel_rfl) (fun _ _ _ _ h=>h) (zM rfl rfl rfl) rfl hn rfl (fun hc=>⟨⟨_,rfl,hc⟩,⟨_,rfl,hc⟩,trivial⟩) (fun hc=>yS (tv':=.d (.bool true)) (zEo rfl rfl rfl) rfl) ?_
 refine d1q (i:=61) rfl (by as_aux_lemma=>kernel_rfl) (fun _ _ _ _ h=>h) rfl rfl hn rfl (yS (tv':=.d (.bool true)) (y4 rfl rfl rfl (by intro hB; first | (rw [hB]; rfl) | (rw [hB,hc]; rfl) | simp_all)) rfl) ?_
 refine d1q (i:=62) rfl (by as_aux_lemma=>kernel_rfl) (fun _ _ _ _ h=>h) rfl rfl hn rfl (zt rfl rfl) ?_
 refine d1g (i:=63) [] rfl (by as_aux_lemma=>kernel_rfl) (fun _ _ _ _ h=>h) (zM rfl rfl rfl) rfl hn rfl (fun hc=>trivial) (fun hc=>zt rfl rfl) ?_
 refine d1g (i:=64) [(110,_)] rfl (by as_aux_lemma=>kernel_rfl) (fun _ _ _ _ h=>h) (zM rfl rfl rfl) rfl hn rfl (fun hc=>⟨⟨_,rfl,hc⟩,trivial⟩) (fun hc=>q_index (i:=1) rfl rfl rfl underlying53 sz68 rfl rfl) ?_
 refine d1g (i:=65) [(111,_)] rfl (by as_aux_lemma=>kernel_rfl) (fun _ _ _ _ h=>h) (zM rfl rfl rfl) rfl hn rfl (fun hc=>⟨⟨_,rfl,hc⟩,trivial⟩) (fun hc=>yQ rfl rfl underlying68 rfl sz68 rfl rfl seesFA) ?_
 refine d1g (i:=66) [] rfl (by as_aux_lemma=>kernel_rfl) (fun _ _ _ _ h=>h) (zM rfl rfl rfl) rfl hn rfl (fun hc=>trivial) (fun hc=>yp rfl bt68 rfl rfl rfl rfl rfl) ?_
 refine d1g (i:=67) [(112,_),(113,_)] rfl (by as_aux_lemma=>kernel_rfl) (fun _ _ _ _ h=>h) (zM rfl rfl rfl) rfl hn rfl (fun hc=>⟨⟨_,rfl,hc⟩,⟨_,rfl,hc⟩,trivial⟩) (fun hc=>yS (tv':=.d (.bool true)) (zEo rfl rfl rfl) rfl) ?_
 refine d1q (i:=68) rfl (by as_aux_lemma=>kernel_rfl) (fun _ _ _ _ h=>h) rfl rfl hn rfl (yS (tv':=.d (.bool true)) (y4 rfl rfl rfl (by intro hB; first | (rw [hB]; rfl) | (rw [hB,hc]; rfl) | simp_all)) rfl) ?_
 refine d1q (i:=69) rfl (by as_aux_lemma=>kernel_rfl) (fun _ _ _ _ h=>h) rfl rfl hn rfl (zt rfl rfl) ?_
 refine d1g (i:=70) [] rfl (by as_aux_lemma=>kernel_rfl) (fun _ _ _ _ h=>h) (zM rfl rfl rfl) rfl hn rfl (fun hc=>trivial) (fun hc=>zt rfl rfl) ?_
 refine d1g (i:=71) [(117,_)] rfl (by as_aux_lemma=>kernel_rfl) (fun _ _ _ _ h=>h) (zM rfl rfl rfl) rfl hn rfl (fun hc=>⟨⟨_,rfl,hc⟩,trivial⟩) (fun hc=>q_index (i:=2) rfl rfl rfl underlying53 sz68 rfl rfl) ?_
 refine d1g (i:=72) [(118,_)] rfl (by as_aux_lemma=>kernel_rfl) (fun _ _ _ _ h=>h) (zM rfl rfl rfl) rfl hn rfl (fun hc=>⟨⟨_,rfl,hc⟩,trivial⟩) (fun hc=>yQ rfl rfl underlying68 rfl sz68 rfl rfl seesFA) ?_
 refine d1g (i:=73) [] rfl (by as_aux_lemma=>kernel_rfl) (fun _ _ _ _ h=>h) (zM rfl rfl rfl) rfl hn rfl (fun hc=>trivial) (fun hc=>yp rfl bt68 rfl rfl rfl rfl rfl) ?_
 refine d1g (i:=74) [(119,_),(120,_)] rfl (by as_aux_lemma=>kernel_rfl) (fun _ _ _ _ h=>h) (zM rfl rfl rfl) rfl hn rfl (fun hc=>⟨⟨_,rfl,hc⟩,⟨_,rfl,hc⟩,trivial⟩) (fun hc=>yS (tv':=.d (.bool true)) (zEo rfl rfl rfl) rfl) ?_
 refine d1q (i:=75) rfl (by as_aux_lemma=>kernel_rfl) (fun _ _ _ _ h=>h) rfl rfl hn rfl (yS (tv':=.d (.bool true)) (y4 rfl rfl rfl (by intro hB; first | (rw [hB]; rfl) | (rw [hB,hc]; rfl) | simp_all)) rfl) ?_
 refine d1q (i:=76) rfl (by as_aux_lemma=>kernel_rfl) (fun _ _ _ _ h=>h) rfl rfl hn rfl (zt rfl rfl) ?_
 refine d1g (i:=77) [] rfl (by as_aux_lemma=>kernel_rfl) (fun _ _ _ _ h=>h) (zM rfl rfl rfl) rfl hn rfl (fun hc=>trivial) (fun hc=>zt rfl rfl) ?_
 refine d1g (i:=78) [(124,_)] rfl (by as_aux_lemma=>kernel_rfl) (fun _ _ _ _ h=>h) (zM rfl rfl rfl) rfl hn rfl (fun hc=>⟨⟨_,rfl,hc⟩,trivial⟩) (fun hc=>yS (tv':=.d (.bool true)) (zAw rfl rfl rfl) rfl) ?_
 refine d1q (i:=79) rfl (by as_aux_lemma=>kernel_rfl) (fun _ _ _ _ h=>h) rfl rfl hn rfl (yS (tv':=.d (.bool true)) (y4 rfl rfl rfl (by intro hB; first | (rw [hB]; rfl) | (rw [hB,hc]; rfl) | simp_all)) rfl) ?_
 refine d1q (i:=80) rfl (by as_aux_lemma=>kernel_rfl) (fun _ _ _ _ h=>h) rfl rfl hn rfl (zt rfl rfl) ?_
 refine d1g (i:=81) [] rfl (by as_aux_lemma=>kernel_rfl) (fun _ _ _ _ h=>h) (zM rfl rfl rfl) rfl hn rfl (fun hc=>trivial) (fun hc=>zt rfl rfl) ?_
 refine zB ?_
 refine kB (i:=82) (by as_aux_lemma=>kernel_rfl) rfl (zEs (zM rfl rfl rfl) rfl (nb hn rfl) (zK rfl rfl rfl (nb hn rfl) underlying29 sz3 zr3 rfl rfl rfl (show _ = [.d (.int .i64 0),.d (.int .i64 0)] from by kernel_rfl) (by kernel_rfl) rfl rfl rfl rfl rfl)) fun _=>?_
 refine d2_of_d1 (zB ?_)
 refine kB (i:=83) (by as_aux_lemma=>kernel_rfl) rfl (s_call [(128,_),(129,_)] (fun hc=>zBr [10,0] [10,0]) rfl (zM rfl rfl rfl) rfl (nb hn rfl) (fun hc=>⟨⟨_,rfl,hc⟩,⟨_,rfl,hc⟩,trivial⟩) rfl rfl (.refl _)) fun _=>?_
 refine d2_of_d1 ?_
 refine d1q (i:=84) rfl (by as_aux_lemma=>kernel_rfl) (fun _ _ _ _ h=>h) rfl rfl hn rfl (yS (tv':=.d (.bool true)) (y4 rfl rfl rfl (by intro hB; first | (rw [hB]; rfl) | (rw [hB,hc]; rfl) | simp_all)) rfl) ?_
 refine d1q (i:=85) rfl (by as_aux_lemma=>kernel_rfl) (fun _ _ _ _ h=>h) rfl rfl hn rfl (zt rfl rfl) ?_
 refine d1g (i:=86) [] rfl (by as_aux_lemma=>kernel_rfl) (fun _ _ _ _ h=>h) (zM rfl rfl rfl) rfl hn rfl (fun hc=>trivial) (fun hc=>zt rfl rfl) ?_
 refine d1g (i:=87) [(133,_)] rfl (by as_aux_lemma=>kernel_rfl) (fun _ _ _ _ h=>h) (zM rfl rfl rfl) rfl hn rfl (fun hc=>⟨⟨_,rfl,hc⟩,trivial⟩) (fun hc=>yS (tv':=.d (.bool true)) (zAw rfl rfl rfl) rfl) ?_
 refine d1q (i:=88) rfl (by as_aux_lemma=>kernel_rfl) (fun _ _ _ _ h=>h) rfl rfl hn rfl (yS (tv':=.d (.bool true)) (y4 rfl rfl rfl (by intro hB; first | (rw [hB]; rfl) | (rw [hB,hc]; rfl) | simp_all)) rfl) ?_
 refine d1q (i:=89) rfl (by as_aux_lemma=>kernel_rfl) (fun _ _ _ _ h=>h) rfl rfl hn rfl (zt rfl rfl) ?_
 refine d1g (i:=90) [] rfl (by as_aux_lemma=>kernel_rfl) (fun _ _ _ _ h=>h) (zM rfl rfl rfl) rfl hn rfl (fun hc=>trivial) (fun hc=>zt rfl rfl) ?_
 refine d1g (i:=91) [(137,_)] rfl (by as_aux_lemma=>kernel_rfl) (fun _ _ _ _ h=>h) (zM rfl rfl rfl) rfl hn rfl (fun hc=>⟨⟨_,rfl,hc⟩,trivial⟩) (fun hc=>yS (tv':=.d (.bool true)) (zAw rfl rfl rfl) rfl) ?_
 refine d1q (i:=92) rfl (by as_aux_lemma=>kernel_rfl) (fun _ _ _ _ h=>h) rfl rfl hn rfl (yS (tv':=.d (.bool true)) (y4 rfl rfl rfl (by intro hB; first | (rw [hB]; rfl) | (rw [hB,hc]; rfl) | simp_all)) rfl) ?_
 refine d1q (i:=93) rfl (by as_aux_lemma=>kernel_rfl) (fun _ _ _ _ h=>h) rfl rfl hn rfl (zt rfl rfl) ?_
 refine d1g (i:=95) [] rfl (by as_aux_lemma=>kernel_rfl) (fun _ _ _ _ h=>h) (zM rfl rfl rfl) rfl hn rfl (fun hc=>trivial) (fun hc=>zn rfl rfl (id:=12) rfl underlying56 rfl sz56 rfl rfl (seesA (by simp))) ?_
 refine zB ?_
 refine kB (i:=94) (by as_aux_lemma=>kernel_rfl) rfl (s_call [] (fun hc=>kG) rfl (zM rfl rfl rfl) rfl (nb hn rfl) (fun hc=>trivial) rfl rfl (.refl _)) fun _=>?_
 refine d2_of_d1 (zB ?_)
 refine kB (i:=96) (by as_aux_lemma=>kernel_rfl) rfl (s_call [(141,_),(142,_)] (fun hc=>(by have h:=Prove4_ok threeD yl (by decide) (by decide) tt; rw [hpt] at h; exact h)) rfl (zM rfl rfl rfl) rfl (nb hn rfl) (fun hc=>⟨⟨_,rfl,hc⟩,⟨_,rfl,hc⟩,trivial⟩) rfl rfl (.refl _)) fun _=>?_
 refine d2_of_d1 ?_
 refine d1q (i:=97) rfl (by as_aux_lemma=>kernel_rfl) (fun _ _ _ _ h=>h) rfl rfl hn rfl (yS (tv':=.d (.bool true)) (y4 rfl rfl rfl (by intro hB; first | (rw [hB]; rfl) | (rw [hB,hc]; rfl) | simp_all)) rfl) ?_
 refine d1q (i:=98) rfl (by as_aux_lemma=>kernel_rfl) (fun _ _ _ _ h=>h) rfl rfl hn rfl (zBu rfl rfl) ?_
 refine zB ?_
 refine zb (by as_aux_lemma=>kernel_rfl) ?_
 refine zA (zJ ?_)
 exact ret_E (.inl rfl) () ((zx rfl (.tmp rfl)).eq (by rfl)) trivial
theorem zCF:PureAt Tryz.prog 45 [] (.bool true):=PureAt.of_eff (ds:=[]) awake4_eff
end Go.Proofs.YticlpkgpmmhemaaGreatDoor
namespace Go.Proofs.YticlpkgpmmhemaaGreatDoor
open Go.RowKit
set_option linter.all false
set_option maxHeartbeats 4000000
def salP (s:Sal):Prt:=⟨s.stock,s.number,s.number,s.price,true,s.minute,0,0⟩
def lastMin:List Sal → Int → Int
  | [],bm=>bm
  | s :: r,_=>lastMin r s.minute
theorem zDs {b:Brd} {s:Sal}:∀ {l:List Sal} {bm:Int},okAll b (l ++ [s]) bm = (okAll b l bm && okSal b s (lastMin l bm))
  | [],bm=>by simp [okAll,lastMin]
  | x :: l,bm=>by show (okSal b x bm && okAll b (l ++ [s]) x.minute) = _; rw [zDs]; simp only [okAll,lastMin,Bool.and_assoc]
theorem zCg {s:Sal}:∀ {l:List Sal} {bm:Int},lastMin (l ++ [s]) bm = s.minute
  | [],_=>rfl
  | x :: l,bm=>zCg (l:=l)
theorem zCI {l r:List Prt} {st:Int}:∀ {i:Nat},i ≤ l.length → aheadGo (l ++ r) st i = aheadGo l st i
  | 0,_=>rfl
  | i + 1,h=>by
    unfold aheadGo
    rw [zCI (by omega),List.getD_eq_getElem?_getD,List.getElem?_append_left (by omega),← List.getD_eq_getElem?_getD]
theorem zCa {l l':List Prt} {st:Int}:∀ {i:Nat},(∀ j,j < i → (l.getD j prt0).stock = (l'.getD j prt0).stock) → aheadGo l st i = aheadGo l' st i
  | 0,_=>rfl
  | i + 1,h=>by unfold aheadGo; rw [h i (by omega),zCa fun j hj=>h j (by omega)]
theorem steps_stock {b:Brd} {l l':List Prt} {j:Nat} {f:Nat → Int} (h:∀ k,k ≤ j → (l.getD k prt0).stock = (l'.getD k prt0).stock):stepsF b l j f = stepsF b l' j f:=by
  unfold stepsF aheadI
  rw [h j (Nat.le_refl _),zCa fun k hk=>h k (by omega)]
theorem zBx {α:Type} {l r:List α} {d:α} {j:Nat} (h:j < l.length):(l ++ r).getD j d = l.getD j d:=by
  rw [List.getD_eq_getElem?_getD,List.getElem?_append_left h,← List.getD_eq_getElem?_getD]
theorem zCw {α:Type} {l:List α} {x d:α}:(l ++ [x]).getD l.length d = x:=by simp
/-- Prices keep the Jump. -/
def JumpOK (b:Brd) (l:List Sal):Prop:=∀ j,j < l.length → stepsF b (l.map salP) j (fun k=>(l.getD k sal0).price) = true
structure SoldI (b:Brd) (x:SoS):Prop where
  ok:okAll b x.out 0 = true
  last:lastMin x.out 0 = (x.minute:Nat)
  jump:JumpOK b x.out
  now:∀ k:Nat,k < b.stocks.length → (aheadGo (x.out.map salP) (k:Int) x.out.length < 0 ∧ (b.stocks.getD k stk0).lo ≤ x.now.getD k 0 ∧ x.now.getD k 0 ≤ (b.stocks.getD k stk0).hi) ∨ ∃ a:Nat,aheadGo (x.out.map salP) (k:Int) x.out.length = (a:Nat) ∧ x.now.getD k 0 = (x.out.getD a sal0).price
theorem zE3 {b:Brd} {ws:List Int} (v:BrdOK b) (hw:WdsOK ws):∀ i,SoldI b (soldN b ws i)
  | 0=>by
    refine ⟨rfl,rfl,fun j hj=>by simp [soldN] at hj,fun k hk=>.inl ⟨?_,?_⟩⟩
    · show aheadGo [] (k:Int) 0 < 0; unfold aheadGo; omega
    · have:=zF3 (ws:=ws) v hk
      have e:(soldN b ws 0).now.getD k 0 = st0 b ws k:=by
        show (now0 b ws b.stocks.length).getD k 0 = _
        unfold now0
        rw [Nat.sub_self]
        simp only [List.replicate_zero,List.append_nil]
        exact zQ (by rw [List.getElem?_map,List.getElem?_range hk]; rfl)
      rw [e]; exact ⟨this.1,this.2.1⟩
  | i + 1=>by
    have ih:=zE3 v hw i
    have ho:=zCr (ws:=ws) v i
    have hkl:=zHT (ws:=ws) v i
    have hj0:=v.j0
    have hj4:=v.j4
    obtain ⟨pn,hpn⟩:=zT (show soK b ws i < (soldN b ws i).now.length by rw [ho.n]; exact hkl)
    have hpb:=ho.p pn (List.mem_of_getElem? hpn)
    have hmm:=ho.m
    have hpd:(soldN b ws i).now.getD (soK b ws i) 0 = pn:=zQ hpn
    have hpe:soP b ws i (soldN b ws i).now = max 1 (min 799 (pn + (wrd ws (2 * i + 7):Int).tmod (2 * b.jump + 1) - b.jump)):=by unfold soP; rw [hpd]
    have htm:0 ≤ (wrd ws (2 * i + 7):Int).tmod (2 * b.jump + 1) ∧ (wrd ws (2 * i + 7):Int).tmod (2 * b.jump + 1) ≤ 2 * b.jump:=by
      rw [Int.tmod_eq_emod_of_nonneg (by omega)]
      have h1:=Int.emod_nonneg ((wrd ws (2 * i + 7):Nat):Int) (show 2 * b.jump + 1 ≠ 0 by omega)
      have h2:=Int.emod_lt_of_pos ((wrd ws (2 * i + 7):Nat):Int) (show 0 < 2 * b.jump + 1 by omega)
      omega
    generalize hK:soK b ws i = K at *
    generalize hP:soP b ws i (soldN b ws i).now = P at *
    have hP1:1 ≤ P ∧ P ≤ 799 ∧ P - pn ≤ b.jump ∧ pn - P ≤ b.jump:=by rw [hpe]; omega
    have hN:soN ws i = 1 ∨ ∃ n:Nat,soN ws i = n ∧ 1 ≤ n ∧ n ≤ 99:=by
      unfold soN
      cases wrd ws (2 * i + 6) % 4 == 0
      · left; rfl
      · right
        have:=Nat.mod_lt (wrd ws (2 * i + 6) / 64) (show 0 < 99 by omega)
        exact ⟨_,rfl,by omega,by omega⟩
    have hM:(soM ws i (soldN b ws i).minute) ≤ 600 ∧ (soldN b ws i).minute ≤ soM ws i (soldN b ws i).minute:=by unfold soM; omega
    have eS:soldN b ws (i + 1) = ⟨(soldN b ws i).now.set K P,soM ws i (soldN b ws i).minute,(soldN b ws i).out ++ [⟨(K:Nat),soN ws i,P,(soM ws i (soldN b ws i).minute:Nat)⟩]⟩:=by rw [← hK,← hP]; rfl
    rw [eS]
    generalize hX:soldN b ws i = X at *
    generalize hS:(⟨(K:Nat),soN ws i,P,(soM ws i X.minute:Nat)⟩:Sal) = S
    have hSs:S.stock = (K:Nat):=by rw [← hS]
    have hSp:S.price = P:=by rw [← hS]
    have hSm:S.minute = (soM ws i X.minute:Nat):=by rw [← hS]
    have hSn:1 ≤ S.number ∧ S.number ≤ 99:=by
      rw [← hS]; rcases hN with h | ⟨n,h,h1,h2⟩
      · show 1 ≤ soN ws i ∧ soN ws i ≤ 99; omega
      · show 1 ≤ soN ws i ∧ soN ws i ≤ 99; omega
    have hmap:(X.out ++ [S]).map salP = X.out.map salP ++ [salP S]:=by simp
    have hlen:(X.out.map salP).length = X.out.length:=List.length_map _
    refine ⟨?_,?_,?_,?_⟩
    · show okAll b (X.out ++ [S]) 0 = true
      rw [zDs,ih.ok,ih.last,Bool.true_and]
      exact kl.2 ⟨by omega,hSn,by omega,by omega⟩
    · show lastMin (X.out ++ [S]) 0 = _
      rw [zCg,hSm]
    · intro j hj
      simp only [List.length_append,List.length_cons,List.length_nil] at hj
      dsimp only
      by_cases e:j = X.out.length
      · subst e
        unfold stepsF aheadI
        rw [hmap,show ((X.out.map salP) ++ [salP S]).getD X.out.length prt0 = salP S by rw [← hlen]; exact zCw,zCI (by rw [hlen]; exact Nat.le_refl _)]
        dsimp only
        rw [zCw]
        show (bif decide (0 ≤ aheadGo (X.out.map salP) S.stock X.out.length) then nearB S.price ((X.out ++ [S]).getD (aheadGo (X.out.map salP) S.stock X.out.length).toNat sal0).price b.jump else withinB S.price ((b.stocks.getD S.stock.toNat stk0).lo - b.jump) ((b.stocks.getD S.stock.toNat stk0).hi + b.jump)) = true
        rw [hSs,hSp,Int.toNat_natCast]
        rcases ih.now K hkl with ⟨h1,h2,h3⟩ | ⟨a,h1,h2⟩
        · rw [decide_eq_false (by omega),cond_false]
          exact zl.2 (by omega)
        · rw [h1,decide_eq_true (by omega),cond_true,Int.toNat_natCast]
          have ha:=(yG.1 h1).1
          rw [zBx ha,← h2,hpd]
          exact zFQ.2 (by omega)
      · have hj2:j < X.out.length:=by omega
        have h0:=ih.jump j hj2
        rw [← h0]
        have e1:stepsF b ((X.out ++ [S]).map salP) j (fun k=>((X.out ++ [S]).getD k sal0).price) = stepsF b (X.out.map salP) j (fun k=>((X.out ++ [S]).getD k sal0).price):=steps_stock fun k hk=>by
          rw [hmap,zBx (by rw [hlen]; omega)]
        rw [e1]
        refine zBh (by (try dsimp only); rw [zBx hj2]) fun k hk=>?_
        have hk:aheadGo (X.out.map salP) ((X.out.map salP).getD j prt0).stock j = (k:Nat):=hk
        have:=(yG.1 hk).1
        (try dsimp only)
        rw [zBx (by omega)]
    · intro k hk
      dsimp only
      rw [hmap,List.length_append,List.length_cons,List.length_nil,show X.out.length + (0 + 1) = X.out.length + 1 by omega]
      unfold aheadGo
      rw [show ((X.out.map salP) ++ [salP S]).getD X.out.length prt0 = salP S by rw [← hlen]; exact zCw,zCI (by rw [hlen]; exact Nat.le_refl _)]
      show ((bif S.stock == (k:Int) then ((X.out.length:Nat):Int) else _) < 0 ∧ _) ∨ ∃ a:Nat,(bif S.stock == (k:Int) then ((X.out.length:Nat):Int) else _) = (a:Nat) ∧ _
      rw [hSs]
      by_cases e:K = k
      · subst e
        rw [show (((K:Nat):Int) == (K:Int)) = true by simp,cond_true]
        refine .inr ⟨X.out.length,rfl,?_⟩
        rw [zCw,hSp]
        exact zQ (by rw [List.getElem?_set,if_pos rfl,if_pos (by rw [ho.n]; exact hkl)])
      · rw [show (((K:Nat):Int) == (k:Int)) = false by simp; omega,cond_false]
        have e2:(X.now.set K P).getD k 0 = X.now.getD k 0:=by rw [List.getD_eq_getElem?_getD,List.getElem?_set,if_neg e,← List.getD_eq_getElem?_getD]
        rw [e2]
        rcases ih.now k hk with h | ⟨a,h1,h2⟩
        · exact .inl h
        · exact .inr ⟨a,h1,by rw [zBx (yG.1 h1).1]; exact h2⟩
/-- What is so of sales that are chosen by words. -/
structure SoldOK (b:Brd) (l:List Sal):Prop where
  ok:okAll b l 0 = true
  l7:l.length ≤ 7
  jump:JumpOK b l
theorem zC1 {b:Brd} {ws:List Int} (v:BrdOK b) (hw:WdsOK ws):SoldOK b (soldL b ws):=by
  have h:=zE3 v hw (wrd ws 5 % 8)
  exact ⟨h.ok,by unfold soldL; rw [(zCr v _).o]; have:=Nat.mod_lt (wrd ws 5) (show 0 < 8 by omega); omega,h.jump⟩
def nnOf (b:Brd) (c rush:Bool) (s:Sal):Int × Int:=bif c then (s.number,s.number) else bif rush then (1,b.small) else (1,1)
def figW:Wd → Int × Bool
  | .sh x=>((x:Nat),false)
  | .lo p=>((p:Nat),true)
  | _=>(0,false)
def PriceW (b:Brd):Wd → Prop
  | .sh x=>x < 80
  | .lo p=>1 ≤ p ∧ p ≤ 799
  | _=>False
def prtOf (b:Brd) (w:Wrk) (s:Sal) (M:Nat) (c3:Bool) (P:Wd):Prt:=⟨s.stock,(nnOf b c3 w.rush s).1,(nnOf b c3 w.rush s).2,(figW P).1,(figW P).2,(M:Nat),w.llo,w.lhi⟩
theorem zCy {b:Brd} {c:Bool} {x:Wd} {w:Wrk} (h:c = true → x.ok b ∧ x.can w):CanAll b (optW c x) w:=by
  cases c
  · trivial
  · exact ⟨(h rfl).1,(h rfl).2,trivial⟩
theorem sale_run {b : Brd} {w : Wrk} {s : Sal} {bm : Int} {c1 c3 : Bool} {M : Nat} {P : Wd} {R : List Wd} (hs : okSal b s bm = true) (h1 : c1 = false → w.minute = (M : Nat)) (h2 : c1 = true → w.minute ≤ (M : Nat) ∧ M ≤ 600) (hn : w.number ≤ 0) (h8 : w.out.length ≠ 8) (h3 : c3 = true → 1 < s.number) (hP : PriceW b P)
    (hR:CanAll b R { w with minute:=(M:Nat),stock:=s.stock,number:=0,out:=w.out ++ [prtOf b w s M c3 P] }) :
    CanAll b (optW c1 (.mi M) ++ (optW (s.stock != w.stock) (.na s.stock.toNat) ++ (optW c3 (.nu s.number.toNat) ++ P :: R))) w ∧ runAll b (optW c1 (.mi M) ++ (optW (s.stock != w.stock) (.na s.stock.toNat) ++ (optW c3 (.nu s.number.toNat) ++ P :: R))) w = runAll b R { w with minute:=(M:Nat),stock:=s.stock,number:=0,out:=w.out ++ [prtOf b w s M c3 P] }:=by
  obtain ⟨k1,k2,k3,k4⟩:=kl.1 hs
  have s1:runAll b (optW c1 (.mi M)) w = { w with minute:=(M:Nat) }:=by
    cases c1
    · rw [← h1 rfl]; rfl
    · rfl
  have s2:runAll b (optW (s.stock != w.stock) (.na s.stock.toNat)) { w with minute:=(M:Nat) } = { w with minute:=(M:Nat),stock:=s.stock }:=by
    by_cases e:s.stock = w.stock
    · rw [show (s.stock != w.stock) = false by simpa using e,e]; rfl
    · rw [show (s.stock != w.stock) = true by simpa using e]
      show ({ w with minute:=(M:Nat),stock:=((s.stock.toNat:Nat):Int) }:Wrk) = _
      rw [show ((s.stock.toNat:Nat):Int) = s.stock by omega]
  obtain ⟨wn,s3,hwn⟩:∃ wn:Int,runAll b (optW c3 (.nu s.number.toNat)) { w with minute:=(M:Nat),stock:=s.stock } = { w with minute:=(M:Nat),stock:=s.stock,number:=wn } ∧ saleN { w with minute:=(M:Nat),stock:=s.stock,number:=wn } b = nnOf b c3 w.rush s:=by
    cases c3
    · refine ⟨w.number,rfl,?_⟩
      unfold saleN nnOf
      rw [decide_eq_false (by dsimp only; omega)]; rfl
    · refine ⟨s.number,?_,?_⟩
      · show ({ w with minute:=(M:Nat),stock:=s.stock,number:=((s.number.toNat:Nat):Int) }:Wrk) = _
        rw [show ((s.number.toNat:Nat):Int) = s.number by omega]
      · unfold saleN nnOf
        rw [decide_eq_true (by have:=h3 rfl; dsimp only; omega)]
  have s4:P.run b { w with minute:=(M:Nat),stock:=s.stock,number:=wn } = { w with minute:=(M:Nat),stock:=s.stock,number:=0,out:=w.out ++ [prtOf b w s M c3 P] } ∧ P.ok b ∧ P.can { w with minute:=(M:Nat),stock:=s.stock,number:=wn }:=by
    cases P with
    | sh x =>
      refine ⟨?_,hP,show 0 ≤ s.stock ∧ w.out.length ≠ 8 from ⟨k1.1,h8⟩⟩
      show ({ w with minute:=(M:Nat),stock:=s.stock,number:=0,out:=w.out ++ [⟨s.stock,(saleN { w with minute:=(M:Nat),stock:=s.stock,number:=wn } b).1,(saleN { w with minute:=(M:Nat),stock:=s.stock,number:=wn } b).2,((x:Nat):Int),false,(M:Nat),w.llo,w.lhi⟩] }:Wrk) = _
      rw [hwn]; rfl
    | lo x =>
      refine ⟨?_,hP,show 0 ≤ s.stock ∧ w.out.length ≠ 8 from ⟨k1.1,h8⟩⟩
      show ({ w with minute:=(M:Nat),stock:=s.stock,number:=0,out:=w.out ++ [⟨s.stock,(saleN { w with minute:=(M:Nat),stock:=s.stock,number:=wn } b).1,(saleN { w with minute:=(M:Nat),stock:=s.stock,number:=wn } b).2,((x:Nat):Int),true,(M:Nat),w.llo,w.lhi⟩] }:Wrk) = _
      rw [hwn]; rfl
    | mi _=>exact hP.elim
    | na _=>exact hP.elim
    | nu _=>exact hP.elim
    | la _ _=>exact hP.elim
    | ru=>exact hP.elim
  constructor
  · refine CanAll.app (zCy fun hc=>⟨(h2 hc).2,hn,(h2 hc).1⟩) ?_
    rw [s1]
    refine CanAll.app (zCy fun hc=>⟨show s.stock.toNat < b.stocks.length by omega,show w.number ≤ 0 from hn⟩) ?_
    rw [s2]
    refine CanAll.app (zCy fun hc=>⟨show 1 ≤ s.number.toNat ∧ s.number.toNat ≤ 99 by omega,show w.number ≤ 0 from hn⟩) ?_
    rw [s3]
    refine ⟨s4.2.1,s4.2.2,?_⟩
    rw [s4.1]; exact hR
  · rw [zAC,s1,zAC,s2,zAC,s3,runAll,s4.1]
/-- The sales that are read of the tape of sales. -/
def prL (b:Brd) (ws:List Int):List Sal → Nat → Nat → List Prt
  | [],_,_=>[]
  | s :: r,i,m=>⟨s.stock,(nnOf b (prNu b ws i s) (prRush ws) s).1,(nnOf b (prNu b ws i s) (prRush ws) s).2,(figW (prPr ws i s)).1,(figW (prPr ws i s)).2,(prM ws i m s:Nat),(prLate ws:Nat),((prLate ws + prWide ws:Nat):Int)⟩ :: prL b ws r (i + 1) (prM ws i m s)
theorem prP_price {b:Brd} {ws:List Int} {i:Nat} {s:Sal} (h:1 ≤ s.price ∧ s.price ≤ 799):PriceW b (prPr ws i s):=by
  unfold prPr
  cases wrd ws (i + 1) / 8 % 4 == 0
  · show s.price.toNat % 80 < 80; omega
  · show 1 ≤ s.price.toNat ∧ s.price.toNat ≤ 799; omega
theorem zHL {b : Brd} {ws : List Int} : ∀ {l : List Sal} {i m : Nat} {w : Wrk} {bm : Int}, okAll b l bm = true → w.minute = (m : Nat) → m ≤ 600 → w.number ≤ 0 → w.out.length + l.length ≤ 8 → w.rush = prRush ws → w.llo = (prLate ws : Nat) → w.lhi = ((prLate ws + prWide ws : Nat) : Int) →
    CanAll b (prW b ws l i m w.stock) w ∧ (runAll b (prW b ws l i m w.stock) w).out = w.out ++ prL b ws l i m ∧ (runAll b (prW b ws l i m w.stock) w).number ≤ 0
  | [],i,m,w,bm,_,_,_,hn,_,_,_,_=>⟨trivial,by simp [prW,prL,runAll],hn⟩
  | s :: r,i,m,w,bm,hok,hm,hm6,hn,h8,hr,hl1,hl2=>by
    unfold okAll at hok
    rw [Bool.and_eq_true] at hok
    obtain ⟨k1,k2,k3,k4⟩:=kl.1 hok.1
    simp only [List.length_cons] at h8
    have hp:=zET (ws:=ws) (i:=i) (s:=s) hm6
    have ih:=zHL (b:=b) (ws:=ws) (l:=r) (i:=i + 1) (m:=prM ws i m s) (w:={ w with minute:=((prM ws i m s:Nat):Int),stock:=s.stock,number:=0,out:=w.out ++ [prtOf b w s (prM ws i m s) (prNu b ws i s) (prPr ws i s)] }) hok.2 rfl hp.1 (by dsimp only; omega) (by simp only [List.length_append,List.length_cons,List.length_nil]; omega) hr hl1 hl2
    have hs:=sale_run (b:=b) (w:=w) (c1:=prM ws i m s != m || i == 0) (c3:=prNu b ws i s) (M:=prM ws i m s) (P:=prPr ws i s) hok.1 (fun h=>by
      simp only [Bool.or_eq_false_iff,bne_eq_false_iff_eq] at h; rw [hm,h.1]) (fun _=>⟨by rw [hm]; omega,hp.1⟩) hn (by omega) (fun h=>by
      unfold prNu at h; simp only [Bool.and_eq_true,decide_eq_true_eq] at h; exact h.1) (prP_price k3) ih.1
    rw [prW]
    refine ⟨hs.1,?_,?_⟩
    · rw [hs.2,ih.2.1]
      show (w.out ++ [_]) ++ _ = w.out ++ prL b ws (s :: r) i m
      rw [prL,List.append_assoc]
      unfold prtOf
      rw [hr,hl1,hl2]; rfl
    · rw [hs.2]; exact ih.2.2
theorem la_step {b:Brd} {a c:Nat} (h:a ≤ c ∧ c ≤ 60) {R:List Wd} (hR:CanAll b R { wrk0 with llo:=(a:Nat),lhi:=(c:Nat) }):CanAll b (.la a c :: R) wrk0 ∧ runAll b (.la a c :: R) wrk0 = runAll b R { wrk0 with llo:=(a:Nat),lhi:=(c:Nat) }:=⟨⟨h,show wrk0.number ≤ 0 by decide,hR⟩,rfl⟩
theorem printed_read {b:Brd} {ws:List Int} {l:List Sal} (h:checkT b = 0) (hl:l.length ≤ 8) (hok:okAll b l 0 = true) (hlen:(prS b ws l).length ≤ 160):readI b (prS b ws l) = (prL b ws l 0 0,0):=by
  have hl6:=Nat.mod_lt (wrd ws 0) (show 0 < 6 by omega)
  have hw6:=Nat.mod_lt (wrd ws 0 / 8) (show 0 < 6 by omega)
  have e0:CanAll b (.la (prLate ws) (prLate ws + prWide ws) :: prT b ws l) wrk0 ∧ (runAll b (.la (prLate ws) (prLate ws + prWide ws) :: prT b ws l) wrk0).out = prL b ws l 0 0 ∧ (runAll b (.la (prLate ws) (prLate ws + prWide ws) :: prT b ws l) wrk0).number ≤ 0:=by
    have hr:=zHL (b:=b) (ws:=ws) (l:=l) (i:=0) (m:=0) (w:={ wrk0 with llo:=((prLate ws:Nat):Int),lhi:=((prLate ws + prWide ws:Nat):Int),rush:=prRush ws }) hok rfl (by omega) (show (0:Int) ≤ 0 by omega) (by simpa [wrk0] using hl) rfl rfl rfl
    have hru:CanAll b (prT b ws l) { wrk0 with llo:=((prLate ws:Nat):Int),lhi:=((prLate ws + prWide ws:Nat):Int) } ∧ runAll b (prT b ws l) { wrk0 with llo:=((prLate ws:Nat):Int),lhi:=((prLate ws + prWide ws:Nat):Int) } = runAll b (prW b ws l 0 0 (-1)) { wrk0 with llo:=((prLate ws:Nat):Int),lhi:=((prLate ws + prWide ws:Nat):Int),rush:=prRush ws }:=by
      unfold prT
      have es:runAll b (optW (prRush ws) .ru) { wrk0 with llo:=((prLate ws:Nat):Int),lhi:=((prLate ws + prWide ws:Nat):Int) } = { wrk0 with llo:=((prLate ws:Nat):Int),lhi:=((prLate ws + prWide ws:Nat):Int),rush:=prRush ws }:=by cases prRush ws <;> rfl
      refine ⟨CanAll.app (zCy fun _=>⟨trivial,show wrk0.number ≤ 0 ∧ wrk0.rush = false from ⟨by decide,rfl⟩⟩) ?_,by rw [zAC,es]⟩
      rw [es]; exact hr.1
    have hla:=la_step (b:=b) (a:=prLate ws) (c:=prLate ws + prWide ws) (by unfold prLate prWide; omega) hru.1
    refine ⟨hla.1,?_,?_⟩
    · rw [hla.2,hru.2]; exact hr.2.1
    · rw [hla.2,hru.2]; exact hr.2.2
  have:=read_words h e0.1 hlen
  rw [decide_eq_false (by omega),cond_false,e0.2.1] at this
  exact this
/-- Prints say sales, as far as they do. -/
structure PrSays (ps:List Prt) (l:List Sal):Prop where
  len:ps.length = l.length
  st:∀ j,j < l.length → (ps.getD j prt0).stock = (l.getD j sal0).stock
  fit:∀ j,j < l.length → refFits (ps.getD j prt0) j (l.getD j sal0).price 0 = true
  num:∀ j,j < l.length → (ps.getD j prt0).nlo ≤ (l.getD j sal0).number ∧ (l.getD j sal0).number ≤ (ps.getD j prt0).nhi
theorem fits_pr {p:Prt} {i j:Nat} {x:Int}:refFits p i x 0 = refFits p j x 0:=by unfold refFits; rw [Nat.zero_testBit,Nat.zero_testBit]
theorem PrSays.cons {p:Prt} {s:Sal} {ps:List Prt} {l:List Sal} (h:PrSays ps l) (h1:p.stock = s.stock) (h2:refFits p 0 s.price 0 = true) (h3:p.nlo ≤ s.number ∧ s.number ≤ p.nhi):PrSays (p :: ps) (s :: l):=by
  refine ⟨by simp [h.len],fun j hj=>?_,fun j hj=>?_,fun j hj=>?_⟩ <;> cases j with
    | zero=>first | exact h1 | exact h2 | exact h3
    | succ j =>
      simp only [List.length_cons] at hj
      first | exact h.st j (by omega) | exact fits_pr.trans (h.fit j (by omega)) | exact h.num j (by omega)
theorem fits_of {p:Prt} {x:Int} (h:1 ≤ x ∧ x ≤ 799) (hf:p.full = true ∧ p.fig = x ∨ p.full = false ∧ p.fig = ((x.toNat % 80:Nat):Int)):refFits p 0 x 0 = true:=by
  unfold refFits
  rw [zl.2 h,Nat.zero_testBit]
  rcases hf with ⟨h1,h2⟩ | ⟨h1,h2⟩
  · rw [h1,h2]; simp
  · rw [h1,h2,tmod80 (by omega)]; simp
theorem zGc {b:Brd} {ws:List Int} (v:BrdOK b):∀ {l:List Sal} {i m:Nat} {bm:Int},okAll b l bm = true → PrSays (prL b ws l i m) l
  | [],i,m,bm,_=>⟨rfl,fun j hj=>by simp at hj,fun j hj=>by simp at hj,fun j hj=>by simp at hj⟩
  | s :: r,i,m,bm,h=>by
    unfold okAll at h
    rw [Bool.and_eq_true] at h
    obtain ⟨k1,k2,k3,k4⟩:=kl.1 h.1
    have hs1:=v.s1
    refine (zGc v h.2).cons rfl (fits_of k3 ?_) ?_
    · unfold prPr
      cases wrd ws (i + 1) / 8 % 4 == 0
      · exact .inr ⟨rfl,rfl⟩
      · exact .inl ⟨rfl,show ((s.price.toNat:Nat):Int) = s.price by omega⟩
    · show (nnOf b (prNu b ws i s) (prRush ws) s).1 ≤ s.number ∧ s.number ≤ (nnOf b (prNu b ws i s) (prRush ws) s).2
      unfold nnOf
      cases hc:prNu b ws i s
      · unfold prNu at hc
        cases hr:prRush ws
        · rw [hr] at hc
          simp at hc
          show (1:Int) ≤ s.number ∧ s.number ≤ 1; omega
        · rw [hr] at hc
          simp at hc
          show (1:Int) ≤ s.number ∧ s.number ≤ b.small
          by_cases e:1 < s.number
          · have:=(hc e).1; omega
          · omega
      · exact ⟨Int.le_refl _,Int.le_refl _⟩
end Go.Proofs.YticlpkgpmmhemaaGreatDoor
namespace Go.Proofs.YticlpkgpmmhemaaGreatDoor
open Go.RowKit
set_option maxRecDepth 20000
set_option linter.all false
set_option maxHeartbeats 4000000
theorem zAu {b:Brd} {s:List UInt8} (h:(readI b s).2 = 0):checkT b = 0:=by
  unfold readI at h
  cases hc:checkT b != 0
  · simpa using hc
  · rw [hc] at h
    have h:checkT b = 0:=h
    rw [h] at hc; cases hc
theorem read_short {b:Brd} {s:List UInt8} (h:(readI b s).2 = 0):s.length ≤ 160:=by
  have v:=zAu h
  rw [← zBm v] at h
  unfold refReadI at h
  cases hc:decide (160 < (s.length:Int))
  · simp only [decide_eq_false_iff_not] at hc; omega
  · rw [hc] at h; cases h
theorem zHO {b:Brd} {ws:List Int} {l:List Sal} (v:BrdOK b) (h8:l.length ≤ 8) (hok:okAll b l 0 = true):(prS b ws l).length ≤ 300:=by
  obtain ⟨h1,h2⟩:=zGB (ws:=ws) (i:=0) (m:=0) (st:=-1) hok (by omega)
  have h3:=zGm v h1
  have h4:=zFs v (wd:=.la (prLate ws) (prLate ws + prWide ws)) (show prLate ws ≤ prLate ws + prWide ws ∧ prLate ws + prWide ws ≤ 60 by unfold prLate prWide; have:=Nat.mod_lt (wrd ws 0) (show 0 < 6 by omega); have:=Nat.mod_lt (wrd ws 0 / 8) (show 0 < 6 by omega); omega)
  unfold prS prT
  rw [zB8,zAd]
  cases prRush ws <;> simp only [cond_false,cond_true,Wd.text,List.length_append,List.length_cons,List.length_nil] at h4 ⊢ <;> omega
theorem Sold_ok (b:Brd) (ws:List Int) (v:BrdOK b) (hw:WdsOK ws):PureAt Tryz.prog 71 [brdD b,wdsD ws] (salsD (soldL b ws)):=PureAt.of_eff (ds:=[brdD b,wdsD ws]) (Sold_eff b ws v hw)
end Go.Proofs.YticlpkgpmmhemaaGreatDoor
namespace Go.Proofs.YticlpkgpmmhemaaGreatDoor
open Go.Proofs.Tryz
open Go.RowKit
set_option maxRecDepth 20000
set_option linter.all false
set_option maxHeartbeats 4000000
theorem thin_bd {b:Brd} {n:Nat} (h:thinT b n = true):b.stocks.length ≤ 7 ∧ n ≤ 200:=by
  unfold thinT at h
  simp only [Bool.and_eq_true,decide_eq_true_eq] at h
  omega
theorem zDY {d:Dsk}:(∀ p ∈ fltI d,PrtOK d.b p) ∧ (fltI d).length ≤ 8:=by
  unfold fltI
  cases deskI d != 0
  · exact yk
  · exact ⟨fun p hp=>(by cases hp),by simp⟩
theorem zGA {d:Dsk} (h:deskI d = 0):fltI d = (readI d.b d.tape).1:=by unfold fltI; rw [h]; rfl
/-- The desk with the tape of words. -/
@[reducible] def tldD (d:Dsk) (ws:List Int):Dsk:=⟨d.b,prS d.b ws (soldL d.b ws),d.fee,d.orders⟩
/-- What a desk and a truth by words are. -/
structure ToldP (d:Dsk) (x:Dsk × Tru × Bool):Prop where
  b:x.1.b = d.b
  os:x.1.orders = d.orders
  fe:x.1.fee = d.fee
  ok:x.2.2 = true → d.orders.length ≤ 8 ∧ x.1.tape.length ≤ 300 ∧ d.b.stocks.length ≤ 7 ∧ deskI x.1 = 0 ∧ TruW x.1 (readI x.1.b x.1.tape).1 x.2.1 ∧ timesB (readI x.1.b x.1.tape).1 = true
theorem tld_len {d:Dsk} {ws:List Int} (v:BrdOK d.b) (hw:WdsOK ws) (h:deskI (tldD d ws) = 0):(fltI (tldD d ws)).length ≤ (soldL d.b ws).length:=by
  have hs:=zC1 v hw
  have hr:=(yf h).1
  rw [zGA h]
  have hr2:(readI d.b (prS d.b ws (soldL d.b ws))).2 = 0:=hr
  have h1:=read_short hr2
  have h2:=printed_read (ws:=ws) (zAu hr2) (by have:=hs.l7; omega) hs.ok h1
  show (readI d.b (prS d.b ws (soldL d.b ws))).1.length ≤ _
  rw [h2,(zGc v hs.ok).len]
  exact Nat.le_refl _
theorem told_ok {d:Dsk} {ws:List Int} {t:Tru} (v:BrdOK d.b) (hw:WdsOK ws) (ho:d.orders.length ≤ 8) (hs:d.b.stocks.length ≤ 7) (h0:deskI (tldD d ws) = 0) (ht:timesB (fltI (tldD d ws)) = true):ToldP d (tldD d ws,t,isTB (tldD d ws) (fltI (tldD d ws)) t):=by
  have hs7:=zC1 v hw
  refine ⟨rfl,rfl,rfl,fun h=>⟨ho,zHO v (by have:=hs7.l7; omega) hs7.ok,hs,h0,?_,?_⟩⟩
  · rw [← zGA h0]; exact isT_iff.1 h
  · rw [← zGA h0]; exact ht
theorem zG1 {d x:Dsk} {t:Tru} (h1:x.b = d.b) (h2:x.orders = d.orders) (h3:x.fee = d.fee):ToldP d (x,t,false):=⟨h1,h2,h3,fun h=>(by cases h)⟩
theorem zGX {a b:Int} (ha:0 ≤ a) (hb:0 < b):0 ≤ a.tmod b ∧ a.tmod b < b:=by
  rw [Int.tmod_eq_emod_of_nonneg ha]
  exact ⟨Int.emod_nonneg _ (by omega),Int.emod_lt_of_pos _ hb⟩
theorem zDC (ws:List Int) (i:Nat) (hw:WdsOK ws):PureAt Tryz.prog 74 [wdsD ws,.int .i64 (i:Nat)] (.int .i64 (wrd ws i:Nat)):=by
 refine Zp Tryz.func74 rfl fun Γ hn hl=>?_
 have hw1:=hw.1
 refine Zu (Zt 1 [] hn rfl (Zv (zC (Zu (Zt 3 [] hn rfl (Zv (zH rfl (fun hb0=>?_) (fun hb0=>?_))))))))
 obtain rfl:ws = []:=List.eq_nil_of_length_eq_zero (by simp at hb0; simpa using hb0)
 refine Zu (Zt 1 [] hn rfl (Zv (zJ (zD (zg (zY (.inl rfl) hl rfl (.tmp rfl)) ?_)))))
 simp [wrd]
 have hwl:ws.length ≠ 0:=by simp at hb0; simpa using hb0
 obtain ⟨x,hx⟩:=zT (show i % ws.length < ws.length from Nat.mod_lt _ (by omega))
 have hxb:=hw.2 x (List.mem_of_getElem? hx)
 have e1:((wrd ws i:Nat):Int) = x:=by unfold wrd; rw [zQ hx]; omega
 rw [e1]
 refine zI (zA (Zu (Zt 4 [] hn rfl (Zs hn (yc rfl rfl rfl (r:=((i % ws.length:Nat):Int)) (by rw [List.length_map]; omega) (by rw [List.length_map]; exact modN (by omega))) ?_))))
 refine Zi (i:=i % ws.length) hn rfl rfl (mget hx) ?_
 refine Zt 1 [] hn rfl (Zs hn (zBa rfl rfl underlying253 underlying3 (i64w (by omega) rfl)) ?_)
 refine Zt 1 [] hn rfl (Zv (zJ (zg (zY (.inl rfl) hl rfl (.tmp rfl)) ?_)))
 rfl
theorem Told_eff (d:Dsk) (ws:List Int) (hN:NamesOK d.b) (hw:WdsOK ws):EffAt Tryz.prog 17 [.d (dskD d),.d (wdsD ws)] [] (X:={x:Dsk × Tru × Bool // ToldP d x}) (fun x=>.d (.tup [dskD x.1.1,truD x.1.2.1,.bool x.1.2.2])) (fun _=>[]):=by
 refine EffAt.of_awp Tryz.func17 rfl (by kernel_rfl) rfl fun Γ hn=>?_
 refine Zu (Zb 2 hn rfl fun b2=>Zb 4 hn rfl fun b4=>Zb 5 hn rfl fun b5=>Zt 1 [] hn rfl (Zv (zC (Zu (Zt 7 [2,2] hn rfl (Zkg hn rfl (fun hc=>(show PureAt Tryz.prog 31 [brdD d.b,strD []] (.bool (thinT d.b ([]:List UInt8).length)) from Thin_ok d.b [] hN)) (Zt 5 [2] hn rfl (Zkg hn rfl (fun hc=>zFw d.b hN) (Zt 2 [] hn rfl (Zv (zH rfl (fun hb0=>?_) (fun hb0=>?_))))))))))))
 refine Zu (Zt 5 [2,4,5] hn rfl (Zv (zJ (zD ?_))))
 exact ret_E (.inl rfl) ⟨(d,⟨[],[],[]⟩,false),zG1 rfl rfl rfl⟩ ((zB0 rfl (.d (.cellA rfl (id:=4) rfl underlying27 rfl sz27 rfl rfl)) (.d (.cellA rfl (id:=5) rfl underlying31 rfl sz31 rfl rfl)) (.tmp rfl)).le (.tup (.cons (.refl _) (.cons (.agg (.cons (.nil 1) (.cons (.nil 1) (.cons (.nil 1) (.refl _))))) (.refl _))))) trivial
 obtain ⟨⟨q1,q2⟩,q3⟩:(d.orders.length ≤ 8 ∧ thinT d.b ([]:List UInt8).length = true) ∧ checkT d.b = 0:=by simp only [List.length_map,Bool.or_eq_false_iff,Bool.not_eq_false',decide_eq_false_iff_not] at hb0; exact ⟨⟨by omega,hb0.1.2⟩,by simpa using hb0.2⟩
 obtain ⟨hb7,_⟩:=thin_bd q2
 have v:=k9 q3
 have hsk:=zC1 v hw
 have hs7:=hsk.l7
 have hpl:=zHO (ws:=ws) v (by omega) hsk.ok
 refine zI (zA (Zu (Zt 3 [2] hn rfl (Zk hn rfl (Sold_ok d.b ws v hw) (Zt 1 [] hn rfl (Zv (Zu (Zt 4 [2] hn rfl (Zk hn rfl (Printed_ok d.b (soldL d.b ws) ws v hw (by omega) hsk.ok) (Zt 1 [] hn rfl (stepW (s_store1 rfl rfl rfl rfl rfl rfl (id:=2) rfl sz9 (Nat.le_of_ble_eq_true rfl) rfl trivial) fun _=>?_)))))))))))
 refine Zv (Zu (Zt 1 [2] hn rfl (Zk hn rfl (Fault4_ok (tldD d ws) hN (show (prS d.b ws (soldL d.b ws)).length ≤ 4294967000 by omega) (show d.orders.length ≤ 1000 by omega)) (Zt 5 [] hn rfl (Zv (Zu (Zt 1 [] hn rfl (Zk hn rfl (Times_ok d.b (fltI (tldD d ws)) zDY.1 zDY.2) (Zt 5 [] hn rfl (Zv (zC (Zu (Zt 6 [] hn rfl (Zv (zH rfl (fun hb1=>?_) (fun hb1=>?_))))))))))))))))
 refine Zu (Zt 5 [2,4,5] hn rfl (Zv (zJ (zD ?_))))
 exact ret_E (.inl rfl) ⟨(tldD d ws,⟨[],[],[]⟩,false),zG1 rfl rfl rfl⟩ ((zB0 rfl (.d (.cellA rfl (id:=4) rfl underlying27 rfl sz27 rfl rfl)) (.d (.cellA rfl (id:=5) rfl underlying31 rfl sz31 rfl rfl)) (.tmp rfl)).le (.tup (.cons (.refl _) (.cons (.agg (.cons (.nil 1) (.cons (.nil 1) (.cons (.nil 1) (.refl _))))) (.refl _))))) trivial
 obtain ⟨h0,ht⟩:deskI (tldD d ws) = 0 ∧ timesB (fltI (tldD d ws)) = true:=by simp only [Bool.or_eq_false_iff,Bool.not_eq_false'] at hb1; exact ⟨by simpa using hb1.1,hb1.2⟩
 have htl:=tld_len v hw h0
 obtain ⟨hpo,hl8⟩:=zDY (d:=tldD d ws)
 have hti:timesI (fltI (tldD d ws)) = timL (fltI (tldD d ws)) (fltI (tldD d ws)).length:=by unfold timesI; rw [ht]; rfl
 generalize hfl:fltI (tldD d ws) = l at hpo hl8 ht htl hti
 rw [hti]
 obtain ⟨_,_,_,hob⟩:=yf h0
 refine zI (zA (Zu (Zb 12 hn rfl fun b12=>Zv (zC (zp (gh_nilcell (id:=12) (k:=0) 1081 3 1 rfl rfl) ?_)))))
 refine zp (gh_nilcell (id:=12) (k:=1) 1082 3 1 rfl rfl) ?_
 refine zp (gh_nilcell (id:=12) (k:=2) 1083 3 1 rfl rfl) ?_
 refine zG (Zt 1 [] hn rfl (Zv (zC (Zu (Zt 1 [] hn rfl (Zv (zL (awp_loop_on (ι:={x:Nat × Int × (List Int × Value) × (List Int × Value) // x.1 ≤ l.length ∧ (-9999 ≤ x.2.1 ∧ x.2.1 ≤ 700) ∧ x.2.2.1.1.length = x.1 ∧ x.2.2.2.1.length = x.1}) (fun x=>(14,true,.d (.int .i64 (x.1.1:Nat))) :: (13,true,.d (.int .i64 x.1.2.1)) :: anys [63,64,65,66,69,70,71,72,73,74,75,76,77,78,79,80,81,82,83,84,85,86,87,88,89,90,91,92,93,94,95,96,97,98,99,100,101,102,103,67,68]) (fun x=>[(12,.box b12 31 [.val x.1.2.2.1.2,.val x.1.2.2.2.2,.val (.slice none 0 0)]),(1081,.row x.1.2.2.1.2 3 1 (x.1.2.2.1.1.map intE)),(1082,.row x.1.2.2.2.2 3 1 (x.1.2.2.2.1.map intE))]) (fun x=>l.length - x.1.1) ⟨(0,-9999,([],.slice none 0 0),([],.slice none 0 0)),by simp⟩ ⟨.inl rfl,.inl rfl,zF _⟩ ⟨.inl rfl,.inl rfl,.inl rfl,trivial⟩ ?_))))))))
 rintro ⟨⟨i,la,⟨ps,vp⟩,⟨ms,vm⟩⟩,hi,hla,hps,hms⟩
 dsimp only
 dsimp only at hi hla hps hms
 refine zC (Zu (Zt 4 [] hn rfl (Zv (zH rfl (fun hb2=>?_) (fun hb2=>?_)))))
 ·
  have hil:i < l.length:=by simp at hb2; omega
  have htm:=(tim_mono hpo ht hil).1
  have hpb:=zG6 hpo hil
  have hrg:(timL l l.length)[i]? = some (timI l i):=by have:=zBQ hil; obtain ⟨x,hx⟩:=zT (show i < (timL l l.length).length by rw [zEY]; exact hil); rw [zQ hx] at this; rw [hx,this]
  obtain ⟨sl,hsl⟩:=zT (show i < (soldL d.b ws).length by omega)
  have hwb:=zBf hw (i + 3)
  have hmo:=zGX (a:=(wrd ws (i + 3):Nat)) (b:=4) (by omega) (by omega)
  refine zI (zA (zC (zL (zC (ze (W:=fun b=>True) fmo ?_)))))
  refine Zy [0,1] [] hn rfl (Zd 2 rfl hn (q_index (i:=i) rfl rfl rfl underlying155 sz59 rfl (mget hrg)) ?_)
  refine Zy [3,4,5,6,7] [] hn rfl (Zd 8 rfl hn (q_index (i:=i) rfl rfl rfl underlying155 sz59 rfl (mget hrg)) ?_)
  refine Zy [9,10,11,12] [] hn rfl (Zd 13 rfl hn (za rfl rfl rfl (r:=((i + 3:Nat):Int)) (i64w (by omega) (by omega))) ?_)
  refine zB (Ze1 14 rfl hn rfl (zDC _ _ (by assumption)) (d2_of_d1 (Zd 15 rfl hn (yc rfl rfl rfl (by omega) rfl) ?_)))
  refine Zd 16 rfl hn (za rfl rfl rfl (i64w (by omega) rfl)) ?_
  refine Zd 17 rfl hn (kC rfl rfl rfl) ?_
  refine Zd 18 rfl hn (zFy rfl rfl rfl) ?_
  refine Zy [19] [] hn rfl (zB (zb (by kernel_rfl) ?_))
  refine zA ?_
  obtain ⟨la2,hla2⟩:∃ z:Int,z = min (timI l i).2 (max la ((timI l i).1 + (wrd ws (i + 3):Int).tmod 4)):=⟨_,rfl⟩
  rw [← hla2]
  refine ze (W:=fun b=>True) fmo ?_
  refine Zy [0,2,3] [] hn rfl (Zd 4 rfl hn (q_index (i:=i) rfl rfl rfl underlying91 sz96 rfl (mget hsl)) ?_)
  refine Zy [5,6,9,11] [] hn rfl (zB ?_)
  refine zk 1 [7,10,12] (by kernel_rfl) ⟨?_,?_,?_,?_,trivial⟩
  focus
   refine br rfl (Zw hn (zX rfl rfl (id:=12) rfl underlying29 rfl rfl sees0)) fun _=>?_
   refine d2_of_d1 (zB ?_)
   refine zk 7 [10,12] (by kernel_rfl) ⟨?_,?_,?_,trivial⟩
   focus
    refine br rfl (zK rfl rfl rfl (nb hn rfl) underlying29 sz3 zr3 rfl rfl rfl (show _ = [.d (.int .i64 0)] from by kernel_rfl) (by kernel_rfl) rfl rfl rfl rfl rfl) fun _=>?_
    refine d2_of_d1 (zB ?_)
    refine zk 8 [10,12] (by kernel_rfl) ⟨?_,?_,?_,trivial⟩
    focus
     refine br rfl (s_append (id:=1081) rfl rfl rfl (nb hn rfl) elt29 trivial rfl rfl rfl (by simp [chunk]; omega) (by simp [chunk]; omega) (fun b hb=>trivial)) fun v96=>?_
     refine d2_of_d1 (zB ?_)
     refine zk 10 [12] (by kernel_rfl) ⟨?_,?_,trivial⟩
     refine br rfl (Zw hn (zX rfl rfl (id:=12) rfl underlying29 rfl rfl sees0)) fun _=>?_
     refine d2_of_d1 (Zy [14] [] hn rfl (zB (Zo 12 rfl (zK rfl rfl rfl (nb hn rfl) underlying29 sz3 zr3 rfl rfl rfl (show _ = [.d (.int .i64 0)] from by kernel_rfl) (by kernel_rfl) rfl rfl rfl rfl rfl) fun _=>?_)))
     refine d2_of_d1 (zB ?_)
     rotate_left
     refine br rfl (zK rfl rfl rfl (nb hn rfl) underlying29 sz3 zr3 rfl rfl rfl (show _ = [.d (.int .i64 0)] from by kernel_rfl) (by kernel_rfl) rfl rfl rfl rfl rfl) fun _=>?_
     refine d2_of_d1 (zB (Ze [10] [12] hn rfl (d2_of_d1 (Zy [14] [] hn rfl (zB ?_)))))
     rotate_left
    rotate_left 2
    focus
     refine br rfl (Zw hn (zX rfl rfl (id:=12) rfl underlying29 rfl rfl sees0)) fun _=>?_
     refine d2_of_d1 (zB ?_)
     refine zk 8 [12] (by kernel_rfl) ⟨?_,?_,trivial⟩
     refine br rfl (s_append (id:=1081) rfl rfl rfl (nb hn rfl) elt29 trivial rfl rfl rfl (by simp [chunk]; omega) (by simp [chunk]; omega) (fun b hb=>trivial)) fun v96=>?_
     refine d2_of_d1 (Zy [14] [] hn rfl (zB (Zo 12 rfl (zK rfl rfl rfl (nb hn rfl) underlying29 sz3 zr3 rfl rfl rfl (show _ = [.d (.int .i64 0)] from by kernel_rfl) (by kernel_rfl) rfl rfl rfl rfl rfl) fun _=>?_)))
     refine d2_of_d1 (zB ?_)
     rotate_left
     refine br rfl (zK rfl rfl rfl (nb hn rfl) underlying29 sz3 zr3 rfl rfl rfl (show _ = [.d (.int .i64 0)] from by kernel_rfl) (by kernel_rfl) rfl rfl rfl rfl rfl) fun _=>?_
     refine d2_of_d1 (zB (Zo 8 rfl (s_append (id:=1081) rfl rfl rfl (nb hn rfl) elt29 trivial rfl rfl rfl (by simp [chunk]; omega) (by simp [chunk]; omega) (fun b hb=>trivial)) fun v96=>?_))
     refine d2_of_d1 (Zy [14] [] hn rfl (zB ?_))
     rotate_left
    rotate_left 2
    focus
     refine br rfl (zK rfl rfl rfl (nb hn rfl) underlying29 sz3 zr3 rfl rfl rfl (show _ = [.d (.int .i64 0)] from by kernel_rfl) (by kernel_rfl) rfl rfl rfl rfl rfl) fun _=>?_
     refine d2_of_d1 (zB ?_)
     refine zk 8 [10] (by kernel_rfl) ⟨?_,?_,trivial⟩
     refine br rfl (s_append (id:=1081) rfl rfl rfl (nb hn rfl) elt29 trivial rfl rfl rfl (by simp [chunk]; omega) (by simp [chunk]; omega) (fun b hb=>trivial)) fun v96=>?_
     refine d2_of_d1 (zB (Ze [10] [12] hn rfl ?_))
     rotate_left
     refine br rfl (Zw hn (zX rfl rfl (id:=12) rfl underlying29 rfl rfl sees0)) fun _=>?_
     refine d2_of_d1 (zB (Zo 8 rfl (s_append (id:=1081) rfl rfl rfl (nb hn rfl) elt29 trivial rfl rfl rfl (by simp [chunk]; omega) (by simp [chunk]; omega) (fun b hb=>trivial)) fun v96=>?_))
     rotate_left
     all_goals
      refine d2_of_d1 (Zy [14] [] hn rfl (zB ?_))
    rotate_left 2
   rotate_left 6
   focus
    refine br rfl (Zw hn (zX rfl rfl (id:=12) rfl underlying29 rfl rfl sees0)) fun _=>?_
    refine d2_of_d1 (zB ?_)
    refine zk 7 [12] (by kernel_rfl) ⟨?_,?_,trivial⟩
    focus
     refine br rfl (zK rfl rfl rfl (nb hn rfl) underlying29 sz3 zr3 rfl rfl rfl (show _ = [.d (.int .i64 0)] from by kernel_rfl) (by kernel_rfl) rfl rfl rfl rfl rfl) fun _=>?_
     refine d2_of_d1 (zB ?_)
     refine zk 8 [12] (by kernel_rfl) ⟨?_,?_,trivial⟩
     refine br rfl (s_append (id:=1081) rfl rfl rfl (nb hn rfl) elt29 trivial rfl rfl rfl (by simp [chunk]; omega) (by simp [chunk]; omega) (fun b hb=>trivial)) fun v96=>?_
     refine d2_of_d1 (Zy [14] [] hn rfl (zB (Zo 12 rfl (zK rfl rfl rfl (nb hn rfl) underlying29 sz3 zr3 rfl rfl rfl (show _ = [.d (.int .i64 0)] from by kernel_rfl) (by kernel_rfl) rfl rfl rfl rfl rfl) fun _=>?_)))
     refine d2_of_d1 (zB ?_)
     rotate_left
     refine br rfl (zK rfl rfl rfl (nb hn rfl) underlying29 sz3 zr3 rfl rfl rfl (show _ = [.d (.int .i64 0)] from by kernel_rfl) (by kernel_rfl) rfl rfl rfl rfl rfl) fun _=>?_
     refine d2_of_d1 (zB (Zo 8 rfl (s_append (id:=1081) rfl rfl rfl (nb hn rfl) elt29 trivial rfl rfl rfl (by simp [chunk]; omega) (by simp [chunk]; omega) (fun b hb=>trivial)) fun v96=>?_))
     refine d2_of_d1 (Zy [14] [] hn rfl (zB ?_))
     rotate_left
    rotate_left 2
    refine br rfl (zK rfl rfl rfl (nb hn rfl) underlying29 sz3 zr3 rfl rfl rfl (show _ = [.d (.int .i64 0)] from by kernel_rfl) (by kernel_rfl) rfl rfl rfl rfl rfl) fun _=>?_
    refine d2_of_d1 (zB (Zo 7 rfl (zK rfl rfl rfl (nb hn rfl) underlying29 sz3 zr3 rfl rfl rfl (show _ = [.d (.int .i64 0)] from by kernel_rfl) (by kernel_rfl) rfl rfl rfl rfl rfl) fun _=>?_))
    refine d2_of_d1 (zB (Zo 8 rfl (s_append (id:=1081) rfl rfl rfl (nb hn rfl) elt29 trivial rfl rfl rfl (by simp [chunk]; omega) (by simp [chunk]; omega) (fun b hb=>trivial)) fun v96=>?_))
    refine d2_of_d1 (Zy [14] [] hn rfl (zB ?_))
    rotate_left
   rotate_left 3
   focus
    refine br rfl (zK rfl rfl rfl (nb hn rfl) underlying29 sz3 zr3 rfl rfl rfl (show _ = [.d (.int .i64 0)] from by kernel_rfl) (by kernel_rfl) rfl rfl rfl rfl rfl) fun _=>?_
    refine d2_of_d1 (zB ?_)
    refine zk 7 [10] (by kernel_rfl) ⟨?_,?_,trivial⟩
    focus
     refine br rfl (zK rfl rfl rfl (nb hn rfl) underlying29 sz3 zr3 rfl rfl rfl (show _ = [.d (.int .i64 0)] from by kernel_rfl) (by kernel_rfl) rfl rfl rfl rfl rfl) fun _=>?_
     refine d2_of_d1 (zB ?_)
     refine zk 8 [10] (by kernel_rfl) ⟨?_,?_,trivial⟩
     refine br rfl (s_append (id:=1081) rfl rfl rfl (nb hn rfl) elt29 trivial rfl rfl rfl (by simp [chunk]; omega) (by simp [chunk]; omega) (fun b hb=>trivial)) fun v96=>?_
     refine d2_of_d1 (zB (Ze [10] [12] hn rfl ?_))
     rotate_left
     refine br rfl (Zw hn (zX rfl rfl (id:=12) rfl underlying29 rfl rfl sees0)) fun _=>?_
     refine d2_of_d1 (zB (Zo 8 rfl (s_append (id:=1081) rfl rfl rfl (nb hn rfl) elt29 trivial rfl rfl rfl (by simp [chunk]; omega) (by simp [chunk]; omega) (fun b hb=>trivial)) fun v96=>?_))
     rotate_left
    rotate_left 2
    refine br rfl (Zw hn (zX rfl rfl (id:=12) rfl underlying29 rfl rfl sees0)) fun _=>?_
    refine d2_of_d1 (zB (Zo 7 rfl (zK rfl rfl rfl (nb hn rfl) underlying29 sz3 zr3 rfl rfl rfl (show _ = [.d (.int .i64 0)] from by kernel_rfl) (by kernel_rfl) rfl rfl rfl rfl rfl) fun _=>?_))
    refine d2_of_d1 (zB (Zo 8 rfl (s_append (id:=1081) rfl rfl rfl (nb hn rfl) elt29 trivial rfl rfl rfl (by simp [chunk]; omega) (by simp [chunk]; omega) (fun b hb=>trivial)) fun v96=>?_))
    rotate_left
    all_goals
     refine d2_of_d1 (Zy [14] [] hn rfl (zB ?_))
   rotate_left 3
  rotate_left 12
  focus
   refine br rfl (zK rfl rfl rfl (nb hn rfl) underlying29 sz3 zr3 rfl rfl rfl (show _ = [.d (.int .i64 0)] from by kernel_rfl) (by kernel_rfl) rfl rfl rfl rfl rfl) fun _=>?_
   refine d2_of_d1 (zB ?_)
   refine zk 1 [10,12] (by kernel_rfl) ⟨?_,?_,?_,trivial⟩
   focus
    refine br rfl (Zw hn (zX rfl rfl (id:=12) rfl underlying29 rfl rfl sees0)) fun _=>?_
    refine d2_of_d1 (zB ?_)
    refine zk 8 [10,12] (by kernel_rfl) ⟨?_,?_,?_,trivial⟩
    focus
     refine br rfl (s_append (id:=1081) rfl rfl rfl (nb hn rfl) elt29 trivial rfl rfl rfl (by simp [chunk]; omega) (by simp [chunk]; omega) (fun b hb=>trivial)) fun v96=>?_
     refine d2_of_d1 (zB ?_)
     refine zk 10 [12] (by kernel_rfl) ⟨?_,?_,trivial⟩
     refine br rfl (Zw hn (zX rfl rfl (id:=12) rfl underlying29 rfl rfl sees0)) fun _=>?_
     refine d2_of_d1 (Zy [14] [] hn rfl (zB (Zo 12 rfl (zK rfl rfl rfl (nb hn rfl) underlying29 sz3 zr3 rfl rfl rfl (show _ = [.d (.int .i64 0)] from by kernel_rfl) (by kernel_rfl) rfl rfl rfl rfl rfl) fun _=>?_)))
     refine d2_of_d1 (zB ?_)
     rotate_left
     refine br rfl (zK rfl rfl rfl (nb hn rfl) underlying29 sz3 zr3 rfl rfl rfl (show _ = [.d (.int .i64 0)] from by kernel_rfl) (by kernel_rfl) rfl rfl rfl rfl rfl) fun _=>?_
     refine d2_of_d1 (zB (Ze [10] [12] hn rfl (d2_of_d1 (Zy [14] [] hn rfl (zB ?_)))))
     rotate_left
    rotate_left 2
    focus
     refine br rfl (Zw hn (zX rfl rfl (id:=12) rfl underlying29 rfl rfl sees0)) fun _=>?_
     refine d2_of_d1 (zB ?_)
     refine zk 8 [12] (by kernel_rfl) ⟨?_,?_,trivial⟩
     refine br rfl (s_append (id:=1081) rfl rfl rfl (nb hn rfl) elt29 trivial rfl rfl rfl (by simp [chunk]; omega) (by simp [chunk]; omega) (fun b hb=>trivial)) fun v96=>?_
     refine d2_of_d1 (Zy [14] [] hn rfl (zB (Zo 12 rfl (zK rfl rfl rfl (nb hn rfl) underlying29 sz3 zr3 rfl rfl rfl (show _ = [.d (.int .i64 0)] from by kernel_rfl) (by kernel_rfl) rfl rfl rfl rfl rfl) fun _=>?_)))
     refine d2_of_d1 (zB ?_)
     rotate_left
     refine br rfl (zK rfl rfl rfl (nb hn rfl) underlying29 sz3 zr3 rfl rfl rfl (show _ = [.d (.int .i64 0)] from by kernel_rfl) (by kernel_rfl) rfl rfl rfl rfl rfl) fun _=>?_
     refine d2_of_d1 (zB (Zo 8 rfl (s_append (id:=1081) rfl rfl rfl (nb hn rfl) elt29 trivial rfl rfl rfl (by simp [chunk]; omega) (by simp [chunk]; omega) (fun b hb=>trivial)) fun v96=>?_))
     refine d2_of_d1 (Zy [14] [] hn rfl (zB ?_))
     rotate_left
    rotate_left 2
    focus
     refine br rfl (zK rfl rfl rfl (nb hn rfl) underlying29 sz3 zr3 rfl rfl rfl (show _ = [.d (.int .i64 0)] from by kernel_rfl) (by kernel_rfl) rfl rfl rfl rfl rfl) fun _=>?_
     refine d2_of_d1 (zB ?_)
     refine zk 8 [10] (by kernel_rfl) ⟨?_,?_,trivial⟩
     refine br rfl (s_append (id:=1081) rfl rfl rfl (nb hn rfl) elt29 trivial rfl rfl rfl (by simp [chunk]; omega) (by simp [chunk]; omega) (fun b hb=>trivial)) fun v96=>?_
     refine d2_of_d1 (zB (Ze [10] [12] hn rfl ?_))
     rotate_left
     refine br rfl (Zw hn (zX rfl rfl (id:=12) rfl underlying29 rfl rfl sees0)) fun _=>?_
     refine d2_of_d1 (zB (Zo 8 rfl (s_append (id:=1081) rfl rfl rfl (nb hn rfl) elt29 trivial rfl rfl rfl (by simp [chunk]; omega) (by simp [chunk]; omega) (fun b hb=>trivial)) fun v96=>?_))
     rotate_left
     all_goals
      refine d2_of_d1 (Zy [14] [] hn rfl (zB ?_))
    rotate_left 2
   rotate_left 6
   focus
    refine br rfl (Zw hn (zX rfl rfl (id:=12) rfl underlying29 rfl rfl sees0)) fun _=>?_
    refine d2_of_d1 (zB ?_)
    refine zk 1 [12] (by kernel_rfl) ⟨?_,?_,trivial⟩
    focus
     refine br rfl (Zw hn (zX rfl rfl (id:=12) rfl underlying29 rfl rfl sees0)) fun _=>?_
     refine d2_of_d1 (zB ?_)
     refine zk 8 [12] (by kernel_rfl) ⟨?_,?_,trivial⟩
     refine br rfl (s_append (id:=1081) rfl rfl rfl (nb hn rfl) elt29 trivial rfl rfl rfl (by simp [chunk]; omega) (by simp [chunk]; omega) (fun b hb=>trivial)) fun v96=>?_
     refine d2_of_d1 (Zy [14] [] hn rfl (zB (Zo 12 rfl (zK rfl rfl rfl (nb hn rfl) underlying29 sz3 zr3 rfl rfl rfl (show _ = [.d (.int .i64 0)] from by kernel_rfl) (by kernel_rfl) rfl rfl rfl rfl rfl) fun _=>?_)))
     refine d2_of_d1 (zB ?_)
     rotate_left
     refine br rfl (zK rfl rfl rfl (nb hn rfl) underlying29 sz3 zr3 rfl rfl rfl (show _ = [.d (.int .i64 0)] from by kernel_rfl) (by kernel_rfl) rfl rfl rfl rfl rfl) fun _=>?_
     refine d2_of_d1 (zB (Zo 8 rfl (s_append (id:=1081) rfl rfl rfl (nb hn rfl) elt29 trivial rfl rfl rfl (by simp [chunk]; omega) (by simp [chunk]; omega) (fun b hb=>trivial)) fun v96=>?_))
     refine d2_of_d1 (Zy [14] [] hn rfl (zB ?_))
     rotate_left
    rotate_left 2
    refine br rfl (zK rfl rfl rfl (nb hn rfl) underlying29 sz3 zr3 rfl rfl rfl (show _ = [.d (.int .i64 0)] from by kernel_rfl) (by kernel_rfl) rfl rfl rfl rfl rfl) fun _=>?_
    refine d2_of_d1 (zB (Ze [1] [12] hn rfl (d2_of_d1 (zB (Zo 8 rfl (s_append (id:=1081) rfl rfl rfl (nb hn rfl) elt29 trivial rfl rfl rfl (by simp [chunk]; omega) (by simp [chunk]; omega) (fun b hb=>trivial)) fun v96=>?_)))))
    refine d2_of_d1 (Zy [14] [] hn rfl (zB ?_))
    rotate_left
   rotate_left 3
   focus
    refine br rfl (zK rfl rfl rfl (nb hn rfl) underlying29 sz3 zr3 rfl rfl rfl (show _ = [.d (.int .i64 0)] from by kernel_rfl) (by kernel_rfl) rfl rfl rfl rfl rfl) fun _=>?_
    refine d2_of_d1 (zB ?_)
    refine zk 1 [10] (by kernel_rfl) ⟨?_,?_,trivial⟩
    focus
     refine br rfl (Zw hn (zX rfl rfl (id:=12) rfl underlying29 rfl rfl sees0)) fun _=>?_
     refine d2_of_d1 (zB ?_)
     refine zk 8 [10] (by kernel_rfl) ⟨?_,?_,trivial⟩
     refine br rfl (s_append (id:=1081) rfl rfl rfl (nb hn rfl) elt29 trivial rfl rfl rfl (by simp [chunk]; omega) (by simp [chunk]; omega) (fun b hb=>trivial)) fun v96=>?_
     refine d2_of_d1 (zB (Ze [10] [12] hn rfl ?_))
     rotate_left
     refine br rfl (Zw hn (zX rfl rfl (id:=12) rfl underlying29 rfl rfl sees0)) fun _=>?_
     refine d2_of_d1 (zB (Zo 8 rfl (s_append (id:=1081) rfl rfl rfl (nb hn rfl) elt29 trivial rfl rfl rfl (by simp [chunk]; omega) (by simp [chunk]; omega) (fun b hb=>trivial)) fun v96=>?_))
     rotate_left
    rotate_left 2
    refine br rfl (Zw hn (zX rfl rfl (id:=12) rfl underlying29 rfl rfl sees0)) fun _=>?_
    refine d2_of_d1 (zB (Ze [1] [12] hn rfl (d2_of_d1 (zB (Zo 8 rfl (s_append (id:=1081) rfl rfl rfl (nb hn rfl) elt29 trivial rfl rfl rfl (by simp [chunk]; omega) (by simp [chunk]; omega) (fun b hb=>trivial)) fun v96=>?_)))))
    rotate_left
    all_goals
     refine d2_of_d1 (Zy [14] [] hn rfl (zB ?_))
   rotate_left 3
  rotate_left 12
  focus
   refine br rfl (Zw hn (zX rfl rfl (id:=12) rfl underlying29 rfl rfl sees0)) fun _=>?_
   refine d2_of_d1 (zB ?_)
   refine zk 1 [7,12] (by kernel_rfl) ⟨?_,?_,?_,trivial⟩
   focus
    refine br rfl (Zw hn (zX rfl rfl (id:=12) rfl underlying29 rfl rfl sees0)) fun _=>?_
    refine d2_of_d1 (zB ?_)
    refine zk 7 [12] (by kernel_rfl) ⟨?_,?_,trivial⟩
    focus
     refine br rfl (zK rfl rfl rfl (nb hn rfl) underlying29 sz3 zr3 rfl rfl rfl (show _ = [.d (.int .i64 0)] from by kernel_rfl) (by kernel_rfl) rfl rfl rfl rfl rfl) fun _=>?_
     refine d2_of_d1 (zB ?_)
     refine zk 8 [12] (by kernel_rfl) ⟨?_,?_,trivial⟩
     refine br rfl (s_append (id:=1081) rfl rfl rfl (nb hn rfl) elt29 trivial rfl rfl rfl (by simp [chunk]; omega) (by simp [chunk]; omega) (fun b hb=>trivial)) fun v96=>?_
     refine d2_of_d1 (Zy [14] [] hn rfl (zB (Zo 12 rfl (zK rfl rfl rfl (nb hn rfl) underlying29 sz3 zr3 rfl rfl rfl (show _ = [.d (.int .i64 0)] from by kernel_rfl) (by kernel_rfl) rfl rfl rfl rfl rfl) fun _=>?_)))
     refine d2_of_d1 (zB ?_)
     rotate_left
     refine br rfl (zK rfl rfl rfl (nb hn rfl) underlying29 sz3 zr3 rfl rfl rfl (show _ = [.d (.int .i64 0)] from by kernel_rfl) (by kernel_rfl) rfl rfl rfl rfl rfl) fun _=>?_
     refine d2_of_d1 (zB (Zo 8 rfl (s_append (id:=1081) rfl rfl rfl (nb hn rfl) elt29 trivial rfl rfl rfl (by simp [chunk]; omega) (by simp [chunk]; omega) (fun b hb=>trivial)) fun v96=>?_))
     refine d2_of_d1 (Zy [14] [] hn rfl (zB ?_))
     rotate_left
    rotate_left 2
    refine br rfl (zK rfl rfl rfl (nb hn rfl) underlying29 sz3 zr3 rfl rfl rfl (show _ = [.d (.int .i64 0)] from by kernel_rfl) (by kernel_rfl) rfl rfl rfl rfl rfl) fun _=>?_
    refine d2_of_d1 (zB (Zo 7 rfl (zK rfl rfl rfl (nb hn rfl) underlying29 sz3 zr3 rfl rfl rfl (show _ = [.d (.int .i64 0)] from by kernel_rfl) (by kernel_rfl) rfl rfl rfl rfl rfl) fun _=>?_))
    refine d2_of_d1 (zB (Zo 8 rfl (s_append (id:=1081) rfl rfl rfl (nb hn rfl) elt29 trivial rfl rfl rfl (by simp [chunk]; omega) (by simp [chunk]; omega) (fun b hb=>trivial)) fun v96=>?_))
    refine d2_of_d1 (Zy [14] [] hn rfl (zB ?_))
    rotate_left
   rotate_left 3
   focus
    refine br rfl (zK rfl rfl rfl (nb hn rfl) underlying29 sz3 zr3 rfl rfl rfl (show _ = [.d (.int .i64 0)] from by kernel_rfl) (by kernel_rfl) rfl rfl rfl rfl rfl) fun _=>?_
    refine d2_of_d1 (zB ?_)
    refine zk 1 [12] (by kernel_rfl) ⟨?_,?_,trivial⟩
    focus
     refine br rfl (Zw hn (zX rfl rfl (id:=12) rfl underlying29 rfl rfl sees0)) fun _=>?_
     refine d2_of_d1 (zB ?_)
     refine zk 8 [12] (by kernel_rfl) ⟨?_,?_,trivial⟩
     refine br rfl (s_append (id:=1081) rfl rfl rfl (nb hn rfl) elt29 trivial rfl rfl rfl (by simp [chunk]; omega) (by simp [chunk]; omega) (fun b hb=>trivial)) fun v96=>?_
     refine d2_of_d1 (Zy [14] [] hn rfl (zB (Zo 12 rfl (zK rfl rfl rfl (nb hn rfl) underlying29 sz3 zr3 rfl rfl rfl (show _ = [.d (.int .i64 0)] from by kernel_rfl) (by kernel_rfl) rfl rfl rfl rfl rfl) fun _=>?_)))
     refine d2_of_d1 (zB ?_)
     rotate_left
     refine br rfl (zK rfl rfl rfl (nb hn rfl) underlying29 sz3 zr3 rfl rfl rfl (show _ = [.d (.int .i64 0)] from by kernel_rfl) (by kernel_rfl) rfl rfl rfl rfl rfl) fun _=>?_
     refine d2_of_d1 (zB (Zo 8 rfl (s_append (id:=1081) rfl rfl rfl (nb hn rfl) elt29 trivial rfl rfl rfl (by simp [chunk]; omega) (by simp [chunk]; omega) (fun b hb=>trivial)) fun v96=>?_))
     refine d2_of_d1 (Zy [14] [] hn rfl (zB ?_))
     rotate_left
    rotate_left 2
    refine br rfl (zK rfl rfl rfl (nb hn rfl) underlying29 sz3 zr3 rfl rfl rfl (show _ = [.d (.int .i64 0)] from by kernel_rfl) (by kernel_rfl) rfl rfl rfl rfl rfl) fun _=>?_
    refine d2_of_d1 (zB (Ze [1] [12] hn rfl (d2_of_d1 (zB (Zo 8 rfl (s_append (id:=1081) rfl rfl rfl (nb hn rfl) elt29 trivial rfl rfl rfl (by simp [chunk]; omega) (by simp [chunk]; omega) (fun b hb=>trivial)) fun v96=>?_)))))
    refine d2_of_d1 (Zy [14] [] hn rfl (zB ?_))
    rotate_left
   rotate_left 3
   focus
    refine br rfl (zK rfl rfl rfl (nb hn rfl) underlying29 sz3 zr3 rfl rfl rfl (show _ = [.d (.int .i64 0)] from by kernel_rfl) (by kernel_rfl) rfl rfl rfl rfl rfl) fun _=>?_
    refine d2_of_d1 (zB ?_)
    refine zk 1 [7] (by kernel_rfl) ⟨?_,?_,trivial⟩
    refine br rfl (Zw hn (zX rfl rfl (id:=12) rfl underlying29 rfl rfl sees0)) fun _=>?_
    refine d2_of_d1 (zB (Zo 7 rfl (zK rfl rfl rfl (nb hn rfl) underlying29 sz3 zr3 rfl rfl rfl (show _ = [.d (.int .i64 0)] from by kernel_rfl) (by kernel_rfl) rfl rfl rfl rfl rfl) fun _=>?_))
    rotate_left
    refine br rfl (zK rfl rfl rfl (nb hn rfl) underlying29 sz3 zr3 rfl rfl rfl (show _ = [.d (.int .i64 0)] from by kernel_rfl) (by kernel_rfl) rfl rfl rfl rfl rfl) fun _=>?_
    refine d2_of_d1 (zB (Ze [1] [12] hn rfl ?_))
    rotate_left
    all_goals
     refine d2_of_d1 (zB (Zo 8 rfl (s_append (id:=1081) rfl rfl rfl (nb hn rfl) elt29 trivial rfl rfl rfl (by simp [chunk]; omega) (by simp [chunk]; omega) (fun b hb=>trivial)) fun v96=>?_))
     refine d2_of_d1 (Zy [14] [] hn rfl (zB ?_))
   rotate_left 2
  rotate_left 8
  focus
   refine br rfl (zK rfl rfl rfl (nb hn rfl) underlying29 sz3 zr3 rfl rfl rfl (show _ = [.d (.int .i64 0)] from by kernel_rfl) (by kernel_rfl) rfl rfl rfl rfl rfl) fun _=>?_
   refine d2_of_d1 (zB ?_)
   refine zk 1 [7,10] (by kernel_rfl) ⟨?_,?_,?_,trivial⟩
   focus
    refine br rfl (Zw hn (zX rfl rfl (id:=12) rfl underlying29 rfl rfl sees0)) fun _=>?_
    refine d2_of_d1 (zB ?_)
    refine zk 7 [10] (by kernel_rfl) ⟨?_,?_,trivial⟩
    focus
     refine br rfl (zK rfl rfl rfl (nb hn rfl) underlying29 sz3 zr3 rfl rfl rfl (show _ = [.d (.int .i64 0)] from by kernel_rfl) (by kernel_rfl) rfl rfl rfl rfl rfl) fun _=>?_
     refine d2_of_d1 (zB ?_)
     refine zk 8 [10] (by kernel_rfl) ⟨?_,?_,trivial⟩
     refine br rfl (s_append (id:=1081) rfl rfl rfl (nb hn rfl) elt29 trivial rfl rfl rfl (by simp [chunk]; omega) (by simp [chunk]; omega) (fun b hb=>trivial)) fun v96=>?_
     refine d2_of_d1 (zB (Ze [10] [12] hn rfl ?_))
     rotate_left
     refine br rfl (Zw hn (zX rfl rfl (id:=12) rfl underlying29 rfl rfl sees0)) fun _=>?_
     refine d2_of_d1 (zB (Zo 8 rfl (s_append (id:=1081) rfl rfl rfl (nb hn rfl) elt29 trivial rfl rfl rfl (by simp [chunk]; omega) (by simp [chunk]; omega) (fun b hb=>trivial)) fun v96=>?_))
     rotate_left
    rotate_left 2
    refine br rfl (Zw hn (zX rfl rfl (id:=12) rfl underlying29 rfl rfl sees0)) fun _=>?_
    refine d2_of_d1 (zB (Zo 7 rfl (zK rfl rfl rfl (nb hn rfl) underlying29 sz3 zr3 rfl rfl rfl (show _ = [.d (.int .i64 0)] from by kernel_rfl) (by kernel_rfl) rfl rfl rfl rfl rfl) fun _=>?_))
    refine d2_of_d1 (zB (Zo 8 rfl (s_append (id:=1081) rfl rfl rfl (nb hn rfl) elt29 trivial rfl rfl rfl (by simp [chunk]; omega) (by simp [chunk]; omega) (fun b hb=>trivial)) fun v96=>?_))
    rotate_left
   rotate_left 3
   focus
    refine br rfl (zK rfl rfl rfl (nb hn rfl) underlying29 sz3 zr3 rfl rfl rfl (show _ = [.d (.int .i64 0)] from by kernel_rfl) (by kernel_rfl) rfl rfl rfl rfl rfl) fun _=>?_
    refine d2_of_d1 (zB ?_)
    refine zk 1 [10] (by kernel_rfl) ⟨?_,?_,trivial⟩
    focus
     refine br rfl (Zw hn (zX rfl rfl (id:=12) rfl underlying29 rfl rfl sees0)) fun _=>?_
     refine d2_of_d1 (zB ?_)
     refine zk 8 [10] (by kernel_rfl) ⟨?_,?_,trivial⟩
     refine br rfl (s_append (id:=1081) rfl rfl rfl (nb hn rfl) elt29 trivial rfl rfl rfl (by simp [chunk]; omega) (by simp [chunk]; omega) (fun b hb=>trivial)) fun v96=>?_
     refine d2_of_d1 (zB (Ze [10] [12] hn rfl ?_))
     rotate_left
     refine br rfl (Zw hn (zX rfl rfl (id:=12) rfl underlying29 rfl rfl sees0)) fun _=>?_
     refine d2_of_d1 (zB (Zo 8 rfl (s_append (id:=1081) rfl rfl rfl (nb hn rfl) elt29 trivial rfl rfl rfl (by simp [chunk]; omega) (by simp [chunk]; omega) (fun b hb=>trivial)) fun v96=>?_))
     rotate_left
    rotate_left 2
    refine br rfl (Zw hn (zX rfl rfl (id:=12) rfl underlying29 rfl rfl sees0)) fun _=>?_
    refine d2_of_d1 (zB (Ze [1] [12] hn rfl (d2_of_d1 (zB (Zo 8 rfl (s_append (id:=1081) rfl rfl rfl (nb hn rfl) elt29 trivial rfl rfl rfl (by simp [chunk]; omega) (by simp [chunk]; omega) (fun b hb=>trivial)) fun v96=>?_)))))
    rotate_left
   rotate_left 3
   focus
    refine br rfl (Zw hn (zX rfl rfl (id:=12) rfl underlying29 rfl rfl sees0)) fun _=>?_
    refine d2_of_d1 (zB ?_)
    refine zk 1 [7] (by kernel_rfl) ⟨?_,?_,trivial⟩
    refine br rfl (Zw hn (zX rfl rfl (id:=12) rfl underlying29 rfl rfl sees0)) fun _=>?_
    refine d2_of_d1 (zB (Zo 7 rfl (zK rfl rfl rfl (nb hn rfl) underlying29 sz3 zr3 rfl rfl rfl (show _ = [.d (.int .i64 0)] from by kernel_rfl) (by kernel_rfl) rfl rfl rfl rfl rfl) fun _=>?_))
    rotate_left
    refine br rfl (zK rfl rfl rfl (nb hn rfl) underlying29 sz3 zr3 rfl rfl rfl (show _ = [.d (.int .i64 0)] from by kernel_rfl) (by kernel_rfl) rfl rfl rfl rfl rfl) fun _=>?_
    refine d2_of_d1 (zB (Ze [1] [12] hn rfl ?_))
    rotate_left
    all_goals
     refine d2_of_d1 (zB (Zo 8 rfl (s_append (id:=1081) rfl rfl rfl (nb hn rfl) elt29 trivial rfl rfl rfl (by simp [chunk]; omega) (by simp [chunk]; omega) (fun b hb=>trivial)) fun v96=>?_))
   rotate_left 2
   all_goals
    refine d2_of_d1 (Zy [14] [] hn rfl (zB ?_))
  rotate_left 8
  all_goals
   refine Zo 13 rfl (s_append (id:=1082) rfl rfl rfl (nb hn rfl) elt29 trivial rfl rfl rfl (by simp [chunk]; omega) (by simp [chunk]; omega) (fun b hb=>trivial)) fun v101=>?_
   refine d2_of_d1 (zB (Zo 15 rfl (s_storeRow rfl rfl rfl rfl rfl (rid:=1081) rfl (id:=12) rfl sz29 (Nat.le_of_ble_eq_true rfl) rfl trivial) fun _=>?_))
   refine d2_of_d1 (Zy [16] [] hn rfl (zB (Zo 17 rfl (s_storeRow rfl rfl rfl rfl rfl (rid:=1082) rfl (id:=12) rfl sz29 (Nat.le_of_ble_eq_true rfl) rfl trivial) fun _=>?_)))
   refine d2_of_d1 (zB (zb (by kernel_rfl) ?_))
   refine zP (zA (zG (Zt 1 [] hn rfl (Zs hn (za rfl rfl rfl (r:=((i + 1:Nat):Int)) (i64w (by omega) (by omega))) ?_))))
   refine Zt 1 [] hn rfl (zR ?_)
   exact Zr ⟨(i + 1,la2,(ps ++ [sl.price],v96),(ms ++ [la2],v101)),by simp; omega⟩ ⟨.inl rfl,.inl rfl,zF _⟩ ⟨.inl rfl,.inl (congrArg (fun z=>some (Res.row v96 3 1 z)) (by rw [List.map_append]; rfl)),.inl (congrArg (fun z=>some (Res.row v101 3 1 z)) (by rw [List.map_append]; rfl)),trivial⟩ (by simp only; omega)
 obtain rfl:i = l.length:=by simp at hb2; omega
 refine zU (zE (zE (zN (zA (zC (Zu (Zt 1 [] hn rfl (Zv (zL (awp_loop_on (ι:={x:Nat × List Int × Value // x.1 ≤ d.orders.length ∧ x.2.1.length = x.1}) (fun x=>(15,true,.d (.int .i64 (x.1.1:Nat))) :: anys [104,105,106,107,108,111,112,113,114,115,116,16,117,118,119,120,121,122,123,124,125,126,127,128,129,130,131,132,133,134,135,109,110]) (fun x=>(12,.box b12 31 [.val vp,.val vm,.val x.1.2.2]) :: (1083,.row x.1.2.2 3 1 (x.1.2.1.map intE)) :: gones [16]) (fun x=>d.orders.length - x.1.1) ⟨(0,[],.slice none 0 0),by simp⟩ ⟨.inl rfl,zF _⟩ ⟨.inl rfl,.inl rfl,zS _⟩ ?_))))))))))
 rintro ⟨⟨n,os,vo⟩,hn1,hos⟩
 dsimp only
 dsimp only at hn1 hos
 refine zC (Zu (Zt 5 [2] hn rfl (Zv (zH rfl (fun hb3=>?_) (fun hb3=>?_)))))
 ·
  have hnl:n < d.orders.length:=by simp at hb3; omega
  obtain ⟨o,hod⟩:=zT hnl
  have hbo:=zAl (hob o (List.mem_of_getElem? hod))
  have hwb:=zBf hw (n + 7)
  have hmo:=zGX (a:=(wrd ws (n + 7):Nat)) (b:=o.mhi - o.mlo + 1) (by omega) (by omega)
  refine zI (zA (zC (zL (Zu (Zt 3 [2] hn rfl (Zi (i:=n) hn rfl rfl (mget hod) ?_))))))
  refine Zt 2 [] hn rfl (Zb 16 hn rfl fun b16=>Zt 1 [16] hn rfl (Zv (ze (W:=fun b=>b ≠ b16) fmo ?_)))
  refine Zy [0,2,3,4,5] [16] hn rfl (Zd 6 rfl hn (za rfl rfl rfl (r:=((n + 7:Nat):Int)) (i64w (by omega) (by omega))) ?_)
  refine Zy [8,9,10,11] [16,16] hn rfl (Zd 12 rfl hn (yE rfl rfl rfl (i64w (by omega) rfl)) ?_)
  refine Zd 13 rfl hn (za rfl rfl rfl (i64w (by omega) rfl)) ?_
  refine zB ?_
  refine zk 1 [7] (by kernel_rfl) ⟨?_,?_,trivial⟩
  refine br rfl (Zw hn (zX rfl rfl (id:=12) rfl underlying29 rfl rfl sees0)) fun _=>?_
  refine d2_of_d1 (zB (Ze1 7 rfl hn rfl (zDC _ _ (by assumption)) (d2_of_d1 (Zd 14 rfl hn (yc rfl rfl rfl (by omega) rfl) ?_))))
  refine Zd 15 rfl hn (za rfl rfl rfl (i64w (by omega) rfl)) ?_
  refine zB (Zo 16 rfl (zK rfl rfl rfl (nb hn rfl) underlying29 sz3 zr3 rfl rfl rfl (show _ = [.d (.int .i64 0)] from by kernel_rfl) (by kernel_rfl) rfl rfl rfl rfl rfl) fun _=>?_)
  rotate_left
  focus
   refine br rfl (s_call [] (fun _=>zDC _ _ (by assumption)) rfl (yC rfl) rfl (nb hn rfl) (fun _=>trivial) rfl rfl (.refl _)) fun _=>?_
   refine d2_of_d1 (Zd 14 rfl hn (yc rfl rfl rfl (by omega) rfl) ?_)
   refine Zd 15 rfl hn (za rfl rfl rfl (i64w (by omega) rfl)) ?_
   refine zB ?_
   refine zk 1 [16] (by kernel_rfl) ⟨?_,?_,trivial⟩
   refine br rfl (Zw hn (zX rfl rfl (id:=12) rfl underlying29 rfl rfl sees0)) fun _=>?_
   refine d2_of_d1 (zB (Zo 16 rfl (zK rfl rfl rfl (nb hn rfl) underlying29 sz3 zr3 rfl rfl rfl (show _ = [.d (.int .i64 0)] from by kernel_rfl) (by kernel_rfl) rfl rfl rfl rfl rfl) fun _=>?_))
   rotate_left
   refine br rfl (zK rfl rfl rfl (nb hn rfl) underlying29 sz3 zr3 rfl rfl rfl (show _ = [.d (.int .i64 0)] from by kernel_rfl) (by kernel_rfl) rfl rfl rfl rfl rfl) fun _=>?_
   refine d2_of_d1 (zB (Ze [1] [12] hn rfl ?_))
   rotate_left
  rotate_left 2
  all_goals
   refine d2_of_d1 (zB (z8 (i:=1083) (j:=16) rfl rfl rfl (fun hne1083_16=>?_)))
   refine Zo 17 rfl (s_append (id:=1083) rfl rfl rfl (nb hn rfl) elt29 trivial rfl rfl rfl (by simp [chunk]; omega) (by simp [chunk]; omega) (fun b hb=>(fun e=>hne1083_16 _ hb (congrArg some e.symm)))) fun v134=>?_
   refine d2_of_d1 (Zy [18] [] hn rfl (zB (z8 (i:=12) (j:=16) rfl rfl rfl (fun hne12_16=>?_))))
   refine Zo 19 rfl (s_storeRow rfl rfl rfl rfl rfl (rid:=1083) rfl (id:=12) rfl sz29 (Nat.le_of_ble_eq_true rfl) rfl (fun e=>hne12_16 _ rfl (congrArg some e.symm))) fun _=>?_
   refine d2_of_d1 (zB (zb (by kernel_rfl) ?_))
   refine zP (zA (zG (Zt 1 [] hn rfl (Zs hn (za rfl rfl rfl (r:=((n + 1:Nat):Int)) (i64w (by omega) (by omega))) ?_))))
   refine Zt 1 [] hn rfl (zR ?_)
   exact Zr ⟨(n + 1,os ++ [o.mlo + (wrd ws (n + 7):Int).tmod (o.mhi - o.mlo + 1)],v134),by simp; omega⟩ ⟨.inl rfl,zF _⟩ ⟨.inl rfl,.inl (congrArg (fun z=>some (Res.row v134 3 1 z)) (by rw [List.map_append]; rfl)),zS _⟩ (by simp only; omega)
 obtain rfl:n = d.orders.length:=by simp at hb3; omega
 refine zU (zE (zE (zN (zA (zC (zp (gh_rowcell (id:=12) (k:=0) (rid:=1081) rfl rfl rfl) ?_))))))
 refine zp (gh_rowcell (id:=12) (k:=1) (rid:=1082) rfl rfl rfl) ?_
 refine zp (gh_rowcell (id:=12) (k:=2) (rid:=1083) rfl rfl rfl) ?_
 refine ze (W:=fun b=>b ≠ b2 ∧ b ≠ b12) fmo ?_
 refine Zy [0,1,2,3,4] [2,12,2,12] hn rfl (zB ?_)
 refine Ze1 5 rfl hn rfl ((by have h:=IsT4_ok (tldD d ws) (fltI (tldD d ws)) ⟨ps,ms,os⟩ v (show d.orders.length ≤ 1000 by omega) zDY.1 zDY.2; rw [hfl] at h; exact h)) ?_
 refine d2_of_d1 (zB (z8 (i:=4) (j:=2) rfl rfl rfl (fun hne4_2=>?_)))
 refine z8 (i:=4) (j:=12) rfl rfl rfl (fun hne4_12=>?_)
 refine Zo 6 rfl (zq rfl rfl rfl rfl rfl rfl (id:=4) rfl sz27 rfl (Nat.le_of_ble_eq_true rfl) rfl ⟨fun e=>hne4_2 _ rfl (congrArg some e.symm),fun e=>hne4_12 _ rfl (congrArg some e.symm)⟩) fun _=>?_
 refine d2_of_d1 (zB (z8 (i:=5) (j:=2) rfl rfl rfl (fun hne5_2=>?_)))
 refine z8 (i:=5) (j:=12) rfl rfl rfl (fun hne5_12=>?_)
 refine Zo 7 rfl (zq rfl rfl rfl rfl rfl rfl (id:=5) rfl sz31 rfl (Nat.le_of_ble_eq_true rfl) rfl ⟨fun e=>hne5_2 _ rfl (congrArg some e.symm),fun e=>hne5_12 _ rfl (congrArg some e.symm)⟩) fun _=>?_
 refine d2_of_d1 (Zy [8] [] hn rfl (zB (zb (by kernel_rfl) ?_)))
 refine zA (zJ ?_)
 exact ret_E (.inl rfl) ⟨(tldD d ws,⟨ps,ms,os⟩,isTB (tldD d ws) l ⟨ps,ms,os⟩),by rw [← hfl]; exact told_ok v hw q1 hb7 h0 (by rw [hfl]; exact ht)⟩ (zB0 rfl (.d (.cellA rfl (id:=4) rfl underlying27 rfl sz27 rfl rfl)) (.d (.cellA rfl (id:=5) rfl underlying31 rfl sz31 rfl rfl)) (.tmp rfl)) trivial
end Go.Proofs.YticlpkgpmmhemaaGreatDoor
namespace Go.Proofs.YticlpkgpmmhemaaGreatDoor
open Go.RowKit
set_option linter.all false
theorem zEG {x:Dsk} {t:Tru} (h0:deskI x = 0) (hT:TruW x (readI x.b x.tape).1 t) (ht:timesB (readI x.b x.tape).1 = true) {os:List Int} (hos:∀ n ∈ os,0 ≤ n ∧ n < x.orders.length):sureO x os = 0:=by
  obtain ⟨hr0,ho5,hf,hob⟩:=yf h0
  obtain ⟨hpo,hl8⟩:=yk (b:=x.b) (s:=x.tape)
  have v:=ym hr0
  have h1:(os.all fun n=>withinB n 0 ((x.orders.length:Int) - 1)) = true:=List.all_eq_true.2 fun n hn=>zl.2 (by have:=hos n hn; omega)
  have h2:(pricesI x.b x.tape).2 = 0:=by
    obtain ⟨ms,hms⟩:=Option.isSome_iff_exists.1 ((y0 (out:=[]) (o:=0) kO v hpo).1.2 ⟨_,hT.tr⟩)
    unfold pricesI
    rw [hr0,hms]; rfl
  have h3:(minutesI x.b x.tape).2 = 0:=by
    unfold minutesI
    rw [hr0,zDg hpo,ht]; rfl
  unfold sureO
  rw [h0,h1,h2,h3]; rfl
/-- What the program answers about a desk with a truth. -/
structure TldF (x:Dsk) (t:Tru) (l:List Prt) (mm:List (Int × Int)) (fs bs:List (Int × Int)) (vs:List Int):Prop where
  S:SurH x l mm
  T:TruW x l t
  hl:(readI x.b x.tape).1 = l
  p:playI x t = (fs,0)
  b:boundsI x = (bs,0)
  v:verdsI x = (vs,0)
  fl:fs.length = x.orders.length
  bl:bs.length = x.orders.length
  vl:vs.length = x.orders.length
  pv:(deskI x == 0 && truthW x (readI x.b x.tape).1 t) = true
  su:∀ j:Nat,j < x.orders.length → sureO x [(j:Int)] = 0
  at_:∀ j o,x.orders[j]? = some o → fs[j]? = some (fillGo x.fee o (t.orders.getD j 0) t.prices t.minutes 0 l) ∧ bs[j]? = some (bndI x.b l x.fee o mm).1 ∧ vs[j]? = some (verdI x.b l x.fee o mm) ∧ salesI x (j:Nat) = (salesO x.b l x.fee o mm,0)
theorem zDu {x:Dsk} {t:Tru} (h0:deskI x = 0) (hT:TruW x (readI x.b x.tape).1 t) (ht:timesB (readI x.b x.tape).1 = true):∃ l mm fs bs vs,TldF x t l mm fs bs vs:=by
  have hs:=zEG h0 hT ht (os:=[]) (fun n hn=>by cases hn)
  obtain ⟨hS,_⟩:=kF hs
  have hw:=(zAo (yf h0).1).2 hT
  refine ⟨_,_,fillsN x.fee (readI x.b x.tape).1 t x.orders x.orders.length,(x.orders.map fun o=>(bndI x.b (readI x.b x.tape).1 x.fee o (minutesI x.b x.tape).1).1),(x.orders.map fun o=>verdI x.b (readI x.b x.tape).1 x.fee o (minutesI x.b x.tape).1),hS,hT,rfl,?_,?_,?_,yh _,?_,?_,?_,fun j hj=>zEG h0 hT ht (os:=[(j:Int)]) (fun n hn=>by simp at hn; omega),fun j o hod=>⟨?_,?_,?_,?_⟩⟩
  · unfold playI; rw [h0,hw]; rfl
  · unfold boundsI; rw [hs]; rfl
  · unfold verdsI; rw [hs]; rfl
  · simp
  · simp
  · rw [h0,hw]; rfl
  · have hj:=(List.getElem?_eq_some_iff.1 hod).1
    rw [zBc hj,zQ hod]
  · rw [List.getElem?_map,hod]; rfl
  · rw [List.getElem?_map,hod]; rfl
  · have hj:=(List.getElem?_eq_some_iff.1 hod).1
    have hs1:=zEG h0 hT ht (os:=[(j:Int)]) (fun n hn=>by simp at hn; omega)
    unfold salesI
    rw [hs1,Int.toNat_natCast,zQ hod]; rfl
end Go.Proofs.YticlpkgpmmhemaaGreatDoor
namespace Go.Proofs.YticlpkgpmmhemaaGreatDoor
open Go.RowKit
set_option maxRecDepth 20000
set_option linter.all false
set_option maxHeartbeats 4000000
theorem tld_get {d:Dsk} {x:Dsk} {t:Tru} (h:ToldP d (x,t,true)) (hN:NamesOK d.b):∃ l mm fs bs vs,TldF x t l mm fs bs vs ∧ NamesOK x.b ∧ x.tape.length ≤ 300 ∧ x.orders.length ≤ 8 ∧ x.b.stocks.length ≤ 7 ∧ t.prices.length ≤ 8 ∧ t.minutes.length ≤ 8 ∧ t.orders.length ≤ 8:=by
  obtain ⟨h1,h2,h3,h4,h5,h6⟩:=h.ok rfl
  obtain ⟨l,mm,fs,bs,vs,hF⟩:=zDu h4 h5 h6
  have e1:x.b = d.b:=h.b
  have e2:x.orders = d.orders:=h.os
  have hp:t.prices.length = (readI x.b x.tape).1.length:=h5.pl
  have hm:t.minutes.length = (readI x.b x.tape).1.length:=h5.ml
  have ho:t.orders.length = x.orders.length:=h5.ol
  have h8:=(yk (b:=x.b) (s:=x.tape)).2
  exact ⟨l,mm,fs,bs,vs,hF,by rw [e1]; exact hN,h2,by rw [e2]; exact h1,by rw [e1]; exact h3,by omega,by omega,by rw [ho,e2]; exact h1⟩
end Go.Proofs.YticlpkgpmmhemaaGreatDoor
namespace Go.Proofs.YticlpkgpmmhemaaGreatDoor
open Go.RowKit
set_option linter.all false
/-- A desk is valid if all its parts are. -/
theorem desk_of {d:Dsk} (h1:(readI d.b d.tape).2 = 0) (h2:d.orders.length ≤ 5) (h3:0 ≤ d.fee ∧ d.fee ≤ 4) (h4:∀ o ∈ d.orders,ordB d.b o = true):deskI d = 0:=by
  unfold deskI
  rw [h1,show decide (5 < (d.orders.length:Int)) = false from decide_eq_false (by omega),zl.2 h3,List.all_eq_true.2 h4]; rfl
/-- Another desk on the same tape, with a truth of its own. -/
theorem tld_mod {x y:Dsk} {t u:Tru} {l:List Prt} {mm fs bs:List (Int × Int)} {vs:List Int} (hF:TldF x t l mm fs bs vs) (hb:y.b = x.b) (ht:y.tape = x.tape) (ho5:y.orders.length ≤ 5) (hfe:0 ≤ y.fee ∧ y.fee ≤ 4) (hob:∀ o ∈ y.orders,ordB y.b o = true) (hu:TruW y l u):∃ fs bs vs,TldF y u l mm fs bs vs:=by
  have hl:(readI y.b y.tape).1 = l:=by rw [hb,ht]; exact hF.hl
  have h0:deskI y = 0:=desk_of (by rw [hb,ht,hF.S.hr]) ho5 hfe hob
  obtain ⟨l',mm',fs',bs',vs',hF'⟩:=zDu h0 (by rw [hl]; exact hu) (by rw [hl]; exact hF.S.tb)
  obtain rfl:l' = l:=hF'.hl.symm.trans hl
  have e1:=hF'.S.hmi
  have e2:=hF.S.hmi
  rw [hb,ht] at e1
  obtain rfl:mm' = mm:=congrArg Prod.fst (e1.symm.trans e2)
  exact ⟨fs',bs',vs',hF'⟩
theorem tru_pb {x:Dsk} {l:List Prt} {t:Tru} (h:TruW x l t):∀ p ∈ t.prices,0 ≤ p ∧ p ≤ 1000:=fun p hp=>by
  obtain ⟨i,hi⟩:=List.getElem?_of_mem hp
  have hil:=(List.getElem?_eq_some_iff.1 hi).1
  have hb:=(h.tr i (by rw [← h.pl]; exact hil)).bd
  rw [zQ hi] at hb
  have h1:1 ≤ p ∧ p ≤ 799:=hb
  omega
/-- What one order brings: shares, and the money for them. -/
def dCon (o:Ord) (f:Int × Int):Int:=bif f.1 == -1 then 0 else bif o.buy then -o.number else o.number
theorem zFb (os : List Ord) (fs : List (Int × Int)) (n i : Nat) (h : (os.getD i ord0).stock.toNat < n) :
    (∀ k,(hasN os fs n (i + 1)).1.getD k 0 = (hasN os fs n i).1.getD k 0 + (if k = (os.getD i ord0).stock.toNat then dCon (os.getD i ord0) (fs.getD i (-1,0)) else 0)) ∧ (hasN os fs n (i + 1)).2 = (hasN os fs n i).2 - dCon (os.getD i ord0) (fs.getD i (-1,0)) * (fs.getD i (-1,0)).2:=by
  rw [hasN]
  unfold dCon
  cases (fs.getD i (-1,0)).1 == -1
  · refine ⟨fun k=>?_,rfl⟩
    simp only [cond_false]
    rw [kk (by rw [kR]; exact h)]
    by_cases e:k = (os.getD i ord0).stock.toNat
    · rw [if_pos e.symm,if_pos e,e]
    · rw [if_neg (fun q=>e q.symm),if_neg e]; omega
  · simp only [cond_true]
    exact ⟨fun k=>by by_cases e:k = (os.getD i ord0).stock.toNat <;> simp [e],by omega⟩
/-- An order without a Limit. -/
@[reducible] def noLim (o:Ord) (buy:Bool):Ord:=⟨buy,o.stock,o.number,0,o.mlo,o.mhi⟩
theorem zFJ {fee:Int} {o:Ord} {m:Int} {ps ms:List Int}:∀ (l:List Prt) (i:Nat),(fillGo fee (noLim o true) m ps ms i l = (-1,0) ∧ fillGo fee (noLim o false) m ps ms i l = (-1,0)) ∨ ∃ k:Nat,k < i + l.length ∧ fillGo fee (noLim o true) m ps ms i l = ((k:Int),ps.getD k 0 + fee) ∧ fillGo fee (noLim o false) m ps ms i l = ((k:Int),max 0 (ps.getD k 0 - fee))
  | [],_=>.inl ⟨rfl,rfl⟩
  | s :: r,i=>by
    have e:∀ b p,letsB fee (noLim o b) p = true:=fun b p=>rfl
    unfold fillGo
    rw [e,e,Bool.and_true]
    cases s.stock == o.stock && decide (m < ms.getD i 0)
    · rcases zFJ (fee:=fee) (o:=o) (m:=m) (ps:=ps) (ms:=ms) r (i + 1) with h | ⟨k,hk,h⟩
      · exact .inl h
      · exact .inr ⟨k,by simp only [List.length_cons]; omega,h⟩
    · exact .inr ⟨i,by simp only [List.length_cons]; omega,rfl,rfl⟩
@[reducible] def pairX (x:Dsk) (o:Ord):Dsk:=⟨x.b,x.tape,x.fee,[noLim o true,noLim o false]⟩
@[reducible] def pairT (t:Tru) (m:Int):Tru:=⟨t.prices,t.minutes,[m,m]⟩
@[reducible] def soleX (x:Dsk) (o:Ord):Dsk:=⟨x.b,x.tape,x.fee,[o]⟩
@[reducible] def soleT (t:Tru) (m:Int):Tru:=⟨t.prices,t.minutes,[m]⟩
theorem sole_tld {x:Dsk} {t:Tru} {l:List Prt} {mm fs bs:List (Int × Int)} {vs:List Int} (hF:TldF x t l mm fs bs vs) {j:Nat} {o:Ord} (hod:x.orders[j]? = some o):∃ fs2 vs2,TldF (soleX x o) (soleT t (t.orders.getD j 0)) l mm fs2 [(bndI x.b l x.fee o mm).1] vs2 ∧ vs2 = [verdI x.b l x.fee o mm]:=by
  have hj:=(List.getElem?_eq_some_iff.1 hod).1
  have hb:=hF.T.od j hj
  rw [zQ hod] at hb
  obtain ⟨fs2,bs2,vs2,h⟩:=tld_mod (y:=soleX x o) (u:=soleT t (t.orders.getD j 0)) hF rfl rfl (by simp) hF.S.fe (fun a ha=>by rw [List.mem_singleton.1 ha]; exact hF.S.ob o (List.mem_of_getElem? hod)) ⟨hF.T.pl,hF.T.tr,hF.T.ml,hF.T.rm,rfl,fun i hi=>by
    obtain rfl:i = 0:=by simp at hi; omega
    exact hb⟩
  obtain ⟨_,h2,h3,_⟩:=h.at_ 0 o rfl
  have hl2:bs2.length = 1:=h.bl
  have hl3:vs2.length = 1:=h.vl
  match bs2,hl2,h2 with
  | [b],_,h2 =>
    match vs2,hl3,h3 with
    | [v],_,h3 =>
      simp only [List.getElem?_cons_zero,Option.some.injEq] at h2 h3
      subst h2
      subst h3
      exact ⟨fs2,_,h,rfl⟩
theorem getD_zero {n k:Nat}:(List.replicate n (0:Int)).getD k 0 = 0:=by
  rw [List.getD_eq_getElem?_getD,List.getElem?_replicate]; split <;> rfl
theorem mul_sub2 {n p fee:Int} (h:fee ≤ p):n * (p + fee) - n * max 0 (p - fee) = 2 * fee * n:=by
  rw [show max 0 (p - fee) = p - fee by omega,← Int.mul_sub,show p + fee - (p - fee) = 2 * fee by omega,Int.mul_comm]
/-- What is so of the pair. -/
structure PairF (x:Dsk) (t:Tru) (o:Ord) (u:Tru) (f0 f1:Int × Int) (sh:List Int) (money:Int):Prop where
  pl:playI (pairX x o) u = ([f0,f1],0)
  hs:hasI (pairX x o) u = (sh,money,0)
  sl:sh.length = x.b.stocks.length
  e1:f0.1 = f1.1
  zs:∀ k,sh.getD k 0 = 0
  mb:-1000000 ≤ money ∧ money ≤ 1000000
  f0b:-1 ≤ f0.1 ∧ f0.1 < t.prices.length ∧ 0 ≤ f0.2 ∧ f0.2 ≤ 1004
  f1b:0 ≤ f1.2 ∧ f1.2 ≤ 1004
  no:f0.1 < 0 → money = 0
  le:f0.2 - f1.2 ≤ 2 * x.fee
  yes:0 ≤ f0.1 → t.prices.getD f0.1.toNat 0 < x.fee ∨ money = 2 * x.fee * o.number
theorem pair_law {x:Dsk} {t:Tru} {l:List Prt} {mm fs bs:List (Int × Int)} {vs:List Int} (hF:TldF x t l mm fs bs vs) {j:Nat} {o:Ord} (hod:x.orders[j]? = some o):∃ f0 f1 sh money,PairF x t o (pairT t (t.orders.getD j 0)) f0 f1 sh money:=by
  have hj:=(List.getElem?_eq_some_iff.1 hod).1
  have hb:=hF.T.od j hj
  rw [zQ hod] at hb
  have hob:=zAl (hF.S.ob o (List.mem_of_getElem? hod))
  have hoB:=hF.S.ob o (List.mem_of_getElem? hod)
  have hfe:=hF.S.fe
  have hpb:=tru_pb hF.T
  have hnl:∀ b,ordB x.b (noLim o b) = true:=fun b=>by
    unfold ordB at hoB ⊢
    simp only [Bool.and_eq_true_iff] at hoB ⊢
    exact ⟨⟨⟨⟨⟨hoB.1.1.1.1.1,hoB.1.1.1.1.2⟩,rfl⟩,hoB.1.1.2⟩,hoB.1.2⟩,hoB.2⟩
  obtain ⟨fs2,bs2,vs2,h⟩:=tld_mod (y:=pairX x o) (u:=pairT t (t.orders.getD j 0)) hF rfl rfl (by simp) hF.S.fe (fun a ha=>by
    simp only [List.mem_cons,List.not_mem_nil,or_false] at ha
    rcases ha with rfl | rfl
    · exact hnl true
    · exact hnl false) ⟨hF.T.pl,hF.T.tr,hF.T.ml,hF.T.rm,rfl,fun i hi=>by
    have hi2:i < 2:=hi
    match i,hi2 with
    | 0,_=>exact hb
    | 1,_=>exact hb⟩
  have h0:=(h.at_ 0 (noLim o true) rfl).1
  have h1:=(h.at_ 1 (noLim o false) rfl).1
  have hl2:fs2.length = 2:=h.fl
  match fs2,hl2,h0,h1 with
  | [f0,f1],_,h0,h1 =>
    simp only [List.getElem?_cons_zero,List.getElem?_cons_succ,Option.some.injEq] at h0 h1
    have g0:f0 = fillGo x.fee (noLim o true) (t.orders.getD j 0) t.prices t.minutes 0 l:=h0
    have g1:f1 = fillGo x.fee (noLim o false) (t.orders.getD j 0) t.prices t.minutes 0 l:=h1
    have b0:=zCp (fee:=x.fee) (o:=noLim o true) (m:=t.orders.getD j 0) (ms:=t.minutes) hfe hpb (l:=l) (i:=0)
    have b1:=zCp (fee:=x.fee) (o:=noLim o false) (m:=t.orders.getD j 0) (ms:=t.minutes) hfe hpb (l:=l) (i:=0)
    rw [← g0] at b0
    rw [← g1] at b1
    have hH:hasI (pairX x o) (pairT t (t.orders.getD j 0)) = ((hasN [noLim o true,noLim o false] [f0,f1] x.b.stocks.length 2).1,(hasN [noLim o true,noLim o false] [f0,f1] x.b.stocks.length 2).2,0):=by
      unfold hasI
      rw [h.p]; rfl
    have hstl:o.stock.toNat < x.b.stocks.length:=by omega
    obtain ⟨s1,m1⟩:=zFb [noLim o true,noLim o false] [f0,f1] x.b.stocks.length 1 hstl
    obtain ⟨s0,m0⟩:=zFb [noLim o true,noLim o false] [f0,f1] x.b.stocks.length 0 hstl
    have z0:∀ k,(hasN [noLim o true,noLim o false] [f0,f1] x.b.stocks.length 0).1.getD k 0 = 0:=fun k=>getD_zero
    have n0:(hasN [noLim o true,noLim o false] [f0,f1] x.b.stocks.length 0).2 = 0:=rfl
    have hbd:=(zEm (n:=x.b.stocks.length) (os:=[noLim o true,noLim o false]) (fs:=[f0,f1]) (fun a ha=>by
      simp only [List.mem_cons,List.not_mem_nil,or_false] at ha
      rcases ha with rfl | rfl <;> exact hob.2.1) (fun f hf=>by
      simp only [List.mem_cons,List.not_mem_nil,or_false] at hf
      rcases hf with rfl | rfl
      · exact b0
      · exact b1) 2 (by simp) (by simp)).2
    have q0:dCon (noLim o true) f0 = bif f0.1 == -1 then 0 else -o.number:=rfl
    have q1:dCon (noLim o false) f1 = bif f1.1 == -1 then 0 else o.number:=rfl
    have s0':∀ k,(hasN [noLim o true,noLim o false] [f0,f1] x.b.stocks.length 1).1.getD k 0 = (hasN [noLim o true,noLim o false] [f0,f1] x.b.stocks.length 0).1.getD k 0 + (if k = o.stock.toNat then dCon (noLim o true) f0 else 0):=s0
    have m0':(hasN [noLim o true,noLim o false] [f0,f1] x.b.stocks.length 1).2 = (hasN [noLim o true,noLim o false] [f0,f1] x.b.stocks.length 0).2 - dCon (noLim o true) f0 * f0.2:=m0
    have s1':∀ k,(hasN [noLim o true,noLim o false] [f0,f1] x.b.stocks.length 2).1.getD k 0 = (hasN [noLim o true,noLim o false] [f0,f1] x.b.stocks.length 1).1.getD k 0 + (if k = o.stock.toNat then dCon (noLim o false) f1 else 0):=s1
    have m1':(hasN [noLim o true,noLim o false] [f0,f1] x.b.stocks.length 2).2 = (hasN [noLim o true,noLim o false] [f0,f1] x.b.stocks.length 1).2 - dCon (noLim o false) f1 * f1.2:=m1
    rw [q0,n0] at m0'
    rw [q1,m0'] at m1'
    have hz:∀ k,(hasN [noLim o true,noLim o false] [f0,f1] x.b.stocks.length 2).1.getD k 0 = 0 + (if k = o.stock.toNat then (bif f0.1 == -1 then 0 else -o.number) else 0) + (if k = o.stock.toNat then (bif f1.1 == -1 then 0 else o.number) else 0):=fun k=>by rw [s1',s0',z0,q0,q1]
    rcases zFJ (fee:=x.fee) (o:=o) (m:=t.orders.getD j 0) (ps:=t.prices) (ms:=t.minutes) l 0 with ⟨a1,a2⟩ | ⟨k,hk,a1,a2⟩
    · rw [← g0] at a1
      rw [← g1] at a2
      subst a1
      subst a2
      exact ⟨_,_,_,_,h.p,hH,kR 2,rfl,fun k=>by rw [hz]; simp,by omega,⟨by simp,by dsimp only; omega,by simp,by simp⟩,by simp,fun _=>by rw [m1']; simp,by dsimp only; omega,fun e=>by simp at e⟩
    · rw [← g0] at a1
      rw [← g1] at a2
      subst a1
      subst a2
      have hk2:k < t.prices.length:=by rw [hF.T.pl]; omega
      have e3:(((k:Int) == -1):Bool) = false:=by rw [beq_eq_false_iff_ne]; omega
      refine ⟨_,_,_,_,h.p,hH,kR 2,rfl,fun q=>?_,by omega,⟨by dsimp only; omega,by dsimp only; omega,b0⟩,b1,fun e=>by dsimp only at e; omega,by dsimp only; omega,fun _=>?_⟩
      · rw [hz]
        dsimp only
        rw [e3]
        by_cases e:q = o.stock.toNat
        · rw [if_pos e,if_pos e]; simp only [cond_false] <;> omega
        · rw [if_neg e,if_neg e]; rfl
      · dsimp only
        rw [Int.toNat_natCast]
        by_cases e:t.prices.getD k 0 < x.fee
        · exact .inl e
        · right
          rw [m1']
          dsimp only
          rw [e3]
          simp only [cond_false]
          have e4:=mul_sub2 (n:=o.number) (p:=t.prices.getD k 0) (fee:=x.fee) (by omega)
          rw [Int.neg_mul]
          omega
end Go.Proofs.YticlpkgpmmhemaaGreatDoor
namespace Go.Proofs.YticlpkgpmmhemaaGreatDoor
open Go.Proofs.Tryz
open Go.RowKit
set_option maxRecDepth 20000
set_option linter.all false
set_option maxHeartbeats 4000000
theorem OddPair_eff (d:Dsk) (ws:List Int) (wh:Nat) (hN:NamesOK d.b) (hw:WdsOK ws) (hwh:wh ≤ 255):EffAt Tryz.prog 12 [.d (dskD d),.d (wdsD ws),.d (.int .u8 (wh:Nat))] [] (X:=Unit) (fun _=>.d (.bool true)) (fun _=>[]):=by
 refine EffAt.of_awp Tryz.func12 rfl (by kernel_rfl) rfl fun Γ hn=>?_
 refine Zu (Zb 3 hn rfl fun b3=>Zt 1 [] hn rfl (Zv (Zu (Zt 2 [3] hn rfl ?_))))
 refine stepW (s_callE (Told_eff d ws hN hw) rfl rfl rfl (nb hn rfl) (.d rfl) rfl (.refl _) trivial (fun _=>rfl) (fun _ _=>trivial)) fun ⟨⟨x,t,isb⟩,hTp⟩=>?_
 refine Zt 4 [] hn rfl (Zb 7 hn rfl fun b7=>Zb 8 hn rfl fun b8=>Zt 3 [7,8] hn rfl (Zv (zC (Zu (Zt 8 [7] hn rfl (Zv (zH rfl (fun hb0=>?_) (fun hb0=>?_))))))))
 refine Zu (Zk hn rfl (zCF) (Zt 1 [] hn rfl (Zv (zJ (zD ?_)))))
 exact ret_E (.inl rfl) () (zx rfl (.tmp rfl)) trivial
 obtain ⟨rfl,hne⟩:isb = true ∧ x.orders.length ≠ 0:=by have h:=hb0; simp only [List.length_map,Bool.or_eq_false_iff,Bool.not_eq_false',beq_eq_false_iff_ne] at h; exact ⟨h.1,fun e=>h.2 (by rw [e]; rfl)⟩
 obtain ⟨l,mm,fs,bs,vs,hF,hN2,hx3,hx8,hx7,htp,htm,hto⟩:=tld_get hTp hN
 have hfl:=hF.fl
 have hbl:=hF.bl
 have hvl:=hF.vl
 have hl8:=hF.S.l8
 obtain ⟨k,hkd⟩:∃ k,wh % x.orders.length = k:=⟨_,rfl⟩
 have hkl:k < x.orders.length:=by rw [← hkd]; exact Nat.mod_lt wh (by omega)
 obtain ⟨o,hod⟩:=zT hkl
 have hoB:=hF.S.ob o (List.mem_of_getElem? hod)
 have hob:=zAl hoB
 have hotl:t.orders.length = x.orders.length:=hF.T.ol
 obtain ⟨mk,hmk⟩:=zT (show k < t.orders.length by omega)
 obtain ⟨f0,f1,sh,money,hP⟩:=pair_law hF hod
 obtain ⟨fs2,vs2,hF2,hvs2⟩:=sole_tld hF hod
 rw [zQ hmk] at hP hF2
 have hfe:=hF.S.fe
 have hpl:=hP.pl
 have hhs:=hP.hs
 have hsl0:=hP.sl
 have he1:=hP.e1
 have hmb:=hP.mb
 have hf0:=hP.f0b
 have hf1:=hP.f1b
 obtain ⟨_,hbk1,hv1,hs1⟩:=hF.at_ k o hod
 obtain ⟨_,_,_,hs2⟩:=hF2.at_ 0 o rfl
 dsimp only at hs2
 have hv2:=hF2.v
 rw [hvs2] at hv2
 have hnb:-100000 ≤ 2 * x.fee * o.number ∧ 2 * x.fee * o.number ≤ 100000:=by exact zHI (by omega) (by have:=hob.2.1; omega)
 have hft:0 ≤ f0.1 → ∃ q:Nat,f0.1 = (q:Int) ∧ q < t.prices.length:=fun e=>⟨f0.1.toNat,by omega,by omega⟩
 refine zI (zA (Zu (Zt 1 [] hn rfl (Zs hn (zBa rfl rfl underlying5 underlying3 (i64w (by omega) rfl)) ?_))))
 refine Zt 3 [7] hn rfl (Zs hn (yc rfl rfl rfl (r:=((k:Nat):Int)) (by rw [List.length_map]; show (x.orders.length:Int) ≠ 0; omega) (by rw [List.length_map,← hkd]; exact modN (a:=wh) (b:=x.orders.length) (by omega))) ?_)
 refine Zt 1 [] hn rfl (Zv (Zu (Zt 3 [7] hn rfl (Zi (i:=k) hn rfl rfl (mget hod) ?_))))
 refine Zt 1 [] hn rfl (Zb 11 hn rfl fun b11=>Zt 1 [11] hn rfl (Zv (zC ?_)))
 refine zi (e:=.normal) (ι:=Nat × Nat) (fun z=>(12,true,.val (.pointer (some ⟨z.1,0,none⟩))) :: (13,true,.val (.pointer (some ⟨z.2,0,none⟩))) :: anys [62,63]) (fun z=>[(12,.box z.1 27 [.d (stksD x.b.stocks),.d (.int .i64 x.b.jump),.d (.int .i64 x.b.small),.d (strD x.tape),.d (.int .i64 x.fee),.d (ordsD x.orders)]),(13,.box z.2 27 [.d (stksD x.b.stocks),.d (.int .i64 x.b.jump),.d (.int .i64 x.b.small),.d (strD x.tape),.d (.int .i64 x.fee),.d (ordsD x.orders)])]) (fun hJ1=>?_) ?_
 ·
  refine ze (W:=fun b=>b ≠ b7) fmo ?_
  refine Zy [0,1] [7,7] hn rfl (zB ?_)
  refine zk 2 [3] (by kernel_rfl) ⟨?_,?_,trivial⟩
  refine br rfl (z6 12 rfl rfl rfl (nb hn rfl) zr27 rfl rfl) fun b12=>?_
  refine d2_of_d1 (zB (Zo 3 rfl (z6 13 rfl rfl rfl (nb hn rfl) zr27 rfl rfl) fun b13=>?_))
  rotate_left
  refine br rfl (z6 13 rfl rfl rfl (nb hn rfl) zr27 rfl rfl) fun b13=>?_
  refine d2_of_d1 (zB (Zo 2 rfl (z6 12 rfl rfl rfl (nb hn rfl) zr27 rfl rfl) fun b12=>?_))
  rotate_left
  all_goals
   refine d2_of_d1 (zB (z8 (i:=12) (j:=7) rfl rfl rfl (fun hne12_7=>?_)))
   refine Zo 4 rfl (zq rfl rfl rfl rfl rfl rfl (id:=12) rfl sz27 rfl (Nat.le_of_ble_eq_true rfl) rfl (fun e=>hne12_7 _ rfl (congrArg some e.symm))) fun _=>?_
   refine d2_of_d1 (zB (z8 (i:=13) (j:=7) rfl rfl rfl (fun hne13_7=>?_)))
   refine Zo 5 rfl (zq rfl rfl rfl rfl rfl rfl (id:=13) rfl sz27 rfl (Nat.le_of_ble_eq_true rfl) rfl (fun e=>hne13_7 _ rfl (congrArg some e.symm))) fun _=>?_
   refine d2_of_d1 (zB (zb (by kernel_rfl) ?_))
   exact Zj hJ1 (b12,b13) ⟨.inl rfl,.inl rfl,zF _⟩ ⟨.inl rfl,.inl rfl,trivial⟩
 rintro ⟨b12,b13⟩
 dsimp only
 refine zA (Zu (Zt 1 [11] hn rfl (stepW (zK rfl rfl rfl (nb hn rfl) underlying25 sz61 zr61 rfl rfl rfl (show _ = [.d (.bool false),.d (.int .i64 0),.d (.int .i64 0),.d (.int .i64 0),.d (.int .i64 0),.d (.int .i64 0)] from by kernel_rfl) (by kernel_rfl) rfl rfl rfl rfl rfl) fun _=>?_)))
 refine Zt 1 [] hn rfl (stepW (s_store1 rfl rfl rfl rfl rfl rfl (id:=12) rfl sz25 (Nat.le_of_ble_eq_true rfl) rfl trivial) fun _=>?_)
 refine Zv (zC ?_)
 refine zi (e:=.normal) (ι:=Nat × Nat) (fun z=>(14,true,.val (.pointer (some ⟨z.1,0,none⟩))) :: (15,true,.val (.pointer (some ⟨z.2,0,none⟩))) :: anys [67,68]) (fun z=>[(14,.box z.1 61 [.d (.bool o.buy),.d (.int .i64 o.stock),.d (.int .i64 o.number),.d (.int .i64 o.limit),.d (.int .i64 o.mlo),.d (.int .i64 o.mhi)]),(15,.box z.2 61 [.d (.bool o.buy),.d (.int .i64 o.stock),.d (.int .i64 o.number),.d (.int .i64 o.limit),.d (.int .i64 o.mlo),.d (.int .i64 o.mhi)])]) (fun hJ2=>?_) ?_
 ·
  refine ze (W:=fun b=>b ≠ b11) fmo ?_
  refine Zy [0,1] [11,11] hn rfl (zB ?_)
  refine zk 2 [3] (by kernel_rfl) ⟨?_,?_,trivial⟩
  refine br rfl (z6 14 rfl rfl rfl (nb hn rfl) zr61 rfl rfl) fun b14=>?_
  refine d2_of_d1 (zB (Zo 3 rfl (z6 15 rfl rfl rfl (nb hn rfl) zr61 rfl rfl) fun b15=>?_))
  rotate_left
  refine br rfl (z6 15 rfl rfl rfl (nb hn rfl) zr61 rfl rfl) fun b15=>?_
  refine d2_of_d1 (zB (Zo 2 rfl (z6 14 rfl rfl rfl (nb hn rfl) zr61 rfl rfl) fun b14=>?_))
  rotate_left
  all_goals
   refine d2_of_d1 (zB (z8 (i:=14) (j:=11) rfl rfl rfl (fun hne14_11=>?_)))
   refine Zo 4 rfl (zq rfl rfl rfl rfl rfl rfl (id:=14) rfl sz61 rfl (Nat.le_of_ble_eq_true rfl) rfl (fun e=>hne14_11 _ rfl (congrArg some e.symm))) fun _=>?_
   refine d2_of_d1 (zB (z8 (i:=15) (j:=11) rfl rfl rfl (fun hne15_11=>?_)))
   refine Zo 5 rfl (zq rfl rfl rfl rfl rfl rfl (id:=15) rfl sz61 rfl (Nat.le_of_ble_eq_true rfl) rfl (fun e=>hne15_11 _ rfl (congrArg some e.symm))) fun _=>?_
   refine d2_of_d1 (zB (zb (by kernel_rfl) ?_))
   exact Zj hJ2 (b14,b15) ⟨.inl rfl,.inl rfl,zF _⟩ ⟨.inl rfl,.inl rfl,trivial⟩
 rintro ⟨b14,b15⟩
 dsimp only
 refine zA (Zu (Zt 1 [] hn rfl (stepW (s_store1 rfl rfl rfl rfl rfl rfl (id:=14) rfl sz3 (Nat.le_of_ble_eq_true rfl) rfl trivial) fun _=>?_)))
 refine Zt 1 [] hn rfl (stepW (s_store1 rfl rfl rfl rfl rfl rfl (id:=15) rfl sz3 (Nat.le_of_ble_eq_true rfl) rfl trivial) fun _=>?_)
 refine Zt 1 [] hn rfl (stepW (s_store1 rfl rfl rfl rfl rfl rfl (id:=14) rfl sz4 (Nat.le_of_ble_eq_true rfl) rfl trivial) fun _=>?_)
 refine Zt 1 [] hn rfl (stepW (s_store1 rfl rfl rfl rfl rfl rfl (id:=15) rfl sz4 (Nat.le_of_ble_eq_true rfl) rfl trivial) fun _=>?_)
 refine Zv (Zu (Zt 2 [14,15] hn rfl (stepW (zK rfl rfl rfl (nb hn rfl) underlying25 sz61 zr61 rfl rfl rfl (show _ = [.d (.bool false),.d (.int .i64 0),.d (.int .i64 0),.d (.int .i64 0),.d (.int .i64 0),.d (.int .i64 0),.d (.bool false),.d (.int .i64 0),.d (.int .i64 0),.d (.int .i64 0),.d (.int .i64 0),.d (.int .i64 0)] from by kernel_rfl) (by kernel_rfl) rfl rfl rfl rfl rfl) fun _=>?_)))
 refine Zt 1 [] hn rfl (stepW (s_store1 rfl rfl rfl rfl rfl rfl (id:=13) rfl sz25 (Nat.le_of_ble_eq_true rfl) rfl trivial) fun _=>?_)
 refine Zv (zC ?_)
 refine zi (e:=.normal) (ι:=Nat) (fun z=>(16,true,.val (.pointer (some ⟨z,0,none⟩))) :: anys [77,78,79,80,81,82,83,84,85,86,87,88,89,90,91,92]) (fun z=>[(16,.box z 31 [.d (ints t.prices),.d (ints t.minutes),.d (ints [mk,mk])])]) (fun hJ3=>?_) ?_
 ·
  refine ze (W:=fun b=>b ≠ b8) fmo ?_
  refine Zy [0,1,2,3,4,5,6] [8,8,8] hn rfl (Zd 7 rfl hn (q_index (i:=k) rfl rfl rfl underlying29 sz3 rfl (mget hmk)) ?_)
  refine Zy [8,9,10,11] [8] hn rfl (Zd 12 rfl hn (q_index (i:=k) rfl rfl rfl underlying29 sz3 rfl (mget hmk)) ?_)
  refine Zy [13] [] hn rfl (zB ?_)
  refine zk 14 [16] (by kernel_rfl) ⟨?_,?_,trivial⟩
  refine br rfl (zK rfl rfl rfl (nb hn rfl) underlying29 sz3 zr3 rfl rfl rfl (show _ = [.d (.int .i64 0),.d (.int .i64 0)] from by kernel_rfl) (by kernel_rfl) rfl rfl rfl rfl rfl) fun _=>?_
  refine d2_of_d1 (Zy [15] [] hn rfl (zB (Zo 16 rfl (z6 16 rfl rfl rfl (nb hn rfl) zr31 rfl rfl) fun b16=>?_)))
  refine d2_of_d1 (zB ?_)
  rotate_left
  refine br rfl (z6 16 rfl rfl rfl (nb hn rfl) zr31 rfl rfl) fun b16=>?_
  refine d2_of_d1 (zB (Zo 14 rfl (zK rfl rfl rfl (nb hn rfl) underlying29 sz3 zr3 rfl rfl rfl (show _ = [.d (.int .i64 0),.d (.int .i64 0)] from by kernel_rfl) (by kernel_rfl) rfl rfl rfl rfl rfl) fun _=>?_))
  refine d2_of_d1 (Zy [15] [] hn rfl (zB ?_))
  rotate_left
  all_goals
   refine z8 (i:=16) (j:=8) rfl rfl rfl (fun hne16_8=>?_)
   refine Zo 17 rfl (zq rfl rfl rfl rfl rfl rfl (id:=16) rfl sz31 rfl (Nat.le_of_ble_eq_true rfl) rfl (fun e=>hne16_8 _ rfl (congrArg some e.symm))) fun _=>?_
   refine d2_of_d1 (zB (zb (by kernel_rfl) ?_))
   exact Zj hJ3 b16 ⟨.inl rfl,zF _⟩ ⟨.inl rfl,trivial⟩
 rintro b16
 refine zA (Zu (Zt 1 [7] hn rfl (Zk hn rfl (kY x (by omega) (by omega)) (Zt 1 [] hn rfl (Zk hn rfl ((by have h:=zCG x hN2 (by omega) (by omega) (k:Nat); rw [hs1] at h; exact h)) ?_)))))
 refine Zt 5 [] hn rfl (Zv (Zu (Zt 1 [12] hn rfl (Zk hn rfl (kY (soleX x o) (by dsimp only; omega) (by simp)) (Zk hn rfl ((by have h:=zCG (soleX x o) hN2 (by dsimp only; omega) (by simp) ((0:Nat):Int); rw [hs2] at h; exact h)) ?_)))))
 refine Zt 5 [] hn rfl (Zv (Zu (Zt 1 [7] hn rfl (Zk hn rfl (kY x (by omega) (by omega)) (Zk hn rfl ((by have h:=zBZ x hN2 (by omega) (by omega); rw [hF.b] at h; exact h)) ?_)))))
 refine Zt 5 [] hn rfl (Zv (Zu (Zt 1 [12] hn rfl (Zk hn rfl (kY (soleX x o) (by dsimp only; omega) (by simp)) (Zk hn rfl ((by have h:=zBZ (soleX x o) hN2 (by dsimp only; omega) (by simp); rw [hF2.b] at h; exact h)) ?_)))))
 refine Zt 5 [] hn rfl (Zv (Zu (Zt 1 [7] hn rfl (Zk hn rfl (kY x (by omega) (by omega)) (Zk hn rfl ((by have h:=zAk x hN2 (by omega) (by omega); rw [hF.v] at h; exact h)) ?_)))))
 refine Zt 5 [] hn rfl (Zv (Zu (Zt 1 [12] hn rfl (Zk hn rfl (kY (soleX x o) (by dsimp only; omega) (by simp)) (Zk hn rfl ((by have h:=zAk (soleX x o) hN2 (by dsimp only; omega) (by simp); rw [hv2] at h; exact h)) ?_)))))
 refine Zt 5 [] hn rfl (Zv (zC (zC (zi (e:=.normal) (ι:=Unit) (fun u0=>(202,true,.d (.bool false)) :: anys [130,131,132,133,134,135,136,137,138,139,140,141,142,143,144,145,146,147,148,149,150,151,152,153,154,155,156,157,158,159,160,161,162,163,164,165,166,167,168,169,170,171,172,173,174,175,176,177,178,179,180,181,182,183,184,185,186,187,188,189,190,191,192,193,194,195,196,197,198,199,200,201]) (fun u0=>[]) (fun hJ4=>?_) ?_))))
 refine ze (W:=fun b=>b ≠ b7) fmo ?_
 refine Zy [0,1,2,3,4,5,6,7,8,9,10,11,12,13,14,15,16,17,18,19,20,21,22,23,24] [] hn rfl (zB ?_)
 refine Zo 25 rfl (s_call [(153,_),(154,_)] (fun hc=>zBr _ _) rfl (zM rfl rfl rfl) rfl (nb hn rfl) (fun hc=>⟨⟨_,rfl,hc⟩,⟨_,rfl,hc⟩,trivial⟩) rfl rfl (.refl _)) fun _=>?_
 refine d2_of_d1 (Zy [26,27,28,29,30,31,32,33,34,35,36,37,38,39,40,41,42,43] [7] hn rfl ?_)
 refine Zg 44 [(172,_),(173,_)] rfl (zM rfl rfl rfl) hn (fun hc=>⟨⟨_,rfl,hc⟩,⟨_,rfl,hc⟩,trivial⟩) (fun hc=>q_index (i:=k) rfl rfl rfl underlying46 sz66 rfl (mget hbk1)) ?_
 refine Zy [45,46] [] hn rfl ?_
 refine Zg 47 [(176,_)] rfl (zM rfl rfl rfl) hn (fun hc=>⟨⟨_,rfl,hc⟩,trivial⟩) (fun hc=>q_index (i:=0) rfl rfl rfl underlying46 sz66 rfl (mget rfl)) ?_
 refine Zy [48] [] hn rfl ?_
 refine Zg 49 [(175,_),(178,_)] rfl (zM rfl rfl rfl) hn (fun hc=>⟨⟨_,rfl,hc⟩,⟨_,rfl,hc⟩,trivial⟩) (fun hc=>q_neq66 rfl rfl rfl) ?_
 refine Zy [50,51,52,53,54,55,56,57,58,59,60,61,62,63,64,65] [] hn rfl ?_
 refine Zg 66 [(194,_),(195,_)] rfl (zM rfl rfl rfl) hn (fun hc=>⟨⟨_,rfl,hc⟩,⟨_,rfl,hc⟩,trivial⟩) (fun hc=>q_index (i:=k) rfl rfl rfl underlying29 sz3 rfl (mget hv1)) ?_
 refine Zy [67,68] [] hn rfl ?_
 refine Zg 69 [(198,_)] rfl (zM rfl rfl rfl) hn (fun hc=>⟨⟨_,rfl,hc⟩,trivial⟩) (fun hc=>q_index (i:=0) rfl rfl rfl underlying29 sz3 rfl (mget rfl)) ?_
 refine Zy [70,71,72] [] hn rfl (zB (zb (by kernel_rfl) ?_))
 exact Zj hJ4 () ⟨.inl (congrArg (fun z=>some (true,TV.d (D.bool z))) (by simp [hbl,hvl,show intsB (salesO x.b l x.fee o mm) (salesO x.b l x.fee o mm) = true from zAa.2 rfl])),zF _⟩ trivial
 rintro _
 refine zA (zH rfl (fun hb5=>?_) (fun hb5=>?_))
 exact absurd hb5 (by decide)
 refine zI (zA (zC (ze (W:=fun b=>b ≠ b13 ∧ b ≠ b16) fmo ?_)))
 refine Zy [0,2] [13,16] hn rfl (zB (Ze1 1 rfl hn rfl (kY (pairX x o) (by dsimp only; omega) (by simp)) (d2_of_d1 (zB (Ze1 3 rfl hn rfl (zED (pairT t mk) (by dsimp only; omega) (by dsimp only; omega) (by simp)) (d2_of_d1 (zB (Ze1 4 rfl hn rfl ((by have h:=zDF (pairX x o) hN2 (by dsimp only; omega) (by simp) (pairT t mk); rw [hpl] at h; exact h)) ?_))))))))
 refine d2_of_d1 (Zy [5,6,7,8,9] [] hn rfl (zB (zb (by kernel_rfl) ?_)))
 refine zA (zC (ze (W:=fun b=>b ≠ b13 ∧ b ≠ b16) fmo ?_))
 refine Zy [0,2] [13,16] hn rfl (zB (Ze1 1 rfl hn rfl (kY (pairX x o) (by dsimp only; omega) (by simp)) (d2_of_d1 (zB (Ze1 3 rfl hn rfl (zED (pairT t mk) (by dsimp only; omega) (by dsimp only; omega) (by simp)) (d2_of_d1 (zB (Ze1 4 rfl hn rfl ((by have h:=zGx (pairX x o) hN2 (by dsimp only; omega) (by simp) (pairT t mk); rw [hhs] at h; exact h)) ?_))))))))
 refine d2_of_d1 (Zy [5,6,7,8,9,10,11] [] hn rfl (zB (zb (by kernel_rfl) ?_)))
 refine zA (zC (zC (ze (W:=fun b=>b ≠ b7) fmo ?_)))
 refine Zy [0,1,2,3,4,5,6,7,8,9,10,11,12] [] hn rfl ?_
 refine Zg 13 [(232,_)] rfl (zM rfl rfl rfl) hn (fun hc=>⟨⟨_,rfl,hc⟩,trivial⟩) (fun hc=>q_index (i:=0) rfl rfl rfl underlying53 sz68 rfl (mget rfl)) ?_
 refine Zy [14,15,16] [] hn rfl ?_
 refine Zg 17 [(236,_)] rfl (zM rfl rfl rfl) hn (fun hc=>⟨⟨_,rfl,hc⟩,trivial⟩) (fun hc=>q_index (i:=1) rfl rfl rfl underlying53 sz68 rfl (mget rfl)) ?_
 refine Zy [18,19,20,21,22,23,24,25,26,27,28,29,30] [7] hn rfl (zB (zb (by kernel_rfl) ?_))
 refine zA (zH rfl (fun hb6=>?_) (fun hb6=>?_))
 exact absurd hb6 (by simp [hsl0,he1])
 refine zI (zA (zC (Zu (Zt 1 [] hn rfl (Zv (zL (awp_loop_on (ι:={i:Nat // i ≤ sh.length}) (fun z=>(34,true,.d (.int .i64 (z.1:Nat))) :: anys [251,252,253,254,257,258,259,260,261,255,256]) (fun z=>[]) (fun z=>sh.length - z.1) ⟨0,Nat.zero_le _⟩ ⟨.inl rfl,zF _⟩ trivial ?_)))))))
 rintro ⟨i,hi⟩
 dsimp only
 refine zC (Zu (Zt 4 [] hn rfl (Zv (zH rfl (fun hb7=>?_) (fun hb7=>?_)))))
 have hil:i < sh.length:=by simp at hb7; omega
 obtain ⟨sv,hsv⟩:=zT hil
 have hsz:=hP.zs i
 rw [zQ hsv] at hsz
 refine zI (zA (zC (zL (Zu (Zt 2 [] hn rfl (Zi (i:=i) hn rfl rfl (mget hsv) ?_))))))
 refine Zt 2 [] hn rfl (Zv (zH rfl (fun hb8=>?_) (fun hb8=>?_)))
 exact absurd hb8 (by rw [hsz]; decide)
 refine zI (zP (zA (zG (Zt 1 [] hn rfl (Zs hn (za rfl rfl rfl (r:=((i + 1:Nat):Int)) (i64w (by omega) (by omega))) ?_)))))
 refine Zt 1 [] hn rfl (zR ?_)
 exact Zr ⟨i + 1,by omega⟩ ⟨.inl rfl,zF _⟩ trivial (by simp only; omega)
 obtain rfl:i = sh.length:=by simp at hb7; omega
 refine zU (zE (zE (zN (zA (zC (Zu (Zt 1 [] hn rfl (Zi (i:=0) hn rfl rfl (mget rfl) ?_))))))))
 refine Zt 3 [] hn rfl (Zv (zH rfl (fun hb9=>?_) (fun hb9=>?_)))
 have q5:f0.1 < 0:=by simpa using hb9
 have hmz:=hP.no q5
 refine Zu (Zt 3 [] hn rfl (Zkg hn rfl (fun hc=>zCF) (Zt 2 [] hn rfl (Zv (zJ (zD ?_))))))
 exact ret_E (.inl rfl) () ((zx rfl (.tmp rfl)).eq (by rw [hmz]; rfl)) trivial
 have q5:0 ≤ f0.1:=by have h:=hb9; simp at h; omega
 obtain ⟨q,hq,hql⟩:=hft q5
 obtain ⟨pq,hpq⟩:=zT hql
 have hle:=hP.le
 have hyes:=hP.yes q5
 rw [hq,Int.toNat_natCast,zQ hpq] at hyes
 refine zI (zA (zC (ze (W:=fun b=>b ≠ b7 ∧ b ≠ b8 ∧ b ≠ b11) fmo ?_)))
 refine Zy [0] [] hn rfl (Zd 1 rfl hn (q_index (i:=0) rfl rfl rfl underlying53 sz68 rfl (mget rfl)) ?_)
 refine Zy [2,3,4] [] hn rfl (Zd 5 rfl hn (q_index (i:=1) rfl rfl rfl underlying53 sz68 rfl (mget rfl)) ?_)
 refine Zy [6,7] [] hn rfl (Zd 8 rfl hn (yE rfl rfl rfl (i64w (by omega) rfl)) ?_)
 refine Zy [9,10] [7] hn rfl (Zd 11 rfl hn (zAs rfl rfl rfl (i64w (by omega) rfl)) ?_)
 refine Zy [12,13,14,15,16] [8] hn rfl ?_
 refine Zg 17 [(288,_)] rfl (zM rfl rfl rfl) hn (fun hc=>⟨⟨_,rfl,hc⟩,trivial⟩) (fun hc=>q_index (i:=0) rfl rfl rfl underlying53 sz68 rfl (mget rfl)) ?_
 refine Zy [18,19] [] hn rfl ?_
 refine Zg 20 [(287,_),(291,_)] rfl (zM rfl rfl rfl) hn (fun hc=>⟨⟨_,rfl,hc⟩,⟨_,rfl,hc⟩,trivial⟩) (fun hc=>q_index (i:=q) rfl rfl rfl underlying29 sz3 hq (mget hpq)) ?_
 refine Zy [21,22,23,24,25,26,27,28] [7,7] hn rfl ?_
 refine Zg 29 [(300,_)] rfl (zM rfl rfl rfl) hn (fun hc=>⟨⟨_,rfl,hc⟩,trivial⟩) (fun hc=>zAs rfl rfl rfl (i64w (by omega) rfl)) ?_
 refine Zy [30,31] [11] hn rfl ?_
 refine Zg 32 [(301,_),(303,_)] rfl (zM rfl rfl rfl) hn (fun hc=>⟨⟨_,rfl,hc⟩,⟨_,rfl,hc⟩,trivial⟩) (fun hc=>zAs rfl rfl rfl (i64w (by omega) rfl)) ?_
 refine Zy [33,34,35,36] [] hn rfl (zB (Zo 37 rfl (s_call [] (fun hc=>zCF) rfl (zM rfl rfl rfl) rfl (nb hn rfl) (fun hc=>trivial) rfl rfl (.refl _)) fun _=>?_))
 refine d2_of_d1 (Zy [38,39] [] hn rfl (zB (zb (by kernel_rfl) ?_)))
 refine zA (zJ ?_)
 exact ret_E (.inl rfl) () ((zx rfl (.tmp rfl)).eq (by rw [decide_eq_true hle]; rcases hyes with e | e; rw [decide_eq_true e]; rfl; rw [e]; simp)) trivial
theorem OddPair_ok (d:Dsk) (ws:List Int) (wh:Nat) (hN:NamesOK d.b) (hw:WdsOK ws) (hwh:wh ≤ 255):PureAt Tryz.prog 12 [dskD d,wdsD ws,.int .u8 (wh:Nat)] (.bool true):=PureAt.of_eff (ds:=[dskD d,wdsD ws,.int .u8 (wh:Nat)]) (OddPair_eff d ws wh hN hw hwh)
end Go.Proofs.YticlpkgpmmhemaaGreatDoor
