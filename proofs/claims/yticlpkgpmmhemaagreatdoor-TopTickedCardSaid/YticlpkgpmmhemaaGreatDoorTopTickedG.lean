/-
  A part of the proof that contangolaw.TopTicked returns true: what the last text needs, and no more. No condition: no statement of the seat is proved here.
-/
import Derived.Test.YticlpkgpmmhemaaGreatDoorRows
import Derived.LaidMore
import Derived.MakeChecks
import Derived.LaidByTextLater
import Derived.Test.YticlpkgpmmhemaaGreatDoorTopTickedF
namespace Go.Proofs.YticlpkgpmmhemaaGreatDoor
open Go.Proofs.Tryz
open Go.ChangeShapes Go.WideShapes Go.ChangeAt Go.RowKit
set_option linter.all false
set_option maxRecDepth 100000
theorem own:ownKnob Tryz.prog.godebug = none:=by kernel_rfl
theorem laidOut:laidOutB Tryz.prog = true:=by kernel_rfl
def laidT : List (String × DataW Unit) := [("math/bits.deBruijn32tab", Rows.laid_math_bits_deBruijn32tab), ("math/bits.deBruijn64tab", Rows.laid_math_bits_deBruijn64tab), ("internal/strconv.uint64pow10", Rows.laid_internal_strconv_uint64pow10), ("strconv.ErrRange", Rows.laid_strconv_ErrRange), ("strconv.ErrSyntax", Rows.laid_strconv_ErrSyntax)]
theorem hand_plain:(laidT.all fun x=>x.2.handleName?.isNone) = true:=by kernel_rfl
theorem g_pow : Tryz.prog.globalNamed "internal/strconv.uint64pow10" = some 1 := by kernel_rfl
theorem g_syn : Tryz.prog.globalNamed "strconv.ErrSyntax" = some 2 := by kernel_rfl
theorem g_ran : Tryz.prog.globalNamed "strconv.ErrRange" = some 3 := by kernel_rfl
theorem zCO {P:Program} {W:World} {n:String} {g:Nat} {cs:Array Value} (hg:P.globalNamed n = some g) (h:World.var? P W n = some cs):∃ t f,W.heap[g]? = some (.cells cs t f):=by
  unfold World.var? at h
  rw [hg] at h
  simp only [Option.bind_some] at h
  split at h
  · rename_i cs' t f hh
    cases h
    exact ⟨t,f,hh⟩
  · cases h
theorem zD3 {H : Type} {enc : TypeId × Value → H} {P : Program} {w : World} {base : Nat} {spare : Nat → Bool} {held : Bool} {fuel : Nat} {t : TypeId} {cs : List Value} {x : DataW H × List MemPlace} (ht : ∃ ms, P.underlying t = some (.interface ms))
    (h:DataW.trod enc P w base spare held fuel t cs = some x):∃ v,cs = [v] ∧ errV v:=by
  obtain ⟨ms,ht⟩:=ht
  cases fuel with
  | zero=>simp [DataW.trod] at h
  | succ n =>
    unfold DataW.trod at h
    rw [ht] at h
    match cs with
    | []=>simp at h
    | a :: b :: r=>simp at h
    | [a] =>
      refine ⟨a,rfl,?_⟩
      cases a <;> first | exact .inl rfl | exact .inr ⟨_,_,rfl⟩ | (simp at h)
theorem pow_list:Rows.laid_internal_strconv_uint64pow10 = (DataW.agg ((List.range 20).map fun i=>DataW.lit (.int .u64 ((10 ^ i:Nat):Int))):DataW Unit):=by kernel_rfl
theorem t_pow:(Tryz.prog.globals[1]?).map (·.type) = some 349:=by kernel_rfl
theorem t_syn:(Tryz.prog.globals[2]?).map (·.type) = some 292:=by kernel_rfl
theorem t_ran:(Tryz.prog.globals[3]?).map (·.type) = some 292:=by kernel_rfl
theorem z_max:(((begin Tryz.prog (fun _ _=>0) default).world).heap[0]?).bind Obj.row? = some (#[.int .i64 0],3):=by kernel_rfl
theorem c_max:Tryz.prog.cellTypes Tryz.prog.depth 3 = some [3]:=by kernel_rfl
theorem b_max:Tryz.prog.buildable 3 = true:=by kernel_rfl
theorem n_glob:0 < Tryz.prog.globals.size:=Nat.lt_of_lt_of_le (by omega) (Nat.le_of_ble_eq_true (by kernel_rfl:Nat.ble 1 Tryz.prog.globals.size = true))
theorem gok_of {W:World} (hs:W.ShapedOpen Tryz.prog) (h:laidMetH Tryz.prog laidT W):GOK W fun _=>False:=by
  rw [MakeChecks.laidMetH_plain _ _ _ hand_plain] at h
  obtain ⟨ps,⟨g0,t0,cs0,f0,p0,q0,hg0,ht0,hv0,hd0,⟨g1,t1,cs1,f1,p1,q1,hg1,ht1,hv1,hd1,⟨g2,t2,cs2,f2,p2,q2,hg2,ht2,hv2,hd2,⟨g3,t3,cs3,f3,p3,q3,hg3,ht3,hv3,hd3,⟨g4,t4,cs4,f4,p4,q4,hg4,ht4,hv4,hd4,_,_⟩,_⟩,_⟩,_⟩,_⟩,_,_⟩:=h
  obtain rfl:=Option.some.inj (g_pow.symm.trans hg2)
  obtain rfl:=Option.some.inj (g_ran.symm.trans hg3)
  obtain rfl:=Option.some.inj (g_syn.symm.trans hg4)
  obtain rfl:=Option.some.inj (t_pow.symm.trans ht2)
  obtain rfl:=Option.some.inj (t_ran.symm.trans ht3)
  obtain rfl:=Option.some.inj (t_syn.symm.trans ht4)
  obtain ⟨u2,z2,o2⟩:=zCO hg2 hv2
  obtain ⟨u3,z3,o3⟩:=zCO hg3 hv3
  obtain ⟨u4,z4,o4⟩:=zCO hg4 hv4
  obtain ⟨cm,om,szm,rowm⟩:=hs.1 0 _ _ n_glob z_max
  obtain ⟨ts,hts,_,hcell⟩:=rowm b_max
  rw [c_max] at hts
  cases hts
  have hlt:∀ {b:Nat} {x:Obj},W.heap[b]? = some x → b < W.heap.size:=fun h=>(Array.getElem?_eq_some_iff.1 h).1
  have cm1:cm.size = 1:=szm
  obtain ⟨vm,hvm⟩:∃ v,cm[0]? = some v:=⟨cm[0]'(by omega),Array.getElem?_eq_getElem (by omega)⟩
  obtain ⟨u,hu,hok⟩:=hcell 0 vm hvm
  obtain rfl:u = 3:=by simpa using hu.symm
  have hm:∃ m,vm = .int .i64 m:=by
    unfold Cell.ok at hok
    rw [underlying3] at hok
    cases vm <;> first | exact ⟨_,by rw [hok.1]⟩ | exact hok.elim
  obtain ⟨m,rfl⟩:=hm
  have hcm:cm = #[.int .i64 m]:=by
    apply Array.ext_getElem?
    intro i
    by_cases hi:i = 0
    · subst hi; rw [hvm]; rfl
    · rw [Array.getElem?_eq_none (by omega),Array.getElem?_eq_none (by simp; omega)]
  obtain ⟨v3,e3,k3⟩:=zD3 ⟨_,underlying292⟩ hd3
  obtain ⟨v4,e4,k4⟩:=zD3 ⟨_,underlying292⟩ hd4
  obtain ⟨xs,mm,_,hx1,hlen,hn,hel⟩:=DataW.trod_array underlying349 hd2
  rw [pow_list] at hx1
  simp only [Prod.mk.injEq,DataW.agg.injEq] at hx1
  have c213:Tryz.prog.cellsOf 336 = 1:=by kernel_rfl
  have c226:Tryz.prog.cellsOf 349 = 20:=by kernel_rfl
  rw [c226] at hlen
  have hcs2:cs2 = ((List.range 20).map fun i=>Value.int .u64 ((10 ^ i:Nat):Int)).toArray:=by
    apply Array.ext'
    apply List.ext_getElem?
    intro i
    by_cases hi:i < 20
    · have h1:=hel i hi
      obtain ⟨y,hy⟩:=zV (show i < xs.length by omega)
      rw [hy] at h1
      obtain ⟨k,e1,e2,_⟩:=DataW.trod_int underlying336 h1
      rw [c213,Nat.mul_one] at e1
      have h2:=congrArg (fun l=>l[i]?) hx1.1
      simp only [List.getElem?_map,hy,Option.map_some,List.getElem?_range hi] at h2
      rw [e2] at h2
      have hk:((10 ^ i:Nat):Int) = k:=by simpa using h2
      obtain ⟨c,hc⟩:=zV (show i < cs2.toList.length by omega)
      rw [List.drop_eq_getElem_cons (show i < cs2.toList.length by omega)] at e1
      simp only [List.take_succ_cons,List.take_zero,List.cons.injEq,and_true] at e1
      rw [List.getElem?_eq_getElem (show i < cs2.toList.length by omega),e1,List.getElem?_map,List.getElem?_range hi,← hk]
      rfl
    · rw [List.getElem?_eq_none (by omega),List.getElem?_eq_none (by simp; omega)]
  intro g hg
  simp only [globs,List.mem_cons,List.not_mem_nil,or_false] at hg
  rcases hg with rfl | rfl | rfl | rfl
  · exact ⟨hlt om,fun h=>h,_,om,m,_,_,by rw [hcm]⟩
  · exact ⟨hlt o2,fun h=>h,_,o2,_,_,by rw [hcs2]⟩
  · exact ⟨hlt o4,fun h=>h,_,o4,v4,_,_,by rw [Array.eq_one_of_toList e4],k4⟩
  · exact ⟨hlt o3,fun h=>h,_,o3,v3,_,_,by rw [Array.eq_one_of_toList e3],k3⟩
/-- A row of layer 2, out of a contract. -/
theorem tape_lifted {os : Os} {H : Type} {enc : TypeId × Value → H} {f : FuncId} {fn : Func} {s : ChangeSpec} {tb : TypeId} {ts : List TypeId} {Ss : List (D → Prop)} (started : os.Started) (noInit : Tryz.prog.inits.idxOf? f = none) (hfn : Tryz.prog.funcs[f]? = some fn)
    (witness:∃ (w:World) (tape:Tape) (i:Input),w.os = os ∧ (w.forCall tape i).Shaped Tryz.prog ∧ i.vars = [] ∧ Input.okWide Tryz.prog (w.forCall tape i) .any w.heap.size f i ∧
      ((s.pre enc Tryz.prog fn [] false (w.forCall tape i).memory i.args ∧ laidMetH Tryz.prog laidT (w.forCall tape i).memory) ∧ sizedMet enc Tryz.prog fn (OpenSpec.ofChange s) false (w.forCall tape i).memory i.args) ∧ Assume.holds {} Tryz.prog (lone (Frame.enter Tryz.prog f i.args .normal) [] (w.forCall tape i)))
    (hts:fn.params.toList = ts) (hrr:(ts.all fun t=>Tryz.prog.readableRec t && decide (t < Tryz.prog.types.size)) = true) (hres:fn.resultTypes = #[tb]) (htb:Tryz.prog.underlying tb = some .bool) (hvars:s.vars = []) (hvt:s.plain.varTypes Tryz.prog = [])
    (hs:∀ ds:List (DataW H),ds.length = ts.length → s.fn H ds = { results:=[.lit (.bool true)],args:=ds })
    (ho:OpensAll Tryz.prog ts Ss) (hp:∀ xs,Sat Ss xs → PureAt Tryz.prog f xs (.bool true)) :
    ReturnsInHanded {} Tryz.checked os f .any (fun w args=>(s.pre enc Tryz.prog fn [] false w args ∧ laidMetH Tryz.prog laidT w) ∧ sizedMet enc Tryz.prog fn (OpenSpec.ofChange s) false w args) (s.post enc Tryz.prog fn false true false false):=by
  refine returnsInHanded_of_calls (C:=Tryz.checked) own started noInit witness ?_
  intro w tape i _ hsh _ hok hpre _
  obtain ⟨_,_,_,fn',hfn',_,_,_,_,hval⟩:=hok
  have e:fn' = fn:=Option.some.inj (hfn'.symm.trans hfn)
  subst e
  obtain ⟨⟨⟨ds,gs,before,hw,hc⟩,hx⟩,hz⟩:=hpre
  have hw':=DataW.Whole.of_heap (w':=w.forCall tape i) (by rfl) hw
  have hL:laidMetH Tryz.prog laidT (w.forCall tape i):=hx.of_heap (by rfl)
  refine (law_contract laidOut hts hrr hres htb hvars hvt hs ho hp (w.forCall tape i) w.heap.size i.args ds gs before hval hw' (hz.weights hw) (gok_of hsh hL)).mono fun e W' ⟨v,he,hp⟩=>?_
  subst he
  exact ChangeSpec.post_blind hp
end Go.Proofs.YticlpkgpmmhemaaGreatDoor
