/-
  A part of the proof that contangolaw.TopTicked returns true: what the last text needs, and no more. No condition: no statement of the seat is proved here.
-/
import Derived.Test.YticlpkgpmmhemaaGreatDoorChecked
import Derived.Test.YticlpkgpmmhemaaGreatDoorTopTickedG
namespace Go.Proofs.YticlpkgpmmhemaaGreatDoor
open Go.Proofs.Tryz
open Go.RowKit
set_option maxRecDepth 20000
set_option linter.all false
def withinB (n lo hi:Int):Bool:=decide (lo ≤ n) && decide (n ≤ hi)
def letterB (b:UInt8):Bool:=decide (65 ≤ (b.toNat:Int)) && decide ((b.toNat:Int) ≤ 90)
def namedB (s:List UInt8):Bool:=withinB s.length 1 3 && s.all letterB
def spansB (lo hi a b:Int):Bool:=decide (a ≤ lo) && decide (lo ≤ hi) && decide (hi ≤ b)
theorem sz3:Sz Tryz.prog 3 1:=(by kernel_rfl:(Tryz.prog.info? 3).map (·.size) = some 1)
theorem sz65:Sz Tryz.prog 65 2:=(by kernel_rfl:(Tryz.prog.info? 65).map (·.size) = some 2)
theorem sz160:Sz Tryz.prog 160 3:=(by kernel_rfl:(Tryz.prog.info? 160).map (·.size) = some 3)
theorem zz (n lo hi:Int):PureAt Tryz.prog 98 [.int .i64 n,.int .i64 lo,.int .i64 hi] (.bool (withinB n lo hi)):=by
 refine Zp Tryz.func98 rfl fun Γ hn hl=>?_
 refine Zu ?_
 refine Zt 1 [] hn rfl ?_
 refine Zv (Zu ?_)
 refine Zt 9 [] hn rfl ?_
 refine Zv (zI ?_)
 exact za (.inl rfl) hl rfl (.tmp rfl)
theorem zAN (n lo hi:Int):PureAt Tryz.prog 38 [.int .i64 n,.int .i64 lo,.int .i64 hi] (.bool (withinB n lo hi)):=by
 refine Zp Tryz.func38 rfl fun Γ hn hl=>?_
 refine Zu ?_
 refine Zt 1 [] hn rfl ?_
 refine Zv (Zu ?_)
 refine Zt 9 [] hn rfl ?_
 refine Zv (zI ?_)
 exact za (.inl rfl) hl rfl (.tmp rfl)
theorem letter_ok (b:UInt8):PureAt Tryz.prog 207 [.int .u8 (b.toNat:Int)] (.bool (letterB b)):=by
 refine Zp Tryz.func207 rfl fun Γ hn hl=>?_
 refine Zu ?_
 refine Zt 1 [] hn rfl ?_
 refine Zv (Zu ?_)
 refine Zt 7 [] hn rfl ?_
 refine Zv (zI ?_)
 exact za (.inl rfl) hl rfl (.tmp rfl)
theorem IndexFunc_byte (l:List UInt8) (p:UInt8 → Bool) (g:FuncId) (fi ca:List D) (hp:∀ x ∈ l,PureAt Tryz.prog g (fi ++ [.int .u8 (x.toNat:Int)] ++ ca) (.bool (p x))):PureAt Tryz.prog 244 [bytesD l,.fn (.func g) fi ca] (.int .i64 (idxOf p l)):=by
 refine PureAt.of_awp' Tryz.func244 rfl (by kernel_rfl) rfl fun hlen Γ hn hl=>?_
 have hl5:=hlen.1; simp only [List.length_map] at hl5
 refine Zu (Zt 1 [] hn rfl (Zv (zD (Zu (Zt 3 [] hn rfl (Zv (zN (awp_loop_on (ι:={ i:Nat // i ≤ l.length ∧ (l.take i).all (fun x=>!p x) = true }) (fun i=>(8,true,.d (.int .i64 (i.1:Int))) :: anys [9,10,5,11,12,13,14,15,16,18]) (fun i=>[]) (fun i=>l.length - i.1) ⟨0,by simp⟩ ⟨.inl rfl,zF _⟩ trivial ?_))))))))
 rintro ⟨i,hi,hall⟩
 dsimp only
 refine Zu (Zt 1 [] hn rfl (Zv (zD (zG rfl (fun hb0=>?_) (fun hb0=>?_)))))
 ·
  try simp only [decide_eq_true_eq,decide_eq_false_iff_not,Bool.and_eq_true,Bool.or_eq_true,Bool.and_eq_false_iff,Bool.or_eq_false_iff,Bool.not_eq_true',Bool.not_eq_false',beq_iff_eq,bne_iff_ne,ne_eq,beq_eq_false_iff_ne,bne_eq_false_iff_eq,Int.not_lt,Int.not_le] at hb0
  have hlt:i < l.length:=by simpa using hb0
  obtain ⟨x,hx⟩:=zV hlt
  refine zJ (zA (zD (zN (Zu (Zt 2 [] hn rfl (Zv (Zu (Zt 3 [] hn rfl (Zi hn rfl rfl (mget hx) ?_)))))))))
  refine Zt 1 [] hn rfl (Zk hn rfl (hp x (List.mem_of_getElem? hx)) (Zv (zG rfl (fun hb1=>?_) (fun hb1=>?_))))
  ·
   try simp only [decide_eq_true_eq,decide_eq_false_iff_not,Bool.and_eq_true,Bool.or_eq_true,Bool.and_eq_false_iff,Bool.or_eq_false_iff,Bool.not_eq_true',Bool.not_eq_false',beq_iff_eq,bne_iff_ne,ne_eq,beq_eq_false_iff_ne,bne_eq_false_iff_eq,Int.not_lt,Int.not_le] at hb1
   refine Zu (Zt 2 [] hn rfl (Zv (zI (zL (zB (zB (zL (zB (ze (za (.inl rfl) hl rfl (.tmp rfl)) ?_)))))))))
   rw [kG hx hall (by simpa using hb1)]
  try simp only [decide_eq_true_eq,decide_eq_false_iff_not,Bool.and_eq_true,Bool.or_eq_true,Bool.and_eq_false_iff,Bool.or_eq_false_iff,Bool.not_eq_true',Bool.not_eq_false',beq_iff_eq,bne_iff_ne,ne_eq,beq_eq_false_iff_ne,bne_eq_false_iff_eq,Int.not_lt,Int.not_le] at hb1
  refine zJ (zM (zA (zH (Zs hn (zh rfl rfl rfl (r:=((i + 1:Nat):Int)) (i64w (by omega) (by omega))) ?_))))
  refine Zt 1 [] hn rfl (zQ ?_)
  exact Zr ⟨i + 1,by omega,yR hx hall (by simp [hb1])⟩ ⟨.inl rfl,zF _⟩ trivial (by simp only; omega)
 try simp only [decide_eq_true_eq,decide_eq_false_iff_not,Bool.and_eq_true,Bool.or_eq_true,Bool.and_eq_false_iff,Bool.or_eq_false_iff,Bool.not_eq_true',Bool.not_eq_false',beq_iff_eq,bne_iff_ne,ne_eq,beq_eq_false_iff_ne,bne_eq_false_iff_eq,Int.not_lt,Int.not_le] at hb0
 refine zX (zC (zC (zO (zA (Zu (Zt 1 [] hn rfl (Zv (zI (ze (za (.inl rfl) hl rfl (.tmp rfl)) ?_)))))))))
 have hi2:i = l.length:=by simp only [List.length_map] at hb0; omega
 subst hi2; rw [List.take_length] at hall; rw [kQ hall]
theorem ContainsFunc_byte (l:List UInt8) (p:UInt8 → Bool) (g:FuncId) (fi ca:List D) (hp:∀ x ∈ l,PureAt Tryz.prog g (fi ++ [.int .u8 (x.toNat:Int)] ++ ca) (.bool (p x))):PureAt Tryz.prog 230 [bytesD l,.fn (.func g) fi ca] (.bool (l.any p)):=by
 refine Zp Tryz.func230 rfl fun Γ hn hl=>?_
 refine Zu ?_
 refine Zt 1 [] hn rfl ?_
 refine Zv (Zu ?_)
 refine Zt 2 [] hn rfl ?_
 refine Zk hn rfl (IndexFunc_byte l p g fi ca hp) ?_
 refine Zt 2 [] hn rfl ?_
 refine Zv (zI ?_)
 refine ze (za (.inl rfl) hl rfl (.tmp rfl)) ?_
 rw [kT]
theorem all1_byte (x:UInt8) (b:Bool) (g:FuncId) (fi ca:List D) (hp:PureAt Tryz.prog g (fi ++ [.int .u8 (x.toNat:Int)] ++ ca) (.bool b)):PureAt Tryz.prog 231 [.int .u8 (x.toNat:Int),.ptr [.fn (.func g) fi ca]] (.bool (!b)):=by
 refine Zp Tryz.func231 rfl fun Γ hn hl=>?_
 refine Zu ?_
 refine Zt 1 [] hn rfl ?_
 refine Zv (Zu ?_)
 refine Zt 2 [] hn rfl ?_
 refine Zk hn rfl (hp) ?_
 refine Zt 2 [] hn rfl ?_
 refine Zv (zI ?_)
 exact za (.inl rfl) hl rfl (.tmp rfl)
theorem all_byte (l:List UInt8) (p:UInt8 → Bool) (g:FuncId) (fi ca:List D) (hp:∀ x ∈ l,PureAt Tryz.prog g (fi ++ [.int .u8 (x.toNat:Int)] ++ ca) (.bool (p x))):PureAt Tryz.prog 206 [bytesD l,.fn (.func g) fi ca] (.bool (l.all p)):=by
 refine Zp Tryz.func206 rfl fun Γ hn hl=>?_
 refine Zu ?_
 refine Zb 3 hn rfl fun b3=>?_
 refine Zt 1 [] hn rfl ?_
 refine Zv (Zu ?_)
 refine Zt 1 [] hn rfl ?_
 refine yd (kn (t:=3) 3 rfl (nb hn rfl) rfl rfl trivial) ?_
 refine Zs hn (yW rfl rfl rfl) ?_
 refine Zk hn rfl (ContainsFunc_byte l (fun x=>!p x) _ [] [.ptr [.fn (.func g) fi ca]] (fun x hx=>all1_byte x _ g fi ca (hp x hx))) ?_
 refine Zt 2 [] hn rfl ?_
 refine Zv (zI ?_)
 refine ze (za (.inl rfl) hl rfl (.tmp rfl)) ?_
 rw [List.all_eq_not_any_not]
theorem zAA (l:List Stk) (p:Stk → Bool) (g:FuncId) (fi ca:List D) (hp:∀ x ∈ l,PureAt Tryz.prog g (fi ++ [.agg (stkE x)] ++ ca) (.bool (p x))):PureAt Tryz.prog 174 [stksD l,.fn (.func g) fi ca] (.int .i64 (idxOf p l)):=by
 refine PureAt.of_awp' Tryz.func174 rfl (by kernel_rfl) rfl fun hlen Γ hn hl=>?_
 have hl5:=hlen.1; simp only [List.length_map] at hl5
 refine Zu (Zt 1 [] hn rfl (Zv (zD (Zu (Zt 3 [] hn rfl (Zv (zN (awp_loop_on (ι:={ i:Nat // i ≤ l.length ∧ (l.take i).all (fun x=>!p x) = true }) (fun i=>(8,true,.d (.int .i64 (i.1:Int))) :: anys [9,10,5,11,12,13,14,15,16,18]) (fun i=>[]) (fun i=>l.length - i.1) ⟨0,by simp⟩ ⟨.inl rfl,zF _⟩ trivial ?_))))))))
 rintro ⟨i,hi,hall⟩
 dsimp only
 refine Zu (Zt 1 [] hn rfl (Zv (zD (zG rfl (fun hb0=>?_) (fun hb0=>?_)))))
 ·
  try simp only [decide_eq_true_eq,decide_eq_false_iff_not,Bool.and_eq_true,Bool.or_eq_true,Bool.and_eq_false_iff,Bool.or_eq_false_iff,Bool.not_eq_true',Bool.not_eq_false',beq_iff_eq,bne_iff_ne,ne_eq,beq_eq_false_iff_ne,bne_eq_false_iff_eq,Int.not_lt,Int.not_le] at hb0
  have hlt:i < l.length:=by simpa using hb0
  obtain ⟨x,hx⟩:=zV hlt
  refine zJ (zA (zD (zN (Zu (Zt 2 [] hn rfl (Zv (Zu (Zt 3 [] hn rfl (Zi hn rfl rfl (mget hx) ?_)))))))))
  refine Zt 1 [] hn rfl (Zk hn rfl (hp x (List.mem_of_getElem? hx)) (Zv (zG rfl (fun hb1=>?_) (fun hb1=>?_))))
  ·
   try simp only [decide_eq_true_eq,decide_eq_false_iff_not,Bool.and_eq_true,Bool.or_eq_true,Bool.and_eq_false_iff,Bool.or_eq_false_iff,Bool.not_eq_true',Bool.not_eq_false',beq_iff_eq,bne_iff_ne,ne_eq,beq_eq_false_iff_ne,bne_eq_false_iff_eq,Int.not_lt,Int.not_le] at hb1
   refine Zu (Zt 2 [] hn rfl (Zv (zI (zL (zB (zB (zL (zB (ze (za (.inl rfl) hl rfl (.tmp rfl)) ?_)))))))))
   rw [kG hx hall (by simpa using hb1)]
  try simp only [decide_eq_true_eq,decide_eq_false_iff_not,Bool.and_eq_true,Bool.or_eq_true,Bool.and_eq_false_iff,Bool.or_eq_false_iff,Bool.not_eq_true',Bool.not_eq_false',beq_iff_eq,bne_iff_ne,ne_eq,beq_eq_false_iff_ne,bne_eq_false_iff_eq,Int.not_lt,Int.not_le] at hb1
  refine zJ (zM (zA (zH (Zs hn (zh rfl rfl rfl (r:=((i + 1:Nat):Int)) (i64w (by omega) (by omega))) ?_))))
  refine Zt 1 [] hn rfl (zQ ?_)
  exact Zr ⟨i + 1,by omega,yR hx hall (by simp [hb1])⟩ ⟨.inl rfl,zF _⟩ trivial (by simp only; omega)
 try simp only [decide_eq_true_eq,decide_eq_false_iff_not,Bool.and_eq_true,Bool.or_eq_true,Bool.and_eq_false_iff,Bool.or_eq_false_iff,Bool.not_eq_true',Bool.not_eq_false',beq_iff_eq,bne_iff_ne,ne_eq,beq_eq_false_iff_ne,bne_eq_false_iff_eq,Int.not_lt,Int.not_le] at hb0
 refine zX (zC (zC (zO (zA (Zu (Zt 1 [] hn rfl (Zv (zI (ze (za (.inl rfl) hl rfl (.tmp rfl)) ?_)))))))))
 have hi2:i = l.length:=by simp only [List.length_map] at hb0; omega
 subst hi2; rw [List.take_length] at hall; rw [kQ hall]
theorem ContainsFunc_stk (l:List Stk) (p:Stk → Bool) (g:FuncId) (fi ca:List D) (hp:∀ x ∈ l,PureAt Tryz.prog g (fi ++ [.agg (stkE x)] ++ ca) (.bool (p x))):PureAt Tryz.prog 168 [stksD l,.fn (.func g) fi ca] (.bool (l.any p)):=by
 refine Zp Tryz.func168 rfl fun Γ hn hl=>?_
 refine Zu ?_
 refine Zt 1 [] hn rfl ?_
 refine Zv (Zu ?_)
 refine Zt 2 [] hn rfl ?_
 refine Zk hn rfl (zAA l p g fi ca hp) ?_
 refine Zt 2 [] hn rfl ?_
 refine Zv (zI ?_)
 refine ze (za (.inl rfl) hl rfl (.tmp rfl)) ?_
 rw [kT]
theorem all1_stk (x:Stk) (b:Bool) (g:FuncId) (fi ca:List D) (hp:PureAt Tryz.prog g (fi ++ [.agg (stkE x)] ++ ca) (.bool b)):PureAt Tryz.prog 169 [.agg (stkE x),.ptr [.fn (.func g) fi ca]] (.bool (!b)):=by
 refine Zp Tryz.func169 rfl fun Γ hn hl=>?_
 refine Zu ?_
 refine Zb 2 hn rfl fun b2=>?_
 refine Zt 1 [] hn rfl ?_
 refine Zv (Zu ?_)
 refine Zt 2 [2] hn rfl ?_
 refine Zk hn rfl (hp) ?_
 refine Zt 2 [] hn rfl ?_
 refine Zv (zI ?_)
 exact za (.inl rfl) hl rfl (.tmp rfl)
theorem all_stk (l:List Stk) (p:Stk → Bool) (g:FuncId) (fi ca:List D) (hp:∀ x ∈ l,PureAt Tryz.prog g (fi ++ [.agg (stkE x)] ++ ca) (.bool (p x))):PureAt Tryz.prog 119 [stksD l,.fn (.func g) fi ca] (.bool (l.all p)):=by
 refine Zp Tryz.func119 rfl fun Γ hn hl=>?_
 refine Zu ?_
 refine Zb 3 hn rfl fun b3=>?_
 refine Zt 1 [] hn rfl ?_
 refine Zv (Zu ?_)
 refine Zt 1 [] hn rfl ?_
 refine yd (kn (t:=3) 3 rfl (nb hn rfl) rfl rfl trivial) ?_
 refine Zs hn (yW rfl rfl rfl) ?_
 refine Zk hn rfl (ContainsFunc_stk l (fun x=>!p x) _ [] [.ptr [.fn (.func g) fi ca]] (fun x hx=>all1_stk x _ g fi ca (hp x hx))) ?_
 refine Zt 2 [] hn rfl ?_
 refine Zv (zI ?_)
 refine ze (za (.inl rfl) hl rfl (.tmp rfl)) ?_
 rw [List.all_eq_not_any_not]
theorem zDQ (s:List UInt8) (h5:s.length ≤ 140737488355328):PureAt Tryz.prog 167 [strD s] (.bool (namedB s)):=by
 refine Zp Tryz.func167 rfl fun Γ hn hl=>?_
 refine Zu ?_
 refine Zt 1 [] hn rfl ?_
 refine Zv (Zu ?_)
 refine Zt 2 [] hn rfl ?_
 refine Zk hn rfl (zz _ _ _) ?_
 refine Zt 2 [] hn rfl ?_
 refine stepW (s_guardL [(7,_)] (zK rfl rfl rfl) rfl (nb hn rfl) (fun hc=>⟨⟨_,rfl,hc⟩,trivial⟩) (fun hc=>s_bytesOf rfl rfl rfl (nb hn rfl) rfl underlying9 underlying78 underlying5 (by simp only [maxLen]; omega))) fun _=>?_
 refine Zkg hn rfl (fun hc=>all_byte s letterB 207 [] [] (fun x _=>letter_ok x)) ?_
 refine Zt 2 [] hn rfl ?_
 refine Zv (zI ?_)
 exact za (.inl rfl) hl rfl (.tmp rfl)
theorem zCt (r:Int × Int) (a b:Int):PureAt Tryz.prog 148 [rngD r,.int .i64 a,.int .i64 b] (.bool (spansB r.1 r.2 a b)):=by
 refine Zp Tryz.func148 rfl fun Γ hn hl=>?_
 refine Zu ?_
 refine Zb 3 hn rfl fun b3=>?_
 refine Zt 1 [] hn rfl ?_
 refine Zv (Zu ?_)
 refine Zt 18 [3,3,3,3] hn rfl ?_
 refine Zv (zI ?_)
 exact za (.inl rfl) hl rfl (.tmp rfl)
theorem rhas_ok (r:Int × Int) (n:Int):PureAt Tryz.prog 90 [rngD r,.int .i64 n] (.bool (withinB n r.1 r.2)):=by
 refine Zp Tryz.func90 rfl fun Γ hn hl=>?_
 refine Zu ?_
 refine Zb 2 hn rfl fun b2=>?_
 refine Zt 1 [] hn rfl ?_
 refine Zv (Zu ?_)
 refine Zt 5 [2,2] hn rfl ?_
 refine Zk hn rfl (zz _ _ _) ?_
 refine Zt 1 [] hn rfl ?_
 refine Zv (zI ?_)
 exact za (.inl rfl) hl rfl (.tmp rfl)
theorem Span_ok (r:Int × Int) (a b:Int):PureAt Tryz.prog 92 [rngD r,.int .i64 a,.int .i64 b] (.bool (spansB r.1 r.2 a b)):=by
 refine Zp Tryz.func92 rfl fun Γ hn hl=>?_
 refine Zu ?_
 refine Zb 3 hn rfl fun b3=>?_
 refine Zt 1 [] hn rfl ?_
 refine Zv (Zu ?_)
 refine Zt 18 [3,3,3,3] hn rfl ?_
 refine Zv (zI ?_)
 exact za (.inl rfl) hl rfl (.tmp rfl)
theorem zEr (r:Int × Int):PureAt Tryz.prog 75 [rngD r] (rngD r):=by
 refine Zp Tryz.func75 rfl fun Γ hn hl=>?_
 refine Zu ?_
 refine Zb 1 hn rfl fun b1=>?_
 refine Zb 2 hn rfl fun b2=>?_
 refine Zv (Zu ?_)
 refine Zt 6 [1,1,2] hn rfl ?_
 refine Zv (zI ?_)
 exact za (.inl rfl) hl rfl (.cellA rfl (id:=2) rfl underlying65 rfl sz65 rfl rfl)
def eqN (s o:Stk):Bool:=o.name == s.name
def stockB (b:Brd) (s:Stk):Bool:=((b.stocks.countP (eqN s):Int) == 1) && namedB s.name && spansB s.lo s.hi 1 799
def limT (b:Brd):Bool:=decide (4 < (b.stocks.length:Int))
def argT (b:Brd):Bool:=((b.stocks.length:Int) == 0) || !(withinB b.jump 0 40) || !(withinB b.small 1 9) || !(b.stocks.all (stockB b))
def checkT (b:Brd):Int:=bif limT b then 3 else bif argT b then 1 else 0
/-- What the rows know of names' lengths. -/
def NamesOK (b:Brd):Prop:=∀ s ∈ b.stocks,s.name.length ≤ 140737488355328
theorem yC {l:List Stk} {p:Stk → Bool} {i:Nat} {x:Stk} (h:l[i]? = some x):(l.take (i + 1)).countP p = (l.take i).countP p + (if p x then 1 else 0):=by
  rw [List.take_add_one,h]
  simp [List.countP_append,List.countP_cons]
theorem countP_le_n {l:List Stk} {p:Stk → Bool} {i:Nat}:(l.take i).countP p ≤ i:=Nat.le_trans List.countP_le_length (by simp; omega)
/-- What Fault asks of a stock. -/
def okS (s:Stk):Bool:=namedB s.name && spansB s.lo s.hi 1 799
def FreshTo (l:List Stk) (i:Nat):Prop:=∀ j,j < i → ∀ s,l[j]? = some s → okS s = true ∧ ∀ k,k < j → ∀ o,l[k]? = some o → eqN s o = false
theorem count_one {l:List Stk} (h:l.Pairwise fun a b=>a.name ≠ b.name):∀ s ∈ l,l.countP (eqN s) = 1:=by
  induction l with
  | nil=>exact fun _ h=>by cases h
  | cons x l ih =>
    rw [List.pairwise_cons] at h
    intro s hs
    rw [List.countP_cons]
    rcases List.mem_cons.1 hs with rfl | hs
    · have : l.countP (eqN s) = 0 := by
        rw [List.countP_eq_zero]
        intro o ho
        have:=h.1 o ho
        simp [eqN]
        exact fun e=>this e.symm
      rw [this]; simp [eqN]
    · rw [ih h.2 s hs]
      have:=h.1 s hs
      simp [eqN,this]
theorem fresh_pair {l:List Stk} (h:FreshTo l l.length):l.Pairwise fun a b=>a.name ≠ b.name:=by
  rw [List.pairwise_iff_getElem]
  intro i j hi hj hij
  have:=(h j hj _ (List.getElem?_eq_getElem hj)).2 i hij _ (List.getElem?_eq_getElem hi)
  simpa [eqN] using this
theorem fresh_all {b:Brd} (h:FreshTo b.stocks b.stocks.length):b.stocks.all (stockB b) = true:=by
  rw [List.all_eq_true]
  intro s hs
  obtain ⟨j,hj⟩:=List.getElem?_of_mem hs
  have h1:=(h j (List.getElem?_eq_some_iff.1 hj).1 s hj).1
  have h2:=count_one (fresh_pair h) s hs
  unfold okS at h1
  rw [Bool.and_eq_true] at h1
  simp [stockB,h2,h1.1,h1.2]
theorem bad_ok {b:Brd} {i:Nat} {s:Stk} (h:b.stocks[i]? = some s) (hs:okS s = false):b.stocks.all (stockB b) = false:=by
  rw [List.all_eq_false]
  refine ⟨s,List.mem_of_getElem? h,?_⟩
  unfold okS at hs
  intro k
  unfold stockB at k
  simp only [Bool.and_eq_true] at k
  rw [k.1.2,k.2] at hs
  cases hs
theorem bad_twin {b:Brd} {i k:Nat} {s o:Stk} (h:b.stocks[i]? = some s) (ho:b.stocks[k]? = some o) (hk:k < i) (he:eqN s o = true):b.stocks.all (stockB b) = false:=by
  rw [List.all_eq_false]
  refine ⟨s,List.mem_of_getElem? h,?_⟩
  have h1:(b.stocks.take (k + 1)).countP (eqN s) = (b.stocks.take k).countP (eqN s) + 1:=by rw [yC ho,if_pos he]
  have h2:(b.stocks.take (i + 1)).countP (eqN s) = (b.stocks.take i).countP (eqN s) + 1:=by rw [yC h,if_pos (by simp [eqN])]
  have h3:(b.stocks.take (k + 1)).countP (eqN s) ≤ (b.stocks.take i).countP (eqN s):=by
    rw [show b.stocks.take (k + 1) = (b.stocks.take i).take (k + 1) by rw [List.take_take,Nat.min_eq_left (by omega)]]
    exact (List.take_sublist _ _).countP_le
  have h4:(b.stocks.take (i + 1)).countP (eqN s) ≤ b.stocks.countP (eqN s):=(List.take_sublist _ _).countP_le
  intro q
  unfold stockB at q
  simp only [Bool.and_eq_true,beq_iff_eq] at q
  omega
theorem ku {b:Brd} (h:limT b = false) (k:argT b = true):checkT b = 1:=by simp [checkT,h,k]
theorem zCr {b:Brd} (h:limT b = true):checkT b = 3:=by simp [checkT,h]
theorem zDV {b:Brd} (h:limT b = false) (k:argT b = false):checkT b = 0:=by simp [checkT,h,k]
theorem argT_all {b:Brd} (h:(((b.stocks.length:Int) == 0) || !(withinB b.jump 0 40) || !(withinB b.small 1 9)) = false):argT b = !(b.stocks.all (stockB b)):=by unfold argT; rw [h]; rfl
theorem zDO {b:Brd} (h:b.stocks.all (stockB b) = false):argT b = true:=by simp [argT,h]
def thinT (b:Brd) (n:Int):Bool:=(b.stocks.take 8).all (fun s=>decide ((s.name.length:Int) ≤ 9)) && (decide ((b.stocks.length:Int) ≤ 7) && decide (n ≤ 200))
theorem sz4:Sz Tryz.prog 4 1:=(by kernel_rfl:(Tryz.prog.info? 4).map (·.size) = some 1)
theorem sz9:Sz Tryz.prog 9 1:=(by kernel_rfl:(Tryz.prog.info? 9).map (·.size) = some 1)
theorem sz35:Sz Tryz.prog 35 1:=(by kernel_rfl:(Tryz.prog.info? 35).map (·.size) = some 1)
theorem sz37:Sz Tryz.prog 37 3:=(by kernel_rfl:(Tryz.prog.info? 37).map (·.size) = some 3)
theorem sz139:Sz Tryz.prog 139 8:=(by kernel_rfl:(Tryz.prog.info? 139).map (·.size) = some 8)
theorem sz98:Sz Tryz.prog 98 3:=(by kernel_rfl:(Tryz.prog.info? 98).map (·.size) = some 3)
theorem fmo:Tryz.prog.follows .mixedOrders = true:=by kernel_rfl
theorem stock_ok (b:Brd) (s:Stk) (h5:s.name.length ≤ 140737488355328):PureAt Tryz.prog 118 [brdD b,.agg (stkE s)] (.bool (stockB b s)):=by
 refine PureAt.of_awp' Tryz.func118 rfl (by kernel_rfl) rfl fun hlen Γ hn hl=>?_
 have hl5:=hlen.1 3 (b.stocks.map stkE) (by simp)
 simp only [List.length_map] at hl5
 refine Zu (Zb 2 hn rfl fun b2=>Zb 3 hn rfl fun b3=>Zt 1 [] hn rfl (Zv (Zu (Zt 1 [] hn rfl (Zv (zD (Zu (Zt 4 [2] hn rfl (Zv (zN (awp_loop_on (ι:={i:Nat // i ≤ b.stocks.length}) (fun x=>(11,true,.d (.int .i64 (x.1:Nat))) :: (5,true,.d (.int .i64 ((b.stocks.take x.1).countP (eqN s):Nat))) :: anys [12,13,14,7,15,16,17,18,19,20,21,22]) (fun x=>gones [7]) (fun x=>b.stocks.length - x.1) ⟨0,Nat.zero_le _⟩ ⟨.inl rfl,.inl rfl,zF _⟩ (zW _) ?_)))))))))))
 rintro ⟨i,hi⟩
 dsimp only
 refine Zu (Zt 1 [] hn rfl (Zv (zD (zG rfl (fun hb0=>?_) (fun hb0=>?_)))))
 have hlt:i < b.stocks.length:=by simp at hb0; omega
 obtain ⟨o,ho⟩:=zV hlt
 have hcl:=countP_le_n (l:=b.stocks) (p:=eqN s) (i:=i)
 refine zJ (zA (zD (zN (Zu (Zi (i:=i) hn rfl rfl (mget ho) ?_)))))
 refine Zt 1 [] hn rfl (Zb 7 hn rfl fun b7=>Zt 1 [7] hn rfl (Zv (Zu (Zt 4 [7,3] hn rfl (Zs hn (yt rfl rfl rfl) ?_)))))
 refine Zv (zb (e:=.normal) (ι:=Unit) (fun x=>(5,true,.d (.int .i64 ((b.stocks.take (i + 1)).countP (eqN s):Nat))) :: anys [20,21]) (fun x=>[]) (fun hJ1=>?_) ?_)
 refine zG rfl (fun hb1=>?_) (fun hb1=>?_)
 have hq5:eqN s o = true:=hb1
 refine zH (Zt 1 [] hn rfl (Zs hn (zh rfl rfl rfl (r:=(((b.stocks.take (i + 1)).countP (eqN s):Nat):Int)) (i64w (by omega) (by rw [yC ho,if_pos hq5]; omega))) ?_))
 refine Zt 1 [] hn rfl (zQ ?_)
 exact Zj hJ1 () ⟨.inl rfl,zF _⟩ trivial
 have hq6:eqN s o = false:=hb1
 have hq7:(b.stocks.take i).countP (eqN s) = (b.stocks.take (i + 1)).countP (eqN s):=by rw [yC ho,hq6]; simp
 refine zJ ?_
 exact Zj hJ1 () ⟨.inl (congrArg (fun n:Nat=>some (true,TV.d (.int .i64 (n:Int)))) hq7),zF _⟩ trivial
 rintro _
 refine zM (zA (zH (Zs hn (zh rfl rfl rfl (r:=((i + 1:Nat):Int)) (i64w (by omega) (by omega))) ?_)))
 refine Zt 1 [] hn rfl (zQ ?_)
 exact Zr ⟨i + 1,by omega⟩ ⟨.inl rfl,.inl rfl,zF _⟩ (zW _) (by simp only; omega)
 have hie:i = b.stocks.length:=by simp at hb0; omega
 subst hie
 rw [List.take_length]
 refine zX (zC (zC (zO (zA (Zu (Zt 5 [3] hn rfl (Zkg hn rfl (fun hc=>zDQ _ (by omega)) (Zt 4 [3] hn rfl (Zkg hn rfl (fun hc=>zCt (_,_) _ _) (Zt 2 [] hn rfl (Zv (zI ?_))))))))))))
 exact za (.inl rfl) hl rfl (.tmp rfl)
theorem ky (b:Brd) (hN:NamesOK b):PureAt Tryz.prog 76 [brdD b] (.int .i64 (checkT b)):=by
 refine Zp Tryz.func76 rfl fun Γ hn hl=>?_
 refine Zu (Zb 1 hn rfl fun b1=>Zt 1 [] hn rfl (Zv (Zu (Zt 1 [1] hn rfl (Zs hn (yW rfl rfl rfl) ?_)))))
 refine Zt 1 [] hn rfl (Zv (zD (zN (Zu (Zt 5 [1] hn rfl (Zv (zG rfl (fun hb0=>?_) (fun hb0=>?_))))))))
 refine Zu (Zt 1 [] hn rfl (Zv (zI (zL (zB (ze (za (.inl rfl) hl rfl (.tmp rfl)) ?_))))))
 rw [zCr (by simpa [limT] using hb0)]
 refine Zu (Zt 7 [1,1] hn rfl (Zkg hn rfl (fun hc=>zz _ _ _) (Zt 5 [1] hn rfl (Zkg hn rfl (fun hc=>zz _ _ _) (Zt 6 [1] hn rfl (Zkg hn rfl (fun hc=>all_stk b.stocks (stockB b) 118 [brdD b] [] (fun x hx=>stock_ok b x (hN x hx))) (Zt 3 [] hn rfl (Zv (zG rfl (fun hb1=>?_) (fun hb1=>?_))))))))))
 refine Zu (Zt 1 [] hn rfl (Zv (zI (zL (zB (ze (za (.inl rfl) hl rfl (.tmp rfl)) ?_))))))
 simp only [List.length_map] at hb0 hb1; rw [ku (by simpa [limT] using hb0) hb1]
 refine zJ (zM (zA (Zu (Zt 1 [] hn rfl (Zv (zI (ze (za (.inl rfl) hl rfl (.tmp rfl)) ?_)))))))
 simp only [List.length_map] at hb0 hb1; rw [zDV (by simpa [limT] using hb0) hb1]
theorem zB2 (s:List UInt8) (h5:s.length ≤ 140737488355328):PureAt Tryz.prog 91 [strD s] (.bool (namedB s)):=by
 refine Zp Tryz.func91 rfl fun Γ hn hl=>?_
 refine Zu (Zt 1 [] hn rfl (Zv (zD (Zu (Zt 1 [] hn rfl (Zv (zN (awp_loop_on (ι:={i:Nat // i ≤ s.length ∧ (s.take i).all letterB = true}) (fun x=>(3,true,.d (.int .i64 (x.1:Nat))) :: anys [4,5,6,7,10,11,12,13,14,15,16,17,18,19,8,9]) (fun x=>[]) (fun x=>s.length - x.1) ⟨0,by simp⟩ ⟨.inl rfl,zF _⟩ trivial ?_))))))))
 rintro ⟨i,hi,hall⟩
 dsimp only
 refine zD (Zu (Zt 4 [] hn rfl (Zv (zG rfl (fun hb0=>?_) (fun hb0=>?_)))))
 rw [zU] at hb0
 have hlt:i < s.length:=by simp at hb0; omega
 obtain ⟨x,hx⟩:=zV hlt
 refine zJ (zA (zD (zN (Zu (Zt 2 [] hn rfl (Zs hn (z8 (i:=i) rfl rfl rfl underlying9 rfl hx) ?_))))))
 refine Zt 4 [] hn rfl ?_
 refine Zh [(15,_),(16,_)] (zK rfl rfl rfl) hn (fun hc=>⟨⟨_,rfl,hc⟩,⟨_,rfl,hc⟩,trivial⟩) (fun hc=>z8 (i:=i) rfl rfl rfl underlying9 rfl hx) ?_
 refine Zt 2 [] hn rfl (Zv (zG rfl (fun hb1=>?_) (fun hb1=>?_)))
 have hl6:letterB x = false:=by unfold letterB; simp at hb1 ⊢; omega
 refine Zu (Zt 1 [] hn rfl (Zv (zI (zL (zB (zB (zL (zB (ze (za (.inl rfl) hl rfl (.tmp rfl)) ?_)))))))))
 rw [show namedB s = false from by unfold namedB; rw [List.all_eq_false.2 ⟨x,List.mem_of_getElem? hx,by simp [hl6]⟩]; simp]
 have hl6:letterB x = true:=by unfold letterB; simp at hb1 ⊢; omega
 refine zJ (zM (zA (zH (Zt 1 [] hn rfl (Zs hn (zh rfl rfl rfl (r:=((i + 1:Nat):Int)) (i64w (by omega) (by omega))) ?_)))))
 refine Zt 1 [] hn rfl (zQ ?_)
 exact Zr ⟨i + 1,by omega,yR hx hall hl6⟩ ⟨.inl rfl,zF _⟩ trivial (by simp only; omega)
 rw [zU] at hb0
 have hie:i = s.length:=by simp at hb0; omega
 subst hie
 rw [List.take_length] at hall
 refine zX (zC (zC (zO (zA (Zu (Zt 2 [] hn rfl (Zk hn rfl (zAN _ _ _) (Zt 1 [] hn rfl (Zv (zI (ze (za (.inl rfl) hl rfl (.tmp rfl)) ?_)))))))))))
 rw [zU]; unfold namedB; rw [hall]; simp
theorem Fault_ok (b:Brd) (hN:NamesOK b):PureAt Tryz.prog 32 [brdD b] (.int .i64 (checkT b)):=by
 refine PureAt.of_awp' Tryz.func32 rfl (by kernel_rfl) rfl fun hlen Γ hn hl=>?_
 have hl5:=hlen.1 3 (b.stocks.map stkE) (by simp)
 simp only [List.length_map] at hl5
 refine Zu (Zb 1 hn rfl fun b1=>Zt 1 [] hn rfl (Zv (zD (Zu (Zt 4 [1] hn rfl (Zv (zG rfl (fun hb0=>?_) (fun hb0=>?_))))))))
 have hlim:limT b = true:=by simpa [limT] using hb0
 refine Zu (Zt 1 [] hn rfl (Zv (zI (zB (ze (za (.inl rfl) hl rfl (.tmp rfl)) ?_)))))
 rw [zCr hlim]
 have hlim:limT b = false:=by simpa [limT] using hb0
 refine zJ (zA (zD (Zu (Zt 7 [1,1] hn rfl (Zkg hn rfl (fun hc=>zAN _ _ _) (Zt 5 [1] hn rfl (Zkg hn rfl (fun hc=>zAN _ _ _) (Zt 2 [] hn rfl (Zv (zG rfl (fun hb1=>?_) (fun hb1=>?_)))))))))))
 simp only [List.length_map] at hb1
 refine Zu (Zt 1 [] hn rfl (Zv (zI (zB (ze (za (.inl rfl) hl rfl (.tmp rfl)) ?_)))))
 rw [ku hlim (by unfold argT; rw [hb1]; rfl)]
 simp only [List.length_map] at hb1
 have harg:=argT_all hb1
 refine zJ (zA (zD (Zu (Zt 1 [] hn rfl (Zv (zN (awp_loop_on (ι:={i:Nat // i ≤ b.stocks.length ∧ FreshTo b.stocks i}) (fun x=>(3,true,.d (.int .i64 (x.1:Nat))) :: anys [26,27,28,29,30,33,34,35,36,37,4,38,39,40,41,42,43,44,45,46,47,5,48,49,50,53,54,55,56,57,58,59,60,61,51,52,31,32]) (fun x=>gones [4]) (fun x=>b.stocks.length - x.1) ⟨0,Nat.zero_le _,fun j hj=>by omega⟩ ⟨.inl rfl,zF _⟩ (zW _) ?_)))))))
 rintro ⟨i,hi,hfr⟩
 dsimp only
 refine zD (Zu (Zt 5 [1] hn rfl (Zv (zG rfl (fun hb2=>?_) (fun hb2=>?_)))))
 have hlt:i < b.stocks.length:=by simp at hb2; omega
 obtain ⟨s,hs⟩:=zV hlt
 have hsn:=hN s (List.mem_of_getElem? hs)
 refine zJ (zA (zD (zN (Zu (Zt 3 [1] hn rfl (Zi (i:=i) hn rfl rfl (mget hs) ?_))))))
 refine Zt 1 [] hn rfl (Zb 4 hn rfl fun b4=>Zt 1 [4] hn rfl (Zv (zD (Zu (Zt 2 [4] hn rfl (Zk hn rfl (zB2 _ (by omega)) (Zt 4 [4] hn rfl (Zkg hn rfl (fun hc=>Span_ok (_,_) _ _) (Zt 2 [] hn rfl (Zv (zG rfl (fun hb3=>?_) (fun hb3=>?_))))))))))))
 have hbad:okS s = false:=by (unfold okS; simp at hb3; rcases hb3 with h | h <;> (rw [h]; simp))
 refine Zu (Zt 1 [] hn rfl (Zv (zI (zB (zL (zB (zB (zL (zB (ze (za (.inl rfl) hl rfl (.tmp rfl)) ?_))))))))))
 rw [ku hlim (zDO (bad_ok hs hbad))]
 have hok:okS s = true:=by unfold okS; simp at hb3 ⊢; exact hb3
 refine zJ (zA (Zu (Zt 1 [] hn rfl (Zv (zN (awp_loop_on (ι:={k:Nat // k ≤ i ∧ ∀ q,q < k → ∀ o,b.stocks[q]? = some o → eqN s o = false}) (fun x=>(5,true,.d (.int .i64 (x.1:Nat))) :: anys [48,49,50,53,54,55,56,57,58,59,60,61,51,52]) (fun x=>[]) (fun x=>i - x.1) ⟨0,Nat.zero_le _,fun q hq=>by omega⟩ ⟨.inl rfl,zF _⟩ trivial ?_))))))
 rintro ⟨k,hk5,hk6⟩
 dsimp only
 refine zD (Zu (Zt 3 [] hn rfl (Zv (zG rfl (fun hb4=>?_) (fun hb4=>?_)))))
 have hklt:k < i:=by simpa using hb4
 obtain ⟨o,ho⟩:=zV (show k < b.stocks.length by omega)
 refine zJ (zA (zD (zN (zD (zo (W:=fun b=>b ≠ b1 ∧ b ≠ b4) fmo ?_)))))
 refine Zy [0,1,2] [1] hn rfl (Zd 3 rfl hn (q_index (i:=k) rfl rfl rfl underlying22 sz98 rfl (mget ho)) ?_)
 refine Zy [4,5,6,7] [4] hn rfl (Zd 8 rfl hn (yt rfl rfl rfl) ?_)
 refine zE (zl (by kernel_rfl) ?_)
 refine zA (zG rfl (fun hb5=>?_) (fun hb5=>?_))
 have htw:=bad_twin hs ho hklt hb5
 refine Zu (Zt 1 [] hn rfl (Zv (zI (zL (zB (zB (zL (zL (zB (zB (zL (zB (ze (za (.inl rfl) hl rfl (.tmp rfl)) ?_)))))))))))))
 rw [ku hlim (zDO htw)]
 have hne:eqN s o = false:=hb5
 refine zJ (zM (zA (zH (Zt 1 [] hn rfl (Zs hn (zh rfl rfl rfl (r:=((k + 1:Nat):Int)) (i64w (by omega) (by omega))) ?_)))))
 refine Zt 1 [] hn rfl (zQ ?_)
 exact Zr ⟨k + 1,by omega,fun q hq o' ho'=>by (by_cases e:q = k; (subst e; rw [ho] at ho'; cases ho'; exact hne); exact hk6 q (by omega) o' ho')⟩ ⟨.inl rfl,zF _⟩ trivial (by simp only; omega)
 have hke:i = k:=by simp at hb4; omega
 subst hke
 refine zX (zC (zC (zO (zM (zA (zH (Zt 1 [] hn rfl (Zs hn (zh rfl rfl rfl (r:=((i + 1:Nat):Int)) (i64w (by omega) (by omega))) ?_))))))))
 refine Zt 1 [] hn rfl (zQ ?_)
 exact Zr ⟨i + 1,by omega,fun j hj s' hs'=>by (by_cases e:j = i; (subst e; rw [hs] at hs'; cases hs'; exact ⟨hok,fun k hk o ho=>hk6 k (by omega) o ho⟩); exact hfr j (by omega) s' hs')⟩ ⟨.inl rfl,zF _⟩ (zW _) (by simp only; omega)
 have hie:i = b.stocks.length:=by simp at hb2; omega
 subst hie
 have hall:=fresh_all hfr
 refine zX (zC (zC (zO (zA (Zu (Zt 1 [] hn rfl (Zv (zI (ze (za (.inl rfl) hl rfl (.tmp rfl)) ?_)))))))))
 rw [zDV hlim (by rw [harg,hall]; rfl)]
end Go.Proofs.YticlpkgpmmhemaaGreatDoor
namespace Go.Proofs.YticlpkgpmmhemaaGreatDoor
open Go.Proofs.Tryz
open Go.ChangeShapes Go.WideShapes Go.ChangeAt Go.RowKit
set_option linter.all false
set_option maxRecDepth 100000
def I64 (n:Int):Prop:=(Lit.int .i64 n).wf = true
theorem I64.bd {n:Int} (h:I64 n):-9223372036854775808 ≤ n ∧ n ≤ 9223372036854775807:=by
  have:(Lit.int .i64 n).wf = true:=h
  simpa [Lit.wf,IntKind.min,IntKind.max,IntKind.signed,IntKind.bits] using this
theorem zAU {α:Type} {f:α → List D} {g:List D → α} {Q:α → Prop}:∀ {es:List (List D)},(∀ c ∈ es,c = f (g c) ∧ Q (g c)) → ∃ l:List α,es = l.map f ∧ ∀ x ∈ l,Q x
  | [],_=>⟨[],rfl,fun _ h=>by cases h⟩
  | c :: es,h=>by
    obtain ⟨l,e,hq⟩:=zAU (es:=es) fun x hx=>h x (List.mem_cons_of_mem _ hx)
    obtain ⟨h1,h2⟩:=h c List.mem_cons_self
    exact ⟨g c :: l,by rw [List.map_cons,← h1,← e],fun x hx=>by
      rcases List.mem_cons.1 hx with rfl | hx
      · exact h2
      · exact hq x hx⟩
theorem strD_of (s:ByteArray):strD s.data.toList = .str s:=by simp [strD]
abbrev SI:List D → Prop:=fun ds=>∃ n,ds = [.int .i64 n] ∧ (Lit.int .i64 n).wf = true
abbrev SB:List D → Prop:=fun ds=>∃ s:ByteArray,ds = [.str s] ∧ s.data.toList.length ≤ 140737488351232
theorem opens_string' {P:Program} {t:TypeId} (ht:P.underlying t = some .string):Opens P t SB:=by
  intro H enc w base spare held fuel cs x h hz
  obtain ⟨s,rfl,hx,hs⟩:=DataW.trod_string ht h
  refine ⟨_,⟨s,rfl,?_⟩,⟨_,_,rfl,rfl,rfl⟩,fun v hv=>by simp at hv; subst hv; rfl⟩
  rw [hx] at hz
  simp only [DataW.weights,List.all_cons,List.all_nil,Bool.and_true,decide_eq_true_eq] at hz
  simpa [reachBytes] using hz
theorem oI:Opens Tryz.prog 3 SI:=zAj underlying3
theorem oS:Opens Tryz.prog 9 SB:=opens_string' underlying9
theorem oRng:Opens Tryz.prog 59 (Parts [SI,SI]):=yQ (Ss:=[SI,SI]) underlying59 ⟨rfl,oI,by kernel_rfl,oI,trivial⟩ (by kernel_rfl)
theorem oStk:Opens Tryz.prog 98 (Parts [SB,Parts [SI,SI]]):=yQ (Ss:=[SB,Parts [SI,SI]]) underlying98 ⟨rfl,oS,by kernel_rfl,oRng,trivial⟩ (by kernel_rfl)
abbrev SSl (sz e:Nat) (S:List D → Prop):List D → Prop:=fun ds=>∃ es:List (List D),ds = [.slice sz es] ∧ es.length * Tryz.prog.bytesOf e ≤ reachBytes ∧ ∀ c ∈ es,S c
theorem oStks:Opens Tryz.prog 22 (SSl 3 98 (Parts [SB,Parts [SI,SI]])):=kW (sz:=3) underlying22 (by kernel_rfl) (by omega) (fun ds h=>by
  obtain ⟨_,_,rfl,⟨_,rfl,_⟩,_,_,rfl,⟨_,_,rfl,⟨_,rfl,_⟩,_,_,rfl,⟨_,rfl,_⟩,rfl⟩,rfl⟩:=h
  rfl) oStk
def stkOf (ds:List D):Stk:=match ds with
  | [.str s,.int _ a,.int _ b]=>⟨s.data.toList,a,b⟩
  | _=>⟨[],0,0⟩
def intOf1 (ds:List D):Int:=match ds with
  | [.int _ a]=>a
  | _=>0
def StkWf (s:Stk):Prop:=s.name.length ≤ 140737488351232 ∧ I64 s.lo ∧ I64 s.hi
def BrdWf (b:Brd):Prop:=NamesOK b ∧ (∀ s ∈ b.stocks,StkWf s) ∧ I64 b.jump ∧ I64 b.small
def SBrd (d:D):Prop:=∃ b:Brd,d = brdD b ∧ BrdWf b
theorem pBrd:OpensP Tryz.prog 24 SBrd:=by
  intro H enc w r b0 base spare held v d p hv h hz
  obtain ⟨x,⟨ds,rfl,hx⟩,hr⟩:=k8 underlying24 (yQ (Ss:=[SSl 3 98 (Parts [SB,Parts [SI,SI]]),SI,SI]) underlying24 ⟨rfl,oStks,by kernel_rfl,oI,by kernel_rfl,oI,trivial⟩ (by kernel_rfl)) enc w r b0 base spare held v d p hv h hz
  refine ⟨_,?_,hr⟩
  obtain ⟨_,_,rfl,⟨st,rfl,z1,hst⟩,_,_,rfl,⟨j,rfl,hj⟩,_,_,rfl,⟨sm,rfl,hsm⟩,rfl⟩:=hx
  obtain ⟨l,rfl,q1⟩:=zAU (f:=stkE) (g:=stkOf) (Q:=StkWf) fun c hc=>by
    obtain ⟨_,_,rfl,⟨s,rfl,a⟩,_,_,rfl,⟨_,_,rfl,⟨_,rfl,b⟩,_,_,rfl,⟨_,rfl,c⟩,rfl⟩,rfl⟩:=hst c hc
    refine ⟨?_,a,b,c⟩
    show [D.str s,_,_] = [strD s.data.toList,_,_]
    rw [strD_of]
    rfl
  exact ⟨⟨l,j,sm⟩,rfl,fun s hs=>Nat.le_trans (q1 s hs).1 (by omega),q1,hj,hsm⟩
def SU8 (d:D):Prop:=∃ n:Int,d = .int .u8 n ∧ 0 ≤ n ∧ n ≤ 255
theorem pU8:OpensP Tryz.prog 5 SU8:=zBd (fun hv=>by obtain ⟨n,rfl⟩:=okWide_int underlying5 hv; rfl) (zAj underlying5) fun _ ⟨n,e,hw⟩=>⟨_,e,n,rfl,by simpa [Lit.wf,IntKind.min,IntKind.max,IntKind.signed,IntKind.bits] using hw⟩
end Go.Proofs.YticlpkgpmmhemaaGreatDoor
namespace Go.Proofs.YticlpkgpmmhemaaGreatDoor
open Go.RowKit
set_option maxRecDepth 20000
set_option linter.all false
theorem zk {n:Nat} {ds:List D} {zs:List TV} (hz:zs.length = n) (hd:ds.length = n):fillTV (fun i=>some (i * n,n)) zs [(0,.d (.agg ds))] = some (ds.map .d):=by
  have h1:Nat.beq n n = true:=Nat.beq_refl n
  have h2:Nat.ble n n = true:=by simp
  simp only [fillTV,TV.cells,List.length_map,hd,hz,TV.flat,Nat.zero_mul,Nat.zero_add,h1,h2]
  rw [List.drop_of_length_le (by omega)]
  simp
theorem zv:∀ (l:List D),allD (l.map .d) = some l
  | []=>rfl
  | x :: l=>by simp only [List.map_cons,allD,zv l]
theorem zq {n:Nat} {ds:List D} (hd:ds.length = n):Nat.beq ds.length (1 * n) = true:=by rw [hd,Nat.one_mul]; exact Nat.beq_refl n
theorem zg {n:Nat} {ds:List D} (hd:ds.length = n):chunk n 1 ds = [ds]:=by
  simp only [chunk]
  rw [List.take_of_length_le (by omega)]
theorem modN {a b:Nat} (hb:0 < b):((a:Int).tmod (b:Int)) = ((a % b:Nat):Int):=by
  rw [Int.tmod_eq_emod_of_nonneg (by omega)]; rfl
theorem quoN {a b:Nat} (ha:a ≤ 9223372036854775807) (hb:0 < b):IntKind.i64.wrap ((a:Int).tdiv (b:Int)) = ((a / b:Nat):Int):=by
  rw [Int.tdiv_eq_ediv_of_nonneg (by omega)]
  have:((a:Int) / (b:Int)) = ((a / b:Nat):Int):=by simp
  rw [this]
  have h:=Nat.div_le_self a b
  generalize a / b = c at *
  exact i64w (by omega) rfl
theorem no_blks {b:Nat} (h:blks [] b) {p:Prop}:p:=by
  obtain ⟨i,r,h,_⟩:=h
  simp [lk] at h
theorem addK {l:List Stk} {x:Stk}:l.map stkE ++ [stkE x] = (l ++ [x]).map stkE:=by simp
theorem addSal {l:List Sal} {x:Sal}:l.map salE ++ [salE x] = (l ++ [x]).map salE:=by simp
theorem zCE {α:Type} {l:List α} {i:Nat} {x:α} (h:l[i]? = some x):l.take i ++ [x] = l.take (i + 1):=by rw [List.take_add_one,h]; rfl
theorem thin_all {l:List Stk} {i:Nat} (h8:i = l.length ∨ 8 ≤ i) (ha:∀ j,j < i → ∀ s,l[j]? = some s → (decide ((s.name.length:Int) ≤ 9)) = true):(l.take 8).all (fun s=>decide ((s.name.length:Int) ≤ 9)) = true:=by
  rw [List.all_eq_true]
  intro s hs
  obtain ⟨j,hj⟩:=List.getElem?_of_mem hs
  rw [List.getElem?_take] at hj
  split at hj
  · have:=(List.getElem?_eq_some_iff.1 hj).1
    exact ha j (by omega) s hj
  · cases hj
theorem Thin_ok (b:Brd) (s:List UInt8) (hN:NamesOK b):PureAt Tryz.prog 31 [brdD b,strD s] (.bool (thinT b s.length)):=by
 refine PureAt.of_awp' Tryz.func31 rfl (by kernel_rfl) rfl fun hlen Γ hn hl=>?_
 have hl5:=hlen.1 3 (b.stocks.map stkE) (by simp)
 simp only [List.length_map] at hl5
 refine Zu (Zb 2 hn rfl fun b2=>Zt 1 [] hn rfl (Zv (zD (Zu (Zt 1 [] hn rfl (Zv (zN (awp_loop_on (ι:={i:Nat // i ≤ b.stocks.length ∧ i ≤ 8 ∧ ∀ j,j < i → ∀ s,b.stocks[j]? = some s → (decide ((s.name.length:Int) ≤ 9)) = true}) (fun x=>(5,true,.d (.int .i64 (x.1:Nat))) :: anys [6,7,8,9,10,11,12,13,14,17,18,19,20,21,22,23,24,15,16]) (fun x=>[]) (fun x=>b.stocks.length - x.1) ⟨0,Nat.zero_le _,Nat.zero_le _,fun j hj=>by omega⟩ ⟨.inl rfl,zF _⟩ trivial ?_))))))))
 rintro ⟨i,hi,hi8,hall⟩
 dsimp only
 refine zD (Zu (Zt 9 [2] hn rfl (Zv (zG rfl (fun hb0=>?_) (fun hb0=>?_)))))
 have hlt:i < b.stocks.length ∧ i < 8:=by simp at hb0; omega
 obtain ⟨x,hx⟩:=zV hlt.1
 refine zJ (zA (zD (zN (Zu (Zt 3 [2] hn rfl (Zi (i:=i) hn rfl rfl (mget hx) ?_))))))
 refine Zt 4 [] hn rfl (Zv (zG rfl (fun hb1=>?_) (fun hb1=>?_)))
 rw [zU] at hb1
 have hbad:(b.stocks.take 8).all (fun s=>decide ((s.name.length:Int) ≤ 9)) = false:=List.all_eq_false.2 ⟨x,List.mem_of_getElem? (i:=i) (by rw [List.getElem?_take,if_pos (by omega)]; exact hx),by simp at hb1 ⊢; omega⟩
 refine Zu (Zt 1 [] hn rfl (Zv (zI (zL (zB (zB (zL (zB (ze (za (.inl rfl) hl rfl (.tmp rfl)) ?_)))))))))
 rw [show thinT b s.length = false from by unfold thinT; rw [hbad]; rfl]
 rw [zU] at hb1
 have hok:(decide ((x.name.length:Int) ≤ 9)) = true:=by simp at hb1 ⊢; omega
 refine zJ (zM (zA (zH (Zt 1 [] hn rfl (Zs hn (zh rfl rfl rfl (r:=((i + 1:Nat):Int)) (i64w (by omega) (by omega))) ?_)))))
 refine Zt 1 [] hn rfl (zQ ?_)
 exact Zr ⟨i + 1,by omega,by omega,fun j hj s' hs'=>by (by_cases e:j = i; (subst e; rw [hx] at hs'; cases hs'; exact hok); exact hall j (by omega) s' hs')⟩ ⟨.inl rfl,zF _⟩ trivial (by simp only; omega)
 have hie:i = b.stocks.length ∨ 8 ≤ i:=by simp at hb0; omega
 have hth:=thin_all hie hall
 refine zX (zC (zC (zO (zA (Zu (Zt 10 [2] hn rfl (Zv (zI (ze (za (.inl rfl) hl rfl (.tmp rfl)) ?_)))))))))
 rw [zU]; unfold thinT; rw [hth]; simp
end Go.Proofs.YticlpkgpmmhemaaGreatDoor
namespace Go.Proofs.YticlpkgpmmhemaaGreatDoor
open Go.Proofs.Tryz
open Go.RowKit
set_option maxRecDepth 20000
set_option linter.all false
theorem sz96:Sz Tryz.prog 96 4:=(by kernel_rfl:(Tryz.prog.info? 96).map (·.size) = some 4)
theorem sz224:Sz Tryz.prog 224 4:=(by kernel_rfl:(Tryz.prog.info? 224).map (·.size) = some 4)
theorem elt35:ElT Tryz.prog 35 160 3 32:=kP underlying35 (z:=(.agg #[(.string ⟨#[]⟩),(.int .i64 0),(.int .i64 0)])) (by kernel_rfl) rfl (by decide)
theorem elt101:ElT Tryz.prog 101 224 4 32:=kP underlying101 (z:=(.agg #[(.int .i64 0),(.int .i64 0),(.int .i64 0),(.int .i64 0)])) (by kernel_rfl) rfl (by decide)
theorem zAg (b:Brd) (h5:b.stocks.length ≤ 1000):PureAt Tryz.prog 19 [brdD b] (brdD b):=by
 refine Zp Tryz.func19 rfl fun Γ hn hl=>?_
 refine Zu (Zb 1 hn rfl fun b1=>Zb 2 hn rfl fun b2=>Zv (Zu (Zt 5 [1,1] hn rfl (Zb 3 hn rfl fun b3=>Zt 1 [3] hn rfl (Zv (zD (zD (yH (gh_nilcell (id:=3) (k:=0) 1030 160 3 rfl rfl) ?_))))))))
 refine zH (Zt 1 [] hn rfl (Zv (zN (awp_loop_on (ι:={x:Nat × Value // x.1 ≤ b.stocks.length}) (fun x=>(4,true,.d (.int .i64 (x.1.1:Nat))) :: anys [10,11,12,13,14,17,18,19,20,21,22,23,24,25,26,27,28,29,30,31,32,33,34,35,15,16]) (fun x=>[(3,.box b3 37 [.val x.1.2,.d (.int .i64 b.jump),.d (.int .i64 b.small)]),(1030,.row x.1.2 160 3 ((b.stocks.take x.1.1).map stkE))]) (fun x=>b.stocks.length - x.1.1) ⟨(0,_),Nat.zero_le _⟩ ⟨.inl rfl,zF _⟩ ⟨.inl rfl,.inl rfl,trivial⟩ ?_))))
 rintro ⟨⟨i,vS⟩,hi⟩
 dsimp only
 refine zD (Zu (Zt 5 [1] hn rfl (Zv (zG rfl (fun hb0=>?_) (fun hb0=>?_)))))
 have hlt:i < b.stocks.length:=by simp at hb0; omega
 obtain ⟨s,hs⟩:=zV hlt
 refine zJ (zA (zD (zN (zb (e:=.normal) (ι:=Value) (fun x=>anys [17,18,19,20,21,22,23,24,25,26,27,28,29,30,31,32,33,34,35]) (fun x=>[(3,.box b3 37 [.val x,.d (.int .i64 b.jump),.d (.int .i64 b.small)]),(1030,.row x 160 3 ((b.stocks.take (i + 1)).map stkE))]) (fun hJ1=>?_) ?_))))
 ·
  refine zo (W:=fun b=>b ≠ b1) fmo ?_
  refine Zy [0,2,3,4] [1] hn rfl (Zd 5 rfl hn (q_index (i:=i) rfl rfl rfl underlying22 sz98 rfl (mget hs)) ?_)
  refine Zy [6,7,8,9,10] [1] hn rfl (Zd 11 rfl hn (q_index (i:=i) rfl rfl rfl underlying22 sz98 rfl (mget hs)) ?_)
  refine Zy [12,13] [] hn rfl (zE ?_)
  refine zm 1 [14] (by kernel_rfl) ⟨?_,?_,trivial⟩
  refine br rfl (Zw hn (zY rfl rfl (id:=3) rfl underlying35 rfl rfl sees0)) fun _=>?_
  refine d2_of_d1 (zE (Ze1 14 rfl hn rfl (zEr (s.lo,s.hi)) (d2_of_d1 (Zy [15] [] hn rfl (zE ?_)))))
  refine Zo 16 rfl (zP rfl rfl rfl (nb hn rfl) underlying35 sz160 zr160 rfl rfl rfl (show _ = [.d (.str ⟨#[]⟩),.d (.int .i64 0),.d (.int .i64 0)] from by kernel_rfl) (by kernel_rfl) rfl (zk (by kernel_rfl) rfl) (zv _) (zq rfl) (zg rfl)) fun _=>?_
  rotate_left
  focus
   refine br rfl (Zc hn (zEr (s.lo,s.hi))) fun _=>?_
   refine d2_of_d1 (Zy [15] [] hn rfl (zE ?_))
   refine zm 1 [16] (by kernel_rfl) ⟨?_,?_,trivial⟩
   refine br rfl (Zw hn (zY rfl rfl (id:=3) rfl underlying35 rfl rfl sees0)) fun _=>?_
   refine d2_of_d1 (zE ?_)
   refine Zo 16 rfl (zP rfl rfl rfl (nb hn rfl) underlying35 sz160 zr160 rfl rfl rfl (show _ = [.d (.str ⟨#[]⟩),.d (.int .i64 0),.d (.int .i64 0)] from by kernel_rfl) (by kernel_rfl) rfl (zk (by kernel_rfl) rfl) (zv _) (zq rfl) (zg rfl)) fun _=>?_
   rotate_left
   refine br rfl (zP rfl rfl rfl (nb hn rfl) underlying35 sz160 zr160 rfl rfl rfl (show _ = [.d (.str ⟨#[]⟩),.d (.int .i64 0),.d (.int .i64 0)] from by kernel_rfl) (by kernel_rfl) rfl (zk (by kernel_rfl) rfl) (zv _) (zq rfl) (zg rfl)) fun _=>?_
   refine d2_of_d1 (zE (Ze [1] [3] hn rfl ?_))
   rotate_left
  rotate_left 2
  all_goals
   refine d2_of_d1 (zE (z7 (i:=1030) (j:=1) rfl rfl rfl (fun hne1030_1=>?_)))
   refine Zo 17 rfl (s_append (id:=1030) rfl rfl rfl (nb hn rfl) elt35 trivial rfl rfl rfl (by simp [chunk]; omega) (by simp [chunk]; omega) (fun b hb=>(fun e=>hne1030_1 _ hb (congrArg some e.symm)))) fun v34=>?_
   refine d2_of_d1 (Zy [18] [] hn rfl (zE (z7 (i:=3) (j:=1) rfl rfl rfl (fun hne3_1=>?_))))
   refine Zo 19 rfl (s_storeRow rfl rfl rfl rfl rfl (rid:=1030) rfl (id:=3) rfl sz35 (Nat.le_of_ble_eq_true rfl) rfl (fun e=>hne3_1 _ rfl (congrArg some e.symm))) fun _=>?_
   refine d2_of_d1 (zE (zl (by kernel_rfl) ?_))
   exact Zj hJ1 v34 (zF _) ⟨.inl rfl,.inl (congrArg (fun z=>some (Res.row v34 160 3 z)) (addK.trans (by rw [zCE hs]))),trivial⟩
 rintro vS
 refine zM (zA (zH (Zt 1 [] hn rfl (Zs hn (zh rfl rfl rfl (r:=((i + 1:Nat):Int)) (i64w (by omega) (by omega))) ?_))))
 refine Zt 1 [] hn rfl (zQ ?_)
 exact Zr ⟨(i + 1,vS),by omega⟩ ⟨.inl rfl,zF _⟩ ⟨.inl rfl,.inl rfl,trivial⟩ (by simp only; omega)
 have hie:i = b.stocks.length:=by simp at hb0; omega
 subst hie
 rw [List.take_length]
 refine zX (zC (zC (zO (zA (zD (yH (gh_rowcell (id:=3) (k:=0) (rid:=1030) rfl rfl rfl) ?_))))))
 refine zH (Zt 2 [3,2] hn rfl (Zv (zI ?_)))
 exact za (.inl rfl) hl rfl (.cellA rfl (id:=2) rfl underlying37 rfl sz37 rfl rfl)
theorem Sales_ok (l:List Sal) (h5:l.length ≤ 1000):PureAt Tryz.prog 40 [salsD l] (salsD l):=by
 refine Zp Tryz.func40 rfl fun Γ hn hl=>?_
 refine Zu (Zt 1 [] hn rfl (Zv (Zu (Zt 1 [] hn rfl (Zv (zD (zD (yH (g_nil (t:=3) (id:=3) 224 4 rfl (nb hn rfl)) ?_))))))))
 refine zH (Zt 1 [] hn rfl (Zv (zN (awp_loop_on (ι:={x:Nat × Value // x.1 ≤ l.length}) (fun x=>(4,true,.d (.int .i64 (x.1.1:Nat))) :: (3,true,.val x.1.2) :: anys [5,6,7,8,11,12,13,14,15,16,17,18,19,20,21,22,23,24,25,26,27,28,29,30,31,32,33,34,9,10]) (fun x=>[(3,.row x.1.2 224 4 ((l.take x.1.1).map salE))]) (fun x=>l.length - x.1.1) ⟨(0,_),Nat.zero_le _⟩ ⟨.inl rfl,.inl rfl,zF _⟩ ⟨.inl rfl,trivial⟩ ?_))))
 rintro ⟨⟨i,vS⟩,hi⟩
 dsimp only
 refine zD (Zu (Zt 4 [] hn rfl (Zv (zG rfl (fun hb0=>?_) (fun hb0=>?_)))))
 have hlt:i < l.length:=by simp at hb0; omega
 obtain ⟨s,hs⟩:=zV hlt
 refine zJ (zA (zD (zN (zb (e:=.normal) (ι:=Value) (fun x=>(3,true,.val x) :: anys [11,12,13,14,15,16,17,18,19,20,21,22,23,24,25,26,27,28,29,30,31,32,33,34]) (fun x=>[(3,.row x 224 4 ((l.take (i + 1)).map salE))]) (fun hJ1=>?_) ?_))))
 refine zo (W:=fun b=>True) fmo ?_
 refine Zy [0,1,2] [] hn rfl (Zd 3 rfl hn (q_index (i:=i) rfl rfl rfl underlying91 sz96 rfl (mget hs)) ?_)
 refine Zy [4,5,6,7] [] hn rfl (Zd 8 rfl hn (q_index (i:=i) rfl rfl rfl underlying91 sz96 rfl (mget hs)) ?_)
 refine Zy [9,10,11,12] [] hn rfl (Zd 13 rfl hn (q_index (i:=i) rfl rfl rfl underlying91 sz96 rfl (mget hs)) ?_)
 refine Zy [14,15,16,17] [] hn rfl (Zd 18 rfl hn (q_index (i:=i) rfl rfl rfl underlying91 sz96 rfl (mget hs)) ?_)
 refine Zy [19,20,21] [] hn rfl (zE (Zo 22 rfl (zP rfl rfl rfl (nb hn rfl) underlying101 sz224 zr224 rfl rfl rfl (show _ = [.d (.int .i64 0),.d (.int .i64 0),.d (.int .i64 0),.d (.int .i64 0)] from by kernel_rfl) (by kernel_rfl) rfl (zk (by kernel_rfl) rfl) (zv _) (zq rfl) (zg rfl)) fun _=>?_))
 refine d2_of_d1 (zE (Zo 23 rfl (s_append (id:=3) rfl rfl rfl (nb hn rfl) elt101 trivial rfl rfl rfl (by simp [chunk]; omega) (by simp [chunk]; omega) (fun b hb=>trivial)) fun v34=>?_))
 refine d2_of_d1 (Zy [24] [] hn rfl (zE (zl (by kernel_rfl) ?_)))
 exact Zj hJ1 v34 ⟨.inl rfl,zF _⟩ ⟨.inl (congrArg (fun z=>some (Res.row v34 224 4 z)) (addSal.trans (by rw [zCE hs]))),trivial⟩
 rintro vS
 refine zM (zA (zH (Zt 1 [] hn rfl (Zs hn (zh rfl rfl rfl (r:=((i + 1:Nat):Int)) (i64w (by omega) (by omega))) ?_))))
 refine Zt 1 [] hn rfl (zQ ?_)
 exact Zr ⟨(i + 1,vS),by omega⟩ ⟨.inl rfl,.inl rfl,zF _⟩ ⟨.inl rfl,trivial⟩ (by simp only; omega)
 have hie:i = l.length:=by simp at hb0; omega
 subst hie
 rw [List.take_length]
 refine zX (zC (zC (zO (zA (Zu (Zt 2 [] hn rfl (Zv (zI (y2 (g_row (t:=2) (id:=3) rfl rfl) ?_)))))))))
 exact za (.inl rfl) hl rfl (.tmp rfl)
end Go.Proofs.YticlpkgpmmhemaaGreatDoor
