/-
  A part of the proof that contangolaw.OddNames returns true: what the last text needs, and no more. No condition: no statement of the seat is proved here.
-/
import Derived.Test.YticlpkgpmmhemaaGreatDoorChecked
import Derived.Test.YticlpkgpmmhemaaGreatDoorOddNamesG
namespace Go.Proofs.YticlpkgpmmhemaaGreatDoor
open Go.Proofs.Tryz
open Go.RowKit
set_option maxRecDepth 20000
set_option linter.all false
def withinB (n lo hi:Int):Bool:=decide (lo ≤ n) && decide (n ≤ hi)
def letterB (b:UInt8):Bool:=decide (65 ≤ (b.toNat:Int)) && decide ((b.toNat:Int) ≤ 90)
def namedB (s:List UInt8):Bool:=withinB s.length 1 3 && s.all letterB
def spansB (lo hi a b:Int):Bool:=decide (a ≤ lo) && decide (lo ≤ hi) && decide (hi ≤ b)
theorem sz3:Sz Tryz.prog 3 1:=(by kernel_rfl:(Tryz.prog.info? 3).map (·.size) = some 1)
theorem sz65:Sz Tryz.prog 65 2:=(by kernel_rfl:(Tryz.prog.info? 65).map (·.size) = some 2)
theorem sz160:Sz Tryz.prog 160 3:=(by kernel_rfl:(Tryz.prog.info? 160).map (·.size) = some 3)
theorem yc (n lo hi:Int):PureAt Tryz.prog 98 [.int .i64 n,.int .i64 lo,.int .i64 hi] (.bool (withinB n lo hi)):=by
 refine Zp Tryz.func98 rfl fun Γ hn hl=>?_
 refine Zu ?_
 refine Zt 1 [] hn rfl ?_
 refine Zv (Zu ?_)
 refine Zt 9 [] hn rfl ?_
 refine Zv (zI ?_)
 exact za (.inl rfl) hl rfl (.tmp rfl)
theorem letter_ok (b:UInt8):PureAt Tryz.prog 207 [.int .u8 (b.toNat:Int)] (.bool (letterB b)):=by
 refine Zp Tryz.func207 rfl fun Γ hn hl=>?_
 refine Zu ?_
 refine Zt 1 [] hn rfl ?_
 refine Zv (Zu ?_)
 refine Zt 7 [] hn rfl ?_
 refine Zv (zI ?_)
 exact za (.inl rfl) hl rfl (.tmp rfl)
theorem IndexFunc_byte (l:List UInt8) (p:UInt8 → Bool) (g:FuncId) (fi ca:List D) (hp:∀ x ∈ l,PureAt Tryz.prog g (fi ++ [.int .u8 (x.toNat:Int)] ++ ca) (.bool (p x))):PureAt Tryz.prog 244 [bytesD l,.fn (.func g) fi ca] (.int .i64 (idxOf p l)):=by
 refine PureAt.of_awp' Tryz.func244 rfl (by kernel_rfl) rfl fun hlen Γ hn hl=>?_
 have hl5:=hlen.1; simp only [List.length_map] at hl5
 refine Zu (Zt 1 [] hn rfl (Zv (zB (Zu (Zt 3 [] hn rfl (Zv (zL (awp_loop_on (ι:={ i:Nat // i ≤ l.length ∧ (l.take i).all (fun x=>!p x) = true }) (fun i=>(8,true,.d (.int .i64 (i.1:Int))) :: anys [9,10,5,11,12,13,14,15,16,18]) (fun i=>[]) (fun i=>l.length - i.1) ⟨0,by simp⟩ ⟨.inl rfl,zE _⟩ trivial ?_))))))))
 rintro ⟨i,hi,hall⟩
 dsimp only
 refine Zu (Zt 1 [] hn rfl (Zv (zB (zH rfl (fun hb0=>?_) (fun hb0=>?_)))))
 ·
  try simp only [decide_eq_true_eq,decide_eq_false_iff_not,Bool.and_eq_true,Bool.or_eq_true,Bool.and_eq_false_iff,Bool.or_eq_false_iff,Bool.not_eq_true',Bool.not_eq_false',beq_iff_eq,bne_iff_ne,ne_eq,beq_eq_false_iff_ne,bne_eq_false_iff_eq,Int.not_lt,Int.not_le] at hb0
  have hlt:i < l.length:=by simpa using hb0
  obtain ⟨x,hx⟩:=zW hlt
  refine zK (zA (zB (zL (Zu (Zt 2 [] hn rfl (Zv (Zu (Zt 3 [] hn rfl (Zi hn rfl rfl (mget hx) ?_)))))))))
  refine Zt 1 [] hn rfl (Zk hn rfl (hp x (List.mem_of_getElem? hx)) (Zv (zH rfl (fun hb1=>?_) (fun hb1=>?_))))
  ·
   try simp only [decide_eq_true_eq,decide_eq_false_iff_not,Bool.and_eq_true,Bool.or_eq_true,Bool.and_eq_false_iff,Bool.or_eq_false_iff,Bool.not_eq_true',Bool.not_eq_false',beq_iff_eq,bne_iff_ne,ne_eq,beq_eq_false_iff_ne,bne_eq_false_iff_eq,Int.not_lt,Int.not_le] at hb1
   refine Zu (Zt 2 [] hn rfl (Zv (zI (zP (zF (zF (zP (zF (ze (za (.inl rfl) hl rfl (.tmp rfl)) ?_)))))))))
   rw [kV hx hall (by simpa using hb1)]
  try simp only [decide_eq_true_eq,decide_eq_false_iff_not,Bool.and_eq_true,Bool.or_eq_true,Bool.and_eq_false_iff,Bool.or_eq_false_iff,Bool.not_eq_true',Bool.not_eq_false',beq_iff_eq,bne_iff_ne,ne_eq,beq_eq_false_iff_ne,bne_eq_false_iff_eq,Int.not_lt,Int.not_le] at hb1
  refine zK (zN (zA (zG (Zs hn (zr rfl rfl rfl (r:=((i + 1:Nat):Int)) (i64w (by omega) (by omega))) ?_))))
  refine Zt 1 [] hn rfl (zT ?_)
  exact Zr ⟨i + 1,by omega,yp hx hall (by simp [hb1])⟩ ⟨.inl rfl,zE _⟩ trivial (by simp only; omega)
 try simp only [decide_eq_true_eq,decide_eq_false_iff_not,Bool.and_eq_true,Bool.or_eq_true,Bool.and_eq_false_iff,Bool.or_eq_false_iff,Bool.not_eq_true',Bool.not_eq_false',beq_iff_eq,bne_iff_ne,ne_eq,beq_eq_false_iff_ne,bne_eq_false_iff_eq,Int.not_lt,Int.not_le] at hb0
 refine zY (zC (zC (zM (zA (Zu (Zt 1 [] hn rfl (Zv (zI (ze (za (.inl rfl) hl rfl (.tmp rfl)) ?_)))))))))
 have hi2:i = l.length:=by simp only [List.length_map] at hb0; omega
 subst hi2; rw [List.take_length] at hall; rw [kD hall]
theorem ContainsFunc_byte (l:List UInt8) (p:UInt8 → Bool) (g:FuncId) (fi ca:List D) (hp:∀ x ∈ l,PureAt Tryz.prog g (fi ++ [.int .u8 (x.toNat:Int)] ++ ca) (.bool (p x))):PureAt Tryz.prog 230 [bytesD l,.fn (.func g) fi ca] (.bool (l.any p)):=by
 refine Zp Tryz.func230 rfl fun Γ hn hl=>?_
 refine Zu ?_
 refine Zt 1 [] hn rfl ?_
 refine Zv (Zu ?_)
 refine Zt 2 [] hn rfl ?_
 refine Zk hn rfl (IndexFunc_byte l p g fi ca hp) ?_
 refine Zt 2 [] hn rfl ?_
 refine Zv (zI ?_)
 refine ze (za (.inl rfl) hl rfl (.tmp rfl)) ?_
 rw [y3]
theorem all1_byte (x:UInt8) (b:Bool) (g:FuncId) (fi ca:List D) (hp:PureAt Tryz.prog g (fi ++ [.int .u8 (x.toNat:Int)] ++ ca) (.bool b)):PureAt Tryz.prog 231 [.int .u8 (x.toNat:Int),.ptr [.fn (.func g) fi ca]] (.bool (!b)):=by
 refine Zp Tryz.func231 rfl fun Γ hn hl=>?_
 refine Zu ?_
 refine Zt 1 [] hn rfl ?_
 refine Zv (Zu ?_)
 refine Zt 2 [] hn rfl ?_
 refine Zk hn rfl (hp) ?_
 refine Zt 2 [] hn rfl ?_
 refine Zv (zI ?_)
 exact za (.inl rfl) hl rfl (.tmp rfl)
theorem all_byte (l:List UInt8) (p:UInt8 → Bool) (g:FuncId) (fi ca:List D) (hp:∀ x ∈ l,PureAt Tryz.prog g (fi ++ [.int .u8 (x.toNat:Int)] ++ ca) (.bool (p x))):PureAt Tryz.prog 206 [bytesD l,.fn (.func g) fi ca] (.bool (l.all p)):=by
 refine Zp Tryz.func206 rfl fun Γ hn hl=>?_
 refine Zu ?_
 refine Zb 3 hn rfl fun b3=>?_
 refine Zt 1 [] hn rfl ?_
 refine Zv (Zu ?_)
 refine Zt 1 [] hn rfl ?_
 refine km (zv (t:=3) 3 rfl (nb hn rfl) rfl rfl trivial) ?_
 refine Zs hn (yC rfl rfl rfl) ?_
 refine Zk hn rfl (ContainsFunc_byte l (fun x=>!p x) _ [] [.ptr [.fn (.func g) fi ca]] (fun x hx=>all1_byte x _ g fi ca (hp x hx))) ?_
 refine Zt 2 [] hn rfl ?_
 refine Zv (zI ?_)
 refine ze (za (.inl rfl) hl rfl (.tmp rfl)) ?_
 rw [List.all_eq_not_any_not]
theorem zA3 (l:List Stk) (p:Stk → Bool) (g:FuncId) (fi ca:List D) (hp:∀ x ∈ l,PureAt Tryz.prog g (fi ++ [.agg (stkE x)] ++ ca) (.bool (p x))):PureAt Tryz.prog 174 [stksD l,.fn (.func g) fi ca] (.int .i64 (idxOf p l)):=by
 refine PureAt.of_awp' Tryz.func174 rfl (by kernel_rfl) rfl fun hlen Γ hn hl=>?_
 have hl5:=hlen.1; simp only [List.length_map] at hl5
 refine Zu (Zt 1 [] hn rfl (Zv (zB (Zu (Zt 3 [] hn rfl (Zv (zL (awp_loop_on (ι:={ i:Nat // i ≤ l.length ∧ (l.take i).all (fun x=>!p x) = true }) (fun i=>(8,true,.d (.int .i64 (i.1:Int))) :: anys [9,10,5,11,12,13,14,15,16,18]) (fun i=>[]) (fun i=>l.length - i.1) ⟨0,by simp⟩ ⟨.inl rfl,zE _⟩ trivial ?_))))))))
 rintro ⟨i,hi,hall⟩
 dsimp only
 refine Zu (Zt 1 [] hn rfl (Zv (zB (zH rfl (fun hb0=>?_) (fun hb0=>?_)))))
 ·
  try simp only [decide_eq_true_eq,decide_eq_false_iff_not,Bool.and_eq_true,Bool.or_eq_true,Bool.and_eq_false_iff,Bool.or_eq_false_iff,Bool.not_eq_true',Bool.not_eq_false',beq_iff_eq,bne_iff_ne,ne_eq,beq_eq_false_iff_ne,bne_eq_false_iff_eq,Int.not_lt,Int.not_le] at hb0
  have hlt:i < l.length:=by simpa using hb0
  obtain ⟨x,hx⟩:=zW hlt
  refine zK (zA (zB (zL (Zu (Zt 2 [] hn rfl (Zv (Zu (Zt 3 [] hn rfl (Zi hn rfl rfl (mget hx) ?_)))))))))
  refine Zt 1 [] hn rfl (Zk hn rfl (hp x (List.mem_of_getElem? hx)) (Zv (zH rfl (fun hb1=>?_) (fun hb1=>?_))))
  ·
   try simp only [decide_eq_true_eq,decide_eq_false_iff_not,Bool.and_eq_true,Bool.or_eq_true,Bool.and_eq_false_iff,Bool.or_eq_false_iff,Bool.not_eq_true',Bool.not_eq_false',beq_iff_eq,bne_iff_ne,ne_eq,beq_eq_false_iff_ne,bne_eq_false_iff_eq,Int.not_lt,Int.not_le] at hb1
   refine Zu (Zt 2 [] hn rfl (Zv (zI (zP (zF (zF (zP (zF (ze (za (.inl rfl) hl rfl (.tmp rfl)) ?_)))))))))
   rw [kV hx hall (by simpa using hb1)]
  try simp only [decide_eq_true_eq,decide_eq_false_iff_not,Bool.and_eq_true,Bool.or_eq_true,Bool.and_eq_false_iff,Bool.or_eq_false_iff,Bool.not_eq_true',Bool.not_eq_false',beq_iff_eq,bne_iff_ne,ne_eq,beq_eq_false_iff_ne,bne_eq_false_iff_eq,Int.not_lt,Int.not_le] at hb1
  refine zK (zN (zA (zG (Zs hn (zr rfl rfl rfl (r:=((i + 1:Nat):Int)) (i64w (by omega) (by omega))) ?_))))
  refine Zt 1 [] hn rfl (zT ?_)
  exact Zr ⟨i + 1,by omega,yp hx hall (by simp [hb1])⟩ ⟨.inl rfl,zE _⟩ trivial (by simp only; omega)
 try simp only [decide_eq_true_eq,decide_eq_false_iff_not,Bool.and_eq_true,Bool.or_eq_true,Bool.and_eq_false_iff,Bool.or_eq_false_iff,Bool.not_eq_true',Bool.not_eq_false',beq_iff_eq,bne_iff_ne,ne_eq,beq_eq_false_iff_ne,bne_eq_false_iff_eq,Int.not_lt,Int.not_le] at hb0
 refine zY (zC (zC (zM (zA (Zu (Zt 1 [] hn rfl (Zv (zI (ze (za (.inl rfl) hl rfl (.tmp rfl)) ?_)))))))))
 have hi2:i = l.length:=by simp only [List.length_map] at hb0; omega
 subst hi2; rw [List.take_length] at hall; rw [kD hall]
theorem ContainsFunc_stk (l:List Stk) (p:Stk → Bool) (g:FuncId) (fi ca:List D) (hp:∀ x ∈ l,PureAt Tryz.prog g (fi ++ [.agg (stkE x)] ++ ca) (.bool (p x))):PureAt Tryz.prog 168 [stksD l,.fn (.func g) fi ca] (.bool (l.any p)):=by
 refine Zp Tryz.func168 rfl fun Γ hn hl=>?_
 refine Zu ?_
 refine Zt 1 [] hn rfl ?_
 refine Zv (Zu ?_)
 refine Zt 2 [] hn rfl ?_
 refine Zk hn rfl (zA3 l p g fi ca hp) ?_
 refine Zt 2 [] hn rfl ?_
 refine Zv (zI ?_)
 refine ze (za (.inl rfl) hl rfl (.tmp rfl)) ?_
 rw [y3]
theorem all1_stk (x:Stk) (b:Bool) (g:FuncId) (fi ca:List D) (hp:PureAt Tryz.prog g (fi ++ [.agg (stkE x)] ++ ca) (.bool b)):PureAt Tryz.prog 169 [.agg (stkE x),.ptr [.fn (.func g) fi ca]] (.bool (!b)):=by
 refine Zp Tryz.func169 rfl fun Γ hn hl=>?_
 refine Zu ?_
 refine Zb 2 hn rfl fun b2=>?_
 refine Zt 1 [] hn rfl ?_
 refine Zv (Zu ?_)
 refine Zt 2 [2] hn rfl ?_
 refine Zk hn rfl (hp) ?_
 refine Zt 2 [] hn rfl ?_
 refine Zv (zI ?_)
 exact za (.inl rfl) hl rfl (.tmp rfl)
theorem all_stk (l:List Stk) (p:Stk → Bool) (g:FuncId) (fi ca:List D) (hp:∀ x ∈ l,PureAt Tryz.prog g (fi ++ [.agg (stkE x)] ++ ca) (.bool (p x))):PureAt Tryz.prog 119 [stksD l,.fn (.func g) fi ca] (.bool (l.all p)):=by
 refine Zp Tryz.func119 rfl fun Γ hn hl=>?_
 refine Zu ?_
 refine Zb 3 hn rfl fun b3=>?_
 refine Zt 1 [] hn rfl ?_
 refine Zv (Zu ?_)
 refine Zt 1 [] hn rfl ?_
 refine km (zv (t:=3) 3 rfl (nb hn rfl) rfl rfl trivial) ?_
 refine Zs hn (yC rfl rfl rfl) ?_
 refine Zk hn rfl (ContainsFunc_stk l (fun x=>!p x) _ [] [.ptr [.fn (.func g) fi ca]] (fun x hx=>all1_stk x _ g fi ca (hp x hx))) ?_
 refine Zt 2 [] hn rfl ?_
 refine Zv (zI ?_)
 refine ze (za (.inl rfl) hl rfl (.tmp rfl)) ?_
 rw [List.all_eq_not_any_not]
theorem IndexFunc_rng (l:List (Int × Int)) (p:(Int × Int) → Bool) (g:FuncId) (fi ca:List D) (hp:∀ x ∈ l,PureAt Tryz.prog g (fi ++ [rngD x] ++ ca) (.bool (p x))):PureAt Tryz.prog 217 [rngsD l,.fn (.func g) fi ca] (.int .i64 (idxOf p l)):=by
 refine PureAt.of_awp' Tryz.func217 rfl (by kernel_rfl) rfl fun hlen Γ hn hl=>?_
 have hl5:=hlen.1; simp only [List.length_map] at hl5
 refine Zu (Zt 1 [] hn rfl (Zv (zB (Zu (Zt 3 [] hn rfl (Zv (zL (awp_loop_on (ι:={ i:Nat // i ≤ l.length ∧ (l.take i).all (fun x=>!p x) = true }) (fun i=>(8,true,.d (.int .i64 (i.1:Int))) :: anys [9,10,5,11,12,13,14,15,16,18]) (fun i=>[]) (fun i=>l.length - i.1) ⟨0,by simp⟩ ⟨.inl rfl,zE _⟩ trivial ?_))))))))
 rintro ⟨i,hi,hall⟩
 dsimp only
 refine Zu (Zt 1 [] hn rfl (Zv (zB (zH rfl (fun hb0=>?_) (fun hb0=>?_)))))
 ·
  try simp only [decide_eq_true_eq,decide_eq_false_iff_not,Bool.and_eq_true,Bool.or_eq_true,Bool.and_eq_false_iff,Bool.or_eq_false_iff,Bool.not_eq_true',Bool.not_eq_false',beq_iff_eq,bne_iff_ne,ne_eq,beq_eq_false_iff_ne,bne_eq_false_iff_eq,Int.not_lt,Int.not_le] at hb0
  have hlt:i < l.length:=by simpa using hb0
  obtain ⟨x,hx⟩:=zW hlt
  refine zK (zA (zB (zL (Zu (Zt 2 [] hn rfl (Zv (Zu (Zt 3 [] hn rfl (Zi hn rfl rfl (mget hx) ?_)))))))))
  refine Zt 1 [] hn rfl (Zk hn rfl (hp x (List.mem_of_getElem? hx)) (Zv (zH rfl (fun hb1=>?_) (fun hb1=>?_))))
  ·
   try simp only [decide_eq_true_eq,decide_eq_false_iff_not,Bool.and_eq_true,Bool.or_eq_true,Bool.and_eq_false_iff,Bool.or_eq_false_iff,Bool.not_eq_true',Bool.not_eq_false',beq_iff_eq,bne_iff_ne,ne_eq,beq_eq_false_iff_ne,bne_eq_false_iff_eq,Int.not_lt,Int.not_le] at hb1
   refine Zu (Zt 2 [] hn rfl (Zv (zI (zP (zF (zF (zP (zF (ze (za (.inl rfl) hl rfl (.tmp rfl)) ?_)))))))))
   rw [kV hx hall (by simpa using hb1)]
  try simp only [decide_eq_true_eq,decide_eq_false_iff_not,Bool.and_eq_true,Bool.or_eq_true,Bool.and_eq_false_iff,Bool.or_eq_false_iff,Bool.not_eq_true',Bool.not_eq_false',beq_iff_eq,bne_iff_ne,ne_eq,beq_eq_false_iff_ne,bne_eq_false_iff_eq,Int.not_lt,Int.not_le] at hb1
  refine zK (zN (zA (zG (Zs hn (zr rfl rfl rfl (r:=((i + 1:Nat):Int)) (i64w (by omega) (by omega))) ?_))))
  refine Zt 1 [] hn rfl (zT ?_)
  exact Zr ⟨i + 1,by omega,yp hx hall (by simp [hb1])⟩ ⟨.inl rfl,zE _⟩ trivial (by simp only; omega)
 try simp only [decide_eq_true_eq,decide_eq_false_iff_not,Bool.and_eq_true,Bool.or_eq_true,Bool.and_eq_false_iff,Bool.or_eq_false_iff,Bool.not_eq_true',Bool.not_eq_false',beq_iff_eq,bne_iff_ne,ne_eq,beq_eq_false_iff_ne,bne_eq_false_iff_eq,Int.not_lt,Int.not_le] at hb0
 refine zY (zC (zC (zM (zA (Zu (Zt 1 [] hn rfl (Zv (zI (ze (za (.inl rfl) hl rfl (.tmp rfl)) ?_)))))))))
 have hi2:i = l.length:=by simp only [List.length_map] at hb0; omega
 subst hi2; rw [List.take_length] at hall; rw [kD hall]
theorem ContainsFunc_rng (l:List (Int × Int)) (p:(Int × Int) → Bool) (g:FuncId) (fi ca:List D) (hp:∀ x ∈ l,PureAt Tryz.prog g (fi ++ [rngD x] ++ ca) (.bool (p x))):PureAt Tryz.prog 188 [rngsD l,.fn (.func g) fi ca] (.bool (l.any p)):=by
 refine Zp Tryz.func188 rfl fun Γ hn hl=>?_
 refine Zu ?_
 refine Zt 1 [] hn rfl ?_
 refine Zv (Zu ?_)
 refine Zt 2 [] hn rfl ?_
 refine Zk hn rfl (IndexFunc_rng l p g fi ca hp) ?_
 refine Zt 2 [] hn rfl ?_
 refine Zv (zI ?_)
 refine ze (za (.inl rfl) hl rfl (.tmp rfl)) ?_
 rw [y3]
theorem all1_rng (x:(Int × Int)) (b:Bool) (g:FuncId) (fi ca:List D) (hp:PureAt Tryz.prog g (fi ++ [rngD x] ++ ca) (.bool b)):PureAt Tryz.prog 189 [rngD x,.ptr [.fn (.func g) fi ca]] (.bool (!b)):=by
 refine Zp Tryz.func189 rfl fun Γ hn hl=>?_
 refine Zu ?_
 refine Zb 2 hn rfl fun b2=>?_
 refine Zt 1 [] hn rfl ?_
 refine Zv (Zu ?_)
 refine Zt 2 [2] hn rfl ?_
 refine Zk hn rfl (hp) ?_
 refine Zt 2 [] hn rfl ?_
 refine Zv (zI ?_)
 exact za (.inl rfl) hl rfl (.tmp rfl)
theorem all_rng (l:List (Int × Int)) (p:(Int × Int) → Bool) (g:FuncId) (fi ca:List D) (hp:∀ x ∈ l,PureAt Tryz.prog g (fi ++ [rngD x] ++ ca) (.bool (p x))):PureAt Tryz.prog 149 [rngsD l,.fn (.func g) fi ca] (.bool (l.all p)):=by
 refine Zp Tryz.func149 rfl fun Γ hn hl=>?_
 refine Zu ?_
 refine Zb 3 hn rfl fun b3=>?_
 refine Zt 1 [] hn rfl ?_
 refine Zv (Zu ?_)
 refine Zt 1 [] hn rfl ?_
 refine km (zv (t:=3) 3 rfl (nb hn rfl) rfl rfl trivial) ?_
 refine Zs hn (yC rfl rfl rfl) ?_
 refine Zk hn rfl (ContainsFunc_rng l (fun x=>!p x) _ [] [.ptr [.fn (.func g) fi ca]] (fun x hx=>all1_rng x _ g fi ca (hp x hx))) ?_
 refine Zt 2 [] hn rfl ?_
 refine Zv (zI ?_)
 refine ze (za (.inl rfl) hl rfl (.tmp rfl)) ?_
 rw [List.all_eq_not_any_not]
theorem zD9 (s:List UInt8) (h5:s.length ≤ 140737488355328):PureAt Tryz.prog 167 [strD s] (.bool (namedB s)):=by
 refine Zp Tryz.func167 rfl fun Γ hn hl=>?_
 refine Zu ?_
 refine Zt 1 [] hn rfl ?_
 refine Zv (Zu ?_)
 refine Zt 2 [] hn rfl ?_
 refine Zk hn rfl (yc _ _ _) ?_
 refine Zt 2 [] hn rfl ?_
 refine stepW (zDr [(7,_)] (zJ rfl rfl rfl) rfl (nb hn rfl) (fun hc=>⟨⟨_,rfl,hc⟩,trivial⟩) (fun hc=>s_bytesOf rfl rfl rfl (nb hn rfl) rfl underlying9 underlying78 underlying5 (by simp only [maxLen]; omega))) fun _=>?_
 refine Zkg hn rfl (fun hc=>all_byte s letterB 207 [] [] (fun x _=>letter_ok x)) ?_
 refine Zt 2 [] hn rfl ?_
 refine Zv (zI ?_)
 exact za (.inl rfl) hl rfl (.tmp rfl)
theorem zEC (r:Int × Int) (a b:Int):PureAt Tryz.prog 148 [rngD r,.int .i64 a,.int .i64 b] (.bool (spansB r.1 r.2 a b)):=by
 refine Zp Tryz.func148 rfl fun Γ hn hl=>?_
 refine Zu ?_
 refine Zb 3 hn rfl fun b3=>?_
 refine Zt 1 [] hn rfl ?_
 refine Zv (Zu ?_)
 refine Zt 18 [3,3,3,3] hn rfl ?_
 refine Zv (zI ?_)
 exact za (.inl rfl) hl rfl (.tmp rfl)
theorem rhas_ok (r:Int × Int) (n:Int):PureAt Tryz.prog 90 [rngD r,.int .i64 n] (.bool (withinB n r.1 r.2)):=by
 refine Zp Tryz.func90 rfl fun Γ hn hl=>?_
 refine Zu ?_
 refine Zb 2 hn rfl fun b2=>?_
 refine Zt 1 [] hn rfl ?_
 refine Zv (Zu ?_)
 refine Zt 5 [2,2] hn rfl ?_
 refine Zk hn rfl (yc _ _ _) ?_
 refine Zt 1 [] hn rfl ?_
 refine Zv (zI ?_)
 exact za (.inl rfl) hl rfl (.tmp rfl)
theorem zFm (r:Int × Int):PureAt Tryz.prog 75 [rngD r] (rngD r):=by
 refine Zp Tryz.func75 rfl fun Γ hn hl=>?_
 refine Zu ?_
 refine Zb 1 hn rfl fun b1=>?_
 refine Zb 2 hn rfl fun b2=>?_
 refine Zv (Zu ?_)
 refine Zt 6 [1,1,2] hn rfl ?_
 refine Zv (zI ?_)
 exact za (.inl rfl) hl rfl (.cellA rfl (id:=2) rfl underlying65 rfl sz65 rfl rfl)
end Go.Proofs.YticlpkgpmmhemaaGreatDoor
namespace Go.Proofs.YticlpkgpmmhemaaGreatDoor
open Go.RowKit
set_option maxRecDepth 20000
set_option linter.all false
def eqN (s o:Stk):Bool:=o.name == s.name
def stockB (b:Brd) (s:Stk):Bool:=((b.stocks.countP (eqN s):Int) == 1) && namedB s.name && spansB s.lo s.hi 1 799
def limT (b:Brd):Bool:=decide (4 < (b.stocks.length:Int))
def argT (b:Brd):Bool:=((b.stocks.length:Int) == 0) || !(withinB b.jump 0 40) || !(withinB b.small 1 9) || !(b.stocks.all (stockB b))
def checkT (b:Brd):Int:=bif limT b then 3 else bif argT b then 1 else 0
/-- What the rows know of names' lengths. -/
def NamesOK (b:Brd):Prop:=∀ s ∈ b.stocks,s.name.length ≤ 140737488355328
theorem yx {l:List Stk} {p:Stk → Bool} {i:Nat} {x:Stk} (h:l[i]? = some x):(l.take (i + 1)).countP p = (l.take i).countP p + (if p x then 1 else 0):=by
  rw [List.take_add_one,h]
  simp [List.countP_append,List.countP_cons]
theorem countP_le_n {l:List Stk} {p:Stk → Bool} {i:Nat}:(l.take i).countP p ≤ i:=Nat.le_trans List.countP_le_length (by simp; omega)
theorem checkT_of {b:Brd} (h:limT b = false) (k:argT b = true):checkT b = 1:=by simp [checkT,h,k]
theorem checkT_3 {b:Brd} (h:limT b = true):checkT b = 3:=by simp [checkT,h]
theorem checkT_0 {b:Brd} (h:limT b = false) (k:argT b = false):checkT b = 0:=by simp [checkT,h,k]
theorem sz4:Sz Tryz.prog 4 1:=(by kernel_rfl:(Tryz.prog.info? 4).map (·.size) = some 1)
theorem sz9:Sz Tryz.prog 9 1:=(by kernel_rfl:(Tryz.prog.info? 9).map (·.size) = some 1)
theorem sz35:Sz Tryz.prog 35 1:=(by kernel_rfl:(Tryz.prog.info? 35).map (·.size) = some 1)
theorem sz37:Sz Tryz.prog 37 3:=(by kernel_rfl:(Tryz.prog.info? 37).map (·.size) = some 3)
theorem sz98:Sz Tryz.prog 98 3:=(by kernel_rfl:(Tryz.prog.info? 98).map (·.size) = some 3)
theorem fmo:Tryz.prog.follows .mixedOrders = true:=by kernel_rfl
theorem stock_ok (b:Brd) (s:Stk) (h5:s.name.length ≤ 140737488355328):PureAt Tryz.prog 118 [brdD b,.agg (stkE s)] (.bool (stockB b s)):=by
 refine PureAt.of_awp' Tryz.func118 rfl (by kernel_rfl) rfl fun hlen Γ hn hl=>?_
 have hl5:=hlen.1 3 (b.stocks.map stkE) (by simp)
 simp only [List.length_map] at hl5
 refine Zu (Zb 2 hn rfl fun b2=>Zb 3 hn rfl fun b3=>Zt 1 [] hn rfl (Zv (Zu (Zt 1 [] hn rfl (Zv (zB (Zu (Zt 4 [2] hn rfl (Zv (zL (awp_loop_on (ι:={i:Nat // i ≤ b.stocks.length}) (fun x=>(11,true,.d (.int .i64 (x.1:Nat))) :: (5,true,.d (.int .i64 ((b.stocks.take x.1).countP (eqN s):Nat))) :: anys [12,13,14,7,15,16,17,18,19,20,21,22]) (fun x=>gones [7]) (fun x=>b.stocks.length - x.1) ⟨0,Nat.zero_le _⟩ ⟨.inl rfl,.inl rfl,zE _⟩ (zR _) ?_)))))))))))
 rintro ⟨i,hi⟩
 dsimp only
 refine Zu (Zt 1 [] hn rfl (Zv (zB (zH rfl (fun hb0=>?_) (fun hb0=>?_)))))
 have hlt:i < b.stocks.length:=by simp at hb0; omega
 obtain ⟨o,ho⟩:=zW hlt
 have hcl:=countP_le_n (l:=b.stocks) (p:=eqN s) (i:=i)
 refine zK (zA (zB (zL (Zu (Zi (i:=i) hn rfl rfl (mget ho) ?_)))))
 refine Zt 1 [] hn rfl (Zb 7 hn rfl fun b7=>Zt 1 [7] hn rfl (Zv (Zu (Zt 4 [7,3] hn rfl (Zs hn (zBd rfl rfl rfl) ?_)))))
 refine Zv (zp (e:=.normal) (ι:=Unit) (fun x=>(5,true,.d (.int .i64 ((b.stocks.take (i + 1)).countP (eqN s):Nat))) :: anys [20,21]) (fun x=>[]) (fun hJ1=>?_) ?_)
 refine zH rfl (fun hb1=>?_) (fun hb1=>?_)
 have hq5:eqN s o = true:=hb1
 refine zG (Zt 1 [] hn rfl (Zs hn (zr rfl rfl rfl (r:=(((b.stocks.take (i + 1)).countP (eqN s):Nat):Int)) (i64w (by omega) (by rw [yx ho,if_pos hq5]; omega))) ?_))
 refine Zt 1 [] hn rfl (zT ?_)
 exact Zj hJ1 () ⟨.inl rfl,zE _⟩ trivial
 have hq6:eqN s o = false:=hb1
 have hq7:(b.stocks.take i).countP (eqN s) = (b.stocks.take (i + 1)).countP (eqN s):=by rw [yx ho,hq6]; simp
 refine zK ?_
 exact Zj hJ1 () ⟨.inl (congrArg (fun n:Nat=>some (true,TV.d (.int .i64 (n:Int)))) hq7),zE _⟩ trivial
 rintro _
 refine zN (zA (zG (Zs hn (zr rfl rfl rfl (r:=((i + 1:Nat):Int)) (i64w (by omega) (by omega))) ?_)))
 refine Zt 1 [] hn rfl (zT ?_)
 exact Zr ⟨i + 1,by omega⟩ ⟨.inl rfl,.inl rfl,zE _⟩ (zR _) (by simp only; omega)
 have hie:i = b.stocks.length:=by simp at hb0; omega
 subst hie
 rw [List.take_length]
 refine zY (zC (zC (zM (zA (Zu (Zt 5 [3] hn rfl (Zkg hn rfl (fun hc=>zD9 _ (by omega)) (Zt 4 [3] hn rfl (Zkg hn rfl (fun hc=>zEC (_,_) _ _) (Zt 2 [] hn rfl (Zv (zI ?_))))))))))))
 exact za (.inl rfl) hl rfl (.tmp rfl)
theorem CheckBoard_ok (b:Brd) (hN:NamesOK b):PureAt Tryz.prog 76 [brdD b] (.int .i64 (checkT b)):=by
 refine Zp Tryz.func76 rfl fun Γ hn hl=>?_
 refine Zu (Zb 1 hn rfl fun b1=>Zt 1 [] hn rfl (Zv (Zu (Zt 1 [1] hn rfl (Zs hn (yC rfl rfl rfl) ?_)))))
 refine Zt 1 [] hn rfl (Zv (zB (zL (Zu (Zt 5 [1] hn rfl (Zv (zH rfl (fun hb0=>?_) (fun hb0=>?_))))))))
 refine Zu (Zt 1 [] hn rfl (Zv (zI (zP (zF (ze (za (.inl rfl) hl rfl (.tmp rfl)) ?_))))))
 rw [checkT_3 (by simpa [limT] using hb0)]
 refine Zu (Zt 7 [1,1] hn rfl (Zkg hn rfl (fun hc=>yc _ _ _) (Zt 5 [1] hn rfl (Zkg hn rfl (fun hc=>yc _ _ _) (Zt 6 [1] hn rfl (Zkg hn rfl (fun hc=>all_stk b.stocks (stockB b) 118 [brdD b] [] (fun x hx=>stock_ok b x (hN x hx))) (Zt 3 [] hn rfl (Zv (zH rfl (fun hb1=>?_) (fun hb1=>?_))))))))))
 refine Zu (Zt 1 [] hn rfl (Zv (zI (zP (zF (ze (za (.inl rfl) hl rfl (.tmp rfl)) ?_))))))
 simp only [List.length_map] at hb0 hb1; rw [checkT_of (by simpa [limT] using hb0) hb1]
 refine zK (zN (zA (Zu (Zt 1 [] hn rfl (Zv (zI (ze (za (.inl rfl) hl rfl (.tmp rfl)) ?_)))))))
 simp only [List.length_map] at hb0 hb1; rw [checkT_0 (by simpa [limT] using hb0) hb1]
end Go.Proofs.YticlpkgpmmhemaaGreatDoor
namespace Go.Proofs.YticlpkgpmmhemaaGreatDoor
open Go.ChangeShapes Go.WideShapes Go.ChangeAt Go.RowKit
set_option linter.all false
set_option maxRecDepth 100000
def I64 (n:Int):Prop:=(Lit.int .i64 n).wf = true
theorem I64.bd {n:Int} (h:I64 n):-9223372036854775808 ≤ n ∧ n ≤ 9223372036854775807:=by
  have:(Lit.int .i64 n).wf = true:=h
  simpa [Lit.wf,IntKind.min,IntKind.max,IntKind.signed,IntKind.bits] using this
end Go.Proofs.YticlpkgpmmhemaaGreatDoor
namespace Go.Proofs.YticlpkgpmmhemaaGreatDoor
open Go.RowKit
set_option maxRecDepth 20000
set_option linter.all false
theorem z1 {n:Nat} {ds:List D} {zs:List TV} (hz:zs.length = n) (hd:ds.length = n):fillTV (fun i=>some (i * n,n)) zs [(0,.d (.agg ds))] = some (ds.map .d):=by
  have h1:Nat.beq n n = true:=Nat.beq_refl n
  have h2:Nat.ble n n = true:=by simp
  simp only [fillTV,TV.cells,List.length_map,hd,hz,TV.flat,Nat.zero_mul,Nat.zero_add,h1,h2]
  rw [List.drop_of_length_le (by omega)]
  simp
theorem zy:∀ (l:List D),allD (l.map .d) = some l
  | []=>rfl
  | x :: l=>by simp only [List.map_cons,allD,zy l]
theorem yH {n:Nat} {ds:List D} (hd:ds.length = n):Nat.beq ds.length (1 * n) = true:=by rw [hd,Nat.one_mul]; exact Nat.beq_refl n
theorem zt {n:Nat} {ds:List D} (hd:ds.length = n):chunk n 1 ds = [ds]:=by
  simp only [chunk]
  rw [List.take_of_length_le (by omega)]
theorem no_blks {b:Nat} (h:blks [] b) {p:Prop}:p:=by
  obtain ⟨i,r,h,_⟩:=h
  simp [lk] at h
def intsB:List Int → List Int → Bool
  | [],[]=>true
  | a :: p,b :: q=>bif a != b then false else intsB p q
  | _,_=>false
theorem zAu:∀ {a b:List Int},intsB a b = true ↔ a = b
  | [],[]=>by simp [intsB]
  | [],_ :: _=>by simp [intsB]
  | _ :: _,[]=>by simp [intsB]
  | a :: p,b :: q=>by
    unfold intsB
    by_cases h:a = b
    · subst h; simp [zAu]
    · simp [h]
theorem addK {l:List Stk} {x:Stk}:l.map stkE ++ [stkE x] = (l ++ [x]).map stkE:=by simp
theorem take_snoc {α:Type} {l:List α} {i:Nat} {x:α} (h:l[i]? = some x):l.take i ++ [x] = l.take (i + 1):=by rw [List.take_add_one,h]; rfl
end Go.Proofs.YticlpkgpmmhemaaGreatDoor
namespace Go.Proofs.YticlpkgpmmhemaaGreatDoor
open Go.Proofs.Tryz
open Go.RowKit
set_option maxRecDepth 20000
set_option linter.all false
theorem elt35:ElT Tryz.prog 35 160 3 32:=zBh underlying35 (z:=(.agg #[(.string ⟨#[]⟩),(.int .i64 0),(.int .i64 0)])) (by kernel_rfl) rfl (by decide)
theorem zCc (b:Brd) (h5:b.stocks.length ≤ 1000):PureAt Tryz.prog 19 [brdD b] (brdD b):=by
 refine Zp Tryz.func19 rfl fun Γ hn hl=>?_
 refine Zu (Zb 1 hn rfl fun b1=>Zb 2 hn rfl fun b2=>Zv (Zu (Zt 5 [1,1] hn rfl (Zb 3 hn rfl fun b3=>Zt 1 [3] hn rfl (Zv (zB (zB (zq (gh_nilcell (id:=3) (k:=0) 1030 160 3 rfl rfl) ?_))))))))
 refine zG (Zt 1 [] hn rfl (Zv (zL (awp_loop_on (ι:={x:Nat × Value // x.1 ≤ b.stocks.length}) (fun x=>(4,true,.d (.int .i64 (x.1.1:Nat))) :: anys [10,11,12,13,14,17,18,19,20,21,22,23,24,25,26,27,28,29,30,31,32,33,34,35,15,16]) (fun x=>[(3,.box b3 37 [.val x.1.2,.d (.int .i64 b.jump),.d (.int .i64 b.small)]),(1030,.row x.1.2 160 3 ((b.stocks.take x.1.1).map stkE))]) (fun x=>b.stocks.length - x.1.1) ⟨(0,_),Nat.zero_le _⟩ ⟨.inl rfl,zE _⟩ ⟨.inl rfl,.inl rfl,trivial⟩ ?_))))
 rintro ⟨⟨i,vS⟩,hi⟩
 dsimp only
 refine zB (Zu (Zt 5 [1] hn rfl (Zv (zH rfl (fun hb0=>?_) (fun hb0=>?_)))))
 have hlt:i < b.stocks.length:=by simp at hb0; omega
 obtain ⟨s,hs⟩:=zW hlt
 refine zK (zA (zB (zL (zp (e:=.normal) (ι:=Value) (fun x=>anys [17,18,19,20,21,22,23,24,25,26,27,28,29,30,31,32,33,34,35]) (fun x=>[(3,.box b3 37 [.val x,.d (.int .i64 b.jump),.d (.int .i64 b.small)]),(1030,.row x 160 3 ((b.stocks.take (i + 1)).map stkE))]) (fun hJ1=>?_) ?_))))
 ·
  refine zo (W:=fun b=>b ≠ b1) fmo ?_
  refine Zy [0,2,3,4] [1] hn rfl (Zd 5 rfl hn (q_index (i:=i) rfl rfl rfl underlying22 sz98 rfl (mget hs)) ?_)
  refine Zy [6,7,8,9,10] [1] hn rfl (Zd 11 rfl hn (q_index (i:=i) rfl rfl rfl underlying22 sz98 rfl (mget hs)) ?_)
  refine Zy [12,13] [] hn rfl (zD ?_)
  refine yA 1 [14] (by kernel_rfl) ⟨?_,?_,trivial⟩
  refine br rfl (Zw hn (zb rfl rfl (id:=3) rfl underlying35 rfl rfl sees0)) fun _=>?_
  refine d2_of_d1 (zD (Ze1 14 rfl hn rfl (zFm (s.lo,s.hi)) (d2_of_d1 (Zy [15] [] hn rfl (zD ?_)))))
  refine Zo 16 rfl (zO rfl rfl rfl (nb hn rfl) underlying35 sz160 zr160 rfl rfl rfl (show _ = [.d (.str ⟨#[]⟩),.d (.int .i64 0),.d (.int .i64 0)] from by kernel_rfl) (by kernel_rfl) rfl (z1 (by kernel_rfl) rfl) (zy _) (yH rfl) (zt rfl)) fun _=>?_
  rotate_left
  focus
   refine br rfl (Zc hn (zFm (s.lo,s.hi))) fun _=>?_
   refine d2_of_d1 (Zy [15] [] hn rfl (zD ?_))
   refine yA 1 [16] (by kernel_rfl) ⟨?_,?_,trivial⟩
   refine br rfl (Zw hn (zb rfl rfl (id:=3) rfl underlying35 rfl rfl sees0)) fun _=>?_
   refine d2_of_d1 (zD ?_)
   refine Zo 16 rfl (zO rfl rfl rfl (nb hn rfl) underlying35 sz160 zr160 rfl rfl rfl (show _ = [.d (.str ⟨#[]⟩),.d (.int .i64 0),.d (.int .i64 0)] from by kernel_rfl) (by kernel_rfl) rfl (z1 (by kernel_rfl) rfl) (zy _) (yH rfl) (zt rfl)) fun _=>?_
   rotate_left
   refine br rfl (zO rfl rfl rfl (nb hn rfl) underlying35 sz160 zr160 rfl rfl rfl (show _ = [.d (.str ⟨#[]⟩),.d (.int .i64 0),.d (.int .i64 0)] from by kernel_rfl) (by kernel_rfl) rfl (z1 (by kernel_rfl) rfl) (zy _) (yH rfl) (zt rfl)) fun _=>?_
   refine d2_of_d1 (zD (Ze [1] [3] hn rfl ?_))
   rotate_left
  rotate_left 2
  all_goals
   refine d2_of_d1 (zD (yV (i:=1030) (j:=1) rfl rfl rfl (fun hne1030_1=>?_)))
   refine Zo 17 rfl (s_append (id:=1030) rfl rfl rfl (nb hn rfl) elt35 trivial rfl rfl rfl (by simp [chunk]; omega) (by simp [chunk]; omega) (fun b hb=>(fun e=>hne1030_1 _ hb (congrArg some e.symm)))) fun v34=>?_
   refine d2_of_d1 (Zy [18] [] hn rfl (zD (yV (i:=3) (j:=1) rfl rfl rfl (fun hne3_1=>?_))))
   refine Zo 19 rfl (s_storeRow rfl rfl rfl rfl rfl (rid:=1030) rfl (id:=3) rfl sz35 (Nat.le_of_ble_eq_true rfl) rfl (fun e=>hne3_1 _ rfl (congrArg some e.symm))) fun _=>?_
   refine d2_of_d1 (zD (zl (by kernel_rfl) ?_))
   exact Zj hJ1 v34 (zE _) ⟨.inl rfl,.inl (congrArg (fun z=>some (Res.row v34 160 3 z)) (addK.trans (by rw [take_snoc hs]))),trivial⟩
 rintro vS
 refine zN (zA (zG (Zt 1 [] hn rfl (Zs hn (zr rfl rfl rfl (r:=((i + 1:Nat):Int)) (i64w (by omega) (by omega))) ?_))))
 refine Zt 1 [] hn rfl (zT ?_)
 exact Zr ⟨(i + 1,vS),by omega⟩ ⟨.inl rfl,zE _⟩ ⟨.inl rfl,.inl rfl,trivial⟩ (by simp only; omega)
 have hie:i = b.stocks.length:=by simp at hb0; omega
 subst hie
 rw [List.take_length]
 refine zY (zC (zC (zM (zA (zB (zq (gh_rowcell (id:=3) (k:=0) (rid:=1030) rfl rfl rfl) ?_))))))
 refine zG (Zt 2 [3,2] hn rfl (Zv (zI ?_)))
 exact za (.inl rfl) hl rfl (.cellA rfl (id:=2) rfl underlying37 rfl sz37 rfl rfl)
end Go.Proofs.YticlpkgpmmhemaaGreatDoor
