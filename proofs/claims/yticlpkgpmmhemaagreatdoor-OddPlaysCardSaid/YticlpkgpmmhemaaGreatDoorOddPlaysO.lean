/-
  A part of the proof that contangolaw.OddPlays returns true: what the last text needs, and no more. No condition: no statement of the seat is proved here.
-/
import Derived.Test.YticlpkgpmmhemaaGreatDoorOddPlaysN
namespace Go.Proofs.YticlpkgpmmhemaaGreatDoor
open Go.Proofs.Tryz
open Go.RowKit
set_option maxRecDepth 20000
set_option linter.all false
def thin4 (d : Dsk) : Bool := thinT d.b d.tape.length && decide ((d.orders.length : Int) ≤ 8)
def thinTr (t : Tru) : Bool := decide ((t.prices.length : Int) ≤ 12) && decide ((t.minutes.length : Int) ≤ 12) && decide ((t.orders.length : Int) ≤ 12)
theorem s_appendN {Γ : Cx} {P : Program} {σ : St} {ops : Array Oper} {o : Oper} {W : Nat → Prop} {x y : Operand} {t e : TypeId} {sz bytes id dt : Nat} {fs : List (List D)} (h : o.op = .call { callee := .builtin .append, args := #[x, y], argTypes := #[t, t] })
    (hg : o.guard = none) (hd : o.dst = some dt) (hn : Nat.blt dt Γ.n = true) (hT : ElT P t e sz bytes)
    (hx : σ.ev x = some (true, .d .nil)) (hy : σ.ev y = some (true, .d (.slice sz fs)))
    (hb : (0 + fs.length) * bytes ≤ 140737488355328) (h63 : 0 + fs.length ≤ 9223372036854775807) :
    StepW Γ P ops σ o W fun v' => (σ.put dt true (.val v')).rput id (.row v' e sz fs) := fun a w F hs K Q hK => by
  rw [if_pos (yC hg a)]
  have hx' : a.eval x = .slice none 0 0 := hs.ev hx
  have hu := hs.ev hy
  have hrow : RowOK F w Γ.own (.slice none 0 0) e sz [] := .inl ⟨rfl, rfl⟩
  obtain ⟨v', w', F', hrun, hrow', hcase⟩ := zCg (ty := o.type) hT hs.fcell (fun b hb => .inl (Nat.le_trans hs.hsize hb)) hrow hu hb h63
  have hex : (execOp a.eval o).run P w = .ok (.value v') w' := by
    simp [execOp, h, resolve, invoke, builtin, hx', hrun]
  unfold Oper.wp
  rw [hex]
  show K (a.put o.dst _) _
  rw [hd]
  have hfin : RS Γ (σ.rput id (.row v' e sz fs)) a w' F' := by
    rcases hcase with ⟨e1, hgr, hnew⟩ | ⟨e1, hgr⟩
    · exact (hs.grow hgr).rput hrow' (fun b hb' => by rw [Res.has, e1] at hb'; simp [Value.ownBlock] at hb')
    · refine (hs.grow hgr).rput hrow' (fun b hb' j r' _ hj e2 => ?_)
      rw [Res.has, e1] at hb'
      cases hb'
      exact Nat.lt_irrefl _ (kW (hs.rs j r' hj) e2)
  have hg2 : ∃ but, Grow F F' w w' but ∧ ∀ b, but = some b → W b := by
    rcases hcase with ⟨_, hgr, _⟩ | ⟨_, hgr⟩
    · exact ⟨_, hgr, fun _ e => by simp [Value.ownBlock] at e⟩
    · exact ⟨_, hgr, fun _ e => by cases e⟩
  obtain ⟨but, hg2, hg3⟩ := hg2
  exact hK v' _ _ F' (hfin.put (yd hn) (fun _ => rfl) (fun h => by cases h)) hg2.ext hg2.size (hg2.agree hg3)
theorem addO {α : Type} {f : α → List D} {l : List α} {i : Nat} {x : α} (h : l[i]? = some x) : (l.take i).map f ++ [f x] = (l.take (i + 1)).map f := by rw [← zDL h, List.map_append]; rfl
theorem sz31 : Sz Tryz.prog 31 3 := (by kernel_rfl : (Tryz.prog.info? 31).map (·.size) = some 3)
theorem zr51 : (Tryz.prog.info? 51).map (·.zero) = some (some (.agg #[(.slice none 0 0), (.int .i64 0), (.int .i64 0), (.string ⟨#[]⟩), (.int .i64 0), (.slice none 0 0)])) := by kernel_rfl
theorem bt51 : BT Tryz.prog 51 (.agg #[(.slice none 0 0), (.int .i64 0), (.int .i64 0), (.string ⟨#[]⟩), (.int .i64 0), (.slice none 0 0)]) (fun i => ([(0, 3), (3, 1), (4, 1), (5, 1)] : List (Nat × Nat))[i]?) := yN underlying51 zr51 (by kernel_rfl)
theorem bt152 : BT Tryz.prog 152 (.agg #[(.bool false), (.int .i64 0), (.int .i64 0), (.int .i64 0), (.int .i64 0), (.int .i64 0)]) (fun i => ([(0, 1), (1, 1), (2, 1), (3, 1), (4, 2)] : List (Nat × Nat))[i]?) := yN underlying152 zr152 (by kernel_rfl)
theorem elt49 : ElT Tryz.prog 49 152 6 48 := zAi underlying49 (z := (.agg #[(.bool false), (.int .i64 0), (.int .i64 0), (.int .i64 0), (.int .i64 0), (.int .i64 0)])) (by kernel_rfl) rfl (by decide)
theorem zCf (l : List Int) (h5 : l.length ≤ 1000000) : PureAt Tryz.prog 60 [ints l] (ints l) := by
 refine Zp Tryz.func60 rfl fun Γ hn hl => ?_
 refine Zu ?_
 refine qs 1 hn rfl ?_
 refine Zv (Zu ?_)
 refine qs 1 hn rfl ?_
 refine stepW (s_appendN (id := 4) rfl rfl rfl (nb hn rfl) elt29 rfl rfl (by simp [chunk]; omega) (by simp [chunk]; omega)) fun v4 => ?_
 refine qs 1 hn rfl ?_
 refine Zv (zN ?_)
 refine y4 (g_row (t := 2) (id := 4) rfl rfl) ?_
 refine zm (zi (.inl rfl) hl rfl (.tmp rfl)) ?_
 rfl
theorem zBq (a b : List Int) : PureAt Tryz.prog 50 [ints a, ints b] (.bool (intsB a b)) := by
 refine PureAt.of_awp' Tryz.func50 rfl (by kernel_rfl) rfl fun hlen Γ hn hl => ?_
 have hl1 := hlen.1; have hl2 := hlen.2.1
 simp only [List.length_map] at hl1 hl2
 refine Zu ?_
 refine qs 1 hn rfl ?_
 refine Zv (zE (Zu ?_))
 refine Zq 1 hn rfl (zx rfl rfl underlying29) ?_
 refine Zq 1 hn rfl (zx rfl rfl underlying29) ?_
 refine Zs hn (yT rfl rfl rfl) ?_
 refine Zv ?_
 refine zL rfl (fun hb0 => ?_) (fun hb0 => ?_)
 ·
  have hne : a ≠ b := fun e => by subst e; simp at hb0
  refine Zu ?_
  refine qs 1 hn rfl ?_
  refine Zv (zN (zD ?_))
  refine zm (zi (.inl rfl) hl rfl (.tmp rfl)) ?_
  rw [show intsB a b = false from by rw [Bool.eq_false_iff]; exact fun q => hne (zAc.1 q)]
 have hle : a.length = b.length := by simp at hb0; omega
 refine zO (zC (zE (Zu ?_)))
 refine qs 1 hn rfl ?_
 refine Zv (zQ ?_)
 refine awp_loop_on (ι := {i : Nat // i ≤ a.length ∧ ∀ j, j < i → a[j]? = b[j]?}) (fun x => (5, true, .d (.int .i64 (x.1 : Nat))) :: anys [11, 12, 13, 14, 17, 18, 19, 20, 21, 22, 23, 24, 25, 15, 16]) (fun x => []) (fun x => a.length - x.1) ⟨0, Nat.zero_le _, fun j hj => by omega⟩ ⟨.inl rfl, zK _⟩ trivial ?_
 rintro ⟨i, hi, hall⟩
 dsimp only
 refine zE (Zu ?_)
 refine Zq 2 hn rfl (zx rfl rfl underlying29) ?_
 refine Zs hn (z6 rfl rfl rfl) ?_
 refine Zv ?_
 refine zL rfl (fun hb1 => ?_) (fun hb1 => ?_)
 ·
  have hlt : i < a.length := by simp at hb1; omega
  obtain ⟨x, hx⟩ := zb hlt
  obtain ⟨y, hy⟩ := zb (show i < b.length by omega)
  refine zO (zC (zE (zQ (zE ?_))))
  refine zt (W := fun b => True) fmo ?_
  refine Zd 0 rfl hn (zI rfl rfl) ?_
  refine Zd 1 rfl hn (zI rfl rfl) ?_
  refine Zd 2 rfl hn (q_index (i := i) rfl rfl rfl underlying29 sz3 rfl (mget hx)) ?_
  refine Zd 3 rfl hn (zT rfl rfl underlying3 rfl seesFA) ?_
  refine Zd 4 rfl hn (zI rfl rfl) ?_
  refine Zd 5 rfl hn (zI rfl rfl) ?_
  refine Zd 6 rfl hn (q_index (i := i) rfl rfl rfl underlying29 sz3 rfl (mget hy)) ?_
  refine Zd 7 rfl hn (zT rfl rfl underlying3 rfl seesFA) ?_
  refine Zd 8 rfl hn (yT rfl rfl rfl) ?_
  refine zG ?_
  refine zq (by kernel_rfl) ?_
  refine zC ?_
  refine zL rfl (fun hb2 => ?_) (fun hb2 => ?_)
  ·
   have hne : a ≠ b := fun e => by (subst e; rw [hx] at hy; cases hy; simp at hb2)
   refine Zu ?_
   refine qs 1 hn rfl ?_
   refine Zv (zN (zP (zD (zD (zP (zD ?_))))))
   refine zm (zi (.inl rfl) hl rfl (.tmp rfl)) ?_
   rw [show intsB a b = false from by rw [Bool.eq_false_iff]; exact fun q => hne (zAc.1 q)]
  have hxy : x = y := by simpa using hb2
  refine zO (zR (zC (zM ?_)))
  refine Zq 1 hn rfl (zu rfl rfl rfl (r := ((i + 1 : Nat) : Int)) (i64w (by omega) (by omega))) ?_
  refine qs 1 hn rfl ?_
  refine zZ ?_
  exact Zr ⟨i + 1, by omega, fun j hj => by (by_cases e : j = i; (subst e; rw [hx, hy, hxy]); exact hall j (by omega))⟩ ⟨.inl rfl, zK _⟩ trivial (by simp only; omega)
 have hie : i = a.length := by simp at hb1; omega
 refine zh (zF (zF (zS (zC (Zu ?_)))))
 refine qs 1 hn rfl ?_
 refine Zv (zN ?_)
 refine zm (zi (.inl rfl) hl rfl (.tmp rfl)) ?_
 rw [show intsB a b = true from zAc.2 (List.ext_getElem? fun j => by (by_cases e : j < i; exact hall j e; rw [List.getElem?_eq_none (by omega), List.getElem?_eq_none (by omega)]))]
theorem kg (d : Dsk) (h5 : d.b.stocks.length ≤ 1000) (ho : d.orders.length ≤ 1000) : PureAt Tryz.prog 23 [dskD d] (dskD d) := by
 refine Zp Tryz.func23 rfl fun Γ hn hl => ?_
 refine Zu ?_
 refine stepW (zn 1 rfl rfl rfl (nb hn rfl) rfl rfl) fun b1 => ?_
 refine stepW (zf 2 rfl rfl rfl (nb hn rfl) zr51 rfl rfl) fun b2 => ?_
 refine Zv (zE ?_)
 refine zt (W := fun b => b ≠ b1) fmo ?_
 refine Zd 0 rfl hn (zB rfl rfl underlying27 rfl sz24) ?_
 refine Zd 1 rfl hn (zU rfl rfl (id := 1) rfl underlying24 rfl sz24 rfl rfl (seesA (by simp))) ?_
 refine Zd 3 rfl hn (zB rfl rfl underlying27 rfl sz9) ?_
 refine Zd 4 rfl hn (zJ rfl rfl (id := 1) rfl underlying9 rfl rfl (seesA (by simp))) ?_
 refine Zd 5 rfl hn (zB rfl rfl underlying27 rfl sz3) ?_
 refine Zd 6 rfl hn (zJ rfl rfl (id := 1) rfl underlying3 rfl rfl (seesA (by simp))) ?_
 refine zG ?_
 refine yR 2 [8] (by kernel_rfl) ⟨?_, ?_, trivial⟩
 ·
  refine br rfl (Zc hn (zC1 d.b h5)) fun _ => ?_
  refine d2_of_d1 ?_
  refine Zd 7 rfl hn (zX rfl bt51 rfl rfl rfl rfl rfl) ?_
  refine zG ?_
  refine Zo 8 rfl (zf 3 rfl rfl rfl (nb hn rfl) zr51 rfl rfl) fun b3 => ?_
  refine d2_of_d1 (zG ?_)
  refine yW (i := 3) (j := 1) rfl rfl rfl (fun hne3_1 => ?_)
  refine Zo 9 rfl (yL rfl rfl rfl rfl rfl rfl (id := 3) rfl sz51 rfl (Nat.le_of_ble_eq_true rfl) rfl (fun e => hne3_1 _ rfl (congrArg some e.symm))) fun _ => ?_
  refine d2_of_d1 (zG ?_)
  refine zq (by kernel_rfl) ?_
  refine zC (zE (zE ?_))
  refine yJ (gh_nilcell (id := 3) (k := 5) 1040 152 6 rfl rfl) ?_
  refine zM ?_
  refine qs 1 hn rfl ?_
  refine Zv (zQ ?_)
  refine awp_loop_on (ι := {x : Nat × Value // x.1 ≤ d.orders.length}) (fun x => (4, true, .d (.int .i64 (x.1.1 : Nat))) :: anys [14, 15, 16, 17, 18, 21, 22, 23, 24, 25, 5, 26, 27, 28, 29, 30, 31, 32, 33, 34, 35, 36, 37, 38, 39, 40, 41, 42, 43, 44, 45, 46, 19, 20]) (fun x => (3, .box b3 51 [.d (stksD d.b.stocks), .d (.int .i64 d.b.jump), .d (.int .i64 d.b.small), .d (strD d.tape), .d (.int .i64 d.fee), .val x.1.2]) :: (1040, .row x.1.2 152 6 ((d.orders.take x.1.1).map ordE)) :: gones [5]) (fun x => d.orders.length - x.1.1) ⟨(0, _), Nat.zero_le _⟩ ⟨.inl rfl, zK _⟩ ⟨.inl rfl, .inl rfl, zY _⟩ ?_
  rintro ⟨⟨i, vv⟩, hi⟩
  dsimp only
  dsimp only at hi
  refine zE (Zu ?_)
  refine Zq 1 hn rfl (zB rfl rfl underlying27 rfl sz25) ?_
  refine Zs hn (zJ rfl rfl (id := 1) rfl underlying25 rfl rfl sees0) ?_
  refine Zs hn (zx rfl rfl underlying25) ?_
  refine Zs hn (z6 rfl rfl rfl) ?_
  refine Zv ?_
  refine zL rfl (fun hb0 => ?_) (fun hb0 => ?_)
  ·
   have hil : i < d.orders.length := by simp at hb0; omega
   obtain ⟨o, hod⟩ := zb hil
   refine zO (zC (zE (zQ (Zu ?_))))
   refine Zs hn (zB rfl rfl underlying27 rfl sz25) ?_
   refine Zs hn (zJ rfl rfl (id := 1) rfl underlying25 rfl rfl sees0) ?_
   refine Zq 1 hn rfl (q_index (i := i) rfl rfl rfl underlying25 sz61 rfl (mget hod)) ?_
   refine Zs hn (zk rfl rfl underlying61 rfl sz61 rfl rfl seesF0) ?_
   refine stepW (zf 5 rfl rfl rfl (nb hn rfl) zr61 rfl rfl) fun b5 => ?_
   refine stepW (Zx 5 sz61) fun _ => ?_
   refine Zv (zM ?_)
   refine Zs hn (zB rfl rfl underlying51 rfl sz49) ?_
   refine Zs hn (zJ rfl rfl (id := 3) rfl underlying49 rfl rfl sees0) ?_
   refine Zs hn (zB rfl rfl underlying61 rfl sz4) ?_
   refine Zs hn (zJ rfl rfl (id := 5) rfl underlying4 rfl rfl sees0) ?_
   refine Zs hn (zB rfl rfl underlying61 rfl sz3) ?_
   refine Zs hn (zJ rfl rfl (id := 5) rfl underlying3 rfl rfl sees0) ?_
   refine Zs hn (zB rfl rfl underlying61 rfl sz3) ?_
   refine Zs hn (zJ rfl rfl (id := 5) rfl underlying3 rfl rfl sees0) ?_
   refine Zs hn (zB rfl rfl underlying61 rfl sz3) ?_
   refine Zs hn (zJ rfl rfl (id := 5) rfl underlying3 rfl rfl sees0) ?_
   refine Zs hn (zB rfl rfl underlying61 rfl sz59) ?_
   refine Zs hn (zB rfl rfl underlying59 rfl sz3) ?_
   refine Zs hn (zJ rfl rfl (id := 5) rfl underlying3 rfl rfl sees0) ?_
   refine Zs hn (zB rfl rfl underlying61 rfl sz59) ?_
   refine Zs hn (zB rfl rfl underlying59 rfl sz3) ?_
   refine Zs hn (zJ rfl rfl (id := 5) rfl underlying3 rfl rfl sees0) ?_
   refine Zs hn (zX rfl bt66 rfl rfl rfl rfl rfl) ?_
   refine Zs hn (zX rfl bt152 rfl rfl rfl rfl rfl) ?_
   refine stepW (za rfl rfl rfl (nb hn rfl) underlying49 sz152 zr152 rfl rfl rfl (show _ = [.d (.bool false), .d (.int .i64 0), .d (.int .i64 0), .d (.int .i64 0), .d (.int .i64 0), .d (.int .i64 0)] from by kernel_rfl) (by kernel_rfl) rfl rfl rfl rfl rfl) fun _ => ?_
   refine stepW (s_append (id := 1040) rfl rfl rfl (nb hn rfl) elt49 trivial rfl rfl rfl (by simp [chunk, List.length_take]; omega) (by simp [chunk, List.length_take]; omega) (fun b hb => trivial)) fun v45 => ?_
   refine Zs hn (zB rfl rfl underlying51 rfl sz49) ?_
   refine stepW (s_storeRow rfl rfl rfl rfl rfl (rid := 1040) rfl (id := 3) rfl sz49 (Nat.le_of_ble_eq_true rfl) rfl trivial) fun _ => ?_
   refine zZ (zR (zC (zM ?_)))
   refine Zq 1 hn rfl (zu rfl rfl rfl (r := ((i + 1 : Nat) : Int)) (i64w (by omega) (by omega))) ?_
   refine qs 1 hn rfl ?_
   refine zZ ?_
   exact Zr ⟨(i + 1, v45), by simp only; omega⟩ ⟨.inl rfl, zK _⟩ ⟨.inl rfl, .inl (congrArg (fun z => some (Res.row v45 152 6 z)) (addO hod)), zY _⟩ (by simp only; omega)
  obtain rfl : i = d.orders.length := by simp at hb0; omega
  rw [List.take_length]
  refine zh (zF (zF (zS (zC (zE ?_)))))
  refine yJ (gh_rowcell (id := 3) (k := 5) (rid := 1040) rfl rfl rfl) ?_
  refine zM ?_
  refine Zs hn (zU rfl rfl (id := 3) rfl underlying51 rfl sz51 rfl rfl sees0) ?_
  refine stepW (Zx 2 sz51) fun _ => ?_
  refine Zv (zN ?_)
  exact zi (.inl rfl) hl rfl (.cellA rfl (id := 2) rfl underlying51 rfl sz51 rfl rfl)
 refine br rfl (zf 3 rfl rfl rfl (nb hn rfl) zr51 rfl rfl) fun b3 => ?_
 refine d2_of_d1 (zG ?_)
 refine Zo 2 rfl (Zc hn (zC1 d.b h5)) fun _ => ?_
 refine d2_of_d1 ?_
 refine Zd 7 rfl hn (zX rfl bt51 rfl rfl rfl rfl rfl) ?_
 refine zG ?_
 refine yW (i := 3) (j := 1) rfl rfl rfl (fun hne3_1 => ?_)
 refine Zo 9 rfl (yL rfl rfl rfl rfl rfl rfl (id := 3) rfl sz51 rfl (Nat.le_of_ble_eq_true rfl) rfl (fun e => hne3_1 _ rfl (congrArg some e.symm))) fun _ => ?_
 refine d2_of_d1 (zG ?_)
 refine zq (by kernel_rfl) ?_
 refine zC (zE (zE ?_))
 refine yJ (gh_nilcell (id := 3) (k := 5) 1040 152 6 rfl rfl) ?_
 refine zM ?_
 refine qs 1 hn rfl ?_
 refine Zv (zQ ?_)
 refine awp_loop_on (ι := {x : Nat × Value // x.1 ≤ d.orders.length}) (fun x => (4, true, .d (.int .i64 (x.1.1 : Nat))) :: anys [14, 15, 16, 17, 18, 21, 22, 23, 24, 25, 5, 26, 27, 28, 29, 30, 31, 32, 33, 34, 35, 36, 37, 38, 39, 40, 41, 42, 43, 44, 45, 46, 19, 20]) (fun x => (3, .box b3 51 [.d (stksD d.b.stocks), .d (.int .i64 d.b.jump), .d (.int .i64 d.b.small), .d (strD d.tape), .d (.int .i64 d.fee), .val x.1.2]) :: (1040, .row x.1.2 152 6 ((d.orders.take x.1.1).map ordE)) :: gones [5]) (fun x => d.orders.length - x.1.1) ⟨(0, _), Nat.zero_le _⟩ ⟨.inl rfl, zK _⟩ ⟨.inl rfl, .inl rfl, zY _⟩ ?_
 rintro ⟨⟨i, vv⟩, hi⟩
 dsimp only
 dsimp only at hi
 refine zE (Zu ?_)
 refine Zq 1 hn rfl (zB rfl rfl underlying27 rfl sz25) ?_
 refine Zs hn (zJ rfl rfl (id := 1) rfl underlying25 rfl rfl sees0) ?_
 refine Zs hn (zx rfl rfl underlying25) ?_
 refine Zs hn (z6 rfl rfl rfl) ?_
 refine Zv ?_
 refine zL rfl (fun hb1 => ?_) (fun hb1 => ?_)
 ·
  have hil : i < d.orders.length := by simp at hb1; omega
  obtain ⟨o, hod⟩ := zb hil
  refine zO (zC (zE (zQ (Zu ?_))))
  refine Zs hn (zB rfl rfl underlying27 rfl sz25) ?_
  refine Zs hn (zJ rfl rfl (id := 1) rfl underlying25 rfl rfl sees0) ?_
  refine Zq 1 hn rfl (q_index (i := i) rfl rfl rfl underlying25 sz61 rfl (mget hod)) ?_
  refine Zs hn (zk rfl rfl underlying61 rfl sz61 rfl rfl seesF0) ?_
  refine stepW (zf 5 rfl rfl rfl (nb hn rfl) zr61 rfl rfl) fun b5 => ?_
  refine stepW (Zx 5 sz61) fun _ => ?_
  refine Zv (zM ?_)
  refine Zs hn (zB rfl rfl underlying51 rfl sz49) ?_
  refine Zs hn (zJ rfl rfl (id := 3) rfl underlying49 rfl rfl sees0) ?_
  refine Zs hn (zB rfl rfl underlying61 rfl sz4) ?_
  refine Zs hn (zJ rfl rfl (id := 5) rfl underlying4 rfl rfl sees0) ?_
  refine Zs hn (zB rfl rfl underlying61 rfl sz3) ?_
  refine Zs hn (zJ rfl rfl (id := 5) rfl underlying3 rfl rfl sees0) ?_
  refine Zs hn (zB rfl rfl underlying61 rfl sz3) ?_
  refine Zs hn (zJ rfl rfl (id := 5) rfl underlying3 rfl rfl sees0) ?_
  refine Zs hn (zB rfl rfl underlying61 rfl sz3) ?_
  refine Zs hn (zJ rfl rfl (id := 5) rfl underlying3 rfl rfl sees0) ?_
  refine Zs hn (zB rfl rfl underlying61 rfl sz59) ?_
  refine Zs hn (zB rfl rfl underlying59 rfl sz3) ?_
  refine Zs hn (zJ rfl rfl (id := 5) rfl underlying3 rfl rfl sees0) ?_
  refine Zs hn (zB rfl rfl underlying61 rfl sz59) ?_
  refine Zs hn (zB rfl rfl underlying59 rfl sz3) ?_
  refine Zs hn (zJ rfl rfl (id := 5) rfl underlying3 rfl rfl sees0) ?_
  refine Zs hn (zX rfl bt66 rfl rfl rfl rfl rfl) ?_
  refine Zs hn (zX rfl bt152 rfl rfl rfl rfl rfl) ?_
  refine stepW (za rfl rfl rfl (nb hn rfl) underlying49 sz152 zr152 rfl rfl rfl (show _ = [.d (.bool false), .d (.int .i64 0), .d (.int .i64 0), .d (.int .i64 0), .d (.int .i64 0), .d (.int .i64 0)] from by kernel_rfl) (by kernel_rfl) rfl rfl rfl rfl rfl) fun _ => ?_
  refine stepW (s_append (id := 1040) rfl rfl rfl (nb hn rfl) elt49 trivial rfl rfl rfl (by simp [chunk, List.length_take]; omega) (by simp [chunk, List.length_take]; omega) (fun b hb => trivial)) fun v45 => ?_
  refine Zs hn (zB rfl rfl underlying51 rfl sz49) ?_
  refine stepW (s_storeRow rfl rfl rfl rfl rfl (rid := 1040) rfl (id := 3) rfl sz49 (Nat.le_of_ble_eq_true rfl) rfl trivial) fun _ => ?_
  refine zZ (zR (zC (zM ?_)))
  refine Zq 1 hn rfl (zu rfl rfl rfl (r := ((i + 1 : Nat) : Int)) (i64w (by omega) (by omega))) ?_
  refine qs 1 hn rfl ?_
  refine zZ ?_
  exact Zr ⟨(i + 1, v45), by simp only; omega⟩ ⟨.inl rfl, zK _⟩ ⟨.inl rfl, .inl (congrArg (fun z => some (Res.row v45 152 6 z)) (addO hod)), zY _⟩ (by simp only; omega)
 obtain rfl : i = d.orders.length := by simp at hb1; omega
 rw [List.take_length]
 refine zh (zF (zF (zS (zC (zE ?_)))))
 refine yJ (gh_rowcell (id := 3) (k := 5) (rid := 1040) rfl rfl rfl) ?_
 refine zM ?_
 refine Zs hn (zU rfl rfl (id := 3) rfl underlying51 rfl sz51 rfl rfl sees0) ?_
 refine stepW (Zx 2 sz51) fun _ => ?_
 refine Zv (zN ?_)
 exact zi (.inl rfl) hl rfl (.cellA rfl (id := 2) rfl underlying51 rfl sz51 rfl rfl)
theorem k9 (t : Tru) (h1 : t.prices.length ≤ 1000000) (h2 : t.minutes.length ≤ 1000000) (h3 : t.orders.length ≤ 1000000) : PureAt Tryz.prog 25 [truD t] (truD t) := by
 refine Zp Tryz.func25 rfl fun Γ hn hl => ?_
 refine Zu ?_
 refine stepW (zn 1 rfl rfl rfl (nb hn rfl) rfl rfl) fun b1 => ?_
 refine stepW (zf 2 rfl rfl rfl (nb hn rfl) zr56 rfl rfl) fun b2 => ?_
 refine Zv (zE ?_)
 refine zt (W := fun b => b ≠ b1) fmo ?_
 refine Zd 0 rfl hn (zB rfl rfl underlying31 rfl sz29) ?_
 refine Zd 1 rfl hn (zJ rfl rfl (id := 1) rfl underlying29 rfl rfl (seesA (by simp))) ?_
 refine Zd 3 rfl hn (zB rfl rfl underlying31 rfl sz29) ?_
 refine Zd 4 rfl hn (zJ rfl rfl (id := 1) rfl underlying29 rfl rfl (seesA (by simp))) ?_
 refine Zd 6 rfl hn (zB rfl rfl underlying31 rfl sz29) ?_
 refine Zd 7 rfl hn (zJ rfl rfl (id := 1) rfl underlying29 rfl rfl (seesA (by simp))) ?_
 refine zG ?_
 refine Zo 2 rfl (Zc hn (zCf t.prices h1)) fun _ => ?_
 refine d2_of_d1 (zG ?_)
 refine Zo 5 rfl (Zc hn (zCf t.minutes h2)) fun _ => ?_
 refine d2_of_d1 (zG ?_)
 refine Zo 8 rfl (Zc hn (zCf t.orders h3)) fun _ => ?_
 refine d2_of_d1 ?_
 refine Zd 9 rfl hn (zX rfl bt56 rfl rfl rfl rfl rfl) ?_
 refine zG ?_
 refine yW (i := 2) (j := 1) rfl rfl rfl (fun hne2_1 => ?_)
 refine Zo 10 rfl (yL rfl rfl rfl rfl rfl rfl (id := 2) rfl sz56 rfl (Nat.le_of_ble_eq_true rfl) rfl (fun e => hne2_1 _ rfl (congrArg some e.symm))) fun _ => ?_
 refine d2_of_d1 (zG ?_)
 refine zq (by kernel_rfl) ?_
 refine zC (zN ?_)
 exact zi (.inl rfl) hl rfl (.cellA rfl (id := 2) rfl underlying56 rfl sz56 rfl rfl)
theorem Thin4_ok (d : Dsk) (hN : NamesOK d.b) : PureAt Tryz.prog 66 [dskD d] (.bool (thin4 d)) := by
 refine Zp Tryz.func66 rfl fun Γ hn hl => ?_
 refine Zu ?_
 refine stepW (zn 1 rfl rfl rfl (nb hn rfl) rfl rfl) fun b1 => ?_
 refine qs 1 hn rfl ?_
 refine Zv (Zu ?_)
 refine Zs hn (zB rfl rfl underlying27 rfl sz24) ?_
 refine Zs hn (zU rfl rfl (id := 1) rfl underlying24 rfl sz24 rfl rfl sees0) ?_
 refine Zs hn (zB rfl rfl underlying27 rfl sz9) ?_
 refine Zs hn (zJ rfl rfl (id := 1) rfl underlying9 rfl rfl sees0) ?_
 refine stepW (Zc hn (Thin_ok d.b d.tape hN)) fun _ => ?_
 refine qs 1 hn rfl ?_
 refine Zh [] (zA rfl rfl rfl) hn (fun hc => trivial) (fun hc => zB rfl rfl underlying27 rfl sz25) ?_
 refine Zh [(9, _)] (zA rfl rfl rfl) hn (fun hc => ⟨⟨_, rfl, hc⟩, trivial⟩) (fun hc => zJ rfl rfl (id := 1) rfl underlying25 rfl rfl sees0) ?_
 refine Zh [(10, _)] (zA rfl rfl rfl) hn (fun hc => ⟨⟨_, rfl, hc⟩, trivial⟩) (fun hc => zx rfl rfl underlying25) ?_
 refine Zh [(11, _)] (zA rfl rfl rfl) hn (fun hc => ⟨⟨_, rfl, hc⟩, trivial⟩) (fun hc => yi rfl rfl rfl) ?_
 refine Zs hn (zv rfl rfl rfl (by intro hB; first | (rw [hB]; rfl) | (rw [hB, hc]; rfl) | simp_all)) ?_
 refine qs 1 hn rfl ?_
 refine Zv (zN ?_)
 refine zm (zi (.inl rfl) hl rfl (.tmp rfl)) ?_
 unfold thin4; rw [List.length_map]
theorem ThinTr_ok (t : Tru) : PureAt Tryz.prog 67 [truD t] (.bool (thinTr t)) := by
 refine Zp Tryz.func67 rfl fun Γ hn hl => ?_
 refine Zu ?_
 refine stepW (zn 1 rfl rfl rfl (nb hn rfl) rfl rfl) fun b1 => ?_
 refine qs 1 hn rfl ?_
 refine Zv (Zu ?_)
 refine Zs hn (zB rfl rfl underlying31 rfl sz29) ?_
 refine Zs hn (zJ rfl rfl (id := 1) rfl underlying29 rfl rfl sees0) ?_
 refine Zs hn (zx rfl rfl underlying29) ?_
 refine Zs hn (yi rfl rfl rfl) ?_
 refine qs 1 hn rfl ?_
 refine Zh [] (zA rfl rfl rfl) hn (fun hc => trivial) (fun hc => zB rfl rfl underlying31 rfl sz29) ?_
 refine Zh [(8, _)] (zA rfl rfl rfl) hn (fun hc => ⟨⟨_, rfl, hc⟩, trivial⟩) (fun hc => zJ rfl rfl (id := 1) rfl underlying29 rfl rfl sees0) ?_
 refine Zh [(9, _)] (zA rfl rfl rfl) hn (fun hc => ⟨⟨_, rfl, hc⟩, trivial⟩) (fun hc => zx rfl rfl underlying29) ?_
 refine Zh [(10, _)] (zA rfl rfl rfl) hn (fun hc => ⟨⟨_, rfl, hc⟩, trivial⟩) (fun hc => yi rfl rfl rfl) ?_
 refine Zs hn (zv rfl rfl rfl (by intro hB; first | (rw [hB]; rfl) | (rw [hB, hc]; rfl) | simp_all)) ?_
 refine qs 1 hn rfl ?_
 refine Zh [] (zA rfl rfl rfl) hn (fun hc => trivial) (fun hc => zB rfl rfl underlying31 rfl sz29) ?_
 refine Zh [(14, _)] (zA rfl rfl rfl) hn (fun hc => ⟨⟨_, rfl, hc⟩, trivial⟩) (fun hc => zJ rfl rfl (id := 1) rfl underlying29 rfl rfl sees0) ?_
 refine Zh [(15, _)] (zA rfl rfl rfl) hn (fun hc => ⟨⟨_, rfl, hc⟩, trivial⟩) (fun hc => zx rfl rfl underlying29) ?_
 refine Zh [(16, _)] (zA rfl rfl rfl) hn (fun hc => ⟨⟨_, rfl, hc⟩, trivial⟩) (fun hc => yi rfl rfl rfl) ?_
 refine Zs hn (zv rfl rfl rfl (by intro hB; first | (rw [hB]; rfl) | (rw [hB, hc]; rfl) | simp_all)) ?_
 refine qs 1 hn rfl ?_
 refine Zv (zN ?_)
 refine zm (zi (.inl rfl) hl rfl (.tmp rfl)) ?_
 unfold thinTr; simp only [List.length_map]
theorem kF (a b : Int) : PureAt Tryz.prog 53 [.int .i64 a, .int .i64 b] (rngD (a, b)) := by
 refine Zp Tryz.func53 rfl fun Γ hn hl => ?_
 refine Zu ?_
 refine stepW (zf 4 rfl rfl rfl (nb hn rfl) zr66 rfl rfl) fun b4 => ?_
 refine Zv (Zu ?_)
 refine Zq 2 hn rfl (zX rfl bt66 rfl rfl rfl rfl rfl) ?_
 refine stepW (Zx 4 sz66) fun _ => ?_
 refine Zv (zN ?_)
 exact zi (.inl rfl) hl rfl (.cellA rfl (id := 4) rfl underlying66 rfl sz66 rfl rfl)
end Go.Proofs.YticlpkgpmmhemaaGreatDoor
namespace Go.Proofs.YticlpkgpmmhemaaGreatDoor
open Go.Proofs.Tryz
open Go.RowKit
set_option maxRecDepth 20000
set_option linter.all false
set_option maxHeartbeats 4000000
def lateS : List UInt8 := [64, 53, 32, 65, 66, 32, 51, 115, 32, 56, 46, 50, 32, 76, 49, 45, 50, 32, 64, 55, 32, 56, 46, 53, 32, 67, 32, 48, 46, 49, 32, 33, 32, 64, 56, 32, 48, 46, 55, 32, 63]
def latL4 : List Prt := [⟨0, 3, 3, 66, false, 5, 0, 0⟩, ⟨0, 1, 1, 69, false, 7, 1, 2⟩, ⟨1, 1, 1, 1, false, 7, 1, 2⟩, ⟨1, 1, 4, 7, false, 8, 1, 2⟩]
def twoB : Brd := ⟨[⟨[65, 66], 300, 310⟩, ⟨[67], 75, 79⟩], 10, 4⟩
def thrO : List Ord := [⟨true, 0, 10, 0, 4, 5⟩, ⟨false, 0, 20, 308, 5, 5⟩, ⟨true, 1, 30, 85, 4, 6⟩]
def threeD : Dsk := ⟨twoB, lateS, 1, thrO⟩
def toldT : Tru := ⟨[306, 309, 81, 87], [5, 6, 6, 7], [5, 5, 6]⟩
def lateM : List (Int × Int) := [(5, 5), (5, 6), (5, 6), (6, 7)]
theorem two_valid : checkT twoB = 0 := by kernel_rfl
theorem zAU : readI twoB lateS = (latL4, 0) := by rw [← zEk two_valid]; kernel_rfl
theorem t_prices : (pricesI twoB lateS).2 = 0 := by unfold pricesI; rw [zAU]; kernel_rfl
theorem zAZ : minutesI twoB lateS = (lateM, 0) := by unfold minutesI; rw [zAU]; kernel_rfl
theorem zFM : deskI threeD = 0 := by unfold deskI; rw [show readI threeD.b threeD.tape = (latL4, 0) from zAU]; kernel_rfl
theorem zEP (os : List Int) (h : (os.all fun n => withinB n 0 ((threeD.orders.length : Int) - 1)) = true) : sureO threeD os = 0 := by
  unfold sureO
  rw [zFM, h, show (pricesI threeD.b threeD.tape).2 = 0 from t_prices, show minutesI threeD.b threeD.tape = (lateM, 0) from zAZ]; rfl
theorem t_sales0 : salesI threeD 0 = ([0, 1], 0) := by
  unfold salesI
  rw [zEP [0] (by kernel_rfl), show readI threeD.b threeD.tape = (latL4, 0) from zAU, show minutesI threeD.b threeD.tape = (lateM, 0) from zAZ]; kernel_rfl
theorem t_bounds : boundsI threeD = ([(307, 310), (308, 308), (82, 82)], 0) := by
  unfold boundsI
  rw [zEP [] (by kernel_rfl), show readI threeD.b threeD.tape = (latL4, 0) from zAU, show minutesI threeD.b threeD.tape = (lateM, 0) from zAZ]; kernel_rfl
theorem t_verds : verdsI threeD = ([3, 3, 3], 0) := by
  unfold verdsI
  rw [zEP [] (by kernel_rfl), show readI threeD.b threeD.tape = (latL4, 0) from zAU, show minutesI threeD.b threeD.tape = (lateM, 0) from zAZ]; kernel_rfl
theorem t_truth : truthW threeD (readI threeD.b threeD.tape).1 toldT = true := by
  unfold truthW
  rw [zDX, show readI threeD.b threeD.tape = (latL4, 0) from zAU]; kernel_rfl
theorem zGS : playI threeD toldT = ([(1, 310), (1, 308), (-1, 0)], 0) := by
  unfold playI
  rw [zFM, t_truth, show readI threeD.b threeD.tape = (latL4, 0) from zAU]; kernel_rfl
theorem t_has : hasI threeD toldT = ([10, 0], -3060, 0) := by unfold hasI; rw [zGS]; kernel_rfl
theorem t_show {x : Tru × Int} (h : ShowR threeD 0 true x.1 x.2) : ∃ t, x = (t, 0) ∧ (deskI threeD == 0 && truthW threeD (readI threeD.b threeD.tape).1 t) = true := by
  have hb : (bndI threeD.b (readI threeD.b threeD.tape).1 threeD.fee (threeD.orders.getD (0 : Int).toNat ord0) (minutesI threeD.b threeD.tape).1).2 = true := by
    rw [show readI threeD.b threeD.tape = (latL4, 0) from zAU, show minutesI threeD.b threeD.tape = (lateM, 0) from zAZ]; kernel_rfl
  obtain ⟨t, e⟩ := x
  have he : e = 0 := by
    change ShowR threeD 0 true t e at h
    cases h with
    | bad h1 => exact (h1 (zEP [0] (by kernel_rfl))).elim
    | no _ h2 => rw [hb] at h2; cases h2
    | yes => rfl
  subst he
  obtain ⟨_, hT, _⟩ := show_yes (d := threeD) (q := 0) (o := ⟨true, 0, 10, 0, 4, 5⟩) (high := true) rfl h
  exact ⟨t, rfl, by rw [zFM, (zAM (by rw [show readI threeD.b threeD.tape = (latL4, 0) from zAU])).2 hT]; rfl⟩
theorem y2 : NamesOK threeD.b := fun s hs => by
  have hs : s ∈ [(⟨[65, 66], 300, 310⟩ : Stk), ⟨[67], 75, 79⟩] := hs
  simp only [List.mem_cons, List.not_mem_nil, or_false] at hs
  rcases hs with rfl | rfl <;> simp
theorem zr24 : (Tryz.prog.info? 24).map (·.zero) = some (some (.agg #[(.slice none 0 0), (.int .i64 0), (.int .i64 0)])) := by kernel_rfl
theorem bt24 : BT Tryz.prog 24 (.agg #[(.slice none 0 0), (.int .i64 0), (.int .i64 0)]) (fun i => ([(0, 1), (1, 1), (2, 1)] : List (Nat × Nat))[i]?) := yN underlying24 zr24 (by kernel_rfl)
theorem bt98 : BT Tryz.prog 98 (.agg #[(.string ⟨#[]⟩), (.int .i64 0), (.int .i64 0)]) (fun i => ([(0, 1), (1, 2)] : List (Nat × Nat))[i]?) := yN underlying98 zr98 (by kernel_rfl)
theorem kO  : PureAt Tryz.prog 69 [] (dskD threeD) := by
 refine Zp Tryz.func69 rfl fun Γ hn hl => ?_
 refine Zu ?_
 refine stepW (zf 0 rfl rfl rfl (nb hn rfl) zr51 rfl rfl) fun b0 => ?_
 refine Zv (Zu ?_)
 refine Zs hn (zX rfl bt59 rfl rfl rfl rfl rfl) ?_
 refine Zs hn (zX rfl bt98 rfl rfl rfl rfl rfl) ?_
 refine Zs hn (zX rfl bt59 rfl rfl rfl rfl rfl) ?_
 refine Zs hn (zX rfl bt98 rfl rfl rfl rfl rfl) ?_
 refine stepW (za rfl rfl rfl (nb hn rfl) underlying22 sz98 zr98 rfl rfl rfl (show _ = [.d (.str ⟨#[]⟩), .d (.int .i64 0), .d (.int .i64 0), .d (.str ⟨#[]⟩), .d (.int .i64 0), .d (.int .i64 0)] from by kernel_rfl) (by kernel_rfl) rfl rfl rfl rfl rfl) fun _ => ?_
 refine Zs hn (zX rfl bt24 rfl rfl rfl rfl rfl) ?_
 refine stepW (Zc hn (zC1 twoB (by decide))) fun _ => ?_
 refine stepW (Zc hn (kF _ _)) fun _ => ?_
 refine Zs hn (zX rfl bt152 rfl rfl rfl rfl rfl) ?_
 refine stepW (Zc hn (kF _ _)) fun _ => ?_
 refine Zs hn (zX rfl bt152 rfl rfl rfl rfl rfl) ?_
 refine stepW (Zc hn (kF _ _)) fun _ => ?_
 refine Zs hn (zX rfl bt152 rfl rfl rfl rfl rfl) ?_
 refine stepW (za rfl rfl rfl (nb hn rfl) underlying49 sz152 zr152 rfl rfl rfl (show _ = [.d (.bool false), .d (.int .i64 0), .d (.int .i64 0), .d (.int .i64 0), .d (.int .i64 0), .d (.int .i64 0), .d (.bool false), .d (.int .i64 0), .d (.int .i64 0), .d (.int .i64 0), .d (.int .i64 0), .d (.int .i64 0), .d (.bool false), .d (.int .i64 0), .d (.int .i64 0), .d (.int .i64 0), .d (.int .i64 0), .d (.int .i64 0)] from by kernel_rfl) (by kernel_rfl) rfl rfl rfl rfl rfl) fun _ => ?_
 refine Zs hn (zX rfl bt51 rfl rfl rfl rfl rfl) ?_
 refine stepW (Zx 0 sz51) fun _ => ?_
 refine Zv (zN ?_)
 exact zi (.inl rfl) hl rfl (.cellA rfl (id := 0) rfl underlying51 rfl sz51 rfl rfl)
theorem zEz  : PureAt Tryz.prog 70 [] (truD toldT) := by
 refine Zp Tryz.func70 rfl fun Γ hn hl => ?_
 refine Zu ?_
 refine stepW (zf 0 rfl rfl rfl (nb hn rfl) zr56 rfl rfl) fun b0 => ?_
 refine Zv (Zu ?_)
 refine stepW (za rfl rfl rfl (nb hn rfl) underlying29 sz3 zr3 rfl rfl rfl (show _ = [.d (.int .i64 0), .d (.int .i64 0), .d (.int .i64 0), .d (.int .i64 0)] from by kernel_rfl) (by kernel_rfl) rfl rfl rfl rfl rfl) fun _ => ?_
 refine stepW (za rfl rfl rfl (nb hn rfl) underlying29 sz3 zr3 rfl rfl rfl (show _ = [.d (.int .i64 0), .d (.int .i64 0), .d (.int .i64 0), .d (.int .i64 0)] from by kernel_rfl) (by kernel_rfl) rfl rfl rfl rfl rfl) fun _ => ?_
 refine stepW (za rfl rfl rfl (nb hn rfl) underlying29 sz3 zr3 rfl rfl rfl (show _ = [.d (.int .i64 0), .d (.int .i64 0), .d (.int .i64 0)] from by kernel_rfl) (by kernel_rfl) rfl rfl rfl rfl rfl) fun _ => ?_
 refine Zs hn (zX rfl bt56 rfl rfl rfl rfl rfl) ?_
 refine stepW (Zx 0 sz56) fun _ => ?_
 refine Zv (zN ?_)
 exact zi (.inl rfl) hl rfl (.cellA rfl (id := 0) rfl underlying56 rfl sz56 rfl rfl)
theorem awake4_eff  : EffAt Tryz.prog 45 [] [] (X := Unit) (fun _ => .d (.bool true)) (fun _ => []) := by
 refine EffAt.of_awp Tryz.func45 rfl (by kernel_rfl) rfl fun Γ hn => ?_
 refine Zu ?_
 refine qs 1 hn rfl ?_
 refine Zv (Zu ?_)
 refine stepW (Zc hn (kO)) fun _ => ?_
 refine stepW (Zc hn ((by have h := Sales4_ok threeD y2 (by decide) (by decide) 0; rw [t_sales0] at h; exact h))) fun _ => ?_
 refine qs 5 hn rfl ?_
 refine Zv (Zu ?_)
 refine stepW (Zc hn (kO)) fun _ => ?_
 refine stepW (Zc hn ((by have h := Bounds4_ok threeD y2 (by decide) (by decide); rw [t_bounds] at h; exact h))) fun _ => ?_
 refine qs 5 hn rfl ?_
 refine Zv (Zu ?_)
 refine stepW (Zc hn (kO)) fun _ => ?_
 refine stepW (Zc hn ((by have h := Verdicts4_ok threeD y2 (by decide) (by decide); rw [t_verds] at h; exact h))) fun _ => ?_
 refine qs 5 hn rfl ?_
 refine Zv (Zu ?_)
 refine stepW (Zc hn (kO)) fun _ => ?_
 refine stepW (Zc hn (zEz)) fun _ => ?_
 refine stepW (Zc hn ((by have h := zBc threeD y2 (by decide) (by decide) toldT; rw [zGS] at h; exact h))) fun _ => ?_
 refine qs 5 hn rfl ?_
 refine Zv (Zu ?_)
 refine stepW (Zc hn (kO)) fun _ => ?_
 refine stepW (Zc hn (zEz)) fun _ => ?_
 refine stepW (Zc hn ((by have h := zED threeD y2 (by decide) (by decide) toldT; rw [t_has] at h; exact h))) fun _ => ?_
 refine qs 7 hn rfl ?_
 refine Zv (Zu ?_)
 refine stepW (Zc hn (kO)) fun _ => ?_
 refine stepW (s_callE (Show4_eff threeD y2 (by decide) (by decide) 0 true) rfl rfl rfl (nb hn rfl) (.d rfl) rfl (.refl _) trivial (fun _ => rfl) (fun _ _ => trivial)) fun ⟨xx, hxx⟩ => ?_
 obtain ⟨tt, rfl, hpt⟩ := t_show hxx
 refine qs 3 hn rfl ?_
 refine stepW (zf 12 rfl rfl rfl (nb hn rfl) zr56 rfl rfl) fun b12 => ?_
 refine stepW (Zx 12 sz56) fun _ => ?_
 refine qs 1 hn rfl ?_
 refine Zv (zE ?_)
 refine zt (W := fun b => b ≠ b12) fmo ?_
 refine d1q (i := 0) rfl (by as_aux_lemma => kernel_rfl) (fun _ _ _ _ h => h) rfl rfl hn rfl (zI rfl rfl) ?_
 refine d1q (i := 1) rfl (by as_aux_lemma => kernel_rfl) (fun _ _ _ _ h => h) rfl rfl hn rfl (yk (tv' := .d (.bool true)) (yA rfl rfl rfl) rfl) ?_
 refine d1q (i := 2) rfl (by as_aux_lemma => kernel_rfl) (fun _ _ _ _ h => h) rfl rfl hn rfl (zI rfl rfl) ?_
 refine d1g (i := 3) [] rfl (by as_aux_lemma => kernel_rfl) (fun _ _ _ _ h => h) (zA rfl rfl rfl) rfl hn rfl (fun hc => trivial) (fun hc => zI rfl rfl) ?_
 refine zG ?_
 refine km (i := 4) (by as_aux_lemma => kernel_rfl) rfl (zEU (zA rfl rfl rfl) rfl (nb hn rfl) (za rfl rfl rfl (nb hn rfl) underlying29 sz3 zr3 rfl rfl rfl (show _ = [.d (.int .i64 0), .d (.int .i64 0)] from by kernel_rfl) (by kernel_rfl) rfl rfl rfl rfl rfl)) fun _ => ?_
 refine d2_of_d1 (zG ?_)
 refine km (i := 5) (by as_aux_lemma => kernel_rfl) rfl (s_call [(50, _), (51, _)] (fun hc => zBq [0, 1] [0, 1]) rfl (zA rfl rfl rfl) rfl (nb hn rfl) (fun hc => ⟨⟨_, rfl, hc⟩, ⟨_, rfl, hc⟩, trivial⟩) rfl rfl (.refl _)) fun _ => ?_
 refine d2_of_d1 ?_
 refine d1q (i := 6) rfl (by as_aux_lemma => kernel_rfl) (fun _ _ _ _ h => h) rfl rfl hn rfl (yk (tv' := .d (.bool true)) (zv rfl rfl rfl (by intro hB; first | (rw [hB]; rfl) | (rw [hB, hc]; rfl) | simp_all)) rfl) ?_
 refine d1q (i := 7) rfl (by as_aux_lemma => kernel_rfl) (fun _ _ _ _ h => h) rfl rfl hn rfl (zI rfl rfl) ?_
 refine d1g (i := 8) [] rfl (by as_aux_lemma => kernel_rfl) (fun _ _ _ _ h => h) (zA rfl rfl rfl) rfl hn rfl (fun hc => trivial) (fun hc => zI rfl rfl) ?_
 refine d1g (i := 9) [(55, _)] rfl (by as_aux_lemma => kernel_rfl) (fun _ _ _ _ h => h) (zA rfl rfl rfl) rfl hn rfl (fun hc => ⟨⟨_, rfl, hc⟩, trivial⟩) (fun hc => yk (tv' := .d (.bool true)) (yA rfl rfl rfl) rfl) ?_
 refine d1q (i := 10) rfl (by as_aux_lemma => kernel_rfl) (fun _ _ _ _ h => h) rfl rfl hn rfl (yk (tv' := .d (.bool true)) (zv rfl rfl rfl (by intro hB; first | (rw [hB]; rfl) | (rw [hB, hc]; rfl) | simp_all)) rfl) ?_
 refine d1q (i := 11) rfl (by as_aux_lemma => kernel_rfl) (fun _ _ _ _ h => h) rfl rfl hn rfl (zI rfl rfl) ?_
 refine d1g (i := 12) [] rfl (by as_aux_lemma => kernel_rfl) (fun _ _ _ _ h => h) (zA rfl rfl rfl) rfl hn rfl (fun hc => trivial) (fun hc => zI rfl rfl) ?_
 refine d1g (i := 13) [(59, _)] rfl (by as_aux_lemma => kernel_rfl) (fun _ _ _ _ h => h) (zA rfl rfl rfl) rfl hn rfl (fun hc => ⟨⟨_, rfl, hc⟩, trivial⟩) (fun hc => zx rfl rfl underlying46) ?_
 refine d1g (i := 14) [(60, _)] rfl (by as_aux_lemma => kernel_rfl) (fun _ _ _ _ h => h) (zA rfl rfl rfl) rfl hn rfl (fun hc => ⟨⟨_, rfl, hc⟩, trivial⟩) (fun hc => yk (tv' := .d (.bool true)) (yA rfl rfl rfl) rfl) ?_
 refine d1q (i := 15) rfl (by as_aux_lemma => kernel_rfl) (fun _ _ _ _ h => h) rfl rfl hn rfl (yk (tv' := .d (.bool true)) (zv rfl rfl rfl (by intro hB; first | (rw [hB]; rfl) | (rw [hB, hc]; rfl) | simp_all)) rfl) ?_
 refine d1q (i := 16) rfl (by as_aux_lemma => kernel_rfl) (fun _ _ _ _ h => h) rfl rfl hn rfl (zI rfl rfl) ?_
 refine d1g (i := 17) [] rfl (by as_aux_lemma => kernel_rfl) (fun _ _ _ _ h => h) (zA rfl rfl rfl) rfl hn rfl (fun hc => trivial) (fun hc => zI rfl rfl) ?_
 refine d1g (i := 18) [(64, _)] rfl (by as_aux_lemma => kernel_rfl) (fun _ _ _ _ h => h) (zA rfl rfl rfl) rfl hn rfl (fun hc => ⟨⟨_, rfl, hc⟩, trivial⟩) (fun hc => q_index (i := 0) rfl rfl rfl underlying46 sz66 rfl rfl) ?_
 refine d1g (i := 19) [(65, _)] rfl (by as_aux_lemma => kernel_rfl) (fun _ _ _ _ h => h) (zA rfl rfl rfl) rfl hn rfl (fun hc => ⟨⟨_, rfl, hc⟩, trivial⟩) (fun hc => zk rfl rfl underlying66 rfl sz66 rfl rfl seesFA) ?_
 refine zG ?_
 refine km (i := 20) (by as_aux_lemma => kernel_rfl) rfl (s_call [] (fun hc => kF _ _) rfl (zA rfl rfl rfl) rfl (nb hn rfl) (fun hc => trivial) rfl rfl (.refl _)) fun _ => ?_
 refine d2_of_d1 ?_
 refine d1g (i := 21) [(66, _), (67, _)] rfl (by as_aux_lemma => kernel_rfl) (fun _ _ _ _ h => h) (zA rfl rfl rfl) rfl hn rfl (fun hc => ⟨⟨_, rfl, hc⟩, ⟨_, rfl, hc⟩, trivial⟩) (fun hc => yk (tv' := .d (.bool true)) (zDv rfl rfl rfl) rfl) ?_
 refine d1q (i := 22) rfl (by as_aux_lemma => kernel_rfl) (fun _ _ _ _ h => h) rfl rfl hn rfl (yk (tv' := .d (.bool true)) (zv rfl rfl rfl (by intro hB; first | (rw [hB]; rfl) | (rw [hB, hc]; rfl) | simp_all)) rfl) ?_
 refine d1q (i := 23) rfl (by as_aux_lemma => kernel_rfl) (fun _ _ _ _ h => h) rfl rfl hn rfl (zI rfl rfl) ?_
 refine d1g (i := 24) [] rfl (by as_aux_lemma => kernel_rfl) (fun _ _ _ _ h => h) (zA rfl rfl rfl) rfl hn rfl (fun hc => trivial) (fun hc => zI rfl rfl) ?_
 refine d1g (i := 25) [(71, _)] rfl (by as_aux_lemma => kernel_rfl) (fun _ _ _ _ h => h) (zA rfl rfl rfl) rfl hn rfl (fun hc => ⟨⟨_, rfl, hc⟩, trivial⟩) (fun hc => q_index (i := 1) rfl rfl rfl underlying46 sz66 rfl rfl) ?_
 refine d1g (i := 26) [(72, _)] rfl (by as_aux_lemma => kernel_rfl) (fun _ _ _ _ h => h) (zA rfl rfl rfl) rfl hn rfl (fun hc => ⟨⟨_, rfl, hc⟩, trivial⟩) (fun hc => zk rfl rfl underlying66 rfl sz66 rfl rfl seesFA) ?_
 refine zG ?_
 refine km (i := 27) (by as_aux_lemma => kernel_rfl) rfl (s_call [] (fun hc => kF _ _) rfl (zA rfl rfl rfl) rfl (nb hn rfl) (fun hc => trivial) rfl rfl (.refl _)) fun _ => ?_
 refine d2_of_d1 ?_
 refine d1g (i := 28) [(73, _), (74, _)] rfl (by as_aux_lemma => kernel_rfl) (fun _ _ _ _ h => h) (zA rfl rfl rfl) rfl hn rfl (fun hc => ⟨⟨_, rfl, hc⟩, ⟨_, rfl, hc⟩, trivial⟩) (fun hc => yk (tv' := .d (.bool true)) (zDv rfl rfl rfl) rfl) ?_
 refine d1q (i := 29) rfl (by as_aux_lemma => kernel_rfl) (fun _ _ _ _ h => h) rfl rfl hn rfl (yk (tv' := .d (.bool true)) (zv rfl rfl rfl (by intro hB; first | (rw [hB]; rfl) | (rw [hB, hc]; rfl) | simp_all)) rfl) ?_
 refine d1q (i := 30) rfl (by as_aux_lemma => kernel_rfl) (fun _ _ _ _ h => h) rfl rfl hn rfl (zI rfl rfl) ?_
 refine d1g (i := 31) [] rfl (by as_aux_lemma => kernel_rfl) (fun _ _ _ _ h => h) (zA rfl rfl rfl) rfl hn rfl (fun hc => trivial) (fun hc => zI rfl rfl) ?_
 refine d1g (i := 32) [(78, _)] rfl (by as_aux_lemma => kernel_rfl) (fun _ _ _ _ h => h) (zA rfl rfl rfl) rfl hn rfl (fun hc => ⟨⟨_, rfl, hc⟩, trivial⟩) (fun hc => q_index (i := 2) rfl rfl rfl underlying46 sz66 rfl rfl) ?_
 refine d1g (i := 33) [(79, _)] rfl (by as_aux_lemma => kernel_rfl) (fun _ _ _ _ h => h) (zA rfl rfl rfl) rfl hn rfl (fun hc => ⟨⟨_, rfl, hc⟩, trivial⟩) (fun hc => zk rfl rfl underlying66 rfl sz66 rfl rfl seesFA) ?_
 refine zG ?_
 refine km (i := 34) (by as_aux_lemma => kernel_rfl) rfl (s_call [] (fun hc => kF _ _) rfl (zA rfl rfl rfl) rfl (nb hn rfl) (fun hc => trivial) rfl rfl (.refl _)) fun _ => ?_
 refine d2_of_d1 ?_
 refine d1g (i := 35) [(80, _), (81, _)] rfl (by as_aux_lemma => kernel_rfl) (fun _ _ _ _ h => h) (zA rfl rfl rfl) rfl hn rfl (fun hc => ⟨⟨_, rfl, hc⟩, ⟨_, rfl, hc⟩, trivial⟩) (fun hc => yk (tv' := .d (.bool true)) (zDv rfl rfl rfl) rfl) ?_
 refine d1q (i := 36) rfl (by as_aux_lemma => kernel_rfl) (fun _ _ _ _ h => h) rfl rfl hn rfl (yk (tv' := .d (.bool true)) (zv rfl rfl rfl (by intro hB; first | (rw [hB]; rfl) | (rw [hB, hc]; rfl) | simp_all)) rfl) ?_
 refine d1q (i := 37) rfl (by as_aux_lemma => kernel_rfl) (fun _ _ _ _ h => h) rfl rfl hn rfl (zI rfl rfl) ?_
 refine d1g (i := 38) [] rfl (by as_aux_lemma => kernel_rfl) (fun _ _ _ _ h => h) (zA rfl rfl rfl) rfl hn rfl (fun hc => trivial) (fun hc => zI rfl rfl) ?_
 refine d1g (i := 39) [(85, _)] rfl (by as_aux_lemma => kernel_rfl) (fun _ _ _ _ h => h) (zA rfl rfl rfl) rfl hn rfl (fun hc => ⟨⟨_, rfl, hc⟩, trivial⟩) (fun hc => yk (tv' := .d (.bool true)) (yA rfl rfl rfl) rfl) ?_
 refine d1q (i := 40) rfl (by as_aux_lemma => kernel_rfl) (fun _ _ _ _ h => h) rfl rfl hn rfl (yk (tv' := .d (.bool true)) (zv rfl rfl rfl (by intro hB; first | (rw [hB]; rfl) | (rw [hB, hc]; rfl) | simp_all)) rfl) ?_
 refine d1q (i := 41) rfl (by as_aux_lemma => kernel_rfl) (fun _ _ _ _ h => h) rfl rfl hn rfl (zI rfl rfl) ?_
 refine d1g (i := 42) [] rfl (by as_aux_lemma => kernel_rfl) (fun _ _ _ _ h => h) (zA rfl rfl rfl) rfl hn rfl (fun hc => trivial) (fun hc => zI rfl rfl) ?_
 refine zG ?_
 refine km (i := 43) (by as_aux_lemma => kernel_rfl) rfl (zEU (zA rfl rfl rfl) rfl (nb hn rfl) (za rfl rfl rfl (nb hn rfl) underlying29 sz3 zr3 rfl rfl rfl (show _ = [.d (.int .i64 0), .d (.int .i64 0), .d (.int .i64 0)] from by kernel_rfl) (by kernel_rfl) rfl rfl rfl rfl rfl)) fun _ => ?_
 refine d2_of_d1 (zG ?_)
 refine km (i := 44) (by as_aux_lemma => kernel_rfl) rfl (s_call [(89, _), (90, _)] (fun hc => zBq [3, 3, 3] [3, 3, 3]) rfl (zA rfl rfl rfl) rfl (nb hn rfl) (fun hc => ⟨⟨_, rfl, hc⟩, ⟨_, rfl, hc⟩, trivial⟩) rfl rfl (.refl _)) fun _ => ?_
 refine d2_of_d1 ?_
 refine d1q (i := 45) rfl (by as_aux_lemma => kernel_rfl) (fun _ _ _ _ h => h) rfl rfl hn rfl (yk (tv' := .d (.bool true)) (zv rfl rfl rfl (by intro hB; first | (rw [hB]; rfl) | (rw [hB, hc]; rfl) | simp_all)) rfl) ?_
 refine d1q (i := 46) rfl (by as_aux_lemma => kernel_rfl) (fun _ _ _ _ h => h) rfl rfl hn rfl (zI rfl rfl) ?_
 refine d1g (i := 47) [] rfl (by as_aux_lemma => kernel_rfl) (fun _ _ _ _ h => h) (zA rfl rfl rfl) rfl hn rfl (fun hc => trivial) (fun hc => zI rfl rfl) ?_
 refine d1g (i := 48) [(94, _)] rfl (by as_aux_lemma => kernel_rfl) (fun _ _ _ _ h => h) (zA rfl rfl rfl) rfl hn rfl (fun hc => ⟨⟨_, rfl, hc⟩, trivial⟩) (fun hc => yk (tv' := .d (.bool true)) (yA rfl rfl rfl) rfl) ?_
 refine d1q (i := 49) rfl (by as_aux_lemma => kernel_rfl) (fun _ _ _ _ h => h) rfl rfl hn rfl (yk (tv' := .d (.bool true)) (zv rfl rfl rfl (by intro hB; first | (rw [hB]; rfl) | (rw [hB, hc]; rfl) | simp_all)) rfl) ?_
 refine d1q (i := 50) rfl (by as_aux_lemma => kernel_rfl) (fun _ _ _ _ h => h) rfl rfl hn rfl (zI rfl rfl) ?_
 refine d1g (i := 51) [] rfl (by as_aux_lemma => kernel_rfl) (fun _ _ _ _ h => h) (zA rfl rfl rfl) rfl hn rfl (fun hc => trivial) (fun hc => zI rfl rfl) ?_
 refine d1g (i := 52) [(98, _)] rfl (by as_aux_lemma => kernel_rfl) (fun _ _ _ _ h => h) (zA rfl rfl rfl) rfl hn rfl (fun hc => ⟨⟨_, rfl, hc⟩, trivial⟩) (fun hc => zx rfl rfl underlying53) ?_
 refine d1g (i := 53) [(99, _)] rfl (by as_aux_lemma => kernel_rfl) (fun _ _ _ _ h => h) (zA rfl rfl rfl) rfl hn rfl (fun hc => ⟨⟨_, rfl, hc⟩, trivial⟩) (fun hc => yk (tv' := .d (.bool true)) (yA rfl rfl rfl) rfl) ?_
 refine d1q (i := 54) rfl (by as_aux_lemma => kernel_rfl) (fun _ _ _ _ h => h) rfl rfl hn rfl (yk (tv' := .d (.bool true)) (zv rfl rfl rfl (by intro hB; first | (rw [hB]; rfl) | (rw [hB, hc]; rfl) | simp_all)) rfl) ?_
 refine d1q (i := 55) rfl (by as_aux_lemma => kernel_rfl) (fun _ _ _ _ h => h) rfl rfl hn rfl (zI rfl rfl) ?_
 refine d1g (i := 56) [] rfl (by as_aux_lemma => kernel_rfl) (fun _ _ _ _ h => h) (zA rfl rfl rfl) rfl hn rfl (fun hc => trivial) (fun hc => zI rfl rfl) ?_
 refine d1g (i := 57) [(103, _)] rfl (by as_aux_lemma => kernel_rfl) (fun _ _ _ _ h => h) (zA rfl rfl rfl) rfl hn rfl (fun hc => ⟨⟨_, rfl, hc⟩, trivial⟩) (fun hc => q_index (i := 0) rfl rfl rfl underlying53 sz68 rfl rfl) ?_
 refine d1g (i := 58) [(104, _)] rfl (by as_aux_lemma => kernel_rfl) (fun _ _ _ _ h => h) (zA rfl rfl rfl) rfl hn rfl (fun hc => ⟨⟨_, rfl, hc⟩, trivial⟩) (fun hc => zk rfl rfl underlying68 rfl sz68 rfl rfl seesFA) ?_
 refine d1g (i := 59) [] rfl (by as_aux_lemma => kernel_rfl) (fun _ _ _ _ h => h) (zA rfl rfl rfl) rfl hn rfl (fun hc => trivial) (fun hc => zX rfl bt68 rfl rfl rfl rfl rfl) ?_
 refine d1g (i := 60) [(105, _), (106, _)] rfl (by as_aux_lemma => kernel_rfl) (fun _ _ _ _ h => h) (zA rfl rfl rfl) rfl hn rfl (fun hc => ⟨⟨_, rfl, hc⟩, ⟨_, rfl, hc⟩, trivial⟩) (fun hc => yk (tv' := .d (.bool true)) (zDq rfl rfl rfl) rfl) ?_
 refine d1q (i := 61) rfl (by as_aux_lemma => kernel_rfl) (fun _ _ _ _ h => h) rfl rfl hn rfl (yk (tv' := .d (.bool true)) (zv rfl rfl rfl (by intro hB; first | (rw [hB]; rfl) | (rw [hB, hc]; rfl) | simp_all)) rfl) ?_
 refine d1q (i := 62) rfl (by as_aux_lemma => kernel_rfl) (fun _ _ _ _ h => h) rfl rfl hn rfl (zI rfl rfl) ?_
 refine d1g (i := 63) [] rfl (by as_aux_lemma => kernel_rfl) (fun _ _ _ _ h => h) (zA rfl rfl rfl) rfl hn rfl (fun hc => trivial) (fun hc => zI rfl rfl) ?_
 refine d1g (i := 64) [(110, _)] rfl (by as_aux_lemma => kernel_rfl) (fun _ _ _ _ h => h) (zA rfl rfl rfl) rfl hn rfl (fun hc => ⟨⟨_, rfl, hc⟩, trivial⟩) (fun hc => q_index (i := 1) rfl rfl rfl underlying53 sz68 rfl rfl) ?_
 refine d1g (i := 65) [(111, _)] rfl (by as_aux_lemma => kernel_rfl) (fun _ _ _ _ h => h) (zA rfl rfl rfl) rfl hn rfl (fun hc => ⟨⟨_, rfl, hc⟩, trivial⟩) (fun hc => zk rfl rfl underlying68 rfl sz68 rfl rfl seesFA) ?_
 refine d1g (i := 66) [] rfl (by as_aux_lemma => kernel_rfl) (fun _ _ _ _ h => h) (zA rfl rfl rfl) rfl hn rfl (fun hc => trivial) (fun hc => zX rfl bt68 rfl rfl rfl rfl rfl) ?_
 refine d1g (i := 67) [(112, _), (113, _)] rfl (by as_aux_lemma => kernel_rfl) (fun _ _ _ _ h => h) (zA rfl rfl rfl) rfl hn rfl (fun hc => ⟨⟨_, rfl, hc⟩, ⟨_, rfl, hc⟩, trivial⟩) (fun hc => yk (tv' := .d (.bool true)) (zDq rfl rfl rfl) rfl) ?_
 refine d1q (i := 68) rfl (by as_aux_lemma => kernel_rfl) (fun _ _ _ _ h => h) rfl rfl hn rfl (yk (tv' := .d (.bool true)) (zv rfl rfl rfl (by intro hB; first | (rw [hB]; rfl) | (rw [hB, hc]; rfl) | simp_all)) rfl) ?_
 refine d1q (i := 69) rfl (by as_aux_lemma => kernel_rfl) (fun _ _ _ _ h => h) rfl rfl hn rfl (zI rfl rfl) ?_
 refine d1g (i := 70) [] rfl (by as_aux_lemma => kernel_rfl) (fun _ _ _ _ h => h) (zA rfl rfl rfl) rfl hn rfl (fun hc => trivial) (fun hc => zI rfl rfl) ?_
 refine d1g (i := 71) [(117, _)] rfl (by as_aux_lemma => kernel_rfl) (fun _ _ _ _ h => h) (zA rfl rfl rfl) rfl hn rfl (fun hc => ⟨⟨_, rfl, hc⟩, trivial⟩) (fun hc => q_index (i := 2) rfl rfl rfl underlying53 sz68 rfl rfl) ?_
 refine d1g (i := 72) [(118, _)] rfl (by as_aux_lemma => kernel_rfl) (fun _ _ _ _ h => h) (zA rfl rfl rfl) rfl hn rfl (fun hc => ⟨⟨_, rfl, hc⟩, trivial⟩) (fun hc => zk rfl rfl underlying68 rfl sz68 rfl rfl seesFA) ?_
 refine d1g (i := 73) [] rfl (by as_aux_lemma => kernel_rfl) (fun _ _ _ _ h => h) (zA rfl rfl rfl) rfl hn rfl (fun hc => trivial) (fun hc => zX rfl bt68 rfl rfl rfl rfl rfl) ?_
 refine d1g (i := 74) [(119, _), (120, _)] rfl (by as_aux_lemma => kernel_rfl) (fun _ _ _ _ h => h) (zA rfl rfl rfl) rfl hn rfl (fun hc => ⟨⟨_, rfl, hc⟩, ⟨_, rfl, hc⟩, trivial⟩) (fun hc => yk (tv' := .d (.bool true)) (zDq rfl rfl rfl) rfl) ?_
 refine d1q (i := 75) rfl (by as_aux_lemma => kernel_rfl) (fun _ _ _ _ h => h) rfl rfl hn rfl (yk (tv' := .d (.bool true)) (zv rfl rfl rfl (by intro hB; first | (rw [hB]; rfl) | (rw [hB, hc]; rfl) | simp_all)) rfl) ?_
 refine d1q (i := 76) rfl (by as_aux_lemma => kernel_rfl) (fun _ _ _ _ h => h) rfl rfl hn rfl (zI rfl rfl) ?_
 refine d1g (i := 77) [] rfl (by as_aux_lemma => kernel_rfl) (fun _ _ _ _ h => h) (zA rfl rfl rfl) rfl hn rfl (fun hc => trivial) (fun hc => zI rfl rfl) ?_
 refine d1g (i := 78) [(124, _)] rfl (by as_aux_lemma => kernel_rfl) (fun _ _ _ _ h => h) (zA rfl rfl rfl) rfl hn rfl (fun hc => ⟨⟨_, rfl, hc⟩, trivial⟩) (fun hc => yk (tv' := .d (.bool true)) (yA rfl rfl rfl) rfl) ?_
 refine d1q (i := 79) rfl (by as_aux_lemma => kernel_rfl) (fun _ _ _ _ h => h) rfl rfl hn rfl (yk (tv' := .d (.bool true)) (zv rfl rfl rfl (by intro hB; first | (rw [hB]; rfl) | (rw [hB, hc]; rfl) | simp_all)) rfl) ?_
 refine d1q (i := 80) rfl (by as_aux_lemma => kernel_rfl) (fun _ _ _ _ h => h) rfl rfl hn rfl (zI rfl rfl) ?_
 refine d1g (i := 81) [] rfl (by as_aux_lemma => kernel_rfl) (fun _ _ _ _ h => h) (zA rfl rfl rfl) rfl hn rfl (fun hc => trivial) (fun hc => zI rfl rfl) ?_
 refine zG ?_
 refine km (i := 82) (by as_aux_lemma => kernel_rfl) rfl (zEU (zA rfl rfl rfl) rfl (nb hn rfl) (za rfl rfl rfl (nb hn rfl) underlying29 sz3 zr3 rfl rfl rfl (show _ = [.d (.int .i64 0), .d (.int .i64 0)] from by kernel_rfl) (by kernel_rfl) rfl rfl rfl rfl rfl)) fun _ => ?_
 refine d2_of_d1 (zG ?_)
 refine km (i := 83) (by as_aux_lemma => kernel_rfl) rfl (s_call [(128, _), (129, _)] (fun hc => zBq [10, 0] [10, 0]) rfl (zA rfl rfl rfl) rfl (nb hn rfl) (fun hc => ⟨⟨_, rfl, hc⟩, ⟨_, rfl, hc⟩, trivial⟩) rfl rfl (.refl _)) fun _ => ?_
 refine d2_of_d1 ?_
 refine d1q (i := 84) rfl (by as_aux_lemma => kernel_rfl) (fun _ _ _ _ h => h) rfl rfl hn rfl (yk (tv' := .d (.bool true)) (zv rfl rfl rfl (by intro hB; first | (rw [hB]; rfl) | (rw [hB, hc]; rfl) | simp_all)) rfl) ?_
 refine d1q (i := 85) rfl (by as_aux_lemma => kernel_rfl) (fun _ _ _ _ h => h) rfl rfl hn rfl (zI rfl rfl) ?_
 refine d1g (i := 86) [] rfl (by as_aux_lemma => kernel_rfl) (fun _ _ _ _ h => h) (zA rfl rfl rfl) rfl hn rfl (fun hc => trivial) (fun hc => zI rfl rfl) ?_
 refine d1g (i := 87) [(133, _)] rfl (by as_aux_lemma => kernel_rfl) (fun _ _ _ _ h => h) (zA rfl rfl rfl) rfl hn rfl (fun hc => ⟨⟨_, rfl, hc⟩, trivial⟩) (fun hc => yk (tv' := .d (.bool true)) (yA rfl rfl rfl) rfl) ?_
 refine d1q (i := 88) rfl (by as_aux_lemma => kernel_rfl) (fun _ _ _ _ h => h) rfl rfl hn rfl (yk (tv' := .d (.bool true)) (zv rfl rfl rfl (by intro hB; first | (rw [hB]; rfl) | (rw [hB, hc]; rfl) | simp_all)) rfl) ?_
 refine d1q (i := 89) rfl (by as_aux_lemma => kernel_rfl) (fun _ _ _ _ h => h) rfl rfl hn rfl (zI rfl rfl) ?_
 refine d1g (i := 90) [] rfl (by as_aux_lemma => kernel_rfl) (fun _ _ _ _ h => h) (zA rfl rfl rfl) rfl hn rfl (fun hc => trivial) (fun hc => zI rfl rfl) ?_
 refine d1g (i := 91) [(137, _)] rfl (by as_aux_lemma => kernel_rfl) (fun _ _ _ _ h => h) (zA rfl rfl rfl) rfl hn rfl (fun hc => ⟨⟨_, rfl, hc⟩, trivial⟩) (fun hc => yk (tv' := .d (.bool true)) (yA rfl rfl rfl) rfl) ?_
 refine d1q (i := 92) rfl (by as_aux_lemma => kernel_rfl) (fun _ _ _ _ h => h) rfl rfl hn rfl (yk (tv' := .d (.bool true)) (zv rfl rfl rfl (by intro hB; first | (rw [hB]; rfl) | (rw [hB, hc]; rfl) | simp_all)) rfl) ?_
 refine d1q (i := 93) rfl (by as_aux_lemma => kernel_rfl) (fun _ _ _ _ h => h) rfl rfl hn rfl (zI rfl rfl) ?_
 refine d1g (i := 95) [] rfl (by as_aux_lemma => kernel_rfl) (fun _ _ _ _ h => h) (zA rfl rfl rfl) rfl hn rfl (fun hc => trivial) (fun hc => zU rfl rfl (id := 12) rfl underlying56 rfl sz56 rfl rfl (seesA (by simp))) ?_
 refine zG ?_
 refine km (i := 94) (by as_aux_lemma => kernel_rfl) rfl (s_call [] (fun hc => kO) rfl (zA rfl rfl rfl) rfl (nb hn rfl) (fun hc => trivial) rfl rfl (.refl _)) fun _ => ?_
 refine d2_of_d1 (zG ?_)
 refine km (i := 96) (by as_aux_lemma => kernel_rfl) rfl (s_call [(141, _), (142, _)] (fun hc => (by have h := zCH threeD y2 (by decide) (by decide) tt; rw [hpt] at h; exact h)) rfl (zA rfl rfl rfl) rfl (nb hn rfl) (fun hc => ⟨⟨_, rfl, hc⟩, ⟨_, rfl, hc⟩, trivial⟩) rfl rfl (.refl _)) fun _ => ?_
 refine d2_of_d1 ?_
 refine d1q (i := 97) rfl (by as_aux_lemma => kernel_rfl) (fun _ _ _ _ h => h) rfl rfl hn rfl (yk (tv' := .d (.bool true)) (zv rfl rfl rfl (by intro hB; first | (rw [hB]; rfl) | (rw [hB, hc]; rfl) | simp_all)) rfl) ?_
 refine d1q (i := 98) rfl (by as_aux_lemma => kernel_rfl) (fun _ _ _ _ h => h) rfl rfl hn rfl (zw rfl rfl) ?_
 refine zG ?_
 refine zq (by as_aux_lemma => kernel_rfl) ?_
 refine zC (zN ?_)
 exact ret_E (.inl rfl) () ((yM rfl (.tmp rfl)).eq (by rfl)) trivial
theorem zCJ : PureAt Tryz.prog 45 [] (.bool true) := PureAt.of_eff (ds := []) awake4_eff
theorem thin_bd {b : Brd} {n : Nat} (h : thinT b n = true) : b.stocks.length ≤ 7 ∧ n ≤ 200 := by
  unfold thinT at h
  simp only [Bool.and_eq_true, decide_eq_true_eq] at h
  omega
/-- The error of a truth of a desk. -/
def wnt (d : Dsk) (t : Tru) : Int := bif deskI d == 0 && !(isTB d (fltI d) t) then 2 else deskI d
theorem zEQ {d : Dsk} : (∀ p ∈ fltI d, PrtOK d.b p) ∧ (fltI d).length ≤ 8 := by
  unfold fltI
  cases deskI d != 0
  · exact y9
  · exact ⟨fun p hp => (by cases hp), by simp⟩
theorem zGa {d : Dsk} (h : deskI d = 0) : fltI d = (readI d.b d.tape).1 := by unfold fltI; rw [h]; rfl
theorem zDt {d : Dsk} {t : Tru} (h : deskI d = 0) : isTB d (fltI d) t = truthW d (readI d.b d.tape).1 t := by
  rw [zGa h, Bool.eq_iff_iff, isT_iff, zAM (yp h).1]
theorem wnt_bad {d : Dsk} {t : Tru} (h : (wnt d t != 0) = true) : playI d t = ([], wnt d t) ∧ hasI d t = ([], 0, wnt d t) ∧ (deskI d == 0 && truthW d (readI d.b d.tape).1 t) = false := by
  have hp : playI d t = ([], wnt d t) := by
    unfold playI wnt
    cases h0 : deskI d != 0
    · have h0' : deskI d = 0 := by simpa using h0
      unfold wnt at h
      rw [zDt h0', h0'] at h ⊢
      cases h1 : truthW d (readI d.b d.tape).1 t <;> rw [h1] at h
      · rfl
      · cases h
    · rw [show (deskI d == 0) = false by simpa using h0]; rfl
  refine ⟨hp, ?_, ?_⟩
  · unfold hasI; rw [hp]; dsimp only; rw [h]; rfl
  · cases h0 : deskI d == 0
    · rfl
    · have h0' : deskI d = 0 := by simpa using h0
      unfold wnt at h
      rw [zDt h0', h0'] at h
      cases h1 : truthW d (readI d.b d.tape).1 t <;> rw [h1] at h
      · rfl
      · cases h
theorem wnt_ok {d : Dsk} {t : Tru} (h : (wnt d t != 0) = false) : deskI d = 0 ∧ TruW d (readI d.b d.tape).1 t ∧ playI d t = (fillsN d.fee (readI d.b d.tape).1 t d.orders d.orders.length, 0) ∧ (deskI d == 0 && truthW d (readI d.b d.tape).1 t) = true := by
  unfold wnt at h
  cases h0 : deskI d == 0 <;> rw [h0] at h
  · simp only [Bool.false_and, cond_false] at h
    rw [show (deskI d != 0) = true by simpa using h0] at h; cases h
  · have h0' : deskI d = 0 := by simpa using h0
    rw [zDt h0', h0'] at h
    cases h1 : truthW d (readI d.b d.tape).1 t <;> rw [h1] at h
    · cases h
    · exact ⟨h0', (zAM (yp h0').1).1 h1, by unfold playI; rw [h0', h1]; rfl, by simp⟩
theorem zDY {fee : Int} {o : Ord} {m : Int} {ps ms : List Int} : ∀ {l : List Prt} {i : Nat}, (fillGo fee o m ps ms i l).1 = -1 ∨ 0 ≤ (fillGo fee o m ps ms i l).1
  | [], i => .inl rfl
  | s :: r, i => by
    rw [fillGo]
    cases (s.stock == o.stock && decide (m < ms.getD i 0)) && letsB fee o (ps.getD i 0)
    · exact zDY
    · exact .inr (Int.natCast_nonneg i)
theorem has_none {os : List Ord} {fs : List (Int × Int)} {n i : Nat} {f : Int × Int} (h2 : fs.getD i (-1, 0) = f) (h3 : f.1 = -1 ∨ 0 ≤ f.1) (h4 : decide ((0 : Int) ≤ f.1) = false) : hasN os fs n (i + 1) = hasN os fs n i := by
  rw [hasN, h2, show (f.1 == -1) = true by simp at h4 ⊢; omega]; rfl
theorem has_buy {os : List Ord} {fs : List (Int × Int)} {n i k : Nat} {o : Ord} {f : Int × Int} (h1 : os.getD i ord0 = o) (h2 : fs.getD i (-1, 0) = f) (h3 : 0 ≤ f.1) (h4 : o.stock.toNat = k) (h5 : o.buy = true) :
    hasN os fs n (i + 1) = ((hasN os fs n i).1.set k ((hasN os fs n i).1.getD k 0 - o.number), (hasN os fs n i).2 + o.number * f.2) := by
  rw [zC8 h1 h2 (by simp; omega) h4, h5, cond_true, Int.neg_mul, Int.sub_neg]; rfl
theorem has_sell {os : List Ord} {fs : List (Int × Int)} {n i k : Nat} {o : Ord} {f : Int × Int} (h1 : os.getD i ord0 = o) (h2 : fs.getD i (-1, 0) = f) (h3 : 0 ≤ f.1) (h4 : o.stock.toNat = k) (h5 : o.buy = false) :
    hasN os fs n (i + 1) = ((hasN os fs n i).1.set k ((hasN os fs n i).1.getD k 0 + o.number), (hasN os fs n i).2 - o.number * f.2) := by
  rw [zC8 h1 h2 (by simp; omega) h4, h5, cond_false]
theorem intsB_refl (l : List Int) : intsB l l = true := zAc.2 rfl
theorem OddPlays_ok (d : Dsk) (t : Tru) (hN : NamesOK d.b) : PureAt Tryz.prog 15 [dskD d, truD t] (.bool true) := by
 refine Zp Tryz.func15 rfl fun Γ hn hl => ?_
 refine Zu ?_
 refine stepW (zn 2 rfl rfl rfl (nb hn rfl) rfl rfl) fun b2 => ?_
 refine stepW (zn 3 rfl rfl rfl (nb hn rfl) rfl rfl) fun b3 => ?_
 refine qs 1 hn rfl ?_
 refine Zv (zE (Zu ?_))
 refine Zs hn (zU rfl rfl (id := 2) rfl underlying27 rfl sz27 rfl rfl sees0) ?_
 refine stepW (Zc hn (Thin4_ok d hN)) fun _ => ?_
 refine Zs hn (yD rfl rfl) ?_
 refine qs 1 hn rfl ?_
 refine Zh [] (zA rfl rfl rfl) hn (fun hc => trivial) (fun hc => zU rfl rfl (id := 3) rfl underlying31 rfl sz31 rfl rfl sees0) ?_
 refine stepW (s_call [(23, _)] (fun hc => ThinTr_ok t) rfl (zA rfl rfl rfl) rfl (nb hn rfl) (fun hc => ⟨⟨_, rfl, hc⟩, trivial⟩) rfl rfl (.refl _)) fun _ => ?_
 refine Zh [(24, _)] (zA rfl rfl rfl) hn (fun hc => ⟨⟨_, rfl, hc⟩, trivial⟩) (fun hc => yD rfl rfl) ?_
 refine Zs hn (q_or rfl rfl rfl (by intro hB; first | (rw [hB]; rfl) | (rw [hB, hc]; rfl) | simp_all)) ?_
 refine Zv ?_
 refine zL rfl (fun hb0 => ?_) (fun hb0 => ?_)
 ·
  refine Zu ?_
  refine stepW (Zc hn (zCJ)) fun _ => ?_
  refine qs 1 hn rfl ?_
  refine Zv (zN (zD ?_))
  exact zi (.inl rfl) hl rfl (.tmp rfl)
 obtain ⟨hth, htt⟩ : thin4 d = true ∧ thinTr t = true := by simpa using hb0
 unfold thin4 at hth
 unfold thinTr at htt
 simp only [Bool.and_eq_true_iff, decide_eq_true_eq] at hth htt
 obtain ⟨hb7, hs2⟩ := thin_bd hth.1
 have ho8 := hth.2
 obtain ⟨⟨htp, htm⟩, hto5⟩ := htt
 refine zO (zC (zE ?_))
 rcases hq : wnt d t != 0 with _ | _
 ·
  obtain ⟨h0, hw, e1, e3⟩ := wnt_ok hq
  obtain ⟨hr0, ho5, hf, hob⟩ := yp h0
  have hfl := zGa h0
  have hl8 := (y9 (b := d.b) (s := d.tape)).2
  have e2 : hasI d t = ((hasN d.orders (fillsN d.fee (readI d.b d.tape).1 t d.orders d.orders.length) d.b.stocks.length d.orders.length).1, (hasN d.orders (fillsN d.fee (readI d.b d.tape).1 t d.orders d.orders.length) d.b.stocks.length d.orders.length).2, 0) := by unfold hasI; rw [e1]; dsimp only; rw [yc]; rfl
  have hfb : ∀ f ∈ (fillsN d.fee (readI d.b d.tape).1 t d.orders d.orders.length), 0 ≤ f.2 ∧ f.2 ≤ 1004 := fun f hf1 => by obtain ⟨i, hi⟩ := List.getElem?_of_mem hf1; have hil := (List.getElem?_eq_some_iff.1 hi).1; rw [yc] at hil; rw [zAq hil] at hi; cases hi; exact zEB hf hw.pb
  have hhb := fun i h1 h2 => zEL (n := d.b.stocks.length) (fun o ho1 => (zBW (hob o ho1)).2.1) hfb i h1 h2
  have hpl := hw.pl
  have hml := hw.ml
  have hol := hw.ol
  refine zt (W := fun b => b ≠ b2 ∧ b ≠ b3) fmo ?_
  refine Zd 0 rfl hn (zU rfl rfl (id := 2) rfl underlying27 rfl sz27 rfl rfl (seesA (by simp))) ?_
  refine Zd 2 rfl hn (zU rfl rfl (id := 3) rfl underlying31 rfl sz31 rfl rfl (seesA (by simp))) ?_
  refine zG ?_
  refine Zo 1 rfl (Zc hn (kg d (by omega) (by omega))) fun _ => ?_
  refine d2_of_d1 (zG ?_)
  refine Zo 3 rfl (Zc hn (k9 t (by omega) (by omega) (by omega))) fun _ => ?_
  refine d2_of_d1 (zG ?_)
  refine Zo 4 rfl (Zc hn ((by have h := zBc d hN (by omega) (by omega) t; rw [e1] at h; exact h))) fun _ => ?_
  refine d2_of_d1 ?_
  refine Zd 5 rfl hn (zI rfl rfl) ?_
  refine Zd 6 rfl hn (yU rfl rfl rfl) ?_
  refine Zd 7 rfl hn (yU rfl rfl rfl) ?_
  refine Zd 8 rfl hn (zw rfl rfl) ?_
  refine Zd 9 rfl hn (zw rfl rfl) ?_
  refine zG ?_
  refine zq (by kernel_rfl) ?_
  refine zC (zE ?_)
  refine zt (W := fun b => b ≠ b2 ∧ b ≠ b3) fmo ?_
  refine Zd 0 rfl hn (zU rfl rfl (id := 2) rfl underlying27 rfl sz27 rfl rfl (seesA (by simp))) ?_
  refine Zd 2 rfl hn (zU rfl rfl (id := 3) rfl underlying31 rfl sz31 rfl rfl (seesA (by simp))) ?_
  refine zG ?_
  refine Zo 1 rfl (Zc hn (kg d (by omega) (by omega))) fun _ => ?_
  refine d2_of_d1 (zG ?_)
  refine Zo 3 rfl (Zc hn (k9 t (by omega) (by omega) (by omega))) fun _ => ?_
  refine d2_of_d1 (zG ?_)
  refine Zo 4 rfl (Zc hn ((by have h := zED d hN (by omega) (by omega) t; rw [e2] at h; exact h))) fun _ => ?_
  refine d2_of_d1 ?_
  refine Zd 5 rfl hn (zI rfl rfl) ?_
  refine Zd 6 rfl hn (yU rfl rfl rfl) ?_
  refine Zd 7 rfl hn (yU rfl rfl rfl) ?_
  refine Zd 8 rfl hn (yU rfl rfl rfl) ?_
  refine Zd 9 rfl hn (zw rfl rfl) ?_
  refine Zd 10 rfl hn (zw rfl rfl) ?_
  refine Zd 11 rfl hn (zw rfl rfl) ?_
  refine zG ?_
  refine zq (by kernel_rfl) ?_
  refine zC (zE ?_)
  refine zt (W := fun b => b ≠ b2 ∧ b ≠ b3) fmo ?_
  refine Zd 0 rfl hn (zU rfl rfl (id := 2) rfl underlying27 rfl sz27 rfl rfl (seesA (by simp))) ?_
  refine Zd 2 rfl hn (zU rfl rfl (id := 3) rfl underlying31 rfl sz31 rfl rfl (seesA (by simp))) ?_
  refine zG ?_
  refine Zo 1 rfl (Zc hn (kg d (by omega) (by omega))) fun _ => ?_
  refine d2_of_d1 (zG ?_)
  refine Zo 3 rfl (Zc hn (k9 t (by omega) (by omega) (by omega))) fun _ => ?_
  refine d2_of_d1 (zG ?_)
  refine Zo 4 rfl (Zc hn ((by have h := zCH d hN (by omega) (by omega) t; rw [e3] at h; exact h))) fun _ => ?_
  refine d2_of_d1 ?_
  refine Zd 5 rfl hn (zw rfl rfl) ?_
  refine zG ?_
  refine zq (by kernel_rfl) ?_
  refine zC (Zu ?_)
  refine Zs hn (zU rfl rfl (id := 2) rfl underlying27 rfl sz27 rfl rfl sees0) ?_
  refine stepW (Zc hn (zDK d hN (by omega) (by omega))) fun _ => ?_
  refine qs 5 hn rfl ?_
  refine Zv (Zu ?_)
  refine qs 2 hn rfl ?_
  refine Zv (zE (Zu ?_))
  refine Zs hn (zU rfl rfl (id := 2) rfl underlying27 rfl sz27 rfl rfl sees0) ?_
  refine stepW (Zc hn (kg d (by omega) (by omega))) fun _ => ?_
  refine stepW (Zc hn (zBv d hN (by omega) (by omega))) fun _ => ?_
  refine Zq 1 hn rfl (yT rfl rfl rfl) ?_
  refine Zv ?_
  refine zL rfl (fun hb1 => ?_) (fun hb1 => ?_)
  ·
   exact absurd hb1 (by simp)
  refine zO (zC (zE (Zu ?_)))
  refine Zq 1 hn rfl (yA rfl rfl rfl) ?_
  refine qs 1 hn rfl ?_
  refine Zh [] (zA rfl rfl rfl) hn (fun hc => trivial) (fun hc => zU rfl rfl (id := 2) rfl underlying27 rfl sz27 rfl rfl sees0) ?_
  refine Zh [] (zA rfl rfl rfl) hn (fun hc => trivial) (fun hc => zI rfl rfl) ?_
  refine Zh [] (zA rfl rfl rfl) hn (fun hc => trivial) (fun hc => zU rfl rfl (id := 3) rfl underlying31 rfl sz31 rfl rfl sees0) ?_
  refine stepW (s_call [(64, _), (65, _), (66, _)] (fun hc => zFh d (fltI d) t (yy (yp (by simpa using hc)).1) (by omega) zEQ.1 zEQ.2) rfl (zA rfl rfl rfl) rfl (nb hn rfl) (fun hc => ⟨⟨_, rfl, hc⟩, ⟨_, rfl, hc⟩, ⟨_, rfl, hc⟩, trivial⟩) rfl rfl (.refl _)) fun _ => ?_
  refine Zh [(67, _)] (zA rfl rfl rfl) hn (fun hc => ⟨⟨_, rfl, hc⟩, trivial⟩) (fun hc => yD rfl rfl) ?_
  refine Zs hn (zv rfl rfl rfl (by intro hB; first | (rw [hB]; rfl) | (rw [hB, hc]; rfl) | simp_all)) ?_
  refine Zv ?_
  refine zz (e := .normal) (ι := Unit) (fun u0 => [(13, true, .d (.int .i64 (wnt d t)))]) (fun u0 => []) (fun hJ2 => ?_) ?_
  ·
   refine zL rfl (fun hb2 => ?_) (fun hb2 => ?_)
   have q2 : (deskI d == 0 && !(isTB d (fltI d) t)) = true := hb2
   refine zM ?_
   refine qs 1 hn rfl ?_
   refine zZ ?_
   rotate_left
   have q2 : (deskI d == 0 && !(isTB d (fltI d) t)) = false := hb2
   refine zO ?_
   rotate_left
   all_goals
    exact Zj hJ2 () ⟨.inl (congrArg (fun z => some (true, TV.d (D.int .i64 z))) (by unfold wnt; rw [q2]; rfl)), trivial⟩ trivial
  rintro _
  refine zC (zE (Zu ?_))
  refine Zq 1 hn rfl (yT rfl rfl rfl) ?_
  refine Zv ?_
  refine zL rfl (fun hb3 => ?_) (fun hb3 => ?_)
  ·
   exact absurd hb3 (by rw [hq]; decide)
  refine zO (zC (zE (Zu ?_)))
  refine Zq 1 hn rfl (yT rfl rfl rfl) ?_
  refine qs 1 hn rfl ?_
  refine Zh [] (zA rfl rfl rfl) hn (fun hc => trivial) (fun hc => zI rfl rfl) ?_
  refine Zh [(102, _)] (zA rfl rfl rfl) hn (fun hc => ⟨⟨_, rfl, hc⟩, trivial⟩) (fun hc => yT rfl rfl rfl) ?_
  refine Zs hn (q_or rfl rfl rfl (by intro hB; first | (rw [hB]; rfl) | (rw [hB, hc]; rfl) | simp_all)) ?_
  refine qs 1 hn rfl ?_
  refine Zh [] (zA rfl rfl rfl) hn (fun hc => trivial) (fun hc => zI rfl rfl) ?_
  refine Zh [(106, _)] (zA rfl rfl rfl) hn (fun hc => ⟨⟨_, rfl, hc⟩, trivial⟩) (fun hc => yD rfl rfl) ?_
  refine Zs hn (q_or rfl rfl rfl (by intro hB; first | (rw [hB]; rfl) | (rw [hB, hc]; rfl) | simp_all)) ?_
  refine qs 1 hn rfl ?_
  refine Zh [] (zA rfl rfl rfl) hn (fun hc => trivial) (fun hc => zI rfl rfl) ?_
  refine Zh [(110, _)] (zA rfl rfl rfl) hn (fun hc => ⟨⟨_, rfl, hc⟩, trivial⟩) (fun hc => zx rfl rfl underlying53) ?_
  refine Zh [] (zA rfl rfl rfl) hn (fun hc => trivial) (fun hc => zB rfl rfl underlying27 rfl sz25) ?_
  refine Zh [(112, _)] (zA rfl rfl rfl) hn (fun hc => ⟨⟨_, rfl, hc⟩, trivial⟩) (fun hc => zJ rfl rfl (id := 2) rfl underlying25 rfl rfl sees0) ?_
  refine Zh [(113, _)] (zA rfl rfl rfl) hn (fun hc => ⟨⟨_, rfl, hc⟩, trivial⟩) (fun hc => zx rfl rfl underlying25) ?_
  refine Zh [(111, _), (114, _)] (zA rfl rfl rfl) hn (fun hc => ⟨⟨_, rfl, hc⟩, ⟨_, rfl, hc⟩, trivial⟩) (fun hc => yT rfl rfl rfl) ?_
  refine Zs hn (q_or rfl rfl rfl (by intro hB; first | (rw [hB]; rfl) | (rw [hB, hc]; rfl) | simp_all)) ?_
  refine qs 1 hn rfl ?_
  refine Zh [] (zA rfl rfl rfl) hn (fun hc => trivial) (fun hc => zI rfl rfl) ?_
  refine Zh [(118, _)] (zA rfl rfl rfl) hn (fun hc => ⟨⟨_, rfl, hc⟩, trivial⟩) (fun hc => zx rfl rfl underlying29) ?_
  refine Zh [] (zA rfl rfl rfl) hn (fun hc => trivial) (fun hc => zB rfl rfl underlying27 rfl sz24) ?_
  refine Zh [(120, _)] (zA rfl rfl rfl) hn (fun hc => ⟨⟨_, rfl, hc⟩, trivial⟩) (fun hc => zB rfl rfl underlying24 rfl sz22) ?_
  refine Zh [(121, _)] (zA rfl rfl rfl) hn (fun hc => ⟨⟨_, rfl, hc⟩, trivial⟩) (fun hc => zJ rfl rfl (id := 2) rfl underlying22 rfl rfl sees0) ?_
  refine Zh [(122, _)] (zA rfl rfl rfl) hn (fun hc => ⟨⟨_, rfl, hc⟩, trivial⟩) (fun hc => zx rfl rfl underlying22) ?_
  refine Zh [(119, _), (123, _)] (zA rfl rfl rfl) hn (fun hc => ⟨⟨_, rfl, hc⟩, ⟨_, rfl, hc⟩, trivial⟩) (fun hc => yT rfl rfl rfl) ?_
  refine Zs hn (q_or rfl rfl rfl (by intro hB; first | (rw [hB]; rfl) | (rw [hB, hc]; rfl) | simp_all)) ?_
  refine Zv ?_
  refine zL rfl (fun hb4 => ?_) (fun hb4 => ?_)
  ·
   exact absurd hb4 (by simp [yc, y3])
  refine zO (zC (Zu ?_))
  refine Zq 1 hn rfl (zx rfl rfl underlying29) ?_
  refine stepW (kh (n := d.b.stocks.length) 128 rfl rfl rfl (nb hn rfl) underlying29 (show _ = some (some (.int .i64 0), 1, 8) from by kernel_rfl) rfl rfl rfl (by decide) rfl rfl (by simp [y3]) (by simp [y3]) (by omega) (by omega) (by omega)) fun b128 => ?_
  refine kn (gh_req (id := 128) rfl (congrArg (Res.box b128 3) (zEs (os := d.orders) (fs := (fillsN d.fee (readI d.b d.tape).1 t d.orders d.orders.length)) (n := d.b.stocks.length)))) ?_
  refine qs 2 hn rfl ?_
  refine Zv (zE (Zu ?_))
  refine qs 1 hn rfl ?_
  refine Zv (zQ ?_)
  refine awp_loop_on (ι := {i : Nat // i ≤ d.orders.length}) (fun x => (16, true, .d (.int .i64 (x.1 : Nat))) :: (15, true, .d (.int .i64 (hasN d.orders (fillsN d.fee (readI d.b d.tape).1 t d.orders d.orders.length) d.b.stocks.length x.1).2)) :: anys [129, 130, 131, 132, 135, 136, 137, 138, 139, 140, 141, 142, 143, 144, 145, 146, 147, 17, 148, 149, 150, 151, 152, 153, 154, 155, 156, 157, 158, 159, 160, 161, 162, 163, 164, 165, 166, 167, 168, 169, 170, 18, 171, 172, 173, 174, 175, 176, 177, 178, 179, 180, 181, 182, 183, 184, 185, 186, 187, 188, 189, 190, 191, 192, 193, 194, 195, 196, 197, 198, 199, 200, 201, 202, 203, 204, 205, 206, 207, 208, 209, 210, 211, 212, 213, 214, 215, 216, 217, 218, 133, 134]) (fun x => (128, .box b128 3 (intsT (hasN d.orders (fillsN d.fee (readI d.b d.tape).1 t d.orders d.orders.length) d.b.stocks.length x.1).1)) :: gones [17, 18]) (fun x => d.orders.length - x.1) ⟨0, Nat.zero_le _⟩ ⟨.inl rfl, .inl rfl, zK _⟩ ⟨.inl rfl, zY _⟩ ?_
  rintro ⟨i, hi⟩
  dsimp only
  refine zE (Zu ?_)
  refine Zq 2 hn rfl (zx rfl rfl underlying53) ?_
  refine Zs hn (z6 rfl rfl rfl) ?_
  refine Zv ?_
  refine zL rfl (fun hb5 => ?_) (fun hb5 => ?_)
  ·
   have hil : i < d.orders.length := by simp [yc] at hb5; omega
   obtain ⟨o, hod⟩ := zb hil
   obtain ⟨mo, hmo⟩ := zb (show i < t.orders.length by omega)
   obtain ⟨f, hfi⟩ := zb (show i < ((fillsN d.fee (readI d.b d.tape).1 t d.orders d.orders.length)).length by rw [yc]; exact hil)
   have hfe : fillGo d.fee o mo t.prices t.minutes 0 (readI d.b d.tape).1 = f := by rw [zAq hil, zV hod, zV hmo] at hfi; exact Option.some.inj hfi
   have hfs : f.1 = -1 ∨ 0 ≤ f.1 := by rw [← hfe]; exact zDY
   have hbi := hhb i (by omega) (by rw [yc]; omega)
   have hbo := zBW (hob o (List.mem_of_getElem? hod))
   have hbf := hfb f (List.mem_of_getElem? hfi)
   have hsl := y3 (os := d.orders) (fs := (fillsN d.fee (readI d.b d.tape).1 t d.orders d.orders.length)) (n := d.b.stocks.length) i
   obtain ⟨k, hk⟩ : ∃ k : Nat, o.stock = k := ⟨o.stock.toNat, by omega⟩
   have hkl : k < d.b.stocks.length := by omega
   have hbk := hbi.1 k
   have hmb : -100000 ≤ o.number * f.2 ∧ o.number * f.2 ≤ 100000 := zGE (by omega) hbf
   refine zO (zC (zE (zQ (zE ?_))))
   refine zz (e := .normal) (ι := Nat) (fun b17 => (17, true, .val (.pointer (some ⟨b17, 0, none⟩))) :: anys [135, 136, 137, 138, 139, 140, 141, 142, 143, 144, 145, 146, 147]) (fun b17 => [(17, .box b17 126 [.d (.int .i64 f.1), .d (.int .i64 f.2)])]) (fun hJ6 => ?_) ?_
   ·
    refine zt (W := fun b => b ≠ b2 ∧ b ≠ b3) fmo ?_
    refine Zd 0 rfl hn (zU rfl rfl (id := 2) rfl underlying27 rfl sz27 rfl rfl (seesA (by simp))) ?_
    refine Zd 1 rfl hn (zI rfl rfl) ?_
    refine Zd 2 rfl hn (zI rfl rfl) ?_
    refine Zd 3 rfl hn (zB rfl rfl underlying31 rfl sz29) ?_
    refine Zd 4 rfl hn (zJ rfl rfl (id := 3) rfl underlying29 rfl rfl (seesA (by simp))) ?_
    refine Zd 5 rfl hn (zI rfl rfl) ?_
    refine Zd 6 rfl hn (q_index (i := i) rfl rfl rfl underlying29 sz3 rfl (mget hmo)) ?_
    refine Zd 7 rfl hn (zT rfl rfl underlying3 rfl seesFA) ?_
    refine Zd 8 rfl hn (zB rfl rfl underlying31 rfl sz29) ?_
    refine Zd 9 rfl hn (zJ rfl rfl (id := 3) rfl underlying29 rfl rfl (seesA (by simp))) ?_
    refine Zd 10 rfl hn (zB rfl rfl underlying31 rfl sz29) ?_
    refine Zd 11 rfl hn (zJ rfl rfl (id := 3) rfl underlying29 rfl rfl (seesA (by simp))) ?_
    refine zG ?_
    refine yR 12 [13] (by kernel_rfl) ⟨?_, ?_, trivial⟩
    refine br rfl (Zc hn ((by have h := zDf d (readI d.b d.tape).1 i mo t.prices t.minutes o hod (by omega) hf hw.pb (by omega) (by omega) (by omega); rw [hfe, ← hfl] at h; exact h))) fun _ => ?_
    refine d2_of_d1 (zG ?_)
    refine Zo 13 rfl (zf 17 rfl rfl rfl (nb hn rfl) zr126 rfl rfl) fun b17 => ?_
    rotate_left
    refine br rfl (zf 17 rfl rfl rfl (nb hn rfl) zr126 rfl rfl) fun b17 => ?_
    refine d2_of_d1 (zG ?_)
    refine Zo 12 rfl (Zc hn ((by have h := zDf d (readI d.b d.tape).1 i mo t.prices t.minutes o hod (by omega) hf hw.pb (by omega) (by omega) (by omega); rw [hfe, ← hfl] at h; exact h))) fun _ => ?_
    rotate_left
    all_goals
     refine d2_of_d1 (zG ?_)
     refine yW (i := 17) (j := 2) rfl rfl rfl (fun hne17_2 => ?_)
     refine yW (i := 17) (j := 3) rfl rfl rfl (fun hne17_3 => ?_)
     refine Zo 14 rfl (yL rfl rfl rfl rfl rfl rfl (id := 17) rfl sz126 rfl (Nat.le_of_ble_eq_true rfl) rfl ⟨fun e => hne17_2 _ rfl (congrArg some e.symm), fun e => hne17_3 _ rfl (congrArg some e.symm)⟩) fun _ => ?_
     refine d2_of_d1 (zG ?_)
     refine zq (by kernel_rfl) ?_
     exact Zj hJ6 b17 ⟨.inl rfl, zK _⟩ ⟨.inl rfl, trivial⟩
   rintro b17
   refine zC (zE (zE ?_))
   refine zt (W := fun b => b ≠ b17) fmo ?_
   refine Zd 0 rfl hn (zI rfl rfl) ?_
   refine Zd 1 rfl hn (zI rfl rfl) ?_
   refine Zd 2 rfl hn (q_index (i := i) rfl rfl rfl underlying53 sz68 rfl (mget hfi)) ?_
   refine Zd 3 rfl hn (zH rfl rfl underlying68 rfl sz3 rfl) ?_
   refine Zd 4 rfl hn (zT rfl rfl underlying3 rfl seesFA) ?_
   refine Zd 5 rfl hn (zB rfl rfl underlying126 rfl sz3) ?_
   refine Zd 6 rfl hn (zJ rfl rfl (id := 17) rfl underlying3 rfl rfl (seesA (by simp))) ?_
   refine Zd 7 rfl hn (yT rfl rfl rfl) ?_
   refine Zd 8 rfl hn (zI rfl rfl) ?_
   refine Zg 9 [] rfl (zA rfl rfl rfl) hn (fun hc => trivial) (fun hc => zI rfl rfl) ?_
   refine Zg 10 [] rfl (zA rfl rfl rfl) hn (fun hc => trivial) (fun hc => zI rfl rfl) ?_
   refine Zg 11 [(157, _), (158, _)] rfl (zA rfl rfl rfl) hn (fun hc => ⟨⟨_, rfl, hc⟩, ⟨_, rfl, hc⟩, trivial⟩) (fun hc => q_index (i := i) rfl rfl rfl underlying53 sz68 rfl (mget hfi)) ?_
   refine Zg 12 [(159, _)] rfl (zA rfl rfl rfl) hn (fun hc => ⟨⟨_, rfl, hc⟩, trivial⟩) (fun hc => zH rfl rfl underlying68 rfl sz3 rfl) ?_
   refine Zg 13 [(160, _)] rfl (zA rfl rfl rfl) hn (fun hc => ⟨⟨_, rfl, hc⟩, trivial⟩) (fun hc => zT rfl rfl underlying3 rfl seesFA) ?_
   refine Zg 14 [] rfl (zA rfl rfl rfl) hn (fun hc => trivial) (fun hc => zB rfl rfl underlying126 rfl sz3) ?_
   refine Zg 15 [(162, _)] rfl (zA rfl rfl rfl) hn (fun hc => ⟨⟨_, rfl, hc⟩, trivial⟩) (fun hc => zJ rfl rfl (id := 17) rfl underlying3 rfl rfl (seesA (by simp))) ?_
   refine Zg 16 [(161, _), (163, _)] rfl (zA rfl rfl rfl) hn (fun hc => ⟨⟨_, rfl, hc⟩, ⟨_, rfl, hc⟩, trivial⟩) (fun hc => yT rfl rfl rfl) ?_
   refine Zd 17 rfl hn (q_or rfl rfl rfl (by intro hB; first | (rw [hB]; rfl) | (rw [hB, hc]; rfl) | simp_all)) ?_
   refine zG ?_
   refine zq (by kernel_rfl) ?_
   refine zC ?_
   refine zL rfl (fun hb7 => ?_) (fun hb7 => ?_)
   ·
    exact absurd hb7 (by simp)
   refine zO (zC (Zu ?_))
   refine Zs hn (zB rfl rfl underlying27 rfl sz25) ?_
   refine Zs hn (zJ rfl rfl (id := 2) rfl underlying25 rfl rfl sees0) ?_
   refine Zq 1 hn rfl (q_index (i := i) rfl rfl rfl underlying25 sz61 rfl (mget hod)) ?_
   refine Zs hn (zk rfl rfl underlying61 rfl sz61 rfl rfl seesF0) ?_
   refine stepW (zf 18 rfl rfl rfl (nb hn rfl) zr61 rfl rfl) fun b18 => ?_
   refine stepW (Zx 18 sz61) fun _ => ?_
   refine Zv (Zu ?_)
   refine Zs hn (zB rfl rfl underlying126 rfl sz3) ?_
   refine Zs hn (zJ rfl rfl (id := 17) rfl underlying3 rfl rfl sees0) ?_
   refine Zs hn (kN rfl rfl rfl) ?_
   refine qs 1 hn rfl ?_
   refine Zh [] (zA rfl rfl rfl) hn (fun hc => trivial) (fun hc => zB rfl rfl underlying61 rfl sz4) ?_
   refine Zh [(175, _)] (zA rfl rfl rfl) hn (fun hc => ⟨⟨_, rfl, hc⟩, trivial⟩) (fun hc => zJ rfl rfl (id := 18) rfl underlying4 rfl rfl sees0) ?_
   refine Zs hn (zv rfl rfl rfl (by intro hB; first | (rw [hB]; rfl) | (rw [hB, hc]; rfl) | simp_all)) ?_
   refine Zv ?_
   refine zL rfl (fun hb8 => ?_) (fun hb8 => ?_)
   obtain ⟨q7, q8⟩ : (0 : Int) ≤ f.1 ∧ o.buy = true := by simpa using hb8
   have e5 := has_buy (n := d.b.stocks.length) (os := d.orders) (fs := (fillsN d.fee (readI d.b d.tape).1 t d.orders d.orders.length)) (i := i) (zV hod) (zV hfi) q7 (show o.stock.toNat = k by omega) q8
   refine zt (W := fun b => b ≠ b17 ∧ b ≠ b18) fmo ?_
   refine Zd 0 rfl hn (zI rfl rfl) ?_
   refine Zd 1 rfl hn (zB rfl rfl underlying61 rfl sz3) ?_
   refine Zd 2 rfl hn (zJ rfl rfl (id := 18) rfl underlying3 rfl rfl (seesA (by simp))) ?_
   refine Zd 3 rfl hn (zI rfl rfl) ?_
   refine Zd 4 rfl hn (zB rfl rfl underlying61 rfl sz3) ?_
   refine Zd 5 rfl hn (zJ rfl rfl (id := 18) rfl underlying3 rfl rfl (seesA (by simp))) ?_
   refine Zd 6 rfl hn (q_indexV (i := k) rfl rfl rfl underlying29 sz3 hk (by omega)) ?_
   refine Zd 8 rfl hn (zB rfl rfl underlying61 rfl sz3) ?_
   refine Zd 9 rfl hn (zJ rfl rfl (id := 18) rfl underlying3 rfl rfl (seesA (by simp))) ?_
   refine Zd 11 rfl hn (zI rfl rfl) ?_
   refine Zd 12 rfl hn (zB rfl rfl underlying61 rfl sz3) ?_
   refine Zd 13 rfl hn (zJ rfl rfl (id := 18) rfl underlying3 rfl rfl (seesA (by simp))) ?_
   refine Zd 14 rfl hn (zB rfl rfl underlying126 rfl sz3) ?_
   refine Zd 15 rfl hn (zJ rfl rfl (id := 17) rfl underlying3 rfl rfl (seesA (by simp))) ?_
   refine Zd 16 rfl hn (zCN rfl rfl rfl (i64w (by omega) rfl)) ?_
   refine Zd 17 rfl hn (zu rfl rfl rfl (i64w (by omega) rfl)) ?_
   refine zG ?_
   refine Zo 7 rfl (Zw hn (zJ rfl rfl (id := 128) rfl underlying3 rfl (zCv (by omega)) sees0)) fun _ => ?_
   refine d2_of_d1 ?_
   refine Zd 10 rfl hn (yV rfl rfl rfl (i64w (by omega) rfl)) ?_
   refine Zd 18 rfl hn (q_indexV (i := k) rfl rfl rfl underlying29 sz3 hk (by omega)) ?_
   refine zG ?_
   refine yW (i := 128) (j := 17) rfl rfl rfl (fun hne128_17 => ?_)
   refine yW (i := 128) (j := 18) rfl rfl rfl (fun hne128_18 => ?_)
   refine Zo 19 rfl (s_store1 rfl rfl rfl rfl rfl rfl (id := 128) rfl sz3 (by rw [List.length_map]; omega) zEM ⟨fun e => hne128_17 _ rfl (congrArg some e.symm), fun e => hne128_18 _ rfl (congrArg some e.symm)⟩) fun _ => ?_
   refine d2_of_d1 ?_
   refine Zd 20 rfl hn (zw rfl rfl) ?_
   refine zG ?_
   refine zq (by kernel_rfl) ?_
   refine zR (zC (zM ?_))
   rotate_left
   focus
    have q9 : (decide ((0 : Int) ≤ f.1) && o.buy) = false := hb8
    refine Zu ?_
    refine Zs hn (zB rfl rfl underlying126 rfl sz3) ?_
    refine Zs hn (zJ rfl rfl (id := 17) rfl underlying3 rfl rfl sees0) ?_
    refine Zs hn (kN rfl rfl rfl) ?_
    refine Zv ?_
    refine zL rfl (fun hb9 => ?_) (fun hb9 => ?_)
    have q7 : (0 : Int) ≤ f.1 := by simpa using hb9
    have q8 : o.buy = false := by rw [decide_eq_true q7, Bool.true_and] at q9; exact q9
    have e5 := has_sell (n := d.b.stocks.length) (os := d.orders) (fs := (fillsN d.fee (readI d.b d.tape).1 t d.orders d.orders.length)) (i := i) (zV hod) (zV hfi) q7 (show o.stock.toNat = k by omega) q8
    refine zt (W := fun b => b ≠ b17 ∧ b ≠ b18) fmo ?_
    refine Zd 0 rfl hn (zI rfl rfl) ?_
    refine Zd 1 rfl hn (zB rfl rfl underlying61 rfl sz3) ?_
    refine Zd 2 rfl hn (zJ rfl rfl (id := 18) rfl underlying3 rfl rfl (seesA (by simp))) ?_
    refine Zd 3 rfl hn (zI rfl rfl) ?_
    refine Zd 4 rfl hn (zB rfl rfl underlying61 rfl sz3) ?_
    refine Zd 5 rfl hn (zJ rfl rfl (id := 18) rfl underlying3 rfl rfl (seesA (by simp))) ?_
    refine Zd 6 rfl hn (q_indexV (i := k) rfl rfl rfl underlying29 sz3 hk (by omega)) ?_
    refine Zd 8 rfl hn (zB rfl rfl underlying61 rfl sz3) ?_
    refine Zd 9 rfl hn (zJ rfl rfl (id := 18) rfl underlying3 rfl rfl (seesA (by simp))) ?_
    refine Zd 11 rfl hn (zI rfl rfl) ?_
    refine Zd 12 rfl hn (zB rfl rfl underlying61 rfl sz3) ?_
    refine Zd 13 rfl hn (zJ rfl rfl (id := 18) rfl underlying3 rfl rfl (seesA (by simp))) ?_
    refine Zd 14 rfl hn (zB rfl rfl underlying126 rfl sz3) ?_
    refine Zd 15 rfl hn (zJ rfl rfl (id := 17) rfl underlying3 rfl rfl (seesA (by simp))) ?_
    refine Zd 16 rfl hn (zCN rfl rfl rfl (i64w (by omega) rfl)) ?_
    refine Zd 17 rfl hn (yV rfl rfl rfl (i64w (by omega) rfl)) ?_
    refine zG ?_
    refine Zo 7 rfl (Zw hn (zJ rfl rfl (id := 128) rfl underlying3 rfl (zCv (by omega)) sees0)) fun _ => ?_
    refine d2_of_d1 ?_
    refine Zd 10 rfl hn (zu rfl rfl rfl (i64w (by omega) rfl)) ?_
    refine Zd 18 rfl hn (q_indexV (i := k) rfl rfl rfl underlying29 sz3 hk (by omega)) ?_
    refine zG ?_
    refine yW (i := 128) (j := 17) rfl rfl rfl (fun hne128_17 => ?_)
    refine yW (i := 128) (j := 18) rfl rfl rfl (fun hne128_18 => ?_)
    refine Zo 19 rfl (s_store1 rfl rfl rfl rfl rfl rfl (id := 128) rfl sz3 (by rw [List.length_map]; omega) zEM ⟨fun e => hne128_17 _ rfl (congrArg some e.symm), fun e => hne128_18 _ rfl (congrArg some e.symm)⟩) fun _ => ?_
    refine d2_of_d1 ?_
    refine Zd 20 rfl hn (zw rfl rfl) ?_
    refine zG ?_
    refine zq (by kernel_rfl) ?_
    refine zR (zC (zM ?_))
    rotate_left
    have e5 := has_none (n := d.b.stocks.length) (os := d.orders) (fs := (fillsN d.fee (readI d.b d.tape).1 t d.orders d.orders.length)) (i := i) (zV hfi) hfs hb9
    refine zO (zR (zC (zM ?_)))
    rotate_left
   rotate_left 2
   all_goals
    refine Zq 1 hn rfl (zu rfl rfl rfl (r := ((i + 1 : Nat) : Int)) (i64w (by omega) (by omega))) ?_
    refine qs 1 hn rfl ?_
    refine zZ ?_
    exact Zr ⟨i + 1, by omega⟩ ⟨.inl rfl, .inl (by simp only; rw [e5]; rfl), zK _⟩ ⟨.inl (by simp only; rw [e5]; rfl), zY _⟩ (by simp only; omega)
  obtain rfl : i = d.orders.length := by simp [yc] at hb5; omega
  refine zh (zF (zF (zS (zC (zE ?_)))))
  refine yJ (g_freezeV (t := 14) (sz := 1) (n := d.b.stocks.length) (es := (hasN d.orders (fillsN d.fee (readI d.b d.tape).1 t d.orders d.orders.length) d.b.stocks.length d.orders.length).1.map intE) 128 rfl rfl (zDm _) (by rw [List.length_map, y3, Nat.mul_one]) (zBd (y3 _)) (Nat.le_refl _) (by simp only [maxLen]; omega)) ?_
  refine zM ?_
  refine qs 2 hn rfl ?_
  refine stepW (Zc hn (zBq (hasN d.orders (fillsN d.fee (readI d.b d.tape).1 t d.orders d.orders.length) d.b.stocks.length d.orders.length).1 (hasN d.orders (fillsN d.fee (readI d.b d.tape).1 t d.orders d.orders.length) d.b.stocks.length d.orders.length).1)) fun _ => ?_
  refine qs 1 hn rfl ?_
  refine Zh [] (zA rfl rfl rfl) hn (fun hc => trivial) (fun hc => zI rfl rfl) ?_
  refine Zh [] (zA rfl rfl rfl) hn (fun hc => trivial) (fun hc => zI rfl rfl) ?_
  refine Zh [(223, _), (224, _)] (zA rfl rfl rfl) hn (fun hc => ⟨⟨_, rfl, hc⟩, ⟨_, rfl, hc⟩, trivial⟩) (fun hc => yA rfl rfl rfl) ?_
  refine Zs hn (zv rfl rfl rfl (by intro hB; first | (rw [hB]; rfl) | (rw [hB, hc]; rfl) | simp_all)) ?_
  refine qs 1 hn rfl ?_
  refine stepW (s_call [] (fun hc => zCJ) rfl (zA rfl rfl rfl) rfl (nb hn rfl) (fun hc => trivial) rfl rfl (.refl _)) fun _ => ?_
  refine Zs hn (zv rfl rfl rfl (by intro hB; first | (rw [hB]; rfl) | (rw [hB, hc]; rfl) | simp_all)) ?_
  refine qs 1 hn rfl ?_
  refine Zv (zN ?_)
  refine zm (zi (.inl rfl) hl rfl (.tmp rfl)) ?_
  rw [intsB_refl]; simp
 obtain ⟨e1, e2, e3⟩ := wnt_bad hq
 refine zt (W := fun b => b ≠ b2 ∧ b ≠ b3) fmo ?_
 refine Zd 0 rfl hn (zU rfl rfl (id := 2) rfl underlying27 rfl sz27 rfl rfl (seesA (by simp))) ?_
 refine Zd 2 rfl hn (zU rfl rfl (id := 3) rfl underlying31 rfl sz31 rfl rfl (seesA (by simp))) ?_
 refine zG ?_
 refine Zo 1 rfl (Zc hn (kg d (by omega) (by omega))) fun _ => ?_
 refine d2_of_d1 (zG ?_)
 refine Zo 3 rfl (Zc hn (k9 t (by omega) (by omega) (by omega))) fun _ => ?_
 refine d2_of_d1 (zG ?_)
 refine Zo 4 rfl (Zc hn ((by have h := zBc d hN (by omega) (by omega) t; rw [e1] at h; exact h))) fun _ => ?_
 refine d2_of_d1 ?_
 refine Zd 5 rfl hn (zI rfl rfl) ?_
 refine Zd 6 rfl hn (yU rfl rfl rfl) ?_
 refine Zd 7 rfl hn (yU rfl rfl rfl) ?_
 refine Zd 8 rfl hn (zw rfl rfl) ?_
 refine Zd 9 rfl hn (zw rfl rfl) ?_
 refine zG ?_
 refine zq (by kernel_rfl) ?_
 refine zC (zE ?_)
 refine zt (W := fun b => b ≠ b2 ∧ b ≠ b3) fmo ?_
 refine Zd 0 rfl hn (zU rfl rfl (id := 2) rfl underlying27 rfl sz27 rfl rfl (seesA (by simp))) ?_
 refine Zd 2 rfl hn (zU rfl rfl (id := 3) rfl underlying31 rfl sz31 rfl rfl (seesA (by simp))) ?_
 refine zG ?_
 refine Zo 1 rfl (Zc hn (kg d (by omega) (by omega))) fun _ => ?_
 refine d2_of_d1 (zG ?_)
 refine Zo 3 rfl (Zc hn (k9 t (by omega) (by omega) (by omega))) fun _ => ?_
 refine d2_of_d1 (zG ?_)
 refine Zo 4 rfl (Zc hn ((by have h := zED d hN (by omega) (by omega) t; rw [e2] at h; exact h))) fun _ => ?_
 refine d2_of_d1 ?_
 refine Zd 5 rfl hn (zI rfl rfl) ?_
 refine Zd 6 rfl hn (yU rfl rfl rfl) ?_
 refine Zd 7 rfl hn (yU rfl rfl rfl) ?_
 refine Zd 8 rfl hn (yU rfl rfl rfl) ?_
 refine Zd 9 rfl hn (zw rfl rfl) ?_
 refine Zd 10 rfl hn (zw rfl rfl) ?_
 refine Zd 11 rfl hn (zw rfl rfl) ?_
 refine zG ?_
 refine zq (by kernel_rfl) ?_
 refine zC (zE ?_)
 refine zt (W := fun b => b ≠ b2 ∧ b ≠ b3) fmo ?_
 refine Zd 0 rfl hn (zU rfl rfl (id := 2) rfl underlying27 rfl sz27 rfl rfl (seesA (by simp))) ?_
 refine Zd 2 rfl hn (zU rfl rfl (id := 3) rfl underlying31 rfl sz31 rfl rfl (seesA (by simp))) ?_
 refine zG ?_
 refine Zo 1 rfl (Zc hn (kg d (by omega) (by omega))) fun _ => ?_
 refine d2_of_d1 (zG ?_)
 refine Zo 3 rfl (Zc hn (k9 t (by omega) (by omega) (by omega))) fun _ => ?_
 refine d2_of_d1 (zG ?_)
 refine Zo 4 rfl (Zc hn ((by have h := zCH d hN (by omega) (by omega) t; rw [e3] at h; exact h))) fun _ => ?_
 refine d2_of_d1 ?_
 refine Zd 5 rfl hn (zw rfl rfl) ?_
 refine zG ?_
 refine zq (by kernel_rfl) ?_
 refine zC (Zu ?_)
 refine Zs hn (zU rfl rfl (id := 2) rfl underlying27 rfl sz27 rfl rfl sees0) ?_
 refine stepW (Zc hn (zDK d hN (by omega) (by omega))) fun _ => ?_
 refine qs 5 hn rfl ?_
 refine Zv (Zu ?_)
 refine qs 2 hn rfl ?_
 refine Zv (zE (Zu ?_))
 refine Zs hn (zU rfl rfl (id := 2) rfl underlying27 rfl sz27 rfl rfl sees0) ?_
 refine stepW (Zc hn (kg d (by omega) (by omega))) fun _ => ?_
 refine stepW (Zc hn (zBv d hN (by omega) (by omega))) fun _ => ?_
 refine Zq 1 hn rfl (yT rfl rfl rfl) ?_
 refine Zv ?_
 refine zL rfl (fun hb10 => ?_) (fun hb10 => ?_)
 ·
  exact absurd hb10 (by simp)
 refine zO (zC (zE (Zu ?_)))
 refine Zq 1 hn rfl (yA rfl rfl rfl) ?_
 refine qs 1 hn rfl ?_
 refine Zh [] (zA rfl rfl rfl) hn (fun hc => trivial) (fun hc => zU rfl rfl (id := 2) rfl underlying27 rfl sz27 rfl rfl sees0) ?_
 refine Zh [] (zA rfl rfl rfl) hn (fun hc => trivial) (fun hc => zI rfl rfl) ?_
 refine Zh [] (zA rfl rfl rfl) hn (fun hc => trivial) (fun hc => zU rfl rfl (id := 3) rfl underlying31 rfl sz31 rfl rfl sees0) ?_
 refine stepW (s_call [(64, _), (65, _), (66, _)] (fun hc => zFh d (fltI d) t (yy (yp (by simpa using hc)).1) (by omega) zEQ.1 zEQ.2) rfl (zA rfl rfl rfl) rfl (nb hn rfl) (fun hc => ⟨⟨_, rfl, hc⟩, ⟨_, rfl, hc⟩, ⟨_, rfl, hc⟩, trivial⟩) rfl rfl (.refl _)) fun _ => ?_
 refine Zh [(67, _)] (zA rfl rfl rfl) hn (fun hc => ⟨⟨_, rfl, hc⟩, trivial⟩) (fun hc => yD rfl rfl) ?_
 refine Zs hn (zv rfl rfl rfl (by intro hB; first | (rw [hB]; rfl) | (rw [hB, hc]; rfl) | simp_all)) ?_
 refine Zv ?_
 refine zz (e := .normal) (ι := Unit) (fun u0 => [(13, true, .d (.int .i64 (wnt d t)))]) (fun u0 => []) (fun hJ11 => ?_) ?_
 ·
  refine zL rfl (fun hb11 => ?_) (fun hb11 => ?_)
  have q2 : (deskI d == 0 && !(isTB d (fltI d) t)) = true := hb11
  refine zM ?_
  refine qs 1 hn rfl ?_
  refine zZ ?_
  rotate_left
  have q2 : (deskI d == 0 && !(isTB d (fltI d) t)) = false := hb11
  refine zO ?_
  rotate_left
  all_goals
   exact Zj hJ11 () ⟨.inl (congrArg (fun z => some (true, TV.d (D.int .i64 z))) (by unfold wnt; rw [q2]; rfl)), trivial⟩ trivial
 rintro _
 refine zC (zE (Zu ?_))
 refine Zq 1 hn rfl (yT rfl rfl rfl) ?_
 refine Zv ?_
 refine zL rfl (fun hb12 => ?_) (fun hb12 => ?_)
 ·
  refine Zu ?_
  refine Zq 2 hn rfl (yA rfl rfl rfl) ?_
  refine qs 1 hn rfl ?_
  refine Zh [] (zA rfl rfl rfl) hn (fun hc => trivial) (fun hc => zI rfl rfl) ?_
  refine Zh [] (zA rfl rfl rfl) hn (fun hc => trivial) (fun hc => zI rfl rfl) ?_
  refine Zh [(76, _), (77, _)] (zA rfl rfl rfl) hn (fun hc => ⟨⟨_, rfl, hc⟩, ⟨_, rfl, hc⟩, trivial⟩) (fun hc => yA rfl rfl rfl) ?_
  refine Zs hn (zv rfl rfl rfl (by intro hB; first | (rw [hB]; rfl) | (rw [hB, hc]; rfl) | simp_all)) ?_
  refine qs 1 hn rfl ?_
  refine Zh [] (zA rfl rfl rfl) hn (fun hc => trivial) (fun hc => zI rfl rfl) ?_
  refine Zh [(81, _)] (zA rfl rfl rfl) hn (fun hc => ⟨⟨_, rfl, hc⟩, trivial⟩) (fun hc => yD rfl rfl) ?_
  refine Zs hn (zv rfl rfl rfl (by intro hB; first | (rw [hB]; rfl) | (rw [hB, hc]; rfl) | simp_all)) ?_
  refine qs 1 hn rfl ?_
  refine Zh [] (zA rfl rfl rfl) hn (fun hc => trivial) (fun hc => zI rfl rfl) ?_
  refine Zh [(85, _)] (zA rfl rfl rfl) hn (fun hc => ⟨⟨_, rfl, hc⟩, trivial⟩) (fun hc => zx rfl rfl underlying53) ?_
  refine Zh [] (zA rfl rfl rfl) hn (fun hc => trivial) (fun hc => zI rfl rfl) ?_
  refine Zh [(87, _)] (zA rfl rfl rfl) hn (fun hc => ⟨⟨_, rfl, hc⟩, trivial⟩) (fun hc => zx rfl rfl underlying29) ?_
  refine Zh [(86, _), (88, _)] (zA rfl rfl rfl) hn (fun hc => ⟨⟨_, rfl, hc⟩, ⟨_, rfl, hc⟩, trivial⟩) (fun hc => zu rfl rfl rfl (r := 0) (i64w (by simp) rfl)) ?_
  refine Zh [(89, _)] (zA rfl rfl rfl) hn (fun hc => ⟨⟨_, rfl, hc⟩, trivial⟩) (fun hc => yA rfl rfl rfl) ?_
  refine Zs hn (zv rfl rfl rfl (by intro hB; first | (rw [hB]; rfl) | (rw [hB, hc]; rfl) | simp_all)) ?_
  refine qs 1 hn rfl ?_
  refine Zh [] (zA rfl rfl rfl) hn (fun hc => trivial) (fun hc => zI rfl rfl) ?_
  refine Zh [(93, _)] (zA rfl rfl rfl) hn (fun hc => ⟨⟨_, rfl, hc⟩, trivial⟩) (fun hc => yA rfl rfl rfl) ?_
  refine Zs hn (zv rfl rfl rfl (by intro hB; first | (rw [hB]; rfl) | (rw [hB, hc]; rfl) | simp_all)) ?_
  refine qs 1 hn rfl ?_
  refine stepW (s_call [] (fun hc => zCJ) rfl (zA rfl rfl rfl) rfl (nb hn rfl) (fun hc => trivial) rfl rfl (.refl _)) fun _ => ?_
  refine Zs hn (zv rfl rfl rfl (by intro hB; first | (rw [hB]; rfl) | (rw [hB, hc]; rfl) | simp_all)) ?_
  refine qs 1 hn rfl ?_
  refine Zv (zN (zD ?_))
  refine zm (zi (.inl rfl) hl rfl (.tmp rfl)) ?_
  simp
 exact absurd hb12 (by rw [hq]; decide)
end Go.Proofs.YticlpkgpmmhemaaGreatDoor
