/-
  A part of the proof that contangolaw.TapeLeft returns true: what the last text needs, and no more. No condition: no statement of the seat is proved here.
-/
import Derived.ChangeKeysEq
import Derived.Test.YtplpcamcnppibaaGreatDoorTapeLeftI
namespace Go.Proofs.YtplpcamcnppibaaGreatDoor
open Go.RowKit
set_option linter.all false
set_option maxRecDepth 20000
theorem zBa {F : Nat → Nat → Prop} {w : World} : ∀ {l : List Bool} {vs : List Value}, RepVals F w (l.map .bool) vs → vs = l.map .bool
  | [], _, h => h
  | b :: l, _, ⟨v, vs', e, h1, h2⟩ => by
    subst e
    cases h1
    rw [zBa h2]
    rfl
theorem zAn {P : Program} {e : TypeId} (d : Nat) (he : P.underlying e = some .bool) (xs ys : List Bool) (w : World) : ∀ is : List Nat, (∀ i ∈ is, i < xs.length ∧ i < ys.length) →
    (Op.eqItems (d + 1) e 1 (xs.map Value.bool).toArray (ys.map Value.bool).toArray is).run P w = .ok (is.all fun i => xs.getD i false == ys.getD i false) w
  | [], _ => by simp [Op.eqItems]
  | i :: is, h => by
    obtain ⟨hx, hy⟩ := h i List.mem_cons_self
    have px : (part e (xs.map Value.bool).toArray (i * 1)).run P w = .ok (.bool (xs.getD i false)) w := by
      simp [part, isAgg, run_underlying he, List.getD, List.getElem?_eq_getElem hx]
    have py : (part e (ys.map Value.bool).toArray (i * 1)).run P w = .ok (.bool (ys.getD i false)) w := by
      simp [part, isAgg, run_underlying he, List.getD, List.getElem?_eq_getElem hy]
    simp only [Op.eqItems, Sem.run_bind, px, py, Result.andThen_ok, run_equalIn_bool' w d e _ _ he, List.all_cons]
    cases hb : (xs.getD i false == ys.getD i false)
    · simp
    · simp only [Bool.not_true, Bool.false_eq_true, if_false, Bool.true_and]
      exact zAn d he xs ys w is fun j hj => h j (List.mem_cons_of_mem _ hj)
/-- Whether two levels have the same prices. -/
def lvB (m m' : Nat) : Bool := (List.range 800).all fun p => m.testBit p == m'.testBit p
def bits (m : Nat) : List Bool := (List.range 800).map fun p => m.testBit p
theorem zBF {m p : Nat} (h : p < 800) : (bits m).getD p false = m.testBit p := by
  simp [bits, List.getD, List.getElem?_map, List.getElem?_range h]
theorem bits_all (m m' : Nat) : ((List.range 800).all fun i => (bits m).getD i false == (bits m').getD i false) = lvB m m' := by
  unfold lvB
  rw [Bool.eq_iff_iff, List.all_eq_true, List.all_eq_true]
  constructor
  · intro q p hp
    have := q p hp
    rwa [zBF (List.mem_range.1 hp), zBF (List.mem_range.1 hp)] at this
  · intro q p hp
    rw [zBF (List.mem_range.1 hp), zBF (List.mem_range.1 hp)]
    exact q p hp
theorem lvE_bits (m : Nat) : lvE m = (bits m).map .bool := by simp [lvE, bits, List.map_map, Function.comp_def]
section
variable {Γ : Cx} {P : Program} {σ : St} {o : Oper} {R : Rel}
theorem q_eqlL {x y : Operand} {t t' e : TypeId} {m m' : Nat} (ht : P.underlying t = some (.array 800 e)) (he : P.underlying e = some .bool) (hi : (P.info? e).isSome = true) (hc : P.cellsOf e = 1) (hG : P.eqGuardType P.depth t = false)
    (h : o.op = .binOp .eql t x y t') (hx : σ.ev x = some (true, .d (.agg (lvE m)))) (hy : σ.ev y = some (true, .d (.agg (lvE m')))) : QV Γ P σ o R (.d (.bool (lvB m m'))) := fun A w F hs => by
  obtain ⟨vs, e1, h1, _⟩ := hs.ev hx
  obtain ⟨us, e2, h2, _⟩ := hs.ev hy
  rw [lvE_bits] at h1 h2
  obtain rfl := zBa h1
  obtain rfl := zBa h2
  obtain ⟨i, hi⟩ := Option.isSome_iff_exists.1 hi
  refine ⟨.bool (lvB m m'), rfl, fun w' _ => ?_⟩
  have hl : ∀ m : Nat, (bits m).length = 800 := fun m => by simp [bits]
  have hrun : (binOp .eql t (.agg ((bits m).map Value.bool).toArray) (.agg ((bits m').map Value.bool).toArray)).run P w' = .ok (.bool (lvB m m')) w' := by
    rw [run_eql_struct, run_equalIn_array w' 9999 _ _ ht hi, hc, zAn 9998 he _ _ w' _ fun i hi => by rw [hl, hl]; exact ⟨List.mem_range.1 hi, List.mem_range.1 hi⟩, bits_all]
    simp only [Result.andThen_ok]
  simp only [execOp, h, e1, e2, Sem.run_bind, run_eqGuard_agg w' .eql t x y _ _ hG, Result.andThen_ok, hrun, Sem.run_pure]
end
theorem lvB_zero {m : Nat} (h : m &&& full8 = m) : lvB m 0 = (m == 0) := by
  rw [Bool.eq_iff_iff, lvB, List.all_eq_true, beq_iff_eq]
  constructor
  · intro q
    refine zE7 h (by simp) fun p hp => ?_
    simpa using q p (List.mem_range.2 hp)
  · rintro rfl p _
    simp
end Go.Proofs.YtplpcamcnppibaaGreatDoor
namespace Go.Proofs.YtplpcamcnppibaaGreatDoor
open Go.RowKit
set_option maxRecDepth 20000
set_option linter.all false
set_option exponentiation.threshold 2000
def Can (m : Nat) : Prop := m &&& full8 = m
theorem zFH {m p : Nat} (h : Can m) (hp : 800 ≤ p) : m.testBit p = false := by
  rw [← h, Nat.testBit_and, yw]; simp; omega
theorem zFm {m : Nat} (h : ∀ p, 800 ≤ p → m.testBit p = false) : Can m := by
  apply Nat.eq_of_testBit_eq
  intro p
  rw [Nat.testBit_and, yw]
  by_cases hp : p < 800
  · simp [hp]
  · rw [h p (by omega)]; rfl
theorem zEz {m p : Nat} {b : Bool} (h : Can m) (hp : p < 800) : Can (putB m p b) := zFm fun q hq => by rw [kZ, if_neg (by omega)]; exact zFH h hq
theorem zEx {m n : Nat} (h : Can m) : Can (m &&& n) := zFm fun q hq => by rw [Nat.testBit_and, zFH h hq]; rfl
theorem zCO (f : Nat → Bool) : Can (maskOf f 800) := maskOf_full f
theorem zCy (s : Stk) : Can (startN s) := zCO _
theorem zDh (s : Prt) (i : Nat) (l : List Int) (m : Nat) : Can (ownN s i l m) := zCO _
theorem zCX : Can 0 := by unfold Can; simp
/-- What the sales before allow. -/
def fwdGo (l : List Int) (J k : Nat) : Nat → List Prt → Nat → List Nat → Nat × List Nat
  | _, [], now, o => (now, o)
  | i, s :: r, now, o => bif s.stock == (k : Int) then fwdGo l J k (i + 1) r (ownN s i l (nearN now J)) (o.set i (ownN s i l (nearN now J))) else fwdGo l J k (i + 1) r now o
/-- What those after allow. -/
def bwdGo (sales : List Prt) (J k : Nat) : Nat → Nat → List Nat → List Nat
  | 0, _, o => o
  | i + 1, now, o => bif (sales.getD i ⟨-1, 0, 0, 0, false, 0, 0, 0⟩).stock == (k : Int) then bwdGo sales J k i (nearN (o.getD i 0 &&& now) J) (o.set i (o.getD i 0 &&& now)) else bwdGo sales J k i now o
def lvlGo (sales : List Prt) (l : List Int) (J : Nat) : Nat → List Stk → List Nat → Option (List Nat)
  | _, [], o => some o
  | k, s :: r, o => bif (fwdGo l J k 0 sales (startN s) o).1 == 0 then none else lvlGo sales l J (k + 1) r (bwdGo sales J k sales.length (fwdGo l J k 0 sales (startN s) o).1 (fwdGo l J k 0 sales (startN s) o).2)
def levelsN (b : Brd) (sales : List Prt) (l : List Int) (J : Nat) : Option (List Nat) := lvlGo sales l J 0 b.stocks (List.replicate sales.length 0)
@[reducible] def lvsT (ms : List Nat) : List TV := (ms.map lvE).flatten.map .d
@[reducible] def lvsD (r : Option (List Nat)) : D := .slice 800 ((r.getD []).map lvE)
theorem y0 {ms : List Nat} : ∀ r ∈ ms.map lvE, r.length = 800 := fun r h => by
  obtain ⟨m, _, rfl⟩ := List.mem_map.1 h
  exact yU m
theorem zCP {ms : List Nat} : (lvsT ms).length = ms.length * 800 := by rw [List.length_map, kh y0, List.length_map]
theorem zDx (n : Nat) : (List.replicate n (lvT 0)).flatten = lvsT (List.replicate n 0) := by
  rw [lvsT, List.map_replicate, List.map_flatten, List.map_replicate]
theorem lvs_le {ms : List Nat} {i : Nat} (h : i < ms.length) : 0 + i * 800 + 800 ≤ (lvsT ms).length := by rw [zCP]; omega
theorem lvs_put {ms : List Nat} {i m : Nat} (h : i < ms.length) : (lvsT ms).take (0 + i * 800) ++ (TV.d (.agg (lvE m))).cells ++ (lvsT ms).drop (0 + i * 800 + 800) = lvsT (ms.set i m) := by
  have := congrArg (List.map TV.d) (zEs (i := i) (x := lvE m) y0 (by rw [List.length_map]; exact h))
  rw [List.map_append, List.map_append, List.map_take, List.map_drop] at this
  rw [Nat.zero_add, lvsT, lvsT, List.map_set]
  exact this
theorem zE4 {ms : List Nat} {i m p : Nat} (h : ms[i]? = some m) (hp : p < 800) : (lvsT ms)[0 + i * 800 + p * 1]? = some (.d (.bool (m.testBit p))) := by
  rw [Nat.zero_add, Nat.mul_one, List.getElem?_map, zCJ y0 (show (ms.map lvE)[i]? = some (lvE m) by rw [List.getElem?_map, h]; rfl) hp, zAK hp]
  rfl
theorem lvs_set {ms : List Nat} {i m p : Nat} {b : Bool} (h : ms[i]? = some m) (hp : p < 800) : (lvsT ms).set (0 + i * 800 + p * 1) (.d (.bool b)) = lvsT (ms.set i (putB m p b)) := by
  have h1 := zDa (c := D.bool b) y0 (show (ms.map lvE)[i]? = some (lvE m) by rw [List.getElem?_map, h]; rfl) hp
  have h2 : (lvE m).set p (.bool b) = lvE (putB m p b) := by
    have := zFO (m := m) (b := b) hp
    rw [lvT, ← List.map_set] at this
    exact (List.map_inj_right fun x y h => by cases h; rfl).1 this
  rw [Nat.zero_add, Nat.mul_one]
  show ((ms.map lvE).flatten.map TV.d).set (i * 800 + p) (TV.d (.bool b)) = ((ms.set i (putB m p b)).map lvE).flatten.map TV.d
  rw [← List.map_set, h1, h2, ← List.map_set]
theorem lvs_seg {ms : List Nat} {i m : Nat} (h : ms[i]? = some m) : allD (((lvsT ms).drop (0 + i * 800)).take 800) = some (lvE m) := by
  rw [Nat.zero_add, lvsT, ← List.map_drop, ← List.map_take, zFj y0 (show (ms.map lvE)[i]? = some (lvE m) by rw [List.getElem?_map, h]; rfl)]
  exact yC _
theorem lvT_get1 {m p : Nat} (h : p < 800) : (lvT m)[0 + p * 1]? = some (.d (.bool (m.testBit p))) := by rw [Nat.zero_add, Nat.mul_one]; exact zCA h
theorem zAP {k : Nat} : ∀ {rows : List (List D)}, (∀ r ∈ rows, r.length = k) → chunk k rows.length rows.flatten = rows
  | [], _ => rfl
  | r :: rows, h => by
    have hr := h r List.mem_cons_self
    rw [List.length_cons, chunk, List.flatten_cons, List.take_append_of_le_length (by omega), List.take_of_length_le (by omega), List.drop_append_of_le_length (by omega), List.drop_of_length_le (l := r) (by omega), List.nil_append, zAP fun x hx => h x (List.mem_cons_of_mem _ hx)]
theorem zBG {ms : List Nat} {i m : Nat} (h : ms[i]? = some m) : ms.set i m = ms := by
  obtain ⟨hlt, rfl⟩ := List.getElem?_eq_some_iff.1 h
  exact List.set_getElem_self hlt
theorem zDl {ms : List Nat} {i m : Nat} (h : i < ms.length) : (ms.set i m)[i]? = some m := by rw [List.getElem?_set, if_pos rfl, if_pos h]
theorem zEg {ms : List Nat} {i m p : Nat} {b : Bool} (h : i < ms.length) (hp : p < 800) : (lvsT (ms.set i m)).set (0 + i * 800 + p * 1) (.d (.bool b)) = lvsT (ms.set i (putB m p b)) := by rw [lvs_set (zDl h) hp, List.set_set]
theorem and_end {o now m1 : Nat} (h1 : Can m1) (h2 : Can o) (h : ∀ q, q < 800 → m1.testBit q = if q < 800 then o.testBit q && now.testBit q else o.testBit q) : m1 = o &&& now :=
  zE7 h1 (zEx h2) fun q hq => by rw [h q hq, if_pos hq, Nat.testBit_and]
theorem zj {α : Type} {l : List α} {i : Nat} {x d : α} (h : l[i]? = some x) : l.getD i d = x := by rw [List.getD_eq_getElem?_getD, h]; rfl
theorem zFX {l : List Nat} {i m : Nat} {P : Nat → Prop} (h : ∀ x ∈ l, P x) (hm : P m) : ∀ x ∈ l.set i m, P x := fun x hx => by
  rcases List.mem_or_eq_of_mem_set hx with hx | rfl
  · exact h x hx
  · exact hm
/-- What the program knows of minutes: from before, no later bound decreases. -/
def minF : List Prt → Int → List (Int × Int)
  | [], _ => []
  | s :: r, lo => (max (s.minute - s.lhi) lo, s.minute - s.llo) :: minF r (max (s.minute - s.lhi) lo)
def minB : List (Int × Int) → List (Int × Int)
  | [] => []
  | x :: r => (x.1, match minB r with
    | [] => x.2
    | y :: _ => min x.2 y.2) :: minB r
def minI (sales : List Prt) : List (Int × Int) := minB (minF sales (-9999))
def rightB (l : List (Int × Int)) : Bool := l.all fun r => decide (r.1 ≤ r.2)
/-- What is so of each sale that is read. -/
structure PrtOK (b : Brd) (p : Prt) : Prop where
  st : 0 ≤ p.stock ∧ p.stock < b.stocks.length
  nm : 1 ≤ p.nlo ∧ p.nlo ≤ p.nhi ∧ p.nhi ≤ 99
  fg : 0 ≤ p.fig ∧ p.fig ≤ 8000
  mi : 0 ≤ p.minute ∧ p.minute ≤ 600
  la : 0 ≤ p.llo ∧ p.llo ≤ p.lhi ∧ p.lhi ≤ 60
@[reducible] def rngT (l : List (Int × Int)) : List TV := (l.map rngE).flatten.map .d
theorem kE {l : List (Int × Int)} : ∀ r ∈ l.map rngE, r.length = 2 := fun r h => by
  obtain ⟨m, _, rfl⟩ := List.mem_map.1 h
  rfl
theorem zAX {l : List (Int × Int)} : (rngT l).length = l.length * 2 := by rw [List.length_map, kh kE, List.length_map]
theorem rng_zero (n : Nat) : (List.replicate n [TV.d (.int .i64 0), .d (.int .i64 0)]).flatten = rngT (List.replicate n (0, 0)) := by
  rw [rngT, List.map_replicate, List.map_flatten, List.map_replicate]; rfl
theorem rng_put {l : List (Int × Int)} {i : Nat} {a b : Int} (h : i < l.length) : (rngT l).take (0 + i * 2) ++ (TV.d (.agg (rngE (a, b)))).cells ++ (rngT l).drop (0 + i * 2 + 2) = rngT (l.set i (a, b)) := by
  have := congrArg (List.map TV.d) (zEs (i := i) (x := rngE (a, b)) kE (by rw [List.length_map]; exact h))
  rw [List.map_append, List.map_append, List.map_take, List.map_drop] at this
  rw [Nat.zero_add, rngT, rngT, List.map_set]
  exact this
theorem rng_le {l : List (Int × Int)} {i : Nat} (h : i < l.length) : 0 + i * 2 + 2 ≤ (rngT l).length := by rw [zAX]; omega
theorem zDP {l : List (Int × Int)} {i : Nat} {r : Int × Int} (h : l[i]? = some r) : (rngT l)[0 + i * 2 + 0]? = some (.d (.int .i64 r.1)) := by
  rw [Nat.zero_add, List.getElem?_map, zCJ kE (show (l.map rngE)[i]? = some (rngE r) by rw [List.getElem?_map, h]; rfl) (by omega)]
  rfl
theorem zDn {l : List (Int × Int)} {i : Nat} {r : Int × Int} (h : l[i]? = some r) : (rngT l)[0 + i * 2 + 1]? = some (.d (.int .i64 r.2)) := by
  rw [Nat.zero_add, List.getElem?_map, zCJ kE (show (l.map rngE)[i]? = some (rngE r) by rw [List.getElem?_map, h]; rfl) (by omega)]
  rfl
theorem zDD {l : List (Int × Int)} {i : Nat} {r : Int × Int} {a : Int} (h : l[i]? = some r) : (rngT l).set (0 + i * 2 + 0) (.d (.int .i64 a)) = rngT (l.set i (a, r.2)) := by
  have h1 := zDa (j := 0) (c := D.int .i64 a) kE (show (l.map rngE)[i]? = some (rngE r) by rw [List.getElem?_map, h]; rfl) (by omega)
  rw [Nat.zero_add]
  show ((l.map rngE).flatten.map TV.d).set (i * 2 + 0) (TV.d (.int .i64 a)) = ((l.set i (a, r.2)).map rngE).flatten.map TV.d
  rw [← List.map_set, h1, List.map_set]; rfl
theorem zCz {l : List (Int × Int)} {i : Nat} {r : Int × Int} {a : Int} (h : l[i]? = some r) : (rngT l).set (0 + i * 2 + 1) (.d (.int .i64 a)) = rngT (l.set i (r.1, a)) := by
  have h1 := zDa (j := 1) (c := D.int .i64 a) kE (show (l.map rngE)[i]? = some (rngE r) by rw [List.getElem?_map, h]; rfl) (by omega)
  rw [Nat.zero_add]
  show ((l.map rngE).flatten.map TV.d).set (i * 2 + 1) (TV.d (.int .i64 a)) = ((l.set i (r.1, a)).map rngE).flatten.map TV.d
  rw [← List.map_set, h1, List.map_set]; rfl
theorem bt148 : BT Tryz.prog 148 (.agg (Array.replicate 800 (.bool false))) (fun i => some (i * 1, 1)) := bt_array Tryz.underlying148 zr148 sz4
theorem g148 : Tryz.prog.eqGuardType Tryz.prog.depth 148 = false := by kernel_rfl
theorem c148 : Tryz.prog.cellsOf 4 = 1 := by kernel_rfl
theorem i148 : (Tryz.prog.info? 4).isSome = true := by kernel_rfl
theorem and_step {o now m1 q : Nat} (hq : q < 800) (h : ∀ r, r < 800 → m1.testBit r = if r < q then o.testBit r && now.testBit r else o.testBit r) :
    ∀ r, r < 800 → (putB m1 q (m1.testBit q && now.testBit q)).testBit r = if r < q + 1 then o.testBit r && now.testBit r else o.testBit r := by
  intro r hr
  rw [kZ]
  by_cases e : r = q
  · subst e
    rw [if_pos rfl, if_pos (by omega), h r hr, if_neg (by omega)]
  · rw [if_neg e, h r hr]
    by_cases e2 : r < q
    · rw [if_pos e2, if_pos (by omega)]
    · rw [if_neg e2, if_neg (by omega)]
theorem levels_eff (bb : Nat) (b : Brd) (sales : List Prt) (vo : Value) (l : List Int) (hV : VecV vo 1 (intsT l)) (J : Nat) (hJ : b.jump = (J : Nat)) (hJ4 : J ≤ 40) (hsl : sales.length ≤ 8) (hbl : b.stocks.length ≤ 1000) : EffAt Tryz.prog 71 [.val (.pointer (some ⟨bb, 0, none⟩))] (bookRs bb b sales vo l) (X := Unit) (fun _ => .d (.tup [lvsD (levelsN b sales l J), .bool (levelsN b sales l J).isSome])) (fun _ => bookRs bb b sales vo l) := by
 refine EffAt.of_awp Tryz.func71 rfl (by kernel_rfl) rfl fun Γ hn => ?_
 refine zC (zB ?_)
 refine sq rfl rfl hn rfl (zE rfl rfl) ?_
 refine sq rfl rfl hn rfl (zE rfl rfl) ?_
 refine zF (zA (zC (zB ?_)))
 refine sq rfl rfl hn rfl (zD rfl rfl) ?_
 refine sq rfl rfl hn rfl (zY rfl rfl) ?_
 refine sq rfl rfl hn rfl (zH rfl rfl Tryz.underlying152 rfl sz27) ?_
 refine sq rfl rfl hn rfl (zO rfl rfl (id := 1070) rfl Tryz.underlying27 rfl rfl sees0) ?_
 refine sq rfl rfl hn rfl (yI rfl rfl Tryz.underlying27) ?_
 refine stepW (ki (n := sales.length) 16 rfl rfl rfl (nb hn rfl) Tryz.underlying143 (show _ = some (some (.agg (Array.replicate 800 (.bool false))), 800, 800) from by kernel_rfl) zero800a zero800b (by kernel_rfl) (by decide) rfl rfl (by rw [List.length_map]) (by rw [List.length_map]) (by omega) (by omega) (by omega)) fun b16 => ?_
 refine sq rfl rfl hn rfl (zE rfl rfl) ?_
 refine zF (zA (zC (zC (zB ?_))))
 refine sq rfl rfl hn rfl (zD rfl rfl) ?_
 refine sq rfl rfl hn rfl (zY rfl rfl) ?_
 refine sq rfl rfl hn rfl (zH rfl rfl Tryz.underlying152 rfl sz33) ?_
 refine sq rfl rfl hn rfl (zH rfl rfl Tryz.underlying33 rfl sz31) ?_
 refine sq rfl rfl hn rfl (zO rfl rfl (id := 1070) rfl Tryz.underlying31 rfl rfl sees0) ?_
 refine sq rfl rfl hn rfl (yI rfl rfl Tryz.underlying31) ?_
 refine sq rfl rfl hn rfl (zD rfl rfl) ?_
 refine zF (zA (zU ?_))
 refine awp_loop_on (ι := {x : Nat × List Nat // x.1 ≤ b.stocks.length ∧ x.2.length = sales.length ∧ (∀ m ∈ x.2, Can m) ∧ lvlGo sales l J x.1 (b.stocks.drop x.1) x.2 = levelsN b sales l J}) (fun x => (23, true, .d (.int .i64 (x.1.1 : Nat))) :: anys [24, 25, 5, 26, 27, 28, 6, 29, 30, 31, 32, 33, 34, 35, 36, 37, 38, 8, 7, 39, 40, 41, 42, 43, 44, 45, 46, 47, 48, 49, 50, 51, 52, 53, 54, 55, 56, 57, 58, 59, 60, 61, 62, 9, 63, 64, 67, 68, 69, 70, 71, 72, 73, 74, 75, 76, 77, 78, 79, 10, 80, 81, 82, 83, 84, 85, 86, 87, 88, 89, 90, 91, 92, 93, 94, 95, 96, 97, 98, 99, 100, 101, 102, 65, 66, 103]) (fun x => (16, .box b16 148 (lvsT x.1.2)) :: (1070, .box bb 152 (bookC b sales vo)) :: (1072, vecRes 3 vo 1 (intsT l)) :: gones [6, 8]) (fun x => b.stocks.length - x.1.1) ⟨(0, List.replicate sales.length 0), Nat.zero_le _, by simp, fun m hm => by rw [(List.mem_replicate.1 hm).2]; exact zCX, rfl⟩ ⟨.inl rfl, zK _⟩ ⟨.inl (congrArg (fun z => some (Res.box b16 148 z)) (zDx _)), .inl rfl, .inl rfl, zi _⟩ ?_
 rintro ⟨⟨k, ms⟩, hk, hms, hcan, hgo⟩
 dsimp only
 dsimp only at hk hms hcan hgo
 refine zC (zB ?_)
 refine sq rfl rfl hn rfl (yF rfl rfl rfl) ?_
 refine zF (zA (zC ?_))
 refine zN rfl (fun hb0 => ?_) (fun hb0 => ?_)
 ·
  have hlt : k < b.stocks.length := by simp at hb0; omega
  obtain ⟨s, hst⟩ := zn hlt
  refine zP (zA (zC (zU (zC (zB ?_)))))
  refine sq rfl rfl hn rfl (zD rfl rfl) ?_
  refine sq rfl rfl hn rfl (zE rfl rfl) ?_
  refine zF (zA (zC (zB ?_)))
  refine sq rfl rfl hn rfl (zD rfl rfl) ?_
  refine sq rfl rfl hn rfl (zD rfl rfl) ?_
  refine stepW (s_callE (start_eff bb b sales vo l hV s k hst) rfl rfl rfl (nb hn rfl) (.d rfl) rfl (.refl _) ⟨rfl, rfl, trivial⟩ (fun _ => rfl) (fun _ _ => trivial)) fun _ => ?_
  refine stepW (yA 6 rfl rfl rfl (nb hn rfl) zr148 zero800a zero800b) fun b6 => ?_
  refine stepW (zo rfl rfl rfl rfl rfl rfl (id := 6) rfl sz148 (by rw [show (TV.cells (.d (.agg (lvE (startN s))))) = lvT (startN s) from rfl, yG]) (by rw [yG]; decide) (kF _ (yG 0)) trivial) fun _ => ?_
  refine zF (zA (zC (zC (zB ?_))))
  refine sq rfl rfl hn rfl (zD rfl rfl) ?_
  refine sq rfl rfl hn rfl (zY rfl rfl) ?_
  refine sq rfl rfl hn rfl (zH rfl rfl Tryz.underlying152 rfl sz27) ?_
  refine sq rfl rfl hn rfl (zO rfl rfl (id := 1070) rfl Tryz.underlying27 rfl rfl sees0) ?_
  refine sq rfl rfl hn rfl (yI rfl rfl Tryz.underlying27) ?_
  refine sq rfl rfl hn rfl (zD rfl rfl) ?_
  refine zF (zA (zU ?_))
  refine awp_loop_on (ι := {x : Nat × Nat × List Nat // x.1 ≤ sales.length ∧ x.2.2.length = sales.length ∧ Can x.2.1 ∧ (∀ m ∈ x.2.2, Can m) ∧ fwdGo l J k x.1 (sales.drop x.1) x.2.1 x.2.2 = fwdGo l J k 0 sales (startN s) ms}) (fun x => (34, true, .d (.int .i64 (x.1.1 : Nat))) :: anys [35, 36, 37, 38, 8, 7, 39, 40, 41, 42, 43, 44, 45, 46, 47, 48, 49, 50, 51, 52, 53]) (fun x => (6, .box b6 148 (lvT x.1.2.1)) :: (16, .box b16 148 (lvsT x.1.2.2)) :: (1070, .box bb 152 (bookC b sales vo)) :: (1072, vecRes 3 vo 1 (intsT l)) :: gones [8]) (fun x => sales.length - x.1.1) ⟨(0, startN s, ms), Nat.zero_le _, hms, zCy _, hcan, rfl⟩ ⟨.inl rfl, zK _⟩ ⟨.inl rfl, .inl rfl, .inl rfl, .inl rfl, zi _⟩ ?_
  rintro ⟨⟨i, now, ms1⟩, hi, hms1, hc1, hcan1, hfw⟩
  dsimp only
  dsimp only at hi hms1 hc1 hcan1 hfw
  refine zC (zB ?_)
  refine sq rfl rfl hn rfl (yF rfl rfl rfl) ?_
  refine zF (zA (zC ?_))
  refine zN rfl (fun hb1 => ?_) (fun hb1 => ?_)
  ·
   have hil : i < sales.length := by simp at hb1; omega
   obtain ⟨p, hsp⟩ := zn hil
   refine zP (zA (zC (zU (zC (zB ?_)))))
   refine sq rfl rfl hn rfl (zD rfl rfl) ?_
   refine sq rfl rfl hn rfl (q_index (i := i) rfl rfl rfl Tryz.underlying27 sz47 rfl (mget hsp)) ?_
   refine sq rfl rfl hn rfl (yM rfl rfl Tryz.underlying47 rfl sz47 rfl rfl seesF0) ?_
   refine stepW (yA 8 rfl rfl rfl (nb hn rfl) zr47 rfl rfl) fun b8 => ?_
   refine sq rfl rfl hn rfl (zE rfl rfl) ?_
   refine stepW (zo rfl rfl rfl rfl rfl rfl (id := 8) rfl sz47 rfl (Nat.le_of_ble_eq_true rfl) rfl trivial) fun _ => ?_
   refine zF (zA (zC (zB ?_)))
   refine sq rfl rfl hn rfl (zH rfl rfl Tryz.underlying47 rfl sz3) ?_
   refine sq rfl rfl hn rfl (zO rfl rfl (id := 8) rfl Tryz.underlying3 rfl rfl sees0) ?_
   refine sq rfl rfl hn rfl (zD rfl rfl) ?_
   refine sq rfl rfl hn rfl (yD rfl rfl rfl) ?_
   refine zF (zA ?_)
   refine zN rfl (fun hb2 => ?_) (fun hb2 => ?_)
   ·
    have q2 : (p.stock == (k : Int)) = true := hb2
    refine zC (zB ?_)
    refine sq rfl rfl hn rfl (zD rfl rfl) ?_
    refine sq rfl rfl hn rfl (zD rfl rfl) ?_
    refine sq rfl rfl hn rfl (zD rfl rfl) ?_
    refine sq rfl rfl hn rfl (zf rfl rfl (id := 6) rfl Tryz.underlying148 rfl sz148 (yk now) (yU now) sees0) ?_
    refine stepW (s_callE (zEa bb b sales vo l hV J hJ hJ4 now) rfl rfl rfl (nb hn rfl) (.d rfl) rfl (.refl _) ⟨rfl, rfl, trivial⟩ (fun _ => rfl) (fun _ _ => trivial)) fun _ => ?_
    refine stepW (s_callE (own_eff bb b sales vo l hV p i (nearN now J) hsp) rfl rfl rfl (nb hn rfl) (.d rfl) rfl (.refl _) ⟨rfl, rfl, trivial⟩ (fun _ => rfl) (fun _ _ => trivial)) fun _ => ?_
    refine stepW (zo rfl rfl rfl rfl rfl rfl (id := 6) rfl sz148 (yG _) (by rw [yG]; decide) (kF _ (yG _)) trivial) fun _ => ?_
    refine zF (zA (zB ?_))
    refine sq rfl rfl hn rfl (zD rfl rfl) ?_
    refine sq rfl rfl hn rfl (zD rfl rfl) ?_
    refine sq rfl rfl hn rfl (zf rfl rfl (id := 6) rfl Tryz.underlying148 rfl sz148 (yk _) (yU _) sees0) ?_
    refine sq rfl rfl hn rfl (q_indexV (i := i) rfl rfl rfl Tryz.underlying143 sz148 rfl (by omega)) ?_
    refine stepW (zo rfl rfl rfl rfl rfl rfl (id := 16) rfl sz148 (yG _) (lvs_le (ms := ms1) (i := i) (by omega)) (lvs_put (ms := ms1) (i := i) (by omega)) trivial) fun _ => ?_
    refine zF (zS (zA (zB ?_)))
    refine sq rfl rfl hn rfl (zp rfl rfl rfl (r := ((i + 1 : Nat) : Int)) (i64w (by omega) (by omega))) ?_
    refine sq rfl rfl hn rfl (zD rfl rfl) ?_
    refine zF ?_
    exact zR ⟨(i + 1, ownN p i l (nearN now J), ms1.set i (ownN p i l (nearN now J))), by simp only; omega, by simp only; rw [List.length_set]; exact hms1, zDh _ _ _ _, zFX hcan1 (zDh _ _ _ _), by simp only; rw [← hfw, zw hsp, fwdGo, q2]; rfl⟩ ⟨.inl rfl, zK _⟩ ⟨.inl rfl, .inl rfl, .inl rfl, .inl rfl, zi _⟩ (by simp only; omega) (by repeat (first | exact kr _ | refine kc rfl ?_)) (by repeat (first | exact kr _ | refine kc rfl ?_))
   ·
    have q2 : (p.stock == (k : Int)) = false := hb2
    refine zP (zS (zA (zB ?_)))
    refine sq rfl rfl hn rfl (zp rfl rfl rfl (r := ((i + 1 : Nat) : Int)) (i64w (by omega) (by omega))) ?_
    refine sq rfl rfl hn rfl (zD rfl rfl) ?_
    refine zF ?_
    exact zR ⟨(i + 1, now, ms1), by simp only; omega, hms1, hc1, hcan1, by simp only; rw [← hfw, zw hsp, fwdGo, q2]; rfl⟩ ⟨.inl rfl, zK _⟩ ⟨.inl rfl, .inl rfl, .inl rfl, .inl rfl, zi _⟩ (by simp only; omega) (by repeat (first | exact kr _ | refine kc rfl ?_)) (by repeat (first | exact kr _ | refine kc rfl ?_))
  ·
   have hie : i = sales.length := by simp at hb1; omega
   rw [hie, List.drop_length] at hfw
   have hf1 : (fwdGo l J k 0 sales (startN s) ms).1 = now := by rw [← hfw]; rfl
   have hf2 : (fwdGo l J k 0 sales (startN s) ms).2 = ms1 := by rw [← hfw]; rfl
   refine zk (zM (zM (zV (zA (zC (zC (zB ?_)))))))
   refine sq rfl rfl hn rfl (zf rfl rfl (id := 6) rfl Tryz.underlying148 rfl sz148 (yk _) (yU _) sees0) ?_
   refine sq rfl rfl hn rfl (ze (ds := lvE 0) rfl bt148 zero800a zero800b rfl rfl (yC _)) ?_
   refine sq rfl rfl hn rfl (q_eqlL Tryz.underlying148 Tryz.underlying4 i148 c148 g148 rfl rfl rfl) ?_
   refine zF (zA ?_)
   rw [lvB_zero hc1]
   refine zN rfl (fun hb3 => ?_) (fun hb3 => ?_)
   ·
    have hz : (now == 0) = true := hb3
    have hlv : levelsN b sales l J = none := by rw [← hgo, zw hst, lvlGo, hf1, hz]; rfl
    rw [hlv]
    refine zC (zB ?_)
    refine sq rfl rfl hn rfl (zE rfl rfl) ?_
    refine sq rfl rfl hn rfl (zE rfl rfl) ?_
    refine zF (zA (zQ (zL (zX (zL (zL (zX (zL ?_))))))))
    exact ret_E (.inl rfl) () ((zy rfl (.tmp rfl) (.tmp rfl)).le (.tup (.cons (.nil 800) (.refl _)))) ⟨rfl, rfl, trivial⟩
   ·
    have hz : (now == 0) = false := hb3
    refine zP (zA (zC (zB ?_)))
    refine sq rfl rfl hn rfl (zD rfl rfl) ?_
    refine sq rfl rfl hn rfl (zY rfl rfl) ?_
    refine sq rfl rfl hn rfl (zH rfl rfl Tryz.underlying152 rfl sz27) ?_
    refine sq rfl rfl hn rfl (zO rfl rfl (id := 1070) rfl Tryz.underlying27 rfl rfl sees0) ?_
    refine sq rfl rfl hn rfl (yI rfl rfl Tryz.underlying27) ?_
    refine sq rfl rfl hn rfl (yP rfl rfl rfl (r := (sales.length : Int) - 1) (by rw [List.length_map]; exact i64w (by omega) rfl)) ?_
    refine sq rfl rfl hn rfl (zE rfl rfl) ?_
    refine zF (zA (zU ?_))
    refine awp_loop_on (ι := {x : Nat × Nat × List Nat // x.1 ≤ sales.length ∧ x.2.2.length = sales.length ∧ (∀ m ∈ x.2.2, Can m) ∧ bwdGo sales J k x.1 x.2.1 x.2.2 = bwdGo sales J k sales.length now ms1}) (fun x => (9, true, .d (.int .i64 ((x.1.1 : Nat) - 1))) :: anys [63, 64, 67, 68, 69, 70, 71, 72, 73, 74, 75, 76, 77, 78, 79, 10, 80, 81, 82, 83, 84, 85, 86, 87, 88, 89, 90, 91, 92, 93, 94, 95, 96, 97, 98, 99, 100, 101, 102, 65, 66]) (fun x => [(6, .box b6 148 (lvT x.1.2.1)), (16, .box b16 148 (lvsT x.1.2.2)), (1070, .box bb 152 (bookC b sales vo)), (1072, vecRes 3 vo 1 (intsT l))]) (fun x => x.1.1) ⟨(sales.length, now, ms1), Nat.le_refl _, hms1, hcan1, rfl⟩ ⟨.inl rfl, zK _⟩ ⟨.inl rfl, .inl rfl, .inl rfl, .inl rfl, trivial⟩ ?_
    rintro ⟨⟨j1, now2, ms2⟩, hj, hms2, hcan2, hbw⟩
    dsimp only
    dsimp only at hj hms2 hcan2 hbw
    refine zC (zC (zB ?_))
    refine sq rfl rfl hn rfl (zD rfl rfl) ?_
    refine sq rfl rfl hn rfl (kk rfl rfl rfl) ?_
    refine zF (zA ?_)
    refine zN rfl (fun hb4 => ?_) (fun hb4 => ?_)
    ·
     obtain ⟨j, rfl⟩ : ∃ j, j1 = j + 1 := ⟨j1 - 1, by simp at hb4; omega⟩
     obtain ⟨p, hsj⟩ := zn (show j < sales.length by omega)
     obtain ⟨o, ho⟩ := zn (show j < ms2.length by omega)
     have hco := hcan2 o (List.mem_of_getElem? ho)
     refine zP (zA (zC (zU (zC (zC (zB ?_))))))
     refine sq rfl rfl hn rfl (zD rfl rfl) ?_
     refine sq rfl rfl hn rfl (zY rfl rfl) ?_
     refine sq rfl rfl hn rfl (zH rfl rfl Tryz.underlying152 rfl sz27) ?_
     refine sq rfl rfl hn rfl (zO rfl rfl (id := 1070) rfl Tryz.underlying27 rfl rfl sees0) ?_
     refine sq rfl rfl hn rfl (zD rfl rfl) ?_
     refine sq rfl rfl hn rfl (q_index (i := j) rfl rfl rfl Tryz.underlying27 sz47 (by omega) (mget hsj)) ?_
     refine sq rfl rfl hn rfl (zr rfl rfl Tryz.underlying47 rfl sz3 rfl) ?_
     refine sq rfl rfl hn rfl (zz rfl rfl Tryz.underlying3 rfl seesF0) ?_
     refine sq rfl rfl hn rfl (zD rfl rfl) ?_
     refine sq rfl rfl hn rfl (yb rfl rfl rfl) ?_
     refine zF (zA ?_)
     refine zN rfl (fun hb5 => ?_) (fun hb5 => ?_)
     ·
      have q5 : (p.stock == (k : Int)) = false := by simpa using hb5
      refine zk (zM (zV (zA (zB ?_))))
      refine sq rfl rfl hn rfl (zD rfl rfl) ?_
      refine sq rfl rfl hn rfl (yP rfl rfl rfl (r := ((j : Nat) : Int) - 1) (by rw [show (((j + 1 : Nat) : Int) - 1 - 1) = ((j : Nat) : Int) - 1 by omega]; exact i64w (by omega) rfl)) ?_
      refine sq rfl rfl hn rfl (zE rfl rfl) ?_
      refine zF ?_
      exact zR ⟨(j, now2, ms2), by simp only; omega, hms2, hcan2, by simp only; rw [← hbw, bwdGo, zj hsj, q5]; rfl⟩ ⟨.inl rfl, zK _⟩ ⟨.inl rfl, .inl rfl, .inl rfl, .inl rfl, trivial⟩ (by simp only; omega) (by repeat (first | exact kr _ | refine kc rfl ?_)) (by repeat (first | exact kr _ | refine kc rfl ?_))
     ·
      have q5 : (p.stock == (k : Int)) = true := by simpa using hb5
      refine zP (zA (zC (zC (zB ?_))))
      refine sq rfl rfl hn rfl (zD rfl rfl) ?_
      refine zF (zA (zU ?_))
      refine awp_loop_on (ι := {x : Nat × Nat // x.1 ≤ 800 ∧ Can x.2 ∧ ∀ q, q < 800 → x.2.testBit q = if q < x.1 then o.testBit q && now2.testBit q else o.testBit q}) (fun x => (77, true, .d (.int .i64 (x.1.1 : Nat))) :: anys [78, 79, 10, 80, 81, 82, 83, 84, 85, 86, 87, 88, 89, 90, 91, 92, 93, 94, 95, 96]) (fun x => [(16, .box b16 148 (lvsT (ms2.set j x.1.2)))]) (fun x => 800 - x.1.1) ⟨(0, o), by simp, hco, fun q _ => by simp⟩ ⟨.inl rfl, zK _⟩ ⟨.inl (by rw [zBG ho]; rfl), trivial⟩ ?_
      rintro ⟨⟨q, m1⟩, hq, hcm, hm1⟩
      dsimp only
      dsimp only at hq hcm hm1
      refine zC (zB ?_)
      refine sq rfl rfl hn rfl (yF rfl rfl rfl) ?_
      refine zF (zA (zC ?_))
      refine zN rfl (fun hb6 => ?_) (fun hb6 => ?_)
      ·
       have hql : q < 800 := by simp at hb6; omega
       refine zP (zA (zC (zU (zC (zB ?_)))))
       refine sq rfl rfl hn rfl (zD rfl rfl) ?_
       refine sq rfl rfl hn rfl (zE rfl rfl) ?_
       refine zF (zA ?_)
       refine yK (W := fun b => b ≠ b6) fmo ?_
       refine d1q (i := 0) rfl (by kernel_rfl) (fun _ _ _ _ h => h) rfl rfl hn rfl (zD rfl rfl) ?_
       refine d1q (i := 1) rfl (by kernel_rfl) (fun _ _ _ _ h => h) rfl rfl hn rfl (zD rfl rfl) ?_
       refine d1q (i := 2) rfl (by kernel_rfl) (fun _ _ _ _ h => h) rfl rfl hn rfl (zD rfl rfl) ?_
       refine d1q (i := 3) rfl (by kernel_rfl) (fun _ _ _ _ h => h) rfl rfl hn rfl (zD rfl rfl) ?_
       refine d1q (i := 4) rfl (by kernel_rfl) (fun _ _ _ _ h => h) rfl rfl hn rfl (zD rfl rfl) ?_
       refine d1q (i := 5) rfl (by kernel_rfl) (fun _ _ _ _ h => h) rfl rfl hn rfl (zD rfl rfl) ?_
       refine d1q (i := 6) rfl (by kernel_rfl) (fun _ _ _ _ h => h) rfl rfl hn rfl (q_indexV (i := j) rfl rfl rfl Tryz.underlying143 sz148 (by omega) (by omega)) ?_
       refine d1q (i := 7) rfl (by kernel_rfl) (fun _ _ _ _ h => h) rfl rfl hn rfl (q_indexA (i := q) rfl rfl rfl Tryz.underlying148 sz4 rfl hql) ?_
       refine d1q (i := 14) rfl (by kernel_rfl) (fun _ _ _ _ h => h) rfl rfl hn rfl (q_indexV (i := j) rfl rfl rfl Tryz.underlying143 sz148 (by omega) (by omega)) ?_
       refine zJ ?_
       refine zT (i := 8) (by kernel_rfl) rfl (zZ _ [] (zI rfl) rfl (nb hn rfl) (fun _ => trivial) (fun _ => zO rfl rfl (id := 16) rfl Tryz.underlying4 rfl (zE4 (zDl (by omega)) hql) sees0)) fun _ => ?_
       refine d2_of_d1 ?_
       refine d1q (i := 9) rfl (by kernel_rfl) (fun _ _ _ _ h => h) rfl rfl hn rfl (zD rfl rfl) ?_
       refine d1g (i := 10) [] rfl (by kernel_rfl) (fun _ _ _ _ h => h) (zG rfl rfl rfl) rfl hn rfl (fun hc => trivial) (fun hc => zD rfl rfl) ?_
       refine d1g (i := 11) [(90, _)] rfl (by kernel_rfl) (fun _ _ _ _ h => h) (zG rfl rfl rfl) rfl hn rfl (fun hc => ⟨⟨_, rfl, hc⟩, trivial⟩) (fun hc => q_indexA (i := q) rfl rfl rfl Tryz.underlying148 sz4 rfl hql) ?_
       refine d1g (i := 12) [(91, _)] rfl (by kernel_rfl) (fun _ _ _ _ h => h) (zG rfl rfl rfl) rfl hn rfl (fun hc => ⟨⟨_, rfl, hc⟩, trivial⟩) (fun hc => zO rfl rfl (id := 6) rfl Tryz.underlying4 rfl (lvT_get1 hql) (seesA (by simp))) ?_
       refine d1q (i := 13) rfl (by kernel_rfl) (fun _ _ _ _ h => h) rfl rfl hn rfl (zx rfl rfl rfl (by intro hB; first | (rw [hB]; rfl) | (rw [hB, hc]; rfl) | simp_all)) ?_
       refine d1q (i := 15) rfl (by kernel_rfl) (fun _ _ _ _ h => h) rfl rfl hn rfl (q_indexA (i := q) rfl rfl rfl Tryz.underlying148 sz4 rfl hql) ?_
       refine zJ ?_
       refine zW (i := 16) (j := 6) rfl rfl rfl (fun hne16_6 => ?_)
       refine zT (i := 16) (by kernel_rfl) rfl (s_store1 rfl rfl rfl rfl rfl rfl (id := 16) rfl sz4 (by rw [zCP, List.length_set]; omega) (zEg (ms := ms2) (i := j) (by omega) hql) (fun e => hne16_6 _ rfl (congrArg some e.symm))) fun _ => ?_
       refine d2_of_d1 (zJ ?_)
       refine zh (by kernel_rfl) ?_
       refine zS (zA (zB ?_))
       refine sq rfl rfl hn rfl (zp rfl rfl rfl (r := ((q + 1 : Nat) : Int)) (i64w (by omega) (by omega))) ?_
       refine sq rfl rfl hn rfl (zD rfl rfl) ?_
       refine zF ?_
       exact zR ⟨(q + 1, putB m1 q (m1.testBit q && now2.testBit q)), by simp only; omega, zEz hcm hql, and_step hql hm1⟩ ⟨.inl rfl, zK _⟩ ⟨.inl rfl, trivial⟩ (by simp only; omega) (by repeat (first | exact kr _ | refine kc rfl ?_)) (by repeat (first | exact kr _ | refine kc rfl ?_))
      ·
       have hqe : q = 800 := by simp at hb6; omega
       subst hqe
       obtain rfl := and_end hcm hco hm1
       refine zk (zM (zM (zV (zA (zB ?_)))))
       refine sq rfl rfl hn rfl (zD rfl rfl) ?_
       refine sq rfl rfl hn rfl (zD rfl rfl) ?_
       refine sq rfl rfl hn rfl (zD rfl rfl) ?_
       refine sq rfl rfl hn rfl (q_indexV (i := j) rfl rfl rfl Tryz.underlying143 sz148 (by omega) (by omega)) ?_
       refine sq rfl rfl hn rfl (zf rfl rfl (id := 16) rfl Tryz.underlying148 rfl sz148 (lvs_seg (zDl (by omega))) (yU _) sees0) ?_
       refine stepW (s_callE (zEa bb b sales vo l hV J hJ hJ4 (o &&& now2)) rfl rfl rfl (nb hn rfl) (.d rfl) rfl (.refl _) ⟨rfl, rfl, trivial⟩ (fun _ => rfl) (fun _ _ => trivial)) fun _ => ?_
       refine stepW (zo rfl rfl rfl rfl rfl rfl (id := 6) rfl sz148 (yG _) (by rw [yG]; decide) (kF _ (yG _)) trivial) fun _ => ?_
       refine zF (zS (zA (zB ?_)))
       refine sq rfl rfl hn rfl (zD rfl rfl) ?_
       refine sq rfl rfl hn rfl (yP rfl rfl rfl (r := ((j : Nat) : Int) - 1) (by rw [show (((j + 1 : Nat) : Int) - 1 - 1) = ((j : Nat) : Int) - 1 by omega]; exact i64w (by omega) rfl)) ?_
       refine sq rfl rfl hn rfl (zE rfl rfl) ?_
       refine zF ?_
       exact zR ⟨(j, nearN (o &&& now2) J, ms2.set j (o &&& now2)), by simp only; omega, by simp only; rw [List.length_set]; exact hms2, zFX hcan2 (zEx hco), by simp only; rw [← hbw, bwdGo, zj hsj, q5, zj ho]; rfl⟩ ⟨.inl rfl, zK _⟩ ⟨.inl rfl, .inl rfl, .inl rfl, .inl rfl, trivial⟩ (by simp only; omega) (by repeat (first | exact kr _ | refine kc rfl ?_)) (by repeat (first | exact kr _ | refine kc rfl ?_))
    ·
     obtain rfl : j1 = 0 := by simp at hb4; omega
     have hb2 : bwdGo sales J k sales.length now ms1 = ms2 := hbw.symm
     refine zk (zM (zM (zV (zS (zA (zB ?_))))))
     refine sq rfl rfl hn rfl (zp rfl rfl rfl (r := ((k + 1 : Nat) : Int)) (i64w (by omega) (by omega))) ?_
     refine sq rfl rfl hn rfl (zD rfl rfl) ?_
     refine zF ?_
     exact zR ⟨(k + 1, ms2), by simp only; omega, hms2, hcan2, by simp only; rw [← hgo, zw hst, lvlGo, hf1, hf2, hz, cond_false, hb2]⟩ ⟨.inl rfl, zK _⟩ ⟨.inl rfl, .inl rfl, .inl rfl, zi _⟩ (by simp only; omega) (by repeat (first | exact kr _ | refine kc rfl ?_)) (by repeat (first | exact kr _ | refine kc rfl ?_))
 ·
  have hke : k = b.stocks.length := by simp at hb0; omega
  rw [hke, List.drop_length] at hgo
  have hlv : levelsN b sales l J = some ms := hgo.symm
  rw [hlv]
  refine zk (zM (zM (zV (zA (zC (zB ?_))))))
  refine sq rfl rfl hn rfl (zD rfl rfl) ?_
  refine sq rfl rfl hn rfl (zE rfl rfl) ?_
  refine sq rfl rfl hn rfl (zE rfl rfl) ?_
  refine zF (zA (zQ ?_))
  refine kM (g_freezeV (t := 2) (sz := 800) (n := sales.length) (es := ms.map lvE) 16 rfl rfl (yC _) (by rw [kh y0, List.length_map, hms]) (by rw [← hms, ← List.length_map (f := lvE)]; exact zAP y0) (Nat.le_refl _) (by simp only [maxLen]; omega)) ?_
  exact ret_E (.inl rfl) () (zy rfl (.tmp rfl) (.tmp rfl)) ⟨rfl, rfl, trivial⟩
end Go.Proofs.YtplpcamcnppibaaGreatDoor
namespace Go.Proofs.YtplpcamcnppibaaGreatDoor
open Go.RowKit
set_option maxRecDepth 20000
set_option linter.all false
theorem ke : ∀ (l : List Prt) (lo : Int), (minF l lo).length = l.length
  | [], _ => rfl
  | s :: r, lo => by rw [minF, List.length_cons, ke r, List.length_cons]
theorem zCL : ∀ {l : List Prt} {lo : Int} {i : Nat} {s : Prt}, l[i]? = some s → (minF l lo)[i]? = some (max (s.minute - s.lhi) (if i = 0 then lo else ((minF l lo).getD (i - 1) (0, 0)).1), s.minute - s.llo)
  | [], _, _, _, h => by simp at h
  | x :: r, lo, 0, s, h => by simp at h; subst h; rfl
  | x :: r, lo, i + 1, s, h => by
    have h' : r[i]? = some s := h
    rw [minF, List.getElem?_cons_succ, zCL h']
    cases i with
    | zero => rfl
    | succ i => rfl
theorem zAB : ∀ (l : List (Int × Int)), (minB l).length = l.length
  | [] => rfl
  | x :: r => by rw [minB, List.length_cons, zAB r, List.length_cons]
theorem zCQ : ∀ {l : List (Int × Int)} {i : Nat} {x : Int × Int}, l[i]? = some x → (minB l)[i]? = some (x.1, match (minB l)[i + 1]? with
    | none => x.2
    | some y => min x.2 y.2)
  | [], _, _, h => by simp at h
  | x :: r, 0, y, h => by
    simp at h; subst h
    rw [minB, List.getElem?_cons_zero, List.getElem?_cons_succ]
    cases hr : minB r with
    | nil => rfl
    | cons a t => rfl
  | x :: r, i + 1, y, h => by
    have h' : r[i]? = some y := h
    rw [minB, List.getElem?_cons_succ, List.getElem?_cons_succ, zCQ h']
theorem min_one {sales : List Prt} {l : List (Int × Int)} {i : Nat} {s : Prt} (hs : sales[i]? = some s) (h : ∀ j, j < i → l[j]? = (minF sales (-9999))[j]?) (hlo : -9999 ≤ s.minute - s.lhi) (h0 : i = 0) : (minF sales (-9999))[i]? = some (s.minute - s.lhi, s.minute - s.llo) := by
  rw [zCL hs, if_pos h0]; congr 2; omega
theorem min_two {sales : List Prt} {l : List (Int × Int)} {i : Nat} {s : Prt} {r : Int × Int} (hs : sales[i + 1]? = some s) (h : l[i]? = (minF sales (-9999))[i]?) (hr : l[i]? = some r) : (minF sales (-9999))[i + 1]? = some (max (s.minute - s.lhi) r.1, s.minute - s.llo) := by
  rw [zCL hs, if_neg (by omega), Nat.add_sub_cancel, zj (h.symm.trans hr)]
theorem zFZ {l M : List (Int × Int)} {i : Nat} {x : Int × Int} (h : ∀ j, j < i → l[j]? = M[j]?) (hi : i < l.length) (hx : M[i]? = some x) : ∀ j, j < i + 1 → (l.set i x)[j]? = M[j]? := fun j hj => by
  rw [List.getElem?_set]
  by_cases e : i = j
  · subst e; rw [if_pos rfl, if_pos hi, hx]
  · rw [if_neg e]; exact h j (by omega)
theorem all_eq {l M : List (Int × Int)} {i : Nat} (h : ∀ j, j < i → l[j]? = M[j]?) (hl : l.length = i) (hM : M.length = i) : l = M := by
  apply List.ext_getElem?
  intro j
  by_cases hj : j < i
  · exact h j hj
  · rw [List.getElem?_eq_none (by omega), List.getElem?_eq_none (by omega)]
structure Mid (l M B : List (Int × Int)) (z : Int) : Prop where
  len : l.length = M.length
  lo : ∀ j : Nat, (j : Int) ≤ z → l[j]? = M[j]?
  hi : ∀ j : Nat, z < (j : Int) → l[j]? = B[j]?
theorem mid_start {M : List (Int × Int)} : Mid M M (minB M) ((M.length : Int) - 2) := ⟨rfl, fun _ _ => rfl, fun j hj => by
  by_cases h : j < M.length
  · rw [zCQ (List.getElem?_eq_getElem h), List.getElem?_eq_none (l := minB M) (by rw [zAB]; omega), List.getElem?_eq_getElem h]
  · rw [List.getElem?_eq_none (by omega), List.getElem?_eq_none (by rw [zAB]; omega)]⟩
theorem mid_step {l M : List (Int × Int)} {i : Nat} {x y : Int × Int} (h : Mid l M (minB M) (i : Nat)) (hx : l[i]? = some x) (hy : l[i + 1]? = some y) : Mid (l.set i (x.1, min x.2 y.2)) M (minB M) ((i : Nat) - 1) := by
  have hxM := (h.lo i (by omega)).symm.trans hx
  have hyB := (h.hi (i + 1) (by omega)).symm.trans hy
  have hil := (List.getElem?_eq_some_iff.1 hx).1
  refine ⟨by rw [List.length_set]; exact h.len, fun j hj => ?_, fun j hj => ?_⟩
  · rw [List.getElem?_set, if_neg (by omega)]; exact h.lo j (by omega)
  · rw [List.getElem?_set]
    by_cases e : i = j
    · subst e
      rw [if_pos rfl, if_pos hil, zCQ hxM, hyB]
    · rw [if_neg e]; exact h.hi j (by omega)
theorem mid_end {l M : List (Int × Int)} {z : Int} (h : Mid l M (minB M) z) (hz : z < 0) : l = minB M := List.ext_getElem? fun j => h.hi j (by omega)
theorem right1_ok (r : Int × Int) : PureAt Tryz.prog 103 [rngD r] (.bool (decide (r.1 ≤ r.2))) := by
 refine PureAt.of_awp Tryz.func103 rfl (by kernel_rfl) (Nat.le_of_ble_eq_true rfl) fun Γ hn hl => ?_
 refine zC (zB ?_)
 refine stepW (yE 1 rfl rfl rfl (nb hn rfl) rfl rfl) fun b1 => ?_
 refine sq rfl rfl hn rfl (zE rfl rfl) ?_
 refine zF (zA (zC (zB ?_)))
 refine sq rfl rfl hn rfl (zH rfl rfl Tryz.underlying45 rfl sz3) ?_
 refine sq rfl rfl hn rfl (zO rfl rfl (id := 1) rfl Tryz.underlying3 rfl rfl sees0) ?_
 refine sq rfl rfl hn rfl (zH rfl rfl Tryz.underlying45 rfl sz3) ?_
 refine sq rfl rfl hn rfl (zO rfl rfl (id := 1) rfl Tryz.underlying3 rfl rfl sees0) ?_
 refine sq rfl rfl hn rfl (yd rfl rfl rfl) ?_
 refine sq rfl rfl hn rfl (zE rfl rfl) ?_
 refine zF (zA (zQ ?_))
 exact zu (.inl rfl) hl rfl (.tmp rfl)
theorem zBx (bb : Nat) (b : Brd) (sales : List Prt) (vo : Value) (l : List Int) (hV : VecV vo 1 (intsT l)) (hsl : sales.length ≤ 8) (hpo : ∀ p ∈ sales, PrtOK b p) : EffAt Tryz.prog 69 [.val (.pointer (some ⟨bb, 0, none⟩))] (bookRs bb b sales vo l) (X := Unit) (fun _ => .d (.tup [rngsD (minI sales), .bool (rightB (minI sales))])) (fun _ => bookRs bb b sales vo l) := by
 refine EffAt.of_awp Tryz.func69 rfl (by kernel_rfl) rfl fun Γ hn => ?_
 refine zC (zB ?_)
 refine sq rfl rfl hn rfl (zE rfl rfl) ?_
 refine sq rfl rfl hn rfl (zE rfl rfl) ?_
 refine zF (zA (zC (zB ?_)))
 refine sq rfl rfl hn rfl (zD rfl rfl) ?_
 refine sq rfl rfl hn rfl (zY rfl rfl) ?_
 refine sq rfl rfl hn rfl (zH rfl rfl Tryz.underlying152 rfl sz27) ?_
 refine sq rfl rfl hn rfl (zO rfl rfl (id := 1070) rfl Tryz.underlying27 rfl rfl sees0) ?_
 refine sq rfl rfl hn rfl (yI rfl rfl Tryz.underlying27) ?_
 refine stepW (ki (n := sales.length) 13 rfl rfl rfl (nb hn rfl) Tryz.underlying48 (show _ = some (some (.agg #[(.int .i64 0), (.int .i64 0)]), 2, 16) from by kernel_rfl) rfl rfl rfl (by decide) rfl rfl (by rw [List.length_map]) (by rw [List.length_map]) (by omega) (by omega) (by omega)) fun b13 => ?_
 refine sq rfl rfl hn rfl (zE rfl rfl) ?_
 refine zF (zA (zC (zC (zB ?_))))
 refine sq rfl rfl hn rfl (zD rfl rfl) ?_
 refine sq rfl rfl hn rfl (zY rfl rfl) ?_
 refine sq rfl rfl hn rfl (zH rfl rfl Tryz.underlying152 rfl sz27) ?_
 refine sq rfl rfl hn rfl (zO rfl rfl (id := 1070) rfl Tryz.underlying27 rfl rfl sees0) ?_
 refine sq rfl rfl hn rfl (yI rfl rfl Tryz.underlying27) ?_
 refine sq rfl rfl hn rfl (zD rfl rfl) ?_
 refine zF (zA (zU ?_))
 refine awp_loop_on (ι := {x : Nat × List (Int × Int) // x.1 ≤ sales.length ∧ x.2.length = sales.length ∧ ∀ j, j < x.1 → x.2[j]? = (minF sales (-9999))[j]?}) (fun x => (19, true, .d (.int .i64 (x.1.1 : Nat))) :: anys [20, 21, 22, 23, 6, 5, 24, 25, 26, 27, 28, 29, 30, 31, 32, 33, 34, 35, 36, 37, 38, 39, 40, 41, 42, 43, 44, 45, 46, 47, 48, 49, 50, 51, 52, 53, 54, 55, 56, 57, 58]) (fun x => (13, .box b13 45 (rngT x.1.2)) :: gones [6]) (fun x => sales.length - x.1.1) ⟨(0, List.replicate sales.length (0, 0)), Nat.zero_le _, by simp, fun j hj => by omega⟩ ⟨.inl rfl, zK _⟩ ⟨.inl (congrArg (fun z => some (Res.box b13 45 z)) (rng_zero _)), zi _⟩ ?_
 rintro ⟨⟨i, l1⟩, hi, hl1, hpre⟩
 dsimp only
 dsimp only at hi hl1 hpre
 refine zC (zB ?_)
 refine sq rfl rfl hn rfl (yF rfl rfl rfl) ?_
 refine zF (zA (zC ?_))
 refine zN rfl (fun hb0 => ?_) (fun hb0 => ?_)
 ·
  have hil : i < sales.length := by simp at hb0; omega
  obtain ⟨s, hs⟩ := zn hil
  have hp := hpo s (List.mem_of_getElem? hs)
  have hpm := hp.mi
  have hpl := hp.la
  refine zP (zA (zC (zU (zC (zB ?_)))))
  refine sq rfl rfl hn rfl (zD rfl rfl) ?_
  refine sq rfl rfl hn rfl (q_index (i := i) rfl rfl rfl Tryz.underlying27 sz47 rfl (mget hs)) ?_
  refine sq rfl rfl hn rfl (yM rfl rfl Tryz.underlying47 rfl sz47 rfl rfl seesF0) ?_
  refine stepW (yA 6 rfl rfl rfl (nb hn rfl) zr47 rfl rfl) fun b6 => ?_
  refine sq rfl rfl hn rfl (zE rfl rfl) ?_
  refine stepW (zo rfl rfl rfl rfl rfl rfl (id := 6) rfl sz47 rfl (Nat.le_of_ble_eq_true rfl) rfl trivial) fun _ => ?_
  refine zF (zA (zC (zB ?_)))
  refine sq rfl rfl hn rfl (zD rfl rfl) ?_
  refine sq rfl rfl hn rfl (zD rfl rfl) ?_
  refine sq rfl rfl hn rfl (zH rfl rfl Tryz.underlying47 rfl sz3) ?_
  refine sq rfl rfl hn rfl (zO rfl rfl (id := 6) rfl Tryz.underlying3 rfl rfl sees0) ?_
  refine sq rfl rfl hn rfl (zH rfl rfl Tryz.underlying47 rfl sz45) ?_
  refine sq rfl rfl hn rfl (zH rfl rfl Tryz.underlying45 rfl sz3) ?_
  refine sq rfl rfl hn rfl (zO rfl rfl (id := 6) rfl Tryz.underlying3 rfl rfl sees0) ?_
  refine sq rfl rfl hn rfl (yP rfl rfl rfl (r := s.minute - s.lhi) (i64w (by omega) rfl)) ?_
  refine sq rfl rfl hn rfl (zH rfl rfl Tryz.underlying47 rfl sz3) ?_
  refine sq rfl rfl hn rfl (zO rfl rfl (id := 6) rfl Tryz.underlying3 rfl rfl sees0) ?_
  refine sq rfl rfl hn rfl (zH rfl rfl Tryz.underlying47 rfl sz45) ?_
  refine sq rfl rfl hn rfl (zH rfl rfl Tryz.underlying45 rfl sz3) ?_
  refine sq rfl rfl hn rfl (zO rfl rfl (id := 6) rfl Tryz.underlying3 rfl rfl sees0) ?_
  refine sq rfl rfl hn rfl (yP rfl rfl rfl (r := s.minute - s.llo) (i64w (by omega) rfl)) ?_
  refine sq rfl rfl hn rfl (ze rfl bt45 rfl rfl rfl rfl rfl) ?_
  refine sq rfl rfl hn rfl (q_indexV (i := i) rfl rfl rfl Tryz.underlying48 sz45 rfl (by omega)) ?_
  refine stepW (zo rfl rfl rfl rfl rfl rfl (id := 13) rfl sz45 rfl (rng_le (l := l1) (i := i) (by omega)) (rng_put (l := l1) (i := i) (by omega)) trivial) fun _ => ?_
  refine zF (zA (zC (zB ?_)))
  refine sq rfl rfl hn rfl (zD rfl rfl) ?_
  refine sq rfl rfl hn rfl (yh rfl rfl rfl) ?_
  refine zF (zA ?_)
  refine zN rfl (fun hb1 => ?_) (fun hb1 => ?_)
  ·
   obtain ⟨i, rfl⟩ : ∃ k, i = k + 1 := ⟨i - 1, by simp at hb1; omega⟩
   obtain ⟨y, hy⟩ := zn (show i < l1.length by omega)
   have hy1 : (l1.set (i + 1) (s.minute - s.lhi, s.minute - s.llo))[i]? = some y := by rw [List.getElem?_set, if_neg (by omega)]; exact hy
   have hx1 : (l1.set (i + 1) (s.minute - s.lhi, s.minute - s.llo))[i + 1]? = some (s.minute - s.lhi, s.minute - s.llo) := by rw [List.getElem?_set, if_pos rfl, if_pos (by omega)]
   refine z7 (e := .normal) (ι := Unit) (fun u0 => anys [42, 43, 44, 45, 46, 47, 48, 49, 50, 51, 52, 53, 54, 55, 56, 57]) (fun u0 => [(13, .box b13 45 (rngT (l1.set (i + 1) (max (s.minute - s.lhi) y.1, s.minute - s.llo))))]) (fun hJ2 => ?_) ?_
   ·
    refine yK (W := fun b => True) fmo ?_
    refine d1q (i := 0) rfl (by kernel_rfl) (fun _ _ _ _ h => h) rfl rfl hn rfl (zD rfl rfl) ?_
    refine d1q (i := 1) rfl (by kernel_rfl) (fun _ _ _ _ h => h) rfl rfl hn rfl (zD rfl rfl) ?_
    refine d1q (i := 2) rfl (by kernel_rfl) (fun _ _ _ _ h => h) rfl rfl hn rfl (zD rfl rfl) ?_
    refine d1q (i := 3) rfl (by kernel_rfl) (fun _ _ _ _ h => h) rfl rfl hn rfl (zD rfl rfl) ?_
    refine d1q (i := 4) rfl (by kernel_rfl) (fun _ _ _ _ h => h) rfl rfl hn rfl (q_indexV (i := i + 1) rfl rfl rfl Tryz.underlying48 sz45 rfl (by omega)) ?_
    refine d1q (i := 5) rfl (by kernel_rfl) (fun _ _ _ _ h => h) rfl rfl hn rfl (zH rfl rfl Tryz.underlying45 rfl sz3) ?_
    refine d1q (i := 7) rfl (by kernel_rfl) (fun _ _ _ _ h => h) rfl rfl hn rfl (zD rfl rfl) ?_
    refine d1q (i := 8) rfl (by kernel_rfl) (fun _ _ _ _ h => h) rfl rfl hn rfl (zD rfl rfl) ?_
    refine d1q (i := 9) rfl (by kernel_rfl) (fun _ _ _ _ h => h) rfl rfl hn rfl (yP rfl rfl rfl (r := ((i : Nat) : Int)) (by rw [show ((i + 1 : Nat) : Int) - 1 = (i : Nat) by omega]; exact i64w (by omega) rfl)) ?_
    refine d1q (i := 10) rfl (by kernel_rfl) (fun _ _ _ _ h => h) rfl rfl hn rfl (q_indexV (i := i) rfl rfl rfl Tryz.underlying48 sz45 rfl (by omega)) ?_
    refine d1q (i := 11) rfl (by kernel_rfl) (fun _ _ _ _ h => h) rfl rfl hn rfl (zH rfl rfl Tryz.underlying45 rfl sz3) ?_
    refine zJ ?_
    refine yJ 6 [12] (by kernel_rfl) ⟨?_, ?_, trivial⟩
    ·
     refine br rfl (zZ _ [] (zI rfl) rfl (nb hn rfl) (fun _ => trivial) (fun _ => zO rfl rfl (id := 13) rfl Tryz.underlying3 rfl (zDP hx1) sees0)) fun _ => ?_
     refine d2_of_d1 (zJ ?_)
     refine zT (i := 12) (by kernel_rfl) rfl (zZ _ [] (zI rfl) rfl (nb hn rfl) (fun _ => trivial) (fun _ => zO rfl rfl (id := 13) rfl Tryz.underlying3 rfl (zDP hy1) sees0)) fun _ => ?_
     refine d2_of_d1 ?_
     refine d1q (i := 13) rfl (by kernel_rfl) (fun _ _ _ _ h => h) rfl rfl hn rfl (zBA rfl rfl rfl) ?_
     refine d1q (i := 14) rfl (by kernel_rfl) (fun _ _ _ _ h => h) rfl rfl hn rfl (q_indexV (i := i + 1) rfl rfl rfl Tryz.underlying48 sz45 rfl (by omega)) ?_
     refine d1q (i := 15) rfl (by kernel_rfl) (fun _ _ _ _ h => h) rfl rfl hn rfl (zH rfl rfl Tryz.underlying45 rfl sz3) ?_
     refine zJ ?_
     refine zT (i := 16) (by kernel_rfl) rfl (s_store1 rfl rfl rfl rfl rfl rfl (id := 13) rfl sz3 (by show 0 + (i + 1) * 2 + 0 < _; rw [zAX, List.length_set]; omega) ((zDD hx1).trans (by rw [List.set_set])) trivial) fun _ => ?_
     refine d2_of_d1 (zJ ?_)
     refine zh (by kernel_rfl) ?_
     exact aend_join_on hJ2 () (zK _) ⟨.inl rfl, trivial⟩ (by repeat (first | exact kr _ | refine kc rfl ?_)) (by repeat (first | exact kr _ | refine kc rfl ?_))
    ·
     refine br rfl (zZ _ [] (zI rfl) rfl (nb hn rfl) (fun _ => trivial) (fun _ => zO rfl rfl (id := 13) rfl Tryz.underlying3 rfl (zDP hy1) sees0)) fun _ => ?_
     refine d2_of_d1 (zJ ?_)
     refine zT (i := 6) (by kernel_rfl) rfl (zZ _ [] (zI rfl) rfl (nb hn rfl) (fun _ => trivial) (fun _ => zO rfl rfl (id := 13) rfl Tryz.underlying3 rfl (zDP hx1) sees0)) fun _ => ?_
     refine d2_of_d1 ?_
     refine d1q (i := 13) rfl (by kernel_rfl) (fun _ _ _ _ h => h) rfl rfl hn rfl (zBA rfl rfl rfl) ?_
     refine d1q (i := 14) rfl (by kernel_rfl) (fun _ _ _ _ h => h) rfl rfl hn rfl (q_indexV (i := i + 1) rfl rfl rfl Tryz.underlying48 sz45 rfl (by omega)) ?_
     refine d1q (i := 15) rfl (by kernel_rfl) (fun _ _ _ _ h => h) rfl rfl hn rfl (zH rfl rfl Tryz.underlying45 rfl sz3) ?_
     refine zJ ?_
     refine zT (i := 16) (by kernel_rfl) rfl (s_store1 rfl rfl rfl rfl rfl rfl (id := 13) rfl sz3 (by show 0 + (i + 1) * 2 + 0 < _; rw [zAX, List.length_set]; omega) ((zDD hx1).trans (by rw [List.set_set])) trivial) fun _ => ?_
     refine d2_of_d1 (zJ ?_)
     refine zh (by kernel_rfl) ?_
     exact aend_join_on hJ2 () (zK _) ⟨.inl rfl, trivial⟩ (by repeat (first | exact kr _ | refine kc rfl ?_)) (by repeat (first | exact kr _ | refine kc rfl ?_))
   ·
    rintro _
    refine zS (zA (zB ?_))
    refine sq rfl rfl hn rfl (zp rfl rfl rfl (r := ((i + 1 + 1 : Nat) : Int)) (i64w (by omega) (by omega))) ?_
    refine sq rfl rfl hn rfl (zD rfl rfl) ?_
    refine zF ?_
    exact zR ⟨(i + 1 + 1, l1.set (i + 1) (max (s.minute - s.lhi) y.1, s.minute - s.llo)), by simp only; omega, by simp only; rw [List.length_set]; exact hl1, zFZ hpre (by omega) (min_two hs (hpre i (by omega)) hy)⟩ ⟨.inl rfl, zK _⟩ ⟨.inl rfl, zi _⟩ (by simp only; omega) (by repeat (first | exact kr _ | refine kc rfl ?_)) (by repeat (first | exact kr _ | refine kc rfl ?_))
  ·
   have hi0 : i = 0 := by simp at hb1; omega
   refine zP (zS (zA (zB ?_)))
   refine sq rfl rfl hn rfl (zp rfl rfl rfl (r := ((i + 1 : Nat) : Int)) (i64w (by omega) (by omega))) ?_
   refine sq rfl rfl hn rfl (zD rfl rfl) ?_
   refine zF ?_
   exact zR ⟨(i + 1, l1.set i (s.minute - s.lhi, s.minute - s.llo)), by simp only; omega, by simp only; rw [List.length_set]; exact hl1, zFZ hpre (by omega) (min_one hs hpre (by omega) hi0)⟩ ⟨.inl rfl, zK _⟩ ⟨.inl rfl, zi _⟩ (by simp only; omega) (by repeat (first | exact kr _ | refine kc rfl ?_)) (by repeat (first | exact kr _ | refine kc rfl ?_))
 ·
  have hie : i = sales.length := by simp at hb0; omega
  obtain rfl := all_eq hpre (hl1.trans hie.symm) ((ke _ _).trans hie.symm)
  refine zk (zM (zM (zV (zA (zC (zC (zB ?_)))))))
  refine sq rfl rfl hn rfl (zD rfl rfl) ?_
  refine sq rfl rfl hn rfl (zBk rfl rfl Tryz.underlying48) ?_
  refine sq rfl rfl hn rfl (yP rfl rfl rfl (r := (sales.length : Int) - 2) (i64w (by omega) rfl)) ?_
  refine sq rfl rfl hn rfl (zE rfl rfl) ?_
  refine zF (zA (zU ?_))
  refine awp_loop_on (ι := {x : Int × List (Int × Int) // -2 ≤ x.1 ∧ x.1 ≤ (sales.length : Int) - 2 ∧ Mid x.2 (minF sales (-9999)) (minB (minF sales (-9999))) x.1}) (fun x => (7, true, .d (.int .i64 x.1.1)) :: anys [62, 63, 66, 67, 68, 69, 70, 71, 72, 73, 74, 75, 76, 77, 78, 79, 80, 81, 82, 64, 65]) (fun x => [(13, .box b13 45 (rngT x.1.2))]) (fun x => (x.1.1 + 2).toNat) ⟨((sales.length : Int) - 2, minF sales (-9999)), by simp only; omega, by simp only; omega, by have := mid_start (M := minF sales (-9999)); rw [ke] at this; exact this⟩ ⟨.inl rfl, zK _⟩ ⟨.inl rfl, trivial⟩ ?_
  rintro ⟨⟨z, l2⟩, hz2, hzn, hmid⟩
  dsimp only
  dsimp only at hz2 hzn hmid
  have hl2 := hmid.len
  rw [ke] at hl2
  refine zC (zC (zB ?_))
  refine sq rfl rfl hn rfl (zD rfl rfl) ?_
  refine sq rfl rfl hn rfl (kk rfl rfl rfl) ?_
  refine zF (zA ?_)
  refine zN rfl (fun hb3 => ?_) (fun hb3 => ?_)
  ·
   obtain ⟨i, rfl⟩ : ∃ i : Nat, z = i := ⟨z.toNat, by simp at hb3; omega⟩
   obtain ⟨x, hx⟩ := zn (show i < l2.length by omega)
   obtain ⟨y, hy⟩ := zn (show i + 1 < l2.length by omega)
   refine zP (zA (zC (zU ?_)))
   refine z7 (e := .normal) (ι := Unit) (fun u0 => anys [66, 67, 68, 69, 70, 71, 72, 73, 74, 75, 76, 77, 78, 79, 80, 81, 82]) (fun u0 => [(13, .box b13 45 (rngT (l2.set i (x.1, min x.2 y.2))))]) (fun hJ4 => ?_) ?_
   ·
    refine yK (W := fun b => True) fmo ?_
    refine d1q (i := 0) rfl (by kernel_rfl) (fun _ _ _ _ h => h) rfl rfl hn rfl (zD rfl rfl) ?_
    refine d1q (i := 1) rfl (by kernel_rfl) (fun _ _ _ _ h => h) rfl rfl hn rfl (zD rfl rfl) ?_
    refine d1q (i := 2) rfl (by kernel_rfl) (fun _ _ _ _ h => h) rfl rfl hn rfl (zD rfl rfl) ?_
    refine d1q (i := 3) rfl (by kernel_rfl) (fun _ _ _ _ h => h) rfl rfl hn rfl (zD rfl rfl) ?_
    refine d1q (i := 4) rfl (by kernel_rfl) (fun _ _ _ _ h => h) rfl rfl hn rfl (q_indexV (i := i) rfl rfl rfl Tryz.underlying48 sz45 rfl (by omega)) ?_
    refine d1q (i := 5) rfl (by kernel_rfl) (fun _ _ _ _ h => h) rfl rfl hn rfl (zH rfl rfl Tryz.underlying45 rfl sz3) ?_
    refine d1q (i := 7) rfl (by kernel_rfl) (fun _ _ _ _ h => h) rfl rfl hn rfl (zD rfl rfl) ?_
    refine d1q (i := 8) rfl (by kernel_rfl) (fun _ _ _ _ h => h) rfl rfl hn rfl (zD rfl rfl) ?_
    refine d1q (i := 9) rfl (by kernel_rfl) (fun _ _ _ _ h => h) rfl rfl hn rfl (zp rfl rfl rfl (r := ((i + 1 : Nat) : Int)) (i64w (by omega) (by omega))) ?_
    refine d1q (i := 10) rfl (by kernel_rfl) (fun _ _ _ _ h => h) rfl rfl hn rfl (q_indexV (i := i + 1) rfl rfl rfl Tryz.underlying48 sz45 rfl (by omega)) ?_
    refine d1q (i := 11) rfl (by kernel_rfl) (fun _ _ _ _ h => h) rfl rfl hn rfl (zH rfl rfl Tryz.underlying45 rfl sz3) ?_
    refine zJ ?_
    refine yJ 6 [12] (by kernel_rfl) ⟨?_, ?_, trivial⟩
    ·
     refine br rfl (zZ _ [] (zI rfl) rfl (nb hn rfl) (fun _ => trivial) (fun _ => zO rfl rfl (id := 13) rfl Tryz.underlying3 rfl (zDn hx) sees0)) fun _ => ?_
     refine d2_of_d1 (zJ ?_)
     refine zT (i := 12) (by kernel_rfl) rfl (zZ _ [] (zI rfl) rfl (nb hn rfl) (fun _ => trivial) (fun _ => zO rfl rfl (id := 13) rfl Tryz.underlying3 rfl (zDn hy) sees0)) fun _ => ?_
     refine d2_of_d1 (zJ ?_)
     refine zT (i := 13) (by kernel_rfl) rfl (za rfl rfl rfl (nb hn rfl) Tryz.underlying57 sz3 zr3 rfl rfl rfl (show _ = [.d (.int .i64 0), .d (.int .i64 0)] from by kernel_rfl) (by kernel_rfl) rfl rfl rfl rfl rfl) fun _ => ?_
     refine d2_of_d1 (zJ ?_)
     refine zT (i := 14) (by kernel_rfl) rfl (s_call [] (fun _ => yv _ _) rfl (zI rfl) rfl (nb hn rfl) (fun _ => trivial) rfl rfl (.refl _)) fun _ => ?_
     refine d2_of_d1 ?_
     refine d1q (i := 15) rfl (by kernel_rfl) (fun _ _ _ _ h => h) rfl rfl hn rfl (q_indexV (i := i) rfl rfl rfl Tryz.underlying48 sz45 rfl (by omega)) ?_
     refine d1q (i := 16) rfl (by kernel_rfl) (fun _ _ _ _ h => h) rfl rfl hn rfl (zH rfl rfl Tryz.underlying45 rfl sz3) ?_
     refine zJ ?_
     refine zT (i := 17) (by kernel_rfl) rfl (s_store1 rfl rfl rfl rfl rfl rfl (id := 13) rfl sz3 (by show 0 + i * 2 + 1 < _; rw [zAX]; omega) (zCz hx) trivial) fun _ => ?_
     refine d2_of_d1 (zJ ?_)
     refine zh (by kernel_rfl) ?_
     exact aend_join_on hJ4 () (zK _) ⟨.inl rfl, trivial⟩ (by repeat (first | exact kr _ | refine kc rfl ?_)) (by repeat (first | exact kr _ | refine kc rfl ?_))
    ·
     refine br rfl (zZ _ [] (zI rfl) rfl (nb hn rfl) (fun _ => trivial) (fun _ => zO rfl rfl (id := 13) rfl Tryz.underlying3 rfl (zDn hy) sees0)) fun _ => ?_
     refine d2_of_d1 (zJ ?_)
     refine zT (i := 6) (by kernel_rfl) rfl (zZ _ [] (zI rfl) rfl (nb hn rfl) (fun _ => trivial) (fun _ => zO rfl rfl (id := 13) rfl Tryz.underlying3 rfl (zDn hx) sees0)) fun _ => ?_
     refine d2_of_d1 (zJ ?_)
     refine zT (i := 13) (by kernel_rfl) rfl (za rfl rfl rfl (nb hn rfl) Tryz.underlying57 sz3 zr3 rfl rfl rfl (show _ = [.d (.int .i64 0), .d (.int .i64 0)] from by kernel_rfl) (by kernel_rfl) rfl rfl rfl rfl rfl) fun _ => ?_
     refine d2_of_d1 (zJ ?_)
     refine zT (i := 14) (by kernel_rfl) rfl (s_call [] (fun _ => yv _ _) rfl (zI rfl) rfl (nb hn rfl) (fun _ => trivial) rfl rfl (.refl _)) fun _ => ?_
     refine d2_of_d1 ?_
     refine d1q (i := 15) rfl (by kernel_rfl) (fun _ _ _ _ h => h) rfl rfl hn rfl (q_indexV (i := i) rfl rfl rfl Tryz.underlying48 sz45 rfl (by omega)) ?_
     refine d1q (i := 16) rfl (by kernel_rfl) (fun _ _ _ _ h => h) rfl rfl hn rfl (zH rfl rfl Tryz.underlying45 rfl sz3) ?_
     refine zJ ?_
     refine zT (i := 17) (by kernel_rfl) rfl (s_store1 rfl rfl rfl rfl rfl rfl (id := 13) rfl sz3 (by show 0 + i * 2 + 1 < _; rw [zAX]; omega) (zCz hx) trivial) fun _ => ?_
     refine d2_of_d1 (zJ ?_)
     refine zh (by kernel_rfl) ?_
     exact aend_join_on hJ4 () (zK _) ⟨.inl rfl, trivial⟩ (by repeat (first | exact kr _ | refine kc rfl ?_)) (by repeat (first | exact kr _ | refine kc rfl ?_))
   ·
    rintro _
    refine zS (zA (zB ?_))
    refine sq rfl rfl hn rfl (zD rfl rfl) ?_
    refine sq rfl rfl hn rfl (yP rfl rfl rfl (r := ((i : Nat) : Int) - 1) (i64w (by omega) rfl)) ?_
    refine sq rfl rfl hn rfl (zE rfl rfl) ?_
    refine zF ?_
    exact zR ⟨((i : Nat) - 1, l2.set i (x.1, min x.2 y.2)), by simp only; omega, by simp only; omega, mid_step hmid hx hy⟩ ⟨.inl rfl, zK _⟩ ⟨.inl rfl, trivial⟩ (by simp only; omega) (by repeat (first | exact kr _ | refine kc rfl ?_)) (by repeat (first | exact kr _ | refine kc rfl ?_))
  ·
   have hz : z < 0 := by simp at hb3; omega
   obtain rfl := mid_end hmid hz
   refine zk (zM (zM (zV (zA (zC ?_)))))
   refine y7 (g_freezeV (t := 4) (sz := 2) (n := sales.length) (es := (minB (minF sales (-9999))).map rngE) 13 rfl rfl (yC _) (by rw [kh kE, List.length_map, zAB, ke]) (by rw [show sales.length = ((minB (minF sales (-9999))).map rngE).length by rw [List.length_map, zAB, ke]]; exact zAP kE) (Nat.le_refl _) (by simp only [maxLen]; omega)) ?_
   refine zB ?_
   refine sq rfl rfl hn rfl (zD rfl rfl) ?_
   refine sq rfl rfl hn rfl (zD rfl rfl) ?_
   refine stepW (s_call [] (fun _ => all_rng (minB (minF sales (-9999))) (fun r => decide (r.1 ≤ r.2)) 103 [] [] (fun r _ => right1_ok r)) rfl (zI rfl) rfl (nb hn rfl) (fun _ => trivial) rfl rfl (.refl _)) fun _ => ?_
   refine sq rfl rfl hn rfl (zE rfl rfl) ?_
   refine sq rfl rfl hn rfl (zE rfl rfl) ?_
   refine zF (zA (zQ ?_))
   exact ret_E (.inl rfl) () (zy rfl (.tmp rfl) (.tmp rfl)) ⟨rfl, rfl, trivial⟩
end Go.Proofs.YtplpcamcnppibaaGreatDoor
namespace Go.Proofs.YtplpcamcnppibaaGreatDoor
open Go.RowKit
set_option linter.all false
structure BrdOK (b : Brd) : Prop where
  n1 : 1 ≤ b.stocks.length
  n4 : b.stocks.length ≤ 4
  j0 : 0 ≤ b.jump
  j4 : b.jump ≤ 40
  s1 : 1 ≤ b.small
  s9 : b.small ≤ 9
  al : b.stocks.all (stockB b) = true
theorem y2 {b : Brd} (h : checkT b = 0) : BrdOK b := by
  unfold checkT at h
  cases h1 : limT b <;> rw [h1] at h
  · cases h2 : argT b <;> rw [h2] at h
    · simp only [limT, decide_eq_false_iff_not] at h1
      simp only [argT, Bool.or_eq_false_iff, Bool.not_eq_false', beq_eq_false_iff_ne, withinB, Bool.and_eq_true, decide_eq_true_eq] at h2
      obtain ⟨⟨⟨g1, g2⟩, g3⟩, g4⟩ := h2
      exact ⟨by omega, by omega, g2.1, g2.2, g3.1, g3.2, g4⟩
    · cases h
  · cases h
theorem zAw {b : Brd} (v : BrdOK b) {s : Stk} (h : s ∈ b.stocks) : 1 ≤ s.lo ∧ s.lo ≤ s.hi ∧ s.hi ≤ 799 ∧ namedB s.name = true := by
  have := List.all_eq_true.1 v.al s h
  unfold stockB spansB at this
  simp only [Bool.and_eq_true, decide_eq_true_eq] at this
  exact ⟨this.2.1.1, this.2.1.2, this.2.2, this.1.2⟩
structure TokOK (t : Tok) : Prop where
  num : t.kind = 2 → 1 ≤ t.fst ∧ t.fst ≤ 99
  sho : t.kind = 3 → 0 ≤ t.fst ∧ t.fst ≤ 8000
  lon : t.kind = 4 → 1 ≤ t.fst ∧ t.fst ≤ 799
  min : t.kind = 5 → 0 ≤ t.fst ∧ t.fst ≤ 600
  lat : t.kind = 6 → 0 ≤ t.fst ∧ t.fst ≤ t.snd ∧ t.snd ≤ 60
theorem ko {c : Bool} {x y : Tok} (hx : c = true → TokOK x) (hy : c = false → TokOK y) : TokOK (bif c then x else y) := by
  cases c
  · exact hy rfl
  · exact hx rfl
theorem zCk {c : Bool} {k : Int} {f s : Int} {x : List UInt8} (h : c = true → TokOK ⟨k, f, s, x⟩) : TokOK ⟨bif c then k else 0, f, s, x⟩ := by
  cases c
  · exact ⟨fun h => (by cases h), fun h => (by cases h), fun h => (by cases h), fun h => (by cases h), fun h => (by cases h)⟩
  · exact h rfl
theorem zD3 {k : Int} (h : k < 2 ∨ 6 < k) {f s : Int} {x : List UInt8} : TokOK ⟨k, f, s, x⟩ := ⟨fun h => by simp only at h; omega, fun h => by simp only at h; omega, fun h => by simp only at h; omega, fun h => by simp only at h; omega, fun h => by simp only at h; omega⟩
theorem priced_bd (s : List UInt8) : pricedI s ≤ 8000 := by
  have h1 := zA1 (Lib.cut s [46]).1
  have h2 := zA1 (Lib.cut s [46]).2.1
  unfold pricedI
  cases h : (!(Lib.cut s [46]).2.2 || decide (digI (Lib.cut s [46]).1 < 0) || !(withinB (digI (Lib.cut s [46]).2.1) 0 7))
  · simp only [cond_false]
    simp only [withinB, Bool.or_eq_false_iff, Bool.not_eq_false', Bool.and_eq_true, decide_eq_true_eq] at h
    omega
  · simp only [cond_true]; omega
theorem zt {n a b : Int} : withinB n a b = true ↔ a ≤ n ∧ n ≤ b := by simp [withinB]
theorem readT_ok (s : List UInt8) : TokOK (readT s) := by
  unfold readT
  refine ko (fun _ => zD3 (.inl (by omega))) fun _ => ko (fun _ => zD3 (.inr (by omega))) fun _ => ko (fun _ => zD3 (.inr (by omega))) fun _ => ko (fun _ => zD3 (.inl (by omega))) fun _ =>
    ko (fun _ => zCk fun h => ?_) fun _ => ko (fun _ => zCk fun h => ?_) fun _ => ko (fun _ => zCk fun h => ?_) fun _ => ko (fun _ => zCk fun h => ?_) fun _ => zCk fun h => ?_
  · exact ⟨fun e => by simp at e, fun e => by simp at e, fun _ => zt.1 h, fun e => by simp at e, fun e => by simp at e⟩
  · exact ⟨fun e => by simp at e, fun e => by simp at e, fun e => by simp at e, fun _ => zt.1 h, fun e => by simp at e⟩
  · simp only [spansB, Bool.and_eq_true, decide_eq_true_eq] at h
    exact ⟨fun e => by simp at e, fun e => by simp at e, fun e => by simp at e, fun e => by simp at e, fun _ => ⟨h.2.1.1, h.2.1.2, h.2.2⟩⟩
  · exact ⟨fun _ => zt.1 h, fun e => by simp at e, fun e => by simp at e, fun e => by simp at e, fun e => by simp at e⟩
  · simp only [Bool.and_eq_true, decide_eq_true_eq] at h
    exact ⟨fun e => by simp at e, fun _ => ⟨h.2, priced_bd s⟩, fun e => by simp at e, fun e => by simp at e, fun e => by simp at e⟩
theorem zEh : ∀ (n : Nat) (s : List UInt8), ∀ t ∈ toksN n s, TokOK t ∧ KindOK t
  | 0, _, _, h => by cases h
  | n + 1, s, t, h => by
    unfold toksN at h
    cases hs : s == [] <;> rw [hs] at h
    · simp only [cond_false] at h
      rcases List.mem_cons.1 h with rfl | h
      · exact ⟨readT_ok _, zAG _⟩
      · cases hc : ((Lib.cut s [32]).2.2 && ((Lib.cut s [32]).2.1 == [])) <;> rw [hc] at h
        · exact zEh n _ t h
        · simp only [cond_true, List.mem_singleton] at h
          subst h; exact ⟨zD3 (.inl (by omega)), 0, rfl, by omega⟩
    · cases h
structure WrkOK (b : Brd) (w : Wrk) : Prop where
  st : -1 ≤ w.stock ∧ w.stock < b.stocks.length
  nm : 0 ≤ w.number ∧ w.number ≤ 99
  mi : 0 ≤ w.minute ∧ w.minute ≤ 600
  la : 0 ≤ w.llo ∧ w.llo ≤ w.lhi ∧ w.lhi ≤ 60
  out : ∀ p ∈ w.out, PrtOK b p
  len : w.out.length ≤ 8
theorem idx_bd {α : Type} {p : α → Bool} {l : List α} : -1 ≤ idxOf p l ∧ idxOf p l < l.length := by
  unfold idxOf
  split
  · rename_i i h
    rw [List.findIdx?_eq_some_iff_getElem] at h
    obtain ⟨h, _⟩ := h
    omega
  · omega
theorem wrk0_ok {b : Brd} (v : BrdOK b) : WrkOK b wrk0 := ⟨by have := v.n1; simp only [wrk0]; omega, by simp only [wrk0]; omega, by simp only [wrk0]; omega, by simp only [wrk0]; omega, fun _ h => (by cases h), by decide⟩
theorem actW_ok {b : Brd} (v : BrdOK b) {w : Wrk} {t : Tok} (h : WrkOK b w) (ht : TokOK t) (hk : KindOK t) (he : (actE b w t != 0) = false) : WrkOK b (actW b w t) := by
  obtain ⟨k, hk1, hk8⟩ := hk
  have sale : (t.kind = 3 ∨ t.kind = 4) → actE b w t = saleE w → WrkOK b (saleW w b t) := fun hkk e => by
    rw [e] at he
    unfold saleW
    unfold saleE at he
    cases h1 : decide (w.stock < 0) <;> rw [h1] at he
    · cases h2 : ((w.out.length : Int) == 8) <;> rw [h2] at he
      · simp only [cond_false]
        have h1' := of_decide_eq_false h1
        have h2' : w.out.length ≠ 8 := fun e => by rw [e] at h2; cases h2
        have hs1 := v.s1
        have hs9 := v.s9
        have hst := h.st
        have hnm := h.nm
        have hln := h.len
        refine ⟨h.st, ⟨by simp, by simp⟩, h.mi, h.la, fun p hp => ?_, by simp; omega⟩
        rcases List.mem_append.1 hp with hp | hp
        · exact h.out p hp
        · simp only [List.mem_singleton] at hp
          subst hp
          refine ⟨⟨by simp only [saleP]; omega, by simp only [saleP]; omega⟩, ?_, ?_, h.mi, h.la⟩
          · simp only [saleP, saleN]
            cases h3 : decide (0 < w.number)
            · cases w.rush <;> simp <;> omega
            · have := of_decide_eq_true h3; simp; omega
          · simp only [saleP]
            rcases hkk with h4 | h4
            · exact ht.sho h4
            · have := ht.lon h4; omega
      · cases he
    · cases he
  have hcast : t.kind.toNat = k := by rw [hk1]; rfl
  unfold actW
  rw [hcast]
  match k, hk8 with
  | 0, _ => exact h
  | 1, _ =>
    show WrkOK b (namedW w b t)
    unfold namedW
    have := idx_bd (p := fun s : Stk => s.name == t.text) (l := b.stocks)
    cases hn : decide (nameI b t < 0)
    · exact ⟨this, h.nm, h.mi, h.la, h.out, h.len⟩
    · exact h
  | 2, _ =>
    have := ht.num (by rw [hk1]; rfl)
    exact ⟨h.st, ⟨by simp only [numW]; omega, this.2⟩, h.mi, h.la, h.out, h.len⟩
  | 3, _ => exact sale (.inl (by rw [hk1]; rfl)) (by unfold actE; rw [hcast]; rfl)
  | 4, _ => exact sale (.inr (by rw [hk1]; rfl)) (by unfold actE; rw [hcast]; rfl)
  | 5, _ => exact ⟨h.st, h.nm, ht.min (by rw [hk1]; rfl), h.la, h.out, h.len⟩
  | 6, _ => exact ⟨h.st, h.nm, h.mi, ht.lat (by rw [hk1]; rfl), h.out, h.len⟩
  | 7, _ => exact ⟨h.st, h.nm, h.mi, h.la, h.out, h.len⟩
  | 8, _ => exact ⟨h.st, h.nm, h.mi, h.la, h.out, h.len⟩
theorem zF4 {b : Brd} (v : BrdOK b) : ∀ {l : List Tok} {w : Wrk}, (∀ t ∈ l, TokOK t ∧ KindOK t) → WrkOK b w → WrkOK b (actsGo b l w).2
  | [], _, _, h => h
  | t :: l, w, ht, h => by
    unfold actsGo
    cases he : (actE b w t != 0)
    · exact zF4 v (fun x hx => ht x (List.mem_cons_of_mem _ hx)) (actW_ok v h (ht t List.mem_cons_self).1 (ht t List.mem_cons_self).2 he)
    · exact h
theorem y4 {b : Brd} {s : List UInt8} : (∀ p ∈ (readI b s).1, PrtOK b p) ∧ (readI b s).1.length ≤ 8 := by
  have no : ∀ e : Int, (∀ p ∈ (([], e) : List Prt × Int).1, PrtOK b p) ∧ (([], e) : List Prt × Int).1.length ≤ 8 := fun e => ⟨fun _ h => (by cases h), by simp⟩
  unfold readI
  cases hc : (checkT b != 0)
  · have v : BrdOK b := y2 (by simpa using hc)
    have h := zF4 v (fun t ht => zEh _ _ t ht) (wrk0_ok v) (l := toksOf s)
    simp only [cond_false]
    cases decide (160 < (s.length : Int))
    · cases ((actsGo b (toksOf s) wrk0).1 != 0)
      · cases decide (0 < (actsGo b (toksOf s) wrk0).2.number)
        · exact ⟨h.out, h.len⟩
        · exact no _
      · exact no _
    · exact no _
  · exact no _
theorem kT {b : Brd} {s : List UInt8} (h : (readI b s).2 = 0) : BrdOK b := by
  unfold readI at h
  cases hc : (checkT b != 0) <;> rw [hc] at h
  · exact y2 (by simpa using hc)
  · exact y2 h
end Go.Proofs.YtplpcamcnppibaaGreatDoor
namespace Go.Proofs.YtplpcamcnppibaaGreatDoor
open Go.RowKit
set_option maxRecDepth 20000
set_option linter.all false
theorem zD0 (m : Nat) : (lvE m).take 800 = lvE m := List.take_of_length_le (by rw [yU]; omega)
theorem gh_gone {Γ : Cx} {σ : St} (id : Nat) : Ghost Γ σ (σ.rput id .gone) := fun a w F hs => ⟨F, hs.rput (i := id) (r := .gone) trivial fun _ h => h.elim, fun _ _ h => h⟩
theorem zDT (b : Brd) (s : List UInt8) (hN : NamesOK b) (h5 : s.length ≤ 4294967000) : PureAt Tryz.prog 18 [brdD b, strD s] (.tup [prtsD (readI b s).1, .int .i64 (readI b s).2]) := PureAt.of_eff (ds := [brdD b, strD s]) (Read_eff b s hN h5)
def levelsI (b : Brd) (sales : List Prt) (l : List Int) : Option (List Nat) := levelsN b sales l b.jump.toNat
theorem zCm (bb : Nat) (b : Brd) (sales : List Prt) (vo : Value) (l : List Int) (hV : VecV vo 1 (intsT l)) (v : BrdOK b) (hsl : sales.length ≤ 8) :
    EffAt Tryz.prog 71 [.val (.pointer (some ⟨bb, 0, none⟩))] (bookRs bb b sales vo l) (X := Unit) (fun _ => .d (.tup [lvsD (levelsI b sales l), .bool (levelsI b sales l).isSome])) (fun _ => bookRs bb b sales vo l) :=
  levels_eff bb b sales vo l hV b.jump.toNat (by have := v.j0; omega) (by have := v.j4; omega) hsl (by have := v.n4; omega)
def minutesI (b : Brd) (s : List UInt8) : List (Int × Int) × Int := bif (readI b s).2 != 0 then ([], (readI b s).2) else bif rightB (minI (readI b s).1) then (minI (readI b s).1, 0) else ([], 11)
def pricesI (b : Brd) (s : List UInt8) : List (Int × Int) × Int := bif (readI b s).2 != 0 then ([], (readI b s).2) else match levelsI b (readI b s).1 [] with
  | none => ([], 11)
  | some ms => (ms.map bndN, 0)
theorem addR {l : List Nat} {i m : Nat} (h : l[i]? = some m) : ((l.take i).map bndN).map rngE ++ [rngE (bndN m)] = ((l.take (i + 1)).map bndN).map rngE := by rw [List.take_add_one, h]; simp
theorem zDN {sales : List Prt} {l : List Int} {J : Nat} : ∀ {st : List Stk} {k : Nat} {o ms : List Nat}, lvlGo sales l J k st o = some ms → ms.length = o.length
  | [], k, o, ms, h => by cases h; rfl
  | s :: r, k, o, ms, h => by
    unfold lvlGo at h
    cases hc : ((fwdGo l J k 0 sales (startN s) o).1 == 0) <;> rw [hc] at h
    · have h1 := zDN h
      have f : ∀ (sl : List Prt) (i now : Nat) (o : List Nat), (fwdGo l J k i sl now o).2.length = o.length := fun sl => by
        induction sl with
        | nil => intro i now o; rfl
        | cons x sl ih =>
          intro i now o
          unfold fwdGo
          cases x.stock == (k : Int) <;> simp [ih]
      have g : ∀ (i now : Nat) (o : List Nat), (bwdGo sales J k i now o).length = o.length := fun i => by
        induction i with
        | zero => intro now o; rfl
        | succ i ih =>
          intro now o
          unfold bwdGo
          cases (sales.getD i ⟨-1, 0, 0, 0, false, 0, 0, 0⟩).stock == (k : Int) <;> simp [ih]
      rw [h1, g, f]
    · cases h
theorem zCK {b : Brd} {sales : List Prt} {l : List Int} {ms : List Nat} (h : levelsI b sales l = some ms) : ms.length = sales.length := by
  rw [zDN h, List.length_replicate]
theorem zr152 : (Tryz.prog.info? 152).map (·.zero) = some (some (.agg #[(.slice none 0 0), (.int .i64 0), (.int .i64 0), (.slice none 0 0), (.slice none 0 0)])) := by kernel_rfl
theorem bt152 : BT Tryz.prog 152 (.agg #[(.slice none 0 0), (.int .i64 0), (.int .i64 0), (.slice none 0 0), (.slice none 0 0)]) (fun i => ([(0, 3), (3, 1), (4, 1)] : List (Nat × Nat))[i]?) := yQ Tryz.underlying152 zr152 (by kernel_rfl)
theorem elt48 : ElT Tryz.prog 48 45 2 16 := zAy Tryz.underlying48 (z := (.agg #[(.int .i64 0), (.int .i64 0)])) (by kernel_rfl) rfl (by decide)
theorem zA2 (b : Brd) (s : List UInt8) (hN : NamesOK b) (h5 : s.length ≤ 4294967000) (h0 : (readI b s).2 = 0) : EffAt Tryz.prog 68 [.d (brdD b), .d (strD s)] [] (X := Nat) (fun bb => .tup [.val (.pointer (some ⟨bb, 0, none⟩)), .d (.int .i64 0)]) (fun bb => bookRs bb b (readI b s).1 (.slice none 0 0) []) := by
 refine EffAt.of_awp Tryz.func68 rfl (by kernel_rfl) rfl fun Γ hn => ?_
 refine zC (zB ?_)
 refine stepW (yE 2 rfl rfl rfl (nb hn rfl) rfl rfl) fun b2 => ?_
 refine sq rfl rfl hn rfl (zE rfl rfl) ?_
 refine sq rfl rfl hn rfl (zE rfl rfl) ?_
 refine zF (zA (zC (zB ?_)))
 refine sq rfl rfl hn rfl (zf rfl rfl (id := 2) rfl Tryz.underlying33 rfl sz33 rfl rfl sees0) ?_
 refine sq rfl rfl hn rfl (zD rfl rfl) ?_
 refine stepW (s_call [] (fun _ => zDT b s hN h5) rfl (zI rfl) rfl (nb hn rfl) (fun _ => trivial) rfl rfl (.refl _)) fun _ => ?_
 refine sq rfl rfl hn rfl (zD rfl rfl) ?_
 refine sq rfl rfl hn rfl (zb rfl rfl rfl) ?_
 refine sq rfl rfl hn rfl (zb rfl rfl rfl) ?_
 refine sq rfl rfl hn rfl (zE rfl rfl) ?_
 refine sq rfl rfl hn rfl (zE rfl rfl) ?_
 refine zF (zA (zC (zC (zB ?_))))
 refine sq rfl rfl hn rfl (zD rfl rfl) ?_
 refine sq rfl rfl hn rfl (yb rfl rfl rfl) ?_
 refine zF (zA ?_)
 refine zN rfl (fun hb0 => ?_) (fun hb0 => ?_)
 ·
  rw [h0] at hb0; exact absurd hb0 (by decide)
 ·
  refine zP (zA (zC (zB ?_)))
  refine sq rfl rfl hn rfl (zf rfl rfl (id := 2) rfl Tryz.underlying33 rfl sz33 rfl rfl sees0) ?_
  refine sq rfl rfl hn rfl (zD rfl rfl) ?_
  refine sq rfl rfl hn rfl (ze rfl bt152 rfl rfl rfl rfl rfl) ?_
  refine stepW (yE 1070 rfl rfl rfl (nb hn rfl) rfl rfl) fun b20 => ?_
  refine sq rfl rfl hn rfl (zE rfl rfl) ?_
  refine sq rfl rfl hn rfl (zE rfl rfl) ?_
  refine zF (zA (zQ ?_))
  refine kM (gh_nilcell (id := 1070) (k := 4) 1079 3 1 rfl rfl) ?_
  refine kM (gh_gone 1072) ?_
  exact ret_E (.inl rfl) b20 (hands_2 rfl (.tmp rfl) (.tmp rfl)) ⟨rfl, rfl, trivial⟩
theorem zBC (b : Brd) (s : List UInt8) (hN : NamesOK b) (h5 : s.length ≤ 4294967000) (h0 : (readI b s).2 ≠ 0) : EffAt Tryz.prog 68 [.d (brdD b), .d (strD s)] [] (X := Unit) (fun _ => .d (.tup [.nilp, .int .i64 (readI b s).2])) (fun _ => []) := by
 refine EffAt.of_awp Tryz.func68 rfl (by kernel_rfl) rfl fun Γ hn => ?_
 refine zC (zB ?_)
 refine stepW (yE 2 rfl rfl rfl (nb hn rfl) rfl rfl) fun b2 => ?_
 refine sq rfl rfl hn rfl (zE rfl rfl) ?_
 refine sq rfl rfl hn rfl (zE rfl rfl) ?_
 refine zF (zA (zC (zB ?_)))
 refine sq rfl rfl hn rfl (zf rfl rfl (id := 2) rfl Tryz.underlying33 rfl sz33 rfl rfl sees0) ?_
 refine sq rfl rfl hn rfl (zD rfl rfl) ?_
 refine stepW (s_call [] (fun _ => zDT b s hN h5) rfl (zI rfl) rfl (nb hn rfl) (fun _ => trivial) rfl rfl (.refl _)) fun _ => ?_
 refine sq rfl rfl hn rfl (zD rfl rfl) ?_
 refine sq rfl rfl hn rfl (zb rfl rfl rfl) ?_
 refine sq rfl rfl hn rfl (zb rfl rfl rfl) ?_
 refine sq rfl rfl hn rfl (zE rfl rfl) ?_
 refine sq rfl rfl hn rfl (zE rfl rfl) ?_
 refine zF (zA (zC (zC (zB ?_))))
 refine sq rfl rfl hn rfl (zD rfl rfl) ?_
 refine sq rfl rfl hn rfl (yb rfl rfl rfl) ?_
 refine zF (zA ?_)
 refine zN rfl (fun hb0 => ?_) (fun hb0 => ?_)
 ·
  refine zC (zB ?_)
  refine sq rfl rfl hn rfl (zD rfl rfl) ?_
  refine sq rfl rfl hn rfl (zE rfl rfl) ?_
  refine sq rfl rfl hn rfl (zE rfl rfl) ?_
  refine zF (zA (zQ (zL ?_)))
  exact ret_E (.inl rfl) () (zy rfl (.tmp rfl) (.tmp rfl)) trivial
 ·
  exact absurd hb0 (by simp [h0])
theorem Minutes_no (b : Brd) (s : List UInt8) (hN : NamesOK b) (h5 : s.length ≤ 4294967000) (h0 : (readI b s).2 ≠ 0) : EffAt Tryz.prog 24 [.d (brdD b), .d (strD s)] [] (X := Unit) (fun _ => .d (.tup [rngsD [], .int .i64 (readI b s).2])) (fun _ => []) := by
 refine EffAt.of_awp Tryz.func24 rfl (by kernel_rfl) rfl fun Γ hn => ?_
 refine zC (zB ?_)
 refine stepW (yE 2 rfl rfl rfl (nb hn rfl) rfl rfl) fun b2 => ?_
 refine sq rfl rfl hn rfl (zE rfl rfl) ?_
 refine sq rfl rfl hn rfl (zE rfl rfl) ?_
 refine zF (zA (zC (zB ?_)))
 refine sq rfl rfl hn rfl (zf rfl rfl (id := 2) rfl Tryz.underlying33 rfl sz33 rfl rfl sees0) ?_
 refine sq rfl rfl hn rfl (zD rfl rfl) ?_
 refine stepW (s_callE (zBC b s hN h5 h0) rfl rfl rfl (nb hn rfl) (.d rfl) rfl (.refl _) trivial (fun _ => rfl) (fun _ _ => trivial)) fun _ => ?_
 refine sq rfl rfl hn rfl (zD rfl rfl) ?_
 refine sq rfl rfl hn rfl (zb rfl rfl rfl) ?_
 refine sq rfl rfl hn rfl (zb rfl rfl rfl) ?_
 refine sq rfl rfl hn rfl (zE rfl rfl) ?_
 refine sq rfl rfl hn rfl (zE rfl rfl) ?_
 refine zF (zA (zC (zC (zB ?_))))
 refine sq rfl rfl hn rfl (zD rfl rfl) ?_
 refine sq rfl rfl hn rfl (yb rfl rfl rfl) ?_
 refine zF (zA ?_)
 refine zN rfl (fun hb0 => ?_) (fun hb0 => ?_)
 ·
  refine zC (zB ?_)
  refine sq rfl rfl hn rfl (zD rfl rfl) ?_
  refine sq rfl rfl hn rfl (zE rfl rfl) ?_
  refine sq rfl rfl hn rfl (zE rfl rfl) ?_
  refine zF (zA (zQ (zL ?_)))
  exact ret_E (.inl rfl) () ((zy rfl (.tmp rfl) (.tmp rfl)).le (.tup (.cons (.nil 2) (.refl _)))) trivial
 ·
  exact absurd hb0 (by simp [h0])
theorem Minutes_ok1 (b : Brd) (s : List UInt8) (hN : NamesOK b) (h5 : s.length ≤ 4294967000) (h0 : (readI b s).2 = 0) : EffAt Tryz.prog 24 [.d (brdD b), .d (strD s)] [] (X := Unit) (fun _ => .d (.tup [rngsD (minutesI b s).1, .int .i64 (minutesI b s).2])) (fun _ => []) := by
 have v := kT h0
 obtain ⟨hpo, hsl⟩ := y4 (b := b) (s := s)
 have hV : VecV (.slice none 0 0) 1 (intsT []) := VecV.nil 1
 refine EffAt.of_awp Tryz.func24 rfl (by kernel_rfl) rfl fun Γ hn => ?_
 refine zC (zB ?_)
 refine stepW (yE 2 rfl rfl rfl (nb hn rfl) rfl rfl) fun b2 => ?_
 refine sq rfl rfl hn rfl (zE rfl rfl) ?_
 refine sq rfl rfl hn rfl (zE rfl rfl) ?_
 refine zF (zA (zC (zB ?_)))
 refine sq rfl rfl hn rfl (zf rfl rfl (id := 2) rfl Tryz.underlying33 rfl sz33 rfl rfl sees0) ?_
 refine sq rfl rfl hn rfl (zD rfl rfl) ?_
 refine stepW (s_callE (zA2 b s hN h5 h0) rfl rfl rfl (nb hn rfl) (.d rfl) rfl (.refl _) trivial (fun _ => rfl) (fun _ _ => trivial)) fun bb => ?_
 refine sq rfl rfl hn rfl (zD rfl rfl) ?_
 refine sq rfl rfl hn rfl (yi rfl rfl rfl) ?_
 refine sq rfl rfl hn rfl (yi rfl rfl rfl) ?_
 refine sq rfl rfl hn rfl (zE rfl rfl) ?_
 refine sq rfl rfl hn rfl (zE rfl rfl) ?_
 refine zF (zA (zC (zC (zB ?_))))
 refine sq rfl rfl hn rfl (zD rfl rfl) ?_
 refine sq rfl rfl hn rfl (yb rfl rfl rfl) ?_
 refine zF (zA ?_)
 refine zN rfl (fun hb0 => ?_) (fun hb0 => ?_)
 ·
  exact absurd hb0 (by decide)
 ·
  refine zP (zA (zC (zB ?_)))
  refine sq rfl rfl hn rfl (zD rfl rfl) ?_
  refine stepW (s_callE (zBx bb b (readI b s).1 (.slice none 0 0) [] hV hsl hpo) rfl rfl rfl (nb hn rfl) (.d rfl) rfl (.refl _) ⟨rfl, rfl, trivial⟩ (fun _ => rfl) (fun _ _ => trivial)) fun _ => ?_
  refine sq rfl rfl hn rfl (zD rfl rfl) ?_
  refine sq rfl rfl hn rfl (zb rfl rfl rfl) ?_
  refine sq rfl rfl hn rfl (zb rfl rfl rfl) ?_
  refine sq rfl rfl hn rfl (zE rfl rfl) ?_
  refine sq rfl rfl hn rfl (zE rfl rfl) ?_
  refine zF (zA (zC (zC (zB ?_))))
  refine sq rfl rfl hn rfl (zD rfl rfl) ?_
  refine sq rfl rfl hn rfl (yN rfl rfl) ?_
  refine zF (zA ?_)
  refine zN rfl (fun hb1 => ?_) (fun hb1 => ?_)
  ·
   have q1 : rightB (minI (readI b s).1) = false := by simpa using hb1
   have e1 : minutesI b s = ([], 11) := by unfold minutesI; rw [h0, q1]; rfl
   rw [e1]
   refine zC (zB ?_)
   refine sq rfl rfl hn rfl (zE rfl rfl) ?_
   refine sq rfl rfl hn rfl (zE rfl rfl) ?_
   refine zF (zA (zQ (zL ?_)))
   exact ret_E (.inl rfl) () ((zy rfl (.tmp rfl) (.tmp rfl)).le (.tup (.cons (.nil 2) (.refl _)))) trivial
  ·
   have q1 : rightB (minI (readI b s).1) = true := by simpa using hb1
   have e1 : minutesI b s = (minI (readI b s).1, 0) := by unfold minutesI; rw [h0, q1]; rfl
   rw [e1]
   refine zP (zA (zC (zB ?_)))
   refine sq rfl rfl hn rfl (zD rfl rfl) ?_
   refine sq rfl rfl hn rfl (zE rfl rfl) ?_
   refine sq rfl rfl hn rfl (zE rfl rfl) ?_
   refine zF (zA (zQ ?_))
   exact ret_E (.inl rfl) () (zy rfl (.tmp rfl) (.tmp rfl)) trivial
theorem Prices_no (b : Brd) (s : List UInt8) (hN : NamesOK b) (h5 : s.length ≤ 4294967000) (h0 : (readI b s).2 ≠ 0) : EffAt Tryz.prog 47 [.d (brdD b), .d (strD s)] [] (X := Unit) (fun _ => .d (.tup [rngsD [], .int .i64 (readI b s).2])) (fun _ => []) := by
 refine EffAt.of_awp Tryz.func47 rfl (by kernel_rfl) rfl fun Γ hn => ?_
 refine zC (zB ?_)
 refine stepW (yE 2 rfl rfl rfl (nb hn rfl) rfl rfl) fun b2 => ?_
 refine sq rfl rfl hn rfl (zE rfl rfl) ?_
 refine sq rfl rfl hn rfl (zE rfl rfl) ?_
 refine zF (zA (zC (zB ?_)))
 refine sq rfl rfl hn rfl (zf rfl rfl (id := 2) rfl Tryz.underlying33 rfl sz33 rfl rfl sees0) ?_
 refine sq rfl rfl hn rfl (zD rfl rfl) ?_
 refine stepW (s_callE (zBC b s hN h5 h0) rfl rfl rfl (nb hn rfl) (.d rfl) rfl (.refl _) trivial (fun _ => rfl) (fun _ _ => trivial)) fun _ => ?_
 refine sq rfl rfl hn rfl (zD rfl rfl) ?_
 refine sq rfl rfl hn rfl (zb rfl rfl rfl) ?_
 refine sq rfl rfl hn rfl (zb rfl rfl rfl) ?_
 refine sq rfl rfl hn rfl (zE rfl rfl) ?_
 refine sq rfl rfl hn rfl (zE rfl rfl) ?_
 refine zF (zA (zC (zC (zB ?_))))
 refine sq rfl rfl hn rfl (zD rfl rfl) ?_
 refine sq rfl rfl hn rfl (yb rfl rfl rfl) ?_
 refine zF (zA ?_)
 refine zN rfl (fun hb0 => ?_) (fun hb0 => ?_)
 ·
  refine zC (zB ?_)
  refine sq rfl rfl hn rfl (zD rfl rfl) ?_
  refine sq rfl rfl hn rfl (zE rfl rfl) ?_
  refine sq rfl rfl hn rfl (zE rfl rfl) ?_
  refine zF (zA (zQ (zL ?_)))
  exact ret_E (.inl rfl) () ((zy rfl (.tmp rfl) (.tmp rfl)).le (.tup (.cons (.nil 2) (.refl _)))) trivial
 ·
  exact absurd hb0 (by simp [h0])
theorem Prices_ok1 (b : Brd) (s : List UInt8) (hN : NamesOK b) (h5 : s.length ≤ 4294967000) (h0 : (readI b s).2 = 0) : EffAt Tryz.prog 47 [.d (brdD b), .d (strD s)] [] (X := Unit) (fun _ => .d (.tup [rngsD (pricesI b s).1, .int .i64 (pricesI b s).2])) (fun _ => []) := by
 have v := kT h0
 obtain ⟨hpo, hsl⟩ := y4 (b := b) (s := s)
 have hV : VecV (.slice none 0 0) 1 (intsT []) := VecV.nil 1
 refine EffAt.of_awp Tryz.func47 rfl (by kernel_rfl) rfl fun Γ hn => ?_
 refine zC (zB ?_)
 refine stepW (yE 2 rfl rfl rfl (nb hn rfl) rfl rfl) fun b2 => ?_
 refine sq rfl rfl hn rfl (zE rfl rfl) ?_
 refine sq rfl rfl hn rfl (zE rfl rfl) ?_
 refine zF (zA (zC (zB ?_)))
 refine sq rfl rfl hn rfl (zf rfl rfl (id := 2) rfl Tryz.underlying33 rfl sz33 rfl rfl sees0) ?_
 refine sq rfl rfl hn rfl (zD rfl rfl) ?_
 refine stepW (s_callE (zA2 b s hN h5 h0) rfl rfl rfl (nb hn rfl) (.d rfl) rfl (.refl _) trivial (fun _ => rfl) (fun _ _ => trivial)) fun bb => ?_
 refine sq rfl rfl hn rfl (zD rfl rfl) ?_
 refine sq rfl rfl hn rfl (yi rfl rfl rfl) ?_
 refine sq rfl rfl hn rfl (yi rfl rfl rfl) ?_
 refine sq rfl rfl hn rfl (zE rfl rfl) ?_
 refine sq rfl rfl hn rfl (zE rfl rfl) ?_
 refine zF (zA (zC (zC (zB ?_))))
 refine sq rfl rfl hn rfl (zD rfl rfl) ?_
 refine sq rfl rfl hn rfl (yb rfl rfl rfl) ?_
 refine zF (zA ?_)
 refine zN rfl (fun hb0 => ?_) (fun hb0 => ?_)
 ·
  exact absurd hb0 (by decide)
 ·
  refine zP (zA (zC (zB ?_)))
  refine sq rfl rfl hn rfl (zD rfl rfl) ?_
  refine stepW (s_callE (zCm bb b (readI b s).1 (.slice none 0 0) [] hV v hsl) rfl rfl rfl (nb hn rfl) (.d rfl) rfl (.refl _) ⟨rfl, rfl, trivial⟩ (fun _ => rfl) (fun _ _ => trivial)) fun _ => ?_
  refine sq rfl rfl hn rfl (zD rfl rfl) ?_
  refine sq rfl rfl hn rfl (zb rfl rfl rfl) ?_
  refine sq rfl rfl hn rfl (zb rfl rfl rfl) ?_
  refine sq rfl rfl hn rfl (zE rfl rfl) ?_
  refine sq rfl rfl hn rfl (zE rfl rfl) ?_
  refine zF (zA (zC (zC (zB ?_))))
  refine sq rfl rfl hn rfl (zD rfl rfl) ?_
  refine sq rfl rfl hn rfl (yN rfl rfl) ?_
  refine zF (zA ?_)
  refine zN rfl (fun hb1 => ?_) (fun hb1 => ?_)
  ·
   have q1 : levelsI b (readI b s).1 [] = none := by cases h : levelsI b (readI b s).1 [] <;> simp [h] at hb1 ⊢
   have e1 : pricesI b s = ([], 11) := by unfold pricesI; rw [h0, q1]; rfl
   rw [e1]
   refine zC (zB ?_)
   refine sq rfl rfl hn rfl (zE rfl rfl) ?_
   refine sq rfl rfl hn rfl (zE rfl rfl) ?_
   refine zF (zA (zQ (zL ?_)))
   exact ret_E (.inl rfl) () ((zy rfl (.tmp rfl) (.tmp rfl)).le (.tup (.cons (.nil 2) (.refl _)))) trivial
  ·
   obtain ⟨ms, q1⟩ : ∃ ms, levelsI b (readI b s).1 [] = some ms := by cases h : levelsI b (readI b s).1 [] <;> simp [h] at hb1 ⊢
   have e1 : pricesI b s = (ms.map bndN, 0) := by unfold pricesI; rw [h0, q1]; rfl
   rw [e1]
   have hml := zCK q1
   rw [q1]
   have hlen : ((ms.map lvE).length : Int) = (ms.length : Nat) := by simp
   simp only [Option.getD_some]
   refine zP (zA (zC (zB ?_)))
   refine sq rfl rfl hn rfl (zE rfl rfl) ?_
   refine zF (zA (zC (zC ?_)))
   refine y7 (g_nil (t := 10) (id := 10) 45 2 rfl (nb hn rfl)) ?_
   refine zB ?_
   refine sq rfl rfl hn rfl (zD rfl rfl) ?_
   refine sq rfl rfl hn rfl (yI rfl rfl Tryz.underlying143) ?_
   refine sq rfl rfl hn rfl (zD rfl rfl) ?_
   refine zF (zA (zU ?_))
   refine awp_loop_on (ι := {x : Nat × Value // x.1 ≤ ms.length}) (fun x => (31, true, .d (.int .i64 (x.1.1 : Nat))) :: (10, true, .val x.1.2) :: anys [32, 33, 34, 12, 35, 36, 37, 38, 39, 40]) (fun x => (10, .row x.1.2 45 2 (((ms.take x.1.1).map bndN).map rngE)) :: gones [12]) (fun x => ms.length - x.1.1) ⟨(0, _), Nat.zero_le _⟩ ⟨.inl rfl, .inl rfl, zK _⟩ ⟨.inl rfl, zi _⟩ ?_
   rintro ⟨⟨i, vv⟩, hi⟩
   dsimp only
   dsimp only at hi
   refine zC (zB ?_)
   refine sq rfl rfl hn rfl (yF rfl rfl rfl) ?_
   refine zF (zA (zC ?_))
   refine zN rfl (fun hb2 => ?_) (fun hb2 => ?_)
   ·
    have hil : i < ms.length := by simp at hb2; omega
    obtain ⟨m, hm⟩ := zn hil
    refine zP (zA (zC (zU (zC (zB ?_)))))
    refine sq rfl rfl hn rfl (q_index (i := i) rfl rfl rfl Tryz.underlying143 sz148 rfl (mget hm)) ?_
    refine sq rfl rfl hn rfl (yM rfl rfl Tryz.underlying148 rfl sz148 (zD0 m) (yU m) seesF0) ?_
    refine stepW (yA 12 rfl rfl rfl (nb hn rfl) zr148 zero800a zero800b) fun b12 => ?_
    refine stepW (zo rfl rfl rfl rfl rfl rfl (id := 12) rfl sz148 (yG _) (by rw [yG]; decide) (kF _ (yG _)) trivial) fun _ => ?_
    refine zF (zA (zB ?_))
    refine sq rfl rfl hn rfl (zD rfl rfl) ?_
    refine sq rfl rfl hn rfl (zf rfl rfl (id := 12) rfl Tryz.underlying148 rfl sz148 (yk _) (yU _) sees0) ?_
    refine stepW (s_call [] (fun _ => bounds_ok m) rfl (zI rfl) rfl (nb hn rfl) (fun _ => trivial) rfl rfl (.refl _)) fun _ => ?_
    refine stepW (za rfl rfl rfl (nb hn rfl) Tryz.underlying48 sz45 zr45 rfl rfl rfl (show _ = [.d (.int .i64 0), .d (.int .i64 0)] from by kernel_rfl) (by kernel_rfl) rfl rfl rfl rfl rfl) fun _ => ?_
    refine stepW (s_append (id := 10) rfl rfl rfl (nb hn rfl) elt48 trivial rfl rfl rfl (by simp [chunk]; omega) (by simp [chunk]; omega) (fun b hb => trivial)) fun v39 => ?_
    refine sq rfl rfl hn rfl (zE rfl rfl) ?_
    refine zF (zS (zA (zB ?_)))
    refine sq rfl rfl hn rfl (zp rfl rfl rfl (r := ((i + 1 : Nat) : Int)) (i64w (by omega) (by omega))) ?_
    refine sq rfl rfl hn rfl (zD rfl rfl) ?_
    refine zF ?_
    exact zR ⟨(i + 1, v39), by simp only; omega⟩ ⟨.inl rfl, .inl rfl, zK _⟩ ⟨.inl (congrArg (fun z => some (Res.row v39 45 2 z)) (addR hm)), zi _⟩ (by simp only; omega) (by repeat (first | exact kr _ | refine kc rfl ?_)) (by repeat (first | exact kr _ | refine kc rfl ?_))
   ·
    have hie : i = ms.length := by simp at hb2; omega
    subst hie
    rw [List.take_length]
    refine zk (zM (zM (zV (zA (zC (zB ?_))))))
    refine sq rfl rfl hn rfl (zD rfl rfl) ?_
    refine sq rfl rfl hn rfl (zE rfl rfl) ?_
    refine sq rfl rfl hn rfl (zE rfl rfl) ?_
    refine zF (zA (zQ ?_))
    refine kM (g_row (t := 4) (id := 10) rfl rfl) ?_
    exact ret_E (.inl rfl) () (zy rfl (.tmp rfl) (.tmp rfl)) trivial
theorem Minutes_ok (b : Brd) (s : List UInt8) (hN : NamesOK b) (h5 : s.length ≤ 4294967000) : PureAt Tryz.prog 24 [brdD b, strD s] (.tup [rngsD (minutesI b s).1, .int .i64 (minutesI b s).2]) := by
  by_cases h0 : (readI b s).2 = 0
  · exact PureAt.of_eff (ds := [brdD b, strD s]) (Minutes_ok1 b s hN h5 h0)
  · have h1 : ((readI b s).2 != 0) = true := by simpa using h0
    rw [show minutesI b s = ([], (readI b s).2) from by unfold minutesI; rw [h1]; rfl]
    exact PureAt.of_eff (ds := [brdD b, strD s]) (Minutes_no b s hN h5 h0)
theorem Prices_ok (b : Brd) (s : List UInt8) (hN : NamesOK b) (h5 : s.length ≤ 4294967000) : PureAt Tryz.prog 47 [brdD b, strD s] (.tup [rngsD (pricesI b s).1, .int .i64 (pricesI b s).2]) := by
  by_cases h0 : (readI b s).2 = 0
  · exact PureAt.of_eff (ds := [brdD b, strD s]) (Prices_ok1 b s hN h5 h0)
  · have h1 : ((readI b s).2 != 0) = true := by simpa using h0
    rw [show pricesI b s = ([], (readI b s).2) from by unfold pricesI; rw [h1]; rfl]
    exact PureAt.of_eff (ds := [brdD b, strD s]) (Prices_no b s hN h5 h0)
end Go.Proofs.YtplpcamcnppibaaGreatDoor
namespace Go.Proofs.YtplpcamcnppibaaGreatDoor
open Go.RowKit
set_option maxRecDepth 20000
set_option linter.all false
theorem s_lookupK {Γ : Cx} {P : Program} {σ : St} {ops : Array Oper} {o : Oper} {W : Nat → Prop} {t k e dt b id : Nat} {x y : Operand} {V : Value → Prop} {M : D → D → Prop} {kd zd vd : D} {kv z : Value} (h : o.op = .lookup t x y false) (hg : o.guard = none) (hd : o.dst = some dt) (hn : Nat.blt dt Γ.n = true)
    (law : KLaw P k V) (ht : P.underlying t = some (.map k e)) (hz : (P.info? e).map (·.zero) = some (some z)) (hzd : zd.lit = some z)
    (hx : MapV σ x b) (hy : σ.ev y = some (true, .d kd)) (hk : kd.lit = some kv) (hv : V kv) (hr : σ.rget id = some (mapRes V b M))
    (hval : ∀ r : Option D, (∀ d, r = some d → M kd d) → (r = none → ∀ d, ¬ M kd d) → r.getD zd = vd) : StepW Γ P ops σ o W fun _ : Unit => σ.put dt true (.d vd) := fun a w F hs K Q hK =>
  zDu h hg hd hn law ht hz hzd hx hy hk hv hr a w F hs K Q fun ⟨r, h1, h2⟩ a' w' F' hr' => hK () a' w' F' (by
    have e := hval r h1 h2
    simp only [cond_false, e] at hr'
    exact hr')
theorem zEm {n : Int} (h : -9223372036854775808 ≤ n ∧ n ≤ 9223372036854775807) : (Lit.int .i64 n).wf = true := by
  have e1 : IntKind.i64.min = -9223372036854775808 := by decide
  have e2 : IntKind.i64.max = 9223372036854775807 := by decide
  simp only [Lit.wf, e1, e2, Bool.and_eq_true, decide_eq_true_eq]
  exact h
abbrev KP : Value → Prop := KV Tryz.prog 150
theorem zDG : KLaw Tryz.prog 150 KP := KLaw.of (Go.deep_law (m := 3) (by omega) (by kernel_rfl) (by kernel_rfl) (by kernel_rfl))
theorem place_lits {i p : Nat} (k : Nat) (hi : i ≤ 1000) (hp : p ≤ 1000) : ∃ ls, Tryz.prog.keyLits (k + 2) 150 [.int .i64 (i : Nat), .int .i64 (p : Nat)] = some ls := by
  have h1 := zEm (n := (i : Int)) (by omega)
  have h2 := zEm (n := (p : Int)) (by omega)
  have c1 : Tryz.prog.cellsOf 150 = 2 := by kernel_rfl
  have c2 : Tryz.prog.cellsOf 3 = 1 := by kernel_rfl
  simp only [Program.keyLits, Tryz.underlying150, Tryz.underlying3]
  simp [c1, c2, h1, h2]
theorem zEH {i p : Nat} (hi : i ≤ 1000) (hp : p ≤ 1000) : KV Tryz.prog 150 (.agg [.int .i64 (i : Nat), .int .i64 (p : Nat)].toArray) := by
  have c1 : Tryz.prog.cellsOf 150 = 2 := by kernel_rfl
  have hk : Tryz.prog.keyType 150 = true := by kernel_rfl
  have h1 : Nat.ble 1 Tryz.prog.types.size = true := by kernel_rfl
  have hs : ∃ k, Tryz.prog.types.size + 1 = k + 2 := ⟨Tryz.prog.types.size - 1, by have := Nat.le_of_ble_eq_true h1; omega⟩
  obtain ⟨k, hs⟩ := hs
  obtain ⟨ls, hl⟩ := place_lits k hi hp
  unfold KV keyOf
  rw [Tryz.underlying150, hs]
  simp only [hk, Value.formed, Tryz.underlying150, c1, Value.cells]
  simp [hl]
@[reducible] def placeD (i p : Nat) : D := .agg [.int .i64 (i : Nat), .int .i64 (p : Nat)]
/-- What has been said of the first i levels, and of the next one below p. -/
def canM (ms : List Nat) (i p : Nat) (d d' : D) : Prop := ∃ j q m, ((j < i ∧ q < 800) ∨ (j = i ∧ q < p)) ∧ ms[j]? = some m ∧ d = placeD j q ∧ d' = .bool (m.testBit q)
theorem zCM {i p j q : Nat} (h : placeD i p = placeD j q) : i = j ∧ p = q := by
  simp only [placeD] at h
  injection h with h
  injection h with h1 h2
  injection h2 with h2 _
  injection h1 with _ h1
  injection h2 with _ h2
  omega
theorem can_none {ms : List Nat} : canM ms 0 0 = fun _ _ => False := by
  funext d d'
  exact propext ⟨fun ⟨j, q, m, h, _⟩ => by omega, fun h => h.elim⟩
theorem can_next {ms : List Nat} {i : Nat} : canM ms i 800 = canM ms (i + 1) 0 := by
  funext d d'
  refine propext ⟨fun ⟨j, q, m, h, r⟩ => ⟨j, q, m, by omega, r⟩, fun ⟨j, q, m, h, r⟩ => ⟨j, q, m, by omega, r⟩⟩
theorem can_set {ms : List Nat} {i p m : Nat} (hm : ms[i]? = some m) : setM (canM ms i p) (placeD i p) (.bool (m.testBit p)) = canM ms i (p + 1) := by
  funext d d'
  apply propext
  constructor
  · rintro (⟨rfl, rfl⟩ | ⟨hne, j, q, m', h, h1, h2, h3⟩)
    · exact ⟨i, p, m, by omega, hm, rfl, rfl⟩
    · exact ⟨j, q, m', by omega, h1, h2, h3⟩
  · rintro ⟨j, q, m', h, h1, h2, h3⟩
    by_cases e : j = i ∧ q = p
    · obtain ⟨rfl, rfl⟩ := e
      rw [hm] at h1; cases h1
      exact .inl ⟨h2, h3⟩
    · refine .inr ⟨fun he => e ?_, j, q, m', by omega, h1, h2, h3⟩
      rw [h2] at he
      exact zCM he
theorem can_val {ms : List Nat} {i p n m : Nat} (hm : ms[i]? = some m) (hi : i < n) (hp : p < 800) (r : Option D) (h1 : ∀ d, r = some d → canM ms n 0 (placeD i p) d) (h2 : r = none → ∀ d, ¬ canM ms n 0 (placeD i p) d) : r.getD (.bool false) = .bool (m.testBit p) := by
  cases r with
  | none => exact (h2 rfl _ ⟨i, p, m, by omega, hm, rfl, rfl⟩).elim
  | some d =>
    obtain ⟨j, q, m', _, h3, h4, h5⟩ := h1 d rfl
    obtain ⟨rfl, rfl⟩ := zCM h4
    rw [hm] at h3; cases h3
    exact h5
theorem place_kv2 {i p : Nat} {q : Int} (hq : q = (p : Nat)) (hi : i ≤ 1000) (hp : p ≤ 1000) : KV Tryz.prog 150 (.agg [.int .i64 (i : Nat), .int .i64 q].toArray) := hq ▸ zEH hi hp
theorem can_val2 {ms : List Nat} {i p n m : Nat} {q : Int} (hq : q = (p : Nat)) (hm : ms[i]? = some m) (hi : i < n) (hp : p < 800) (r : Option D) (h1 : ∀ d, r = some d → canM ms n 0 (.agg [.int .i64 (i : Nat), .int .i64 q]) d) (h2 : r = none → ∀ d, ¬ canM ms n 0 (.agg [.int .i64 (i : Nat), .int .i64 q]) d) : r.getD (.bool false) = .bool (m.testBit p) := by
  subst hq
  exact can_val hm hi hp r h1 h2
def slipB (b : Brd) (x : Slp) : Bool := withinB x.stock 0 ((b.stocks.length : Int) - 1) && withinB x.price 1 799 && withinB x.number 1 99 && spansB x.mlo x.mhi 0 600
def findB (p : Prt) (m : Nat) (r : Int × Int) (x : Slp) : Bool := p.stock == x.stock && withinB x.number p.nlo p.nhi && m.testBit x.price.toNat && decide (r.1 ≤ x.mhi) && decide (x.mlo ≤ r.2)
def findF (sales : List Prt) (ms : List Nat) (rs : List (Int × Int)) (x : Slp) (i : Nat) : Bool := findB (sales.getD i ⟨-1, 0, 0, 0, false, 0, 0, 0⟩) (ms.getD i 0) (rs.getD i (0, 0)) x
def findL (sales : List Prt) (ms : List Nat) (rs : List (Int × Int)) (x : Slp) (i : Nat) : List Int := ((List.range i).filter (findF sales ms rs x)).map fun i => ((i : Nat) : Int)
def findI (b : Brd) (s : List UInt8) (x : Slp) : List Int × Int := bif (readI b s).2 != 0 then ([], (readI b s).2) else bif !(slipB b x) then ([], 2) else match levelsI b (readI b s).1 [] with
  | none => ([], 11)
  | some ms => bif !(rightB (minI (readI b s).1)) then ([], 11) else (findL (readI b s).1 ms (minI (readI b s).1) x (readI b s).1.length, 0)
theorem findL_t {sales : List Prt} {ms : List Nat} {rs : List (Int × Int)} {x : Slp} {i : Nat} (h : findF sales ms rs x i = true) : (findL sales ms rs x i).map intE ++ [intE (i : Nat)] = (findL sales ms rs x (i + 1)).map intE := by
  unfold findL
  rw [List.range_succ, List.filter_append]
  simp [h]
theorem findL_f {sales : List Prt} {ms : List Nat} {rs : List (Int × Int)} {x : Slp} {i : Nat} (h : findF sales ms rs x i = false) : findL sales ms rs x i = findL sales ms rs x (i + 1) := by
  unfold findL
  rw [List.range_succ, List.filter_append]
  simp [h]
theorem zCu {sales : List Prt} {ms : List Nat} {rs : List (Int × Int)} {x : Slp} {i : Nat} : (findL sales ms rs x i).length ≤ i := by
  unfold findL
  rw [List.length_map]
  exact Nat.le_trans (List.length_filter_le _ _) (by simp)
theorem zBc {k : IntKind} {n : Int} : fillTV (fun i => some (i * 1, 1)) [.d (.int .i64 0)] [(0, .d (.int k n))] = some [.d (.int k n)] := rfl
theorem minI_len (l : List Prt) : (minI l).length = l.length := by unfold minI; rw [zAB, ke]
theorem zr4 : (Tryz.prog.info? 4).map (·.zero) = some (some (.bool false)) := by kernel_rfl
theorem elt57 : ElT Tryz.prog 57 3 1 8 := zAy Tryz.underlying57 (z := (.int .i64 0)) (by kernel_rfl) rfl (by decide)
theorem slip_ok (b : Brd) (x : Slp) (h : b.stocks.length ≤ 1000) : PureAt Tryz.prog 70 [brdD b, .agg (slpE x)] (.bool (slipB b x)) := by
 refine PureAt.of_awp Tryz.func70 rfl (by kernel_rfl) (Nat.le_of_ble_eq_true rfl) fun Γ hn hl => ?_
 refine zC (zB ?_)
 refine stepW (yE 2 rfl rfl rfl (nb hn rfl) rfl rfl) fun b2 => ?_
 refine stepW (yE 3 rfl rfl rfl (nb hn rfl) rfl rfl) fun b3 => ?_
 refine sq rfl rfl hn rfl (zE rfl rfl) ?_
 refine zF (zA (zC (zB ?_)))
 refine sq rfl rfl hn rfl (zH rfl rfl Tryz.underlying61 rfl sz3) ?_
 refine sq rfl rfl hn rfl (zO rfl rfl (id := 3) rfl Tryz.underlying3 rfl rfl sees0) ?_
 refine sq rfl rfl hn rfl (zH rfl rfl Tryz.underlying33 rfl sz31) ?_
 refine sq rfl rfl hn rfl (zO rfl rfl (id := 2) rfl Tryz.underlying31 rfl rfl sees0) ?_
 refine sq rfl rfl hn rfl (yI rfl rfl Tryz.underlying31) ?_
 refine sq rfl rfl hn rfl (yP rfl rfl rfl (r := (b.stocks.length : Int) - 1) (by rw [List.length_map]; exact i64w (by omega) rfl)) ?_
 refine stepW (s_call [] (fun _ => yO _ _ _) rfl (zI rfl) rfl (nb hn rfl) (fun _ => trivial) rfl rfl (.refl _)) fun _ => ?_
 refine sq rfl rfl hn rfl (zD rfl rfl) ?_
 refine stepG [] (zG rfl rfl rfl) rfl (nb hn rfl) (fun hc => trivial) (fun hc => zH rfl rfl Tryz.underlying61 rfl sz3) ?_
 refine stepG [(13, _)] (zG rfl rfl rfl) rfl (nb hn rfl) (fun hc => ⟨⟨_, rfl, hc⟩, trivial⟩) (fun hc => zO rfl rfl (id := 3) rfl Tryz.underlying3 rfl rfl sees0) ?_
 refine stepW (s_call [(14, _)] (fun hc => yO _ _ _) rfl (zG rfl rfl rfl) rfl (nb hn rfl) (fun hc => ⟨⟨_, rfl, hc⟩, trivial⟩) rfl rfl (.refl _)) fun _ => ?_
 refine sq rfl rfl hn rfl (zx rfl rfl rfl (by intro hB; first | (rw [hB]; rfl) | (rw [hB, hc]; rfl) | simp_all)) ?_
 refine sq rfl rfl hn rfl (zD rfl rfl) ?_
 refine stepG [] (zG rfl rfl rfl) rfl (nb hn rfl) (fun hc => trivial) (fun hc => zH rfl rfl Tryz.underlying61 rfl sz3) ?_
 refine stepG [(18, _)] (zG rfl rfl rfl) rfl (nb hn rfl) (fun hc => ⟨⟨_, rfl, hc⟩, trivial⟩) (fun hc => zO rfl rfl (id := 3) rfl Tryz.underlying3 rfl rfl sees0) ?_
 refine stepW (s_call [(19, _)] (fun hc => yO _ _ _) rfl (zG rfl rfl rfl) rfl (nb hn rfl) (fun hc => ⟨⟨_, rfl, hc⟩, trivial⟩) rfl rfl (.refl _)) fun _ => ?_
 refine sq rfl rfl hn rfl (zx rfl rfl rfl (by intro hB; first | (rw [hB]; rfl) | (rw [hB, hc]; rfl) | simp_all)) ?_
 refine sq rfl rfl hn rfl (zD rfl rfl) ?_
 refine stepG [] (zG rfl rfl rfl) rfl (nb hn rfl) (fun hc => trivial) (fun hc => zH rfl rfl Tryz.underlying61 rfl sz45) ?_
 refine stepG [(23, _)] (zG rfl rfl rfl) rfl (nb hn rfl) (fun hc => ⟨⟨_, rfl, hc⟩, trivial⟩) (fun hc => zf rfl rfl (id := 3) rfl Tryz.underlying45 rfl sz45 rfl rfl sees0) ?_
 refine stepW (s_call [(24, _)] (fun hc => zCl (_, _) _ _) rfl (zG rfl rfl rfl) rfl (nb hn rfl) (fun hc => ⟨⟨_, rfl, hc⟩, trivial⟩) rfl rfl (.refl _)) fun _ => ?_
 refine sq rfl rfl hn rfl (zx rfl rfl rfl (by intro hB; first | (rw [hB]; rfl) | (rw [hB, hc]; rfl) | simp_all)) ?_
 refine sq rfl rfl hn rfl (zE rfl rfl) ?_
 refine zF (zA (zQ ?_))
 exact zu (.inl rfl) hl rfl (.tmp rfl)
theorem Find_no (b : Brd) (s : List UInt8) (hN : NamesOK b) (h5 : s.length ≤ 4294967000) (h0 : (readI b s).2 ≠ 0) (x : Slp) : EffAt Tryz.prog 27 [.d (brdD b), .d (strD s), .d (.agg (slpE x))] [] (X := Unit) (fun _ => .d (.tup [ints [], .int .i64 (readI b s).2])) (fun _ => []) := by
 refine EffAt.of_awp Tryz.func27 rfl (by kernel_rfl) rfl fun Γ hn => ?_
 refine zC (zB ?_)
 refine stepW (yE 3 rfl rfl rfl (nb hn rfl) rfl rfl) fun b3 => ?_
 refine stepW (yE 5 rfl rfl rfl (nb hn rfl) rfl rfl) fun b5 => ?_
 refine sq rfl rfl hn rfl (zE rfl rfl) ?_
 refine sq rfl rfl hn rfl (zE rfl rfl) ?_
 refine zF (zA (zC (zB ?_)))
 refine sq rfl rfl hn rfl (zf rfl rfl (id := 3) rfl Tryz.underlying33 rfl sz33 rfl rfl sees0) ?_
 refine sq rfl rfl hn rfl (zD rfl rfl) ?_
 refine stepW (s_callE (zBC b s hN h5 h0) rfl rfl rfl (nb hn rfl) (.d rfl) rfl (.refl _) trivial (fun _ => rfl) (fun _ _ => trivial)) fun _ => ?_
 refine sq rfl rfl hn rfl (zD rfl rfl) ?_
 refine sq rfl rfl hn rfl (zb rfl rfl rfl) ?_
 refine sq rfl rfl hn rfl (zb rfl rfl rfl) ?_
 refine sq rfl rfl hn rfl (zE rfl rfl) ?_
 refine sq rfl rfl hn rfl (zE rfl rfl) ?_
 refine zF (zA (zC (zC (zB ?_))))
 refine sq rfl rfl hn rfl (zD rfl rfl) ?_
 refine sq rfl rfl hn rfl (yb rfl rfl rfl) ?_
 refine zF (zA ?_)
 refine zN rfl (fun hb0 => ?_) (fun hb0 => ?_)
 ·
  refine zC (zB ?_)
  refine sq rfl rfl hn rfl (zD rfl rfl) ?_
  refine sq rfl rfl hn rfl (zE rfl rfl) ?_
  refine sq rfl rfl hn rfl (zE rfl rfl) ?_
  refine zF (zA (zQ (zL ?_)))
  exact ret_E (.inl rfl) () ((zy rfl (.tmp rfl) (.tmp rfl)).le (.tup (.cons (.nil 1) (.refl _)))) trivial
 ·
  exact absurd hb0 (by simp [h0])
theorem Find_ok1 (b : Brd) (s : List UInt8) (hN : NamesOK b) (h5 : s.length ≤ 4294967000) (h0 : (readI b s).2 = 0) (x : Slp) : EffAt Tryz.prog 27 [.d (brdD b), .d (strD s), .d (.agg (slpE x))] [] (X := Unit) (fun _ => .d (.tup [ints (findI b s x).1, .int .i64 (findI b s x).2])) (fun _ => []) := by
 have v := kT h0
 obtain ⟨hpo, hsl⟩ := y4 (b := b) (s := s)
 have hV : VecV (.slice none 0 0) 1 (intsT []) := VecV.nil 1
 refine EffAt.of_awp Tryz.func27 rfl (by kernel_rfl) rfl fun Γ hn => ?_
 refine zC (zB ?_)
 refine stepW (yE 3 rfl rfl rfl (nb hn rfl) rfl rfl) fun b3 => ?_
 refine stepW (yE 5 rfl rfl rfl (nb hn rfl) rfl rfl) fun b5 => ?_
 refine sq rfl rfl hn rfl (zE rfl rfl) ?_
 refine sq rfl rfl hn rfl (zE rfl rfl) ?_
 refine zF (zA (zC (zB ?_)))
 refine sq rfl rfl hn rfl (zf rfl rfl (id := 3) rfl Tryz.underlying33 rfl sz33 rfl rfl sees0) ?_
 refine sq rfl rfl hn rfl (zD rfl rfl) ?_
 refine stepW (s_callE (zA2 b s hN h5 h0) rfl rfl rfl (nb hn rfl) (.d rfl) rfl (.refl _) trivial (fun _ => rfl) (fun _ _ => trivial)) fun bb => ?_
 refine sq rfl rfl hn rfl (zD rfl rfl) ?_
 refine sq rfl rfl hn rfl (yi rfl rfl rfl) ?_
 refine sq rfl rfl hn rfl (yi rfl rfl rfl) ?_
 refine sq rfl rfl hn rfl (zE rfl rfl) ?_
 refine sq rfl rfl hn rfl (zE rfl rfl) ?_
 refine zF (zA (zC (zC (zB ?_))))
 refine sq rfl rfl hn rfl (zD rfl rfl) ?_
 refine sq rfl rfl hn rfl (yb rfl rfl rfl) ?_
 refine zF (zA ?_)
 refine zN rfl (fun hb0 => ?_) (fun hb0 => ?_)
 ·
  exact absurd hb0 (by decide)
 ·
  refine zP (zA (zC (zC (zB ?_))))
  refine sq rfl rfl hn rfl (zf rfl rfl (id := 3) rfl Tryz.underlying33 rfl sz33 rfl rfl sees0) ?_
  refine sq rfl rfl hn rfl (zf rfl rfl (id := 5) rfl Tryz.underlying61 rfl sz61 rfl rfl sees0) ?_
  refine stepW (s_call [] (fun _ => slip_ok b x (by have := v.n4; omega)) rfl (zI rfl) rfl (nb hn rfl) (fun _ => trivial) rfl rfl (.refl _)) fun _ => ?_
  refine sq rfl rfl hn rfl (yN rfl rfl) ?_
  refine zF (zA ?_)
  refine zN rfl (fun hb1 => ?_) (fun hb1 => ?_)
  ·
   have q1 : (!(slipB b x)) = true := hb1
   have e1 : findI b s x = ([], 2) := by unfold findI; rw [h0, q1]; rfl
   rw [e1]
   refine zC (zB ?_)
   refine sq rfl rfl hn rfl (zE rfl rfl) ?_
   refine sq rfl rfl hn rfl (zE rfl rfl) ?_
   refine zF (zA (zQ (zL ?_)))
   exact ret_E (.inl rfl) () ((zy rfl (.tmp rfl) (.tmp rfl)).le (.tup (.cons (.nil 1) (.refl _)))) trivial
  ·
   have q1 : (!(slipB b x)) = false := hb1
   have hprice : 1 ≤ x.price ∧ x.price ≤ 799 := by have := q1; simp only [slipB, Bool.not_eq_false', Bool.and_eq_true] at this; exact zt.1 this.1.1.2
   obtain ⟨pr, hpr⟩ : ∃ pr : Nat, x.price = pr := ⟨x.price.toNat, by omega⟩
   refine zP (zA (zC (zB ?_)))
   refine sq rfl rfl hn rfl (zD rfl rfl) ?_
   refine stepW (s_callE (zCm bb b (readI b s).1 (.slice none 0 0) [] hV v hsl) rfl rfl rfl (nb hn rfl) (.d rfl) rfl (.refl _) ⟨rfl, rfl, trivial⟩ (fun _ => rfl) (fun _ _ => trivial)) fun _ => ?_
   refine sq rfl rfl hn rfl (zD rfl rfl) ?_
   refine sq rfl rfl hn rfl (zb rfl rfl rfl) ?_
   refine sq rfl rfl hn rfl (zb rfl rfl rfl) ?_
   refine sq rfl rfl hn rfl (zE rfl rfl) ?_
   refine sq rfl rfl hn rfl (zE rfl rfl) ?_
   refine zF (zA (zC (zB ?_)))
   refine sq rfl rfl hn rfl (zD rfl rfl) ?_
   refine stepW (s_callE (zBx bb b (readI b s).1 (.slice none 0 0) [] hV hsl hpo) rfl rfl rfl (nb hn rfl) (.d rfl) rfl (.refl _) ⟨rfl, rfl, trivial⟩ (fun _ => rfl) (fun _ _ => trivial)) fun _ => ?_
   refine sq rfl rfl hn rfl (zD rfl rfl) ?_
   refine sq rfl rfl hn rfl (zb rfl rfl rfl) ?_
   refine sq rfl rfl hn rfl (zb rfl rfl rfl) ?_
   refine sq rfl rfl hn rfl (zE rfl rfl) ?_
   refine sq rfl rfl hn rfl (zE rfl rfl) ?_
   refine zF (zA (zC (zC (zB ?_))))
   refine sq rfl rfl hn rfl (zD rfl rfl) ?_
   refine sq rfl rfl hn rfl (yN rfl rfl) ?_
   refine sq rfl rfl hn rfl (zD rfl rfl) ?_
   refine stepG [] (zG rfl rfl rfl) rfl (nb hn rfl) (fun hc => trivial) (fun hc => zD rfl rfl) ?_
   refine stepG [(48, _)] (zG rfl rfl rfl) rfl (nb hn rfl) (fun hc => ⟨⟨_, rfl, hc⟩, trivial⟩) (fun hc => yN rfl rfl) ?_
   refine sq rfl rfl hn rfl (q_or rfl rfl rfl (by intro hB; first | (rw [hB]; rfl) | (rw [hB, hc]; rfl) | simp_all)) ?_
   refine zF (zA ?_)
   refine zN rfl (fun hb2 => ?_) (fun hb2 => ?_)
   ·
    have e1 : findI b s x = ([], 11) := by (unfold findI; rw [h0, q1]; cases hq : levelsI b (readI b s).1 [] <;> simp [hq] at hb2 ⊢; simp [hb2])
    rw [e1]
    refine zC (zB ?_)
    refine sq rfl rfl hn rfl (zE rfl rfl) ?_
    refine sq rfl rfl hn rfl (zE rfl rfl) ?_
    refine zF (zA (zQ (zL ?_)))
    exact ret_E (.inl rfl) () ((zy rfl (.tmp rfl) (.tmp rfl)).le (.tup (.cons (.nil 1) (.refl _)))) trivial
   ·
    obtain ⟨ms, q2, q3⟩ : ∃ ms, levelsI b (readI b s).1 [] = some ms ∧ (!(rightB (minI (readI b s).1))) = false := by cases h : levelsI b (readI b s).1 [] <;> simp [h] at hb2 ⊢; exact hb2
    have e1 : findI b s x = (findL (readI b s).1 ms (minI (readI b s).1) x (readI b s).1.length, 0) := by unfold findI; rw [h0, q1, q2]; simp only [q3]; rfl
    rw [e1]
    have hml := zCK q2
    have hrl := minI_len (readI b s).1
    rw [q2]
    simp only [Option.getD_some]
    refine zP (zA (zC (zB ?_)))
    refine stepW (zDO (KP) 1080 rfl rfl rfl (nb hn rfl)) fun b51 => ?_
    refine sq rfl rfl hn rfl (zE rfl rfl) ?_
    refine zF (zA (zC (zC (zB ?_))))
    refine sq rfl rfl hn rfl (zD rfl rfl) ?_
    refine sq rfl rfl hn rfl (yI rfl rfl Tryz.underlying143) ?_
    refine sq rfl rfl hn rfl (zD rfl rfl) ?_
    refine zF (zA (zU ?_))
    refine awp_loop_on (ι := {x : Nat // x ≤ ms.length}) (fun y => (54, true, .d (.int .i64 (y.1 : Nat))) :: anys [55, 56, 57, 58, 16, 15, 59, 60, 61, 62, 63, 17, 18, 64, 65, 66, 67, 68, 69, 70]) (fun y => (1080, mapRes KP b51 (canM ms y.1 0)) :: gones [16]) (fun y => ms.length - y.1) ⟨0, Nat.zero_le _⟩ ⟨.inl rfl, zK _⟩ ⟨.inl (congrArg (fun z => some (mapRes KP b51 z)) can_none.symm), zi _⟩ ?_
    rintro ⟨i, hi⟩
    dsimp only
    refine zC (zB ?_)
    refine sq rfl rfl hn rfl (yF rfl rfl rfl) ?_
    refine zF (zA (zC ?_))
    refine zN rfl (fun hb3 => ?_) (fun hb3 => ?_)
    ·
     have hil : i < ms.length := by simp at hb3; omega
     obtain ⟨m, hm⟩ := zn hil
     refine zP (zA (zC (zU (zC (zB ?_)))))
     refine sq rfl rfl hn rfl (zD rfl rfl) ?_
     refine sq rfl rfl hn rfl (q_index (i := i) rfl rfl rfl Tryz.underlying143 sz148 rfl (mget hm)) ?_
     refine sq rfl rfl hn rfl (yM rfl rfl Tryz.underlying148 rfl sz148 (zD0 m) (yU m) seesF0) ?_
     refine stepW (yA 16 rfl rfl rfl (nb hn rfl) zr148 zero800a zero800b) fun b16 => ?_
     refine sq rfl rfl hn rfl (zE rfl rfl) ?_
     refine stepW (zo rfl rfl rfl rfl rfl rfl (id := 16) rfl sz148 (yG _) (by rw [yG]; decide) (kF _ (yG _)) trivial) fun _ => ?_
     refine zF (zA (zC (zB ?_)))
     refine sq rfl rfl hn rfl (zf rfl rfl (id := 16) rfl Tryz.underlying148 rfl sz148 (yk _) (yU _) sees0) ?_
     refine sq rfl rfl hn rfl (zD rfl rfl) ?_
     refine zF (zA (zU ?_))
     refine awp_loop_on (ι := {x : Nat // x ≤ 800}) (fun y => (60, true, .d (.int .i64 (y.1 : Nat))) :: anys [61, 62, 63, 17, 18, 64, 65, 66, 67, 68, 69]) (fun y => [(1080, mapRes KP b51 (canM ms i y.1))]) (fun y => 800 - y.1) ⟨0, Nat.zero_le _⟩ ⟨.inl rfl, zK _⟩ ⟨.inl rfl, trivial⟩ ?_
     rintro ⟨p, hp⟩
     dsimp only
     refine zC (zB ?_)
     refine sq rfl rfl hn rfl (yF rfl rfl rfl) ?_
     refine zF (zA (zC ?_))
     refine zN rfl (fun hb4 => ?_) (fun hb4 => ?_)
     ·
      have hpl : p < 800 := by simp at hb4; omega
      refine zP (zA (zC (zU (zC (zB ?_)))))
      refine sq rfl rfl hn rfl (zD rfl rfl) ?_
      refine sq rfl rfl hn rfl (q_indexAgg rfl rfl rfl Tryz.underlying148 Tryz.underlying4 rfl sz4 rfl hpl (zAK hpl)) ?_
      refine sq rfl rfl hn rfl (zE rfl rfl) ?_
      refine sq rfl rfl hn rfl (zE rfl rfl) ?_
      refine zF (zA (zB ?_))
      refine sq rfl rfl hn rfl (zD rfl rfl) ?_
      refine sq rfl rfl hn rfl (zD rfl rfl) ?_
      refine sq rfl rfl hn rfl (zD rfl rfl) ?_
      refine sq rfl rfl hn rfl (ze rfl bt150 rfl rfl rfl rfl rfl) ?_
      refine sq rfl rfl hn rfl (zD rfl rfl) ?_
      refine stepW (zBy (id := 1080) rfl rfl rfl zDG Tryz.underlying146 (.d rfl) rfl rfl (zEH (by omega) (by omega)) rfl rfl rfl (can_set hm) trivial) fun _ => ?_
      refine zF (zS (zA (zB ?_)))
      refine sq rfl rfl hn rfl (zp rfl rfl rfl (r := ((p + 1 : Nat) : Int)) (i64w (by omega) (by omega))) ?_
      refine sq rfl rfl hn rfl (zD rfl rfl) ?_
      refine zF ?_
      exact zR ⟨p + 1, by omega⟩ ⟨.inl rfl, zK _⟩ ⟨.inl rfl, trivial⟩ (by simp only; omega) (by repeat (first | exact kr _ | refine kc rfl ?_)) (by repeat (first | exact kr _ | refine kc rfl ?_))
     ·
      have hpe : p = 800 := by simp at hb4; omega
      subst hpe
      refine zk (zM (zM (zV (zS (zA (zB ?_))))))
      refine sq rfl rfl hn rfl (zp rfl rfl rfl (r := ((i + 1 : Nat) : Int)) (i64w (by omega) (by omega))) ?_
      refine sq rfl rfl hn rfl (zD rfl rfl) ?_
      refine zF ?_
      exact zR ⟨i + 1, by omega⟩ ⟨.inl rfl, zK _⟩ ⟨.inl (congrArg (fun z => some (mapRes KP b51 z)) can_next), zi _⟩ (by simp only; omega) (by repeat (first | exact kr _ | refine kc rfl ?_)) (by repeat (first | exact kr _ | refine kc rfl ?_))
    ·
     have hie : i = ms.length := by simp at hb3; omega
     subst hie
     refine zk (zM (zM (zV (zA (zC (zB ?_))))))
     refine sq rfl rfl hn rfl (zE rfl rfl) ?_
     refine zF (zA (zC (zC ?_)))
     refine y7 (g_nil (t := 19) (id := 19) 3 1 rfl (nb hn rfl)) ?_
     refine zB ?_
     refine sq rfl rfl hn rfl (zD rfl rfl) ?_
     refine sq rfl rfl hn rfl (zY rfl rfl) ?_
     refine sq rfl rfl hn rfl (zH rfl rfl Tryz.underlying152 rfl sz27) ?_
     refine sq rfl rfl hn rfl (zO rfl rfl (id := 1070) rfl Tryz.underlying27 rfl rfl sees0) ?_
     refine sq rfl rfl hn rfl (yI rfl rfl Tryz.underlying27) ?_
     refine sq rfl rfl hn rfl (zD rfl rfl) ?_
     refine zF (zA (zU ?_))
     refine awp_loop_on (ι := {x : Nat × Value // x.1 ≤ (readI b s).1.length}) (fun y => (76, true, .d (.int .i64 (y.1.1 : Nat))) :: (19, true, .val y.1.2) :: anys [77, 78, 79, 80, 21, 20, 81, 82, 83, 84, 85, 86, 87, 88, 89, 90, 91, 92, 93, 94, 95, 96, 97, 98, 99, 100, 101, 102, 103, 104, 105, 106, 107, 108, 109, 110, 111, 112, 113, 114, 115, 116, 117, 118, 119, 120, 121, 122, 123, 124, 125, 126, 127]) (fun y => (19, .row y.1.2 3 1 ((findL (readI b s).1 ms (minI (readI b s).1) x y.1.1).map intE)) :: gones [21]) (fun y => (readI b s).1.length - y.1.1) ⟨(0, _), Nat.zero_le _⟩ ⟨.inl rfl, .inl rfl, zK _⟩ ⟨.inl rfl, zi _⟩ ?_
     rintro ⟨⟨i, vv⟩, hi⟩
     dsimp only
     dsimp only at hi
     refine zC (zB ?_)
     refine sq rfl rfl hn rfl (yF rfl rfl rfl) ?_
     refine zF (zA (zC ?_))
     refine zN rfl (fun hb5 => ?_) (fun hb5 => ?_)
     ·
      have hil : i < (readI b s).1.length := by simp at hb5; omega
      obtain ⟨p, hp⟩ := zn hil
      obtain ⟨m, hm⟩ := zn (show i < ms.length by omega)
      obtain ⟨r, hr⟩ := zn (show i < (minI (readI b s).1).length by omega)
      have hFe : findF (readI b s).1 ms (minI (readI b s).1) x i = findB p m r x := by unfold findF; rw [zj hp, zj hm, zj hr]
      refine zP (zA (zC (zU (zC (zB ?_)))))
      refine sq rfl rfl hn rfl (zD rfl rfl) ?_
      refine sq rfl rfl hn rfl (q_index (i := i) rfl rfl rfl Tryz.underlying27 sz47 rfl (mget hp)) ?_
      refine sq rfl rfl hn rfl (yM rfl rfl Tryz.underlying47 rfl sz47 rfl rfl seesF0) ?_
      refine stepW (yA 21 rfl rfl rfl (nb hn rfl) zr47 rfl rfl) fun b21 => ?_
      refine sq rfl rfl hn rfl (zE rfl rfl) ?_
      refine stepW (zo rfl rfl rfl rfl rfl rfl (id := 21) rfl sz47 rfl (Nat.le_of_ble_eq_true rfl) rfl trivial) fun _ => ?_
      refine zF (zA (zC ?_))
      have hpr2 : x.price.toNat = pr := by omega
      refine yK (W := fun b => b ≠ b5 ∧ b ≠ b21) fmo ?_
      refine d1q (i := 0) rfl (by kernel_rfl) (fun _ _ _ _ h => h) rfl rfl hn rfl (zH rfl rfl Tryz.underlying47 rfl sz3) ?_
      refine d1q (i := 1) rfl (by kernel_rfl) (fun _ _ _ _ h => h) rfl rfl hn rfl (zO rfl rfl (id := 21) rfl Tryz.underlying3 rfl rfl (seesA (by simp))) ?_
      refine d1q (i := 2) rfl (by kernel_rfl) (fun _ _ _ _ h => h) rfl rfl hn rfl (zH rfl rfl Tryz.underlying61 rfl sz3) ?_
      refine d1q (i := 3) rfl (by kernel_rfl) (fun _ _ _ _ h => h) rfl rfl hn rfl (zO rfl rfl (id := 5) rfl Tryz.underlying3 rfl rfl (seesA (by simp))) ?_
      refine d1q (i := 4) rfl (by kernel_rfl) (fun _ _ _ _ h => h) rfl rfl hn rfl (yD rfl rfl rfl) ?_
      refine d1q (i := 5) rfl (by kernel_rfl) (fun _ _ _ _ h => h) rfl rfl hn rfl (zD rfl rfl) ?_
      refine d1g (i := 6) [] rfl (by kernel_rfl) (fun _ _ _ _ h => h) (zG rfl rfl rfl) rfl hn rfl (fun hc => trivial) (fun hc => zH rfl rfl Tryz.underlying47 rfl sz45) ?_
      refine d1g (i := 7) [(87, _)] rfl (by kernel_rfl) (fun _ _ _ _ h => h) (zG rfl rfl rfl) rfl hn rfl (fun hc => ⟨⟨_, rfl, hc⟩, trivial⟩) (fun hc => zf rfl rfl (id := 21) rfl Tryz.underlying45 rfl sz45 rfl rfl (seesA (by simp))) ?_
      refine d1g (i := 8) [] rfl (by kernel_rfl) (fun _ _ _ _ h => h) (zG rfl rfl rfl) rfl hn rfl (fun hc => trivial) (fun hc => zH rfl rfl Tryz.underlying61 rfl sz3) ?_
      refine d1g (i := 9) [(89, _)] rfl (by kernel_rfl) (fun _ _ _ _ h => h) (zG rfl rfl rfl) rfl hn rfl (fun hc => ⟨⟨_, rfl, hc⟩, trivial⟩) (fun hc => zO rfl rfl (id := 5) rfl Tryz.underlying3 rfl rfl (seesA (by simp))) ?_
      refine zJ ?_
      refine zT (i := 10) (by kernel_rfl) rfl (s_call [(88, _), (90, _)] (fun hc => zFF (p.nlo, p.nhi) x.number) rfl (zG rfl rfl rfl) rfl (nb hn rfl) (fun hc => ⟨⟨_, rfl, hc⟩, ⟨_, rfl, hc⟩, trivial⟩) rfl rfl (.refl _)) fun _ => ?_
      refine d2_of_d1 ?_
      refine d1q (i := 11) rfl (by kernel_rfl) (fun _ _ _ _ h => h) rfl rfl hn rfl (zx rfl rfl rfl (by intro hB; first | (rw [hB]; rfl) | (rw [hB, hc]; rfl) | simp_all)) ?_
      refine d1q (i := 12) rfl (by kernel_rfl) (fun _ _ _ _ h => h) rfl rfl hn rfl (zD rfl rfl) ?_
      refine d1g (i := 13) [] rfl (by kernel_rfl) (fun _ _ _ _ h => h) (zG rfl rfl rfl) rfl hn rfl (fun hc => trivial) (fun hc => zD rfl rfl) ?_
      refine d1g (i := 14) [] rfl (by kernel_rfl) (fun _ _ _ _ h => h) (zG rfl rfl rfl) rfl hn rfl (fun hc => trivial) (fun hc => zD rfl rfl) ?_
      refine d1g (i := 15) [] rfl (by kernel_rfl) (fun _ _ _ _ h => h) (zG rfl rfl rfl) rfl hn rfl (fun hc => trivial) (fun hc => zH rfl rfl Tryz.underlying61 rfl sz3) ?_
      refine d1g (i := 16) [(96, _)] rfl (by kernel_rfl) (fun _ _ _ _ h => h) (zG rfl rfl rfl) rfl hn rfl (fun hc => ⟨⟨_, rfl, hc⟩, trivial⟩) (fun hc => zO rfl rfl (id := 5) rfl Tryz.underlying3 rfl rfl (seesA (by simp))) ?_
      refine d1g (i := 17) [(95, _), (97, _)] rfl (by kernel_rfl) (fun _ _ _ _ h => h) (zG rfl rfl rfl) rfl hn rfl (fun hc => ⟨⟨_, rfl, hc⟩, ⟨_, rfl, hc⟩, trivial⟩) (fun hc => ze rfl bt150 rfl rfl rfl rfl rfl) ?_
      refine zJ ?_
      refine zT (i := 18) (by kernel_rfl) rfl (zD9 [(94, _), (98, _)] (zG rfl rfl rfl) rfl (nb hn rfl) (fun hc => ⟨⟨_, rfl, hc⟩, ⟨_, rfl, hc⟩, trivial⟩) (fun hc => s_lookupK (id := 1080) (zd := (.bool false)) rfl rfl rfl (nb hn rfl) zDG Tryz.underlying146 zr4 rfl (.d rfl) rfl rfl (place_kv2 hpr (by omega) (by omega)) rfl (can_val2 hpr (n := ms.length) hm (by omega) (by omega)))) fun _ => ?_
      refine d2_of_d1 ?_
      refine d1q (i := 19) rfl (by kernel_rfl) (fun _ _ _ _ h => h) rfl rfl hn rfl (zx rfl rfl rfl (by intro hB; first | (rw [hB]; rfl) | (rw [hB, hc]; rfl) | simp_all)) ?_
      refine d1q (i := 20) rfl (by kernel_rfl) (fun _ _ _ _ h => h) rfl rfl hn rfl (zD rfl rfl) ?_
      refine d1g (i := 21) [] rfl (by kernel_rfl) (fun _ _ _ _ h => h) (zG rfl rfl rfl) rfl hn rfl (fun hc => trivial) (fun hc => zD rfl rfl) ?_
      refine d1g (i := 22) [] rfl (by kernel_rfl) (fun _ _ _ _ h => h) (zG rfl rfl rfl) rfl hn rfl (fun hc => trivial) (fun hc => zD rfl rfl) ?_
      refine d1g (i := 23) [(102, _), (103, _)] rfl (by kernel_rfl) (fun _ _ _ _ h => h) (zG rfl rfl rfl) rfl hn rfl (fun hc => ⟨⟨_, rfl, hc⟩, ⟨_, rfl, hc⟩, trivial⟩) (fun hc => q_index (i := i) rfl rfl rfl Tryz.underlying48 sz45 rfl (mget hr)) ?_
      refine d1g (i := 24) [(104, _)] rfl (by kernel_rfl) (fun _ _ _ _ h => h) (zG rfl rfl rfl) rfl hn rfl (fun hc => ⟨⟨_, rfl, hc⟩, trivial⟩) (fun hc => zr rfl rfl Tryz.underlying45 rfl sz3 rfl) ?_
      refine d1g (i := 25) [(105, _)] rfl (by kernel_rfl) (fun _ _ _ _ h => h) (zG rfl rfl rfl) rfl hn rfl (fun hc => ⟨⟨_, rfl, hc⟩, trivial⟩) (fun hc => zz rfl rfl Tryz.underlying3 rfl seesFA) ?_
      refine d1g (i := 26) [] rfl (by kernel_rfl) (fun _ _ _ _ h => h) (zG rfl rfl rfl) rfl hn rfl (fun hc => trivial) (fun hc => zH rfl rfl Tryz.underlying61 rfl sz45) ?_
      refine d1g (i := 27) [(107, _)] rfl (by kernel_rfl) (fun _ _ _ _ h => h) (zG rfl rfl rfl) rfl hn rfl (fun hc => ⟨⟨_, rfl, hc⟩, trivial⟩) (fun hc => zH rfl rfl Tryz.underlying45 rfl sz3) ?_
      refine d1g (i := 28) [(108, _)] rfl (by kernel_rfl) (fun _ _ _ _ h => h) (zG rfl rfl rfl) rfl hn rfl (fun hc => ⟨⟨_, rfl, hc⟩, trivial⟩) (fun hc => zO rfl rfl (id := 5) rfl Tryz.underlying3 rfl rfl (seesA (by simp))) ?_
      refine d1g (i := 29) [(106, _), (109, _)] rfl (by kernel_rfl) (fun _ _ _ _ h => h) (zG rfl rfl rfl) rfl hn rfl (fun hc => ⟨⟨_, rfl, hc⟩, ⟨_, rfl, hc⟩, trivial⟩) (fun hc => yd rfl rfl rfl) ?_
      refine d1q (i := 30) rfl (by kernel_rfl) (fun _ _ _ _ h => h) rfl rfl hn rfl (zx rfl rfl rfl (by intro hB; first | (rw [hB]; rfl) | (rw [hB, hc]; rfl) | simp_all)) ?_
      refine d1q (i := 31) rfl (by kernel_rfl) (fun _ _ _ _ h => h) rfl rfl hn rfl (zD rfl rfl) ?_
      refine d1g (i := 32) [] rfl (by kernel_rfl) (fun _ _ _ _ h => h) (zG rfl rfl rfl) rfl hn rfl (fun hc => trivial) (fun hc => zH rfl rfl Tryz.underlying61 rfl sz45) ?_
      refine d1g (i := 33) [(113, _)] rfl (by kernel_rfl) (fun _ _ _ _ h => h) (zG rfl rfl rfl) rfl hn rfl (fun hc => ⟨⟨_, rfl, hc⟩, trivial⟩) (fun hc => zH rfl rfl Tryz.underlying45 rfl sz3) ?_
      refine d1g (i := 34) [(114, _)] rfl (by kernel_rfl) (fun _ _ _ _ h => h) (zG rfl rfl rfl) rfl hn rfl (fun hc => ⟨⟨_, rfl, hc⟩, trivial⟩) (fun hc => zO rfl rfl (id := 5) rfl Tryz.underlying3 rfl rfl (seesA (by simp))) ?_
      refine d1g (i := 35) [] rfl (by kernel_rfl) (fun _ _ _ _ h => h) (zG rfl rfl rfl) rfl hn rfl (fun hc => trivial) (fun hc => zD rfl rfl) ?_
      refine d1g (i := 36) [] rfl (by kernel_rfl) (fun _ _ _ _ h => h) (zG rfl rfl rfl) rfl hn rfl (fun hc => trivial) (fun hc => zD rfl rfl) ?_
      refine d1g (i := 37) [(116, _), (117, _)] rfl (by kernel_rfl) (fun _ _ _ _ h => h) (zG rfl rfl rfl) rfl hn rfl (fun hc => ⟨⟨_, rfl, hc⟩, ⟨_, rfl, hc⟩, trivial⟩) (fun hc => q_index (i := i) rfl rfl rfl Tryz.underlying48 sz45 rfl (mget hr)) ?_
      refine d1g (i := 38) [(118, _)] rfl (by kernel_rfl) (fun _ _ _ _ h => h) (zG rfl rfl rfl) rfl hn rfl (fun hc => ⟨⟨_, rfl, hc⟩, trivial⟩) (fun hc => zr rfl rfl Tryz.underlying45 rfl sz3 rfl) ?_
      refine d1g (i := 39) [(119, _)] rfl (by kernel_rfl) (fun _ _ _ _ h => h) (zG rfl rfl rfl) rfl hn rfl (fun hc => ⟨⟨_, rfl, hc⟩, trivial⟩) (fun hc => zz rfl rfl Tryz.underlying3 rfl seesFA) ?_
      refine d1g (i := 40) [(115, _), (120, _)] rfl (by kernel_rfl) (fun _ _ _ _ h => h) (zG rfl rfl rfl) rfl hn rfl (fun hc => ⟨⟨_, rfl, hc⟩, ⟨_, rfl, hc⟩, trivial⟩) (fun hc => yd rfl rfl rfl) ?_
      refine d1q (i := 41) rfl (by kernel_rfl) (fun _ _ _ _ h => h) rfl rfl hn rfl (zx rfl rfl rfl (by intro hB; first | (rw [hB]; rfl) | (rw [hB, hc]; rfl) | simp_all)) ?_
      refine zJ ?_
      refine zh (by kernel_rfl) ?_
      refine zA ?_
      refine zN rfl (fun hb6 => ?_) (fun hb6 => ?_)
      ·
       have hF : findF (readI b s).1 ms (minI (readI b s).1) x i = true := by rw [hFe]; unfold findB; rw [hpr2]; exact hb6
       refine zB ?_
       refine sq rfl rfl hn rfl (zD rfl rfl) ?_
       refine sq rfl rfl hn rfl (zD rfl rfl) ?_
       refine stepW (za rfl rfl rfl (nb hn rfl) Tryz.underlying57 sz3 zr3 rfl rfl rfl (show _ = [.d (.int .i64 0)] from by kernel_rfl) (by kernel_rfl) rfl rfl rfl rfl rfl) fun _ => ?_
       refine stepW (s_append (id := 19) rfl rfl rfl (nb hn rfl) elt57 trivial rfl rfl rfl (by have := zCu (sales := (readI b s).1) (ms := ms) (rs := minI (readI b s).1) (x := x) (i := i); simp [chunk]; omega) (by have := zCu (sales := (readI b s).1) (ms := ms) (rs := minI (readI b s).1) (x := x) (i := i); simp [chunk]; omega) (fun b hb => trivial)) fun v126 => ?_
       refine sq rfl rfl hn rfl (zE rfl rfl) ?_
       refine zF (zS (zA (zB ?_)))
       refine sq rfl rfl hn rfl (zp rfl rfl rfl (r := ((i + 1 : Nat) : Int)) (i64w (by omega) (by omega))) ?_
       refine sq rfl rfl hn rfl (zD rfl rfl) ?_
       refine zF ?_
       exact zR ⟨(i + 1, v126), by simp only; omega⟩ ⟨.inl rfl, .inl rfl, zK _⟩ ⟨.inl (congrArg (fun z => some (Res.row v126 3 1 z)) (findL_t hF)), zi _⟩ (by simp only; omega) (by repeat (first | exact kr _ | refine kc rfl ?_)) (by repeat (first | exact kr _ | refine kc rfl ?_))
      ·
       have hF : findF (readI b s).1 ms (minI (readI b s).1) x i = false := by rw [hFe]; unfold findB; rw [hpr2]; exact hb6
       refine zP (zS (zA (zB ?_)))
       refine sq rfl rfl hn rfl (zp rfl rfl rfl (r := ((i + 1 : Nat) : Int)) (i64w (by omega) (by omega))) ?_
       refine sq rfl rfl hn rfl (zD rfl rfl) ?_
       refine zF ?_
       exact zR ⟨(i + 1, vv), by simp only; omega⟩ ⟨.inl rfl, .inl rfl, zK _⟩ ⟨.inl (by rw [← findL_f hF]; rfl), zi _⟩ (by simp only; omega) (by repeat (first | exact kr _ | refine kc rfl ?_)) (by repeat (first | exact kr _ | refine kc rfl ?_))
     ·
      have hie : i = (readI b s).1.length := by simp at hb5; omega
      subst hie
      refine zk (zM (zM (zV (zA (zC (zB ?_))))))
      refine sq rfl rfl hn rfl (zD rfl rfl) ?_
      refine sq rfl rfl hn rfl (zE rfl rfl) ?_
      refine sq rfl rfl hn rfl (zE rfl rfl) ?_
      refine zF (zA (zQ ?_))
      refine kM (g_row (t := 6) (id := 19) rfl rfl) ?_
      exact ret_E (.inl rfl) () (zy rfl (.tmp rfl) (.tmp rfl)) trivial
theorem Find_ok (b : Brd) (s : List UInt8) (x : Slp) (hN : NamesOK b) (h5 : s.length ≤ 4294967000) : PureAt Tryz.prog 27 [brdD b, strD s, .agg (slpE x)] (.tup [ints (findI b s x).1, .int .i64 (findI b s x).2]) := by
  by_cases h0 : (readI b s).2 = 0
  · exact PureAt.of_eff (ds := [brdD b, strD s, .agg (slpE x)]) (Find_ok1 b s hN h5 h0 x)
  · have h1 : ((readI b s).2 != 0) = true := by simpa using h0
    rw [show findI b s x = ([], (readI b s).2) from by unfold findI; rw [h1]; rfl]
    exact PureAt.of_eff (ds := [brdD b, strD s, .agg (slpE x)]) (Find_no b s hN h5 h0 x)
end Go.Proofs.YtplpcamcnppibaaGreatDoor
namespace Go.Proofs.YtplpcamcnppibaaGreatDoor
open Go.RowKit
set_option maxRecDepth 20000
set_option linter.all false
theorem zC7 {Γ : Cx} {P : Program} {σ : St} {o : Oper} {R : Rel} {x y : Operand} {t e : TypeId} {sz b n cap j : Nat} {k : IntKind} {m : Int} (h : o.op = .slice t x none (some y) none) (hx : σ.ev x = some (true, .val (.slice (some ⟨b, 0, none⟩) n cap))) (hy : σ.ev y = some (true, .d (.int k m)))
    (ht : P.underlying t = some (.slice e)) (hz : Sz P e sz) (hm : m = (j : Int)) (hj : j ≤ n) (hc : n ≤ cap) : QV Γ P σ o R (.val (.slice (some ⟨b, 0, none⟩) j cap)) := fun a w F hs => by
  have e1 := hs.ev hx
  have h2 := hs.ev hy
  simp only [TRep, Rep] at e1 h2
  subst hm
  have hjc : j ≤ cap := Nat.le_trans hj hc
  refine ⟨_, rfl, fun w' _ => ?_⟩
  simp [execOp, h, e1, h2, Instr.slice, Instr.sliceAt, run_underlying ht, Instr.sureAddr, Instr.sliceBounds, Instr.sliceBound, asIntOf, kX hz, hj, hjc, yt]
theorem zCo {F : Nat → Nat → Prop} {w : World} : ∀ {cs : List TV} {c : TV} {r : List TV} {vs : List Value}, TReps F w (cs ++ c :: r) vs → TReps F w (cs ++ .any :: r) vs
  | [], _, _, _, ⟨v, vs', e, _, h2⟩ => ⟨v, vs', e, trivial, h2⟩
  | _ :: cs, _, _, _, ⟨v, vs', e, h1, h2⟩ => ⟨v, vs', e, h1, zCo (cs := cs) h2⟩
theorem gh_pop {Γ : Cx} {σ : St} {id b n cap : Nat} {l : List Int} {i : Int} (hr : σ.rget id = some (vecRes 3 (.slice (some ⟨b, 0, none⟩) (n + 1) cap) 1 (intsT (l ++ [i])))) (hn : n + 1 ≤ cap) : Ghost Γ σ (σ.rput id (vecRes 3 (.slice (some ⟨b, 0, none⟩) n cap) 1 (intsT l))) := fun a w F hs => by
  refine ⟨F, ?_, fun _ _ h => h⟩
  have h1 : σ.rget id = some (.box b 3 (intsT l ++ .d (.int .i64 i) :: List.replicate (cap - (n + 1)) .any)) := by
    rw [hr]
    simp [vecRes, intsT, List.map_append]
  have h2 := hs.reread (cs' := intsT l ++ .any :: List.replicate (cap - (n + 1)) .any) h1 fun vs hv => zCo hv
  have e : vecRes 3 (.slice (some ⟨b, 0, none⟩) n cap) 1 (intsT l) = .box b 3 (intsT l ++ .any :: List.replicate (cap - (n + 1)) .any) := by
    show Res.box b 3 (intsT l ++ List.replicate ((cap - n) * 1) .any) = _
    rw [show (cap - n) * 1 = (cap - (n + 1)) + 1 by omega, List.replicate_succ]
  rw [e]
  exact h2
theorem zFG {v : Value} {l : List Int} {b : Nat} (hV : VecV v 1 (intsT l)) (h : v.ownBlock = some b) : (vecRes 3 v 1 (intsT l)).blk = some b := by
  rcases hV with ⟨rfl, _⟩ | ⟨b', n, cap, rfl, _⟩
  · exact h
  · exact h
/-- The first list of many more, from a number on, without which there is a truth. -/
def misS (b : Brd) (sales : List Prt) : Nat → List Int → Nat → Option (List Int)
  | 0, l, _ => bif (levelsI b sales l).isSome then some l else none
  | k + 1, l, f => (List.range' f (sales.length - k - f)).findSome? fun (i : Nat) => misS b sales k (l ++ [(i : Int)]) (i + 1)
def misN (b : Brd) (sales : List Prt) (k : Nat) (l : List Int) (i : Nat) : Option (List Int) := (List.range' i (sales.length - k - i)).findSome? fun (i : Nat) => misS b sales k (l ++ [(i : Int)]) (i + 1)
theorem zBn {b : Brd} {sales : List Prt} {k : Nat} {l : List Int} {i : Nat} (h : i < sales.length - k) : misN b sales k l i = (misS b sales k (l ++ [(i : Int)]) (i + 1)).or (misN b sales k l (i + 1)) := by
  unfold misN
  rw [show sales.length - k - i = (sales.length - k - (i + 1)) + 1 by omega, List.range'_succ, List.findSome?_cons]
  cases misS b sales k (l ++ [(i : Int)]) (i + 1) <;> rfl
theorem zEO {b : Brd} {sales : List Prt} {k : Nat} {l : List Int} {i : Nat} (h : sales.length - k ≤ i) : misN b sales k l i = none := by
  unfold misN
  rw [show sales.length - k - i = 0 by omega]
  rfl
@[reducible] def misCa (b6 b8 : Nat) : List TV := [.val (.pointer (some ⟨b6, 0, none⟩)), .val (.pointer (some ⟨b8, 0, none⟩))]
@[reducible] def misRs (b6 b8 bb : Nat) (b : Brd) (sales : List Prt) (vo : Value) (l : List Int) : List (Nat × Res) := [(1076, .box b6 137 [.val (.pointer (some ⟨bb, 0, none⟩))]), (1078, .box b8 155 [.fn (.func 74) [] (misCa b6 b8)]), (1070, .box bb 152 (bookC b sales vo)), (1072, vecRes 3 vo 1 (intsT l))]
def MisX (b : Brd) (sales : List Prt) (k : Nat) (l : List Int) (f : Nat) : Type := {x : Value × List Int // VecV x.1 1 (intsT x.2) ∧ x.2 = (misS b sales k l f).getD l}
def MisOK (b6 b8 bb : Nat) (b : Brd) (sales : List Prt) (k : Nat) : Prop := ∀ (vo : Value) (l : List Int) (f : Nat), VecV vo 1 (intsT l) → f ≤ 100 → l.length + k ≤ 100 →
  EffAt Tryz.prog 74 (.d (.int .i64 (f : Nat)) :: .d (.int .i64 (k : Nat)) :: misCa b6 b8) (misRs b6 b8 bb b sales vo l) (X := MisX b sales k l f) (fun _ => .d (.bool (misS b sales k l f).isSome)) (fun x => misRs b6 b8 bb b sales x.1.1 x.1.2)
theorem zE3 {v : Value} {cs : List TV} (hV : VecV v 1 cs) : (TV.val v).one = true := by
  rcases hV with ⟨rfl, _⟩ | ⟨b, n, cap, rfl, _⟩ <;> rfl
theorem vec_cons {v : Value} {l : List Int} {i : Int} (hV : VecV v 1 (intsT (l ++ [i]))) : ∃ b cap, v = .slice (some ⟨b, 0, none⟩) (l.length + 1) cap ∧ l.length + 1 ≤ cap ∧ cap ≤ maxLen := by
  rcases hV with ⟨_, h⟩ | ⟨b, n, cap, rfl, h1, h2, h3⟩
  · simp at h
  · have : n = l.length + 1 := by simp at h3; omega
    subst this
    exact ⟨b, cap, rfl, h1, h2⟩
theorem vec_back {b cap : Nat} {l : List Int} (h : l.length + 1 ≤ cap) (hm : cap ≤ maxLen) : VecV (.slice (some ⟨b, 0, none⟩) l.length cap) 1 (intsT l) := .inr ⟨b, l.length, cap, rfl, by omega, hm, by simp⟩
theorem zAg {l : List Int} {i : Int} : intsT l ++ ([[D.int .i64 i]].flatten.map TV.d) = intsT (l ++ [i]) := by simp
theorem sz137 : Sz Tryz.prog 137 1 := (by kernel_rfl : (Tryz.prog.info? 137).map (·.size) = some 1)
theorem sz155 : Sz Tryz.prog 155 1 := (by kernel_rfl : (Tryz.prog.info? 155).map (·.size) = some 1)
theorem zr137 : (Tryz.prog.info? 137).map (·.zero) = some (some (.pointer none)) := by kernel_rfl
theorem zr155 : (Tryz.prog.info? 155).map (·.zero) = some (some .nilFunc) := by kernel_rfl
theorem zEL (b6 b8 bb : Nat) (b : Brd) (sales : List Prt) (v : BrdOK b) (hsl : sales.length ≤ 8) (k : Nat) (ih : ∀ k1, k = k1 + 1 → MisOK b6 b8 bb b sales k1) (vo : Value) (l : List Int) (f : Nat) (hV : VecV vo 1 (intsT l)) (hf : f ≤ 100) (hk : l.length + k ≤ 100) : EffAt Tryz.prog 74 (.d (.int .i64 (f : Nat)) :: .d (.int .i64 (k : Nat)) :: misCa b6 b8) (misRs b6 b8 bb b sales vo l) (X := MisX b sales k l f) (fun _ => .d (.bool (misS b sales k l f).isSome)) (fun x => misRs b6 b8 bb b sales x.1.1 x.1.2) := by
 refine EffAt.of_awp Tryz.func74 rfl (by kernel_rfl) rfl fun Γ hn => ?_
 refine zC (zB ?_)
 refine sq rfl rfl hn rfl (zE rfl rfl) ?_
 refine zF (zA (zC (zC (zB ?_))))
 refine sq rfl rfl hn rfl (zD rfl rfl) ?_
 refine sq rfl rfl hn rfl (yD rfl rfl rfl) ?_
 refine zF (zA ?_)
 refine zN rfl (fun hb0 => ?_) (fun hb0 => ?_)
 ·
  obtain rfl : k = 0 := by simp at hb0; omega
  have hS : misS b sales 0 l f = bif (levelsI b sales l).isSome then some l else none := rfl
  refine zC (zB ?_)
  refine sq rfl rfl hn rfl (zO rfl rfl (id := 1076) rfl Tryz.underlying137 rfl rfl sees0) ?_
  refine stepW (s_callE (zCm bb b sales vo l hV v hsl) rfl rfl rfl (nb hn rfl) (.d rfl) rfl (.refl _) ⟨rfl, rfl, trivial⟩ (fun _ => rfl) (fun _ _ => trivial)) fun _ => ?_
  refine sq rfl rfl hn rfl (zD rfl rfl) ?_
  refine sq rfl rfl hn rfl (zb rfl rfl rfl) ?_
  refine sq rfl rfl hn rfl (zb rfl rfl rfl) ?_
  refine sq rfl rfl hn rfl (zE rfl rfl) ?_
  refine sq rfl rfl hn rfl (zE rfl rfl) ?_
  refine zF (zA (zC (zB ?_)))
  refine sq rfl rfl hn rfl (zD rfl rfl) ?_
  refine sq rfl rfl hn rfl (zE rfl rfl) ?_
  refine zF (zA (zQ (zL ?_)))
  exact ret_E (.inl rfl) ⟨(vo, l), hV, by rw [hS]; cases (levelsI b sales l).isSome <;> rfl⟩ ((yB rfl (.tmp rfl)).eq (by rw [hS]; cases (levelsI b sales l).isSome <;> rfl)) ⟨rfl, rfl, rfl, rfl, trivial⟩
 ·
  obtain ⟨k, rfl⟩ : ∃ k1, k = k1 + 1 := ⟨k - 1, by simp at hb0; omega⟩
  replace ih := ih k rfl
  have hS : misS b sales (k + 1) l f = misN b sales k l f := rfl
  refine zP (zA (zC (zC (zB ?_))))
  refine sq rfl rfl hn rfl (zD rfl rfl) ?_
  refine sq rfl rfl hn rfl (zE rfl rfl) ?_
  refine zF (zA (zU ?_))
  refine awp_loop_on (ι := {x : Nat × Value // f ≤ x.1 ∧ x.1 ≤ 150 ∧ VecV x.2 1 (intsT l) ∧ misN b sales k l f = misN b sales k l x.1}) (fun x => (9, true, .d (.int .i64 (x.1.1 : Nat))) :: anys [19, 20, 21, 22, 23, 24, 25, 26, 27, 30, 31, 32, 33, 34, 35, 36, 37, 38, 39, 40, 41, 42, 43, 44, 45, 46, 47, 48, 49, 50, 51, 52, 53, 54, 55, 56, 57, 58, 59, 28, 29]) (fun x => [(1076, .box b6 137 [.val (.pointer (some ⟨bb, 0, none⟩))]), (1078, .box b8 155 [.fn (.func 74) [] (misCa b6 b8)]), (1070, .box bb 152 (bookC b sales x.1.2)), (1072, vecRes 3 x.1.2 1 (intsT l))]) (fun x => 8 - x.1.1) ⟨(f, vo), Nat.le_refl _, by simp only; omega, hV, rfl⟩ ⟨.inl rfl, zK _⟩ ⟨.inl rfl, .inl rfl, .inl rfl, .inl rfl, trivial⟩ ?_
  rintro ⟨⟨i, v1⟩, hfi, hi, hV1, hmn⟩
  dsimp only
  dsimp only at hfi hi hV1 hmn
  refine zC (zC (zB ?_))
  refine sq rfl rfl hn rfl (zD rfl rfl) ?_
  refine sq rfl rfl hn rfl (zO rfl rfl (id := 1076) rfl Tryz.underlying137 rfl rfl sees0) ?_
  refine sq rfl rfl hn rfl (zY rfl rfl) ?_
  refine sq rfl rfl hn rfl (zH rfl rfl Tryz.underlying152 rfl sz27) ?_
  refine sq rfl rfl hn rfl (zO rfl rfl (id := 1070) rfl Tryz.underlying27 rfl rfl sees0) ?_
  refine sq rfl rfl hn rfl (yI rfl rfl Tryz.underlying27) ?_
  refine sq rfl rfl hn rfl (zD rfl rfl) ?_
  refine sq rfl rfl hn rfl (yP rfl rfl rfl (r := (sales.length : Int) - ((k + 1 : Nat) : Int)) (by rw [List.length_map]; exact i64w (by omega) rfl)) ?_
  refine sq rfl rfl hn rfl (yd rfl rfl rfl) ?_
  refine zF (zA ?_)
  refine zN rfl (fun hb1 => ?_) (fun hb1 => ?_)
  ·
   have hlt : i < sales.length - k := by simp at hb1; omega
   have ih2 := fun v2 hv2 => ih v2 (l ++ [(i : Int)]) (i + 1) hv2 (by omega) (by simp; omega)
   refine zP (zA (zC (zU (zC ?_))))
   refine z7 (e := .normal) (ι := {x : Value // VecV x 1 (intsT (l ++ [(i : Int)]))}) (fun x => anys [30, 31, 32, 33, 34, 35, 36, 37, 38, 39]) (fun x => [(1070, .box bb 152 (bookC b sales x.1)), (1072, vecRes 3 x.1 1 (intsT (l ++ [(i : Int)])))]) (fun hJ2 => ?_) ?_
   ·
    refine yK (W := fun b => b ≠ b6) fmo ?_
    refine d1q (i := 0) rfl (by kernel_rfl) (fun _ _ _ _ h => h) rfl rfl hn rfl (zO rfl rfl (id := 1076) rfl Tryz.underlying137 rfl rfl (seesA (by simp))) ?_
    refine d1q (i := 1) rfl (by kernel_rfl) (fun _ _ _ _ h => h) rfl rfl hn rfl (zO rfl rfl (id := 1076) rfl Tryz.underlying137 rfl rfl (seesA (by simp))) ?_
    refine d1q (i := 2) rfl (by kernel_rfl) (fun _ _ _ _ h => h) rfl rfl hn rfl (zY rfl rfl) ?_
    refine d1q (i := 3) rfl (by kernel_rfl) (fun _ _ _ _ h => h) rfl rfl hn rfl (zH rfl rfl Tryz.underlying152 rfl sz57) ?_
    refine d1q (i := 5) rfl (by kernel_rfl) (fun _ _ _ _ h => h) rfl rfl hn rfl (zD rfl rfl) ?_
    refine zJ ?_
    refine yJ 4 [6] (by kernel_rfl) ⟨?_, ?_, trivial⟩
    ·
     refine br rfl (zZ _ [] (zI rfl) rfl (nb hn rfl) (fun _ => trivial) (fun _ => zO rfl rfl (id := 1070) rfl Tryz.underlying57 rfl rfl sees0)) fun _ => ?_
     refine d2_of_d1 (zJ ?_)
     refine zT (i := 6) (by kernel_rfl) rfl (za rfl rfl rfl (nb hn rfl) Tryz.underlying57 sz3 zr3 rfl rfl rfl (show _ = [.d (.int .i64 0)] from by kernel_rfl) (by kernel_rfl) rfl zBc rfl rfl rfl) fun _ => ?_
     refine d2_of_d1 (zJ ?_)
     refine zW (i := 1072) (j := 1076) rfl rfl rfl (fun hne1072_1076 => ?_)
     refine zT (i := 7) (by kernel_rfl) rfl (zAf (id := 1072) rfl rfl rfl (nb hn rfl) elt57 zr3 rfl hV1 rfl rfl rfl (by simp [chunk]; omega) (by simp [chunk]; omega) (fun b hb => fun e => hne1072_1076 _ (zFG hV1 hb) (congrArg some e.symm))) fun ⟨v2, hV2⟩ => ?_
     refine d2_of_d1 ?_
     refine d1q (i := 8) rfl (by kernel_rfl) (fun _ _ _ _ h => h) rfl rfl hn rfl (zY rfl rfl) ?_
     refine d1q (i := 9) rfl (by kernel_rfl) (fun _ _ _ _ h => h) rfl rfl hn rfl (zH rfl rfl Tryz.underlying152 rfl sz57) ?_
     refine zJ ?_
     refine zW (i := 1070) (j := 1076) rfl rfl rfl (fun hne1070_1076 => ?_)
     refine zT (i := 10) (by kernel_rfl) rfl (s_store1 rfl rfl rfl rfl rfl (zE3 hV2) (id := 1070) rfl sz57 (Nat.le_of_ble_eq_true rfl) rfl (fun e => hne1070_1076 _ rfl (congrArg some e.symm))) fun _ => ?_
     refine d2_of_d1 (zJ ?_)
     refine zh (by kernel_rfl) ?_
     exact aend_join_on hJ2 ⟨v2, by rw [← zAg]; exact hV2⟩ (zK _) ⟨.inl rfl, .inl (congrArg (fun z => some (vecRes 3 v2 1 z)) zAg), trivial⟩ (by repeat (first | exact kr _ | refine kc rfl ?_)) (by repeat (first | exact kr _ | refine kc rfl ?_))
    ·
     refine br rfl (za rfl rfl rfl (nb hn rfl) Tryz.underlying57 sz3 zr3 rfl rfl rfl (show _ = [.d (.int .i64 0)] from by kernel_rfl) (by kernel_rfl) rfl zBc rfl rfl rfl) fun _ => ?_
     refine d2_of_d1 (zJ ?_)
     refine zT (i := 4) (by kernel_rfl) rfl (zZ _ [] (zI rfl) rfl (nb hn rfl) (fun _ => trivial) (fun _ => zO rfl rfl (id := 1070) rfl Tryz.underlying57 rfl rfl sees0)) fun _ => ?_
     refine d2_of_d1 (zJ ?_)
     refine zW (i := 1072) (j := 1076) rfl rfl rfl (fun hne1072_1076 => ?_)
     refine zT (i := 7) (by kernel_rfl) rfl (zAf (id := 1072) rfl rfl rfl (nb hn rfl) elt57 zr3 rfl hV1 rfl rfl rfl (by simp [chunk]; omega) (by simp [chunk]; omega) (fun b hb => fun e => hne1072_1076 _ (zFG hV1 hb) (congrArg some e.symm))) fun ⟨v2, hV2⟩ => ?_
     refine d2_of_d1 ?_
     refine d1q (i := 8) rfl (by kernel_rfl) (fun _ _ _ _ h => h) rfl rfl hn rfl (zY rfl rfl) ?_
     refine d1q (i := 9) rfl (by kernel_rfl) (fun _ _ _ _ h => h) rfl rfl hn rfl (zH rfl rfl Tryz.underlying152 rfl sz57) ?_
     refine zJ ?_
     refine zW (i := 1070) (j := 1076) rfl rfl rfl (fun hne1070_1076 => ?_)
     refine zT (i := 10) (by kernel_rfl) rfl (s_store1 rfl rfl rfl rfl rfl (zE3 hV2) (id := 1070) rfl sz57 (Nat.le_of_ble_eq_true rfl) rfl (fun e => hne1070_1076 _ rfl (congrArg some e.symm))) fun _ => ?_
     refine d2_of_d1 (zJ ?_)
     refine zh (by kernel_rfl) ?_
     exact aend_join_on hJ2 ⟨v2, by rw [← zAg]; exact hV2⟩ (zK _) ⟨.inl rfl, .inl (congrArg (fun z => some (vecRes 3 v2 1 z)) zAg), trivial⟩ (by repeat (first | exact kr _ | refine kc rfl ?_)) (by repeat (first | exact kr _ | refine kc rfl ?_))
   ·
    rintro ⟨v2, hV2⟩
    dsimp only
    refine zA (zC (zC (zB ?_)))
    refine sq rfl rfl hn rfl (zO rfl rfl (id := 1078) rfl Tryz.underlying155 rfl rfl sees0) ?_
    refine sq rfl rfl hn rfl (zD rfl rfl) ?_
    refine sq rfl rfl hn rfl (zp rfl rfl rfl (r := ((i + 1 : Nat) : Int)) (i64w (by omega) rfl)) ?_
    refine sq rfl rfl hn rfl (zD rfl rfl) ?_
    refine sq rfl rfl hn rfl (yP rfl rfl rfl (r := ((k : Nat) : Int)) (i64w (by omega) (by omega))) ?_
    refine stepW (s_callE (ih2 v2 hV2) rfl rfl rfl (nb hn rfl) (.t rfl) rfl (.refl _) ⟨rfl, rfl, rfl, rfl, trivial⟩ (fun _ => rfl) (fun _ _ => trivial)) fun ⟨⟨v3, l3⟩, hV3, hl3⟩ => ?_
    refine zF (zA ?_)
    refine zN rfl (fun hb3 => ?_) (fun hb3 => ?_)
    ·
     obtain ⟨l2, hl2⟩ := Option.isSome_iff_exists.1 hb3
     have hyes : misS b sales (k + 1) l f = some l2 := by rw [hS, hmn, zBn hlt, hl2]; rfl
     rw [hl2] at hl3
     refine zC (zB ?_)
     refine sq rfl rfl hn rfl (zE rfl rfl) ?_
     refine zF (zA (zQ (zL (zX (zL (zL (zX (zL ?_))))))))
     exact ret_E (.inl rfl) ⟨(v3, l3), hV3, by rw [hyes]; exact hl3⟩ ((yB rfl (.tmp rfl)).eq (by rw [hyes]; rfl)) ⟨rfl, rfl, rfl, rfl, trivial⟩
    ·
     have hno : misS b sales k (l ++ [(i : Int)]) (i + 1) = none := by cases h : misS b sales k (l ++ [(i : Int)]) (i + 1) <;> simp_all
     rw [hno] at hl3
     obtain rfl : l3 = l ++ [(i : Int)] := hl3
     obtain ⟨bo, cap, rfl, hcap, hcm⟩ := vec_cons hV3
     refine zP (zA ?_)
     refine y7 (gh_pop (id := 1072) (b := bo) (n := l.length) (cap := cap) (l := l) (i := (i : Int)) rfl hcap) ?_
     refine z7 (e := .normal) (ι := Unit) (fun x => anys [46, 47, 48, 49, 50, 51, 52, 53, 54, 55, 56, 57, 58, 59]) (fun x => [(1070, .box bb 152 (bookC b sales (.slice (some ⟨bo, 0, none⟩) l.length cap)))]) (fun hJ4 => ?_) ?_
     ·
      refine yK (W := fun b => b ≠ b6) fmo ?_
      refine d1q (i := 0) rfl (by kernel_rfl) (fun _ _ _ _ h => h) rfl rfl hn rfl (zO rfl rfl (id := 1076) rfl Tryz.underlying137 rfl rfl (seesA (by simp))) ?_
      refine d1q (i := 1) rfl (by kernel_rfl) (fun _ _ _ _ h => h) rfl rfl hn rfl (zO rfl rfl (id := 1076) rfl Tryz.underlying137 rfl rfl (seesA (by simp))) ?_
      refine d1q (i := 2) rfl (by kernel_rfl) (fun _ _ _ _ h => h) rfl rfl hn rfl (zY rfl rfl) ?_
      refine d1q (i := 3) rfl (by kernel_rfl) (fun _ _ _ _ h => h) rfl rfl hn rfl (zH rfl rfl Tryz.underlying152 rfl sz57) ?_
      refine d1q (i := 5) rfl (by kernel_rfl) (fun _ _ _ _ h => h) rfl rfl hn rfl (zO rfl rfl (id := 1076) rfl Tryz.underlying137 rfl rfl (seesA (by simp))) ?_
      refine d1q (i := 6) rfl (by kernel_rfl) (fun _ _ _ _ h => h) rfl rfl hn rfl (zY rfl rfl) ?_
      refine d1q (i := 7) rfl (by kernel_rfl) (fun _ _ _ _ h => h) rfl rfl hn rfl (zH rfl rfl Tryz.underlying152 rfl sz57) ?_
      refine zJ ?_
      refine yJ 4 [8] (by kernel_rfl) ⟨?_, ?_, trivial⟩
      ·
       refine br rfl (zZ _ [] (zI rfl) rfl (nb hn rfl) (fun _ => trivial) (fun _ => zO rfl rfl (id := 1070) rfl Tryz.underlying57 rfl rfl sees0)) fun _ => ?_
       refine d2_of_d1 (zJ ?_)
       refine zT (i := 8) (by kernel_rfl) rfl (zZ _ [] (zI rfl) rfl (nb hn rfl) (fun _ => trivial) (fun _ => zO rfl rfl (id := 1070) rfl Tryz.underlying57 rfl rfl sees0)) fun _ => ?_
       refine d2_of_d1 ?_
       refine d1q (i := 9) rfl (by kernel_rfl) (fun _ _ _ _ h => h) rfl rfl hn rfl (zBk rfl rfl Tryz.underlying57) ?_
       refine d1q (i := 10) rfl (by kernel_rfl) (fun _ _ _ _ h => h) rfl rfl hn rfl (yP rfl rfl rfl (r := ((l.length : Nat) : Int)) (i64w (by omega) (by omega))) ?_
       refine d1q (i := 11) rfl (by kernel_rfl) (fun _ _ _ _ h => h) rfl rfl hn rfl (zC7 (j := l.length) rfl rfl rfl Tryz.underlying57 sz3 rfl (by omega) hcap) ?_
       refine d1q (i := 12) rfl (by kernel_rfl) (fun _ _ _ _ h => h) rfl rfl hn rfl (zY rfl rfl) ?_
       refine d1q (i := 13) rfl (by kernel_rfl) (fun _ _ _ _ h => h) rfl rfl hn rfl (zH rfl rfl Tryz.underlying152 rfl sz57) ?_
       refine zJ ?_
       refine zW (i := 1070) (j := 1076) rfl rfl rfl (fun hne1070_1076 => ?_)
       refine zT (i := 14) (by kernel_rfl) rfl (s_store1 rfl rfl rfl rfl rfl rfl (id := 1070) rfl sz57 (Nat.le_of_ble_eq_true rfl) rfl (fun e => hne1070_1076 _ rfl (congrArg some e.symm))) fun _ => ?_
       refine d2_of_d1 (zJ ?_)
       refine zh (by kernel_rfl) ?_
       exact aend_join_on hJ4 () (zK _) ⟨.inl rfl, trivial⟩ (by repeat (first | exact kr _ | refine kc rfl ?_)) (by repeat (first | exact kr _ | refine kc rfl ?_))
      ·
       refine br rfl (zZ _ [] (zI rfl) rfl (nb hn rfl) (fun _ => trivial) (fun _ => zO rfl rfl (id := 1070) rfl Tryz.underlying57 rfl rfl sees0)) fun _ => ?_
       refine d2_of_d1 ?_
       refine d1q (i := 9) rfl (by kernel_rfl) (fun _ _ _ _ h => h) rfl rfl hn rfl (zBk rfl rfl Tryz.underlying57) ?_
       refine d1q (i := 10) rfl (by kernel_rfl) (fun _ _ _ _ h => h) rfl rfl hn rfl (yP rfl rfl rfl (r := ((l.length : Nat) : Int)) (i64w (by omega) (by omega))) ?_
       refine zJ ?_
       refine zT (i := 4) (by kernel_rfl) rfl (zZ _ [] (zI rfl) rfl (nb hn rfl) (fun _ => trivial) (fun _ => zO rfl rfl (id := 1070) rfl Tryz.underlying57 rfl rfl sees0)) fun _ => ?_
       refine d2_of_d1 ?_
       refine d1q (i := 11) rfl (by kernel_rfl) (fun _ _ _ _ h => h) rfl rfl hn rfl (zC7 (j := l.length) rfl rfl rfl Tryz.underlying57 sz3 rfl (by omega) hcap) ?_
       refine d1q (i := 12) rfl (by kernel_rfl) (fun _ _ _ _ h => h) rfl rfl hn rfl (zY rfl rfl) ?_
       refine d1q (i := 13) rfl (by kernel_rfl) (fun _ _ _ _ h => h) rfl rfl hn rfl (zH rfl rfl Tryz.underlying152 rfl sz57) ?_
       refine zJ ?_
       refine zW (i := 1070) (j := 1076) rfl rfl rfl (fun hne1070_1076 => ?_)
       refine zT (i := 14) (by kernel_rfl) rfl (s_store1 rfl rfl rfl rfl rfl rfl (id := 1070) rfl sz57 (Nat.le_of_ble_eq_true rfl) rfl (fun e => hne1070_1076 _ rfl (congrArg some e.symm))) fun _ => ?_
       refine d2_of_d1 (zJ ?_)
       refine zh (by kernel_rfl) ?_
       exact aend_join_on hJ4 () (zK _) ⟨.inl rfl, trivial⟩ (by repeat (first | exact kr _ | refine kc rfl ?_)) (by repeat (first | exact kr _ | refine kc rfl ?_))
     ·
      rintro _
      refine zS (zA (zB ?_))
      refine sq rfl rfl hn rfl (zD rfl rfl) ?_
      refine sq rfl rfl hn rfl (zp rfl rfl rfl (r := ((i + 1 : Nat) : Int)) (i64w (by omega) rfl)) ?_
      refine sq rfl rfl hn rfl (zE rfl rfl) ?_
      refine zF ?_
      exact zR ⟨(i + 1, .slice (some ⟨bo, 0, none⟩) l.length cap), by simp only; omega, by simp only; omega, vec_back hcap hcm, by simp only; rw [hmn, zBn hlt, hno]; rfl⟩ ⟨.inl rfl, zK _⟩ ⟨.inl rfl, .inl rfl, .inl rfl, .inl rfl, trivial⟩ (by simp only; omega) (by repeat (first | exact kr _ | refine kc rfl ?_)) (by repeat (first | exact kr _ | refine kc rfl ?_))
  ·
   have hno : misS b sales (k + 1) l f = none := by rw [hS, hmn]; exact zEO (by simp at hb1; omega)
   refine zk (zM (zM (zV (zA (zC (zB ?_))))))
   refine sq rfl rfl hn rfl (zE rfl rfl) ?_
   refine zF (zA (zQ ?_))
   exact ret_E (.inl rfl) ⟨(v1, l), hV1, by rw [hno]; rfl⟩ ((yB rfl (.tmp rfl)).eq (by rw [hno]; rfl)) ⟨rfl, rfl, rfl, rfl, trivial⟩
theorem mis_all (b6 b8 bb : Nat) (b : Brd) (sales : List Prt) (v : BrdOK b) (hsl : sales.length ≤ 8) : ∀ k, MisOK b6 b8 bb b sales k := by
  intro k
  induction k with
  | zero => exact fun vo l f hV hf hk => zEL b6 b8 bb b sales v hsl 0 (fun _ h => by omega) vo l f hV hf hk
  | succ k ih => exact fun vo l f hV hf hk => zEL b6 b8 bb b sales v hsl (k + 1) (fun k1 h => by obtain rfl : k = k1 := (by omega); exact ih) vo l f hV hf hk
theorem zBu {Γ : Cx} {σ : St} {t : Nat} {v : Value} {l : List Int} (id : Nat) (ht : σ.get t = some (true, .val v)) (hr : σ.rget id = some (vecRes 3 v 1 (intsT l))) (hV : VecV v 1 (intsT l)) : Ghost Γ σ ((σ.put t true (.d (ints l))).rput id .gone) := by
  rcases hV with ⟨rfl, h⟩ | ⟨b, n, cap, rfl, h1, h2, h3⟩
  · obtain rfl : l = [] := by simpa using h
    intro a w F hs
    exact ⟨F, (hs.rput (i := id) (r := .gone) trivial fun _ h => h.elim).slot (t := t) (tv := .val (.slice none 0 0)) ht fun v hv => by
      cases hv
      exact ⟨none, 0, rfl, Nat.le_refl _, Nat.zero_le _, .inl rfl⟩, fun _ _ h => h⟩
  · have hn : l.length = n := by simpa using h3
    subst hn
    refine g_freezeVK (n := l.length) (sz := 1) (cap := cap) (ds := l.map fun n => .int .i64 n) (rest := List.replicate ((cap - l.length) * 1) .any) id ht hr (by simp [intsT, List.map_map, Function.comp_def]) (by simp) ?_ h1 h2
    have : ∀ l : List Int, chunk 1 l.length (l.map fun n => D.int .i64 n) = l.map intE := fun l => by
      induction l with
      | nil => rfl
      | cons x l ih => simp [chunk, ih]
    exact this l
def misL (b : Brd) (sales : List Prt) : List Int := ((List.range (sales.length + 1)).findSome? fun k => misS b sales k [] 0).getD []
def misI (b : Brd) (s : List UInt8) : List Int × Int := bif (readI b s).2 != 0 then ([], (readI b s).2) else (misL b (readI b s).1, 0)
theorem misL_none {b : Brd} {sales : List Prt} (h : ∀ k, k < sales.length + 1 → misS b sales k [] 0 = none) : misL b sales = [] := by
  unfold misL
  rw [show ((List.range (sales.length + 1)).findSome? fun k => misS b sales k [] 0) = none from List.findSome?_eq_none_iff.2 fun k hk => h k (List.mem_range.1 hk)]
  rfl
theorem zCv {b : Brd} {sales : List Prt} {m : Nat} {l : List Int} (hm : m < sales.length + 1) (h : ∀ k, k < m → misS b sales k [] 0 = none) (hs : misS b sales m [] 0 = some l) : misL b sales = l := by
  unfold misL
  have e : List.range (sales.length + 1) = List.range m ++ m :: (List.range' (m + 1) (sales.length - m)) := by
    rw [List.range_eq_range', List.range_eq_range', show sales.length + 1 = m + (1 + (sales.length - m)) by omega, ← List.range'_append_1, ← List.range'_append_1]
    simp
  rw [e, List.findSome?_append, show ((List.range m).findSome? fun k => misS b sales k [] 0) = none from List.findSome?_eq_none_iff.2 fun k hk => h k (List.mem_range.1 hk), List.findSome?_cons, hs]
  rfl
theorem Misprints_no (b : Brd) (s : List UInt8) (hN : NamesOK b) (h5 : s.length ≤ 4294967000) (h0 : (readI b s).2 ≠ 0) : EffAt Tryz.prog 34 [.d (brdD b), .d (strD s)] [] (X := Unit) (fun _ => .d (.tup [ints [], .int .i64 (readI b s).2])) (fun _ => []) := by
 refine EffAt.of_awp Tryz.func34 rfl (by kernel_rfl) rfl fun Γ hn => ?_
 refine zC (zB ?_)
 refine stepW (yE 2 rfl rfl rfl (nb hn rfl) rfl rfl) fun b2 => ?_
 refine sq rfl rfl hn rfl (zE rfl rfl) ?_
 refine sq rfl rfl hn rfl (zE rfl rfl) ?_
 refine zF (zA (zDE (zC (zB ?_))))
 refine sq rfl rfl hn rfl (zf rfl rfl (id := 2) rfl Tryz.underlying33 rfl sz33 rfl rfl sees0) ?_
 refine sq rfl rfl hn rfl (zD rfl rfl) ?_
 refine stepW (s_callE (zBC b s hN h5 h0) rfl rfl rfl (nb hn rfl) (.d rfl) rfl (.refl _) trivial (fun _ => rfl) (fun _ _ => trivial)) fun _ => ?_
 refine sq rfl rfl hn rfl (zD rfl rfl) ?_
 refine sq rfl rfl hn rfl (zb rfl rfl rfl) ?_
 refine sq rfl rfl hn rfl (zb rfl rfl rfl) ?_
 refine stepW (yA 6 rfl rfl rfl (nb hn rfl) zr137 rfl rfl) fun b6 => ?_
 refine stepW (s_store1 rfl rfl rfl rfl rfl rfl (id := 6) rfl sz137 (Nat.le_of_ble_eq_true rfl) rfl trivial) fun _ => ?_
 refine sq rfl rfl hn rfl (zE rfl rfl) ?_
 refine zF (zA (zC (zC (zB ?_))))
 refine sq rfl rfl hn rfl (zD rfl rfl) ?_
 refine sq rfl rfl hn rfl (yb rfl rfl rfl) ?_
 refine zF (zA ?_)
 refine zN rfl (fun hb0 => ?_) (fun hb0 => ?_)
 ·
  refine zC (zB ?_)
  refine sq rfl rfl hn rfl (zD rfl rfl) ?_
  refine sq rfl rfl hn rfl (zE rfl rfl) ?_
  refine sq rfl rfl hn rfl (zE rfl rfl) ?_
  refine zF (zA (zQ (zL ?_)))
  refine zAx ?_ (fun _ e => by cases e)
  exact ret_E (.inl rfl) () ((zy rfl (.tmp rfl) (.tmp rfl)).le (.tup (.cons (.nil 1) (.refl _)))) trivial
 ·
  exact absurd hb0 (by simp [h0])
theorem Misprints_ok1 (b : Brd) (s : List UInt8) (hN : NamesOK b) (h5 : s.length ≤ 4294967000) (h0 : (readI b s).2 = 0) : EffAt Tryz.prog 34 [.d (brdD b), .d (strD s)] [] (X := Unit) (fun _ => .d (.tup [ints (misI b s).1, .int .i64 (misI b s).2])) (fun _ => []) := by
 have v := kT h0
 obtain ⟨hpo, hsl⟩ := y4 (b := b) (s := s)
 have hV : VecV (.slice none 0 0) 1 (intsT []) := VecV.nil 1
 refine EffAt.of_awp Tryz.func34 rfl (by kernel_rfl) rfl fun Γ hn => ?_
 refine zC (zB ?_)
 refine stepW (yE 2 rfl rfl rfl (nb hn rfl) rfl rfl) fun b2 => ?_
 refine sq rfl rfl hn rfl (zE rfl rfl) ?_
 refine sq rfl rfl hn rfl (zE rfl rfl) ?_
 refine zF (zA (zDE (zC (zB ?_))))
 refine sq rfl rfl hn rfl (zf rfl rfl (id := 2) rfl Tryz.underlying33 rfl sz33 rfl rfl sees0) ?_
 refine sq rfl rfl hn rfl (zD rfl rfl) ?_
 refine stepW (s_callE (zA2 b s hN h5 h0) rfl rfl rfl (nb hn rfl) (.d rfl) rfl (.refl _) trivial (fun _ => rfl) (fun _ _ => trivial)) fun bb => ?_
 refine sq rfl rfl hn rfl (zD rfl rfl) ?_
 refine sq rfl rfl hn rfl (yi rfl rfl rfl) ?_
 refine sq rfl rfl hn rfl (yi rfl rfl rfl) ?_
 refine stepW (yA 1076 rfl rfl rfl (nb hn rfl) zr137 rfl rfl) fun b6 => ?_
 refine stepW (s_store1 rfl rfl rfl rfl rfl rfl (id := 1076) rfl sz137 (Nat.le_of_ble_eq_true rfl) rfl trivial) fun _ => ?_
 refine sq rfl rfl hn rfl (zE rfl rfl) ?_
 refine zF (zA (zC (zC (zB ?_))))
 refine sq rfl rfl hn rfl (zD rfl rfl) ?_
 refine sq rfl rfl hn rfl (yb rfl rfl rfl) ?_
 refine zF (zA ?_)
 refine zN rfl (fun hb0 => ?_) (fun hb0 => ?_)
 ·
  exact absurd hb0 (by decide)
 ·
  have e1 : misI b s = (misL b (readI b s).1, 0) := by unfold misI; rw [h0]; rfl
  rw [e1]
  refine zP (zA (zC (zB ?_)))
  refine stepW (yA 1078 rfl rfl rfl (nb hn rfl) zr155 rfl rfl) fun b8 => ?_
  refine zF (zA (zC (zB ?_)))
  refine sq rfl rfl hn rfl (zAz rfl rfl rfl) ?_
  refine stepW (s_store1 rfl rfl rfl rfl rfl rfl (id := 1078) rfl sz155 (Nat.le_of_ble_eq_true rfl) rfl trivial) fun _ => ?_
  refine zF (zA (zC (awp_label (zA (zC (zC (zB ?_)))))))
  refine sq rfl rfl hn rfl (zO rfl rfl (id := 1076) rfl Tryz.underlying137 rfl rfl sees0) ?_
  refine sq rfl rfl hn rfl (zY rfl rfl) ?_
  refine sq rfl rfl hn rfl (zH rfl rfl Tryz.underlying152 rfl sz27) ?_
  refine sq rfl rfl hn rfl (zO rfl rfl (id := 1070) rfl Tryz.underlying27 rfl rfl sees0) ?_
  refine sq rfl rfl hn rfl (yI rfl rfl Tryz.underlying27) ?_
  refine sq rfl rfl hn rfl (zp rfl rfl rfl (r := (((readI b s).1.length + 1 : Nat) : Int)) (by rw [List.length_map]; exact i64w (by omega) rfl)) ?_
  refine sq rfl rfl hn rfl (zD rfl rfl) ?_
  refine zF (zA (zU ?_))
  refine awp_loop_on (ι := {x : Nat × Value // x.1 ≤ (readI b s).1.length + 1 ∧ VecV x.2 1 (intsT []) ∧ ∀ k, k < x.1 → misS b (readI b s).1 k [] 0 = none}) (fun x => (26, true, .d (.int .i64 (x.1.1 : Nat))) :: anys [27, 28, 9, 29, 30, 31, 32]) (fun x => [(1076, .box b6 137 [.val (.pointer (some ⟨bb, 0, none⟩))]), (1078, .box b8 155 [.fn (.func 74) [] (misCa b6 b8)]), (1070, .box bb 152 (bookC b (readI b s).1 x.1.2)), (1072, vecRes 3 x.1.2 1 (intsT []))]) (fun x => (readI b s).1.length + 1 - x.1.1) ⟨(0, _), Nat.zero_le _, hV, fun k hk => by omega⟩ ⟨.inl rfl, zK _⟩ ⟨.inl rfl, .inl rfl, .inl rfl, .inl rfl, trivial⟩ ?_
  rintro ⟨⟨m, v1⟩, hm, hV1, hno⟩
  dsimp only
  dsimp only at hm hV1 hno
  refine zC (zB ?_)
  refine sq rfl rfl hn rfl (yF rfl rfl rfl) ?_
  refine zF (zA (zC ?_))
  refine zN rfl (fun hb1 => ?_) (fun hb1 => ?_)
  ·
   have hml : m < (readI b s).1.length + 1 := by simp at hb1; omega
   refine zP (zA (zC (zU (zC (zB ?_)))))
   refine sq rfl rfl hn rfl (zD rfl rfl) ?_
   refine sq rfl rfl hn rfl (zE rfl rfl) ?_
   refine zF (zA (zC (zB ?_)))
   refine sq rfl rfl hn rfl (zO rfl rfl (id := 1078) rfl Tryz.underlying155 rfl rfl sees0) ?_
   refine sq rfl rfl hn rfl (zD rfl rfl) ?_
   refine stepW (s_callE (mis_all b6 b8 bb b (readI b s).1 v hsl m v1 [] 0 hV1 (by omega) (by simp; omega)) rfl rfl rfl (nb hn rfl) (.t rfl) rfl (.refl _) ⟨rfl, rfl, rfl, rfl, trivial⟩ (fun _ => rfl) (fun _ _ => trivial)) fun ⟨⟨v3, l3⟩, hV3, hl3⟩ => ?_
   dsimp only at hV3 hl3
   refine zF (zA ?_)
   refine zN rfl (fun hb2 => ?_) (fun hb2 => ?_)
   ·
    obtain ⟨l2, hl2⟩ := Option.isSome_iff_exists.1 hb2
    rw [hl2] at hl3
    have hl : misL b (readI b s).1 = l3 := (zCv hml hno hl2).trans hl3.symm
    refine zk ?_
    refine aend_block_exit_ne rfl ?_
    refine zM (zM (zV (zA (zC (zB ?_)))))
    refine sq rfl rfl hn rfl (zO rfl rfl (id := 1076) rfl Tryz.underlying137 rfl rfl sees0) ?_
    refine sq rfl rfl hn rfl (zY rfl rfl) ?_
    refine sq rfl rfl hn rfl (zH rfl rfl Tryz.underlying152 rfl sz57) ?_
    refine sq rfl rfl hn rfl (zO rfl rfl (id := 1070) rfl Tryz.underlying57 rfl rfl sees0) ?_
    refine sq rfl rfl hn rfl (zE rfl rfl) ?_
    refine sq rfl rfl hn rfl (zE rfl rfl) ?_
    refine zF (zA (zQ ?_))
    refine zAx ?_ (fun _ e => by cases e)
    refine kM (zBu (t := 4) (l := l3) 1072 rfl rfl hV3) ?_
    exact ret_E (.inl rfl) () ((zy rfl (.tmp rfl) (.tmp rfl)).eq (by rw [hl])) trivial
   ·
    have hnm : misS b (readI b s).1 m [] 0 = none := by cases h : misS b (readI b s).1 m [] 0 <;> simp_all
    rw [hnm] at hl3
    obtain rfl : l3 = [] := hl3
    refine zP (zS (zA (zB ?_)))
    refine sq rfl rfl hn rfl (zp rfl rfl rfl (r := ((m + 1 : Nat) : Int)) (i64w (by omega) (by omega))) ?_
    refine sq rfl rfl hn rfl (zD rfl rfl) ?_
    refine zF ?_
    exact zR ⟨(m + 1, v3), by simp only; omega, hV3, fun k hk => by (by_cases e : k = m; (subst e; exact hnm); exact hno k (by omega))⟩ ⟨.inl rfl, zK _⟩ ⟨.inl rfl, .inl rfl, .inl rfl, .inl rfl, trivial⟩ (by simp only; omega) (by repeat (first | exact kr _ | refine kc rfl ?_)) (by repeat (first | exact kr _ | refine kc rfl ?_))
  ·
   have hme : m = (readI b s).1.length + 1 := by simp at hb1; omega
   have hl : misL b (readI b s).1 = [] := misL_none (by rw [← hme]; exact hno)
   refine zk (zM (zM (zV (zA (zC (zB ?_))))))
   refine sq rfl rfl hn rfl (zO rfl rfl (id := 1076) rfl Tryz.underlying137 rfl rfl sees0) ?_
   refine sq rfl rfl hn rfl (zY rfl rfl) ?_
   refine sq rfl rfl hn rfl (zH rfl rfl Tryz.underlying152 rfl sz57) ?_
   refine sq rfl rfl hn rfl (zO rfl rfl (id := 1070) rfl Tryz.underlying57 rfl rfl sees0) ?_
   refine sq rfl rfl hn rfl (zE rfl rfl) ?_
   refine sq rfl rfl hn rfl (zE rfl rfl) ?_
   refine zF (zA (zQ ?_))
   refine zAx ?_ (fun _ e => by cases e)
   refine kM (zBu (t := 4) (l := []) 1072 rfl rfl hV1) ?_
   exact ret_E (.inl rfl) () ((zy rfl (.tmp rfl) (.tmp rfl)).eq (by rw [hl])) trivial
theorem zA9 (b : Brd) (s : List UInt8) (hN : NamesOK b) (h5 : s.length ≤ 4294967000) : PureAt Tryz.prog 34 [brdD b, strD s] (.tup [ints (misI b s).1, .int .i64 (misI b s).2]) := by
  by_cases h0 : (readI b s).2 = 0
  · exact PureAt.of_eff (ds := [brdD b, strD s]) (Misprints_ok1 b s hN h5 h0)
  · have h1 : ((readI b s).2 != 0) = true := by simpa using h0
    rw [show misI b s = ([], (readI b s).2) from by unfold misI; rw [h1]; rfl]
    exact PureAt.of_eff (ds := [brdD b, strD s]) (Misprints_no b s hN h5 h0)
end Go.Proofs.YtplpcamcnppibaaGreatDoor
