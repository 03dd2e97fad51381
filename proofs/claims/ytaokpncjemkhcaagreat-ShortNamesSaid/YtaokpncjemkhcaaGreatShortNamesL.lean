/-
  A part of the proof that contangolaw.ShortNames returns true: what the last text needs, and no more. No condition: no statement of the seat is proved here.
-/
import Derived.ChangeKeysEq
import Derived.Laws.StructEq
import Derived.Test.YtaokpncjemkhcaaGreatShortNamesK
namespace Go.Proofs.YtaokpncjemkhcaaGreat
open Go.RowKit
set_option linter.all false
set_option maxRecDepth 20000
theorem zCB {F : Nat → Nat → Prop} {w : World} : ∀ {l : List Int} {vs : List Value}, RepVals F w (l.map fun n => D.int .i64 n) vs → vs = l.map fun n => Value.int .i64 n
  | [], _, h => h
  | b :: l, _, ⟨v, vs', e, h1, h2⟩ => by
    subst e
    cases h1
    rw [zCB h2]
    rfl
theorem zBL {P : Program} {e : TypeId} (d : Nat) (he : P.underlying e = some (.int .i64)) (xs ys : List Int) (w : World) : ∀ is : List Nat, (∀ i ∈ is, i < xs.length ∧ i < ys.length) →
    (Op.eqItems (d + 1) e 1 (xs.map (Value.int .i64)).toArray (ys.map (Value.int .i64)).toArray is).run P w = .ok (is.all fun i => xs.getD i 0 == ys.getD i 0) w
  | [], _ => by simp [Op.eqItems]
  | i :: is, h => by
    obtain ⟨hx, hy⟩ := h i List.mem_cons_self
    have px : (part e (xs.map (Value.int .i64)).toArray (i * 1)).run P w = .ok (.int .i64 (xs.getD i 0)) w := by
      simp [part, isAgg, run_underlying he, List.getD, List.getElem?_eq_getElem hx]
    have py : (part e (ys.map (Value.int .i64)).toArray (i * 1)).run P w = .ok (.int .i64 (ys.getD i 0)) w := by
      simp [part, isAgg, run_underlying he, List.getD, List.getElem?_eq_getElem hy]
    simp only [Op.eqItems, Sem.run_bind, px, py, Result.andThen_ok, run_equalIn_int w d e _ _ _ _ he, List.all_cons]
    cases hb : (xs.getD i 0 == ys.getD i 0)
    · simp
    · simp only [Bool.not_true, Bool.false_eq_true, if_false, Bool.true_and]
      exact zBL d he xs ys w is fun j hj => h j (List.mem_cons_of_mem _ hj)
@[reducible] def hand4 (h : List Int) : List Int := [h.getD 0 0, h.getD 1 0, h.getD 2 0, h.getD 3 0]
theorem handE_map (h : List Int) : handE h = (hand4 h).map fun n => D.int .i64 n := rfl
/-- Whether two hands have the same numbers. -/
def eq4B (a b : List Int) : Bool := (List.range 4).all fun i => (hand4 a).getD i 0 == (hand4 b).getD i 0
section
variable {Γ : Cx} {P : Program} {σ : St} {o : Oper} {R : Rel}
theorem q_eqlH {x y : Operand} {t t' e : TypeId} {a b : List Int} (ht : P.underlying t = some (.array 4 e)) (he : P.underlying e = some (.int .i64)) (hi : (P.info? e).isSome = true) (hc : P.cellsOf e = 1) (hG : P.eqGuardType P.depth t = false)
    (h : o.op = .binOp .eql t x y t') (hx : σ.ev x = some (true, .d (handD a))) (hy : σ.ev y = some (true, .d (handD b))) : QV Γ P σ o R (.d (.bool (eq4B a b))) := fun A w F hs => by
  obtain ⟨vs, e1, h1, _⟩ := hs.ev hx
  obtain ⟨us, e2, h2, _⟩ := hs.ev hy
  rw [handE_map] at h1 h2
  obtain rfl := zCB h1
  obtain rfl := zCB h2
  obtain ⟨i, hi⟩ := Option.isSome_iff_exists.1 hi
  refine ⟨.bool (eq4B a b), rfl, fun w' _ => ?_⟩
  have hrun : (binOp .eql t (.agg ((hand4 a).map (Value.int .i64)).toArray) (.agg ((hand4 b).map (Value.int .i64)).toArray)).run P w' = .ok (.bool (eq4B a b)) w' := by
    rw [run_eql_struct, run_equalIn_array w' 9999 _ _ ht hi, hc, zBL 9998 he (hand4 a) (hand4 b) w' (List.range 4) fun i hi => ⟨List.mem_range.1 hi, List.mem_range.1 hi⟩]
    simp only [Result.andThen_ok]
    rfl
  simp only [execOp, h, e1, e2, Sem.run_bind, run_eqGuard_agg w' .eql t x y _ _ hG, Result.andThen_ok, hrun, Sem.run_pure]
end
theorem zDn {N : Nat} (hN : N ≤ 4) : ∀ {a b : List Int}, a.length = N → b.length = N → (hand4 a = hand4 b ↔ a = b) := fun {a b} ha hb => by
  constructor
  · intro h
    simp only [hand4, List.cons.injEq, and_true] at h
    obtain ⟨h0, h1, h2, h3⟩ := h
    apply List.ext_getElem?
    intro i
    by_cases hi : i < N
    · have key : a.getD i 0 = b.getD i 0 := by
        have : i = 0 ∨ i = 1 ∨ i = 2 ∨ i = 3 := by omega
        rcases this with rfl | rfl | rfl | rfl <;> assumption
      rw [List.getD_eq_getElem?_getD, List.getD_eq_getElem?_getD, List.getElem?_eq_getElem (by omega), List.getElem?_eq_getElem (by omega)] at key
      rw [List.getElem?_eq_getElem (by omega), List.getElem?_eq_getElem (by omega)]
      exact congrArg some key
    · rw [List.getElem?_eq_none (by omega), List.getElem?_eq_none (by omega)]
  · rintro rfl; rfl
theorem eq4_iff {a b : List Int} : eq4B a b = true ↔ hand4 a = hand4 b := by
  unfold eq4B
  simp [List.range_succ]
theorem zEW {N : Nat} (hN : N ≤ 4) {a b : List Int} (ha : a.length = N) (hb : b.length = N) : eq4B a b = (a == b) := by
  rw [Bool.eq_iff_iff, eq4_iff, zDn hN ha hb, beq_iff_eq]
end Go.Proofs.YtaokpncjemkhcaaGreat
namespace Go.Proofs.YtaokpncjemkhcaaGreat
open Go.RowKit
set_option maxRecDepth 20000
set_option linter.all false
def waysX (l : Ldg) (N : Nat) : List (List D) := (waysL l.reg N).map fun p => [ints p]
theorem puts_all (l : Ldg) (N : Nat) (hd5 : l.day = (N : Int)) (v : Valid l.reg) (hg0 : l.reg.sights = []) (hN9 : N ≤ 9) {ι : Type} (lq : Nat) (R : ι → Res) (A : Nat → ι → Prop) (B : ι → Prop) (xs : List (List D)) (hy : ∀ j x i, xs[j]? = some x → A j i → YieldE Tryz.prog lq x R i (A (j + 1)) B) (b2 b3 : Nat) : ∀ k, PutsOK l N lq R A B xs b2 b3 k := by
  intro k
  induction k with
  | zero => intro hs j i h1 h2 h3 h4; exact zDv l N hd5 v hg0 hN9 lq R A B xs hy b2 b3 0 (fun k1 h => by omega) hs j i h1 h2 h3 h4
  | succ k ih => intro hs j i h1 h2 h3 h4; exact zDv l N hd5 v hg0 hN9 lq R A B xs hy b2 b3 (k + 1) (fun k1 h => by obtain rfl : k = k1 := (by omega); exact ih) hs j i h1 h2 h3 h4
def anyH (hs : List (List Int)) (h : List Int) : Bool := hs.any fun x => eq4B h x
theorem idx_nonneg {α : Type} {p : α → Bool} {l : List α} : decide (0 ≤ idxOf p l) = l.any p := yU
theorem sz199 : Sz Tryz.prog 199 1 := (by kernel_rfl : (Tryz.prog.info? 199).map (·.size) = some 1)
theorem zr199 : (Tryz.prog.info? 199).map (·.zero) = some (some .nilFunc) := by kernel_rfl
theorem places1_ok (l : Ldg) (N : Nat) (hd5 : l.day = (N : Int)) (v : Valid l.reg) (hg0 : l.reg.sights = []) (hN9 : N ≤ 9) : SeqAt Tryz.prog 138 [.ptr (ldgC l)] (waysX l N) := by
 refine ⟨kZ (fn := Tryz.f138) (by kernel_rfl) rfl rfl, fun ι lq R A B hy i0 hA0 => EffAt.of_awp Tryz.func138 rfl (by kernel_rfl) rfl fun Γ hn => zCJ.1 ?_⟩
 refine zz (zj ?_)
 refine stepWI ((zr 1031 rfl rfl rfl (nb hn rfl) rfl rfl).i rfl) fun b2 => ?_
 refine zu (zi (zz (zj ?_)))
 refine stepWI ((zh 1032 rfl rfl rfl (nb hn rfl) zr199 rfl rfl).i rfl) fun b3 => ?_
 refine zu (zi (zz (zj ?_)))
 refine sqI rfl rfl hn rfl (kQ rfl rfl rfl) rfl ?_
 refine stepWI ((s_store1 rfl rfl rfl rfl rfl rfl (id := 1032) rfl sz199 (Nat.le_of_ble_eq_true rfl) rfl trivial).i rfl) fun _ => ?_
 refine zu (zi (zj ?_))
 refine sqI rfl rfl hn rfl (zQ rfl rfl (id := 1032) rfl Tryz.underlying199 rfl rfl sees0) rfl ?_
 refine stepWI ((s_callE (puts_all l N hd5 v hg0 hN9 lq R A B (waysX l N) hy b2 b3 l.reg.start.length [] 0 i0 (by simp) (fun x hx => by cases hx) ⟨[], [], by simp [waysX, waysL], rfl⟩ hA0) rfl rfl rfl (nb hn rfl) (.t rfl) rfl (by first | exact .refl _ | (repeat (first | exact .refl _ | exact .d (.nil _) | exact .nil _ | refine .cons ?_ ?_ | refine .d ?_ | refine .agg ?_ | refine .tup ?_))) ⟨rfl, rfl, rfl, trivial⟩ (fun _ => rfl) (fun _ _ => trivial)).i rfl) fun ⟨⟨by2, i2⟩, hq1, hq0⟩ => ?_
 refine zu ?_
 exact ret_E (.inr rfl) ⟨i2, by rw [Nat.zero_add] at hq1; cases by2 with | true => exact .inl (by simpa [waysX, waysL] using hq1 rfl) | false => exact .inr (hq0 rfl)⟩ (kX rfl) ⟨rfl, trivial⟩
theorem places_fn (l : Ldg) : PureAt Tryz.prog 120 [ldgD l] (.fn (.func 138) [] [.ptr (ldgC l)]) := by
 refine PureAt.of_awp Tryz.func120 rfl (by kernel_rfl) (Nat.le_of_ble_eq_true rfl) fun Γ hn hl => ?_
 refine zC (zB ?_)
 refine stepW (zr 1 rfl rfl rfl (nb hn rfl) rfl rfl) fun b1 => ?_
 refine sq rfl rfl hn rfl (zF rfl rfl) ?_
 refine zE (zA (zC ?_))
 refine zx (zn (t := 1) 1 rfl (nb hn rfl) rfl rfl trivial) ?_
 refine zB ?_
 refine sq rfl rfl hn rfl (yE rfl rfl rfl) ?_
 refine sq rfl rfl hn rfl (zF rfl rfl) ?_
 refine zE (zA (zO ?_))
 exact zt (.inl rfl) hl rfl (.tmp rfl)
theorem Index_hand (hs : List (List Int)) (h : List Int) : PureAt Tryz.prog 142 [handsD hs, handD h] (.int .i64 (idxOf (fun x => eq4B h x) hs)) := by
 refine PureAt.of_awp' Tryz.func142 rfl (by kernel_rfl) rfl fun hlen Γ hn hl => ?_
 have hl5 := hlen.1; simp only [List.length_map] at hl5
 refine zC (zB ?_)
 refine stepW (zr 3 rfl rfl rfl (nb hn rfl) rfl rfl) fun b3 => ?_
 refine sq rfl rfl hn rfl (zF rfl rfl) ?_
 refine zE (zA (zC (zC (zB ?_))))
 refine sq rfl rfl hn rfl (zG rfl rfl) ?_
 refine sq rfl rfl hn rfl (z7 rfl rfl Tryz.underlying116) ?_
 refine sq rfl rfl hn rfl (zG rfl rfl) ?_
 refine zE (zA (zV ?_))
 refine awp_loop_on (ι := { i : Nat // i ≤ hs.length ∧ (hs.take i).all (fun x => !(eq4B h x)) = true }) (fun i => (8, true, .d (.int .i64 (i.1 : Int))) :: anys [9, 10, 5, 11, 12, 13, 14, 15, 16, 18]) (fun i => []) (fun i => hs.length - i.1) ⟨0, by simp⟩ ⟨.inl rfl, zJ _⟩ trivial ?_
 rintro ⟨i, hi, hall⟩
 dsimp only
 refine zC (zB ?_)
 refine sq rfl rfl hn rfl (yJ rfl rfl rfl) ?_
 refine zE (zA (zC ?_))
 refine zS rfl (fun hb0 => ?_) (fun hb0 => ?_)
 ·
  have hlt : i < hs.length := by simpa using hb0
  obtain ⟨x, hx⟩ := z2 hlt
  refine zU (zA (zC (zV (zC (zB ?_)))))
  refine sq rfl rfl hn rfl (zG rfl rfl) ?_
  refine sq rfl rfl hn rfl (zF rfl rfl) ?_
  refine zE (zA (zC ?_))
  refine yC (W := fun b => b ≠ b3) fmo ?_
  refine d1q (i := 0) rfl (by kernel_rfl) (fun _ _ _ _ h => h) rfl rfl hn rfl (zY rfl rfl (id := 3) rfl Tryz.underlying121 rfl sz121 rfl rfl (seesA (by simp))) ?_
  refine d1q (i := 1) rfl (by kernel_rfl) (fun _ _ _ _ h => h) rfl rfl hn rfl (zG rfl rfl) ?_
  refine d1q (i := 2) rfl (by kernel_rfl) (fun _ _ _ _ h => h) rfl rfl hn rfl (zG rfl rfl) ?_
  refine d1q (i := 3) rfl (by kernel_rfl) (fun _ _ _ _ h => h) rfl rfl hn rfl (q_index (i := i) rfl rfl rfl Tryz.underlying116 sz121 rfl (mget hx)) ?_
  refine d1q (i := 4) rfl (by kernel_rfl) (fun _ _ _ _ h => h) rfl rfl hn rfl (ze rfl rfl Tryz.underlying121 rfl sz121 rfl rfl seesFA) ?_
  refine d1q (i := 5) rfl (by kernel_rfl) (fun _ _ _ _ h => h) rfl rfl hn rfl (q_eqlH Tryz.underlying121 Tryz.underlying3 (by kernel_rfl) (by kernel_rfl) (by kernel_rfl) rfl rfl rfl) ?_
  refine zM ?_
  refine zv (by kernel_rfl) ?_
  refine zA ?_
  refine zS rfl (fun hb1 => ?_) (fun hb1 => ?_)
  ·
   have hnt : eq4B h x = true := hb1
   refine zC (zB ?_)
   refine sq rfl rfl hn rfl (zG rfl rfl) ?_
   refine sq rfl rfl hn rfl (zF rfl rfl) ?_
   refine zE (zA (zO (zf (zL (zL (zf (zL ?_)))))))
   refine zp (zt (.inl rfl) hl rfl (.tmp rfl)) ?_
   rw [yu hx hall hnt]
  ·
   have hnf : eq4B h x = false := hb1
   refine zU (za (zA (zB ?_)))
   refine sq rfl rfl hn rfl (z6 rfl rfl rfl (r := ((i + 1 : Nat) : Int)) (i64w (by omega) (by omega))) ?_
   refine sq rfl rfl hn rfl (zG rfl rfl) ?_
   refine zE ?_
   exact zZ ⟨i + 1, by omega, yN hx hall (by rw [hnf]; rfl)⟩ ⟨.inl rfl, zJ _⟩ trivial (by simp only; omega) (by repeat (first | exact kr _ | refine kc rfl ?_)) (by repeat (first | exact kr _ | refine kc rfl ?_))
 ·
  have hi2 : i = hs.length := by simp only [List.length_map, decide_eq_false_iff_not] at hb0; omega
  refine zw (zK (zK (zW (zA (zC (zB ?_))))))
  refine sq rfl rfl hn rfl (zF rfl rfl) ?_
  refine zE (zA (zO ?_))
  refine zp (zt (.inl rfl) hl rfl (.tmp rfl)) ?_
  subst hi2; rw [List.take_length] at hall; rw [ye hall]
theorem Contains_hand (hs : List (List Int)) (h : List Int) : PureAt Tryz.prog 121 [handsD hs, handD h] (.bool (anyH hs h)) := by
 refine PureAt.of_awp Tryz.func121 rfl (by kernel_rfl) (Nat.le_of_ble_eq_true rfl) fun Γ hn hl => ?_
 refine zC (zB ?_)
 refine stepW (zr 3 rfl rfl rfl (nb hn rfl) rfl rfl) fun b3 => ?_
 refine sq rfl rfl hn rfl (zF rfl rfl) ?_
 refine zE (zA (zC (zB ?_)))
 refine sq rfl rfl hn rfl (zG rfl rfl) ?_
 refine sq rfl rfl hn rfl (zY rfl rfl (id := 3) rfl Tryz.underlying121 rfl sz121 rfl rfl sees0) ?_
 refine stepW (s_call [] (fun _ => Index_hand hs h) rfl (zI rfl) rfl (nb hn rfl) (fun _ => trivial) rfl rfl (.refl _)) fun _ => ?_
 refine sq rfl rfl hn rfl (zCP rfl rfl rfl) ?_
 refine sq rfl rfl hn rfl (zF rfl rfl) ?_
 refine zE (zA (zO ?_))
 refine zp (zt (.inl rfl) hl rfl (.tmp rfl)) ?_
 rw [idx_nonneg]; rfl
end Go.Proofs.YtaokpncjemkhcaaGreat
