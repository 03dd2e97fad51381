/-
  A part of the proof that contangolaw.TapeLeft returns true: what the last text needs, and no more. No condition: no statement of the seat is proved here.
-/
import Derived.Test.YtplpcamcnppibaaGreatDoorTapeLeftM
namespace Go.Proofs.YtplpcamcnppibaaGreatDoor
open Go.RowKit
set_option maxRecDepth 20000
set_option linter.all false
set_option maxHeartbeats 4000000
@[reducible] def salT (l : List Sal) : List TV := (l.map salE).flatten.map .d
theorem zA7 {l : List Sal} : ∀ r ∈ l.map salE, r.length = 4 := fun r h => by
  obtain ⟨x, _, rfl⟩ := List.mem_map.1 h; rfl
theorem yc {l : List Sal} : (salT l).length = l.length * 4 := by rw [List.length_map, kh zA7, List.length_map]
theorem salT_add {l : List Sal} {s : Sal} : salT l ++ ([salE s].flatten.map TV.d) = salT (l ++ [s]) := by simp [salT]
theorem zFl {v : Value} {l : List Sal} (hV : VecV v 4 (salT l)) : ∃ ad cap, v = .slice ad l.length cap := by
  rcases hV with ⟨rfl, h⟩ | ⟨b, n, cap, rfl, h1, h2, h3⟩
  · have := yc (l := l)
    rw [h] at this
    simp at this
    exact ⟨none, 0, by rw [show l.length = 0 by omega]⟩
  · rw [yc] at h3
    exact ⟨_, cap, by rw [show n = l.length by omega]⟩
theorem salv_cons {v : Value} {l : List Sal} (hV : VecV v 4 (salT l)) (h : 0 < l.length) : ∃ b cap, v = .slice (some ⟨b, 0, none⟩) l.length cap ∧ l.length ≤ cap ∧ cap ≤ maxLen := by
  rcases hV with ⟨_, h1⟩ | ⟨b, n, cap, rfl, h1, h2, h3⟩
  · have := yc (l := l)
    rw [h1] at this
    simp at this
    omega
  · rw [yc] at h3
    have : n = l.length := by omega
    subst this
    exact ⟨b, cap, rfl, h1, h2⟩
theorem zFc {Γ : Cx} {P : Program} {σ : St} {o : Oper} {R : Rel} {x : Operand} {t e : TypeId} {v : Value} {n : Nat} (h : o.op = .call { callee := .builtin .len, args := #[x], argTypes := #[t] }) (hx : σ.ev x = some (true, .val v)) (ht : P.underlying t = some (.slice e)) (hv : ∃ ad cap, v = .slice ad n cap) : QV Γ P σ o R (.d (.int .i64 (n : Nat))) := fun a w F hs => by
  have h1 := hs.ev hx
  simp only [TRep] at h1
  obtain ⟨ad, cap, rfl⟩ := hv
  exact ⟨.int .i64 (n : Int), rfl, fun w' _ => by simp [execOp, h, h1, resolve, invoke, builtin, Builtin.len_, goInt, run_underlying ht]⟩
theorem g_freezeRows {Γ : Cx} {σ : St} {t : Nat} {v : Value} {rows : List (List D)} {k : Nat} {e : TypeId} (id : Nat) (ht : σ.get t = some (true, .val v)) (hr : σ.rget id = some (vecRes e v k (rows.flatten.map .d))) (hk : ∀ r ∈ rows, r.length = k) (h0 : 0 < k) (hV : VecV v k (rows.flatten.map .d)) : Ghost Γ σ ((σ.put t true (.d (.slice k rows))).rput id .gone) := by
  rcases hV with ⟨rfl, h⟩ | ⟨b, n, cap, rfl, h1, h2, h3⟩
  · have hl := kh hk
    have h' := congrArg List.length h
    rw [List.length_map, hl] at h'
    have hz : rows = [] := by
      apply List.eq_nil_of_length_eq_zero
      have h4 : rows.length * k = 0 := by simpa using h'
      rcases Nat.mul_eq_zero.1 h4 with h5 | h5
      · exact h5
      · omega
    subst hz
    intro a w F hs
    exact ⟨F, (hs.rput (i := id) (r := .gone) trivial fun _ h => h.elim).slot (t := t) (tv := .val (.slice none 0 0)) ht fun v hv => by
      cases hv
      exact ⟨none, 0, rfl, Nat.le_refl _, Nat.zero_le _, .inl rfl⟩, fun _ _ h => h⟩
  · rw [List.length_map, kh hk] at h3
    have hn : n = rows.length := (Nat.eq_of_mul_eq_mul_right h0 h3).symm
    subst hn
    exact g_freezeVK (n := rows.length) (sz := k) (cap := cap) (ds := rows.flatten) (rest := List.replicate ((cap - rows.length) * k) .any) id ht hr rfl (kh hk) (zAP hk) h1 h2
theorem zFY {l : List Sal} {r : List TV} {i : Nat} {s : Sal} (h : l[i]? = some s) : (salT l ++ r)[0 + i * 4 + 2]? = some (.d (.int .i64 s.price)) := by
  have hi := (List.getElem?_eq_some_iff.1 h).1
  rw [List.getElem?_append_left (by rw [yc]; omega), Nat.zero_add, List.getElem?_map, zCJ (r := salE s) zA7 (by rw [List.getElem?_map, h]; rfl) (by omega)]; rfl
theorem zFE {l : List Sal} {r : List TV} {i : Nat} {s : Sal} {x : Int} (h : l[i]? = some s) : (salT l ++ r).set (0 + i * 4 + 2) (.d (.int .i64 x)) = salT (l.set i { s with price := x }) ++ r := by
  have hi := (List.getElem?_eq_some_iff.1 h).1
  have h1 := zDa (j := 2) (c := D.int .i64 x) zA7 (show (l.map salE)[i]? = some (salE s) by rw [List.getElem?_map, h]; rfl) (by omega)
  rw [Nat.zero_add, List.set_append_left _ _ (by rw [yc]; omega)]
  congr 1
  show ((l.map salE).flatten.map TV.d).set (i * 4 + 2) (TV.d (.int .i64 x)) = _
  rw [← List.map_set, h1]
  show _ = ((l.set i { s with price := x }).map salE).flatten.map TV.d
  rw [List.map_set]; rfl
def lfP (ws : List Int) (i : Nat) (p : Int) : Int := 1 + (p + 7 * ((wrd ws i : Nat) : Int)).tmod 799
def lfN (ws : List Int) (wr : Nat) (l : List Sal) : Nat → List Sal
  | 0 => l
  | i + 1 => bif wr.testBit i then (lfN ws wr l i).set i { (lfN ws wr l i).getD i sal0 with price := lfP ws i ((lfN ws wr l i).getD i sal0).price } else lfN ws wr l i
theorem kj {ws : List Int} {wr : Nat} {l : List Sal} : ∀ i, (lfN ws wr l i).length = l.length
  | 0 => rfl
  | i + 1 => by
    unfold lfN
    cases wr.testBit i
    · exact kj i
    · rw [cond_true, List.length_set]; exact kj i
theorem zFu {ws : List Int} {i : Nat} {p : Int} (h : 1 ≤ p) : 1 ≤ lfP ws i p ∧ lfP ws i p ≤ 799 := by
  unfold lfP
  rw [Int.tmod_eq_emod_of_nonneg (by omega)]
  have h1 := Int.emod_nonneg (p + 7 * ((wrd ws i : Nat) : Int)) (show (799 : Int) ≠ 0 by omega)
  have h2 := Int.emod_lt_of_pos (p + 7 * ((wrd ws i : Nat) : Int)) (show (0 : Int) < 799 by omega)
  omega
theorem zDF {b : Brd} {x : Int} (hx : 1 ≤ x ∧ x ≤ 799) : ∀ {l : List Sal} {bm : Int} {i : Nat} {s : Sal}, okAll b l bm = true → l[i]? = some s → okAll b (l.set i { s with price := x }) bm = true
  | y :: l, bm, 0, s, h, hs => by
    simp at hs; subst hs
    unfold okAll at h
    rw [Bool.and_eq_true] at h
    obtain ⟨a1, a2, a3, a4⟩ := yj.1 h.1
    show (okSal b { y with price := x } bm && okAll b l y.minute) = true
    rw [h.2, Bool.and_true]
    exact yj.2 ⟨a1, a2, hx, a4⟩
  | y :: l, bm, i + 1, s, h, hs => by
    unfold okAll at h
    rw [Bool.and_eq_true] at h
    show (okSal b y bm && okAll b (l.set i { s with price := x }) y.minute) = true
    rw [h.1, zDF hx h.2 (by simpa using hs)]; rfl
  | [], _, _, _, _, hs => by simp at hs
theorem zEo {b : Brd} {ws : List Int} {wr : Nat} {l : List Sal} (h : okAll b l 0 = true) : ∀ i, i ≤ l.length → okAll b (lfN ws wr l i) 0 = true
  | 0, _ => h
  | i + 1, hi => by
    have ih := zEo (ws := ws) (wr := wr) h i (by omega)
    unfold lfN
    cases wr.testBit i
    · exact ih
    · obtain ⟨s, hs⟩ := zn (show i < (lfN ws wr l i).length by rw [kj]; omega)
      rw [cond_true, zj hs]
      exact zDF (zFu (zD2 ih hs).2.2.1.1) ih hs
theorem or_bits {a c : Nat} (ha : a < 4294967296) (hc : c < 4294967296) : Go.bits .or .i64 (a : Int) (c : Int) = ((a ||| c : Nat) : Int) := by
  have h1 : (BitVec.ofInt 64 (a : Int) ||| BitVec.ofInt 64 (c : Int)).toNat = a ||| c := by
    rw [BitVec.ofInt_natCast, BitVec.ofInt_natCast, BitVec.toNat_or, BitVec.toNat_ofNat, BitVec.toNat_ofNat, Nat.mod_eq_of_lt (by omega), Nat.mod_eq_of_lt (by omega)]
  have h2 : a ||| c < 2 ^ 32 := Nat.or_lt_two_pow ha hc
  show IntKind.i64.wrap (((BitVec.ofInt 64 (a : Int) ||| BitVec.ofInt 64 (c : Int)).toNat : Nat) : Int) = _
  rw [h1]
  exact i64w (by omega) rfl
def orL : List Int → Nat
  | [] => 0
  | x :: r => orL r ||| 2 ^ x.toNat
theorem zFS {x : Int} : ∀ {l : List Int}, orL (l ++ [x]) = orL l ||| 2 ^ x.toNat
  | [] => rfl
  | y :: l => by show orL (l ++ [x]) ||| 2 ^ y.toNat = (orL l ||| 2 ^ y.toNat) ||| 2 ^ x.toNat; rw [zFS, Nat.or_assoc, Nat.or_assoc, Nat.or_comm (2 ^ x.toNat)]
theorem zE5 {i : Nat} : ∀ {l : List Int}, (∀ x ∈ l, 0 ≤ x) → ((orL l).testBit i = true ↔ (i : Int) ∈ l)
  | [], _ => by simp [orL]
  | x :: l, h => by
    have hx := h x List.mem_cons_self
    show ((orL l ||| 2 ^ x.toNat).testBit i = true ↔ _)
    rw [Nat.testBit_or, Nat.testBit_two_pow, Bool.or_eq_true, decide_eq_true_eq, zE5 fun y hy => h y (List.mem_cons_of_mem _ hy), List.mem_cons]
    constructor
    · rintro (h | h)
      · exact .inr h
      · left; omega
    · rintro (h | h)
      · right; omega
      · exact .inl h
theorem zF1 {n : Nat} : ∀ {l : List Int}, (∀ x ∈ l, 0 ≤ x ∧ x < (n : Int)) → orL l < 2 ^ n
  | [], _ => Nat.two_pow_pos n
  | x :: l, h => by
    have hx := h x List.mem_cons_self
    exact Nat.or_lt_two_pow (zF1 fun y hy => h y (List.mem_cons_of_mem _ hy)) (Nat.pow_lt_pow_right (by decide) (by omega))
theorem orL_bits {o n : Nat} (ho : o < 2 ^ n) (hn : n ≤ 16) : orL (bitsI o) = o := by
  have hr := zBD ho hn
  have hm := fun x hx => hr.mem x hx
  apply Nat.eq_of_testBit_eq
  intro i
  rw [Bool.eq_iff_iff, zE5 fun x hx => (hm x hx).1]
  unfold bitsI
  rw [zDc]
  constructor
  · rintro ⟨j, e, _, h⟩
    obtain rfl : i = j := by omega
    exact h
  · intro h
    refine ⟨i, rfl, ?_, h⟩
    rcases Nat.lt_or_ge i 16 with h1 | h1
    · exact h1
    · rw [Nat.testBit_lt_two_pow (Nat.lt_of_lt_of_le ho (Nat.pow_le_pow_right (by decide) (by omega)))] at h; cases h
theorem zDy {n : Int} : ∀ {l : List Int} {f : Int} {i : Nat} {x y : Int}, RisI n f l → l[i]? = some x → l[i + 1]? = some y → x < y
  | a :: l, f, 0, x, y, ⟨h1, h2, h3⟩, hx, hy => by
    simp at hx hy
    subst hx
    have := h3.mem y (List.mem_of_getElem? (i := 0) (by simpa using hy)); omega
  | a :: l, f, i + 1, x, y, ⟨h1, h2, h3⟩, hx, hy => zDy h3 (by simpa using hx) (by simpa using hy)
  | [], _, _, _, _, _, hx, _ => by simp at hx
theorem ris_prev {n : Int} {l : List Int} {i : Nat} {x y : Int} (h : RisI n 0 l) (hi : 0 < i) (hx : l[i - 1]? = some x) (hy : l[i]? = some y) : x < y := zDy h hx (by rwa [show i - 1 + 1 = i by omega])
structure LeftL (b : Brd) (l : List Sal) (S : List UInt8) (R : List Prt) (M : List Int) : Prop where
  rd : readI b S = (R, 0)
  rl : R.length = l.length
  mi : misI b S = (M, 0)
  ri : RisI (l.length : Int) 0 M
  is : (firstAll b R (orL M)).isSome = true
  no : ∀ o, o < 2 ^ l.length → (firstAll b R o).isSome = true → lessB (bitsI o) M = false
theorem left_law {b : Brd} {l : List Sal} (h0 : checkT b = 0) (h8 : l.length ≤ 8) (hok : okAll b l 0 = true) : ∃ R M, LeftL b l (pdS b l (-1) 0) R M := by
  have v := y2 h0
  have hr := pd_read (f := -1) (x := 0) h0 h8 hok (.inl rfl)
  rw [zFn] at hr
  have hpo := (y4 (b := b) (s := pdS b l (-1) 0)).1
  rw [hr] at hpo
  dsimp only at hpo
  have hbl := (pdB_says (b := b) hok).1
  obtain ⟨r1, r2, r3⟩ := misL_least v hpo (by omega)
  rw [hbl] at r1 r3
  obtain ⟨o, ho, eo⟩ := ris_is (by omega) r1
  refine ⟨pdB l, misL b (pdB l), hr, hbl, ?_, r1, ?_, fun q hq hqs => ?_⟩
  · unfold misI; rw [hr]; rfl
  · rw [eo, orL_bits ho (by omega), ← zB6 v hpo (by omega), ← eo]; exact r2
  · exact r3 _ (zBD hq (by omega)) (by rw [zB6 v hpo (by omega)]; exact hqs)
theorem zDL {b : Brd} {ws : List Int} {i : Nat} : salT (soldN b ws i).out ++ ([salE ⟨(soK b ws i : Nat), soN ws i, soP b ws i (soldN b ws i).now, (soM ws i (soldN b ws i).minute : Nat)⟩].flatten.map TV.d) = salT (soldN b ws (i + 1)).out := salT_add
theorem Sold_vec (b : Brd) (ws : List Int) (v : BrdOK b) (hw : WdsOK ws) : EffAt Tryz.prog 45 [.d (brdD b), .d (wdsD ws)] [] (X := {v : Value // VecV v 4 (salT (soldL b ws))}) (fun v => .val v.1) (fun v => [(1098, vecRes 91 v.1 4 (salT (soldL b ws)))]) := by
 have hn1 := v.n1
 have hn4 := v.n4
 have hj0 := v.j0
 have hj4 := v.j4
 refine EffAt.of_awp Tryz.func45 rfl (by kernel_rfl) rfl fun Γ hn => ?_
 refine zC (zB ?_)
 refine stepW (yE 2 rfl rfl rfl (nb hn rfl) rfl rfl) fun b2 => ?_
 refine sq rfl rfl hn rfl (zE rfl rfl) ?_
 refine zF (zA (zC (zB ?_)))
 refine sq rfl rfl hn rfl (zE rfl rfl) ?_
 refine zF (zA (zC (zB ?_)))
 refine sq rfl rfl hn rfl (zH rfl rfl Tryz.underlying24 rfl sz22) ?_
 refine sq rfl rfl hn rfl (zO rfl rfl (id := 2) rfl Tryz.underlying22 rfl rfl sees0) ?_
 refine sq rfl rfl hn rfl (yI rfl rfl Tryz.underlying22) ?_
 refine stepW (ki (n := b.stocks.length) 18 rfl rfl rfl (nb hn rfl) Tryz.underlying57 (show _ = some (some (.int .i64 0), 1, 8) from by kernel_rfl) rfl rfl rfl (by decide) rfl rfl (by rw [List.length_map]) (by rw [List.length_map]) (by omega) (by omega) (by omega)) fun b18 => ?_
 refine sq rfl rfl hn rfl (zE rfl rfl) ?_
 refine zF (zA (zC (zC (zB ?_))))
 refine sq rfl rfl hn rfl (zE rfl rfl) ?_
 refine zF (zA (zU ?_))
 refine awp_loop_on (ι := {i : Nat // i ≤ b.stocks.length}) (fun x => (7, true, .d (.int .i64 (x.1 : Nat))) :: anys [19, 20, 21, 22, 25, 26, 27, 28, 29, 30, 8, 31, 32, 33, 34, 35, 36, 37, 38, 39, 40, 41, 42, 43, 44, 45, 46, 23, 24]) (fun x => (18, .box b18 3 (intsT (now0 b ws x.1))) :: gones [8]) (fun x => b.stocks.length - x.1) ⟨0, Nat.zero_le _⟩ ⟨.inl rfl, zK _⟩ ⟨.inl (congrArg (fun z => some (Res.box b18 3 z)) (ints_zero _)), zi _⟩ ?_
 rintro ⟨i, hi⟩
 dsimp only
 refine zC (zC (zB ?_))
 refine sq rfl rfl hn rfl (zD rfl rfl) ?_
 refine sq rfl rfl hn rfl (zD rfl rfl) ?_
 refine sq rfl rfl hn rfl (zBk rfl rfl Tryz.underlying57) ?_
 refine sq rfl rfl hn rfl (yF rfl rfl rfl) ?_
 refine zF (zA ?_)
 refine zN rfl (fun hb0 => ?_) (fun hb0 => ?_)
 ·
  have hil : i < b.stocks.length := by simp at hb0; omega
  obtain ⟨st, hst⟩ := zn hil
  have hbd := zEl (ws := ws) v hil
  have hst0 : st0 b ws i = st.lo + ((wrd ws i % sd b i : Nat) : Int) := by unfold st0; rw [zj hst]
  have hwl := zDr hw i
  rw [zj hst] at hbd
  have hsd : 0 < sd b i := by omega
  have hml := Nat.mod_lt (wrd ws i) hsd
  refine zP (zA (zC (zU (zC (zB ?_)))))
  refine sq rfl rfl hn rfl (zH rfl rfl Tryz.underlying24 rfl sz22) ?_
  refine sq rfl rfl hn rfl (zO rfl rfl (id := 2) rfl Tryz.underlying22 rfl rfl sees0) ?_
  refine sq rfl rfl hn rfl (zD rfl rfl) ?_
  refine sq rfl rfl hn rfl (q_index (i := i) rfl rfl rfl Tryz.underlying22 sz98 rfl (mget hst)) ?_
  refine sq rfl rfl hn rfl (zr rfl rfl Tryz.underlying98 rfl sz41 rfl) ?_
  refine sq rfl rfl hn rfl (yM rfl rfl Tryz.underlying41 rfl sz41 rfl rfl seesF0) ?_
  refine stepW (yA 8 rfl rfl rfl (nb hn rfl) zr41 rfl rfl) fun b8 => ?_
  refine stepW (zo rfl rfl rfl rfl rfl rfl (id := 8) rfl sz41 rfl (Nat.le_of_ble_eq_true rfl) rfl trivial) fun _ => ?_
  refine zF (zA ?_)
  refine yK (W := fun b => b ≠ b8) fmo ?_
  refine d1q (i := 0) rfl (by kernel_rfl) (fun _ _ _ _ h => h) rfl rfl hn rfl (zD rfl rfl) ?_
  refine d1q (i := 1) rfl (by kernel_rfl) (fun _ _ _ _ h => h) rfl rfl hn rfl (zD rfl rfl) ?_
  refine d1q (i := 2) rfl (by kernel_rfl) (fun _ _ _ _ h => h) rfl rfl hn rfl (zH rfl rfl Tryz.underlying41 rfl sz3) ?_
  refine d1q (i := 3) rfl (by kernel_rfl) (fun _ _ _ _ h => h) rfl rfl hn rfl (zO rfl rfl (id := 8) rfl Tryz.underlying3 rfl rfl (seesA (by simp))) ?_
  refine d1q (i := 4) rfl (by kernel_rfl) (fun _ _ _ _ h => h) rfl rfl hn rfl (zD rfl rfl) ?_
  refine d1q (i := 5) rfl (by kernel_rfl) (fun _ _ _ _ h => h) rfl rfl hn rfl (zD rfl rfl) ?_
  refine d1q (i := 7) rfl (by kernel_rfl) (fun _ _ _ _ h => h) rfl rfl hn rfl (zH rfl rfl Tryz.underlying41 rfl sz3) ?_
  refine d1q (i := 8) rfl (by kernel_rfl) (fun _ _ _ _ h => h) rfl rfl hn rfl (zO rfl rfl (id := 8) rfl Tryz.underlying3 rfl rfl (seesA (by simp))) ?_
  refine d1q (i := 9) rfl (by kernel_rfl) (fun _ _ _ _ h => h) rfl rfl hn rfl (zH rfl rfl Tryz.underlying41 rfl sz3) ?_
  refine d1q (i := 10) rfl (by kernel_rfl) (fun _ _ _ _ h => h) rfl rfl hn rfl (zO rfl rfl (id := 8) rfl Tryz.underlying3 rfl rfl (seesA (by simp))) ?_
  refine d1q (i := 11) rfl (by kernel_rfl) (fun _ _ _ _ h => h) rfl rfl hn rfl (yP rfl rfl rfl (r := st.hi - st.lo) (i64w (by omega) rfl)) ?_
  refine d1q (i := 12) rfl (by kernel_rfl) (fun _ _ _ _ h => h) rfl rfl hn rfl (zp rfl rfl rfl (r := ((sd b i : Nat) : Int)) (by rw [hbd.2.2.2.2]; exact i64w (by omega) rfl)) ?_
  refine zJ ?_
  refine zT (i := 6) (by kernel_rfl) rfl (s_call [] (fun _ => zAj ws i hw) rfl (zI rfl) rfl (nb hn rfl) (fun _ => trivial) rfl rfl (.refl _)) fun _ => ?_
  refine d2_of_d1 ?_
  refine d1q (i := 13) rfl (by kernel_rfl) (fun _ _ _ _ h => h) rfl rfl hn rfl (yp rfl rfl rfl (r := ((wrd ws i % sd b i : Nat) : Int)) (by omega) (modN (a := wrd ws i) (b := sd b i) hsd)) ?_
  refine d1q (i := 14) rfl (by kernel_rfl) (fun _ _ _ _ h => h) rfl rfl hn rfl (zp rfl rfl rfl (r := st0 b ws i) (by rw [← hst0]; exact i64w (by omega) rfl)) ?_
  refine d1q (i := 15) rfl (by kernel_rfl) (fun _ _ _ _ h => h) rfl rfl hn rfl (q_indexV (i := i) rfl rfl rfl Tryz.underlying57 sz3 rfl (by omega)) ?_
  refine zJ ?_
  refine zW (i := 18) (j := 8) rfl rfl rfl (fun hne18_8 => ?_)
  refine zT (i := 16) (by kernel_rfl) rfl (s_store1 rfl rfl rfl rfl rfl rfl (id := 18) rfl sz3 (by rw [zED, zD1 hi]; omega) zD6 (fun e => hne18_8 _ rfl (congrArg some e.symm))) fun _ => ?_
  refine d2_of_d1 (zJ ?_)
  refine zh (by kernel_rfl) ?_
  refine zS (zA (zB ?_))
  refine sq rfl rfl hn rfl (zD rfl rfl) ?_
  refine sq rfl rfl hn rfl (zp rfl rfl rfl (r := ((i + 1 : Nat) : Int)) (i64w (by omega) (by omega))) ?_
  refine sq rfl rfl hn rfl (zE rfl rfl) ?_
  refine zF ?_
  exact zR ⟨i + 1, by omega⟩ ⟨.inl rfl, zK _⟩ ⟨.inl (congrArg (fun z => some (Res.box b18 3 (intsT z))) (now0_set hil)), zi _⟩ (by simp only; omega) (by repeat (first | exact kr _ | refine kc rfl ?_)) (by repeat (first | exact kr _ | refine kc rfl ?_))
 ·
  obtain rfl : i = b.stocks.length := by simp at hb0; omega
  refine zk (zM (zM (zV (zA (zC (zB ?_))))))
  refine sq rfl rfl hn rfl (zE rfl rfl) ?_
  refine zF (zA (zC (zC ?_)))
  refine y7 (g_nilV (t := 5) 1098 rfl) ?_
  refine zB ?_
  refine sq rfl rfl hn rfl (zE rfl rfl) ?_
  refine zF (zA (zU ?_))
  refine awp_loop_on (ι := {x : Nat × Value // x.1 ≤ wrd ws 5 % 8 ∧ VecV x.2 4 (salT (soldN b ws x.1).out)}) (fun x => (10, true, .d (.int .i64 (x.1.1 : Nat))) :: (9, true, .d (.int .i64 ((soldN b ws x.1.1).minute : Nat))) :: (5, true, .val x.1.2) :: anys [47, 48, 49, 50, 51, 54, 55, 56, 57, 58, 59, 60, 61, 62, 63, 11, 12, 64, 65, 66, 67, 68, 13, 69, 70, 71, 72, 73, 74, 75, 76, 77, 78, 79, 80, 81, 82, 83, 84, 85, 86, 87, 88, 89, 90, 91, 92, 93, 94, 95, 96, 97, 98, 99, 100, 14, 101, 102, 103, 104, 105, 106, 107, 108, 109, 110, 111, 112, 52, 53]) (fun x => (18, .box b18 3 (intsT (soldN b ws x.1.1).now)) :: (1098, vecRes 91 x.1.2 4 (salT (soldN b ws x.1.1).out)) :: gones [14]) (fun x => wrd ws 5 % 8 - x.1.1) ⟨(0, .slice none 0 0), Nat.zero_le _, VecV.nil 4⟩ ⟨.inl rfl, .inl rfl, .inl rfl, zK _⟩ ⟨.inl rfl, .inl rfl, zi _⟩ ?_
  rintro ⟨⟨i, vv⟩, hi, hV⟩
  dsimp only
  dsimp only at hi hV
  have hso := zB3 (ws := ws) v i
  have hm8 := Nat.mod_lt (wrd ws 5) (show 0 < 8 by omega)
  refine zC (zC (zB ?_))
  refine sq rfl rfl hn rfl (zD rfl rfl) ?_
  refine sq rfl rfl hn rfl (zD rfl rfl) ?_
  refine stepW (s_call [] (fun _ => zAj ws 5 hw) rfl (zI rfl) rfl (nb hn rfl) (fun _ => trivial) rfl rfl (.refl _)) fun _ => ?_
  refine sq rfl rfl hn rfl (yp rfl rfl rfl (r := ((wrd ws 5 % 8 : Nat) : Int)) (by omega) (modN (a := wrd ws 5) (b := 8) (by omega))) ?_
  refine sq rfl rfl hn rfl (yF rfl rfl rfl) ?_
  refine zF (zA ?_)
  refine zN rfl (fun hb1 => ?_) (fun hb1 => ?_)
  ·
   have hil : i < wrd ws 5 % 8 := by simp at hb1; omega
   have hkl := zFx (ws := ws) v i
   obtain ⟨pn, hpn⟩ := zn (show soK b ws i < (soldN b ws i).now.length by rw [hso.n]; exact hkl)
   have hpb := hso.p pn (List.mem_of_getElem? hpn)
   have hmm := hso.m
   have hwl := zDr hw (2 * i + 6)
   have hvl := zDr hw (2 * i + 7)
   have hpe : soP b ws i (soldN b ws i).now = max 1 (min 799 (pn + (wrd ws (2 * i + 7) : Int).tmod (2 * b.jump + 1) - b.jump)) := by unfold soP; rw [zj hpn]
   have hnl : ((soldN b ws i).now.length : Int) = (b.stocks.length : Nat) := by rw [hso.n]
   have htm : 0 ≤ (wrd ws (2 * i + 7) : Int).tmod (2 * b.jump + 1) ∧ (wrd ws (2 * i + 7) : Int).tmod (2 * b.jump + 1) ≤ 80 := by rw [Int.tmod_eq_emod_of_nonneg (by omega)]; have h1 := Int.emod_nonneg ((wrd ws (2 * i + 7) : Nat) : Int) (show 2 * b.jump + 1 ≠ 0 by omega); have h2 := Int.emod_lt_of_pos ((wrd ws (2 * i + 7) : Nat) : Int) (show 0 < 2 * b.jump + 1 by omega); omega
   have hpb2 : 1 ≤ soP b ws i (soldN b ws i).now ∧ soP b ws i (soldN b ws i).now ≤ 799 := by rw [hpe]; omega
   have hpn2 : ((soldN b ws i).now.set (soK b ws i) (soP b ws i (soldN b ws i).now))[soK b ws i]? = some (soP b ws i (soldN b ws i).now) := by rw [List.getElem?_set, if_pos rfl, if_pos (by rw [hso.n]; exact hkl)]
   have hol := hso.o
   refine zP (zA (zC (zU (zC (zB ?_)))))
   refine sq rfl rfl hn rfl (zD rfl rfl) ?_
   refine sq rfl rfl hn rfl (zD rfl rfl) ?_
   refine sq rfl rfl hn rfl (zAm rfl rfl rfl (r := ((2 * i : Nat) : Int)) (i64w (by omega) (by omega))) ?_
   refine sq rfl rfl hn rfl (zp rfl rfl rfl (r := ((2 * i + 6 : Nat) : Int)) (i64w (by omega) (by omega))) ?_
   refine stepW (s_call [] (fun _ => zAj ws (2 * i + 6) hw) rfl (zI rfl) rfl (nb hn rfl) (fun _ => trivial) rfl rfl (.refl _)) fun _ => ?_
   refine sq rfl rfl hn rfl (zD rfl rfl) ?_
   refine sq rfl rfl hn rfl (zD rfl rfl) ?_
   refine sq rfl rfl hn rfl (zAm rfl rfl rfl (r := ((2 * i : Nat) : Int)) (i64w (by omega) (by omega))) ?_
   refine sq rfl rfl hn rfl (zp rfl rfl rfl (r := ((2 * i + 7 : Nat) : Int)) (i64w (by omega) (by omega))) ?_
   refine stepW (s_call [] (fun _ => zAj ws (2 * i + 7) hw) rfl (zI rfl) rfl (nb hn rfl) (fun _ => trivial) rfl rfl (.refl _)) fun _ => ?_
   refine sq rfl rfl hn rfl (zE rfl rfl) ?_
   refine sq rfl rfl hn rfl (zE rfl rfl) ?_
   refine zF (zA (zC (zB ?_)))
   refine sq rfl rfl hn rfl (zD rfl rfl) ?_
   refine sq rfl rfl hn rfl (zCN rfl rfl rfl (r := ((wrd ws (2 * i + 6) / 8 : Nat) : Int)) (by omega) (quoN (a := wrd ws (2 * i + 6)) (b := 8) (by omega) (by omega))) ?_
   refine sq rfl rfl hn rfl (zD rfl rfl) ?_
   refine sq rfl rfl hn rfl (zBk rfl rfl Tryz.underlying57) ?_
   refine sq rfl rfl hn rfl (yp rfl rfl rfl (r := ((soK b ws i : Nat) : Int)) (by omega) (modN (a := wrd ws (2 * i + 6) / 8) (b := b.stocks.length) (by omega))) ?_
   refine sq rfl rfl hn rfl (zE rfl rfl) ?_
   refine zF (zA (zC ?_))
   refine yK (W := fun b => b ≠ b2) fmo ?_
   refine d1q (i := 0) rfl (by kernel_rfl) (fun _ _ _ _ h => h) rfl rfl hn rfl (zD rfl rfl) ?_
   refine d1q (i := 1) rfl (by kernel_rfl) (fun _ _ _ _ h => h) rfl rfl hn rfl (zD rfl rfl) ?_
   refine d1q (i := 2) rfl (by kernel_rfl) (fun _ _ _ _ h => h) rfl rfl hn rfl (zD rfl rfl) ?_
   refine d1q (i := 3) rfl (by kernel_rfl) (fun _ _ _ _ h => h) rfl rfl hn rfl (zD rfl rfl) ?_
   refine d1q (i := 4) rfl (by kernel_rfl) (fun _ _ _ _ h => h) rfl rfl hn rfl (q_indexV (i := soK b ws i) rfl rfl rfl Tryz.underlying57 sz3 rfl (by omega)) ?_
   refine d1q (i := 6) rfl (by kernel_rfl) (fun _ _ _ _ h => h) rfl rfl hn rfl (zD rfl rfl) ?_
   refine d1q (i := 7) rfl (by kernel_rfl) (fun _ _ _ _ h => h) rfl rfl hn rfl (zH rfl rfl Tryz.underlying24 rfl sz3) ?_
   refine d1q (i := 8) rfl (by kernel_rfl) (fun _ _ _ _ h => h) rfl rfl hn rfl (zO rfl rfl (id := 2) rfl Tryz.underlying3 rfl rfl (seesA (by simp))) ?_
   refine d1q (i := 9) rfl (by kernel_rfl) (fun _ _ _ _ h => h) rfl rfl hn rfl (zAm rfl rfl rfl (r := 2 * b.jump) (i64w (by omega) rfl)) ?_
   refine d1q (i := 10) rfl (by kernel_rfl) (fun _ _ _ _ h => h) rfl rfl hn rfl (zp rfl rfl rfl (r := 2 * b.jump + 1) (i64w (by omega) rfl)) ?_
   refine d1q (i := 11) rfl (by kernel_rfl) (fun _ _ _ _ h => h) rfl rfl hn rfl (yp rfl rfl rfl (by omega) rfl) ?_
   refine d1q (i := 13) rfl (by kernel_rfl) (fun _ _ _ _ h => h) rfl rfl hn rfl (zH rfl rfl Tryz.underlying24 rfl sz3) ?_
   refine d1q (i := 14) rfl (by kernel_rfl) (fun _ _ _ _ h => h) rfl rfl hn rfl (zO rfl rfl (id := 2) rfl Tryz.underlying3 rfl rfl (seesA (by simp))) ?_
   refine zJ ?_
   refine zT (i := 5) (by kernel_rfl) rfl (zZ _ [] (zI rfl) rfl (nb hn rfl) (fun _ => trivial) (fun _ => zO rfl rfl (id := 18) rfl Tryz.underlying3 rfl (zEe hpn) sees0)) fun _ => ?_
   refine d2_of_d1 ?_
   refine d1q (i := 12) rfl (by kernel_rfl) (fun _ _ _ _ h => h) rfl rfl hn rfl (zp rfl rfl rfl (r := pn + (wrd ws (2 * i + 7) : Int).tmod (2 * b.jump + 1)) (i64w (by omega) rfl)) ?_
   refine d1q (i := 15) rfl (by kernel_rfl) (fun _ _ _ _ h => h) rfl rfl hn rfl (yP rfl rfl rfl (r := pn + (wrd ws (2 * i + 7) : Int).tmod (2 * b.jump + 1) - b.jump) (i64w (by omega) rfl)) ?_
   refine d1q (i := 16) rfl (by kernel_rfl) (fun _ _ _ _ h => h) rfl rfl hn rfl (zFy rfl rfl rfl) ?_
   refine d1q (i := 17) rfl (by kernel_rfl) (fun _ _ _ _ h => h) rfl rfl hn rfl (zBA rfl rfl rfl) ?_
   refine d1q (i := 18) rfl (by kernel_rfl) (fun _ _ _ _ h => h) rfl rfl hn rfl (q_indexV (i := soK b ws i) rfl rfl rfl Tryz.underlying57 sz3 rfl (by omega)) ?_
   refine zJ ?_
   refine zW (i := 18) (j := 2) rfl rfl rfl (fun hne18_2 => ?_)
   refine zT (i := 19) (by kernel_rfl) rfl (s_store1 rfl rfl rfl rfl rfl rfl (id := 18) rfl sz3 (by rw [zED, hso.n]; omega) (show (intsT (soldN b ws i).now).set (0 + soK b ws i * 1) (.d (.int .i64 (max 1 (min 799 (pn + (wrd ws (2 * i + 7) : Int).tmod (2 * b.jump + 1) - b.jump))))) = intsT ((soldN b ws i).now.set (soK b ws i) (soP b ws i (soldN b ws i).now)) from by rw [← hpe]; exact zD6) (fun e => hne18_2 _ rfl (congrArg some e.symm))) fun _ => ?_
   refine d2_of_d1 (zJ ?_)
   refine zh (by kernel_rfl) ?_
   refine zA (zC ?_)
   have hmin : min (600 : Int) (((soldN b ws i).minute + wrd ws (2 * i + 7) / 128 % 4 : Nat) : Int) = ((soM ws i (soldN b ws i).minute : Nat) : Int) := by unfold soM; omega
   refine zB ?_
   refine sq rfl rfl hn rfl (zD rfl rfl) ?_
   refine sq rfl rfl hn rfl (zD rfl rfl) ?_
   refine sq rfl rfl hn rfl (zCN rfl rfl rfl (r := ((wrd ws (2 * i + 7) / 128 : Nat) : Int)) (by omega) (quoN (a := wrd ws (2 * i + 7)) (b := 128) (by omega) (by omega))) ?_
   refine sq rfl rfl hn rfl (yp rfl rfl rfl (r := ((wrd ws (2 * i + 7) / 128 % 4 : Nat) : Int)) (by omega) (modN (a := wrd ws (2 * i + 7) / 128) (b := 4) (by omega))) ?_
   refine sq rfl rfl hn rfl (zp rfl rfl rfl (r := (((soldN b ws i).minute + wrd ws (2 * i + 7) / 128 % 4 : Nat) : Int)) (i64w (by omega) (by omega))) ?_
   refine sq rfl rfl hn rfl (zFy rfl rfl rfl) ?_
   refine sq rfl rfl hn rfl (zE rfl rfl) ?_
   refine zF (zA (zC ?_))
   rw [hmin]
   refine zB ?_
   refine sq rfl rfl hn rfl (zD rfl rfl) ?_
   refine sq rfl rfl hn rfl (zD rfl rfl) ?_
   refine sq rfl rfl hn rfl (zD rfl rfl) ?_
   refine sq rfl rfl hn rfl (q_indexV (i := soK b ws i) rfl rfl rfl Tryz.underlying57 sz3 rfl (by omega)) ?_
   refine sq rfl rfl hn rfl (zO rfl rfl (id := 18) rfl Tryz.underlying3 rfl (zEe hpn2) sees0) ?_
   refine sq rfl rfl hn rfl (zD rfl rfl) ?_
   refine sq rfl rfl hn rfl (ze rfl bt91 rfl rfl rfl rfl rfl) ?_
   refine stepW (yA 14 rfl rfl rfl (nb hn rfl) zr91 rfl rfl) fun b14 => ?_
   refine stepW (zo rfl rfl rfl rfl rfl rfl (id := 14) rfl sz91 rfl (Nat.le_of_ble_eq_true rfl) rfl trivial) fun _ => ?_
   refine zF (zA (zC (zC (zB ?_))))
   refine sq rfl rfl hn rfl (zD rfl rfl) ?_
   refine sq rfl rfl hn rfl (yp rfl rfl rfl (r := ((wrd ws (2 * i + 6) % 4 : Nat) : Int)) (by omega) (modN (a := wrd ws (2 * i + 6)) (b := 4) (by omega))) ?_
   refine sq rfl rfl hn rfl (yD rfl rfl rfl) ?_
   refine zF (zA ?_)
   refine z7 (e := .normal) (ι := Unit) (fun u0 => anys [104, 105, 106, 107, 108]) (fun u0 => [(14, .box b14 91 ((salE ⟨(soK b ws i : Nat), soN ws i, soP b ws i (soldN b ws i).now, (soM ws i (soldN b ws i).minute : Nat)⟩).map .d))]) (fun hJ2 => ?_) ?_
   ·
    refine zN rfl (fun hb2 => ?_) (fun hb2 => ?_)
    ·
     have q2 : (wrd ws (2 * i + 6) % 4 == 0) = true := by have h := hb2; rw [beq_iff_eq] at h ⊢; omega
     have e2 : ((1 + wrd ws (2 * i + 6) / 64 % 99 : Nat) : Int) = soN ws i := by unfold soN; rw [q2]; rfl
     refine zB ?_
     refine sq rfl rfl hn rfl (zD rfl rfl) ?_
     refine sq rfl rfl hn rfl (zCN rfl rfl rfl (r := ((wrd ws (2 * i + 6) / 64 : Nat) : Int)) (by omega) (quoN (a := wrd ws (2 * i + 6)) (b := 64) (by omega) (by omega))) ?_
     refine sq rfl rfl hn rfl (yp rfl rfl rfl (r := ((wrd ws (2 * i + 6) / 64 % 99 : Nat) : Int)) (by omega) (modN (a := wrd ws (2 * i + 6) / 64) (b := 99) (by omega))) ?_
     refine sq rfl rfl hn rfl (zp rfl rfl rfl (r := ((1 + wrd ws (2 * i + 6) / 64 % 99 : Nat) : Int)) (i64w (by omega) (by omega))) ?_
     refine sq rfl rfl hn rfl (zH rfl rfl Tryz.underlying91 rfl sz3) ?_
     refine stepW (s_store1 rfl rfl rfl rfl rfl rfl (id := 14) rfl sz3 (Nat.le_of_ble_eq_true rfl) rfl trivial) fun _ => ?_
     refine zF ?_
     exact aend_join_on hJ2 () (zK _) ⟨.inl (by rw [← e2]; rfl), trivial⟩ (by repeat (first | exact kr _ | refine kc rfl ?_)) (by repeat (first | exact kr _ | refine kc rfl ?_))
    ·
     have q2 : (wrd ws (2 * i + 6) % 4 == 0) = false := by have h := hb2; rw [beq_eq_false_iff_ne] at h ⊢; omega
     have e2 : (1 : Int) = soN ws i := by unfold soN; rw [q2]; rfl
     refine zP ?_
     exact aend_join_on hJ2 () (zK _) ⟨.inl (by rw [← e2]; rfl), trivial⟩ (by repeat (first | exact kr _ | refine kc rfl ?_)) (by repeat (first | exact kr _ | refine kc rfl ?_))
   ·
    rintro _
    refine zA (zB ?_)
    refine sq rfl rfl hn rfl (zD rfl rfl) ?_
    refine sq rfl rfl hn rfl (zf rfl rfl (id := 14) rfl Tryz.underlying91 rfl sz91 rfl rfl sees0) ?_
    refine stepW (za rfl rfl rfl (nb hn rfl) Tryz.underlying70 sz91 zr91 rfl rfl rfl (show _ = [.d (.int .i64 0), .d (.int .i64 0), .d (.int .i64 0), .d (.int .i64 0)] from by kernel_rfl) (by kernel_rfl) rfl (zv (by kernel_rfl) rfl) (yC _) (z8 rfl) (zq rfl)) fun _ => ?_
    refine stepW (zAf (id := 1098) rfl rfl rfl (nb hn rfl) elt70 zr91 rfl hV rfl rfl rfl (by rw [yc]; simp [chunk]; omega) (by rw [yc]; simp [chunk]; omega) (fun _ _ => trivial)) fun ⟨v112, hV112⟩ => ?_
    refine sq rfl rfl hn rfl (zE rfl rfl) ?_
    refine zF (zS (zA (zB ?_)))
    refine sq rfl rfl hn rfl (zD rfl rfl) ?_
    refine sq rfl rfl hn rfl (zp rfl rfl rfl (r := ((i + 1 : Nat) : Int)) (i64w (by omega) (by omega))) ?_
    refine sq rfl rfl hn rfl (zE rfl rfl) ?_
    refine zF ?_
    exact zR ⟨(i + 1, v112), by simp only; omega, by rw [← zDL]; exact hV112⟩ ⟨.inl rfl, .inl rfl, .inl rfl, zK _⟩ ⟨.inl rfl, .inl (congrArg (fun z => some (vecRes 91 v112 4 z)) zDL), zi _⟩ (by simp only; omega) (by repeat (first | exact kr _ | refine kc rfl ?_)) (by repeat (first | exact kr _ | refine kc rfl ?_))
  ·
   obtain rfl : i = wrd ws 5 % 8 := Nat.le_antisymm hi (by have h := hb1; simp only [decide_eq_false_iff_not, Int.not_lt] at h; omega)
   refine zk (zM (zM (zV (zA (zC (zB ?_))))))
   refine sq rfl rfl hn rfl (zD rfl rfl) ?_
   refine sq rfl rfl hn rfl (zE rfl rfl) ?_
   refine zF (zA (zQ ?_))
   exact ret_E (.inl rfl) ⟨vv, hV⟩ (yB rfl (.tmp rfl)) ⟨rfl, trivial⟩
theorem vec_same {v : Value} {l l' : List Sal} (h : VecV v 4 (salT l)) (e : l'.length = l.length) : VecV v 4 (salT l') := by
  rcases h with ⟨rfl, h⟩ | ⟨b, n, cap, rfl, h1, h2, h3⟩
  · have h4 := yc (l := l)
    rw [h] at h4
    simp at h4
    have : l' = [] := List.eq_nil_of_length_eq_zero (by omega)
    subst this
    exact .inl ⟨rfl, rfl⟩
  · exact .inr ⟨b, n, cap, rfl, h1, h2, by rw [yc, e, ← yc]; exact h3⟩
theorem TapeLeft_ok (b : Brd) (ws : List Int) (wr ot : Nat) (hN : NamesOK b) (hw : WdsOK ws) (hwr : wr ≤ 255) (hot : ot ≤ 255) : PureAt Tryz.prog 12 [brdD b, wdsD ws, .int .u8 (wr : Nat), .int .u8 (ot : Nat)] (.bool true) := by
 refine PureAt.of_awp Tryz.func12 rfl (by kernel_rfl) (Nat.le_of_ble_eq_true rfl) fun Γ hn hl => ?_
 refine zC (zB ?_)
 refine stepW (yE 4 rfl rfl rfl (nb hn rfl) rfl rfl) fun b4 => ?_
 refine sq rfl rfl hn rfl (zE rfl rfl) ?_
 refine zF (zA (zC (zC (zB ?_))))
 refine sq rfl rfl hn rfl (zf rfl rfl (id := 4) rfl Tryz.underlying24 rfl sz24 rfl rfl sees0) ?_
 refine stepW (s_call [] (fun _ => ready_ok b hN) rfl (zI rfl) rfl (nb hn rfl) (fun _ => trivial) rfl rfl (.refl _)) fun _ => ?_
 refine sq rfl rfl hn rfl (yN rfl rfl) ?_
 refine zF (zA ?_)
 refine zN rfl (fun hb0 => ?_) (fun hb0 => ?_)
 ·
  refine zC (zB ?_)
  refine stepW (s_call [] (fun _ => zCT) rfl (zI rfl) rfl (nb hn rfl) (fun _ => trivial) rfl rfl (.refl _)) fun _ => ?_
  refine sq rfl rfl hn rfl (zE rfl rfl) ?_
  refine zF (zA (zQ (zL ?_)))
  exact zu (.inl rfl) hl rfl (.tmp rfl)
 ·
  obtain ⟨h0, hb7⟩ := ready_is (b := b) (by simpa using hb0)
  have v := y2 h0
  have hso := soldL_ok v hw
  have hl7 := hso.l7
  refine zP (zA (zC (zB ?_)))
  refine sq rfl rfl hn rfl (zf rfl rfl (id := 4) rfl Tryz.underlying24 rfl sz24 rfl rfl sees0) ?_
  refine sq rfl rfl hn rfl (zD rfl rfl) ?_
  refine stepW (s_callE (Sold_vec b ws v hw) rfl rfl rfl (nb hn rfl) (.d rfl) rfl (.refl _) trivial (fun _ => rfl) (fun _ _ => trivial)) fun ⟨v0, hV0⟩ => ?_
  have hVl : ∀ i, VecV v0 4 (salT (lfN ws wr (soldL b ws) i)) := fun i => vec_same hV0 (kj i)
  refine sq rfl rfl hn rfl (zE rfl rfl) ?_
  refine zF (zA (zC (zC (zB ?_))))
  refine sq rfl rfl hn rfl (zD rfl rfl) ?_
  refine sq rfl rfl hn rfl (zFc rfl rfl Tryz.underlying70 (zFl hV0)) ?_
  refine sq rfl rfl hn rfl (yh rfl rfl rfl) ?_
  refine zF (zA ?_)
  refine zN rfl (fun hb1 => ?_) (fun hb1 => ?_)
  ·
   refine zC (zB ?_)
   refine stepW (s_call [] (fun _ => zCT) rfl (zI rfl) rfl (nb hn rfl) (fun _ => trivial) rfl rfl (.refl _)) fun _ => ?_
   refine sq rfl rfl hn rfl (zE rfl rfl) ?_
   refine zF (zA (zQ (zL ?_)))
   exact zu (.inl rfl) hl rfl (.tmp rfl)
  ·
   have hl6 : (soldL b ws).length ≤ 6 := by have h := hb1; simp only [decide_eq_false_iff_not] at h; omega
   refine zP (zA (zC (zC (zB ?_))))
   refine sq rfl rfl hn rfl (zE rfl rfl) ?_
   refine zF (zA (zU ?_))
   refine awp_loop_on (ι := {i : Nat // i ≤ (soldL b ws).length}) (fun x => (10, true, .d (.int .i64 (x.1 : Nat))) :: anys [34, 35, 36, 37, 40, 41, 42, 43, 44, 45, 46, 47, 48, 49, 50, 51, 52, 53, 54, 55, 56, 57, 58, 59, 60, 61, 38, 39]) (fun x => [(1098, vecRes 91 v0 4 (salT (lfN ws wr (soldL b ws) x.1)))]) (fun x => (soldL b ws).length - x.1) ⟨0, Nat.zero_le _⟩ ⟨.inl rfl, zK _⟩ ⟨.inl rfl, trivial⟩ ?_
   rintro ⟨i, hi⟩
   dsimp only
   refine zC (zC (zB ?_))
   refine sq rfl rfl hn rfl (zD rfl rfl) ?_
   refine sq rfl rfl hn rfl (zD rfl rfl) ?_
   refine sq rfl rfl hn rfl (zFc rfl rfl Tryz.underlying70 (zFl hV0)) ?_
   refine sq rfl rfl hn rfl (yF rfl rfl rfl) ?_
   refine zF (zA ?_)
   refine zN rfl (fun hb2 => ?_) (fun hb2 => ?_)
   ·
    have hil : i < (soldL b ws).length := by have h := of_decide_eq_true hb2; omega
    obtain ⟨s, hs⟩ := zn (show i < (lfN ws wr (soldL b ws) i).length by rw [kj]; exact hil)
    have hok := zEo (ws := ws) (wr := wr) hso.ok i hi
    have hsp := (zD2 hok hs).2.2.1
    have hwl := zDr hw i
    have hpb := zFu (ws := ws) (i := i) hsp.1
    have htm : 0 ≤ (s.price + 7 * ((wrd ws i : Nat) : Int)).tmod 799 ∧ (s.price + 7 * ((wrd ws i : Nat) : Int)).tmod 799 ≤ 798 := by have h := hpb; unfold lfP at h; omega
    refine zP (zA (zC (zU (zC (zB ?_)))))
    refine sq rfl rfl hn rfl (zD rfl rfl) ?_
    refine sq rfl rfl hn rfl (zD rfl rfl) ?_
    refine sq rfl rfl hn rfl (kq rfl rfl Tryz.underlying3 Tryz.underlying100 (u64w (by omega) rfl)) ?_
    refine sq rfl rfl hn rfl (zFs rfl rfl rfl (by omega) (by simp [IntKind.bits]; omega)) ?_
    refine sq rfl rfl hn rfl (yp rfl rfl rfl (by omega) rfl) ?_
    refine sq rfl rfl hn rfl (yD rfl rfl rfl) ?_
    refine zF (zA ?_)
    rw [zDX]
    refine zN rfl (fun hb3 => ?_) (fun hb3 => ?_)
    ·
     have q3 : wr.testBit i = true := hb3
     obtain ⟨bo, co, rfl, hco, hcm⟩ := salv_cons hV0 (by omega)
     have e3 : lfN ws wr (soldL b ws) (i + 1) = (lfN ws wr (soldL b ws) i).set i { s with price := lfP ws i s.price } := by show (bif wr.testBit i then _ else _) = _; rw [q3, cond_true, zj hs]
     refine z7 (e := .normal) (ι := Unit) (fun u0 => anys [46, 47, 48, 49, 50, 51, 52, 53, 54, 55, 56, 57, 58, 59, 60, 61]) (fun u0 => [(1098, vecRes 91 (.slice (some ⟨bo, 0, none⟩) (soldL b ws).length co) 4 (salT (lfN ws wr (soldL b ws) (i + 1))))]) (fun hJ4 => ?_) ?_
     ·
      refine yK (W := fun b => True) fmo ?_
      refine d1q (i := 0) rfl (by kernel_rfl) (fun _ _ _ _ h => h) rfl rfl hn rfl (zD rfl rfl) ?_
      refine d1q (i := 1) rfl (by kernel_rfl) (fun _ _ _ _ h => h) rfl rfl hn rfl (zD rfl rfl) ?_
      refine d1q (i := 2) rfl (by kernel_rfl) (fun _ _ _ _ h => h) rfl rfl hn rfl (zD rfl rfl) ?_
      refine d1q (i := 3) rfl (by kernel_rfl) (fun _ _ _ _ h => h) rfl rfl hn rfl (zD rfl rfl) ?_
      refine d1q (i := 4) rfl (by kernel_rfl) (fun _ _ _ _ h => h) rfl rfl hn rfl (q_indexV (i := i) rfl rfl rfl Tryz.underlying70 sz91 rfl (by omega)) ?_
      refine d1q (i := 5) rfl (by kernel_rfl) (fun _ _ _ _ h => h) rfl rfl hn rfl (zH rfl rfl Tryz.underlying91 rfl sz3) ?_
      refine d1q (i := 7) rfl (by kernel_rfl) (fun _ _ _ _ h => h) rfl rfl hn rfl (zD rfl rfl) ?_
      refine d1q (i := 8) rfl (by kernel_rfl) (fun _ _ _ _ h => h) rfl rfl hn rfl (zD rfl rfl) ?_
      refine zJ ?_
      refine yJ 6 [9] (by kernel_rfl) ⟨?_, ?_, trivial⟩
      ·
       refine br rfl (zZ _ [] (zI rfl) rfl (nb hn rfl) (fun _ => trivial) (fun _ => zO rfl rfl (id := 1098) rfl Tryz.underlying3 rfl (zFY hs) sees0)) fun _ => ?_
       refine d2_of_d1 (zJ ?_)
       refine zT (i := 9) (by kernel_rfl) rfl (s_call [] (fun _ => zAj ws i hw) rfl (zI rfl) rfl (nb hn rfl) (fun _ => trivial) rfl rfl (.refl _)) fun _ => ?_
       refine d2_of_d1 ?_
       refine d1q (i := 10) rfl (by kernel_rfl) (fun _ _ _ _ h => h) rfl rfl hn rfl (zAm rfl rfl rfl (r := 7 * ((wrd ws i : Nat) : Int)) (i64w (by omega) rfl)) ?_
       refine d1q (i := 11) rfl (by kernel_rfl) (fun _ _ _ _ h => h) rfl rfl hn rfl (zp rfl rfl rfl (r := s.price + 7 * ((wrd ws i : Nat) : Int)) (i64w (by omega) rfl)) ?_
       refine d1q (i := 12) rfl (by kernel_rfl) (fun _ _ _ _ h => h) rfl rfl hn rfl (yp rfl rfl rfl (by omega) rfl) ?_
       refine d1q (i := 13) rfl (by kernel_rfl) (fun _ _ _ _ h => h) rfl rfl hn rfl (zp rfl rfl rfl (r := lfP ws i s.price) (i64w (by unfold lfP at hpb; omega) rfl)) ?_
       refine d1q (i := 14) rfl (by kernel_rfl) (fun _ _ _ _ h => h) rfl rfl hn rfl (q_indexV (i := i) rfl rfl rfl Tryz.underlying70 sz91 rfl (by omega)) ?_
       refine d1q (i := 15) rfl (by kernel_rfl) (fun _ _ _ _ h => h) rfl rfl hn rfl (zH rfl rfl Tryz.underlying91 rfl sz3) ?_
       refine zJ ?_
       refine zT (i := 16) (by kernel_rfl) rfl (s_store1 rfl rfl rfl rfl rfl rfl (id := 1098) rfl sz3 (by show 0 + i * 4 + 2 < _; rw [List.length_append, yc, kj]; omega) (zFE hs) trivial) fun _ => ?_
       refine d2_of_d1 (zJ ?_)
       refine zh (by kernel_rfl) ?_
       exact aend_join_on hJ4 () (zK _) ⟨.inl (by rw [e3]; rfl), trivial⟩ (by repeat (first | exact kr _ | refine kc rfl ?_)) (by repeat (first | exact kr _ | refine kc rfl ?_))
      ·
       refine br rfl (s_call [] (fun _ => zAj ws i hw) rfl (zI rfl) rfl (nb hn rfl) (fun _ => trivial) rfl rfl (.refl _)) fun _ => ?_
       refine d2_of_d1 ?_
       refine d1q (i := 10) rfl (by kernel_rfl) (fun _ _ _ _ h => h) rfl rfl hn rfl (zAm rfl rfl rfl (r := 7 * ((wrd ws i : Nat) : Int)) (i64w (by omega) rfl)) ?_
       refine zJ ?_
       refine zT (i := 6) (by kernel_rfl) rfl (zZ _ [] (zI rfl) rfl (nb hn rfl) (fun _ => trivial) (fun _ => zO rfl rfl (id := 1098) rfl Tryz.underlying3 rfl (zFY hs) sees0)) fun _ => ?_
       refine d2_of_d1 ?_
       refine d1q (i := 11) rfl (by kernel_rfl) (fun _ _ _ _ h => h) rfl rfl hn rfl (zp rfl rfl rfl (r := s.price + 7 * ((wrd ws i : Nat) : Int)) (i64w (by omega) rfl)) ?_
       refine d1q (i := 12) rfl (by kernel_rfl) (fun _ _ _ _ h => h) rfl rfl hn rfl (yp rfl rfl rfl (by omega) rfl) ?_
       refine d1q (i := 13) rfl (by kernel_rfl) (fun _ _ _ _ h => h) rfl rfl hn rfl (zp rfl rfl rfl (r := lfP ws i s.price) (i64w (by unfold lfP at hpb; omega) rfl)) ?_
       refine d1q (i := 14) rfl (by kernel_rfl) (fun _ _ _ _ h => h) rfl rfl hn rfl (q_indexV (i := i) rfl rfl rfl Tryz.underlying70 sz91 rfl (by omega)) ?_
       refine d1q (i := 15) rfl (by kernel_rfl) (fun _ _ _ _ h => h) rfl rfl hn rfl (zH rfl rfl Tryz.underlying91 rfl sz3) ?_
       refine zJ ?_
       refine zT (i := 16) (by kernel_rfl) rfl (s_store1 rfl rfl rfl rfl rfl rfl (id := 1098) rfl sz3 (by show 0 + i * 4 + 2 < _; rw [List.length_append, yc, kj]; omega) (zFE hs) trivial) fun _ => ?_
       refine d2_of_d1 (zJ ?_)
       refine zh (by kernel_rfl) ?_
       exact aend_join_on hJ4 () (zK _) ⟨.inl (by rw [e3]; rfl), trivial⟩ (by repeat (first | exact kr _ | refine kc rfl ?_)) (by repeat (first | exact kr _ | refine kc rfl ?_))
     ·
      rintro _
      refine zS (zA (zB ?_))
      refine sq rfl rfl hn rfl (zD rfl rfl) ?_
      refine sq rfl rfl hn rfl (zp rfl rfl rfl (r := ((i + 1 : Nat) : Int)) (i64w (by omega) (by omega))) ?_
      refine sq rfl rfl hn rfl (zE rfl rfl) ?_
      refine zF ?_
      exact zR ⟨i + 1, by omega⟩ ⟨.inl rfl, zK _⟩ ⟨.inl rfl, trivial⟩ (by simp only; omega) (by repeat (first | exact kr _ | refine kc rfl ?_)) (by repeat (first | exact kr _ | refine kc rfl ?_))
    ·
     have q3 : wr.testBit i = false := hb3
     have e3 : lfN ws wr (soldL b ws) i = lfN ws wr (soldL b ws) (i + 1) := by show _ = (bif wr.testBit i then _ else _); rw [q3]; rfl
     refine zP (zS (zA (zB ?_)))
     refine sq rfl rfl hn rfl (zD rfl rfl) ?_
     refine sq rfl rfl hn rfl (zp rfl rfl rfl (r := ((i + 1 : Nat) : Int)) (i64w (by omega) (by omega))) ?_
     refine sq rfl rfl hn rfl (zE rfl rfl) ?_
     refine zF ?_
     exact zR ⟨i + 1, by omega⟩ ⟨.inl rfl, zK _⟩ ⟨.inl (by rw [← e3]; rfl), trivial⟩ (by simp only; omega) (by repeat (first | exact kr _ | refine kc rfl ?_)) (by repeat (first | exact kr _ | refine kc rfl ?_))
   ·
    obtain rfl : i = (soldL b ws).length := by have h := hb2; simp only [decide_eq_false_iff_not] at h; omega
    have hokl := zEo (ws := ws) (wr := wr) hso.ok (soldL b ws).length (Nat.le_refl _)
    have hll := kj (ws := ws) (wr := wr) (l := soldL b ws) (soldL b ws).length
    obtain ⟨R, M, T⟩ := left_law h0 (by omega) hokl
    have hR := T.rd
    have hM := T.mi
    have hRl := T.rl
    have hMr := T.ri
    have hMl : M.length ≤ 6 := by rcases hMr.len with h | h; (rw [h]; simp); omega
    have hMm := fun x hx => hMr.mem x hx
    have hS5 := zFi (f := -1) (x := 0) v (show (lfN ws wr (soldL b ws) (soldL b ws).length).length ≤ 8 by omega) hokl (.inl rfl)
    obtain ⟨hpo, hp8⟩ := y4 (b := b) (s := (pdS b (lfN ws wr (soldL b ws) (soldL b ws).length) (-1) 0))
    rw [hR] at hpo hp8
    dsimp only at hpo hp8
    refine zk (zM (zM (zV (zA (zC ?_)))))
    refine y7 (g_freezeRows (t := 9) (e := 91) (k := 4) (rows := (lfN ws wr (soldL b ws) (soldL b ws).length).map salE) 1098 rfl rfl zA7 (by omega) (hVl _)) ?_
    refine zB ?_
    refine sq rfl rfl hn rfl (zf rfl rfl (id := 4) rfl Tryz.underlying24 rfl sz24 rfl rfl sees0) ?_
    refine sq rfl rfl hn rfl (zD rfl rfl) ?_
    refine stepW (s_call [] (fun _ => printedS_ok b (lfN ws wr (soldL b ws) (soldL b ws).length) (-1) 0 v (by omega) hokl (.inl rfl)) rfl (zI rfl) rfl (nb hn rfl) (fun _ => trivial) rfl rfl (.refl _)) fun _ => ?_
    refine sq rfl rfl hn rfl (zE rfl rfl) ?_
    refine zF (zA (zC (zB ?_)))
    refine sq rfl rfl hn rfl (zf rfl rfl (id := 4) rfl Tryz.underlying24 rfl sz24 rfl rfl sees0) ?_
    refine sq rfl rfl hn rfl (zD rfl rfl) ?_
    refine stepW (s_call [] (fun _ => (by have h := refRead_ok b (pdS b (lfN ws wr (soldL b ws) (soldL b ws).length) (-1) 0) (by omega) (by omega); rw [kx h0, hR] at h; exact h)) rfl (zI rfl) rfl (nb hn rfl) (fun _ => trivial) rfl rfl (.refl _)) fun _ => ?_
    refine sq rfl rfl hn rfl (zD rfl rfl) ?_
    refine sq rfl rfl hn rfl (zb rfl rfl rfl) ?_
    refine sq rfl rfl hn rfl (zb rfl rfl rfl) ?_
    refine sq rfl rfl hn rfl (zE rfl rfl) ?_
    refine sq rfl rfl hn rfl (zE rfl rfl) ?_
    refine zF (zA (zC (zB ?_)))
    refine sq rfl rfl hn rfl (zf rfl rfl (id := 4) rfl Tryz.underlying24 rfl sz24 rfl rfl sees0) ?_
    refine stepW (s_call [] (fun _ => Board_ok b (by omega)) rfl (zI rfl) rfl (nb hn rfl) (fun _ => trivial) rfl rfl (.refl _)) fun _ => ?_
    refine sq rfl rfl hn rfl (zD rfl rfl) ?_
    refine stepW (s_call [] (fun _ => (by have h := zA9 b (pdS b (lfN ws wr (soldL b ws) (soldL b ws).length) (-1) 0) hN (by omega); rw [hM] at h; exact h)) rfl (zI rfl) rfl (nb hn rfl) (fun _ => trivial) rfl rfl (.refl _)) fun _ => ?_
    refine sq rfl rfl hn rfl (zD rfl rfl) ?_
    refine sq rfl rfl hn rfl (zb rfl rfl rfl) ?_
    refine sq rfl rfl hn rfl (zb rfl rfl rfl) ?_
    refine sq rfl rfl hn rfl (zE rfl rfl) ?_
    refine sq rfl rfl hn rfl (zE rfl rfl) ?_
    refine zF (zA (zC (zC (zB ?_))))
    refine sq rfl rfl hn rfl (zD rfl rfl) ?_
    refine sq rfl rfl hn rfl (yb rfl rfl rfl) ?_
    refine sq rfl rfl hn rfl (zD rfl rfl) ?_
    refine stepG [] (zG rfl rfl rfl) rfl (nb hn rfl) (fun hc => trivial) (fun hc => zD rfl rfl) ?_
    refine stepG [(81, _)] (zG rfl rfl rfl) rfl (nb hn rfl) (fun hc => ⟨⟨_, rfl, hc⟩, trivial⟩) (fun hc => yb rfl rfl rfl) ?_
    refine sq rfl rfl hn rfl (q_or rfl rfl rfl (by intro hB; first | (rw [hB]; rfl) | (rw [hB, hc]; rfl) | simp_all)) ?_
    refine zF (zA ?_)
    refine zN rfl (fun hb5 => ?_) (fun hb5 => ?_)
    ·
     exact absurd hb5 (by simp)
    ·
     refine zP (zA (zC (zB ?_)))
     refine sq rfl rfl hn rfl (zE rfl rfl) ?_
     refine zF (zA (zC (zC (zB ?_))))
     refine sq rfl rfl hn rfl (zE rfl rfl) ?_
     refine zF (zA (zU ?_))
     refine awp_loop_on (ι := {n : Nat // n ≤ M.length}) (fun x => (17, true, .d (.int .i64 (x.1 : Nat))) :: (16, true, .d (.int .i64 ((orL (M.take x.1) : Nat) : Int))) :: anys [84, 85, 86, 87, 90, 91, 92, 93, 94, 95, 96, 97, 98, 99, 100, 101, 102, 103, 104, 105, 106, 107, 108, 109, 110, 111, 112, 113, 114, 115, 116, 117, 118, 119, 120, 121, 122, 123, 124, 125, 126, 127, 88, 89]) (fun x => []) (fun x => M.length - x.1) ⟨0, Nat.zero_le _⟩ ⟨.inl rfl, .inl rfl, zK _⟩ trivial ?_
     rintro ⟨n, hn9⟩
     dsimp only
     have hol := zF1 (n := (soldL b ws).length) (l := M.take n) (fun x hx => by have := hMm x (List.mem_of_mem_take hx); omega)
     have hpw : (2 : Nat) ^ (soldL b ws).length ≤ 2 ^ 6 := Nat.pow_le_pow_right (by omega) hl6
     refine zC (zC (zB ?_))
     refine sq rfl rfl hn rfl (zD rfl rfl) ?_
     refine sq rfl rfl hn rfl (zD rfl rfl) ?_
     refine sq rfl rfl hn rfl (yI rfl rfl Tryz.underlying57) ?_
     refine sq rfl rfl hn rfl (yF rfl rfl rfl) ?_
     refine zF (zA ?_)
     refine zN rfl (fun hb6 => ?_) (fun hb6 => ?_)
     ·
      have hnl : n < M.length := by simp at hb6; omega
      obtain ⟨x, hx⟩ := zn hnl
      obtain ⟨x1, hx1⟩ := zn (show n - 1 < M.length by omega)
      have hxb := hMm x (List.mem_of_getElem? hx)
      obtain ⟨k, rfl⟩ : ∃ k : Nat, x = k := ⟨x.toNat, by omega⟩
      have hprev : 0 < n → x1 < ((k : Nat) : Int) := fun h => ris_prev hMr h hx1 hx
      have hpk : (2 : Nat) ^ k ≤ 2 ^ 6 := Nat.pow_le_pow_right (by omega) (by omega)
      have hor : orL (M.take (n + 1)) = orL (M.take n) ||| 2 ^ k := by rw [List.take_add_one, hx]; exact zFS
      refine zP (zA (zC (zU (zC (zC ?_)))))
      refine yK (W := fun b => True) fmo ?_
      refine d1q (i := 0) rfl (by kernel_rfl) (fun _ _ _ _ h => h) rfl rfl hn rfl (zD rfl rfl) ?_
      refine d1q (i := 1) rfl (by kernel_rfl) (fun _ _ _ _ h => h) rfl rfl hn rfl (zD rfl rfl) ?_
      refine d1q (i := 2) rfl (by kernel_rfl) (fun _ _ _ _ h => h) rfl rfl hn rfl (q_index (i := n) rfl rfl rfl Tryz.underlying57 sz3 rfl (mget hx)) ?_
      refine d1q (i := 3) rfl (by kernel_rfl) (fun _ _ _ _ h => h) rfl rfl hn rfl (zz rfl rfl Tryz.underlying3 rfl seesFA) ?_
      refine d1q (i := 4) rfl (by kernel_rfl) (fun _ _ _ _ h => h) rfl rfl hn rfl (yF rfl rfl rfl) ?_
      refine d1q (i := 5) rfl (by kernel_rfl) (fun _ _ _ _ h => h) rfl rfl hn rfl (zD rfl rfl) ?_
      refine d1g (i := 6) [] rfl (by kernel_rfl) (fun _ _ _ _ h => h) (zG rfl rfl rfl) rfl hn rfl (fun hc => trivial) (fun hc => zD rfl rfl) ?_
      refine d1g (i := 7) [] rfl (by kernel_rfl) (fun _ _ _ _ h => h) (zG rfl rfl rfl) rfl hn rfl (fun hc => trivial) (fun hc => zD rfl rfl) ?_
      refine d1g (i := 8) [(96, _), (97, _)] rfl (by kernel_rfl) (fun _ _ _ _ h => h) (zG rfl rfl rfl) rfl hn rfl (fun hc => ⟨⟨_, rfl, hc⟩, ⟨_, rfl, hc⟩, trivial⟩) (fun hc => q_index (i := n) rfl rfl rfl Tryz.underlying57 sz3 rfl (mget hx)) ?_
      refine d1g (i := 9) [(98, _)] rfl (by kernel_rfl) (fun _ _ _ _ h => h) (zG rfl rfl rfl) rfl hn rfl (fun hc => ⟨⟨_, rfl, hc⟩, trivial⟩) (fun hc => zz rfl rfl Tryz.underlying3 rfl seesFA) ?_
      refine d1g (i := 10) [] rfl (by kernel_rfl) (fun _ _ _ _ h => h) (zG rfl rfl rfl) rfl hn rfl (fun hc => trivial) (fun hc => zD rfl rfl) ?_
      refine d1g (i := 11) [(100, _)] rfl (by kernel_rfl) (fun _ _ _ _ h => h) (zG rfl rfl rfl) rfl hn rfl (fun hc => ⟨⟨_, rfl, hc⟩, trivial⟩) (fun hc => yI rfl rfl Tryz.underlying70) ?_
      refine d1g (i := 12) [(99, _), (101, _)] rfl (by kernel_rfl) (fun _ _ _ _ h => h) (zG rfl rfl rfl) rfl hn rfl (fun hc => ⟨⟨_, rfl, hc⟩, ⟨_, rfl, hc⟩, trivial⟩) (fun hc => kk rfl rfl rfl) ?_
      refine d1q (i := 13) rfl (by kernel_rfl) (fun _ _ _ _ h => h) rfl rfl hn rfl (q_or rfl rfl rfl (by intro hB; first | (rw [hB]; rfl) | (rw [hB, hc]; rfl) | simp_all)) ?_
      refine d1q (i := 14) rfl (by kernel_rfl) (fun _ _ _ _ h => h) rfl rfl hn rfl (zD rfl rfl) ?_
      refine d1g (i := 15) [] rfl (by kernel_rfl) (fun _ _ _ _ h => h) (zG rfl rfl rfl) rfl hn rfl (fun hc => trivial) (fun hc => zD rfl rfl) ?_
      refine d1g (i := 16) [(105, _)] rfl (by kernel_rfl) (fun _ _ _ _ h => h) (zG rfl rfl rfl) rfl hn rfl (fun hc => ⟨⟨_, rfl, hc⟩, trivial⟩) (fun hc => yh rfl rfl rfl) ?_
      refine d1g (i := 17) [(106, _)] rfl (by kernel_rfl) (fun _ _ _ _ h => h) (zG rfl rfl rfl) rfl hn rfl (fun hc => ⟨⟨_, rfl, hc⟩, trivial⟩) (fun hc => zD rfl rfl) ?_
      refine d1g (i := 18) [] rfl (by kernel_rfl) (fun _ _ _ _ h => h) (zG rfl rfl rfl) rfl hn rfl (fun hc => trivial) (fun hc => zD rfl rfl) ?_
      refine d1g (i := 19) [] rfl (by kernel_rfl) (fun _ _ _ _ h => h) (zG rfl rfl rfl) rfl hn rfl (fun hc => trivial) (fun hc => zD rfl rfl) ?_
      refine d1g (i := 20) [(108, _), (109, _)] rfl (by kernel_rfl) (fun _ _ _ _ h => h) (zG rfl rfl rfl) rfl hn rfl (fun hc => ⟨⟨_, rfl, hc⟩, ⟨_, rfl, hc⟩, trivial⟩) (fun hc => q_index (i := n) rfl rfl rfl Tryz.underlying57 sz3 rfl (mget hx)) ?_
      refine d1g (i := 21) [(110, _)] rfl (by kernel_rfl) (fun _ _ _ _ h => h) (zG rfl rfl rfl) rfl hn rfl (fun hc => ⟨⟨_, rfl, hc⟩, trivial⟩) (fun hc => zz rfl rfl Tryz.underlying3 rfl seesFA) ?_
      refine d1g (i := 22) [] rfl (by kernel_rfl) (fun _ _ _ _ h => h) (zG rfl rfl rfl) rfl hn rfl (fun hc => trivial) (fun hc => zD rfl rfl) ?_
      refine d1g (i := 23) [] rfl (by kernel_rfl) (fun _ _ _ _ h => h) (zG rfl rfl rfl) rfl hn rfl (fun hc => trivial) (fun hc => zD rfl rfl) ?_
      refine d1g (i := 24) [(113, _)] rfl (by kernel_rfl) (fun _ _ _ _ h => h) (zG rfl rfl rfl) rfl hn rfl (fun hc => ⟨⟨_, rfl, hc⟩, trivial⟩) (fun hc => yP rfl rfl rfl (r := ((n - 1 : Nat) : Int)) (i64w (by simp at hc; omega) (by simp at hc; omega))) ?_
      refine d1g (i := 25) [(112, _), (114, _)] rfl (by kernel_rfl) (fun _ _ _ _ h => h) (zG rfl rfl rfl) rfl hn rfl (fun hc => ⟨⟨_, rfl, hc⟩, ⟨_, rfl, hc⟩, trivial⟩) (fun hc => q_index (i := n - 1) rfl rfl rfl Tryz.underlying57 sz3 rfl (mget hx1)) ?_
      refine d1g (i := 26) [(115, _)] rfl (by kernel_rfl) (fun _ _ _ _ h => h) (zG rfl rfl rfl) rfl hn rfl (fun hc => ⟨⟨_, rfl, hc⟩, trivial⟩) (fun hc => zz rfl rfl Tryz.underlying3 rfl seesFA) ?_
      refine d1g (i := 27) [(111, _), (116, _)] rfl (by kernel_rfl) (fun _ _ _ _ h => h) (zG rfl rfl rfl) rfl hn rfl (fun hc => ⟨⟨_, rfl, hc⟩, ⟨_, rfl, hc⟩, trivial⟩) (fun hc => yd rfl rfl rfl) ?_
      refine d1g (i := 28) [(107, _)] rfl (by kernel_rfl) (fun _ _ _ _ h => h) (zG rfl rfl rfl) rfl hn rfl (fun hc => ⟨⟨_, rfl, hc⟩, trivial⟩) (fun hc => zx rfl rfl rfl (by intro hB; first | (rw [hB]; rfl) | (rw [hB, hc]; rfl) | simp_all)) ?_
      refine d1q (i := 29) rfl (by kernel_rfl) (fun _ _ _ _ h => h) rfl rfl hn rfl (q_or rfl rfl rfl (by intro hB; first | (rw [hB]; rfl) | (rw [hB, hc]; rfl) | simp_all)) ?_
      refine zJ ?_
      refine zh (by kernel_rfl) ?_
      refine zA ?_
      refine zN rfl (fun hb7 => ?_) (fun hb7 => ?_)
      ·
       exfalso; have h := hb7; simp only [Bool.or_eq_true, Bool.and_eq_true, decide_eq_true_eq, List.length_map] at h; rcases h with (h | h) | ⟨h1, h⟩ <;> omega
      ·
       refine zP (zA (zB ?_))
       refine sq rfl rfl hn rfl (zD rfl rfl) ?_
       refine sq rfl rfl hn rfl (zD rfl rfl) ?_
       refine sq rfl rfl hn rfl (zD rfl rfl) ?_
       refine sq rfl rfl hn rfl (q_index (i := n) rfl rfl rfl Tryz.underlying57 sz3 rfl (mget hx)) ?_
       refine sq rfl rfl hn rfl (zz rfl rfl Tryz.underlying3 rfl seesF0) ?_
       refine sq rfl rfl hn rfl (kq rfl rfl Tryz.underlying3 Tryz.underlying100 (u64w (by omega) rfl)) ?_
       refine sq rfl rfl hn rfl (zF8 (r := ((2 ^ k : Nat) : Int)) rfl rfl rfl (by omega) (by simp [IntKind.bits]; omega) (zEc (by omega))) ?_
       refine sq rfl rfl hn rfl (q_bitor (r := ((orL (M.take n) ||| 2 ^ k : Nat) : Int)) rfl rfl rfl (or_bits (by omega) (by omega))) ?_
       refine sq rfl rfl hn rfl (zE rfl rfl) ?_
       refine zF (zS (zA (zB ?_)))
       refine sq rfl rfl hn rfl (zD rfl rfl) ?_
       refine sq rfl rfl hn rfl (zp rfl rfl rfl (r := ((n + 1 : Nat) : Int)) (i64w (by omega) (by omega))) ?_
       refine sq rfl rfl hn rfl (zE rfl rfl) ?_
       refine zF ?_
       exact zR ⟨n + 1, by omega⟩ ⟨.inl rfl, .inl (congrArg (fun z => some (true, TV.d (D.int .i64 z))) (by rw [hor])), zK _⟩ trivial (by simp only; omega) (by repeat (first | exact kr _ | refine kc rfl ?_)) (by repeat (first | exact kr _ | refine kc rfl ?_))
     ·
      obtain rfl : n = M.length := by simp at hb6; omega
      rw [List.take_length] at hol
      rw [List.take_length]
      refine zk (zM (zM (zV (zA (zC ?_)))))
      have hpp := Nat.two_pow_pos (soldL b ws).length
      have hom := Nat.mod_lt ot hpp
      refine zB ?_
      refine sq rfl rfl hn rfl (zD rfl rfl) ?_
      refine sq rfl rfl hn rfl (kq rfl rfl Tryz.underlying5 Tryz.underlying3 (i64w (by omega) rfl)) ?_
      refine sq rfl rfl hn rfl (zD rfl rfl) ?_
      refine sq rfl rfl hn rfl (yI rfl rfl Tryz.underlying70) ?_
      refine sq rfl rfl hn rfl (kq rfl rfl Tryz.underlying3 Tryz.underlying100 (u64w (by rw [List.length_map]; omega) rfl)) ?_
      refine sq rfl rfl hn rfl (zF8 (r := ((2 ^ (soldL b ws).length : Nat) : Int)) rfl rfl rfl (by omega) (by simp [IntKind.bits]; omega) (by rw [List.length_map, hll]; exact zEc (by omega))) ?_
      refine sq rfl rfl hn rfl (yp rfl rfl rfl (r := ((ot % 2 ^ (soldL b ws).length : Nat) : Int)) (by omega) (modN (a := ot) (b := 2 ^ (soldL b ws).length) (by omega))) ?_
      refine sq rfl rfl hn rfl (zE rfl rfl) ?_
      refine zF (zA (zC (zB ?_)))
      refine sq rfl rfl hn rfl (zf rfl rfl (id := 4) rfl Tryz.underlying24 rfl sz24 rfl rfl sees0) ?_
      refine sq rfl rfl hn rfl (zD rfl rfl) ?_
      refine sq rfl rfl hn rfl (zD rfl rfl) ?_
      refine stepW (s_call [] (fun _ => zC2 b R (orL M) 0 v hpo hp8 (by omega)) rfl (zI rfl) rfl (nb hn rfl) (fun _ => trivial) rfl rfl (.refl _)) fun _ => ?_
      refine sq rfl rfl hn rfl (zD rfl rfl) ?_
      refine sq rfl rfl hn rfl (zb rfl rfl rfl) ?_
      refine sq rfl rfl hn rfl (zb rfl rfl rfl) ?_
      refine sq rfl rfl hn rfl (zE rfl rfl) ?_
      refine sq rfl rfl hn rfl (zE rfl rfl) ?_
      refine zF (zA (zC (zB ?_)))
      refine sq rfl rfl hn rfl (zf rfl rfl (id := 4) rfl Tryz.underlying24 rfl sz24 rfl rfl sees0) ?_
      refine sq rfl rfl hn rfl (zD rfl rfl) ?_
      refine sq rfl rfl hn rfl (zD rfl rfl) ?_
      refine stepW (s_call [] (fun _ => zC2 b R (ot % 2 ^ (soldL b ws).length) 0 v hpo hp8 (by omega)) rfl (zI rfl) rfl (nb hn rfl) (fun _ => trivial) rfl rfl (.refl _)) fun _ => ?_
      refine sq rfl rfl hn rfl (zD rfl rfl) ?_
      refine sq rfl rfl hn rfl (zb rfl rfl rfl) ?_
      refine sq rfl rfl hn rfl (zb rfl rfl rfl) ?_
      refine sq rfl rfl hn rfl (zE rfl rfl) ?_
      refine sq rfl rfl hn rfl (zE rfl rfl) ?_
      refine zF (zA (zC (zB ?_)))
      refine sq rfl rfl hn rfl (zD rfl rfl) ?_
      refine sq rfl rfl hn rfl (zD rfl rfl) ?_
      refine stepG [] (zG rfl rfl rfl) rfl (nb hn rfl) (fun hc => trivial) (fun hc => zD rfl rfl) ?_
      refine stepG [(151, _)] (zG rfl rfl rfl) rfl (nb hn rfl) (fun hc => ⟨⟨_, rfl, hc⟩, trivial⟩) (fun hc => yN rfl rfl) ?_
      refine stepG [(152, _)] (zG rfl rfl rfl) rfl (nb hn rfl) (fun hc => ⟨⟨_, rfl, hc⟩, trivial⟩) (fun hc => zD rfl rfl) ?_
      refine stepG [] (zG rfl rfl rfl) rfl (nb hn rfl) (fun hc => trivial) (fun hc => zD rfl rfl) ?_
      refine stepW (s_call [(154, _)] (fun hc => Bits_ok (ot % 2 ^ (soldL b ws).length) (by omega)) rfl (zG rfl rfl rfl) rfl (nb hn rfl) (fun hc => ⟨⟨_, rfl, hc⟩, trivial⟩) rfl rfl (.refl _)) fun _ => ?_
      refine stepG [] (zG rfl rfl rfl) rfl (nb hn rfl) (fun hc => trivial) (fun hc => zD rfl rfl) ?_
      refine stepW (s_call [(155, _), (156, _)] (fun hc => Less_ok _ M (by have := zEQ (o := ot % 2 ^ (soldL b ws).length) (i := 16); unfold bitsI; omega)) rfl (zG rfl rfl rfl) rfl (nb hn rfl) (fun hc => ⟨⟨_, rfl, hc⟩, ⟨_, rfl, hc⟩, trivial⟩) rfl rfl (.refl _)) fun _ => ?_
      refine stepG [(157, _)] (zG rfl rfl rfl) rfl (nb hn rfl) (fun hc => ⟨⟨_, rfl, hc⟩, trivial⟩) (fun hc => yN rfl rfl) ?_
      refine stepG [(153, _)] (zG rfl rfl rfl) rfl (nb hn rfl) (fun hc => ⟨⟨_, rfl, hc⟩, trivial⟩) (fun hc => q_or rfl rfl rfl (by intro hB; first | (rw [hB]; rfl) | (rw [hB, hc]; rfl) | simp_all)) ?_
      refine sq rfl rfl hn rfl (zx rfl rfl rfl (by intro hB; first | (rw [hB]; rfl) | (rw [hB, hc]; rfl) | simp_all)) ?_
      refine sq rfl rfl hn rfl (zD rfl rfl) ?_
      refine stepW (s_call [] (fun hc => zCT) rfl (zG rfl rfl rfl) rfl (nb hn rfl) (fun hc => trivial) rfl rfl (.refl _)) fun _ => ?_
      refine sq rfl rfl hn rfl (zx rfl rfl rfl (by intro hB; first | (rw [hB]; rfl) | (rw [hB, hc]; rfl) | simp_all)) ?_
      refine sq rfl rfl hn rfl (zE rfl rfl) ?_
      refine zF (zA (zQ ?_))
      refine z6 (zu (.inl rfl) hl rfl (.tmp rfl)) ?_
      rw [T.is]
      cases hq : (firstAll b R (ot % 2 ^ (soldL b ws).length)).isSome
      ·
       rfl
      ·
       rw [T.no _ (by rw [hll]; exact hom) hq]; rfl
end Go.Proofs.YtplpcamcnppibaaGreatDoor
