/-
  The law ShortLeast returns true for every input, and leaves its arguments as they were: the given statement, whole. No condition.
-/
import Derived.Test.YtaokpncjemkhcaaGreatShortLeastN
namespace Go.Proofs.YtaokpncjemkhcaaGreat
open Go.RowKit
set_option maxRecDepth 20000
set_option linter.all false
theorem or8_i64 {a b : Nat} (ha : a < 1152921504606846976) (hb : b < 1152921504606846976) : bits .or .i64 (a : Int) (b : Int) = ((a ||| b : Nat) : Int) := by
  have hx : a ||| b < 2 ^ 60 := Nat.or_lt_two_pow (by omega) (by omega)
  have h1 : (BitVec.ofInt 64 (a : Int)).toNat = a := by
    rw [BitVec.ofInt_natCast, BitVec.toNat_ofNat]; exact Nat.mod_eq_of_lt (by omega)
  have h2 : (BitVec.ofInt 64 (b : Int)).toNat = b := by
    rw [BitVec.ofInt_natCast, BitVec.toNat_ofNat]; exact Nat.mod_eq_of_lt (by omega)
  show IntKind.i64.wrap ((BitVec.ofInt 64 (a : Int) ||| BitVec.ofInt 64 (b : Int)).toNat : Int) = _
  rw [BitVec.toNat_or, h1, h2]
  exact i64w (by omega) rfl
theorem and8_i64 {a b : Nat} (ha : a < 1152921504606846976) (hb : b < 1152921504606846976) : bits .and .i64 (a : Int) (b : Int) = ((a &&& b : Nat) : Int) := by
  have hx : a &&& b ≤ a := Nat.and_le_left
  have h1 : (BitVec.ofInt 64 (a : Int)).toNat = a := by
    rw [BitVec.ofInt_natCast, BitVec.toNat_ofNat]; exact Nat.mod_eq_of_lt (by omega)
  have h2 : (BitVec.ofInt 64 (b : Int)).toNat = b := by
    rw [BitVec.ofInt_natCast, BitVec.toNat_ofNat]; exact Nat.mod_eq_of_lt (by omega)
  show IntKind.i64.wrap ((BitVec.ofInt 64 (a : Int) &&& BitVec.ofInt 64 (b : Int)).toNat : Int) = _
  rw [BitVec.toNat_and, h1, h2]
  exact i64w (by omega) rfl
theorem zDO {l : Ldg} {o : Nat} (L : Lok l) : Lok (lendA l o) := lend_lok L yY
theorem zCU {l : Ldg} {o : Nat} (L : Lok l) (hne : handsR l ≠ []) : (buyX (lendA l o)).2 = 0 ∧ 0 ≤ (buyX (lendA l o)).1.2 ∧ ((buyX (lendA l o)).1.2 = 0 ↔ reP l (handsR l) o = true) := by
  have LA := zDO (o := o) L
  have hk : knownR (lendA l o) = (handsR (lendA l o), 0) := y9 (zCp LA) hne
  obtain ⟨g1, g2, g3, g4, _, h6, hm6, he6⟩ := buy_bds LA hk hne
  have hhs := zFc hk
  have hl : l.lends.length = houN l := by have := L.ln; have := L.hN; omega
  have key : ∀ h ∈ handsR l, boughtR (lendA l o) h = 0 ↔ canP (houN l) (lsB l o) h l.dues (fullD l.dues) = true := fun h hh => by
    have H := LA.hok (hhs h hh).2
    obtain ⟨_, _, _, e⟩ := zDj H
    rw [← lendA_can hl]
    have hn : Num0 l.dues := fun q hq => by have := L.dq q hq; omega
    exact best_zero (qs := l.dues) (can := canL (lendA l o) (houN l) h) hn e
  refine ⟨by rw [show buyX (lendA l o) = (buyR (owedI (lendA l o).dues) ((knownR (lendA l o)).1.map (boughtR (lendA l o))), 0) from if_neg (by rw [hk]; simp)], by omega, ?_⟩
  rw [reP_eq, List.all_eq_true]
  constructor
  · intro e h hh
    have := g4 h hh
    have := zAy (LA.hok (hhs h hh).2)
    exact (key h hh).1 (by omega)
  · intro e
    rw [← he6]; exact (key h6 hm6).2 (e h6 hm6)
theorem zFM {l : Ldg} (L : Lok l) (hk : knownR l = (handsR l, 0)) : ((enR l).isSome = true ↔ reP l (handsR l) (2 ^ houN l - 1) = true) ∧
    ∀ s, enR l = some s → wholeP (houN l) l.lends (handsR l) l.dues s = true ∧ RisI (houN l : Int) 0 s ∧ Poor (fun i => l.lends.getD i false) s ∧
      ∀ o, o < 2 ^ houN l → reP l (handsR l) o = true → lessB ((bitsI o).filter fun x => !(lendB l x)) s = false := by
  have hN := L.hN; have hln := L.ln
  have h := enough_laws (N := houN l) (lends := l.lends) (hands := handsR l) (qs := l.dues) (by omega) (by omega)
  have e : enR l = enoughR (wholeP (houN l) l.lends (handsR l) l.dues) (fun i => l.lends.getD i false) (houN l) := by unfold enR; rw [hk]; rfl
  rw [e]; exact h
theorem en_nine {l : Ldg} (hc : checkL l = 0) (h : (enoughX l).2 = 9) : handsR l = [] := by
  by_cases h0 : handsR l = []
  · exact h0
  · have hk := y9 hc h0
    cases he : enR l with
    | none => rw [zDw (by rw [hk]) he] at h; cases h
    | some s => rw [zCt (by rw [hk]) he] at h; cases h
theorem en_not9 {l : Ldg} (hc : checkL l = 0) (h : (enoughX l).2 ≠ 9) : handsR l ≠ [] := fun h0 => by
  have hk := zAN hc h0
  rw [zFC (by rw [hk]; decide), hk] at h; exact h rfl
theorem en_cases {l : Ldg} (L : Lok l) (hne : handsR l ≠ []) : ((enoughX l).2 = 0 ∧ (buyX (lendA l (2 ^ houN l - 1))).1.2 = 0 ∧ ∃ s, enR l = some s ∧ enoughX l = (s, 0)) ∨ ((enoughX l).2 = 10 ∧ (buyX (lendA l (2 ^ houN l - 1))).1.2 ≠ 0) := by
  have hk := y9 (zCp L) hne
  obtain ⟨a, _⟩ := zFM L hk
  obtain ⟨_, _, c⟩ := zCU (o := 2 ^ houN l - 1) L hne
  cases he : enR l with
  | some s =>
    have hx := zCt (by rw [hk]) he
    exact .inl ⟨by rw [hx], c.2 (a.1 (by rw [he]; rfl)), s, rfl, hx⟩
  | none =>
    have hx := zDw (by rw [hk]) he
    refine .inr ⟨by rw [hx], fun h => ?_⟩
    have := a.2 (c.1 h)
    rw [he] at this; cases this
theorem zEK {n : Int} : ∀ {s : List Int} {f : Int} {i : Nat} {x y : Int}, RisI n f s → s[i]? = some x → s[i + 1]? = some y → x < y
  | [], _, _, _, _, _, h, _ => by cases h
  | a :: r, f, 0, x, y, ⟨_, _, h3⟩, h1, h2 => by
    cases h1
    have := h3.mem y (List.mem_of_getElem? (i := 0) (by simpa using h2)); omega
  | a :: r, f, i + 1, x, y, ⟨_, _, h3⟩, h1, h2 => zEK h3 (by simpa using h1) (by simpa using h2)
theorem ris_prev {n : Int} {s : List Int} {f : Int} {i : Nat} {y : Int} (R : RisI n f s) (h : s[i]? = some y) (hi : 0 < i) : ∃ x, s[i - 1]? = some x ∧ x < y := by
  obtain ⟨j, rfl⟩ : ∃ j, i = j + 1 := ⟨i - 1, by omega⟩
  have hl := (List.getElem?_eq_some_iff.1 h).1
  obtain ⟨x, hx⟩ := zz (show j < s.length by omega)
  exact ⟨x, hx, zEK R hx h⟩
/-- Bits of the first numbers of a list. -/
def BitsOf (s : List Int) (i o : Nat) : Prop := ∀ k : Nat, o.testBit k = (s.take i).any fun y => y == (k : Int)
theorem bitsOf_zero {s : List Int} : BitsOf s 0 0 := fun k => by simp
theorem bitsOf_succ {s : List Int} {i o n : Nat} (h : BitsOf s i o) (hs : s[i]? = some (n : Int)) : BitsOf s (i + 1) (o ||| 2 ^ n) := fun k => by
  rw [Nat.testBit_or, h k, List.take_add_one, hs, List.any_append, Nat.testBit_two_pow]
  simp only [List.any_cons, List.any_nil, Bool.or_false, Option.toList_some]
  congr 1
  rw [Bool.eq_iff_iff, decide_eq_true_eq, beq_iff_eq]; omega
theorem or_lt {o n N : Nat} (h : o < 2 ^ N) (hn : n < N) : o ||| 2 ^ n < 2 ^ N := Nat.or_lt_two_pow h (Nat.pow_lt_pow_right (by omega) hn)
theorem bitsOf_all {s : List Int} {o N : Nat} (hN : N ≤ 16) (R : RisI (N : Int) 0 s) (h : BitsOf s s.length o) : s = bitsI o := by
  obtain ⟨o2, h2, e⟩ := zFh hN R
  have : o = o2 := Nat.eq_of_testBit_eq fun k => by
    rw [h k, List.take_length, Bool.eq_iff_iff, List.any_eq_true]
    constructor
    · rintro ⟨y, hy, e3⟩
      have e3 := eq_of_beq e3
      subst e3
      rw [e] at hy
      obtain ⟨k2, h4, _, h5⟩ := zAG.1 hy
      obtain rfl : k = k2 := by omega
      exact h5
    · intro hb
      refine ⟨(k : Int), ?_, by simp⟩
      rw [e]
      refine zAG.2 ⟨k, rfl, ?_, hb⟩
      by_cases hk : k < 16
      · exact hk
      · have := Nat.testBit_lt_two_pow (Nat.lt_of_lt_of_le h2 (Nat.pow_le_pow_right (by omega) (show N ≤ k by omega)))
        rw [this] at hb; cases hb
  rw [this]; exact e
theorem whole_o {l : Ldg} (L : Lok l) {s : List Int} {o : Nat} (h : wholeP (houN l) l.lends (handsR l) l.dues s = true) (e : s = bitsI o) : reP l (handsR l) o = true := by
  have hN := L.hN; have hln := L.ln
  subst e
  rw [zBH (by omega) (by omega)] at h; exact h
def poorB (l : Ldg) (o i : Nat) : List Int := (bitN o i).filter fun x => !(lendB l x)
theorem poor_t {l : Ldg} {o i : Nat} (h : (o.testBit i && !(l.lends.getD i false)) = true) : (poorB l o i).map intE ++ [intE (i : Nat)] = (poorB l o (i + 1)).map intE := by
  rw [Bool.and_eq_true] at h
  have h2 : (!(lendB l (i : Int))) = true := h.2
  unfold poorB; rw [zBV, h.1, cond_true, List.filter_append, List.map_append]
  simp [List.filter, h2]
theorem poor_f {l : Ldg} {o i : Nat} (h : (o.testBit i && !(l.lends.getD i false)) = false) : poorB l o i = poorB l o (i + 1) := by
  unfold poorB; rw [zBV]
  cases h1 : o.testBit i with
  | false => rfl
  | true =>
    rw [h1, Bool.true_and] at h
    have h2 : (!(lendB l (i : Int))) = false := h
    rw [cond_true, List.filter_append]
    simp [List.filter, h2]
theorem poorB_len {l : Ldg} {o i : Nat} : (poorB l o i).length ≤ i := Nat.le_trans (List.length_filter_le _ _) zEN
theorem poor_all {l : Ldg} {o N : Nat} (h : o < 2 ^ N) (hN : N ≤ 16) : poorB l o N = (bitsI o).filter fun x => !(lendB l x) := by
  unfold poorB bitsI; rw [zEC h 16 hN]
theorem mod_and {u N : Nat} (hu : u < 256) (hN : N ≤ 4) : bits .and .i64 ((u : Nat) : Int) ((2 ^ N - 1 : Nat) : Int) = ((u % 2 ^ N : Nat) : Int) := by
  have hp : 2 ^ N ≤ 16 := Nat.le_trans (Nat.pow_le_pow_right (by omega) hN) (Nat.le_refl _)
  rw [and8_i64 (by omega) (by omega), Nat.and_two_pow_sub_one_eq_mod]
theorem zFu {i : Nat} {a : Bool} (h : (a && (decide ((0 : Int) < (i : Int)) == true)) = true) : 0 < i := by simp only [Bool.and_eq_true, beq_iff_eq, decide_eq_true_eq] at h; omega
theorem least_fin {h1 : Int} {b : Bool} (h : h1 = 0 → b = false) (h0 : 0 ≤ h1) : (decide (0 < h1) || !b) = true := by
  by_cases e : h1 = 0
  · rw [h e]; simp
  · rw [decide_eq_true (by omega)]; rfl
theorem ShortLeast_ok (l : Ldg) (u : Nat) (hu5 : u < 256) : PureAt Tryz.prog 10 [ldgD l, .int .u8 (u : Nat)] (.bool true) := by
 refine PureAt.of_awp Tryz.func10 rfl (by kernel_rfl) (Nat.le_of_ble_eq_true rfl) fun Γ hn hl => ?_
 refine zD (zB ?_)
 refine stepW (zt 2 rfl rfl rfl (nb hn rfl) rfl rfl) fun b2 => ?_
 refine sq rfl rfl hn rfl (zF rfl rfl) ?_
 refine zE (zA (zD (zD ?_)))
 refine zy (zn (t := 2) 2 rfl (nb hn rfl) rfl rfl trivial) ?_
 refine zB ?_
 refine sq rfl rfl hn rfl (ze rfl rfl Tryz.underlying33 rfl sz33 rfl rfl seesF0) ?_
 refine stepW (s_call [] (fun _ => ready8_ok l) rfl (zI rfl) rfl (nb hn rfl) (fun _ => trivial) rfl rfl (.refl _)) fun _ => ?_
 refine sq rfl rfl hn rfl (yD rfl rfl) ?_
 refine zE (zA ?_)
 refine zQ rfl (fun hb0 => ?_) (fun hb0 => ?_)
 ·
  refine zD (zB ?_)
  refine stepW (s_call [] (fun _ => zBb) rfl (zI rfl) rfl (nb hn rfl) (fun _ => trivial) rfl rfl (.refl _)) fun _ => ?_
  refine sq rfl rfl hn rfl (zF rfl rfl) ?_
  refine zE (zA (zP (zL ?_)))
  refine zh (zl (.inl rfl) hl rfl (.tmp rfl)) ?_
  rfl
 ·
  obtain ⟨hth, hc⟩ := ready_in hb0
  have L := zAV hc
  obtain ⟨z1, z2, z3, z4, z5⟩ := thin_sz hth
  have hN := L.hN
  have hln : l.lends.length = houN l := by have := L.ln; omega
  have hp : 2 ^ houN l ≤ 16 := Nat.le_trans (Nat.pow_le_pow_right (by omega) hN.2.1) (Nat.le_refl _)
  have hp1 := Nat.two_pow_pos (houN l)
  refine zS (zA (zD (zB ?_)))
  refine sq rfl rfl hn rfl (ze rfl rfl Tryz.underlying33 rfl sz33 rfl rfl seesF0) ?_
  refine stepW (s_call [] (fun _ => zAs l (by omega) (by omega) (by omega) (by omega) (by omega)) rfl (zI rfl) rfl (nb hn rfl) (fun _ => trivial) rfl rfl (.refl _)) fun _ => ?_
  refine stepW (s_call [] (fun _ => zDH l) rfl (zI rfl) rfl (nb hn rfl) (fun _ => trivial) rfl rfl (.refl _)) fun _ => ?_
  refine sq rfl rfl hn rfl (zG rfl rfl) ?_
  refine sq rfl rfl hn rfl (zY rfl rfl rfl) ?_
  refine sq rfl rfl hn rfl (zY rfl rfl rfl) ?_
  refine sq rfl rfl hn rfl (zF rfl rfl) ?_
  refine sq rfl rfl hn rfl (zF rfl rfl) ?_
  refine zE (zA (zD (zB ?_)))
  refine sq rfl rfl hn rfl (zO rfl rfl Tryz.underlying33 rfl sz26 rfl) ?_
  refine sq rfl rfl hn rfl (zO rfl rfl Tryz.underlying26 rfl sz3 rfl) ?_
  refine sq rfl rfl hn rfl (zR rfl rfl Tryz.underlying3 rfl seesF0) ?_
  refine sq rfl rfl hn rfl (zBx rfl rfl Tryz.underlying3 Tryz.underlying78 (r := ((houN l : Nat) : Int)) (u64w (by omega) (by omega))) ?_
  refine sq rfl rfl hn rfl (zFj (r := ((2 ^ houN l : Nat) : Int)) rfl rfl rfl (by omega) (by simp [IntKind.bits]; omega) (zE1 (by omega))) ?_
  refine sq rfl rfl hn rfl (kS rfl rfl rfl (r := ((2 ^ houN l - 1 : Nat) : Int)) (by show IntKind.i64.wrap (((2 ^ houN l : Nat) : Int) - 1) = _; exact i64w (by omega) (by omega))) ?_
  refine sq rfl rfl hn rfl (zF rfl rfl) ?_
  refine zE (zA (zD (zB ?_)))
  refine sq rfl rfl hn rfl (ze rfl rfl Tryz.underlying33 rfl sz33 rfl rfl seesF0) ?_
  refine sq rfl rfl hn rfl (zG rfl rfl) ?_
  refine stepW (s_call [] (fun _ => zBA l (2 ^ houN l - 1) (by omega) (by omega)) rfl (zI rfl) rfl (nb hn rfl) (fun _ => trivial) rfl rfl (.refl _)) fun _ => ?_
  refine stepW (s_call [] (fun _ => zAs (lendA l (2 ^ houN l - 1)) (by show l.reg.start.length ≤ _; omega) (by show l.reg.entries.length ≤ _; omega) (by show l.reg.sights.length ≤ _; omega) (by show l.dues.length ≤ _; omega) (by show (lendTo l _ _).length ≤ _; rw [yY]; omega)) rfl (zI rfl) rfl (nb hn rfl) (fun _ => trivial) rfl rfl (.refl _)) fun _ => ?_
  refine stepW (s_call [] (fun _ => zAz (lendA l (2 ^ houN l - 1))) rfl (zI rfl) rfl (nb hn rfl) (fun _ => trivial) rfl rfl (.refl _)) fun _ => ?_
  refine sq rfl rfl hn rfl (zG rfl rfl) ?_
  refine sq rfl rfl hn rfl (zY rfl rfl rfl) ?_
  refine sq rfl rfl hn rfl (zY rfl rfl rfl) ?_
  refine stepW (zi 8 rfl rfl rfl (nb hn rfl) zr62 rfl rfl) fun b8 => ?_
  refine stepW (zm rfl rfl rfl rfl rfl rfl (id := 8) rfl sz62 rfl (Nat.le_of_ble_eq_true rfl) rfl trivial) fun _ => ?_
  refine sq rfl rfl hn rfl (zF rfl rfl) ?_
  refine zE (zA (zD (zD (zB ?_))))
  refine sq rfl rfl hn rfl (zG rfl rfl) ?_
  refine sq rfl rfl hn rfl (yK rfl rfl rfl) ?_
  refine zE (zA ?_)
  refine zQ rfl (fun hb1 => ?_) (fun hb1 => ?_)
  ·
   have he9 : (enoughX l).2 = 9 := by simpa using hb1
   have h0 := en_nine hc he9
   have hkA : knownR (lendA l (2 ^ houN l - 1)) = ([], 9) := zAN (zCp (zDO L)) h0
   have hbA := buyX_bad (l := (lendA l (2 ^ houN l - 1))) (by rw [hkA]; decide)
   refine zD (zB ?_)
   refine sq rfl rfl hn rfl (zG rfl rfl) ?_
   refine sq rfl rfl hn rfl (zG rfl rfl) ?_
   refine sq rfl rfl hn rfl (yK rfl rfl rfl) ?_
   refine sq rfl rfl hn rfl (zG rfl rfl) ?_
   refine stepW (s_call [] (fun hc => zBb) rfl (zC rfl rfl rfl) rfl (nb hn rfl) (fun hc => trivial) rfl rfl (.refl _)) fun _ => ?_
   refine sq rfl rfl hn rfl (z7 rfl rfl rfl (by intro hB; first | (rw [hB]; rfl) | (rw [hB, hc]; rfl) | simp_all)) ?_
   refine sq rfl rfl hn rfl (zF rfl rfl) ?_
   refine zE (zA (zP (zL ?_)))
   refine zh (zl (.inl rfl) hl rfl (.tmp rfl)) ?_
   rw [hbA, hkA, he9]; rfl
  ·
   have hne := en_not9 hc (by simpa using hb1)
   have hk := y9 hc hne
   obtain ⟨hA2, hA0, hAz⟩ := zCU (o := 2 ^ houN l - 1) L hne
   have hcs := en_cases L hne
   refine zS (zA (zD (zD (zB ?_))))
   refine sq rfl rfl hn rfl (zG rfl rfl) ?_
   refine sq rfl rfl hn rfl (yU rfl rfl rfl) ?_
   refine sq rfl rfl hn rfl (zG rfl rfl) ?_
   refine stepG [] (zC rfl rfl rfl) rfl (nb hn rfl) (fun hc => trivial) (fun hc => zG rfl rfl) ?_
   refine stepG [(54, _)] (zC rfl rfl rfl) rfl (nb hn rfl) (fun hc => ⟨⟨_, rfl, hc⟩, trivial⟩) (fun hc => yU rfl rfl rfl) ?_
   refine stepG [(55, _)] (zC rfl rfl rfl) rfl (nb hn rfl) (fun hc => ⟨⟨_, rfl, hc⟩, trivial⟩) (fun hc => zG rfl rfl) ?_
   refine stepG [] (zC rfl rfl rfl) rfl (nb hn rfl) (fun hc => trivial) (fun hc => zG rfl rfl) ?_
   refine stepG [(57, _)] (zC rfl rfl rfl) rfl (nb hn rfl) (fun hc => ⟨⟨_, rfl, hc⟩, trivial⟩) (fun hc => yU rfl rfl rfl) ?_
   refine stepG [(56, _)] (zC rfl rfl rfl) rfl (nb hn rfl) (fun hc => ⟨⟨_, rfl, hc⟩, trivial⟩) (fun hc => z7 rfl rfl rfl (by intro hB; first | (rw [hB]; rfl) | (rw [hB, hc]; rfl) | simp_all)) ?_
   refine sq rfl rfl hn rfl (q_or rfl rfl rfl (by intro hB; first | (rw [hB]; rfl) | (rw [hB, hc]; rfl) | simp_all)) ?_
   refine sq rfl rfl hn rfl (zG rfl rfl) ?_
   refine stepG [] (zC rfl rfl rfl) rfl (nb hn rfl) (fun hc => trivial) (fun hc => zG rfl rfl) ?_
   refine stepG [(62, _)] (zC rfl rfl rfl) rfl (nb hn rfl) (fun hc => ⟨⟨_, rfl, hc⟩, trivial⟩) (fun hc => yK rfl rfl rfl) ?_
   refine stepG [] (zC rfl rfl rfl) rfl (nb hn rfl) (fun hc => trivial) (fun hc => zH rfl rfl Tryz.underlying62 rfl sz3) ?_
   refine stepG [(64, _)] (zC rfl rfl rfl) rfl (nb hn rfl) (fun hc => ⟨⟨_, rfl, hc⟩, trivial⟩) (fun hc => zN rfl rfl (id := 8) rfl Tryz.underlying3 rfl rfl sees0) ?_
   refine stepG [(65, _)] (zC rfl rfl rfl) rfl (nb hn rfl) (fun hc => ⟨⟨_, rfl, hc⟩, trivial⟩) (fun hc => yK rfl rfl rfl) ?_
   refine stepG [(63, _), (66, _)] (zC rfl rfl rfl) rfl (nb hn rfl) (fun hc => ⟨⟨_, rfl, hc⟩, ⟨_, rfl, hc⟩, trivial⟩) (fun hc => q_neqB rfl rfl rfl Tryz.underlying4) ?_
   refine sq rfl rfl hn rfl (q_or rfl rfl rfl (by intro hB; first | (rw [hB]; rfl) | (rw [hB, hc]; rfl) | simp_all)) ?_
   refine zE (zA ?_)
   refine zQ rfl (fun hb2 => ?_) (fun hb2 => ?_)
   ·
    rcases hcs with ⟨a, b, _⟩ | ⟨a, b⟩ <;> simp [hA2, a, b] at hb2
   ·
    refine zS (zA (zD (zD (zB ?_))))
    refine sq rfl rfl hn rfl (zG rfl rfl) ?_
    refine sq rfl rfl hn rfl (yU rfl rfl rfl) ?_
    refine zE (zA ?_)
    refine zQ rfl (fun hb3 => ?_) (fun hb3 => ?_)
    ·
     refine zD (zB ?_)
     refine stepW (s_call [] (fun _ => zBb) rfl (zI rfl) rfl (nb hn rfl) (fun _ => trivial) rfl rfl (.refl _)) fun _ => ?_
     refine sq rfl rfl hn rfl (zF rfl rfl) ?_
     refine zE (zA (zP (zL ?_)))
     refine zh (zl (.inl rfl) hl rfl (.tmp rfl)) ?_
     rfl
    ·
     obtain ⟨s, hs, hex⟩ : ∃ s, enR l = some s ∧ enoughX l = (s, 0) := by (have he0 : (enoughX l).2 = 0 := by simpa using hb3); rcases hcs with ⟨_, _, h⟩ | ⟨a, _⟩; exact h; (rw [a] at he0; cases he0)
     obtain ⟨hW, hR, hP, hmin⟩ := (zFM L hk).2 s hs
     have hx1 : (enoughX l).1 = s := congrArg Prod.fst hex
     have hsl : s.length ≤ 4 := by rcases hR.len with h | h; (rw [h]; simp); omega
     refine zS (zA (zD (zB ?_)))
     refine sq rfl rfl hn rfl (zF rfl rfl) ?_
     refine zE (zA (zD (zD (zB ?_))))
     refine sq rfl rfl hn rfl (zF rfl rfl) ?_
     refine zE (zA (zT ?_))
     refine awp_loop_on (ι := {x : Nat × Nat // x.1 ≤ s.length ∧ x.2 < 2 ^ houN l ∧ BitsOf s x.1 x.2}) (fun x => (10, true, .d (.int .i64 (x.1.2 : Nat))) :: (11, true, .d (.int .i64 (x.1.1 : Nat))) :: anys [72, 73, 74, 75, 78, 79, 80, 81, 82, 83, 84, 85, 86, 87, 88, 89, 90, 91, 92, 93, 94, 95, 96, 97, 98, 99, 100, 101, 102, 103, 104, 105, 106, 107, 108, 109, 110, 111, 112, 113, 114, 115, 116, 117, 118, 119, 120, 121, 122, 123, 124, 125, 126, 76, 77]) (fun x => []) (fun x => s.length - x.1.1) ⟨(0, 0), Nat.zero_le _, hp1, bitsOf_zero⟩ ⟨.inl rfl, .inl rfl, zK _⟩ trivial ?_
     rintro ⟨⟨i, o⟩, hi, ho, hbo⟩
     dsimp only
     dsimp only at hi ho hbo
     refine zD (zD (zB ?_))
     refine sq rfl rfl hn rfl (zG rfl rfl) ?_
     refine sq rfl rfl hn rfl (zG rfl rfl) ?_
     refine sq rfl rfl hn rfl (zx rfl rfl Tryz.underlying22) ?_
     refine sq rfl rfl hn rfl (yH rfl rfl rfl) ?_
     refine zE (zA ?_)
     refine zQ rfl (fun hb4 => ?_) (fun hb4 => ?_)
     ·
      have hil : i < s.length := by (have h7 := of_decide_eq_true hb4; rw [hx1, List.length_map] at h7; omega)
      obtain ⟨z, hz⟩ := zz hil
      have hzb := hR.mem z (List.mem_of_getElem? hz)
      have hzp := hP z (List.mem_of_getElem? hz)
      obtain ⟨n, rfl⟩ : ∃ n : Nat, z = (n : Int) := ⟨z.toNat, by omega⟩
      have hnN : n < houN l := by omega
      have hz1 : (enoughX l).1[i]? = some (n : Int) := by rw [hx1]; exact hz
      obtain ⟨bl, hbl⟩ := zz (show n < l.lends.length by omega)
      obtain rfl : bl = false := by (have : l.lends.getD n false = false := hzp; rw [List.getD_eq_getElem?_getD, hbl] at this; exact this)
      obtain ⟨w, hw, hwn⟩ : ∃ w, (0 < i → (enoughX l).1[i - 1]? = some w) ∧ (0 < i → w < (n : Int)) := by (by_cases h0 : 0 < i); (obtain ⟨x, h1, h2⟩ := ris_prev hR hz h0; exact ⟨x, fun _ => by rw [hx1]; exact h1, fun _ => h2⟩); exact ⟨0, fun h => absurd h h0, fun h => absurd h h0⟩
      refine zS (zA (zD (zT (zD (zD ?_)))))
      refine yA (W := fun b => True) fmo ?_
      refine d1q (i := 0) rfl (by kernel_rfl) (fun _ _ _ _ h => h) rfl rfl hn rfl (zG rfl rfl) ?_
      refine d1q (i := 1) rfl (by kernel_rfl) (fun _ _ _ _ h => h) rfl rfl hn rfl (zG rfl rfl) ?_
      refine d1q (i := 2) rfl (by kernel_rfl) (fun _ _ _ _ h => h) rfl rfl hn rfl (q_index (i := i) rfl rfl rfl Tryz.underlying22 sz3 rfl (mget hz1)) ?_
      refine d1q (i := 3) rfl (by kernel_rfl) (fun _ _ _ _ h => h) rfl rfl hn rfl (zR rfl rfl Tryz.underlying3 rfl seesFA) ?_
      refine d1q (i := 4) rfl (by kernel_rfl) (fun _ _ _ _ h => h) rfl rfl hn rfl (yH rfl rfl rfl) ?_
      refine d1q (i := 5) rfl (by kernel_rfl) (fun _ _ _ _ h => h) rfl rfl hn rfl (zG rfl rfl) ?_
      refine d1g (i := 6) [] rfl (by kernel_rfl) (fun _ _ _ _ h => h) (zC rfl rfl rfl) rfl hn rfl (fun hc => trivial) (fun hc => zG rfl rfl) ?_
      refine d1g (i := 7) [] rfl (by kernel_rfl) (fun _ _ _ _ h => h) (zC rfl rfl rfl) rfl hn rfl (fun hc => trivial) (fun hc => zG rfl rfl) ?_
      refine d1g (i := 8) [(84, _), (85, _)] rfl (by kernel_rfl) (fun _ _ _ _ h => h) (zC rfl rfl rfl) rfl hn rfl (fun hc => ⟨⟨_, rfl, hc⟩, ⟨_, rfl, hc⟩, trivial⟩) (fun hc => q_index (i := i) rfl rfl rfl Tryz.underlying22 sz3 rfl (mget hz1)) ?_
      refine d1g (i := 9) [(86, _)] rfl (by kernel_rfl) (fun _ _ _ _ h => h) (zC rfl rfl rfl) rfl hn rfl (fun hc => ⟨⟨_, rfl, hc⟩, trivial⟩) (fun hc => zR rfl rfl Tryz.underlying3 rfl seesFA) ?_
      refine d1g (i := 10) [] rfl (by kernel_rfl) (fun _ _ _ _ h => h) (zC rfl rfl rfl) rfl hn rfl (fun hc => trivial) (fun hc => zO rfl rfl Tryz.underlying33 rfl sz26 rfl) ?_
      refine d1g (i := 11) [(88, _)] rfl (by kernel_rfl) (fun _ _ _ _ h => h) (zC rfl rfl rfl) rfl hn rfl (fun hc => ⟨⟨_, rfl, hc⟩, trivial⟩) (fun hc => zO rfl rfl Tryz.underlying26 rfl sz3 rfl) ?_
      refine d1g (i := 12) [(89, _)] rfl (by kernel_rfl) (fun _ _ _ _ h => h) (zC rfl rfl rfl) rfl hn rfl (fun hc => ⟨⟨_, rfl, hc⟩, trivial⟩) (fun hc => zR rfl rfl Tryz.underlying3 rfl seesFA) ?_
      refine d1g (i := 13) [(87, _), (90, _)] rfl (by kernel_rfl) (fun _ _ _ _ h => h) (zC rfl rfl rfl) rfl hn rfl (fun hc => ⟨⟨_, rfl, hc⟩, ⟨_, rfl, hc⟩, trivial⟩) (fun hc => zBm rfl rfl rfl) ?_
      refine d1q (i := 14) rfl (by kernel_rfl) (fun _ _ _ _ h => h) rfl rfl hn rfl (q_or rfl rfl rfl (by intro hB; first | (rw [hB]; rfl) | (rw [hB, hc]; rfl) | simp_all)) ?_
      refine d1q (i := 15) rfl (by kernel_rfl) (fun _ _ _ _ h => h) rfl rfl hn rfl (zG rfl rfl) ?_
      refine d1g (i := 16) [] rfl (by kernel_rfl) (fun _ _ _ _ h => h) (zC rfl rfl rfl) rfl hn rfl (fun hc => trivial) (fun hc => zG rfl rfl) ?_
      refine d1g (i := 17) [(94, _)] rfl (by kernel_rfl) (fun _ _ _ _ h => h) (zC rfl rfl rfl) rfl hn rfl (fun hc => ⟨⟨_, rfl, hc⟩, trivial⟩) (fun hc => y7 rfl rfl rfl) ?_
      refine d1g (i := 18) [(95, _)] rfl (by kernel_rfl) (fun _ _ _ _ h => h) (zC rfl rfl rfl) rfl hn rfl (fun hc => ⟨⟨_, rfl, hc⟩, trivial⟩) (fun hc => zG rfl rfl) ?_
      refine d1g (i := 19) [] rfl (by kernel_rfl) (fun _ _ _ _ h => h) (zC rfl rfl rfl) rfl hn rfl (fun hc => trivial) (fun hc => zG rfl rfl) ?_
      refine d1g (i := 20) [] rfl (by kernel_rfl) (fun _ _ _ _ h => h) (zC rfl rfl rfl) rfl hn rfl (fun hc => trivial) (fun hc => zG rfl rfl) ?_
      refine d1g (i := 21) [(97, _), (98, _)] rfl (by kernel_rfl) (fun _ _ _ _ h => h) (zC rfl rfl rfl) rfl hn rfl (fun hc => ⟨⟨_, rfl, hc⟩, ⟨_, rfl, hc⟩, trivial⟩) (fun hc => q_index (i := i) rfl rfl rfl Tryz.underlying22 sz3 rfl (mget hz1)) ?_
      refine d1g (i := 22) [(99, _)] rfl (by kernel_rfl) (fun _ _ _ _ h => h) (zC rfl rfl rfl) rfl hn rfl (fun hc => ⟨⟨_, rfl, hc⟩, trivial⟩) (fun hc => zR rfl rfl Tryz.underlying3 rfl seesFA) ?_
      refine d1g (i := 23) [] rfl (by kernel_rfl) (fun _ _ _ _ h => h) (zC rfl rfl rfl) rfl hn rfl (fun hc => trivial) (fun hc => zG rfl rfl) ?_
      refine d1g (i := 24) [] rfl (by kernel_rfl) (fun _ _ _ _ h => h) (zC rfl rfl rfl) rfl hn rfl (fun hc => trivial) (fun hc => zG rfl rfl) ?_
      refine d1g (i := 25) [(102, _)] rfl (by kernel_rfl) (fun _ _ _ _ h => h) (zC rfl rfl rfl) rfl hn rfl (fun hc => ⟨⟨_, rfl, hc⟩, trivial⟩) (fun hc => kS rfl rfl rfl (r := ((i - 1 : Nat) : Int)) (by have h0 := zFu hc; show IntKind.i64.wrap ((i : Int) - 1) = _; exact i64w (by omega) (by omega))) ?_
      refine d1g (i := 26) [(101, _), (103, _)] rfl (by kernel_rfl) (fun _ _ _ _ h => h) (zC rfl rfl rfl) rfl hn rfl (fun hc => ⟨⟨_, rfl, hc⟩, ⟨_, rfl, hc⟩, trivial⟩) (fun hc => q_index (i := i - 1) rfl rfl rfl Tryz.underlying22 sz3 rfl (mget (hw (zFu hc)))) ?_
      refine d1g (i := 27) [(104, _)] rfl (by kernel_rfl) (fun _ _ _ _ h => h) (zC rfl rfl rfl) rfl hn rfl (fun hc => ⟨⟨_, rfl, hc⟩, trivial⟩) (fun hc => zR rfl rfl Tryz.underlying3 rfl seesFA) ?_
      refine d1g (i := 28) [(100, _), (105, _)] rfl (by kernel_rfl) (fun _ _ _ _ h => h) (zC rfl rfl rfl) rfl hn rfl (fun hc => ⟨⟨_, rfl, hc⟩, ⟨_, rfl, hc⟩, trivial⟩) (fun hc => kl rfl rfl rfl) ?_
      refine d1g (i := 29) [(96, _)] rfl (by kernel_rfl) (fun _ _ _ _ h => h) (zC rfl rfl rfl) rfl hn rfl (fun hc => ⟨⟨_, rfl, hc⟩, trivial⟩) (fun hc => z7 rfl rfl rfl (by intro hB; first | (rw [hB]; rfl) | (rw [hB, hc]; rfl) | simp_all)) ?_
      refine d1q (i := 30) rfl (by kernel_rfl) (fun _ _ _ _ h => h) rfl rfl hn rfl (q_or rfl rfl rfl (by intro hB; first | (rw [hB]; rfl) | (rw [hB, hc]; rfl) | simp_all)) ?_
      refine d1q (i := 31) rfl (by kernel_rfl) (fun _ _ _ _ h => h) rfl rfl hn rfl (zG rfl rfl) ?_
      refine d1g (i := 32) [] rfl (by kernel_rfl) (fun _ _ _ _ h => h) (zC rfl rfl rfl) rfl hn rfl (fun hc => trivial) (fun hc => zO rfl rfl Tryz.underlying33 rfl sz30 rfl) ?_
      refine d1g (i := 33) [(110, _)] rfl (by kernel_rfl) (fun _ _ _ _ h => h) (zC rfl rfl rfl) rfl hn rfl (fun hc => ⟨⟨_, rfl, hc⟩, trivial⟩) (fun hc => zR rfl rfl Tryz.underlying30 rfl seesFA) ?_
      refine d1g (i := 34) [] rfl (by kernel_rfl) (fun _ _ _ _ h => h) (zC rfl rfl rfl) rfl hn rfl (fun hc => trivial) (fun hc => zG rfl rfl) ?_
      refine d1g (i := 35) [] rfl (by kernel_rfl) (fun _ _ _ _ h => h) (zC rfl rfl rfl) rfl hn rfl (fun hc => trivial) (fun hc => zG rfl rfl) ?_
      refine d1g (i := 36) [(112, _), (113, _)] rfl (by kernel_rfl) (fun _ _ _ _ h => h) (zC rfl rfl rfl) rfl hn rfl (fun hc => ⟨⟨_, rfl, hc⟩, ⟨_, rfl, hc⟩, trivial⟩) (fun hc => q_index (i := i) rfl rfl rfl Tryz.underlying22 sz3 rfl (mget hz1)) ?_
      refine d1g (i := 37) [(114, _)] rfl (by kernel_rfl) (fun _ _ _ _ h => h) (zC rfl rfl rfl) rfl hn rfl (fun hc => ⟨⟨_, rfl, hc⟩, trivial⟩) (fun hc => zR rfl rfl Tryz.underlying3 rfl seesFA) ?_
      refine d1g (i := 38) [(111, _), (115, _)] rfl (by kernel_rfl) (fun _ _ _ _ h => h) (zC rfl rfl rfl) rfl hn rfl (fun hc => ⟨⟨_, rfl, hc⟩, ⟨_, rfl, hc⟩, trivial⟩) (fun hc => q_index (i := n) rfl rfl rfl Tryz.underlying30 sz4 rfl (mget hbl)) ?_
      refine d1g (i := 39) [(116, _)] rfl (by kernel_rfl) (fun _ _ _ _ h => h) (zC rfl rfl rfl) rfl hn rfl (fun hc => ⟨⟨_, rfl, hc⟩, trivial⟩) (fun hc => zR rfl rfl Tryz.underlying4 rfl seesFA) ?_
      refine d1q (i := 40) rfl (by kernel_rfl) (fun _ _ _ _ h => h) rfl rfl hn rfl (q_or rfl rfl rfl (by intro hB; first | (rw [hB]; rfl) | (rw [hB, hc]; rfl) | simp_all)) ?_
      refine zM ?_
      refine zq (by kernel_rfl) ?_
      refine zA ?_
      refine zQ rfl (fun hb5 => ?_) (fun hb5 => ?_)
      ·
       by_cases h0 : 0 < i; (have := hwn h0; simp at hb5; omega); (simp at hb5; omega)
      ·
       refine zS (zA (zB ?_))
       refine sq rfl rfl hn rfl (zG rfl rfl) ?_
       refine sq rfl rfl hn rfl (zG rfl rfl) ?_
       refine sq rfl rfl hn rfl (zG rfl rfl) ?_
       refine sq rfl rfl hn rfl (q_index (i := i) rfl rfl rfl Tryz.underlying22 sz3 rfl (mget hz1)) ?_
       refine sq rfl rfl hn rfl (zR rfl rfl Tryz.underlying3 rfl seesF0) ?_
       refine sq rfl rfl hn rfl (zBx rfl rfl Tryz.underlying3 Tryz.underlying78 (r := ((n : Nat) : Int)) (u64w (by omega) rfl)) ?_
       refine sq rfl rfl hn rfl (zFj (r := ((2 ^ n : Nat) : Int)) rfl rfl rfl (by omega) (by simp [IntKind.bits]; omega) (zE1 (by omega))) ?_
       refine sq rfl rfl hn rfl (zFG (r := ((o ||| 2 ^ n : Nat) : Int)) rfl rfl rfl (or8_i64 (by omega) (by have := Nat.pow_lt_pow_right (a := 2) (by omega) hnN; omega))) ?_
       refine sq rfl rfl hn rfl (zF rfl rfl) ?_
       refine zE (zX (zA (zB ?_)))
       refine sq rfl rfl hn rfl (zG rfl rfl) ?_
       refine sq rfl rfl hn rfl (z6 rfl rfl rfl (r := ((i + 1 : Nat) : Int)) (i64w (by omega) (by omega))) ?_
       refine sq rfl rfl hn rfl (zF rfl rfl) ?_
       refine zE ?_
       exact zW ⟨(i + 1, o ||| 2 ^ n), by omega, or_lt ho hnN, bitsOf_succ hbo hz⟩ ⟨.inl rfl, .inl rfl, zK _⟩ trivial (by simp only; omega) (by repeat (first | exact kr _ | refine kc rfl ?_)) (by repeat (first | exact kr _ | refine kc rfl ?_))
     ·
      obtain rfl : i = s.length := by (have h7 := of_decide_eq_false hb4; rw [hx1, List.length_map] at h7; omega)
      have hse := bitsOf_all (by omega) hR hbo
      have hro := whole_o L hW hse
      obtain ⟨hB2, hB0, hBz⟩ := zCU (o := o) L hne
      have hB1 := hBz.2 hro
      refine zp (zJ (zJ (zU (zA (zD (zB ?_))))))
      refine sq rfl rfl hn rfl (zF rfl rfl) ?_
      refine zE (zA (zD ?_))
      refine zy (g_nil (t := 12) (id := 12) 3 1 rfl (nb hn rfl)) ?_
      refine zB ?_
      refine sq rfl rfl hn rfl (zG rfl rfl) ?_
      refine sq rfl rfl hn rfl (zBx rfl rfl Tryz.underlying5 Tryz.underlying3 (r := ((u : Nat) : Int)) (i64w (by omega) rfl)) ?_
      refine sq rfl rfl hn rfl (zG rfl rfl) ?_
      refine sq rfl rfl hn rfl (zE0 (r := ((u % 2 ^ houN l : Nat) : Int)) rfl rfl rfl (mod_and hu5 hN.2.1)) ?_
      refine sq rfl rfl hn rfl (zF rfl rfl) ?_
      refine zE (zA (zD (zD ?_)))
      obtain ⟨o2, ho2⟩ : ∃ o2 : Nat, o2 = u % 2 ^ houN l := ⟨_, rfl⟩
      have ho2l : o2 < 2 ^ houN l := by rw [ho2]; exact Nat.mod_lt _ hp1
      rw [← ho2]
      obtain ⟨hC2, hC0, hCz⟩ := zCU (o := o2) L hne
      refine zB ?_
      refine sq rfl rfl hn rfl (zF rfl rfl) ?_
      refine zE (zA (zT ?_))
      refine awp_loop_on (ι := {x : Nat × Value // x.1 ≤ houN l}) (fun x => (12, true, .val x.1.2) :: (14, true, .d (.int .i64 (x.1.1 : Nat))) :: anys [131, 132, 133, 134, 135, 138, 139, 140, 141, 142, 143, 144, 145, 146, 147, 148, 149, 150, 151, 152, 153, 154, 155, 136, 137]) (fun x => [(12, .row x.1.2 3 1 ((poorB l o2 x.1.1).map intE))]) (fun x => houN l - x.1.1) ⟨(0, _), Nat.zero_le _⟩ ⟨.inl rfl, .inl rfl, zK _⟩ ⟨.inl rfl, trivial⟩ ?_
      rintro ⟨⟨j, vv⟩, hj⟩
      dsimp only
      dsimp only at hj
      have hpl := poorB_len (l := l) (o := o2) (i := j)
      refine zD (zD (zB ?_))
      refine sq rfl rfl hn rfl (zG rfl rfl) ?_
      refine sq rfl rfl hn rfl (zO rfl rfl Tryz.underlying33 rfl sz26 rfl) ?_
      refine sq rfl rfl hn rfl (zO rfl rfl Tryz.underlying26 rfl sz3 rfl) ?_
      refine sq rfl rfl hn rfl (zR rfl rfl Tryz.underlying3 rfl seesF0) ?_
      refine sq rfl rfl hn rfl (yH rfl rfl rfl) ?_
      refine zE (zA ?_)
      refine zQ rfl (fun hb6 => ?_) (fun hb6 => ?_)
      ·
       have hjl : j < houN l := by have h7 := of_decide_eq_true hb6; omega
       obtain ⟨bj, hbj⟩ := zz (show j < l.lends.length by omega)
       have hgj : l.lends.getD j false = bj := by rw [List.getD_eq_getElem?_getD, hbj]; rfl
       refine zS (zA (zD (zT (zD (zB ?_)))))
       refine sq rfl rfl hn rfl (zG rfl rfl) ?_
       refine sq rfl rfl hn rfl (zG rfl rfl) ?_
       refine sq rfl rfl hn rfl (zBx rfl rfl Tryz.underlying3 Tryz.underlying78 (u64w (by omega) rfl)) ?_
       refine sq rfl rfl hn rfl (zFg rfl rfl rfl (by omega) (by simp [IntKind.bits]; omega)) ?_
       refine sq rfl rfl hn rfl (zFX rfl rfl rfl (by omega) rfl) ?_
       refine sq rfl rfl hn rfl (yK rfl rfl rfl) ?_
       refine sq rfl rfl hn rfl (zG rfl rfl) ?_
       refine stepG [] (zC rfl rfl rfl) rfl (nb hn rfl) (fun hc => trivial) (fun hc => zO rfl rfl Tryz.underlying33 rfl sz30 rfl) ?_
       refine stepG [(145, _)] (zC rfl rfl rfl) rfl (nb hn rfl) (fun hc => ⟨⟨_, rfl, hc⟩, trivial⟩) (fun hc => zR rfl rfl Tryz.underlying30 rfl seesF0) ?_
       refine stepG [] (zC rfl rfl rfl) rfl (nb hn rfl) (fun hc => trivial) (fun hc => zG rfl rfl) ?_
       refine stepG [(146, _), (147, _)] (zC rfl rfl rfl) rfl (nb hn rfl) (fun hc => ⟨⟨_, rfl, hc⟩, ⟨_, rfl, hc⟩, trivial⟩) (fun hc => q_index (i := j) rfl rfl rfl Tryz.underlying30 sz4 rfl (mget hbj)) ?_
       refine stepG [(148, _)] (zC rfl rfl rfl) rfl (nb hn rfl) (fun hc => ⟨⟨_, rfl, hc⟩, trivial⟩) (fun hc => zR rfl rfl Tryz.underlying4 rfl seesF0) ?_
       refine stepG [(149, _)] (zC rfl rfl rfl) rfl (nb hn rfl) (fun hc => ⟨⟨_, rfl, hc⟩, trivial⟩) (fun hc => yD rfl rfl) ?_
       refine sq rfl rfl hn rfl (z7 rfl rfl rfl (by intro hB; first | (rw [hB]; rfl) | (rw [hB, hc]; rfl) | simp_all)) ?_
       refine zE (zA ?_)
       rw [zFJ]
       refine zQ rfl (fun hb7 => ?_) (fun hb7 => ?_)
       ·
        have hq7 : (o2.testBit j && !(l.lends.getD j false)) = true := by rw [hgj]; exact hb7
        refine zB ?_
        refine sq rfl rfl hn rfl (zG rfl rfl) ?_
        refine sq rfl rfl hn rfl (zG rfl rfl) ?_
        refine stepW (za rfl rfl rfl (nb hn rfl) Tryz.underlying22 sz3 zr3 rfl rfl rfl (show _ = [.d (.int .i64 0)] from by kernel_rfl) (by kernel_rfl) rfl rfl rfl rfl rfl) fun _ => ?_
        refine stepW (s_append (id := 12) rfl rfl rfl (nb hn rfl) elt22 trivial rfl rfl rfl (by simp only [List.length_map]; simp [chunk]; omega) (by simp only [List.length_map]; simp [chunk]; omega) (fun b hb => trivial)) fun v155 => ?_
        refine sq rfl rfl hn rfl (zF rfl rfl) ?_
        refine zE (zX (zA (zB ?_)))
        refine sq rfl rfl hn rfl (zG rfl rfl) ?_
        refine sq rfl rfl hn rfl (z6 rfl rfl rfl (r := ((j + 1 : Nat) : Int)) (i64w (by omega) (by omega))) ?_
        refine sq rfl rfl hn rfl (zF rfl rfl) ?_
        refine zE ?_
        exact zW ⟨(j + 1, v155), by simp only; omega⟩ ⟨.inl rfl, .inl rfl, zK _⟩ ⟨.inl (congrArg (fun z => some (Res.row v155 3 1 z)) (poor_t hq7)), trivial⟩ (by simp only; omega) (by repeat (first | exact kr _ | refine kc rfl ?_)) (by repeat (first | exact kr _ | refine kc rfl ?_))
       ·
        have hq7 : (o2.testBit j && !(l.lends.getD j false)) = false := by rw [hgj]; exact hb7
        refine zS (zX (zA (zB ?_)))
        refine sq rfl rfl hn rfl (zG rfl rfl) ?_
        refine sq rfl rfl hn rfl (z6 rfl rfl rfl (r := ((j + 1 : Nat) : Int)) (i64w (by omega) (by omega))) ?_
        refine sq rfl rfl hn rfl (zF rfl rfl) ?_
        refine zE ?_
        exact zW ⟨(j + 1, vv), by simp only; omega⟩ ⟨.inl rfl, .inl rfl, zK _⟩ ⟨.inl (by rw [poor_f hq7]; rfl), trivial⟩ (by simp only; omega) (by repeat (first | exact kr _ | refine kc rfl ?_)) (by repeat (first | exact kr _ | refine kc rfl ?_))
      ·
       obtain rfl : j = houN l := by have h7 := of_decide_eq_false hb6; omega
       rw [poor_all ho2l (by omega)]
       refine zp (zJ (zJ (zU (zA (zD ?_)))))
       refine zy (g_row (t := 12) (id := 12) rfl rfl) ?_
       refine zB ?_
       refine sq rfl rfl hn rfl (ze rfl rfl Tryz.underlying33 rfl sz33 rfl rfl seesF0) ?_
       refine sq rfl rfl hn rfl (zG rfl rfl) ?_
       refine stepW (s_call [] (fun _ => zBA l o (by omega) (by omega)) rfl (zI rfl) rfl (nb hn rfl) (fun _ => trivial) rfl rfl (.refl _)) fun _ => ?_
       refine stepW (s_call [] (fun _ => zAs (lendA l (o)) (by show l.reg.start.length ≤ _; omega) (by show l.reg.entries.length ≤ _; omega) (by show l.reg.sights.length ≤ _; omega) (by show l.dues.length ≤ _; omega) (by show (lendTo l _ _).length ≤ _; rw [yY]; omega)) rfl (zI rfl) rfl (nb hn rfl) (fun _ => trivial) rfl rfl (.refl _)) fun _ => ?_
       refine stepW (s_call [] (fun _ => zAz (lendA l (o))) rfl (zI rfl) rfl (nb hn rfl) (fun _ => trivial) rfl rfl (.refl _)) fun _ => ?_
       refine sq rfl rfl hn rfl (zG rfl rfl) ?_
       refine sq rfl rfl hn rfl (zY rfl rfl rfl) ?_
       refine sq rfl rfl hn rfl (zY rfl rfl rfl) ?_
       refine stepW (zi 15 rfl rfl rfl (nb hn rfl) zr62 rfl rfl) fun b15 => ?_
       refine stepW (zm rfl rfl rfl rfl rfl rfl (id := 15) rfl sz62 rfl (Nat.le_of_ble_eq_true rfl) rfl trivial) fun _ => ?_
       refine sq rfl rfl hn rfl (zF rfl rfl) ?_
       refine zE (zA (zD (zB ?_)))
       refine sq rfl rfl hn rfl (ze rfl rfl Tryz.underlying33 rfl sz33 rfl rfl seesF0) ?_
       refine sq rfl rfl hn rfl (zG rfl rfl) ?_
       refine stepW (s_call [] (fun _ => zBA l o2 (by omega) (by omega)) rfl (zI rfl) rfl (nb hn rfl) (fun _ => trivial) rfl rfl (.refl _)) fun _ => ?_
       refine stepW (s_call [] (fun _ => zAs (lendA l (o2)) (by show l.reg.start.length ≤ _; omega) (by show l.reg.entries.length ≤ _; omega) (by show l.reg.sights.length ≤ _; omega) (by show l.dues.length ≤ _; omega) (by show (lendTo l _ _).length ≤ _; rw [yY]; omega)) rfl (zI rfl) rfl (nb hn rfl) (fun _ => trivial) rfl rfl (.refl _)) fun _ => ?_
       refine stepW (s_call [] (fun _ => zAz (lendA l (o2))) rfl (zI rfl) rfl (nb hn rfl) (fun _ => trivial) rfl rfl (.refl _)) fun _ => ?_
       refine sq rfl rfl hn rfl (zG rfl rfl) ?_
       refine sq rfl rfl hn rfl (zY rfl rfl rfl) ?_
       refine sq rfl rfl hn rfl (zY rfl rfl rfl) ?_
       refine stepW (zi 17 rfl rfl rfl (nb hn rfl) zr62 rfl rfl) fun b17 => ?_
       refine stepW (zm rfl rfl rfl rfl rfl rfl (id := 17) rfl sz62 rfl (Nat.le_of_ble_eq_true rfl) rfl trivial) fun _ => ?_
       refine sq rfl rfl hn rfl (zF rfl rfl) ?_
       refine zE (zA (zD (zB ?_)))
       refine sq rfl rfl hn rfl (zG rfl rfl) ?_
       refine sq rfl rfl hn rfl (yK rfl rfl rfl) ?_
       refine sq rfl rfl hn rfl (zG rfl rfl) ?_
       refine stepG [] (zC rfl rfl rfl) rfl (nb hn rfl) (fun hc => trivial) (fun hc => zH rfl rfl Tryz.underlying62 rfl sz3) ?_
       refine stepG [(175, _)] (zC rfl rfl rfl) rfl (nb hn rfl) (fun hc => ⟨⟨_, rfl, hc⟩, trivial⟩) (fun hc => zN rfl rfl (id := 15) rfl Tryz.underlying3 rfl rfl sees0) ?_
       refine stepG [(176, _)] (zC rfl rfl rfl) rfl (nb hn rfl) (fun hc => ⟨⟨_, rfl, hc⟩, trivial⟩) (fun hc => yK rfl rfl rfl) ?_
       refine sq rfl rfl hn rfl (z7 rfl rfl rfl (by intro hB; first | (rw [hB]; rfl) | (rw [hB, hc]; rfl) | simp_all)) ?_
       refine sq rfl rfl hn rfl (zG rfl rfl) ?_
       refine stepG [] (zC rfl rfl rfl) rfl (nb hn rfl) (fun hc => trivial) (fun hc => zG rfl rfl) ?_
       refine stepG [(180, _)] (zC rfl rfl rfl) rfl (nb hn rfl) (fun hc => ⟨⟨_, rfl, hc⟩, trivial⟩) (fun hc => yK rfl rfl rfl) ?_
       refine sq rfl rfl hn rfl (z7 rfl rfl rfl (by intro hB; first | (rw [hB]; rfl) | (rw [hB, hc]; rfl) | simp_all)) ?_
       refine sq rfl rfl hn rfl (zG rfl rfl) ?_
       refine stepG [] (zC rfl rfl rfl) rfl (nb hn rfl) (fun hc => trivial) (fun hc => zH rfl rfl Tryz.underlying62 rfl sz3) ?_
       refine stepG [(184, _)] (zC rfl rfl rfl) rfl (nb hn rfl) (fun hc => ⟨⟨_, rfl, hc⟩, trivial⟩) (fun hc => zN rfl rfl (id := 17) rfl Tryz.underlying3 rfl rfl sees0) ?_
       refine stepG [(185, _)] (zC rfl rfl rfl) rfl (nb hn rfl) (fun hc => ⟨⟨_, rfl, hc⟩, trivial⟩) (fun hc => y7 rfl rfl rfl) ?_
       refine stepG [(186, _)] (zC rfl rfl rfl) rfl (nb hn rfl) (fun hc => ⟨⟨_, rfl, hc⟩, trivial⟩) (fun hc => zG rfl rfl) ?_
       refine stepG [] (zC rfl rfl rfl) rfl (nb hn rfl) (fun hc => trivial) (fun hc => zG rfl rfl) ?_
       refine stepG [] (zC rfl rfl rfl) rfl (nb hn rfl) (fun hc => trivial) (fun hc => zG rfl rfl) ?_
       refine stepW (s_call [(188, _), (189, _)] (fun hc => Less_ok ((bitsI o2).filter fun x => !(lendB l x)) (enoughX l).1 (by have := List.length_filter_le (fun x => !(lendB l x)) (bitsI o2); have := bits8_len (o := o2); omega)) rfl (zC rfl rfl rfl) rfl (nb hn rfl) (fun hc => ⟨⟨_, rfl, hc⟩, ⟨_, rfl, hc⟩, trivial⟩) rfl rfl (.refl _)) fun _ => ?_
       refine stepG [(190, _)] (zC rfl rfl rfl) rfl (nb hn rfl) (fun hc => ⟨⟨_, rfl, hc⟩, trivial⟩) (fun hc => yD rfl rfl) ?_
       refine stepG [(187, _)] (zC rfl rfl rfl) rfl (nb hn rfl) (fun hc => ⟨⟨_, rfl, hc⟩, trivial⟩) (fun hc => q_or rfl rfl rfl (by intro hB; first | (rw [hB]; rfl) | (rw [hB, hc]; rfl) | simp_all)) ?_
       refine sq rfl rfl hn rfl (z7 rfl rfl rfl (by intro hB; first | (rw [hB]; rfl) | (rw [hB, hc]; rfl) | simp_all)) ?_
       refine sq rfl rfl hn rfl (zG rfl rfl) ?_
       refine stepW (s_call [] (fun hc => zBb) rfl (zC rfl rfl rfl) rfl (nb hn rfl) (fun hc => trivial) rfl rfl (.refl _)) fun _ => ?_
       refine sq rfl rfl hn rfl (z7 rfl rfl rfl (by intro hB; first | (rw [hB]; rfl) | (rw [hB, hc]; rfl) | simp_all)) ?_
       refine sq rfl rfl hn rfl (zF rfl rfl) ?_
       refine zE (zA (zP ?_))
       refine zh (zl (.inl rfl) hl rfl (.tmp rfl)) ?_
       rw [hB2, hB1, hC2, least_fin (fun e => by rw [hx1]; exact hmin o2 ho2l (hCz.1 e)) hC0]; rfl
end Go.Proofs.YtaokpncjemkhcaaGreat
namespace Go.Proofs.YtaokpncjemkhcaaGreat
open Go.ChangeShapes Go.WideShapes Go.ChangeAt Go.RowKit
set_option linter.all false
theorem ShortLeast_pure (xs : List D) (h : Sat [SLdg, SU8] xs) : PureAt Tryz.prog 10 xs (.bool true) := by
  obtain ⟨_, _, rfl, ⟨a1, rfl⟩, _, _, rfl, ⟨a2, rfl, h2⟩, rfl⟩ := h
  exact ShortLeast_ok a1 a2 h2
set_option maxRecDepth 100000 in
theorem shortLeast_lifted (os : Os) (started : os.Started) (H : Type) (enc : TypeId × Value → H) :
    ReturnsInHanded {} Tryz.checked os 10 .any (Rows.shortLeastSpec.pre6 enc Tryz.prog Tryz.f10 Rows.shortLeastRow.domain false) (Rows.shortLeastSpec.post enc Tryz.prog Tryz.f10 false true false false) := by
  refine returnsInHanded_of_change_sized (C := Tryz.checked) own started (by kernel_rfl) Tryz.func10
    (ChangeSpec.witness6 (enc := enc) (C := Tryz.checked) false ⟨#[], #[.agg #[.int .i64 0, .slice none 0 0, .slice none 0 0, .slice none 0 0, .int .i64 0, .slice none 0 0, .slice none 0 0], .int .u8 0], []⟩ 8 (by kernel_rfl) (by kernel_rfl) (by kernel_rfl) (by kernel_rfl)) ?_
  intro W base args ds gs before hval hW _ hz _
  exact law_contract (ts := [33, 5]) (Ss := [SLdg, SU8]) laidOut (by rw [Tryz.params10]) (by kernel_rfl) (by kernel_rfl) Tryz.underlying4 rfl rfl
    (fun ds h => by match ds, h with | [d1, d2], _ => rfl) ⟨pLdg, pU8, trivial⟩ ShortLeast_pure W base args ds gs before hval hW hz (fun g hg => by cases hg)
theorem shortLeast_holds : Rows.ShortLeastSaid :=
  OpenClaim.holds_of_wide 10 Tryz.f10 rfl rfl rfl rfl rfl rfl rfl ⟨rfl, rfl, rfl, rfl, rfl⟩ rfl rfl rfl rfl rfl (by kernel_rfl) Tryz.func10 (by kernel_rfl)
    (of_decide_eq_true (by kernel_rfl)) (by unfold Func.isWrapper; first | (rw [if_pos (by decide +kernel)]; kernel_rfl) | (rw [if_neg (by decide +kernel)]; exact ⟨rfl, rfl⟩))
    (fun os started H enc _ => shortLeast_lifted os started H enc)
end Go.Proofs.YtaokpncjemkhcaaGreat
