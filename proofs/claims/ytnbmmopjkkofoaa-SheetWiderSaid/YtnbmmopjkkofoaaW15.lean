/-
  Walks by the rules of Base, printed by gen.py: the first entry, the smallest set. No condition: no statement of the seat is proved here.
-/
import Derived.Test.YtnbmmopjkkofoaaW14
import Derived.Test.YtnbmmopjkkofoaaP4
import Derived.Test.YtnbmmopjkkofoaaBase3
namespace Go.Proofs.Ytnbmmopjkkofoaa
open Go.RowKit
set_option maxRecDepth 20000
set_option linter.all false

/-- The register without sights. -/
def bareR (r : Reg) : Reg := ⟨r.houses, r.start, r.entries, []⟩
theorem bare_pref (r : Reg) : prefR r r.entries.length = bareR r := by simp [prefR, bareR]
theorem valid_bare {r : Reg} (v : Valid r) : Valid (bareR r) := by rw [← bare_pref]; exact valid_pref v _
theorem ready_f {r : Reg} (h : (!(thinB r && (checkE r == 0))) = false) : Valid r := by
  simp only [Bool.not_eq_false', Bool.and_eq_true, beq_iff_eq] at h
  exact valid_of h.2
theorem map_take {α β : Type} {l : List α} {f : α → β} {n : Nat} : (l.map f).take n = (l.take n).map f := by simp
theorem first_t {r : Reg} (v : Valid r) (h : (firstR r).2 ≠ 0) : (firstR r).2 = 7 ∧ (firstR r).1 = 0 ∧ hasT (bareR r) := by
  rcases first_law v with ⟨e, hT⟩ | ⟨j, e, _⟩
  · rw [e]; exact ⟨rfl, rfl, by rw [← bare_pref]; exact hT⟩
  · rw [e] at h; exact (h rfl).elim
theorem first_f {r : Reg} (v : Valid r) (h : (firstR r).2 = 0) : ∃ j : Nat, (firstR r).2 = 0 ∧ (firstR r).1 = (j : Int) ∧ j < r.entries.length ∧ hasT (prefR r j) ∧ ¬ hasT (prefR r (j + 1)) := by
  rcases first_law v with ⟨e, _⟩ | ⟨j, e, h1, h2, h3⟩
  · rw [e] at h; cases h
  · exact ⟨j, h, by rw [e], h1, h2, h3⟩
theorem map_take' {α β : Type} {l : List α} {f : α → β} {n : Nat} : (l.map f).take n = (l.take n).map f := by simp

theorem shl_i64 {k : Nat} (h : k < 60) : IntKind.i64.wrap (1 * 2 ^ ((k : Int)).toNat) = ((2 ^ k : Nat) : Int) := by
  have h1 : 2 ^ k < 1152921504606846976 := by
    have := Nat.pow_lt_pow_right (a := 2) (by omega) h
    simpa using this
  have e : (1 * 2 ^ ((k : Int)).toNat : Int) = ((2 ^ k : Nat) : Int) := by simp
  rw [e]
  generalize 2 ^ k = x at h1
  exact i64w (by omega) rfl
theorem or_i64 {a b : Nat} (ha : a < 1152921504606846976) (hb : b < 1152921504606846976) : bits .or .i64 (a : Int) (b : Int) = ((a ||| b : Nat) : Int) := by
  have hx : a ||| b < 2 ^ 60 := Nat.or_lt_two_pow (by omega) (by omega)
  have h1 : (BitVec.ofInt 64 (a : Int)).toNat = a := by
    rw [BitVec.ofInt_natCast, BitVec.toNat_ofNat]; exact Nat.mod_eq_of_lt (by omega)
  have h2 : (BitVec.ofInt 64 (b : Int)).toNat = b := by
    rw [BitVec.ofInt_natCast, BitVec.toNat_ofNat]; exact Nat.mod_eq_of_lt (by omega)
  show IntKind.i64.wrap ((BitVec.ofInt 64 (a : Int) ||| BitVec.ofInt 64 (b : Int)).toNat : Int) = _
  rw [BitVec.toNat_or, h1, h2]
  exact i64w (by omega) rfl
theorem bitsL_lt {S : Nat} : ∀ {l : List Int}, (∀ x ∈ l, (0 : Int) ≤ x ∧ x < (S : Int)) → bitsL l < 2 ^ S
  | [], _ => Nat.two_pow_pos _
  | x :: l, h => by
    have hx := h x List.mem_cons_self
    exact Nat.or_lt_two_pow (Nat.pow_lt_pow_right (by omega) (by omega)) (bitsL_lt fun y hy => h y (List.mem_cons_of_mem _ hy))
theorem bitsL_snoc {x : Int} : ∀ {l : List Int}, bitsL (l ++ [x]) = bitsL l ||| 2 ^ x.toNat
  | [] => by simp [bitsL]
  | y :: l => by
    show 2 ^ y.toNat ||| bitsL (l ++ [x]) = (2 ^ y.toNat ||| bitsL l) ||| 2 ^ x.toNat
    rw [bitsL_snoc, Nat.or_assoc]
theorem pow_small {S : Nat} (h : S ≤ 10) : 2 ^ S ≤ 1024 := by
  have := Nat.pow_le_pow_right (n := 2) (by omega) h
  simpa using this
theorem left_fin {r : Reg} {b : Nat} {l : List Int} {e : Int} (v : Valid r) (hl : (leaveR r).1 = l) (he : (e = 0 ↔ hasT (withoutR r b)) ∧ (e = 9 ↔ ¬ hasT (withoutR r b)) ∧ (e = 0 ∨ e = 9)) : (e == 9 || (e == 0 && !shorterB (outB r b) l)) = true := by
  obtain ⟨h1, h2, h3⟩ := he
  rcases h3 with h3 | h3
  · have hT := h1.1 h3
    rw [← dropR_out] at hT
    have : shorterB (outB r b) l = false := by
      cases hs : shorterB (outB r b) l with
      | false => rfl
      | true => rw [← hl] at hs; exact ((leave_law v).2.2.2 _ (outB_inc r b) hs hT).elim
    rw [this, h3]
    rfl
  · rw [h3]; rfl
theorem keepF_sub {α : Type} {bits : Nat} {x : α} : ∀ {k : Nat} {l : List α}, x ∈ keepF bits k l → x ∈ l
  | _, [], h => h
  | k, y :: l, h => by
    unfold keepF at h
    cases hb : bits.testBit k <;> rw [hb] at h
    · rcases List.mem_cons.1 h with rfl | h
      · exact List.mem_cons_self
      · exact List.mem_cons_of_mem _ (keepF_sub h)
    · exact List.mem_cons_of_mem _ (keepF_sub h)
theorem valid_without {r : Reg} (v : Valid r) (b : Nat) : Valid (withoutR r b) :=
  ⟨v.h1, v.h4, v.s1, v.s4, Nat.le_trans keepF_len v.e6, Nat.le_trans keepF_len v.g4, v.st, fun e he => v.en e (keepF_sub he), fun s hs => v.si s (keepF_sub hs)⟩
theorem inc_get {S i : Nat} {l : List Int} {x : Int} (h : Inc 0 S l) (hx : l[i]? = some x) : (0 ≤ x ∧ x < (S : Int)) ∧ ∃ y, l[i - 1]? = some y ∧ (0 < i → y < x) := by
  have hlt := (List.getElem?_eq_some_iff.1 hx).1
  refine ⟨by have := h.2 x (List.mem_of_getElem? hx); omega, l[i - 1]'(by omega), List.getElem?_eq_getElem (by omega), fun hi => ?_⟩
  have := List.pairwise_iff_getElem.1 h.1 (i - 1) i (by omega) hlt (by omega)
  rw [(List.getElem?_eq_some_iff.1 hx).2] at this
  exact this
theorem inc_len {S : Nat} : ∀ {l : List Int} {f : Nat}, Inc f S l → l.length ≤ S - f
  | [], _, _ => Nat.zero_le _
  | x :: l, f, h => by
    have hx := h.2 x List.mem_cons_self
    have := inc_len h.tail
    simp only [List.length_cons]
    omega
theorem bits_step {i : Nat} {l : List Int} {x : Int} (hx : l[i]? = some x) : bitsL (l.take i) ||| 2 ^ x.toNat = bitsL (l.take (i + 1)) := by
  rw [List.take_add_one, hx, ← bitsL_snoc]
  rfl


theorem SheetFirst_eff (r : Reg) : EffAt Try.prog 8 [.d (regD r)] [] (X := Unit) (fun _ => .d (.bool true)) (fun _ => []) := by
  refine EffAt.of_awp Try.func8 rfl (by kernel_rfl) rfl fun Γ hn => ?_
  refine awp_seq ?_
  refine awp_region ?_
  refine stepW (s_box 1 rfl rfl rfl (nb hn rfl) rfl rfl) fun b1 => ?_
  refine sq rfl rfl hn rfl (q_assign rfl rfl) ?_
  refine run_nil ?_
  refine aend_then ?_
  refine awp_seq ?_
  refine awp_seq ?_
  refine awp_region ?_
  refine sq rfl rfl hn rfl (q_loadAd rfl rfl (id := 1) rfl Try.underlying26 rfl sz26 rfl rfl sees0) ?_
  refine stepW (s_call [] (fun _ => ready_ok _) rfl (guard_none rfl) rfl (nb hn rfl) (fun _ => trivial) rfl rfl (.refl _)) fun _ => ?_
  refine sq rfl rfl hn rfl (q_not rfl rfl) ?_
  refine run_nil ?_
  refine aend_then ?_
  refine awp_cond rfl (fun hb0 => ?_) (fun hb0 => ?_)
  · skip
    refine awp_seq ?_
    refine awp_region ?_
    refine stepW (s_call [] (fun _ => awake_ok) rfl (guard_none rfl) rfl (nb hn rfl) (fun _ => trivial) rfl rfl (.refl _)) fun _ => ?_
    refine sq rfl rfl hn rfl (q_assign rfl rfl) ?_
    refine run_nil ?_
    refine aend_then ?_
    refine awp_ret ?_
    refine aend_then_ret ?_
    exact ret_E (.inl rfl) () (hands_1 rfl (.tmp rfl)) trivial
  · skip
    have v := ready_f hb0
    have hv6 := v.e6
    have hvg := v.g4
    have hvs := v.s4
    have hv1 := v.h1
    have hvh := v.h4
    refine awp_skip ?_
    refine aend_then ?_
    refine awp_seq ?_
    refine awp_region ?_
    refine sq rfl rfl hn rfl (q_loadAd rfl rfl (id := 1) rfl Try.underlying26 rfl sz26 rfl rfl sees0) ?_
    refine stepW (s_call [] (fun _ => Register_ok r (by omega) (by omega) (by omega)) rfl (guard_none rfl) rfl (nb hn rfl) (fun _ => trivial) rfl rfl (.refl _)) fun _ => ?_
    refine stepW (s_call [] (fun _ => first_ok r) rfl (guard_none rfl) rfl (nb hn rfl) (fun _ => trivial) rfl rfl (.refl _)) fun _ => ?_
    refine sq rfl rfl hn rfl (q_move rfl rfl) ?_
    refine sq rfl rfl hn rfl (q_extractd rfl rfl rfl) ?_
    refine sq rfl rfl hn rfl (q_extractd rfl rfl rfl) ?_
    refine sq rfl rfl hn rfl (q_assign rfl rfl) ?_
    refine sq rfl rfl hn rfl (q_assign rfl rfl) ?_
    refine run_nil ?_
    refine aend_then ?_
    refine awp_seq ?_
    refine awp_region ?_
    refine sq rfl rfl hn rfl (q_loadAd rfl rfl (id := 1) rfl Try.underlying26 rfl sz26 rfl rfl sees0) ?_
    refine stepW (s_alloc 5 rfl rfl rfl (nb hn rfl) zr26 rfl rfl) fun b5 => ?_
    refine stepW (s_store rfl rfl rfl rfl rfl rfl (id := 5) rfl sz26 rfl (Nat.le_of_ble_eq_true rfl) rfl trivial) fun _ => ?_
    refine run_nil ?_
    refine aend_then ?_
    refine awp_seq ?_
    refine awp_region ?_
    refine sq rfl rfl hn rfl (q_fieldAddr rfl rfl Try.underlying26 rfl sz24) ?_
    refine stepW (s_store1 rfl rfl rfl rfl rfl rfl (id := 5) rfl sz24 (Nat.le_of_ble_eq_true rfl) rfl trivial) fun _ => ?_
    refine run_nil ?_
    refine aend_then ?_
    refine awp_seq ?_
    refine awp_seq ?_
    refine gh_awp (gh_emptycell (id := 5) (k := 3) 3 rfl rfl) ?_
    refine awp_region ?_
    refine sq rfl rfl hn rfl (q_move rfl rfl) ?_
    refine sq rfl rfl hn rfl (q_neq rfl rfl rfl) ?_
    refine run_nil ?_
    refine aend_then ?_
    refine awp_cond rfl (fun hb1 => ?_) (fun hb1 => ?_)
    · skip
      obtain ⟨hf, hn5, hT⟩ := first_t v (by simpa using hb1)
      refine awp_seq ?_
      refine awp_region ?_
      refine sq rfl rfl hn rfl (q_loadAd rfl rfl (id := 5) rfl Try.underlying26 rfl sz26 rfl rfl sees0) ?_
      refine stepW (s_call [] (fun _ => Register_ok (bareR r) (by show r.start.length ≤ _; omega) (by show r.entries.length ≤ _; omega) (by simp [bareR])) rfl (guard_none rfl) rfl (nb hn rfl) (fun _ => trivial) rfl rfl (.refl _)) fun _ => ?_
      refine stepW (s_callE (explain_ok (bareR r)) rfl rfl rfl (nb hn rfl) (.d rfl) rfl (.refl _) trivial (fun _ => rfl) (fun _ _ => trivial)) fun x1 => ?_
      have he1 := (expl_err (valid_bare v) x1).1.2 hT
      refine sq rfl rfl hn rfl (q_move rfl rfl) ?_
      refine sq rfl rfl hn rfl (q_extractd rfl rfl rfl) ?_
      refine sq rfl rfl hn rfl (q_extractd rfl rfl rfl) ?_
      refine sq rfl rfl hn rfl (q_assign rfl rfl) ?_
      refine sq rfl rfl hn rfl (q_assign rfl rfl) ?_
      refine run_nil ?_
      refine aend_then ?_
      refine awp_seq ?_
      refine awp_region ?_
      refine sq rfl rfl hn rfl (q_move rfl rfl) ?_
      refine sq rfl rfl hn rfl (q_eql rfl rfl rfl) ?_
      refine sq rfl rfl hn rfl (q_move rfl rfl) ?_
      refine stepG [] (guard_some rfl rfl rfl) rfl (nb hn rfl) (fun hc => trivial) (fun hc => q_move rfl rfl) ?_
      refine stepG [(35, _)] (guard_some rfl rfl rfl) rfl (nb hn rfl) (fun hc => ⟨⟨_, rfl, hc⟩, trivial⟩) (fun hc => q_eql rfl rfl rfl) ?_
      refine sq rfl rfl hn rfl (q_and rfl rfl rfl (by intro hB; first | (rw [hB]; rfl) | (rw [hB, hc]; rfl) | simp_all)) ?_
      refine sq rfl rfl hn rfl (q_move rfl rfl) ?_
      refine stepG [] (guard_some rfl rfl rfl) rfl (nb hn rfl) (fun hc => trivial) (fun hc => q_move rfl rfl) ?_
      refine stepG [(39, _)] (guard_some rfl rfl rfl) rfl (nb hn rfl) (fun hc => ⟨⟨_, rfl, hc⟩, trivial⟩) (fun hc => q_eql rfl rfl rfl) ?_
      refine sq rfl rfl hn rfl (q_and rfl rfl rfl (by intro hB; first | (rw [hB]; rfl) | (rw [hB, hc]; rfl) | simp_all)) ?_
      refine sq rfl rfl hn rfl (q_move rfl rfl) ?_
      refine stepW (s_call [] (fun hc => awake_ok) rfl (guard_some rfl rfl rfl) rfl (nb hn rfl) (fun hc => trivial) rfl rfl (.refl _)) fun _ => ?_
      refine sq rfl rfl hn rfl (q_and rfl rfl rfl (by intro hB; first | (rw [hB]; rfl) | (rw [hB, hc]; rfl) | simp_all)) ?_
      refine sq rfl rfl hn rfl (q_assign rfl rfl) ?_
      refine run_nil ?_
      refine aend_then ?_
      refine awp_ret ?_
      refine aend_then_ret ?_
      exact ret_E (.inl rfl) () ((hands_1 rfl (.tmp rfl)).eq (by simp [hf, hn5, he1])) trivial
    · skip
      obtain ⟨j, hf, hn5, hj, hT, hN⟩ := first_f v (by simpa using hb1)
      rw [hn5]
      refine awp_skip ?_
      refine aend_then ?_
      refine awp_seq ?_
      refine awp_seq ?_
      refine awp_region ?_
      refine sq rfl rfl hn rfl (q_move rfl rfl) ?_
      refine sq rfl rfl hn rfl (q_lss rfl rfl rfl) ?_
      refine sq rfl rfl hn rfl (q_move rfl rfl) ?_
      refine stepG [] (guard_some rfl rfl rfl) rfl (nb hn rfl) (fun hc => trivial) (fun hc => q_move rfl rfl) ?_
      refine stepG [] (guard_some rfl rfl rfl) rfl (nb hn rfl) (fun hc => trivial) (fun hc => q_fieldAddr rfl rfl Try.underlying26 rfl sz23) ?_
      refine stepG [(49, _)] (guard_some rfl rfl rfl) rfl (nb hn rfl) (fun hc => ⟨⟨_, rfl, hc⟩, trivial⟩) (fun hc => q_load rfl rfl (id := 1) rfl Try.underlying23 rfl rfl sees0) ?_
      refine stepG [(50, _)] (guard_some rfl rfl rfl) rfl (nb hn rfl) (fun hc => ⟨⟨_, rfl, hc⟩, trivial⟩) (fun hc => q_len rfl rfl Try.underlying23) ?_
      refine stepG [(48, _), (51, _)] (guard_some rfl rfl rfl) rfl (nb hn rfl) (fun hc => ⟨⟨_, rfl, hc⟩, ⟨_, rfl, hc⟩, trivial⟩) (fun hc => q_geq rfl rfl rfl) ?_
      refine sq rfl rfl hn rfl (q_or rfl rfl rfl (by intro hB; first | (rw [hB]; rfl) | (rw [hB, hc]; rfl) | simp_all)) ?_
      refine run_nil ?_
      refine aend_then ?_
      refine awp_cond rfl (fun hb2 => ?_) (fun hb2 => ?_)
      · skip
        simp only [List.length_map] at hb2; simp at hb2; omega
      · skip
        refine awp_skip ?_
        refine aend_then ?_
        refine awp_seq ?_
        refine awp_region ?_
        refine sq rfl rfl hn rfl (q_fieldAddr rfl rfl Try.underlying26 rfl sz23) ?_
        refine sq rfl rfl hn rfl (q_load rfl rfl (id := 1) rfl Try.underlying23 rfl rfl sees0) ?_
        refine sq rfl rfl hn rfl (q_move rfl rfl) ?_
        refine sq rfl rfl hn rfl (q_sliceH rfl rfl rfl Try.underlying23 sz67 rfl (by simp; omega) map_take) ?_
        refine sq rfl rfl hn rfl (q_fieldAddr rfl rfl Try.underlying26 rfl sz23) ?_
        refine stepW (s_store1 rfl rfl rfl rfl rfl rfl (id := 5) rfl sz23 (Nat.le_of_ble_eq_true rfl) rfl trivial) fun _ => ?_
        refine run_nil ?_
        refine aend_then ?_
        refine awp_seq ?_
        refine awp_region ?_
        refine sq rfl rfl hn rfl (q_loadAd rfl rfl (id := 5) rfl Try.underlying26 rfl sz26 rfl rfl sees0) ?_
        refine stepW (s_call [] (fun _ => Register_ok (prefR r j) (by show r.start.length ≤ _; omega) (by simp [prefR]; omega) (by simp [prefR])) rfl (guard_none rfl) rfl (nb hn rfl) (fun _ => trivial) rfl rfl (.refl _)) fun _ => ?_
        refine stepW (s_callE (explain_ok (prefR r j)) rfl rfl rfl (nb hn rfl) (.d rfl) rfl (.refl _) trivial (fun _ => rfl) (fun _ _ => trivial)) fun x2 => ?_
        have he2 := (expl_err (valid_pref v j) x2).1.2 hT
        refine sq rfl rfl hn rfl (q_move rfl rfl) ?_
        refine sq rfl rfl hn rfl (q_extractd rfl rfl rfl) ?_
        refine sq rfl rfl hn rfl (q_extractd rfl rfl rfl) ?_
        refine sq rfl rfl hn rfl (q_assign rfl rfl) ?_
        refine sq rfl rfl hn rfl (q_assign rfl rfl) ?_
        refine run_nil ?_
        refine aend_then ?_
        refine awp_seq ?_
        refine awp_region ?_
        refine sq rfl rfl hn rfl (q_fieldAddr rfl rfl Try.underlying26 rfl sz23) ?_
        refine sq rfl rfl hn rfl (q_load rfl rfl (id := 1) rfl Try.underlying23 rfl rfl sees0) ?_
        refine sq rfl rfl hn rfl (q_move rfl rfl) ?_
        refine sq rfl rfl hn rfl (q_add rfl rfl rfl (r := ((j + 1 : Nat) : Int)) (i64w (by omega) (by omega))) ?_
        refine sq rfl rfl hn rfl (q_sliceH rfl rfl rfl Try.underlying23 sz67 rfl (by simp; omega) map_take) ?_
        refine sq rfl rfl hn rfl (q_fieldAddr rfl rfl Try.underlying26 rfl sz23) ?_
        refine stepW (s_store1 rfl rfl rfl rfl rfl rfl (id := 5) rfl sz23 (Nat.le_of_ble_eq_true rfl) rfl trivial) fun _ => ?_
        refine run_nil ?_
        refine aend_then ?_
        refine awp_seq ?_
        refine awp_region ?_
        refine sq rfl rfl hn rfl (q_loadAd rfl rfl (id := 5) rfl Try.underlying26 rfl sz26 rfl rfl sees0) ?_
        refine stepW (s_call [] (fun _ => Register_ok (prefR r (j + 1)) (by show r.start.length ≤ _; omega) (by simp [prefR]; omega) (by simp [prefR])) rfl (guard_none rfl) rfl (nb hn rfl) (fun _ => trivial) rfl rfl (.refl _)) fun _ => ?_
        refine stepW (s_callE (explain_ok (prefR r (j + 1))) rfl rfl rfl (nb hn rfl) (.d rfl) rfl (.refl _) trivial (fun _ => rfl) (fun _ _ => trivial)) fun x3 => ?_
        have he3 := (expl_err (valid_pref v (j + 1)) x3).2.1.2 hN
        refine sq rfl rfl hn rfl (q_move rfl rfl) ?_
        refine sq rfl rfl hn rfl (q_extractd rfl rfl rfl) ?_
        refine sq rfl rfl hn rfl (q_extractd rfl rfl rfl) ?_
        refine sq rfl rfl hn rfl (q_assign rfl rfl) ?_
        refine sq rfl rfl hn rfl (q_assign rfl rfl) ?_
        refine run_nil ?_
        refine aend_then ?_
        refine awp_seq ?_
        refine awp_region ?_
        refine sq rfl rfl hn rfl (q_move rfl rfl) ?_
        refine sq rfl rfl hn rfl (q_eql rfl rfl rfl) ?_
        refine sq rfl rfl hn rfl (q_move rfl rfl) ?_
        refine stepG [] (guard_some rfl rfl rfl) rfl (nb hn rfl) (fun hc => trivial) (fun hc => q_move rfl rfl) ?_
        refine stepG [(80, _)] (guard_some rfl rfl rfl) rfl (nb hn rfl) (fun hc => ⟨⟨_, rfl, hc⟩, trivial⟩) (fun hc => q_eql rfl rfl rfl) ?_
        refine sq rfl rfl hn rfl (q_and rfl rfl rfl (by intro hB; first | (rw [hB]; rfl) | (rw [hB, hc]; rfl) | simp_all)) ?_
        refine sq rfl rfl hn rfl (q_move rfl rfl) ?_
        refine stepW (s_call [] (fun hc => awake_ok) rfl (guard_some rfl rfl rfl) rfl (nb hn rfl) (fun hc => trivial) rfl rfl (.refl _)) fun _ => ?_
        refine sq rfl rfl hn rfl (q_and rfl rfl rfl (by intro hB; first | (rw [hB]; rfl) | (rw [hB, hc]; rfl) | simp_all)) ?_
        refine sq rfl rfl hn rfl (q_assign rfl rfl) ?_
        refine run_nil ?_
        refine aend_then ?_
        refine awp_ret ?_
        exact ret_E (.inl rfl) () ((hands_1 rfl (.tmp rfl)).eq (by simp [he2, he3])) trivial

theorem SheetLeft_eff (r : Reg) (b : Nat) (hb5 : b < 65536) : EffAt Try.prog 9 [.d (regD r), .d (.int .u16 (b : Nat))] [] (X := Unit) (fun _ => .d (.bool true)) (fun _ => []) := by
  refine EffAt.of_awp Try.func9 rfl (by kernel_rfl) rfl fun Γ hn => ?_
  refine awp_seq ?_
  refine awp_region ?_
  refine stepW (s_box 2 rfl rfl rfl (nb hn rfl) rfl rfl) fun b2 => ?_
  refine sq rfl rfl hn rfl (q_assign rfl rfl) ?_
  refine run_nil ?_
  refine aend_then ?_
  refine awp_seq ?_
  refine awp_seq ?_
  refine awp_region ?_
  refine sq rfl rfl hn rfl (q_loadAd rfl rfl (id := 2) rfl Try.underlying26 rfl sz26 rfl rfl sees0) ?_
  refine stepW (s_call [] (fun _ => ready_ok _) rfl (guard_none rfl) rfl (nb hn rfl) (fun _ => trivial) rfl rfl (.refl _)) fun _ => ?_
  refine sq rfl rfl hn rfl (q_not rfl rfl) ?_
  refine run_nil ?_
  refine aend_then ?_
  refine awp_cond rfl (fun hb0 => ?_) (fun hb0 => ?_)
  · skip
    refine awp_seq ?_
    refine awp_region ?_
    refine stepW (s_call [] (fun _ => awake_ok) rfl (guard_none rfl) rfl (nb hn rfl) (fun _ => trivial) rfl rfl (.refl _)) fun _ => ?_
    refine sq rfl rfl hn rfl (q_assign rfl rfl) ?_
    refine run_nil ?_
    refine aend_then ?_
    refine awp_ret ?_
    refine aend_then_ret ?_
    exact ret_E (.inl rfl) () (hands_1 rfl (.tmp rfl)) trivial
  · skip
    have v := ready_f hb0
    have hv6 := v.e6
    have hvg := v.g4
    have hvs := v.s4
    have hv1 := v.h1
    have hvh := v.h4
    obtain ⟨hle, hinc, hT, hmin⟩ := leave_law v
    obtain ⟨l, hl⟩ : ∃ l, (leaveR r).1 = l := ⟨_, rfl⟩
    rw [hl] at hinc hT hmin
    have hS : sumR r ≤ 10 := by unfold sumR; omega
    have hll := inc_len hinc
    have hbl : bitsL l < 2 ^ sumR r := bitsL_lt fun x hx => by have := hinc.2 x hx; omega
    have hp10 := pow_small hS
    refine awp_skip ?_
    refine aend_then ?_
    refine awp_seq ?_
    refine awp_region ?_
    refine sq rfl rfl hn rfl (q_loadAd rfl rfl (id := 2) rfl Try.underlying26 rfl sz26 rfl rfl sees0) ?_
    refine stepW (s_call [] (fun _ => Register_ok r (by omega) (by omega) (by omega)) rfl (guard_none rfl) rfl (nb hn rfl) (fun _ => trivial) rfl rfl (.refl _)) fun _ => ?_
    refine stepW (s_call [] (fun _ => (by have := leave_ok r; rw [hle, hl] at this; exact this)) rfl (guard_none rfl) rfl (nb hn rfl) (fun _ => trivial) rfl rfl (.refl _)) fun _ => ?_
    refine sq rfl rfl hn rfl (q_move rfl rfl) ?_
    refine sq rfl rfl hn rfl (q_extractd rfl rfl rfl) ?_
    refine sq rfl rfl hn rfl (q_extractd rfl rfl rfl) ?_
    refine sq rfl rfl hn rfl (q_assign rfl rfl) ?_
    refine sq rfl rfl hn rfl (q_assign rfl rfl) ?_
    refine run_nil ?_
    refine aend_then ?_
    refine awp_seq ?_
    refine awp_region ?_
    refine sq rfl rfl hn rfl (q_assign rfl rfl) ?_
    refine run_nil ?_
    refine aend_then ?_
    refine awp_seq ?_
    refine awp_seq ?_
    refine awp_region ?_
    refine sq rfl rfl hn rfl (q_assign rfl rfl) ?_
    refine run_nil ?_
    refine aend_then ?_
    refine awp_block ?_
    refine awp_loop_on (ι := {i : Nat // i ≤ l.length}) (fun x => (7, true, .d (.int .i64 (bitsL (l.take x.1) : Nat))) :: (8, true, .d (.int .i64 (x.1 : Nat))) :: anys [27, 28, 29, 30, 33, 34, 35, 36, 37, 38, 39, 40, 41, 42, 43, 44, 45, 46, 47, 48, 49, 50, 51, 52, 53, 54, 55, 56, 57, 58, 59, 60, 61, 62, 63, 64, 65, 66, 67, 68, 69, 70, 31, 32]) (fun x => []) (fun x => l.length - x.1) ⟨0, Nat.zero_le _⟩ ⟨.inl rfl, .inl rfl, holdT_anys _⟩ trivial ?_
    rintro ⟨i, hi⟩
    dsimp only
    refine awp_seq ?_
    refine awp_seq ?_
    refine awp_region ?_
    refine sq rfl rfl hn rfl (q_move rfl rfl) ?_
    refine sq rfl rfl hn rfl (q_move rfl rfl) ?_
    refine sq rfl rfl hn rfl (q_len rfl rfl Try.underlying22) ?_
    refine sq rfl rfl hn rfl (q_lss rfl rfl rfl) ?_
    refine run_nil ?_
    refine aend_then ?_
    refine awp_cond rfl (fun hb1 => ?_) (fun hb1 => ?_)
    · skip
      have hlt : i < l.length := by simpa using hb1
      obtain ⟨x, hx⟩ := ex_get hlt
      obtain ⟨hxb, y, hy, hxy⟩ := inc_get hinc hx
      have hxk : ((x.toNat : Nat) : Int) = x := by omega
      have hbt : bitsL (l.take i) < 2 ^ sumR r := bitsL_lt fun z hz => by have := hinc.2 z (List.mem_of_mem_take hz); omega
      refine awp_skip ?_
      refine aend_then ?_
      refine awp_seq ?_
      refine awp_block ?_
      refine awp_seq ?_
      refine awp_seq ?_
      refine d_start (W := fun b => b ≠ b2) fmo ?_
      refine d1q (i := 0) rfl (by kernel_rfl) (fun _ _ _ _ h => h) rfl rfl hn rfl (q_move rfl rfl) ?_
      refine d1q (i := 1) rfl (by kernel_rfl) (fun _ _ _ _ h => h) rfl rfl hn rfl (q_move rfl rfl) ?_
      refine d1q (i := 2) rfl (by kernel_rfl) (fun _ _ _ _ h => h) rfl rfl hn rfl (q_index rfl rfl rfl Try.underlying22 sz3 rfl (mget hx)) ?_
      refine d1q (i := 3) rfl (by kernel_rfl) (fun _ _ _ _ h => h) rfl rfl hn rfl (q_loadp rfl rfl Try.underlying3 rfl seesFA) ?_
      refine d1q (i := 4) rfl (by kernel_rfl) (fun _ _ _ _ h => h) rfl rfl hn rfl (q_fieldAddr rfl rfl Try.underlying26 rfl sz23) ?_
      refine d1q (i := 5) rfl (by kernel_rfl) (fun _ _ _ _ h => h) rfl rfl hn rfl (q_load rfl rfl (id := 2) rfl Try.underlying23 rfl rfl (seesA (by simp))) ?_
      refine d1q (i := 6) rfl (by kernel_rfl) (fun _ _ _ _ h => h) rfl rfl hn rfl (q_len rfl rfl Try.underlying23) ?_
      refine d1q (i := 7) rfl (by kernel_rfl) (fun _ _ _ _ h => h) rfl rfl hn rfl (q_fieldAddr rfl rfl Try.underlying26 rfl sz24) ?_
      refine d1q (i := 8) rfl (by kernel_rfl) (fun _ _ _ _ h => h) rfl rfl hn rfl (q_load rfl rfl (id := 2) rfl Try.underlying24 rfl rfl (seesA (by simp))) ?_
      refine d1q (i := 9) rfl (by kernel_rfl) (fun _ _ _ _ h => h) rfl rfl hn rfl (q_len rfl rfl Try.underlying24) ?_
      refine d1q (i := 10) rfl (by kernel_rfl) (fun _ _ _ _ h => h) rfl rfl hn rfl (q_add rfl rfl rfl (r := ((sumR r : Nat) : Int)) (i64w (by simp only [List.length_map]; omega) (by simp only [List.length_map, sumR]; omega))) ?_
      refine d1q (i := 11) rfl (by kernel_rfl) (fun _ _ _ _ h => h) rfl rfl hn rfl (q_sub rfl rfl rfl (r := ((sumR r : Nat) : Int) - 1) (i64w (by omega) rfl)) ?_
      refine d1_of_d2 ?_
      refine d2_one (i := 12) (by kernel_rfl) rfl (s_call [] (fun _ => In_ok _ _ _) rfl (guard_none rfl) rfl (nb hn rfl) (fun _ => trivial) rfl rfl (.refl _)) fun _ => ?_
      refine d2_of_d1 ?_
      refine d1q (i := 13) rfl (by kernel_rfl) (fun _ _ _ _ h => h) rfl rfl hn rfl (q_not rfl rfl) ?_
      refine d1q (i := 14) rfl (by kernel_rfl) (fun _ _ _ _ h => h) rfl rfl hn rfl (q_move rfl rfl) ?_
      refine d1g (i := 15) [] rfl (by kernel_rfl) (fun _ _ _ _ h => h) (guard_some rfl rfl rfl) rfl hn rfl (fun hc => trivial) (fun hc => q_move rfl rfl) ?_
      refine d1g (i := 16) [(48, _)] rfl (by kernel_rfl) (fun _ _ _ _ h => h) (guard_some rfl rfl rfl) rfl hn rfl (fun hc => ⟨⟨_, rfl, hc⟩, trivial⟩) (fun hc => q_gtr rfl rfl rfl) ?_
      refine d1g (i := 17) [(49, _)] rfl (by kernel_rfl) (fun _ _ _ _ h => h) (guard_some rfl rfl rfl) rfl hn rfl (fun hc => ⟨⟨_, rfl, hc⟩, trivial⟩) (fun hc => q_move rfl rfl) ?_
      refine d1g (i := 18) [] rfl (by kernel_rfl) (fun _ _ _ _ h => h) (guard_some rfl rfl rfl) rfl hn rfl (fun hc => trivial) (fun hc => q_move rfl rfl) ?_
      refine d1g (i := 19) [] rfl (by kernel_rfl) (fun _ _ _ _ h => h) (guard_some rfl rfl rfl) rfl hn rfl (fun hc => trivial) (fun hc => q_move rfl rfl) ?_
      refine d1g (i := 20) [(51, _), (52, _)] rfl (by kernel_rfl) (fun _ _ _ _ h => h) (guard_some rfl rfl rfl) rfl hn rfl (fun hc => ⟨⟨_, rfl, hc⟩, ⟨_, rfl, hc⟩, trivial⟩) (fun hc => q_index rfl rfl rfl Try.underlying22 sz3 rfl (mget hx)) ?_
      refine d1g (i := 21) [(53, _)] rfl (by kernel_rfl) (fun _ _ _ _ h => h) (guard_some rfl rfl rfl) rfl hn rfl (fun hc => ⟨⟨_, rfl, hc⟩, trivial⟩) (fun hc => q_loadp rfl rfl Try.underlying3 rfl seesFA) ?_
      refine d1g (i := 22) [] rfl (by kernel_rfl) (fun _ _ _ _ h => h) (guard_some rfl rfl rfl) rfl hn rfl (fun hc => trivial) (fun hc => q_move rfl rfl) ?_
      refine d1g (i := 23) [] rfl (by kernel_rfl) (fun _ _ _ _ h => h) (guard_some rfl rfl rfl) rfl hn rfl (fun hc => trivial) (fun hc => q_move rfl rfl) ?_
      refine d1g (i := 24) [(56, _)] rfl (by kernel_rfl) (fun _ _ _ _ h => h) (guard_some rfl rfl rfl) rfl hn rfl (fun hc => ⟨⟨_, rfl, hc⟩, trivial⟩) (fun hc => q_sub rfl rfl rfl (r := (i : Int) - 1) (i64w (by omega) rfl)) ?_
      refine d1g (i := 25) [(55, _), (57, _)] rfl (by kernel_rfl) (fun _ _ _ _ h => h) (guard_some rfl rfl rfl) rfl hn rfl (fun hc => ⟨⟨_, rfl, hc⟩, ⟨_, rfl, hc⟩, trivial⟩) (fun hc => q_index (i := i - 1) rfl rfl rfl Try.underlying22 sz3 (by simp at hc; omega) (mget hy)) ?_
      refine d1g (i := 26) [(58, _)] rfl (by kernel_rfl) (fun _ _ _ _ h => h) (guard_some rfl rfl rfl) rfl hn rfl (fun hc => ⟨⟨_, rfl, hc⟩, trivial⟩) (fun hc => q_loadp rfl rfl Try.underlying3 rfl seesFA) ?_
      refine d1g (i := 27) [(54, _), (59, _)] rfl (by kernel_rfl) (fun _ _ _ _ h => h) (guard_some rfl rfl rfl) rfl hn rfl (fun hc => ⟨⟨_, rfl, hc⟩, ⟨_, rfl, hc⟩, trivial⟩) (fun hc => q_leq rfl rfl rfl) ?_
      refine d1g (i := 28) [(50, _)] rfl (by kernel_rfl) (fun _ _ _ _ h => h) (guard_some rfl rfl rfl) rfl hn rfl (fun hc => ⟨⟨_, rfl, hc⟩, trivial⟩) (fun hc => q_and rfl rfl rfl (by intro hB; first | (rw [hB]; rfl) | (rw [hB, hc]; rfl) | simp_all)) ?_
      refine d1q (i := 29) rfl (by kernel_rfl) (fun _ _ _ _ h => h) rfl rfl hn rfl (q_or rfl rfl rfl (by intro hB; first | (rw [hB]; rfl) | (rw [hB, hc]; rfl) | simp_all)) ?_
      refine d1_of_d2 ?_
      refine d2_done (by kernel_rfl) ?_
      refine aend_then ?_
      refine awp_cond rfl (fun hb2 => ?_) (fun hb2 => ?_)
      · skip
        exfalso; simp at hb2; omega
      · skip
        refine awp_skip ?_
        refine aend_then ?_
        refine awp_region ?_
        refine sq rfl rfl hn rfl (q_move rfl rfl) ?_
        refine sq rfl rfl hn rfl (q_move rfl rfl) ?_
        refine sq rfl rfl hn rfl (q_move rfl rfl) ?_
        refine sq rfl rfl hn rfl (q_index rfl rfl rfl Try.underlying22 sz3 rfl (mget hx)) ?_
        refine sq rfl rfl hn rfl (q_loadp rfl rfl Try.underlying3 rfl seesF0) ?_
        refine sq rfl rfl hn rfl (q_conv rfl rfl Try.underlying3 Try.underlying72 (r := ((x.toNat : Nat) : Int)) (u64w (by omega) hxk.symm)) ?_
        refine sq rfl rfl hn rfl (q_shl rfl rfl rfl (by omega) (by show _ ≤ (64 : Int); omega) (shl_i64 (by omega))) ?_
        refine sq rfl rfl hn rfl (q_bitor rfl rfl rfl ((or_i64 (by omega) (by have := Nat.pow_lt_pow_right (a := 2) (by omega) (show x.toNat < sumR r by omega); omega)).trans (congrArg (fun z : Nat => (z : Int)) (bits_step hx)))) ?_
        refine sq rfl rfl hn rfl (q_assign rfl rfl) ?_
        refine run_nil ?_
        refine aend_block ?_
        refine aend_then ?_
        refine awp_region ?_
        refine sq rfl rfl hn rfl (q_move rfl rfl) ?_
        refine sq rfl rfl hn rfl (q_add rfl rfl rfl (i64w (by omega) rfl)) ?_
        refine sq rfl rfl hn rfl (q_assign rfl rfl) ?_
        refine run_nil ?_
        exact aend_round_on ⟨i + 1, by omega⟩ ⟨.inl rfl, .inl rfl, holdT_anys _⟩ trivial (by simp only; omega) (by repeat (first | exact kr _ | refine kc rfl ?_)) (by repeat (first | exact kr _ | refine kc rfl ?_))
    · skip
      have hil : i = l.length := by simp only [List.length_map] at hb1; simp at hb1; omega
      subst hil
      rw [List.take_length]
      refine awp_exit ?_
      refine aend_then_exit ?_
      refine aend_then_exit ?_
      refine aend_block_exit ?_
      refine aend_then ?_
      refine awp_seq ?_
      refine awp_region ?_
      refine sq rfl rfl hn rfl (q_loadAd rfl rfl (id := 2) rfl Try.underlying26 rfl sz26 rfl rfl sees0) ?_
      refine sq rfl rfl hn rfl (q_move rfl rfl) ?_
      refine stepW (s_call [] (fun _ => Without_ok r (bitsL l) (by omega) (by omega) (by omega)) rfl (guard_none rfl) rfl (nb hn rfl) (fun _ => trivial) rfl rfl (.refl _)) fun _ => ?_
      refine sq rfl rfl hn rfl (q_move rfl rfl) ?_
      refine sq rfl rfl hn rfl (q_extractd rfl rfl rfl) ?_
      refine sq rfl rfl hn rfl (q_extractd rfl rfl rfl) ?_
      refine stepW (s_alloc 9 rfl rfl rfl (nb hn rfl) zr26 rfl rfl) fun b9 => ?_
      refine stepW (s_store rfl rfl rfl rfl rfl rfl (id := 9) rfl sz26 rfl (Nat.le_of_ble_eq_true rfl) rfl trivial) fun _ => ?_
      refine sq rfl rfl hn rfl (q_assign rfl rfl) ?_
      refine run_nil ?_
      refine aend_then ?_
      refine awp_seq ?_
      refine awp_region ?_
      refine sq rfl rfl hn rfl (q_loadAd rfl rfl (id := 2) rfl Try.underlying26 rfl sz26 rfl rfl sees0) ?_
      refine sq rfl rfl hn rfl (q_move rfl rfl) ?_
      refine sq rfl rfl hn rfl (q_conv rfl rfl Try.underlying71 Try.underlying3 (r := (b : Int)) (i64w (by omega) rfl)) ?_
      refine stepW (s_call [] (fun _ => Without_ok r b (by omega) (by omega) (by omega)) rfl (guard_none rfl) rfl (nb hn rfl) (fun _ => trivial) rfl rfl (.refl _)) fun _ => ?_
      refine sq rfl rfl hn rfl (q_move rfl rfl) ?_
      refine sq rfl rfl hn rfl (q_extractd rfl rfl rfl) ?_
      refine sq rfl rfl hn rfl (q_extractd rfl rfl rfl) ?_
      refine stepW (s_alloc 11 rfl rfl rfl (nb hn rfl) zr26 rfl rfl) fun b11 => ?_
      refine stepW (s_store rfl rfl rfl rfl rfl rfl (id := 11) rfl sz26 rfl (Nat.le_of_ble_eq_true rfl) rfl trivial) fun _ => ?_
      refine sq rfl rfl hn rfl (q_assign rfl rfl) ?_
      refine run_nil ?_
      refine aend_then ?_
      refine awp_seq ?_
      refine awp_region ?_
      refine sq rfl rfl hn rfl (q_loadAd rfl rfl (id := 9) rfl Try.underlying26 rfl sz26 rfl rfl sees0) ?_
      refine stepW (s_call [] (fun _ => Register_ok (withoutR r (bitsL l)) (by have h5 := (valid_without v (bitsL l)).s4; omega) (by have h5 := (valid_without v (bitsL l)).e6; omega) (by have h5 := (valid_without v (bitsL l)).g4; omega)) rfl (guard_none rfl) rfl (nb hn rfl) (fun _ => trivial) rfl rfl (.refl _)) fun _ => ?_
      refine stepW (s_callE (explain_ok (withoutR r (bitsL l))) rfl rfl rfl (nb hn rfl) (.d rfl) rfl (.refl _) trivial (fun _ => rfl) (fun _ _ => trivial)) fun x1 => ?_
      have he1 := (expl_err (valid_without v (bitsL l)) x1).1.2 (by rw [dropR_bits hinc]; exact hT)
      refine sq rfl rfl hn rfl (q_move rfl rfl) ?_
      refine sq rfl rfl hn rfl (q_extractd rfl rfl rfl) ?_
      refine sq rfl rfl hn rfl (q_extractd rfl rfl rfl) ?_
      refine sq rfl rfl hn rfl (q_assign rfl rfl) ?_
      refine sq rfl rfl hn rfl (q_assign rfl rfl) ?_
      refine run_nil ?_
      refine aend_then ?_
      refine awp_seq ?_
      refine awp_region ?_
      refine sq rfl rfl hn rfl (q_loadAd rfl rfl (id := 11) rfl Try.underlying26 rfl sz26 rfl rfl sees0) ?_
      refine stepW (s_call [] (fun _ => Register_ok (withoutR r b) (by have h5 := (valid_without v b).s4; omega) (by have h5 := (valid_without v b).e6; omega) (by have h5 := (valid_without v b).g4; omega)) rfl (guard_none rfl) rfl (nb hn rfl) (fun _ => trivial) rfl rfl (.refl _)) fun _ => ?_
      refine stepW (s_callE (explain_ok (withoutR r b)) rfl rfl rfl (nb hn rfl) (.d rfl) rfl (.refl _) trivial (fun _ => rfl) (fun _ _ => trivial)) fun x2 => ?_
      have he2 := left_fin v hl (expl_err (valid_without v b) x2)
      refine sq rfl rfl hn rfl (q_move rfl rfl) ?_
      refine sq rfl rfl hn rfl (q_extractd rfl rfl rfl) ?_
      refine sq rfl rfl hn rfl (q_extractd rfl rfl rfl) ?_
      refine sq rfl rfl hn rfl (q_assign rfl rfl) ?_
      refine sq rfl rfl hn rfl (q_assign rfl rfl) ?_
      refine run_nil ?_
      refine aend_then ?_
      refine awp_seq ?_
      refine awp_region ?_
      refine sq rfl rfl hn rfl (q_move rfl rfl) ?_
      refine sq rfl rfl hn rfl (q_eql rfl rfl rfl) ?_
      refine sq rfl rfl hn rfl (q_move rfl rfl) ?_
      refine stepG [] (guard_some rfl rfl rfl) rfl (nb hn rfl) (fun hc => trivial) (fun hc => q_move rfl rfl) ?_
      refine stepG [(99, _)] (guard_some rfl rfl rfl) rfl (nb hn rfl) (fun hc => ⟨⟨_, rfl, hc⟩, trivial⟩) (fun hc => q_eql rfl rfl rfl) ?_
      refine sq rfl rfl hn rfl (q_and rfl rfl rfl (by intro hB; first | (rw [hB]; rfl) | (rw [hB, hc]; rfl) | simp_all)) ?_
      refine sq rfl rfl hn rfl (q_move rfl rfl) ?_
      refine stepG [] (guard_some rfl rfl rfl) rfl (nb hn rfl) (fun hc => trivial) (fun hc => q_move rfl rfl) ?_
      refine stepG [(103, _)] (guard_some rfl rfl rfl) rfl (nb hn rfl) (fun hc => ⟨⟨_, rfl, hc⟩, trivial⟩) (fun hc => q_eql rfl rfl rfl) ?_
      refine stepG [(104, _)] (guard_some rfl rfl rfl) rfl (nb hn rfl) (fun hc => ⟨⟨_, rfl, hc⟩, trivial⟩) (fun hc => q_move rfl rfl) ?_
      refine stepG [] (guard_some rfl rfl rfl) rfl (nb hn rfl) (fun hc => trivial) (fun hc => q_move rfl rfl) ?_
      refine stepG [(106, _)] (guard_some rfl rfl rfl) rfl (nb hn rfl) (fun hc => ⟨⟨_, rfl, hc⟩, trivial⟩) (fun hc => q_eql rfl rfl rfl) ?_
      refine stepG [(107, _)] (guard_some rfl rfl rfl) rfl (nb hn rfl) (fun hc => ⟨⟨_, rfl, hc⟩, trivial⟩) (fun hc => q_move rfl rfl) ?_
      refine stepG [] (guard_some rfl rfl rfl) rfl (nb hn rfl) (fun hc => trivial) (fun hc => q_move rfl rfl) ?_
      refine stepG [] (guard_some rfl rfl rfl) rfl (nb hn rfl) (fun hc => trivial) (fun hc => q_move rfl rfl) ?_
      refine stepW (s_call [(109, _), (110, _)] (fun hc => Shorter_ok _ _) rfl (guard_some rfl rfl rfl) rfl (nb hn rfl) (fun hc => ⟨⟨_, rfl, hc⟩, ⟨_, rfl, hc⟩, trivial⟩) rfl rfl (.refl _)) fun _ => ?_
      refine stepG [(111, _)] (guard_some rfl rfl rfl) rfl (nb hn rfl) (fun hc => ⟨⟨_, rfl, hc⟩, trivial⟩) (fun hc => q_not rfl rfl) ?_
      refine stepG [(108, _)] (guard_some rfl rfl rfl) rfl (nb hn rfl) (fun hc => ⟨⟨_, rfl, hc⟩, trivial⟩) (fun hc => q_and rfl rfl rfl (by intro hB; first | (rw [hB]; rfl) | (rw [hB, hc]; rfl) | simp_all)) ?_
      refine stepG [(105, _)] (guard_some rfl rfl rfl) rfl (nb hn rfl) (fun hc => ⟨⟨_, rfl, hc⟩, trivial⟩) (fun hc => q_or rfl rfl rfl (by intro hB; first | (rw [hB]; rfl) | (rw [hB, hc]; rfl) | simp_all)) ?_
      refine sq rfl rfl hn rfl (q_and rfl rfl rfl (by intro hB; first | (rw [hB]; rfl) | (rw [hB, hc]; rfl) | simp_all)) ?_
      refine sq rfl rfl hn rfl (q_move rfl rfl) ?_
      refine stepW (s_call [] (fun hc => awake_ok) rfl (guard_some rfl rfl rfl) rfl (nb hn rfl) (fun hc => trivial) rfl rfl (.refl _)) fun _ => ?_
      refine sq rfl rfl hn rfl (q_and rfl rfl rfl (by intro hB; first | (rw [hB]; rfl) | (rw [hB, hc]; rfl) | simp_all)) ?_
      refine sq rfl rfl hn rfl (q_assign rfl rfl) ?_
      refine run_nil ?_
      refine aend_then ?_
      refine awp_ret ?_
      exact ret_E (.inl rfl) () ((hands_1 rfl (.tmp rfl)).eq (by rw [he1]; simp only [he2]; rfl)) trivial
end Go.Proofs.Ytnbmmopjkkofoaa
