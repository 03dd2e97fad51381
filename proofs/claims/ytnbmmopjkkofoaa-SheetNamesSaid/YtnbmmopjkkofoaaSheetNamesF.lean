/-
  A part of the proof that contangolaw.SheetNames returns true: what the last text needs, and no more. No condition: no statement of the seat is proved here.
-/
import Derived.Laws.Bits64b
import Derived.Test.YtnbmmopjkkofoaaSheetNamesE
namespace Go.Proofs.Ytnbmmopjkkofoaa
open Go.RowKit
set_option maxRecDepth 20000
set_option linter.all false
@[reducible] def intT (n : Int) : TV := .d (.int .i64 n)
theorem bits_one (x : Nat) (hx : x < 18446744073709551616) : bits .and .u64 (x : Int) 1 = ((x % 2 : Nat) : Int) := by
  have := bits_and_u64_nat x 1 hx (by omega)
  rw [show ((1 : Nat) : Int) = 1 from rfl] at this
  rw [this, Nat.and_one_is_mod]
theorem has_bits {d i : Nat} (hd : d < 18446744073709551616) : bits .and .u64 ((d : Int) / 2 ^ ((i : Int)).toNat) 1 = ((d / 2 ^ i % 2 : Nat) : Int) := by
  have : (d : Int) / 2 ^ ((i : Int)).toNat = ((d / 2 ^ i : Nat) : Int) := by simp
  rw [this, bits_one _ (Nat.lt_of_le_of_lt (Nat.div_le_self _ _) hd)]
theorem has_eq {d i : Nat} : (((d / 2 ^ i % 2 : Nat) : Int) == 1) = d.testBit i := by
  rw [Nat.testBit_eq_decide_div_mod_eq]
  generalize d / 2 ^ i % 2 = x
  rw [Bool.eq_iff_iff, beq_iff_eq, decide_eq_true_eq]
  omega
structure Valid (r : Reg) : Prop where
  h1 : 1 ≤ r.houses
  h4 : r.houses ≤ 4
  s1 : 1 ≤ r.start.length
  s4 : r.start.length ≤ 4
  e6 : r.entries.length ≤ 6
  g4 : r.sights.length ≤ 4
  st : ∀ x ∈ r.start, 0 ≤ x ∧ x ≤ r.houses - 1
  en : ∀ e ∈ r.entries, 0 ≤ e.kind ∧ e.kind ≤ 2 ∧ 0 ≤ e.sheet ∧ e.sheet ≤ (r.start.length : Int) - 1 ∧ 0 ≤ e.frm ∧ e.frm ≤ r.houses - 1 ∧ 0 ≤ e.to ∧ e.to ≤ r.houses - 1 ∧ e.frm ≠ e.to ∧ 0 ≤ e.lo ∧ e.lo ≤ e.hi ∧ e.hi ≤ 9
  si : ∀ s ∈ r.sights, 0 ≤ s.sheet ∧ s.sheet ≤ (r.start.length : Int) - 1 ∧ 0 ≤ s.house ∧ s.house ≤ r.houses - 1 ∧ 0 ≤ s.day ∧ s.day ≤ 9
theorem valid_of {r : Reg} (h : checkE r = 0) : Valid r := by
  have hl : limB r = false := by cases hl : limB r <;> simp_all [checkE]
  have ha : argB r = false := by cases ha : argB r <;> simp_all [checkE]
  simp only [limB, argB, Bool.or_eq_false_iff, decide_eq_false_iff_not, Int.not_lt, beq_eq_false_iff_ne, ne_eq, Bool.not_eq_false', List.all_eq_true] at hl ha
  obtain ⟨⟨⟨l1, l2⟩, l3⟩, l4⟩ := hl
  obtain ⟨⟨⟨⟨a1, a2⟩, a3⟩, a4⟩, a5⟩ := ha
  have hr1 : 1 ≤ r.houses := by omega
  refine ⟨hr1, l1, by omega, by omega, by omega, by omega, fun x hx => ?_, fun e he => ?_, fun s hs => ?_⟩
  · have := a3 x hx
    rw [houseB_eq hr1 l1] at this
    simpa using this
  · have := a4 e he
    simp only [entryB, houseB_eq hr1 l1, sheetB, dayB, Bool.and_eq_true, decide_eq_true_eq, bne_iff_ne] at this
    omega
  · have := a5 s hs
    simp only [sightB, houseB_eq hr1 l1, sheetB, dayB, Bool.and_eq_true, decide_eq_true_eq] at this
    omega
theorem checkE_of {r : Reg} (v : Valid r) : checkE r = 0 := by
  refine checkE_0 ?_ v.h1 ⟨v.h4, fun e => by have := v.s1; simp [e] at this⟩ ?_ ?_ ?_
  · have := v.h4; have := v.s4; have := v.e6; have := v.g4
    simp [limB]
    omega
  · refine List.all_eq_true.2 fun x hx => ?_
    have := v.st x hx
    rw [houseB_eq v.h1 v.h4]
    simpa using this
  · refine List.all_eq_true.2 fun e he => ?_
    have := v.en e he
    simp only [entryB, houseB_eq v.h1 v.h4, sheetB, dayB, Bool.and_eq_true, decide_eq_true_eq, bne_iff_ne]
    omega
  · refine List.all_eq_true.2 fun s hs => ?_
    have := v.si s hs
    simp only [sightB, houseB_eq v.h1 v.h4, sheetB, dayB, Bool.and_eq_true, decide_eq_true_eq]
    omega
def bump (c : List Int) (h x : Int) : List Int := c.set h.toNat (c.getD h.toNat 0 + x)
def comeF (d : Nat) (s : Int) : Nat → List Ent5 → List Int → List Int
  | _, [], c => c
  | k, e :: es, c => comeF d s (k + 1) es (bif d.testBit k && (e.sheet == s) then bump (bump c e.frm (-1)) e.to 1 else c)
def come0 (x : Int) : List Int := bump [0, 0, 0, 0] x 1
def placeOf (r : Reg) (d : Nat) (s : Nat) : Int := idxOf (fun x => (1 : Int) == x) (comeF d s 0 r.entries (come0 (r.start.getD s 0)))
def placeN (r : Reg) (d : Nat) (n j : Nat) : Int := if j < n then placeOf r d j else r.start.getD j 0
def placesL (r : Reg) (d : Nat) (n : Nat) : List Int := (List.range 4).map (placeN r d n)
@[reducible] def intD (n : Int) : D := .int .i64 n
/-- The houses of all four sheets, as an array. -/
def placesA (r : Reg) (d : Nat) : List Int := placesL r d r.start.length
theorem bump_len (c : List Int) (h x : Int) : (bump c h x).length = c.length := by simp [bump]
theorem bump_bd {c : List Int} {h x : Int} {m : Int} (hc : ∀ y ∈ c, -m ≤ y ∧ y ≤ m) (h0 : 0 ≤ m) (hx : -1 ≤ x ∧ x ≤ 1) : ∀ y ∈ bump c h x, -(m + 1) ≤ y ∧ y ≤ m + 1 := by
  intro y hy
  rcases List.mem_or_eq_of_mem_set hy with hy | rfl
  · have := hc y hy; omega
  · by_cases hl : h.toNat < c.length
    · have := hc (c.getD h.toNat 0) (by rw [List.getD_eq_getElem?_getD, List.getElem?_eq_getElem hl]; exact List.getElem_mem hl)
      omega
    · rw [List.getD_eq_getElem?_getD, List.getElem?_eq_none (by omega)]
      simp
      omega
theorem at1 {α β : Type} {l : List α} {f : α → β} {i : Nat} {x : α} (h : l[i]? = some x) : (l.map f)[0 + i * 1]? = some (f x) := by simp [h]
theorem set1 {α β : Type} {l : List α} {f : α → β} {i : Nat} {x : α} : (l.map f).set (0 + i * 1) (f x) = (l.set i x).map f := by simp [List.map_set]
theorem getD_of {l : List Int} {i : Nat} {x : Int} (h : l[i]? = some x) : l.getD i 0 = x := by simp [List.getD_eq_getElem?_getD, h]
theorem drop_of {α : Type} {l : List α} {i : Nat} {x : α} (h : l[i]? = some x) : l.drop i = x :: l.drop (i + 1) := by
  obtain ⟨hlt, rfl⟩ := List.getElem?_eq_some_iff.1 h
  exact List.drop_eq_getElem_cons hlt
theorem placesL_get {r : Reg} {d n j : Nat} (h : j < 4) : (placesL r d n)[j]? = some (placeN r d n j) := by simp [placesL, h]
theorem placesL_set {r : Reg} {d n : Nat} (h : n < 4) : (placesL r d n).set n (placeOf r d n) = placesL r d (n + 1) := by
  apply List.ext_getElem?
  intro j
  simp only [placesL, List.getElem?_set, List.length_map, List.length_range, List.getElem?_map]
  by_cases e : n = j
  · subst e; simp [h, placeN]
  · rw [if_neg e]
    by_cases hj : j < 4
    · simp only [List.getElem?_range hj, Option.map_some, placeN]
      by_cases k : j < n
      · rw [if_pos k, if_pos (by omega)]
      · rw [if_neg k, if_neg (by omega)]
    · rw [List.getElem?_eq_none (by simpa using hj)]; rfl
theorem placesL_0 {r : Reg} {d : Nat} (h : r.start.length ≤ 4) : placesL r d 0 = r.start ++ List.replicate (4 - r.start.length) 0 := by
  apply List.ext_getElem?
  intro j
  simp only [placesL, List.getElem?_map]
  by_cases hj : j < 4
  · simp only [List.getElem?_range hj, Option.map_some, placeN, Nat.not_lt_zero, if_false, List.getElem?_append]
    by_cases k : j < r.start.length
    · simp [k, List.getD_eq_getElem?_getD]
    · rw [if_neg k, List.getElem?_replicate, if_pos (by omega), List.getD_eq_getElem?_getD, List.getElem?_eq_none (by omega)]
      rfl
  · rw [List.getElem?_eq_none (by simpa using hj), List.getElem?_eq_none (by simp; omega)]
    rfl
theorem placesL_cur {r : Reg} {d i : Nat} {x : Int} (h : r.start[i]? = some x) (hi : i < 4) : (placesL r d i)[i]? = some x := by
  rw [placesL_get hi]
  simp [placeN, List.getD_eq_getElem?_getD, h]
theorem copy0 {r : Reg} {d : Nat} {cs : List TV} (h : r.start.length ≤ 4) (hc : cs = List.replicate 4 (intT 0)) : (((r.start.map intE).take 4).flatten.map TV.d) ++ cs.drop (Nat.min (r.start.map intE).length 4) = (placesL r d 0).map intT := by
  subst hc
  rw [placesL_0 h, List.take_of_length_le (by simpa using h), List.length_map, show Nat.min r.start.length 4 = r.start.length from Nat.min_eq_left h, List.map_append, List.map_replicate, List.drop_replicate]
  congr 1
  generalize r.start = l
  induction l with
  | nil => rfl
  | cons x l ih => simp [ih]
theorem zero4 {k : Nat} (h : k < 4) : ([intT 0, intT 0, intT 0, intT 0] : List TV)[0 + k * 1]? = some (intT 0) := by
  rcases k with _ | _ | _ | _ | k <;> first | rfl | omega
theorem set_come0 {x : Int} (h : x.toNat < 4) : ([intT 0, intT 0, intT 0, intT 0] : List TV).set (0 + x.toNat * 1) (intT (0 + 1)) = (come0 x).map intT := by
  unfold come0 bump
  generalize x.toNat = k at h
  rcases k with _ | _ | _ | _ | k <;> first | rfl | omega
theorem come0_len {x : Int} : (come0 x).length = 4 := by simp [come0, bump_len]
theorem come0_bd {x : Int} : ∀ y ∈ come0 x, -(1 : Int) ≤ y ∧ y ≤ 1 := by
  have := bump_bd (c := [0, 0, 0, 0]) (h := x) (x := 1) (m := 0) (by simp) (by omega) (by omega)
  intro y hy
  have := this y hy
  omega
theorem getD_some {l : List Int} {k : Nat} (h : k < l.length) : l[k]? = some (l.getD k 0) := by
  rw [List.getD_eq_getElem?_getD, List.getElem?_eq_getElem h]
  rfl
theorem getD_mem {l : List Int} {k : Nat} (h : k < l.length) : l.getD k 0 ∈ l := List.mem_of_getElem? (getD_some h)
theorem allD_int : ∀ (l : List Int), allD (l.map intT) = some (l.map intD)
  | [] => rfl
  | x :: l => by simp only [List.map_cons, allD, allD_int l]
theorem chunk_int : ∀ (l : List Int), chunk 1 l.length (l.map intD) = l.map intE
  | [] => rfl
  | x :: l => by simp only [List.length_cons, List.map_cons, chunk, List.take_succ_cons, List.take_zero, List.drop_succ_cons, List.drop_zero, chunk_int l]
theorem chunk_int4 {l : List Int} (h : l.length = 4) : chunk 1 4 (l.map intD) = l.map intE := h ▸ chunk_int l
theorem beq_int4 {l : List Int} (h : l.length = 4) : Nat.beq (l.map intD).length (4 * 1) = true := by simp [h]
def openF (d : Nat) (a b : Int) : Nat → List Ent5 → Int → Int
  | _, [], n => n
  | k, e :: es, n => openF d a b (k + 1) es (bif !(d.testBit k) then n else bif (e.kind == 1) && (e.frm == a) && (e.to == b) then n + 1 else bif (e.kind == 2) && (e.frm == b) && (e.to == a) then n - 1 else n)
def openN (r : Reg) (d : Nat) (a b : Int) : Int := openF d a b 0 r.entries 0
theorem sz103 : Sz Try.prog 103 4 := (by kernel_rfl : (Try.prog.info? 103).map (·.size) = some 4)
theorem zr3 : (Try.prog.info? 3).map (·.zero) = some (some (.int .i64 0)) := by kernel_rfl
theorem zr22 : (Try.prog.info? 22).map (·.zero) = some (some (.slice none 0 0)) := by kernel_rfl
theorem zr83 : (Try.prog.info? 83).map (·.zero) = some (some (.agg #[(.int .i64 0), (.int .i64 0), (.int .i64 0), (.int .i64 0)])) := by kernel_rfl
theorem zr95 : (Try.prog.info? 95).map (·.zero) = some (some (.agg #[(.int .i64 0), (.int .i64 0), (.int .i64 0), (.int .i64 0), (.int .i64 0), (.int .i64 0)])) := by kernel_rfl
theorem zr103 : (Try.prog.info? 103).map (·.zero) = some (some (.agg #[(.int .i64 0), (.int .i64 0), (.int .i64 0), (.int .i64 0)])) := by kernel_rfl
theorem elt22 : ElT Try.prog 22 3 1 8 := elt_of Try.underlying22 (z := (.int .i64 0)) (by kernel_rfl) rfl (by decide)
theorem elt77 : ElT Try.prog 77 22 1 24 := elt_of Try.underlying77 (z := (.slice none 0 0)) (by kernel_rfl) rfl (by decide)
theorem elt133 : ElT Try.prog 133 103 4 32 := elt_of Try.underlying133 (z := (.agg #[(.int .i64 0), (.int .i64 0), (.int .i64 0), (.int .i64 0)])) (by kernel_rfl) rfl (by decide)
theorem has_ok (d i : Nat) (hd : d < 18446744073709551616) (hi : i < 64) : PureAt Try.prog 85 [.int .u64 (d : Nat), .int .i64 (i : Nat)] (.bool (d.testBit i)) := by
  refine PureAt.of_awp Try.func85 rfl (by kernel_rfl) (Nat.le_of_ble_eq_true rfl) fun Γ hn hl => ?_
  refine awp_seq ?_
  refine awp_region ?_
  refine sq rfl rfl hn rfl (q_assign rfl rfl) ?_
  refine run_nil ?_
  refine aend_then ?_
  refine awp_seq ?_
  refine awp_region ?_
  refine sq rfl rfl hn rfl (q_move rfl rfl) ?_
  refine sq rfl rfl hn rfl (q_move rfl rfl) ?_
  refine sq rfl rfl hn rfl (q_shr rfl rfl rfl (by omega) (by simp [IntKind.bits]; omega)) ?_
  refine sq rfl rfl hn rfl (q_bitand rfl rfl rfl (has_bits hd)) ?_
  refine sq rfl rfl hn rfl (q_eql rfl rfl rfl) ?_
  refine sq rfl rfl hn rfl (q_assign rfl rfl) ?_
  refine run_nil ?_
  refine aend_then ?_
  refine awp_ret ?_
  refine ret_eq (ret_1 (.inl rfl) hl rfl (.tmp rfl)) ?_
  rw [has_eq]
theorem Index_ok (l : List Int) (n : Int) : PureAt Try.prog 86 [ints l, .int .i64 n] (.int .i64 (idxOf (fun x => n == x) l)) := by
  refine PureAt.of_awp' Try.func86 rfl (by kernel_rfl) rfl fun hlen Γ hn hl => ?_
  have hl5 := hlen.1; simp only [List.length_map] at hl5
  refine awp_seq ?_
  refine awp_region ?_
  refine sq rfl rfl hn rfl (q_assign rfl rfl) ?_
  refine run_nil ?_
  refine aend_then ?_
  refine awp_seq ?_
  refine awp_seq ?_
  refine awp_region ?_
  refine sq rfl rfl hn rfl (q_move rfl rfl) ?_
  refine sq rfl rfl hn rfl (q_len rfl rfl Try.underlying22) ?_
  refine sq rfl rfl hn rfl (q_move rfl rfl) ?_
  refine run_nil ?_
  refine aend_then ?_
  refine awp_block ?_
  refine awp_loop_on (ι := { i : Nat // i ≤ l.length ∧ (l.take i).all (fun x => !(n == x)) = true }) (fun i => (8, true, .d (.int .i64 (i.1 : Int))) :: anys [9, 10, 5, 11, 12, 13, 14, 15, 16, 18]) (fun i => []) (fun i => l.length - i.1) ⟨0, by simp⟩ ⟨.inl rfl, holdT_anys _⟩ trivial ?_
  rintro ⟨i, hi, hall⟩
  dsimp only
  refine awp_seq ?_
  refine awp_region ?_
  refine sq rfl rfl hn rfl (q_lss rfl rfl rfl) ?_
  refine run_nil ?_
  refine aend_then ?_
  refine awp_seq ?_
  refine awp_cond rfl (fun hb0 => ?_) (fun hb0 => ?_)
  · try simp only [decide_eq_true_eq, decide_eq_false_iff_not, Bool.and_eq_true, Bool.or_eq_true, Bool.and_eq_false_iff, Bool.or_eq_false_iff, Bool.not_eq_true', Bool.not_eq_false', beq_iff_eq, bne_iff_ne, ne_eq, beq_eq_false_iff_ne, bne_eq_false_iff_eq, Int.not_lt, Int.not_le] at hb0
    have hlt : i < l.length := by simpa using hb0
    obtain ⟨x, hx⟩ := ex_get hlt
    refine awp_skip ?_
    refine aend_then ?_
    refine awp_seq ?_
    refine awp_block ?_
    refine awp_seq ?_
    refine awp_region ?_
    refine sq rfl rfl hn rfl (q_move rfl rfl) ?_
    refine sq rfl rfl hn rfl (q_assign rfl rfl) ?_
    refine run_nil ?_
    refine aend_then ?_
    refine awp_seq ?_
    refine awp_region ?_
    refine sq rfl rfl hn rfl (q_move rfl rfl) ?_
    refine sq rfl rfl hn rfl (q_move rfl rfl) ?_
    refine sq rfl rfl hn rfl (q_move rfl rfl) ?_
    refine sq rfl rfl hn rfl (q_index rfl rfl rfl Try.underlying22 sz3 rfl (mget hx)) ?_
    refine sq rfl rfl hn rfl (q_loadp rfl rfl Try.underlying3 rfl seesF0) ?_
    refine sq rfl rfl hn rfl (q_eql rfl rfl rfl) ?_
    refine run_nil ?_
    refine aend_then ?_
    refine awp_cond rfl (fun hb1 => ?_) (fun hb1 => ?_)
    · skip
      refine awp_seq ?_
      refine awp_region ?_
      refine sq rfl rfl hn rfl (q_move rfl rfl) ?_
      refine sq rfl rfl hn rfl (q_assign rfl rfl) ?_
      refine run_nil ?_
      refine aend_then ?_
      refine awp_ret ?_
      refine aend_block_ret ?_
      refine aend_then_ret ?_
      refine aend_then_ret ?_
      refine aend_block_ret ?_
      refine aend_then_ret ?_
      refine ret_eq (ret_1 (.inl rfl) hl rfl (.tmp rfl)) ?_
      rw [idxOf_hit hx hall hb1]
    · skip
      refine awp_skip ?_
      refine aend_block ?_
      refine aend_then ?_
      refine awp_region ?_
      refine sq rfl rfl hn rfl (q_add rfl rfl rfl (r := ((i + 1 : Nat) : Int)) (i64w (by omega) (by omega))) ?_
      refine sq rfl rfl hn rfl (q_move rfl rfl) ?_
      refine run_nil ?_
      exact aend_round_on ⟨i + 1, by omega, take_all_succ hx hall (by rw [hb1]; rfl)⟩ ⟨.inl rfl, holdT_anys _⟩ trivial (by simp only; omega) (by repeat (first | exact kr _ | refine kc rfl ?_)) (by repeat (first | exact kr _ | refine kc rfl ?_))
  · try simp only [decide_eq_true_eq, decide_eq_false_iff_not, Bool.and_eq_true, Bool.or_eq_true, Bool.and_eq_false_iff, Bool.or_eq_false_iff, Bool.not_eq_true', Bool.not_eq_false', beq_iff_eq, bne_iff_ne, ne_eq, beq_eq_false_iff_ne, bne_eq_false_iff_eq, Int.not_lt, Int.not_le] at hb0
    refine awp_exit ?_
    refine aend_then_exit ?_
    refine aend_then_exit ?_
    refine aend_block_exit ?_
    refine aend_then ?_
    refine awp_seq ?_
    refine awp_region ?_
    refine sq rfl rfl hn rfl (q_assign rfl rfl) ?_
    refine run_nil ?_
    refine aend_then ?_
    refine awp_ret ?_
    refine ret_eq (ret_1 (.inl rfl) hl rfl (.tmp rfl)) ?_
    rw [idxOf_miss (full_all hb0 hi hall)]
theorem open_ok (r : Reg) (d : Nat) (a b : Int) (v : Valid r) (hd : d < 18446744073709551616) : PureAt Try.prog 65 [regD r, .int .u64 (d : Nat), .int .i64 a, .int .i64 b] (.int .i64 (openN r d a b)) := by
  refine PureAt.of_awp Try.func65 rfl (by kernel_rfl) (Nat.le_of_ble_eq_true rfl) fun Γ hn hl => ?_
  have he6 := v.e6
  refine awp_seq ?_
  refine awp_region ?_
  refine stepW (s_box 4 rfl rfl rfl (nb hn rfl) rfl rfl) fun b4 => ?_
  refine sq rfl rfl hn rfl (q_assign rfl rfl) ?_
  refine run_nil ?_
  refine aend_then ?_
  refine awp_seq ?_
  refine awp_seq ?_
  refine awp_region ?_
  refine sq rfl rfl hn rfl (q_fieldAddr rfl rfl Try.underlying35 rfl sz32) ?_
  refine sq rfl rfl hn rfl (q_load rfl rfl (id := 4) rfl Try.underlying32 rfl rfl sees0) ?_
  refine sq rfl rfl hn rfl (q_len rfl rfl Try.underlying32) ?_
  refine sq rfl rfl hn rfl (q_move rfl rfl) ?_
  refine run_nil ?_
  refine aend_then ?_
  refine awp_block ?_
  refine awp_loop_on (ι := { x : Nat × Int // x.1 ≤ r.entries.length ∧ -(x.1 : Int) ≤ x.2 ∧ x.2 ≤ x.1 ∧ openN r d a b = openF d a b x.1 (r.entries.drop x.1) x.2 }) (fun x => (14, true, .d (.int .i64 (x.1.1 : Int))) :: (8, true, .d (.int .i64 x.1.2)) :: anys [15, 16, 17, 18, 10, 9, 20, 21, 22, 23, 19, 25, 26, 27, 28, 29, 30, 31, 32, 33, 34, 35, 36, 37, 38, 39, 24, 40, 41, 43, 44, 45, 46, 47, 48, 49, 50, 51, 52, 53, 54, 55, 56, 57, 42, 58, 59, 60]) (fun x => gones [10]) (fun x => r.entries.length - x.1.1) ⟨(0, 0), by simp, by simp, by simp, by simp [openN]⟩ ⟨.inl rfl, .inl rfl, holdT_anys _⟩ (holdR_gones _) ?_
  rintro ⟨⟨i, n⟩, hi, hn1, hn2, hF⟩
  dsimp only
  dsimp only at hi hn1 hn2 hF
  refine awp_seq ?_
  refine awp_region ?_
  refine sq rfl rfl hn rfl (q_lss rfl rfl rfl) ?_
  refine run_nil ?_
  refine aend_then ?_
  refine awp_seq ?_
  refine awp_cond rfl (fun hb0 => ?_) (fun hb0 => ?_)
  · try simp only [decide_eq_true_eq, decide_eq_false_iff_not, Bool.and_eq_true, Bool.or_eq_true, Bool.and_eq_false_iff, Bool.or_eq_false_iff, Bool.not_eq_true', Bool.not_eq_false', beq_iff_eq, bne_iff_ne, ne_eq, beq_eq_false_iff_ne, bne_eq_false_iff_eq, Int.not_lt, Int.not_le] at hb0
    have hlt : i < r.entries.length := by simpa using hb0
    obtain ⟨e, he⟩ := ex_get hlt
    rw [drop_of he] at hF; simp only [openF] at hF
    refine awp_skip ?_
    refine aend_then ?_
    refine awp_seq ?_
    refine awp_block ?_
    refine awp_seq ?_
    refine awp_region ?_
    refine sq rfl rfl hn rfl (q_move rfl rfl) ?_
    refine sq rfl rfl hn rfl (q_index rfl rfl rfl Try.underlying32 sz95 rfl (mget he)) ?_
    refine sq rfl rfl hn rfl (q_loadpA rfl rfl Try.underlying95 rfl sz95 rfl rfl seesF0) ?_
    refine stepW (s_alloc 10 rfl rfl rfl (nb hn rfl) zr95 rfl rfl) fun b10 => ?_
    refine sq rfl rfl hn rfl (q_assign rfl rfl) ?_
    refine stepW (s_store rfl rfl rfl rfl rfl rfl (id := 10) rfl sz95 rfl (Nat.le_of_ble_eq_true rfl) rfl trivial) fun _ => ?_
    refine run_nil ?_
    refine aend_then ?_
    refine awp_block ?_
    refine awp_seq ?_
    refine awp_region ?_
    refine sq rfl rfl hn rfl (q_move rfl rfl) ?_
    refine sq rfl rfl hn rfl (q_move rfl rfl) ?_
    refine stepW (s_call [] (fun _ => has_ok d i hd (by omega)) rfl (guard_none rfl) rfl (nb hn rfl) (fun _ => trivial) rfl rfl (.refl _)) fun _ => ?_
    refine sq rfl rfl hn rfl (q_not rfl rfl) ?_
    refine sq rfl rfl hn rfl (q_assign rfl rfl) ?_
    refine run_nil ?_
    refine aend_then ?_
    refine awp_cond rfl (fun hb1 => ?_) (fun hb1 => ?_)
    · skip
      refine awp_skip ?_
      refine aend_block ?_
      refine aend_block ?_
      refine aend_then ?_
      refine awp_region ?_
      refine sq rfl rfl hn rfl (q_add rfl rfl rfl (r := ((i + 1 : Nat) : Int)) (i64w (by omega) (by omega))) ?_
      refine sq rfl rfl hn rfl (q_move rfl rfl) ?_
      refine run_nil ?_
      exact aend_round_on ⟨(i + 1, n), by simp only; omega, by simp only; omega, by simp only; omega, by rw [hF, hb1]; rfl⟩ ⟨.inl rfl, .inl rfl, holdT_anys _⟩ (holdR_gones _) (by simp only; omega) (by repeat (first | exact kr _ | refine kc rfl ?_)) (by repeat (first | exact kr _ | refine kc rfl ?_))
    · skip
      refine awp_seq ?_
      refine awp_region ?_
      refine sq rfl rfl hn rfl (q_fieldAddr rfl rfl Try.underlying95 rfl sz3) ?_
      refine sq rfl rfl hn rfl (q_load rfl rfl (id := 10) rfl Try.underlying3 rfl rfl sees0) ?_
      refine sq rfl rfl hn rfl (q_eql rfl rfl rfl) ?_
      refine sq rfl rfl hn rfl (q_move rfl rfl) ?_
      refine stepG [] (guard_some rfl rfl rfl) rfl (nb hn rfl) (fun hc => trivial) (fun hc => q_fieldAddr rfl rfl Try.underlying95 rfl sz3) ?_
      refine stepG [(29, _)] (guard_some rfl rfl rfl) rfl (nb hn rfl) (fun hc => ⟨⟨_, rfl, hc⟩, trivial⟩) (fun hc => q_load rfl rfl (id := 10) rfl Try.underlying3 rfl rfl sees0) ?_
      refine stepG [] (guard_some rfl rfl rfl) rfl (nb hn rfl) (fun hc => trivial) (fun hc => q_move rfl rfl) ?_
      refine stepG [(30, _), (31, _)] (guard_some rfl rfl rfl) rfl (nb hn rfl) (fun hc => ⟨⟨_, rfl, hc⟩, ⟨_, rfl, hc⟩, trivial⟩) (fun hc => q_eql rfl rfl rfl) ?_
      refine sq rfl rfl hn rfl (q_and rfl rfl rfl (by intro hB; first | (rw [hB]; rfl) | (rw [hB, hc]; rfl) | simp_all)) ?_
      refine sq rfl rfl hn rfl (q_move rfl rfl) ?_
      refine stepG [] (guard_some rfl rfl rfl) rfl (nb hn rfl) (fun hc => trivial) (fun hc => q_fieldAddr rfl rfl Try.underlying95 rfl sz3) ?_
      refine stepG [(35, _)] (guard_some rfl rfl rfl) rfl (nb hn rfl) (fun hc => ⟨⟨_, rfl, hc⟩, trivial⟩) (fun hc => q_load rfl rfl (id := 10) rfl Try.underlying3 rfl rfl sees0) ?_
      refine stepG [] (guard_some rfl rfl rfl) rfl (nb hn rfl) (fun hc => trivial) (fun hc => q_move rfl rfl) ?_
      refine stepG [(36, _), (37, _)] (guard_some rfl rfl rfl) rfl (nb hn rfl) (fun hc => ⟨⟨_, rfl, hc⟩, ⟨_, rfl, hc⟩, trivial⟩) (fun hc => q_eql rfl rfl rfl) ?_
      refine sq rfl rfl hn rfl (q_and rfl rfl rfl (by intro hB; first | (rw [hB]; rfl) | (rw [hB, hc]; rfl) | simp_all)) ?_
      refine sq rfl rfl hn rfl (q_assign rfl rfl) ?_
      refine run_nil ?_
      refine aend_then ?_
      refine awp_cond rfl (fun hb2 => ?_) (fun hb2 => ?_)
      · skip
        refine awp_region ?_
        refine sq rfl rfl hn rfl (q_move rfl rfl) ?_
        refine sq rfl rfl hn rfl (q_add rfl rfl rfl (i64w (by omega) rfl)) ?_
        refine sq rfl rfl hn rfl (q_assign rfl rfl) ?_
        refine run_nil ?_
        refine aend_block ?_
        refine aend_block ?_
        refine aend_then ?_
        refine awp_region ?_
        refine sq rfl rfl hn rfl (q_add rfl rfl rfl (r := ((i + 1 : Nat) : Int)) (i64w (by omega) (by omega))) ?_
        refine sq rfl rfl hn rfl (q_move rfl rfl) ?_
        refine run_nil ?_
        exact aend_round_on ⟨(i + 1, n + 1), by simp only; omega, by simp only; omega, by simp only; omega, by rw [hF, hb1, hb2]; rfl⟩ ⟨.inl rfl, .inl rfl, holdT_anys _⟩ (holdR_gones _) (by simp only; omega) (by repeat (first | exact kr _ | refine kc rfl ?_)) (by repeat (first | exact kr _ | refine kc rfl ?_))
      · skip
        refine awp_seq ?_
        refine awp_region ?_
        refine sq rfl rfl hn rfl (q_fieldAddr rfl rfl Try.underlying95 rfl sz3) ?_
        refine sq rfl rfl hn rfl (q_load rfl rfl (id := 10) rfl Try.underlying3 rfl rfl sees0) ?_
        refine sq rfl rfl hn rfl (q_eql rfl rfl rfl) ?_
        refine sq rfl rfl hn rfl (q_move rfl rfl) ?_
        refine stepG [] (guard_some rfl rfl rfl) rfl (nb hn rfl) (fun hc => trivial) (fun hc => q_fieldAddr rfl rfl Try.underlying95 rfl sz3) ?_
        refine stepG [(47, _)] (guard_some rfl rfl rfl) rfl (nb hn rfl) (fun hc => ⟨⟨_, rfl, hc⟩, trivial⟩) (fun hc => q_load rfl rfl (id := 10) rfl Try.underlying3 rfl rfl sees0) ?_
        refine stepG [] (guard_some rfl rfl rfl) rfl (nb hn rfl) (fun hc => trivial) (fun hc => q_move rfl rfl) ?_
        refine stepG [(48, _), (49, _)] (guard_some rfl rfl rfl) rfl (nb hn rfl) (fun hc => ⟨⟨_, rfl, hc⟩, ⟨_, rfl, hc⟩, trivial⟩) (fun hc => q_eql rfl rfl rfl) ?_
        refine sq rfl rfl hn rfl (q_and rfl rfl rfl (by intro hB; first | (rw [hB]; rfl) | (rw [hB, hc]; rfl) | simp_all)) ?_
        refine sq rfl rfl hn rfl (q_move rfl rfl) ?_
        refine stepG [] (guard_some rfl rfl rfl) rfl (nb hn rfl) (fun hc => trivial) (fun hc => q_fieldAddr rfl rfl Try.underlying95 rfl sz3) ?_
        refine stepG [(53, _)] (guard_some rfl rfl rfl) rfl (nb hn rfl) (fun hc => ⟨⟨_, rfl, hc⟩, trivial⟩) (fun hc => q_load rfl rfl (id := 10) rfl Try.underlying3 rfl rfl sees0) ?_
        refine stepG [] (guard_some rfl rfl rfl) rfl (nb hn rfl) (fun hc => trivial) (fun hc => q_move rfl rfl) ?_
        refine stepG [(54, _), (55, _)] (guard_some rfl rfl rfl) rfl (nb hn rfl) (fun hc => ⟨⟨_, rfl, hc⟩, ⟨_, rfl, hc⟩, trivial⟩) (fun hc => q_eql rfl rfl rfl) ?_
        refine sq rfl rfl hn rfl (q_and rfl rfl rfl (by intro hB; first | (rw [hB]; rfl) | (rw [hB, hc]; rfl) | simp_all)) ?_
        refine sq rfl rfl hn rfl (q_assign rfl rfl) ?_
        refine run_nil ?_
        refine aend_then ?_
        refine awp_cond rfl (fun hb3 => ?_) (fun hb3 => ?_)
        · skip
          refine awp_region ?_
          refine sq rfl rfl hn rfl (q_move rfl rfl) ?_
          refine sq rfl rfl hn rfl (q_sub rfl rfl rfl (i64w (by omega) rfl)) ?_
          refine sq rfl rfl hn rfl (q_assign rfl rfl) ?_
          refine run_nil ?_
          refine aend_block ?_
          refine aend_block ?_
          refine aend_then ?_
          refine awp_region ?_
          refine sq rfl rfl hn rfl (q_add rfl rfl rfl (r := ((i + 1 : Nat) : Int)) (i64w (by omega) (by omega))) ?_
          refine sq rfl rfl hn rfl (q_move rfl rfl) ?_
          refine run_nil ?_
          exact aend_round_on ⟨(i + 1, n - 1), by simp only; omega, by simp only; omega, by simp only; omega, by rw [hF, hb1, hb2, hb3]; rfl⟩ ⟨.inl rfl, .inl rfl, holdT_anys _⟩ (holdR_gones _) (by simp only; omega) (by repeat (first | exact kr _ | refine kc rfl ?_)) (by repeat (first | exact kr _ | refine kc rfl ?_))
        · skip
          refine awp_skip ?_
          refine aend_block ?_
          refine aend_block ?_
          refine aend_then ?_
          refine awp_region ?_
          refine sq rfl rfl hn rfl (q_add rfl rfl rfl (r := ((i + 1 : Nat) : Int)) (i64w (by omega) (by omega))) ?_
          refine sq rfl rfl hn rfl (q_move rfl rfl) ?_
          refine run_nil ?_
          exact aend_round_on ⟨(i + 1, n), by simp only; omega, by simp only; omega, by simp only; omega, by rw [hF, hb1, hb2, hb3]; rfl⟩ ⟨.inl rfl, .inl rfl, holdT_anys _⟩ (holdR_gones _) (by simp only; omega) (by repeat (first | exact kr _ | refine kc rfl ?_)) (by repeat (first | exact kr _ | refine kc rfl ?_))
  · try simp only [decide_eq_true_eq, decide_eq_false_iff_not, Bool.and_eq_true, Bool.or_eq_true, Bool.and_eq_false_iff, Bool.or_eq_false_iff, Bool.not_eq_true', Bool.not_eq_false', beq_iff_eq, bne_iff_ne, ne_eq, beq_eq_false_iff_ne, bne_eq_false_iff_eq, Int.not_lt, Int.not_le] at hb0
    refine awp_exit ?_
    refine aend_then_exit ?_
    refine aend_then_exit ?_
    refine aend_block_exit ?_
    refine aend_then ?_
    refine awp_seq ?_
    refine awp_region ?_
    refine sq rfl rfl hn rfl (q_move rfl rfl) ?_
    refine sq rfl rfl hn rfl (q_assign rfl rfl) ?_
    refine run_nil ?_
    refine aend_then ?_
    refine awp_ret ?_
    refine ret_eq (ret_1 (.inl rfl) hl rfl (.tmp rfl)) ?_
    have e : i = r.entries.length := by simp only [List.length_map] at hb0; omega
    subst e; rw [List.drop_length] at hF; rw [hF]; rfl
theorem places_ok (r : Reg) (d : Nat) (v : Valid r) (hd : d < 18446744073709551616) : PureAt Try.prog 55 [regD r, .int .u64 (d : Nat)] (.agg ((placesA r d).map intD)) := by
  refine PureAt.of_awp Try.func55 rfl (by kernel_rfl) (Nat.le_of_ble_eq_true rfl) fun Γ hn hl => ?_
  have he6 := v.e6; have hs4 := v.s4; have hh4 := v.h4
  refine awp_seq ?_
  refine awp_region ?_
  refine stepW (s_box 2 rfl rfl rfl (nb hn rfl) rfl rfl) fun b2 => ?_
  refine stepW (s_alloc 4 rfl rfl rfl (nb hn rfl) zr103 rfl rfl) fun b4 => ?_
  refine run_nil ?_
  refine aend_then ?_
  refine awp_seq ?_
  refine d_start (W := fun b => b ≠ b2) fmo ?_
  refine d1q (i := 0) rfl (by kernel_rfl) (fun _ _ _ _ h => h) rfl rfl hn rfl (q_sliceA rfl rfl Try.underlying103 sz3) ?_
  refine d1q (i := 1) rfl (by kernel_rfl) (fun _ _ _ _ h => h) rfl rfl hn rfl (q_fieldAddr rfl rfl Try.underlying35 rfl sz22) ?_
  refine d1q (i := 2) rfl (by kernel_rfl) (fun _ _ _ _ h => h) rfl rfl hn rfl (q_load rfl rfl (id := 2) rfl Try.underlying22 rfl rfl (seesA (by simp))) ?_
  refine d1_of_d2 ?_
  refine g_ne_d2 (i := 4) (j := 2) rfl rfl rfl (fun hne4_2 => ?_)
  refine d2_one (i := 3) (by kernel_rfl) rfl (s_copy rfl rfl rfl rfl (id := 4) rfl Try.underlying22 sz3 (Nat.le_of_ble_eq_true rfl) (copy0 (d := d) hs4 rfl) (fun e => hne4_2 _ rfl (congrArg some e.symm)) rfl (nb hn rfl)) fun _ => ?_
  refine d2_of_d1 ?_
  refine d1_of_d2 ?_
  refine d2_done (by kernel_rfl) ?_
  refine aend_then ?_
  refine awp_seq ?_
  refine awp_seq ?_
  refine awp_region ?_
  refine sq rfl rfl hn rfl (q_fieldAddr rfl rfl Try.underlying35 rfl sz22) ?_
  refine sq rfl rfl hn rfl (q_load rfl rfl (id := 2) rfl Try.underlying22 rfl rfl sees0) ?_
  refine sq rfl rfl hn rfl (q_len rfl rfl Try.underlying22) ?_
  refine sq rfl rfl hn rfl (q_move rfl rfl) ?_
  refine run_nil ?_
  refine aend_then ?_
  refine awp_block ?_
  refine awp_loop_on (ι := { i : Nat // i ≤ r.start.length }) (fun x => (16, true, .d (.int .i64 (x.1 : Int))) :: anys [17, 18, 5, 6, 19, 20, 21, 22, 23, 24, 25, 26, 27, 28, 29, 30, 31, 32, 33, 8, 7, 34, 35, 36, 37, 38, 39, 40, 41, 42, 43, 44, 45, 46, 47, 48, 49, 50, 51, 52, 53, 54, 55, 56, 57, 58, 59, 60]) (fun x => (4, .box b4 103 ((placesL r d x.1).map intT)) :: gones [6, 8]) (fun x => r.start.length - x.1) ⟨0, by simp⟩ ⟨.inl rfl, holdT_anys _⟩ ⟨.inl rfl, holdR_gones _⟩ ?_
  rintro ⟨i, hi⟩
  dsimp only
  refine awp_seq ?_
  refine awp_region ?_
  refine sq rfl rfl hn rfl (q_lss rfl rfl rfl) ?_
  refine run_nil ?_
  refine aend_then ?_
  refine awp_seq ?_
  refine awp_cond rfl (fun hb0 => ?_) (fun hb0 => ?_)
  · try simp only [decide_eq_true_eq, decide_eq_false_iff_not, Bool.and_eq_true, Bool.or_eq_true, Bool.and_eq_false_iff, Bool.or_eq_false_iff, Bool.not_eq_true', Bool.not_eq_false', beq_iff_eq, bne_iff_ne, ne_eq, beq_eq_false_iff_ne, bne_eq_false_iff_eq, Int.not_lt, Int.not_le] at hb0
    have hlt : i < r.start.length := by simpa using hb0
    obtain ⟨x0, hx0⟩ := ex_get hlt
    have hi4 : i < 4 := by omega
    have hx1 := v.st x0 (List.mem_of_getElem? hx0)
    refine awp_skip ?_
    refine aend_then ?_
    refine awp_seq ?_
    refine awp_block ?_
    refine awp_seq ?_
    refine awp_region ?_
    refine sq rfl rfl hn rfl (q_move rfl rfl) ?_
    refine sq rfl rfl hn rfl (q_assign rfl rfl) ?_
    refine run_nil ?_
    refine aend_then ?_
    refine awp_seq ?_
    refine awp_region ?_
    refine stepW (s_alloc 6 rfl rfl rfl (nb hn rfl) zr83 rfl rfl) fun b6 => ?_
    refine run_nil ?_
    refine aend_then ?_
    refine awp_seq ?_
    refine awp_region ?_
    refine sq rfl rfl hn rfl (q_move rfl rfl) ?_
    refine sq rfl rfl hn rfl (q_indexA rfl rfl rfl Try.underlying103 sz3 rfl (by omega)) ?_
    refine sq rfl rfl hn rfl (q_load rfl rfl (id := 4) rfl Try.underlying3 rfl (at1 (placesL_cur hx0 hi4)) sees0) ?_
    refine sq rfl rfl hn rfl (q_indexA (i := x0.toNat) rfl rfl rfl Try.underlying83 sz3 (by omega) (by omega)) ?_
    refine sq rfl rfl hn rfl (q_load rfl rfl (id := 6) rfl Try.underlying3 rfl (zero4 (by omega)) sees0) ?_
    refine sq rfl rfl hn rfl (q_add rfl rfl rfl (i64w (by omega) rfl)) ?_
    refine sq rfl rfl hn rfl (q_indexA (i := x0.toNat) rfl rfl rfl Try.underlying83 sz3 (by omega) (by omega)) ?_
    refine stepW (s_store1 rfl rfl rfl rfl rfl rfl (id := 6) rfl sz3 (by simp [Value.cells]; omega) (set_come0 (by omega)) trivial) fun _ => ?_
    refine run_nil ?_
    refine aend_then ?_
    refine awp_seq ?_
    refine awp_seq ?_
    refine awp_region ?_
    refine sq rfl rfl hn rfl (q_fieldAddr rfl rfl Try.underlying35 rfl sz32) ?_
    refine sq rfl rfl hn rfl (q_load rfl rfl (id := 2) rfl Try.underlying32 rfl rfl sees0) ?_
    refine sq rfl rfl hn rfl (q_len rfl rfl Try.underlying32) ?_
    refine sq rfl rfl hn rfl (q_move rfl rfl) ?_
    refine run_nil ?_
    refine aend_then ?_
    refine awp_block ?_
    refine awp_loop_on (ι := { y : Nat × List Int // y.1 ≤ r.entries.length ∧ y.2.length = 4 ∧ (∀ z ∈ y.2, -((y.1 : Int) * 2 + 1) ≤ z ∧ z ≤ (y.1 : Int) * 2 + 1) ∧ comeF d i 0 r.entries (come0 x0) = comeF d i y.1 (r.entries.drop y.1) y.2 }) (fun y => (29, true, .d (.int .i64 (y.1.1 : Int))) :: anys [30, 31, 32, 33, 8, 7, 34, 35, 36, 37, 38, 39, 40, 41, 42, 43, 44, 45, 46, 47, 48, 49, 50, 51, 52, 53, 54, 55]) (fun y => (6, .box b6 83 (y.1.2.map intT)) :: gones [8]) (fun y => r.entries.length - y.1.1) ⟨(0, come0 x0), by simp, come0_len, by simpa using come0_bd, by simp⟩ ⟨.inl rfl, holdT_anys _⟩ ⟨.inl rfl, holdR_gones _⟩ ?_
    rintro ⟨⟨k, c⟩, hk, hc4, hbd, hF⟩
    dsimp only
    dsimp only at hk hc4 hbd hF
    refine awp_seq ?_
    refine awp_region ?_
    refine sq rfl rfl hn rfl (q_lss rfl rfl rfl) ?_
    refine run_nil ?_
    refine aend_then ?_
    refine awp_seq ?_
    refine awp_cond rfl (fun hb1 => ?_) (fun hb1 => ?_)
    · try simp only [decide_eq_true_eq, decide_eq_false_iff_not, Bool.and_eq_true, Bool.or_eq_true, Bool.and_eq_false_iff, Bool.or_eq_false_iff, Bool.not_eq_true', Bool.not_eq_false', beq_iff_eq, bne_iff_ne, ne_eq, beq_eq_false_iff_ne, bne_eq_false_iff_eq, Int.not_lt, Int.not_le] at hb1
      have hlt2 : k < r.entries.length := by simpa using hb1
      obtain ⟨e, he⟩ := ex_get hlt2
      have hen := v.en e (List.mem_of_getElem? he)
      rw [drop_of he] at hF; simp only [comeF] at hF
      have q1 := hbd _ (getD_mem (l := c) (k := e.frm.toNat) (by omega))
      have hbd1 := bump_bd (h := e.frm) (x := -1) hbd (by omega) (by omega)
      have hl1 : (bump c e.frm (-1)).length = 4 := by rw [bump_len, hc4]
      have q2 := hbd1 _ (getD_mem (l := bump c e.frm (-1)) (k := e.to.toNat) (by omega))
      have hbd2 := bump_bd (h := e.to) (x := 1) hbd1 (by omega) (by omega)
      have hl2 : (bump (bump c e.frm (-1)) e.to 1).length = 4 := by rw [bump_len, hl1]
      refine awp_skip ?_
      refine aend_then ?_
      refine awp_seq ?_
      refine awp_block ?_
      refine awp_seq ?_
      refine awp_region ?_
      refine sq rfl rfl hn rfl (q_move rfl rfl) ?_
      refine sq rfl rfl hn rfl (q_index rfl rfl rfl Try.underlying32 sz95 rfl (mget he)) ?_
      refine sq rfl rfl hn rfl (q_loadpA rfl rfl Try.underlying95 rfl sz95 rfl rfl seesF0) ?_
      refine stepW (s_alloc 8 rfl rfl rfl (nb hn rfl) zr95 rfl rfl) fun b8 => ?_
      refine sq rfl rfl hn rfl (q_assign rfl rfl) ?_
      refine stepW (s_store rfl rfl rfl rfl rfl rfl (id := 8) rfl sz95 rfl (Nat.le_of_ble_eq_true rfl) rfl trivial) fun _ => ?_
      refine run_nil ?_
      refine aend_then ?_
      refine awp_seq ?_
      refine awp_region ?_
      refine sq rfl rfl hn rfl (q_move rfl rfl) ?_
      refine sq rfl rfl hn rfl (q_move rfl rfl) ?_
      refine stepW (s_call [] (fun _ => has_ok d k hd (by omega)) rfl (guard_none rfl) rfl (nb hn rfl) (fun _ => trivial) rfl rfl (.refl _)) fun _ => ?_
      refine sq rfl rfl hn rfl (q_move rfl rfl) ?_
      refine stepG [] (guard_some rfl rfl rfl) rfl (nb hn rfl) (fun hc => trivial) (fun hc => q_fieldAddr rfl rfl Try.underlying95 rfl sz3) ?_
      refine stepG [(38, _)] (guard_some rfl rfl rfl) rfl (nb hn rfl) (fun hc => ⟨⟨_, rfl, hc⟩, trivial⟩) (fun hc => q_load rfl rfl (id := 8) rfl Try.underlying3 rfl rfl sees0) ?_
      refine stepG [] (guard_some rfl rfl rfl) rfl (nb hn rfl) (fun hc => trivial) (fun hc => q_move rfl rfl) ?_
      refine stepG [(39, _), (40, _)] (guard_some rfl rfl rfl) rfl (nb hn rfl) (fun hc => ⟨⟨_, rfl, hc⟩, ⟨_, rfl, hc⟩, trivial⟩) (fun hc => q_eql rfl rfl rfl) ?_
      refine sq rfl rfl hn rfl (q_and rfl rfl rfl (by intro hB; first | (rw [hB]; rfl) | (rw [hB, hc]; rfl) | simp_all)) ?_
      refine run_nil ?_
      refine aend_then ?_
      refine awp_cond rfl (fun hb2 => ?_) (fun hb2 => ?_)
      · skip
        refine awp_seq ?_
        refine awp_region ?_
        refine sq rfl rfl hn rfl (q_fieldAddr rfl rfl Try.underlying95 rfl sz3) ?_
        refine sq rfl rfl hn rfl (q_load rfl rfl (id := 8) rfl Try.underlying3 rfl rfl sees0) ?_
        refine sq rfl rfl hn rfl (q_indexA (i := e.frm.toNat) rfl rfl rfl Try.underlying83 sz3 (by omega) (by omega)) ?_
        refine sq rfl rfl hn rfl (q_load rfl rfl (id := 6) rfl Try.underlying3 rfl (at1 (getD_some (by omega))) sees0) ?_
        refine sq rfl rfl hn rfl (q_sub rfl rfl rfl (r := c.getD e.frm.toNat 0 + (-1)) (i64w (by omega) (by omega))) ?_
        refine sq rfl rfl hn rfl (q_indexA (i := e.frm.toNat) rfl rfl rfl Try.underlying83 sz3 (by omega) (by omega)) ?_
        refine stepW (s_store1 rfl rfl rfl rfl rfl rfl (id := 6) rfl sz3 (by simp; omega) (show _ = (bump c e.frm (-1)).map intT from set1) trivial) fun _ => ?_
        refine run_nil ?_
        refine aend_then ?_
        refine awp_region ?_
        refine sq rfl rfl hn rfl (q_fieldAddr rfl rfl Try.underlying95 rfl sz3) ?_
        refine sq rfl rfl hn rfl (q_load rfl rfl (id := 8) rfl Try.underlying3 rfl rfl sees0) ?_
        refine sq rfl rfl hn rfl (q_indexA (i := e.to.toNat) rfl rfl rfl Try.underlying83 sz3 (by omega) (by omega)) ?_
        refine sq rfl rfl hn rfl (q_load rfl rfl (id := 6) rfl Try.underlying3 rfl (at1 (getD_some (by omega))) sees0) ?_
        refine sq rfl rfl hn rfl (q_add rfl rfl rfl (r := (bump c e.frm (-1)).getD e.to.toNat 0 + 1) (i64w (by omega) (by omega))) ?_
        refine sq rfl rfl hn rfl (q_indexA (i := e.to.toNat) rfl rfl rfl Try.underlying83 sz3 (by omega) (by omega)) ?_
        refine stepW (s_store1 rfl rfl rfl rfl rfl rfl (id := 6) rfl sz3 (by simp; omega) (show _ = (bump (bump c e.frm (-1)) e.to 1).map intT from set1) trivial) fun _ => ?_
        refine run_nil ?_
        refine aend_block ?_
        refine aend_then ?_
        refine awp_region ?_
        refine sq rfl rfl hn rfl (q_add rfl rfl rfl (r := ((k + 1 : Nat) : Int)) (i64w (by omega) (by omega))) ?_
        refine sq rfl rfl hn rfl (q_move rfl rfl) ?_
        refine run_nil ?_
        exact aend_round_on ⟨(k + 1, bump (bump c e.frm (-1)) e.to 1), by simp only; omega, hl2, fun z hz => by have := hbd2 z hz; simp only; omega, by rw [hF, hb2]; rfl⟩ ⟨.inl rfl, holdT_anys _⟩ ⟨.inl rfl, holdR_gones _⟩ (by simp only; omega) (by repeat (first | exact kr _ | refine kc rfl ?_)) (by repeat (first | exact kr _ | refine kc rfl ?_))
      · skip
        refine awp_skip ?_
        refine aend_block ?_
        refine aend_then ?_
        refine awp_region ?_
        refine sq rfl rfl hn rfl (q_add rfl rfl rfl (r := ((k + 1 : Nat) : Int)) (i64w (by omega) (by omega))) ?_
        refine sq rfl rfl hn rfl (q_move rfl rfl) ?_
        refine run_nil ?_
        exact aend_round_on ⟨(k + 1, c), by simp only; omega, hc4, fun z hz => by have := hbd z hz; simp only; omega, by rw [hF, hb2]; rfl⟩ ⟨.inl rfl, holdT_anys _⟩ ⟨.inl rfl, holdR_gones _⟩ (by simp only; omega) (by repeat (first | exact kr _ | refine kc rfl ?_)) (by repeat (first | exact kr _ | refine kc rfl ?_))
    · try simp only [decide_eq_true_eq, decide_eq_false_iff_not, Bool.and_eq_true, Bool.or_eq_true, Bool.and_eq_false_iff, Bool.or_eq_false_iff, Bool.not_eq_true', Bool.not_eq_false', beq_iff_eq, bne_iff_ne, ne_eq, beq_eq_false_iff_ne, bne_eq_false_iff_eq, Int.not_lt, Int.not_le] at hb1
      have hke : k = r.entries.length := by simp only [List.length_map] at hb1; omega
      have hpl : idxOf (fun x => (1 : Int) == x) c = placeOf r d i := by subst hke; rw [List.drop_length] at hF; unfold placeOf; rw [getD_of hx0, hF]; rfl
      refine awp_exit ?_
      refine aend_then_exit ?_
      refine aend_then_exit ?_
      refine aend_block_exit ?_
      refine aend_then ?_
      refine awp_region ?_
      refine sq rfl rfl hn rfl (q_move rfl rfl) ?_
      refine gh_run (g_freeze (t := 6) 6 rfl (nb hn rfl) rfl (allD_int c) trivial) ?_
      refine sq rfl rfl hn rfl (q_sliceP rfl rfl Try.underlying83 sz3 (beq_int4 hc4) (chunk_int4 hc4) rfl) ?_
      refine stepW (s_call [] (fun _ => hpl ▸ Index_ok c 1) rfl (guard_none rfl) rfl (nb hn rfl) (fun _ => trivial) rfl rfl (.refl _)) fun _ => ?_
      refine sq rfl rfl hn rfl (q_indexA rfl rfl rfl Try.underlying103 sz3 rfl (by omega)) ?_
      refine stepW (s_store1 rfl rfl rfl rfl rfl rfl (id := 4) rfl sz3 (by simp [placesL]; omega) (set1.trans (congrArg _ (placesL_set hi4))) trivial) fun _ => ?_
      refine run_nil ?_
      refine aend_block ?_
      refine aend_then ?_
      refine awp_region ?_
      refine sq rfl rfl hn rfl (q_add rfl rfl rfl (r := ((i + 1 : Nat) : Int)) (i64w (by omega) (by omega))) ?_
      refine sq rfl rfl hn rfl (q_move rfl rfl) ?_
      refine run_nil ?_
      exact aend_round_on ⟨i + 1, by omega⟩ ⟨.inl rfl, holdT_anys _⟩ ⟨.inl rfl, holdR_gones _⟩ (by simp only; omega) (by repeat (first | exact kr _ | refine kc rfl ?_)) (by repeat (first | exact kr _ | refine kc rfl ?_))
  · try simp only [decide_eq_true_eq, decide_eq_false_iff_not, Bool.and_eq_true, Bool.or_eq_true, Bool.and_eq_false_iff, Bool.or_eq_false_iff, Bool.not_eq_true', Bool.not_eq_false', beq_iff_eq, bne_iff_ne, ne_eq, beq_eq_false_iff_ne, bne_eq_false_iff_eq, Int.not_lt, Int.not_le] at hb0
    have hie : i = r.start.length := by simp only [List.length_map] at hb0; omega
    subst hie
    refine awp_exit ?_
    refine aend_then_exit ?_
    refine aend_then_exit ?_
    refine aend_block_exit ?_
    refine aend_then ?_
    refine awp_seq ?_
    refine awp_region ?_
    refine sq rfl rfl hn rfl (q_loadAd rfl rfl (id := 4) rfl Try.underlying103 rfl sz103 rfl rfl sees0) ?_
    refine stepW (s_store rfl rfl rfl rfl rfl rfl (id := 4) rfl sz103 rfl (Nat.le_of_ble_eq_true rfl) rfl trivial) fun _ => ?_
    refine run_nil ?_
    refine aend_then ?_
    refine awp_ret ?_
    exact ret_1 (.inl rfl) hl rfl (.cellA rfl (id := 4) rfl Try.underlying103 rfl sz103 rfl rfl)
theorem placesA_len (r : Reg) (d : Nat) : (placesA r d).length = 4 := by simp [placesA, placesL]
def canE (r : Reg) (i : Nat) (e : Ent5) (d : Nat) : Bool := !(d.testBit i) && ((placesA r d).getD e.sheet.toNat 0 == e.frm) && ((e.kind != 2) || decide (0 < openN r d e.to e.frm))
def canB (r : Reg) (i d : Nat) : Bool := match r.entries[i]? with
  | none => false
  | some e => canE r i e d
theorem can_ok (r : Reg) (i d : Nat) (v : Valid r) (hd : d < 18446744073709551616) (hi : i < r.entries.length) : PureAt Try.prog 93 [regD r, .int .i64 (i : Nat), .int .u64 (d : Nat)] (.bool (canB r i d)) := by
  have he6 := v.e6; have hs4 := v.s4
  obtain ⟨e, he⟩ := ex_get hi
  have hen := v.en e (List.mem_of_getElem? he)
  refine PureAt.of_awp Try.func93 rfl (by kernel_rfl) (Nat.le_of_ble_eq_true rfl) fun Γ hn hl => ?_
  refine awp_seq ?_
  refine awp_region ?_
  refine stepW (s_box 3 rfl rfl rfl (nb hn rfl) rfl rfl) fun b3 => ?_
  refine sq rfl rfl hn rfl (q_assign rfl rfl) ?_
  refine run_nil ?_
  refine aend_then ?_
  refine awp_seq ?_
  refine awp_region ?_
  refine sq rfl rfl hn rfl (q_fieldAddr rfl rfl Try.underlying35 rfl sz32) ?_
  refine sq rfl rfl hn rfl (q_load rfl rfl (id := 3) rfl Try.underlying32 rfl rfl sees0) ?_
  refine sq rfl rfl hn rfl (q_move rfl rfl) ?_
  refine sq rfl rfl hn rfl (q_index rfl rfl rfl Try.underlying32 sz95 rfl (mget he)) ?_
  refine sq rfl rfl hn rfl (q_loadpA rfl rfl Try.underlying95 rfl sz95 rfl rfl seesF0) ?_
  refine stepW (s_alloc 7 rfl rfl rfl (nb hn rfl) zr95 rfl rfl) fun b7 => ?_
  refine stepW (s_store rfl rfl rfl rfl rfl rfl (id := 7) rfl sz95 rfl (Nat.le_of_ble_eq_true rfl) rfl trivial) fun _ => ?_
  refine run_nil ?_
  refine aend_then ?_
  refine awp_seq ?_
  refine d_start (W := fun b => b ≠ b3 ∧ b ≠ b7) fmo ?_
  refine d1q (i := 0) rfl (by kernel_rfl) (fun _ _ _ _ h => h) rfl rfl hn rfl (q_move rfl rfl) ?_
  refine d1q (i := 1) rfl (by kernel_rfl) (fun _ _ _ _ h => h) rfl rfl hn rfl (q_move rfl rfl) ?_
  refine d1_of_d2 ?_
  refine d2_one (i := 2) (by kernel_rfl) rfl (s_call [] (fun _ => has_ok d i hd (by omega)) rfl (guard_none rfl) rfl (nb hn rfl) (fun _ => trivial) rfl rfl (.refl _)) fun _ => ?_
  refine d2_of_d1 ?_
  refine d1q (i := 3) rfl (by kernel_rfl) (fun _ _ _ _ h => h) rfl rfl hn rfl (q_not rfl rfl) ?_
  refine d1q (i := 4) rfl (by kernel_rfl) (fun _ _ _ _ h => h) rfl rfl hn rfl (q_move rfl rfl) ?_
  refine d1g (i := 5) [] rfl (by kernel_rfl) (fun _ _ _ _ h => h) (guard_some rfl rfl rfl) rfl hn rfl (fun hc => trivial) (fun hc => q_loadAd rfl rfl (id := 3) rfl Try.underlying35 rfl sz35 rfl rfl (seesA (by simp))) ?_
  refine d1g (i := 6) [] rfl (by kernel_rfl) (fun _ _ _ _ h => h) (guard_some rfl rfl rfl) rfl hn rfl (fun hc => trivial) (fun hc => q_move rfl rfl) ?_
  refine d1g (i := 8) [] rfl (by kernel_rfl) (fun _ _ _ _ h => h) (guard_some rfl rfl rfl) rfl hn rfl (fun hc => trivial) (fun hc => q_fieldAddr rfl rfl Try.underlying95 rfl sz3) ?_
  refine d1g (i := 9) [(21, _)] rfl (by kernel_rfl) (fun _ _ _ _ h => h) (guard_some rfl rfl rfl) rfl hn rfl (fun hc => ⟨⟨_, rfl, hc⟩, trivial⟩) (fun hc => q_load rfl rfl (id := 7) rfl Try.underlying3 rfl rfl (seesA (by simp))) ?_
  refine d1g (i := 11) [] rfl (by kernel_rfl) (fun _ _ _ _ h => h) (guard_some rfl rfl rfl) rfl hn rfl (fun hc => trivial) (fun hc => q_fieldAddr rfl rfl Try.underlying95 rfl sz3) ?_
  refine d1g (i := 12) [(24, _)] rfl (by kernel_rfl) (fun _ _ _ _ h => h) (guard_some rfl rfl rfl) rfl hn rfl (fun hc => ⟨⟨_, rfl, hc⟩, trivial⟩) (fun hc => q_load rfl rfl (id := 7) rfl Try.underlying3 rfl rfl (seesA (by simp))) ?_
  refine d1_of_d2 ?_
  refine d2_one (i := 7) (by kernel_rfl) rfl (s_call [(18, _), (19, _)] (fun hc => places_ok r _ v (by assumption)) rfl (guard_some rfl rfl rfl) rfl (nb hn rfl) (fun hc => ⟨⟨_, rfl, hc⟩, ⟨_, rfl, hc⟩, trivial⟩) rfl rfl (.refl _)) fun _ => ?_
  refine d2_of_d1 ?_
  refine d1g (i := 10) [(20, _), (22, _)] rfl (by kernel_rfl) (fun _ _ _ _ h => h) (guard_some rfl rfl rfl) rfl hn rfl (fun hc => ⟨⟨_, rfl, hc⟩, ⟨_, rfl, hc⟩, trivial⟩) (fun hc => q_indexAgg (i := e.sheet.toNat) rfl rfl rfl Try.underlying103 Try.underlying3 rfl sz3 (by omega) (by omega) (mget (getD_some (by rw [placesA_len]; omega)))) ?_
  refine d1g (i := 13) [(23, _), (25, _)] rfl (by kernel_rfl) (fun _ _ _ _ h => h) (guard_some rfl rfl rfl) rfl hn rfl (fun hc => ⟨⟨_, rfl, hc⟩, ⟨_, rfl, hc⟩, trivial⟩) (fun hc => q_eql rfl rfl rfl) ?_
  refine d1q (i := 14) rfl (by kernel_rfl) (fun _ _ _ _ h => h) rfl rfl hn rfl (q_and rfl rfl rfl (by intro hB; first | (rw [hB]; rfl) | (rw [hB, hc]; rfl) | simp_all)) ?_
  refine d1q (i := 15) rfl (by kernel_rfl) (fun _ _ _ _ h => h) rfl rfl hn rfl (q_move rfl rfl) ?_
  refine d1g (i := 16) [] rfl (by kernel_rfl) (fun _ _ _ _ h => h) (guard_some rfl rfl rfl) rfl hn rfl (fun hc => trivial) (fun hc => q_fieldAddr rfl rfl Try.underlying95 rfl sz3) ?_
  refine d1g (i := 17) [(29, _)] rfl (by kernel_rfl) (fun _ _ _ _ h => h) (guard_some rfl rfl rfl) rfl hn rfl (fun hc => ⟨⟨_, rfl, hc⟩, trivial⟩) (fun hc => q_load rfl rfl (id := 7) rfl Try.underlying3 rfl rfl (seesA (by simp))) ?_
  refine d1g (i := 18) [(30, _)] rfl (by kernel_rfl) (fun _ _ _ _ h => h) (guard_some rfl rfl rfl) rfl hn rfl (fun hc => ⟨⟨_, rfl, hc⟩, trivial⟩) (fun hc => q_neq rfl rfl rfl) ?_
  refine d1g (i := 19) [(31, _)] rfl (by kernel_rfl) (fun _ _ _ _ h => h) (guard_some rfl rfl rfl) rfl hn rfl (fun hc => ⟨⟨_, rfl, hc⟩, trivial⟩) (fun hc => q_move rfl rfl) ?_
  refine d1g (i := 20) [] rfl (by kernel_rfl) (fun _ _ _ _ h => h) (guard_some rfl rfl rfl) rfl hn rfl (fun hc => trivial) (fun hc => q_loadAd rfl rfl (id := 3) rfl Try.underlying35 rfl sz35 rfl rfl (seesA (by simp))) ?_
  refine d1g (i := 21) [] rfl (by kernel_rfl) (fun _ _ _ _ h => h) (guard_some rfl rfl rfl) rfl hn rfl (fun hc => trivial) (fun hc => q_move rfl rfl) ?_
  refine d1g (i := 22) [] rfl (by kernel_rfl) (fun _ _ _ _ h => h) (guard_some rfl rfl rfl) rfl hn rfl (fun hc => trivial) (fun hc => q_fieldAddr rfl rfl Try.underlying95 rfl sz3) ?_
  refine d1g (i := 23) [(35, _)] rfl (by kernel_rfl) (fun _ _ _ _ h => h) (guard_some rfl rfl rfl) rfl hn rfl (fun hc => ⟨⟨_, rfl, hc⟩, trivial⟩) (fun hc => q_load rfl rfl (id := 7) rfl Try.underlying3 rfl rfl (seesA (by simp))) ?_
  refine d1g (i := 24) [] rfl (by kernel_rfl) (fun _ _ _ _ h => h) (guard_some rfl rfl rfl) rfl hn rfl (fun hc => trivial) (fun hc => q_fieldAddr rfl rfl Try.underlying95 rfl sz3) ?_
  refine d1g (i := 25) [(37, _)] rfl (by kernel_rfl) (fun _ _ _ _ h => h) (guard_some rfl rfl rfl) rfl hn rfl (fun hc => ⟨⟨_, rfl, hc⟩, trivial⟩) (fun hc => q_load rfl rfl (id := 7) rfl Try.underlying3 rfl rfl (seesA (by simp))) ?_
  refine d1_of_d2 ?_
  refine d2_one (i := 26) (by kernel_rfl) rfl (s_call [(33, _), (34, _), (36, _), (38, _)] (fun hc => open_ok _ _ _ _ v hd) rfl (guard_some rfl rfl rfl) rfl (nb hn rfl) (fun hc => ⟨⟨_, rfl, hc⟩, ⟨_, rfl, hc⟩, ⟨_, rfl, hc⟩, ⟨_, rfl, hc⟩, trivial⟩) rfl rfl (.refl _)) fun _ => ?_
  refine d2_of_d1 ?_
  refine d1g (i := 27) [(39, _)] rfl (by kernel_rfl) (fun _ _ _ _ h => h) (guard_some rfl rfl rfl) rfl hn rfl (fun hc => ⟨⟨_, rfl, hc⟩, trivial⟩) (fun hc => q_gtr rfl rfl rfl) ?_
  refine d1g (i := 28) [(32, _)] rfl (by kernel_rfl) (fun _ _ _ _ h => h) (guard_some rfl rfl rfl) rfl hn rfl (fun hc => ⟨⟨_, rfl, hc⟩, trivial⟩) (fun hc => q_or rfl rfl rfl (by intro hB; first | (rw [hB]; rfl) | (rw [hB, hc]; rfl) | simp_all)) ?_
  refine d1q (i := 29) rfl (by kernel_rfl) (fun _ _ _ _ h => h) rfl rfl hn rfl (q_and rfl rfl rfl (by intro hB; first | (rw [hB]; rfl) | (rw [hB, hc]; rfl) | simp_all)) ?_
  refine d1q (i := 30) rfl (by kernel_rfl) (fun _ _ _ _ h => h) rfl rfl hn rfl (q_assign rfl rfl) ?_
  refine d1_of_d2 ?_
  refine d2_done (by kernel_rfl) ?_
  refine aend_then ?_
  refine awp_ret ?_
  refine ret_eq (ret_1 (.inl rfl) hl rfl (.tmp rfl)) ?_
  simp only [canB, he, canE, Bool.and_assoc]
theorem shl_bit {k : Nat} (h : k < 64) : IntKind.u64.wrap (1 * 2 ^ ((k : Int)).toNat) = ((2 ^ k : Nat) : Int) := by
  have h1 : 2 ^ k < 18446744073709551616 := by
    have := Nat.pow_lt_pow_right (a := 2) (by omega) h
    simpa using this
  have e : (1 * 2 ^ ((k : Int)).toNat : Int) = ((2 ^ k : Nat) : Int) := by simp
  rw [e]
  generalize 2 ^ k = x at h1
  exact u64w (by omega) rfl
theorem or_bits {d x : Nat} (hd : d < 18446744073709551616) (hx : x < 18446744073709551616) : bits .or .u64 (d : Int) (x : Int) = ((d ||| x : Nat) : Int) := bits_or_u64_nat d x hd hx
theorem pow_lt {k : Nat} (h : k < 64) : 2 ^ k < 18446744073709551616 := by
  have := Nat.pow_lt_pow_right (a := 2) (by omega) h
  simpa using this
theorem or_lt {d x : Nat} (hd : d < 18446744073709551616) (hx : x < 18446744073709551616) : d ||| x < 18446744073709551616 := by
  have := Nat.or_lt_two_pow (x := d) (y := x) (n := 64) (by simpa using hd) (by simpa using hx)
  simpa using this
/-- Those of one day happen, in the order of their numbers. -/
def dayF (r : Reg) (n : Int) : Nat → List Int → Nat → Option Nat
  | _, [], d => some d
  | k, t :: ts, d => bif t != n then dayF r n (k + 1) ts d else bif !(canB r k d) then none else dayF r n (k + 1) ts (d ||| 2 ^ k)
def playF (r : Reg) (truth : List Int) : Nat → Nat → Nat → Option (List Nat)
  | 0, _, _ => some []
  | m + 1, n, d => match dayF r n 0 truth d with
    | none => none
    | some d' => match playF r truth m (n + 1) d' with
      | none => none
      | some ds => some (d' :: ds)
/-- What has happened at the end of each day. -/
def playDays (r : Reg) (truth : List Int) : Option (List Nat) := playF r truth 10 0 0
def playRow (r : Reg) (d : Nat) : List D := (placesA r d).map intD
def addF (ds : List Nat) : Option (List Nat) → Option (List Nat)
  | none => none
  | some es => some (ds ++ es)
theorem addF_nil (o : Option (List Nat)) : addF [] o = o := by cases o <;> rfl
theorem playF_step {r : Reg} {truth : List Int} {m n d d' : Nat} {ds : List Nat} (h : dayF r n 0 truth d = some d') : addF ds (playF r truth (m + 1) n d) = addF (ds ++ [d']) (playF r truth m (n + 1) d') := by
  simp only [playF, h]
  cases playF r truth m (n + 1) d' <;> simp [addF]
theorem playF_none {r : Reg} {truth : List Int} {m n d : Nat} {ds : List Nat} (h : dayF r n 0 truth d = none) : addF ds (playF r truth (m + 1) n d) = none := by
  simp only [playF, h, addF]
theorem playRow_len (r : Reg) (d : Nat) : (playRow r d).length = 4 := by simp [playRow, placesA_len]
theorem fill_row {r : Reg} {d : Nat} {zs : List TV} (hz : zs.length = 4) : fillTV (fun i => some (i * 4, 4)) zs [(0, .d (.agg (playRow r d)))] = some ((playRow r d).map .d) := by
  simp only [fillTV, TV.cells, List.length_map, playRow_len, hz, TV.flat, Nat.zero_mul, Nat.zero_add]
  rw [List.drop_of_length_le (by omega)]
  simp [Nat.beq, Nat.ble]
theorem playF_len {r : Reg} {l : List Int} : ∀ {m n d : Nat} {ds : List Nat}, playF r l m n d = some ds → ds.length = m
  | 0, _, _, _, h => by simp only [playF, Option.some.injEq] at h; subst h; rfl
  | m + 1, n, d, ds, h => by
    simp only [playF] at h
    cases h1 : dayF r n 0 l d with
    | none => simp [h1] at h
    | some d' =>
      simp only [h1] at h
      cases h2 : playF r l m (n + 1) d' with
      | none => simp [h2] at h
      | some es =>
        simp only [h2, Option.some.injEq] at h
        subst h
        simp [playF_len h2]
theorem playDays_len {r : Reg} {l : List Int} {ds : List Nat} (h : playDays r l = some ds) : ds.length = 10 := playF_len h
theorem playDays_le (r : Reg) (l : List Int) : ((playDays r l).getD []).length ≤ 10 := by
  cases h : playDays r l with
  | none => simp
  | some ds => simp [playDays_len h]
theorem allD_d : ∀ (l : List D), allD (l.map .d) = some l
  | [] => rfl
  | x :: l => by simp only [List.map_cons, allD, allD_d l]
theorem chunk_row {r : Reg} {d : Nat} : chunk 4 1 (playRow r d) = [playRow r d] := by
  simp only [chunk]
  rw [List.take_of_length_le (by rw [playRow_len]; omega)]
theorem play_ok (r : Reg) (l : List Int) (v : Valid r) (hl5 : l.length = r.entries.length) : PureAt Try.prog 80 [regD r, ints l] (.tup [.slice 4 (((playDays r l).getD []).map (playRow r)), .bool (playDays r l).isSome]) := by
  refine PureAt.of_awp Try.func80 rfl (by kernel_rfl) (Nat.le_of_ble_eq_true rfl) fun Γ hn hl => ?_
  have he6 := v.e6
  refine awp_seq ?_
  refine awp_region ?_
  refine stepW (s_box 2 rfl rfl rfl (nb hn rfl) rfl rfl) fun b2 => ?_
  refine sq rfl rfl hn rfl (q_assign rfl rfl) ?_
  refine sq rfl rfl hn rfl (q_assign rfl rfl) ?_
  refine run_nil ?_
  refine aend_then ?_
  refine awp_seq ?_
  refine gh_awp (g_nil (t := 4) (id := 4) 103 4 rfl (nb hn rfl)) ?_
  refine awp_region ?_
  refine sq rfl rfl hn rfl (q_assign rfl rfl) ?_
  refine run_nil ?_
  refine aend_then ?_
  refine awp_seq ?_
  refine awp_seq ?_
  refine awp_region ?_
  refine sq rfl rfl hn rfl (q_move rfl rfl) ?_
  refine run_nil ?_
  refine aend_then ?_
  refine awp_block ?_
  refine awp_loop_on (ι := { x : Nat × Nat × List Nat × Value // x.1 ≤ 10 ∧ x.2.1 < 18446744073709551616 ∧ x.2.2.1.length = x.1 ∧ playDays r l = addF x.2.2.1 (playF r l (10 - x.1) x.1 x.2.1) }) (fun x => (10, true, .d (.int .i64 (x.1.1 : Int))) :: (6, true, .d (.int .u64 (x.1.2.1 : Nat))) :: (4, true, .val x.1.2.2.2) :: anys [11, 12, 7, 13, 14, 15, 16, 17, 18, 19, 8, 9, 20, 21, 22, 23, 24, 25, 26, 27, 28, 29, 30, 31, 32, 33, 34, 35, 36, 37, 38, 39]) (fun x => [(4, .row x.1.2.2.2 103 4 (x.1.2.2.1.map (playRow r)))]) (fun x => 10 - x.1.1) ⟨(0, 0, [], .slice none 0 0), by simp, by simp, rfl, (addF_nil _).symm⟩ ⟨.inl rfl, .inl rfl, .inl rfl, holdT_anys _⟩ ⟨.inl rfl, trivial⟩ ?_
  rintro ⟨⟨n, d, ds, vv⟩, hn10, hd, hds, hF⟩
  dsimp only
  dsimp only at hn10 hd hds hF
  refine awp_seq ?_
  refine awp_region ?_
  refine sq rfl rfl hn rfl (q_lss rfl rfl rfl) ?_
  refine run_nil ?_
  refine aend_then ?_
  refine awp_seq ?_
  refine awp_cond rfl (fun hb0 => ?_) (fun hb0 => ?_)
  · try simp only [decide_eq_true_eq, decide_eq_false_iff_not, Bool.and_eq_true, Bool.or_eq_true, Bool.and_eq_false_iff, Bool.or_eq_false_iff, Bool.not_eq_true', Bool.not_eq_false', beq_iff_eq, bne_iff_ne, ne_eq, beq_eq_false_iff_ne, bne_eq_false_iff_eq, Int.not_lt, Int.not_le] at hb0
    have hlt : n < 10 := by omega
    refine awp_skip ?_
    refine aend_then ?_
    refine awp_seq ?_
    refine awp_block ?_
    refine awp_seq ?_
    refine awp_region ?_
    refine sq rfl rfl hn rfl (q_move rfl rfl) ?_
    refine sq rfl rfl hn rfl (q_assign rfl rfl) ?_
    refine run_nil ?_
    refine aend_then ?_
    refine awp_seq ?_
    refine awp_seq ?_
    refine awp_region ?_
    refine sq rfl rfl hn rfl (q_move rfl rfl) ?_
    refine sq rfl rfl hn rfl (q_len rfl rfl Try.underlying22) ?_
    refine sq rfl rfl hn rfl (q_move rfl rfl) ?_
    refine run_nil ?_
    refine aend_then ?_
    refine awp_block ?_
    refine awp_loop_on (ι := { y : Nat × Nat // y.1 ≤ l.length ∧ y.2 < 18446744073709551616 ∧ dayF r n 0 l d = dayF r n y.1 (l.drop y.1) y.2 }) (fun y => (15, true, .d (.int .i64 (y.1.1 : Int))) :: (6, true, .d (.int .u64 (y.1.2 : Nat))) :: anys [16, 17, 18, 19, 8, 9, 20, 21, 22, 23, 24, 25, 26, 27, 28, 29, 30, 31, 32]) (fun y => []) (fun y => l.length - y.1.1) ⟨(0, d), by simp, hd, by simp⟩ ⟨.inl rfl, .inl rfl, holdT_anys _⟩ trivial ?_
    rintro ⟨⟨k, d2⟩, hk, hd2, hG⟩
    dsimp only
    dsimp only at hk hd2 hG
    refine awp_seq ?_
    refine awp_region ?_
    refine sq rfl rfl hn rfl (q_lss rfl rfl rfl) ?_
    refine run_nil ?_
    refine aend_then ?_
    refine awp_seq ?_
    refine awp_cond rfl (fun hb1 => ?_) (fun hb1 => ?_)
    · try simp only [decide_eq_true_eq, decide_eq_false_iff_not, Bool.and_eq_true, Bool.or_eq_true, Bool.and_eq_false_iff, Bool.or_eq_false_iff, Bool.not_eq_true', Bool.not_eq_false', beq_iff_eq, bne_iff_ne, ne_eq, beq_eq_false_iff_ne, bne_eq_false_iff_eq, Int.not_lt, Int.not_le] at hb1
      have hlt2 : k < l.length := by simpa using hb1
      obtain ⟨t, ht⟩ := ex_get hlt2
      rw [drop_of ht] at hG; simp only [dayF] at hG
      refine awp_skip ?_
      refine aend_then ?_
      refine awp_seq ?_
      refine awp_block ?_
      refine awp_seq ?_
      refine awp_region ?_
      refine sq rfl rfl hn rfl (q_move rfl rfl) ?_
      refine sq rfl rfl hn rfl (q_index rfl rfl rfl Try.underlying22 sz3 rfl (mget ht)) ?_
      refine sq rfl rfl hn rfl (q_loadp rfl rfl Try.underlying3 rfl seesF0) ?_
      refine sq rfl rfl hn rfl (q_assign rfl rfl) ?_
      refine sq rfl rfl hn rfl (q_assign rfl rfl) ?_
      refine run_nil ?_
      refine aend_then ?_
      refine awp_seq ?_
      refine awp_seq ?_
      refine awp_region ?_
      refine sq rfl rfl hn rfl (q_move rfl rfl) ?_
      refine sq rfl rfl hn rfl (q_move rfl rfl) ?_
      refine sq rfl rfl hn rfl (q_neq rfl rfl rfl) ?_
      refine run_nil ?_
      refine aend_then ?_
      refine awp_cond rfl (fun hb2 => ?_) (fun hb2 => ?_)
      · skip
        refine awp_exit ?_
        refine aend_then_exit ?_
        refine aend_block_exit ?_
        refine aend_then ?_
        refine awp_region ?_
        refine sq rfl rfl hn rfl (q_add rfl rfl rfl (r := ((k + 1 : Nat) : Int)) (i64w (by omega) (by omega))) ?_
        refine sq rfl rfl hn rfl (q_move rfl rfl) ?_
        refine run_nil ?_
        exact aend_round_on ⟨(k + 1, d2), by simp only; omega, hd2, by rw [hG, hb2]; rfl⟩ ⟨.inl rfl, .inl rfl, holdT_anys _⟩ trivial (by simp only; omega) (by repeat (first | exact kr _ | refine kc rfl ?_)) (by repeat (first | exact kr _ | refine kc rfl ?_))
      · skip
        refine awp_skip ?_
        refine aend_then ?_
        refine awp_seq ?_
        refine awp_seq ?_
        refine awp_region ?_
        refine sq rfl rfl hn rfl (q_loadAd rfl rfl (id := 2) rfl Try.underlying35 rfl sz35 rfl rfl sees0) ?_
        refine sq rfl rfl hn rfl (q_move rfl rfl) ?_
        refine sq rfl rfl hn rfl (q_move rfl rfl) ?_
        refine stepW (s_call [] (fun _ => can_ok r k d2 v hd2 (by omega)) rfl (guard_none rfl) rfl (nb hn rfl) (fun _ => trivial) rfl rfl (.refl _)) fun _ => ?_
        refine sq rfl rfl hn rfl (q_not rfl rfl) ?_
        refine run_nil ?_
        refine aend_then ?_
        refine awp_cond rfl (fun hb3 => ?_) (fun hb3 => ?_)
        · skip
          refine awp_seq ?_
          refine awp_region ?_
          refine sq rfl rfl hn rfl (q_assign rfl rfl) ?_
          refine sq rfl rfl hn rfl (q_assign rfl rfl) ?_
          refine run_nil ?_
          refine aend_then ?_
          refine awp_ret ?_
          refine aend_then_ret ?_
          refine aend_block_ret ?_
          refine aend_then_ret ?_
          refine aend_then_ret ?_
          refine aend_block_ret ?_
          refine aend_then_ret ?_
          refine aend_block_ret ?_
          refine aend_then_ret ?_
          refine aend_then_ret ?_
          refine aend_block_ret ?_
          refine aend_then_ret ?_
          refine ret_le (ret_2 (.inl rfl) hl rfl (.tmp rfl) (.tmp rfl)) ?_
          rw [show playDays r l = none from by rw [hF, show 10 - n = (10 - (n + 1)) + 1 by omega, playF_none (by rw [hG, hb2, hb3]; rfl)]]; (first | exact DLes.refl _ | exact DLe.refl _ | (repeat (first | exact DLes.refl _ | exact DLe.refl _ | exact DLe.nil _ | refine DLes.cons ?_ ?_ | refine DLe.agg ?_ | refine DLe.tup ?_)))
        · skip
          refine awp_skip ?_
          refine aend_then ?_
          refine awp_region ?_
          refine sq rfl rfl hn rfl (q_move rfl rfl) ?_
          refine sq rfl rfl hn rfl (q_move rfl rfl) ?_
          refine sq rfl rfl hn rfl (q_shl rfl rfl rfl (by omega) (by simp [IntKind.bits]; omega) (shl_bit (by omega))) ?_
          refine sq rfl rfl hn rfl (q_bitor rfl rfl rfl (or_bits hd2 (pow_lt (by omega)))) ?_
          refine sq rfl rfl hn rfl (q_assign rfl rfl) ?_
          refine run_nil ?_
          refine aend_block ?_
          refine aend_then ?_
          refine awp_region ?_
          refine sq rfl rfl hn rfl (q_add rfl rfl rfl (r := ((k + 1 : Nat) : Int)) (i64w (by omega) (by omega))) ?_
          refine sq rfl rfl hn rfl (q_move rfl rfl) ?_
          refine run_nil ?_
          exact aend_round_on ⟨(k + 1, d2 ||| 2 ^ k), by simp only; omega, or_lt hd2 (pow_lt (by omega)), by rw [hG, hb2, hb3]; rfl⟩ ⟨.inl rfl, .inl rfl, holdT_anys _⟩ trivial (by simp only; omega) (by repeat (first | exact kr _ | refine kc rfl ?_)) (by repeat (first | exact kr _ | refine kc rfl ?_))
    · try simp only [decide_eq_true_eq, decide_eq_false_iff_not, Bool.and_eq_true, Bool.or_eq_true, Bool.and_eq_false_iff, Bool.or_eq_false_iff, Bool.not_eq_true', Bool.not_eq_false', beq_iff_eq, bne_iff_ne, ne_eq, beq_eq_false_iff_ne, bne_eq_false_iff_eq, Int.not_lt, Int.not_le] at hb1
      have hke : k = l.length := by simp only [List.length_map] at hb1; omega
      have hday : dayF r n 0 l d = some d2 := by subst hke; rw [List.drop_length] at hG; rw [hG]; rfl
      refine awp_exit ?_
      refine aend_then_exit ?_
      refine aend_then_exit ?_
      refine aend_block_exit ?_
      refine aend_then ?_
      refine awp_region ?_
      refine sq rfl rfl hn rfl (q_move rfl rfl) ?_
      refine sq rfl rfl hn rfl (q_loadAd rfl rfl (id := 2) rfl Try.underlying35 rfl sz35 rfl rfl sees0) ?_
      refine sq rfl rfl hn rfl (q_move rfl rfl) ?_
      refine stepW (s_call [] (fun _ => places_ok r _ v (by assumption)) rfl (guard_none rfl) rfl (nb hn rfl) (fun _ => trivial) rfl rfl (.refl _)) fun _ => ?_
      refine stepW (s_buildSlice rfl rfl rfl (nb hn rfl) Try.underlying133 sz103 zr103 rfl rfl rfl (show _ = [.d (.int .i64 0), .d (.int .i64 0), .d (.int .i64 0), .d (.int .i64 0)] from by kernel_rfl) (by kernel_rfl) rfl (fill_row (by kernel_rfl)) (allD_d _) (by rw [playRow_len]; rfl) chunk_row) fun _ => ?_
      refine stepW (s_append (id := 4) rfl rfl rfl (nb hn rfl) elt133 trivial rfl rfl rfl (by simp [hds, chunk]; omega) (by simp [hds, chunk]; omega) (fun b hb => trivial)) fun v38 => ?_
      refine sq rfl rfl hn rfl (q_assign rfl rfl) ?_
      refine run_nil ?_
      refine aend_block ?_
      refine aend_then ?_
      refine awp_region ?_
      refine sq rfl rfl hn rfl (q_add rfl rfl rfl (r := ((n + 1 : Nat) : Int)) (i64w (by omega) (by omega))) ?_
      refine sq rfl rfl hn rfl (q_move rfl rfl) ?_
      refine run_nil ?_
      exact aend_round_on ⟨(n + 1, d2, ds ++ [d2], v38), by simp only; omega, hd2, by simp [hds], by rw [hF, show 10 - n = (10 - (n + 1)) + 1 by omega, playF_step hday]⟩ ⟨.inl rfl, .inl rfl, .inl rfl, holdT_anys _⟩ ⟨.inl (by rw [List.map_append]; rfl), trivial⟩ (by simp only; omega) (by repeat (first | exact kr _ | refine kc rfl ?_)) (by repeat (first | exact kr _ | refine kc rfl ?_))
  · try simp only [decide_eq_true_eq, decide_eq_false_iff_not, Bool.and_eq_true, Bool.or_eq_true, Bool.and_eq_false_iff, Bool.or_eq_false_iff, Bool.not_eq_true', Bool.not_eq_false', beq_iff_eq, bne_iff_ne, ne_eq, beq_eq_false_iff_ne, bne_eq_false_iff_eq, Int.not_lt, Int.not_le] at hb0
    have hne : n = 10 := by omega
    subst hne
    refine awp_exit ?_
    refine aend_then_exit ?_
    refine aend_then_exit ?_
    refine aend_block_exit ?_
    refine aend_then ?_
    refine awp_seq ?_
    refine awp_region ?_
    refine sq rfl rfl hn rfl (q_move rfl rfl) ?_
    refine sq rfl rfl hn rfl (q_assign rfl rfl) ?_
    refine sq rfl rfl hn rfl (q_assign rfl rfl) ?_
    refine run_nil ?_
    refine aend_then ?_
    refine awp_ret ?_
    refine gh_end (g_row (t := 4) (id := 4) rfl rfl) ?_
    refine ret_eq (ret_2 (.inl rfl) hl rfl (.tmp rfl) (.tmp rfl)) ?_
    rw [show playDays r l = some ds from by rw [hF]; simp [playF, addF]]; rfl
def datedF : List Ent5 → List Int → Bool
  | [], [] => true
  | e :: es, t :: ts => (decide (e.lo ≤ t) && decide (t ≤ e.hi)) && datedF es ts
  | _, _ => false
theorem datedF_len : ∀ {es : List Ent5} {ts : List Int}, datedF es ts = true → ts.length = es.length
  | [], [], _ => rfl
  | e :: es, t :: ts, h => by simp only [datedF, Bool.and_eq_true] at h; simp [datedF_len h.2]
  | [], _ :: _, h => by simp [datedF] at h
  | _ :: _, [], h => by simp [datedF] at h
theorem dated_ok (r : Reg) (l : List Int) (v : Valid r) : PureAt Try.prog 79 [regD r, ints l] (.bool (datedF r.entries l)) := by
  refine PureAt.of_awp Try.func79 rfl (by kernel_rfl) (Nat.le_of_ble_eq_true rfl) fun Γ hn hl => ?_
  have he6 := v.e6
  refine awp_seq ?_
  refine awp_region ?_
  refine stepW (s_box 2 rfl rfl rfl (nb hn rfl) rfl rfl) fun b2 => ?_
  refine sq rfl rfl hn rfl (q_assign rfl rfl) ?_
  refine run_nil ?_
  refine aend_then ?_
  refine awp_seq ?_
  refine awp_seq ?_
  refine awp_region ?_
  refine sq rfl rfl hn rfl (q_move rfl rfl) ?_
  refine sq rfl rfl hn rfl (q_len rfl rfl Try.underlying22) ?_
  refine sq rfl rfl hn rfl (q_fieldAddr rfl rfl Try.underlying35 rfl sz32) ?_
  refine sq rfl rfl hn rfl (q_load rfl rfl (id := 2) rfl Try.underlying32 rfl rfl sees0) ?_
  refine sq rfl rfl hn rfl (q_len rfl rfl Try.underlying32) ?_
  refine sq rfl rfl hn rfl (q_neq rfl rfl rfl) ?_
  refine run_nil ?_
  refine aend_then ?_
  refine awp_cond rfl (fun hb0 => ?_) (fun hb0 => ?_)
  · skip
    refine awp_seq ?_
    refine awp_region ?_
    refine sq rfl rfl hn rfl (q_assign rfl rfl) ?_
    refine run_nil ?_
    refine aend_then ?_
    refine awp_ret ?_
    refine aend_then_ret ?_
    refine ret_eq (ret_1 (.inl rfl) hl rfl (.tmp rfl)) ?_
    rw [show datedF r.entries l = false from by cases h : datedF r.entries l with | false => rfl | true => have := datedF_len h; simp [this] at hb0]
  · try simp only [decide_eq_true_eq, decide_eq_false_iff_not, Bool.and_eq_true, Bool.or_eq_true, Bool.and_eq_false_iff, Bool.or_eq_false_iff, Bool.not_eq_true', Bool.not_eq_false', beq_iff_eq, bne_iff_ne, ne_eq, beq_eq_false_iff_ne, bne_eq_false_iff_eq, Int.not_lt, Int.not_le] at hb0
    have hl5 : l.length = r.entries.length := by simp only [List.length_map] at hb0; omega
    refine awp_skip ?_
    refine aend_then ?_
    refine awp_seq ?_
    refine awp_seq ?_
    refine awp_region ?_
    refine sq rfl rfl hn rfl (q_fieldAddr rfl rfl Try.underlying35 rfl sz32) ?_
    refine sq rfl rfl hn rfl (q_load rfl rfl (id := 2) rfl Try.underlying32 rfl rfl sees0) ?_
    refine sq rfl rfl hn rfl (q_len rfl rfl Try.underlying32) ?_
    refine sq rfl rfl hn rfl (q_move rfl rfl) ?_
    refine run_nil ?_
    refine aend_then ?_
    refine awp_block ?_
    refine awp_loop_on (ι := { i : Nat // i ≤ r.entries.length ∧ datedF r.entries l = datedF (r.entries.drop i) (l.drop i) }) (fun x => (16, true, .d (.int .i64 (x.1 : Int))) :: anys [17, 18, 19, 20, 6, 5, 21, 22, 23, 24, 25, 26, 27, 28, 29, 30, 31, 32, 33]) (fun x => gones [6]) (fun x => r.entries.length - x.1) ⟨0, by simp⟩ ⟨.inl rfl, holdT_anys _⟩ (holdR_gones _) ?_
    rintro ⟨i, hi, hF⟩
    dsimp only
    refine awp_seq ?_
    refine awp_region ?_
    refine sq rfl rfl hn rfl (q_lss rfl rfl rfl) ?_
    refine run_nil ?_
    refine aend_then ?_
    refine awp_seq ?_
    refine awp_cond rfl (fun hb1 => ?_) (fun hb1 => ?_)
    · try simp only [decide_eq_true_eq, decide_eq_false_iff_not, Bool.and_eq_true, Bool.or_eq_true, Bool.and_eq_false_iff, Bool.or_eq_false_iff, Bool.not_eq_true', Bool.not_eq_false', beq_iff_eq, bne_iff_ne, ne_eq, beq_eq_false_iff_ne, bne_eq_false_iff_eq, Int.not_lt, Int.not_le] at hb1
      have hlt : i < r.entries.length := by simpa using hb1
      obtain ⟨e, he⟩ := ex_get hlt
      obtain ⟨t, ht⟩ := ex_get (l := l) (i := i) (by omega)
      rw [drop_of he, drop_of ht] at hF; simp only [datedF] at hF
      refine awp_skip ?_
      refine aend_then ?_
      refine awp_seq ?_
      refine awp_block ?_
      refine awp_seq ?_
      refine awp_region ?_
      refine sq rfl rfl hn rfl (q_move rfl rfl) ?_
      refine sq rfl rfl hn rfl (q_index rfl rfl rfl Try.underlying32 sz95 rfl (mget he)) ?_
      refine sq rfl rfl hn rfl (q_loadpA rfl rfl Try.underlying95 rfl sz95 rfl rfl seesF0) ?_
      refine stepW (s_alloc 6 rfl rfl rfl (nb hn rfl) zr95 rfl rfl) fun b6 => ?_
      refine sq rfl rfl hn rfl (q_assign rfl rfl) ?_
      refine stepW (s_store rfl rfl rfl rfl rfl rfl (id := 6) rfl sz95 rfl (Nat.le_of_ble_eq_true rfl) rfl trivial) fun _ => ?_
      refine run_nil ?_
      refine aend_then ?_
      refine awp_seq ?_
      refine d_start (W := fun b => b ≠ b6) fmo ?_
      refine d1q (i := 0) rfl (by kernel_rfl) (fun _ _ _ _ h => h) rfl rfl hn rfl (q_move rfl rfl) ?_
      refine d1q (i := 1) rfl (by kernel_rfl) (fun _ _ _ _ h => h) rfl rfl hn rfl (q_move rfl rfl) ?_
      refine d1q (i := 2) rfl (by kernel_rfl) (fun _ _ _ _ h => h) rfl rfl hn rfl (q_index rfl rfl rfl Try.underlying22 sz3 rfl (mget ht)) ?_
      refine d1q (i := 3) rfl (by kernel_rfl) (fun _ _ _ _ h => h) rfl rfl hn rfl (q_loadp rfl rfl Try.underlying3 rfl seesFA) ?_
      refine d1q (i := 4) rfl (by kernel_rfl) (fun _ _ _ _ h => h) rfl rfl hn rfl (q_fieldAddr rfl rfl Try.underlying95 rfl sz45) ?_
      refine d1q (i := 5) rfl (by kernel_rfl) (fun _ _ _ _ h => h) rfl rfl hn rfl (q_fieldAddr rfl rfl Try.underlying45 rfl sz3) ?_
      refine d1q (i := 6) rfl (by kernel_rfl) (fun _ _ _ _ h => h) rfl rfl hn rfl (q_load rfl rfl (id := 6) rfl Try.underlying3 rfl rfl (seesA (by simp))) ?_
      refine d1q (i := 7) rfl (by kernel_rfl) (fun _ _ _ _ h => h) rfl rfl hn rfl (q_fieldAddr rfl rfl Try.underlying95 rfl sz45) ?_
      refine d1q (i := 8) rfl (by kernel_rfl) (fun _ _ _ _ h => h) rfl rfl hn rfl (q_fieldAddr rfl rfl Try.underlying45 rfl sz3) ?_
      refine d1q (i := 9) rfl (by kernel_rfl) (fun _ _ _ _ h => h) rfl rfl hn rfl (q_load rfl rfl (id := 6) rfl Try.underlying3 rfl rfl (seesA (by simp))) ?_
      refine d1_of_d2 ?_
      refine d2_one (i := 10) (by kernel_rfl) rfl (s_call [] (fun _ => within_ok _ _ _) rfl (guard_none rfl) rfl (nb hn rfl) (fun _ => trivial) rfl rfl (.refl _)) fun _ => ?_
      refine d2_of_d1 ?_
      refine d1q (i := 11) rfl (by kernel_rfl) (fun _ _ _ _ h => h) rfl rfl hn rfl (q_not rfl rfl) ?_
      refine d1_of_d2 ?_
      refine d2_done (by kernel_rfl) ?_
      refine aend_then ?_
      refine awp_cond rfl (fun hb2 => ?_) (fun hb2 => ?_)
      · skip
        refine awp_seq ?_
        refine awp_region ?_
        refine sq rfl rfl hn rfl (q_assign rfl rfl) ?_
        refine run_nil ?_
        refine aend_then ?_
        refine awp_ret ?_
        refine aend_block_ret ?_
        refine aend_then_ret ?_
        refine aend_then_ret ?_
        refine aend_block_ret ?_
        refine aend_then_ret ?_
        refine ret_eq (ret_1 (.inl rfl) hl rfl (.tmp rfl)) ?_
        rw [hF, notT hb2]; rfl
      · skip
        refine awp_skip ?_
        refine aend_block ?_
        refine aend_then ?_
        refine awp_region ?_
        refine sq rfl rfl hn rfl (q_add rfl rfl rfl (r := ((i + 1 : Nat) : Int)) (i64w (by omega) (by omega))) ?_
        refine sq rfl rfl hn rfl (q_move rfl rfl) ?_
        refine run_nil ?_
        exact aend_round_on ⟨i + 1, by omega, by rw [hF, notF hb2]; rfl⟩ ⟨.inl rfl, holdT_anys _⟩ (holdR_gones _) (by simp only; omega) (by repeat (first | exact kr _ | refine kc rfl ?_)) (by repeat (first | exact kr _ | refine kc rfl ?_))
    · try simp only [decide_eq_true_eq, decide_eq_false_iff_not, Bool.and_eq_true, Bool.or_eq_true, Bool.and_eq_false_iff, Bool.or_eq_false_iff, Bool.not_eq_true', Bool.not_eq_false', beq_iff_eq, bne_iff_ne, ne_eq, beq_eq_false_iff_ne, bne_eq_false_iff_eq, Int.not_lt, Int.not_le] at hb1
      refine awp_exit ?_
      refine aend_then_exit ?_
      refine aend_then_exit ?_
      refine aend_block_exit ?_
      refine aend_then ?_
      refine awp_seq ?_
      refine awp_region ?_
      refine sq rfl rfl hn rfl (q_assign rfl rfl) ?_
      refine run_nil ?_
      refine aend_then ?_
      refine awp_ret ?_
      refine ret_eq (ret_1 (.inl rfl) hl rfl (.tmp rfl)) ?_
      have e : i = r.entries.length := by simp only [List.length_map] at hb1; omega
      subst e; rw [hF, ← hl5, List.drop_length, hl5, List.drop_length]; rfl
def seenB (n : Int) (p : List Int) (s : Sight5) : Bool := (s.day != n) || (p.getD s.sheet.toNat 0 == s.house)
theorem dropD {p : List Int} {k : Nat} {x : Int} (h : p[k]? = some x) : (p.map intD).drop (k * 1) = intD x :: (p.map intD).drop (k + 1) := by
  rw [Nat.mul_one]
  exact drop_of (mget h)
theorem seen1_ok (n : Int) (p : List Int) (s : Sight5) (hp : p.length = 4) (h0 : 0 ≤ s.sheet) (h4 : s.sheet < 4) : PureAt Try.prog 101 [.agg (sightE s), .ptr [intD n], .ptr (p.map intD)] (.bool (seenB n p s)) := by
  refine PureAt.of_awp Try.func101 rfl (by kernel_rfl) (Nat.le_of_ble_eq_true rfl) fun Γ hn hl => ?_
  refine awp_seq ?_
  refine awp_region ?_
  refine stepW (s_box 3 rfl rfl rfl (nb hn rfl) rfl rfl) fun b3 => ?_
  refine sq rfl rfl hn rfl (q_assign rfl rfl) ?_
  refine run_nil ?_
  refine aend_then ?_
  refine awp_seq ?_
  refine d_start (W := fun b => b ≠ b3) fmo ?_
  refine d1q (i := 0) rfl (by kernel_rfl) (fun _ _ _ _ h => h) rfl rfl hn rfl (q_fieldAddr rfl rfl Try.underlying92 rfl sz3) ?_
  refine d1q (i := 1) rfl (by kernel_rfl) (fun _ _ _ _ h => h) rfl rfl hn rfl (q_load rfl rfl (id := 3) rfl Try.underlying3 rfl rfl (seesA (by simp))) ?_
  refine d1q (i := 2) rfl (by kernel_rfl) (fun _ _ _ _ h => h) rfl rfl hn rfl (q_loadp rfl rfl Try.underlying3 rfl seesFA) ?_
  refine d1q (i := 3) rfl (by kernel_rfl) (fun _ _ _ _ h => h) rfl rfl hn rfl (q_neq rfl rfl rfl) ?_
  refine d1q (i := 4) rfl (by kernel_rfl) (fun _ _ _ _ h => h) rfl rfl hn rfl (q_move rfl rfl) ?_
  refine d1g (i := 5) [] rfl (by kernel_rfl) (fun _ _ _ _ h => h) (guard_some rfl rfl rfl) rfl hn rfl (fun hc => trivial) (fun hc => q_fieldAddr rfl rfl Try.underlying92 rfl sz3) ?_
  refine d1g (i := 6) [(10, _)] rfl (by kernel_rfl) (fun _ _ _ _ h => h) (guard_some rfl rfl rfl) rfl hn rfl (fun hc => ⟨⟨_, rfl, hc⟩, trivial⟩) (fun hc => q_load rfl rfl (id := 3) rfl Try.underlying3 rfl rfl (seesA (by simp))) ?_
  refine d1g (i := 7) [(11, _)] rfl (by kernel_rfl) (fun _ _ _ _ h => h) (guard_some rfl rfl rfl) rfl hn rfl (fun hc => ⟨⟨_, rfl, hc⟩, trivial⟩) (fun hc => q_indexP (i := s.sheet.toNat) rfl rfl rfl Try.underlying103 sz3 (by omega) (by omega) (dropD (getD_some (by omega)))) ?_
  refine d1g (i := 8) [(12, _)] rfl (by kernel_rfl) (fun _ _ _ _ h => h) (guard_some rfl rfl rfl) rfl hn rfl (fun hc => ⟨⟨_, rfl, hc⟩, trivial⟩) (fun hc => q_loadp rfl rfl Try.underlying3 rfl seesFA) ?_
  refine d1g (i := 9) [] rfl (by kernel_rfl) (fun _ _ _ _ h => h) (guard_some rfl rfl rfl) rfl hn rfl (fun hc => trivial) (fun hc => q_fieldAddr rfl rfl Try.underlying92 rfl sz3) ?_
  refine d1g (i := 10) [(14, _)] rfl (by kernel_rfl) (fun _ _ _ _ h => h) (guard_some rfl rfl rfl) rfl hn rfl (fun hc => ⟨⟨_, rfl, hc⟩, trivial⟩) (fun hc => q_load rfl rfl (id := 3) rfl Try.underlying3 rfl rfl (seesA (by simp))) ?_
  refine d1g (i := 11) [(13, _), (15, _)] rfl (by kernel_rfl) (fun _ _ _ _ h => h) (guard_some rfl rfl rfl) rfl hn rfl (fun hc => ⟨⟨_, rfl, hc⟩, ⟨_, rfl, hc⟩, trivial⟩) (fun hc => q_eql rfl rfl rfl) ?_
  refine d1q (i := 12) rfl (by kernel_rfl) (fun _ _ _ _ h => h) rfl rfl hn rfl (q_or rfl rfl rfl (by intro hB; first | (rw [hB]; rfl) | (rw [hB, hc]; rfl) | simp_all)) ?_
  refine d1q (i := 13) rfl (by kernel_rfl) (fun _ _ _ _ h => h) rfl rfl hn rfl (q_assign rfl rfl) ?_
  refine d1_of_d2 ?_
  refine d2_done (by kernel_rfl) ?_
  refine aend_then ?_
  refine awp_ret ?_
  exact ret_1 (.inl rfl) hl rfl (.tmp rfl)
theorem seen_ok (r : Reg) (n : Int) (p : List Int) (v : Valid r) (hp : p.length = 4) : PureAt Try.prog 81 [regD r, .int .i64 n, .agg (p.map intD)] (.bool (r.sights.all (seenB n p))) := by
  refine PureAt.of_awp Try.func81 rfl (by kernel_rfl) (Nat.le_of_ble_eq_true rfl) fun Γ hn hl => ?_
  have hs4 := v.s4
  refine awp_seq ?_
  refine awp_region ?_
  refine stepW (s_box 3 rfl rfl rfl (nb hn rfl) rfl rfl) fun b3 => ?_
  refine stepW (s_box 4 rfl rfl rfl (nb hn rfl) rfl rfl) fun b4 => ?_
  refine stepW (s_box 5 rfl rfl rfl (nb hn rfl) rfl rfl) fun b5 => ?_
  refine sq rfl rfl hn rfl (q_assign rfl rfl) ?_
  refine run_nil ?_
  refine aend_then ?_
  refine awp_seq ?_
  refine awp_region ?_
  refine sq rfl rfl hn rfl (q_fieldAddr rfl rfl Try.underlying35 rfl sz33) ?_
  refine sq rfl rfl hn rfl (q_load rfl rfl (id := 3) rfl Try.underlying33 rfl rfl sees0) ?_
  refine gh_run (g_freeze (t := 4) 4 rfl (nb hn rfl) rfl rfl trivial) ?_
  refine gh_run (g_freeze (t := 5) 5 rfl (nb hn rfl) rfl (allD_d _) trivial) ?_
  refine sq rfl rfl hn rfl (q_makeFuncd rfl rfl rfl) ?_
  refine stepW (s_call [] (fun _ => all_sight r.sights (seenB n p) 101 [] [.ptr [intD n], .ptr (p.map intD)] (fun s hs => have := v.si s hs; seen1_ok n p s hp (by omega) (by omega))) rfl (guard_none rfl) rfl (nb hn rfl) (fun _ => trivial) rfl rfl (.refl _)) fun _ => ?_
  refine sq rfl rfl hn rfl (q_assign rfl rfl) ?_
  refine run_nil ?_
  refine aend_then ?_
  refine awp_ret ?_
  exact ret_1 (.inl rfl) hl rfl (.tmp rfl)
def playE (r : Reg) (l : List Int) : Int := bif checkE r != 0 then checkE r else bif !(datedF r.entries l) then 2 else bif !((playDays r l).isSome) then 11 else 0
/-- For each sheet its house at the end of each day. -/
def playOut (r : Reg) (ds : List Nat) : List (List Int) := (List.range r.start.length).map fun s => ds.map fun d => (placesA r d).getD s 0
def playL (r : Reg) (l : List Int) : List (List Int) := bif playE r l == 0 then playOut r ((playDays r l).getD []) else []
theorem playL_bad {r : Reg} {l : List Int} (h : checkE r ≠ 0) : playL r l = [] := by
  have h1 : (checkE r != 0) = true := by simpa using h
  have h2 : (checkE r == 0) = false := by simpa using h
  simp only [playL, playE, h1, cond_true, h2, cond_false]
theorem fill_int {x : Int} {zs : List TV} (hz : zs.length = 1) : fillTV (fun i => some (i * 1, 1)) zs [(0, .d (.int .i64 x))] = some [.d (.int .i64 x)] := by
  simp only [fillTV, TV.cells, hz, TV.flat]
  rw [List.drop_of_length_le (by omega)]
  simp [Nat.beq, Nat.ble, TV.one, D.one]
theorem fill_d {x : D} {zs : List TV} (hz : zs.length = 1) (hx : TV.cells (.d x) = [.d x]) (h1 : x.one = true) (hf : TV.flat (.d x) = true) : fillTV (fun i => some (i * 1, 1)) zs [(0, .d x)] = some [.d x] := by
  simp only [fillTV, hx, hz, hf]
  rw [List.drop_of_length_le (by omega)]
  simp [Nat.beq, Nat.ble]
theorem Play_ok (r : Reg) (l : List Int) : PureAt Try.prog 43 [regD r, ints l] (.tup [.slice 1 ((playL r l).map fun x => [ints x]), .int .i64 (playE r l)]) := by
  refine PureAt.of_awp Try.func43 rfl (by kernel_rfl) (Nat.le_of_ble_eq_true rfl) fun Γ hn hl => ?_
  refine awp_seq ?_
  refine awp_region ?_
  refine stepW (s_box 2 rfl rfl rfl (nb hn rfl) rfl rfl) fun b2 => ?_
  refine sq rfl rfl hn rfl (q_assign rfl rfl) ?_
  refine sq rfl rfl hn rfl (q_assign rfl rfl) ?_
  refine run_nil ?_
  refine aend_then ?_
  refine awp_seq ?_
  refine awp_seq ?_
  refine awp_region ?_
  refine sq rfl rfl hn rfl (q_loadAd rfl rfl (id := 2) rfl Try.underlying35 rfl sz35 rfl rfl sees0) ?_
  refine stepW (s_call [] (fun _ => CheckRegister_ok _) rfl (guard_none rfl) rfl (nb hn rfl) (fun _ => trivial) rfl rfl (.refl _)) fun _ => ?_
  refine sq rfl rfl hn rfl (q_assign rfl rfl) ?_
  refine run_nil ?_
  refine aend_then ?_
  refine awp_seq ?_
  refine awp_region ?_
  refine sq rfl rfl hn rfl (q_move rfl rfl) ?_
  refine sq rfl rfl hn rfl (q_neq rfl rfl rfl) ?_
  refine run_nil ?_
  refine aend_then ?_
  refine awp_cond rfl (fun hb0 => ?_) (fun hb0 => ?_)
  · skip
    refine awp_seq ?_
    refine awp_region ?_
    refine sq rfl rfl hn rfl (q_move rfl rfl) ?_
    refine sq rfl rfl hn rfl (q_assign rfl rfl) ?_
    refine sq rfl rfl hn rfl (q_assign rfl rfl) ?_
    refine run_nil ?_
    refine aend_then ?_
    refine awp_ret ?_
    refine aend_then_ret ?_
    refine ret_le (ret_2 (.inl rfl) hl rfl (.tmp rfl) (.tmp rfl)) ?_
    rw [show playE r l = checkE r from by simp [playE, hb0], show playL r l = [] from playL_bad (by simpa using hb0)]; (first | exact DLes.refl _ | exact DLe.refl _ | (repeat (first | exact DLes.refl _ | exact DLe.refl _ | exact DLe.nil _ | refine DLes.cons ?_ ?_ | refine DLe.agg ?_ | refine DLe.tup ?_)))
  · skip
    have hv0 : checkE r = 0 := by simpa using hb0
    have v := valid_of hv0
    have hs4 := v.s4
    refine awp_skip ?_
    refine aend_then ?_
    refine awp_seq ?_
    refine awp_seq ?_
    refine awp_region ?_
    refine sq rfl rfl hn rfl (q_loadAd rfl rfl (id := 2) rfl Try.underlying35 rfl sz35 rfl rfl sees0) ?_
    refine sq rfl rfl hn rfl (q_move rfl rfl) ?_
    refine stepW (s_call [] (fun _ => dated_ok r _ v) rfl (guard_none rfl) rfl (nb hn rfl) (fun _ => trivial) rfl rfl (.refl _)) fun _ => ?_
    refine sq rfl rfl hn rfl (q_not rfl rfl) ?_
    refine run_nil ?_
    refine aend_then ?_
    refine awp_cond rfl (fun hb1 => ?_) (fun hb1 => ?_)
    · skip
      refine awp_seq ?_
      refine awp_region ?_
      refine sq rfl rfl hn rfl (q_assign rfl rfl) ?_
      refine sq rfl rfl hn rfl (q_assign rfl rfl) ?_
      refine run_nil ?_
      refine aend_then ?_
      refine awp_ret ?_
      refine aend_then_ret ?_
      refine ret_le (ret_2 (.inl rfl) hl rfl (.tmp rfl) (.tmp rfl)) ?_
      rw [show playE r l = 2 from by simp [playE, hb0, hb1], show playL r l = [] from by simp [playL, playE, hb0, hb1]]; (first | exact DLes.refl _ | exact DLe.refl _ | (repeat (first | exact DLes.refl _ | exact DLe.refl _ | exact DLe.nil _ | refine DLes.cons ?_ ?_ | refine DLe.agg ?_ | refine DLe.tup ?_)))
    · skip
      have hdt := notF hb1
      have hl5 := datedF_len hdt
      refine awp_skip ?_
      refine aend_then ?_
      refine awp_seq ?_
      refine awp_region ?_
      refine sq rfl rfl hn rfl (q_loadAd rfl rfl (id := 2) rfl Try.underlying35 rfl sz35 rfl rfl sees0) ?_
      refine sq rfl rfl hn rfl (q_move rfl rfl) ?_
      refine stepW (s_call [] (fun _ => play_ok r _ v hl5) rfl (guard_none rfl) rfl (nb hn rfl) (fun _ => trivial) rfl rfl (.refl _)) fun _ => ?_
      refine sq rfl rfl hn rfl (q_move rfl rfl) ?_
      refine sq rfl rfl hn rfl (q_extractd rfl rfl rfl) ?_
      refine sq rfl rfl hn rfl (q_extractd rfl rfl rfl) ?_
      refine sq rfl rfl hn rfl (q_assign rfl rfl) ?_
      refine sq rfl rfl hn rfl (q_assign rfl rfl) ?_
      refine run_nil ?_
      refine aend_then ?_
      refine awp_seq ?_
      refine awp_seq ?_
      refine awp_region ?_
      refine sq rfl rfl hn rfl (q_move rfl rfl) ?_
      refine sq rfl rfl hn rfl (q_not rfl rfl) ?_
      refine run_nil ?_
      refine aend_then ?_
      refine awp_cond rfl (fun hb2 => ?_) (fun hb2 => ?_)
      · skip
        refine awp_seq ?_
        refine awp_region ?_
        refine sq rfl rfl hn rfl (q_assign rfl rfl) ?_
        refine sq rfl rfl hn rfl (q_assign rfl rfl) ?_
        refine run_nil ?_
        refine aend_then ?_
        refine awp_ret ?_
        refine aend_then_ret ?_
        refine ret_le (ret_2 (.inl rfl) hl rfl (.tmp rfl) (.tmp rfl)) ?_
        rw [show playE r l = 11 from by simp [playE, hb0, hb1, hb2], show playL r l = [] from by simp [playL, playE, hb0, hb1, hb2]]; (first | exact DLes.refl _ | exact DLe.refl _ | (repeat (first | exact DLes.refl _ | exact DLe.refl _ | exact DLe.nil _ | refine DLes.cons ?_ ?_ | refine DLe.agg ?_ | refine DLe.tup ?_)))
      · skip
        have hsome := notF hb2
        obtain ⟨ds, hds⟩ := Option.isSome_iff_exists.1 hsome
        have hdl : ds.length = 10 := playDays_len hds
        rw [hds, Option.getD_some]
        refine awp_skip ?_
        refine aend_then ?_
        refine awp_seq ?_
        refine awp_region ?_
        refine sq rfl rfl hn rfl (q_assign rfl rfl) ?_
        refine run_nil ?_
        refine aend_then ?_
        refine awp_seq ?_
        refine awp_seq ?_
        refine gh_awp (g_nil (t := 9) (id := 9) 22 1 rfl (nb hn rfl)) ?_
        refine awp_region ?_
        refine sq rfl rfl hn rfl (q_fieldAddr rfl rfl Try.underlying35 rfl sz22) ?_
        refine sq rfl rfl hn rfl (q_load rfl rfl (id := 2) rfl Try.underlying22 rfl rfl sees0) ?_
        refine sq rfl rfl hn rfl (q_len rfl rfl Try.underlying22) ?_
        refine sq rfl rfl hn rfl (q_move rfl rfl) ?_
        refine run_nil ?_
        refine aend_then ?_
        refine awp_block ?_
        refine awp_loop_on (ι := { x : Nat × Value // x.1 ≤ r.start.length }) (fun x => (34, true, .d (.int .i64 (x.1.1 : Int))) :: (9, true, .val x.1.2) :: anys [35, 36, 10, 11, 37, 38, 39, 40, 41, 42, 13, 43, 44, 45, 46, 47, 48, 49, 50, 51, 52, 53, 54]) (fun x => (9, .row x.1.2 22 1 ((List.range x.1.1).map fun s => [ints (ds.map fun d => (placesA r d).getD s 0)])) :: gones [11, 13]) (fun x => r.start.length - x.1.1) ⟨(0, .slice none 0 0), by simp⟩ ⟨.inl rfl, .inl rfl, holdT_anys _⟩ ⟨.inl rfl, holdR_gones _⟩ ?_
        rintro ⟨⟨i, vv⟩, hi⟩
        dsimp only
        dsimp only at hi
        refine awp_seq ?_
        refine awp_region ?_
        refine sq rfl rfl hn rfl (q_lss rfl rfl rfl) ?_
        refine run_nil ?_
        refine aend_then ?_
        refine awp_seq ?_
        refine awp_cond rfl (fun hb3 => ?_) (fun hb3 => ?_)
        · try simp only [decide_eq_true_eq, decide_eq_false_iff_not, Bool.and_eq_true, Bool.or_eq_true, Bool.and_eq_false_iff, Bool.or_eq_false_iff, Bool.not_eq_true', Bool.not_eq_false', beq_iff_eq, bne_iff_ne, ne_eq, beq_eq_false_iff_ne, bne_eq_false_iff_eq, Int.not_lt, Int.not_le] at hb3
          have hlt : i < r.start.length := by simpa using hb3
          have hi4 : i < 4 := by omega
          refine awp_skip ?_
          refine aend_then ?_
          refine awp_seq ?_
          refine awp_block ?_
          refine awp_seq ?_
          refine awp_region ?_
          refine sq rfl rfl hn rfl (q_move rfl rfl) ?_
          refine sq rfl rfl hn rfl (q_assign rfl rfl) ?_
          refine run_nil ?_
          refine aend_then ?_
          refine awp_seq ?_
          refine awp_region ?_
          refine sq rfl rfl hn rfl (q_assign rfl rfl) ?_
          refine run_nil ?_
          refine aend_then ?_
          refine awp_seq ?_
          refine awp_seq ?_
          refine gh_awp (g_nil (t := 11) (id := 11) 3 1 rfl (nb hn rfl)) ?_
          refine awp_region ?_
          refine sq rfl rfl hn rfl (q_move rfl rfl) ?_
          refine sq rfl rfl hn rfl (q_len rfl rfl Try.underlying133) ?_
          refine sq rfl rfl hn rfl (q_move rfl rfl) ?_
          refine run_nil ?_
          refine aend_then ?_
          refine awp_block ?_
          refine awp_loop_on (ι := { y : Nat × Value // y.1 ≤ ds.length }) (fun y => (39, true, .d (.int .i64 (y.1.1 : Int))) :: (11, true, .val y.1.2) :: anys [40, 41, 42, 13, 43, 44, 45, 46, 47, 48, 49]) (fun y => (11, .row y.1.2 3 1 (((ds.take y.1.1).map fun d => (placesA r d).getD i 0).map intE)) :: gones [13]) (fun y => ds.length - y.1.1) ⟨(0, .slice none 0 0), by simp⟩ ⟨.inl rfl, .inl rfl, holdT_anys _⟩ ⟨.inl rfl, holdR_gones _⟩ ?_
          rintro ⟨⟨k, vw⟩, hk⟩
          dsimp only
          dsimp only at hk
          refine awp_seq ?_
          refine awp_region ?_
          refine sq rfl rfl hn rfl (q_lss rfl rfl rfl) ?_
          refine run_nil ?_
          refine aend_then ?_
          refine awp_seq ?_
          refine awp_cond rfl (fun hb4 => ?_) (fun hb4 => ?_)
          · try simp only [decide_eq_true_eq, decide_eq_false_iff_not, Bool.and_eq_true, Bool.or_eq_true, Bool.and_eq_false_iff, Bool.or_eq_false_iff, Bool.not_eq_true', Bool.not_eq_false', beq_iff_eq, bne_iff_ne, ne_eq, beq_eq_false_iff_ne, bne_eq_false_iff_eq, Int.not_lt, Int.not_le] at hb4
            have hlt2 : k < ds.length := by simpa using hb4
            obtain ⟨d, hd⟩ := ex_get hlt2
            refine awp_skip ?_
            refine aend_then ?_
            refine awp_seq ?_
            refine awp_block ?_
            refine awp_seq ?_
            refine awp_region ?_
            refine sq rfl rfl hn rfl (q_index rfl rfl rfl Try.underlying133 sz103 rfl (mget hd)) ?_
            refine sq rfl rfl hn rfl (q_loadpA rfl rfl Try.underlying103 rfl sz103 (List.take_of_length_le (by rw [playRow_len]; omega)) (playRow_len r d) seesF0) ?_
            refine stepW (s_alloc 13 rfl rfl rfl (nb hn rfl) zr103 rfl rfl) fun b13 => ?_
            refine stepW (s_store rfl rfl rfl rfl rfl rfl (id := 13) rfl sz103 (by rw [show (TV.d (D.agg (playRow r d))).cells = (playRow r d).map .d from rfl, List.length_map, playRow_len]) (Nat.le_of_ble_eq_true rfl) (show _ = (playRow r d).map .d from by simp [TV.cells, Value.cells]) trivial) fun _ => ?_
            refine run_nil ?_
            refine aend_then ?_
            refine awp_region ?_
            refine sq rfl rfl hn rfl (q_move rfl rfl) ?_
            refine sq rfl rfl hn rfl (q_move rfl rfl) ?_
            refine sq rfl rfl hn rfl (q_indexA rfl rfl rfl Try.underlying103 sz3 rfl (by omega)) ?_
            refine sq rfl rfl hn rfl (q_load rfl rfl (id := 13) rfl Try.underlying3 rfl (at1 (f := TV.d) (mget (f := intD) (getD_some (l := placesA r d) (by rw [placesA_len]; omega)))) sees0) ?_
            refine stepW (s_buildSlice rfl rfl rfl (nb hn rfl) Try.underlying22 sz3 zr3 rfl rfl rfl (show _ = [.d (.int .i64 0)] from by kernel_rfl) (by kernel_rfl) rfl (fill_int (by kernel_rfl)) rfl rfl rfl) fun _ => ?_
            refine stepW (s_append (id := 11) rfl rfl rfl (nb hn rfl) elt22 trivial rfl rfl rfl (by simp [List.length_take, chunk]; omega) (by simp [List.length_take, chunk]; omega) (fun b hb => trivial)) fun v48 => ?_
            refine sq rfl rfl hn rfl (q_assign rfl rfl) ?_
            refine run_nil ?_
            refine aend_block ?_
            refine aend_then ?_
            refine awp_region ?_
            refine sq rfl rfl hn rfl (q_add rfl rfl rfl (r := ((k + 1 : Nat) : Int)) (i64w (by omega) (by omega))) ?_
            refine sq rfl rfl hn rfl (q_move rfl rfl) ?_
            refine run_nil ?_
            exact aend_round_on ⟨(k + 1, v48), by simp only; omega⟩ ⟨.inl rfl, .inl rfl, holdT_anys _⟩ ⟨.inl (by rw [List.take_add_one, hd, List.map_append, List.map_append]; rfl), holdR_gones _⟩ (by simp only; omega) (by repeat (first | exact kr _ | refine kc rfl ?_)) (by repeat (first | exact kr _ | refine kc rfl ?_))
          · try simp only [decide_eq_true_eq, decide_eq_false_iff_not, Bool.and_eq_true, Bool.or_eq_true, Bool.and_eq_false_iff, Bool.or_eq_false_iff, Bool.not_eq_true', Bool.not_eq_false', beq_iff_eq, bne_iff_ne, ne_eq, beq_eq_false_iff_ne, bne_eq_false_iff_eq, Int.not_lt, Int.not_le] at hb4
            have hke : k = ds.length := by simp only [List.length_map] at hb4; omega
            subst hke; rw [List.take_length]
            refine awp_exit ?_
            refine aend_then_exit ?_
            refine aend_then_exit ?_
            refine aend_block_exit ?_
            refine aend_then ?_
            refine awp_region ?_
            refine sq rfl rfl hn rfl (q_move rfl rfl) ?_
            refine sq rfl rfl hn rfl (q_move rfl rfl) ?_
            refine gh_run (g_row (t := 51) (id := 11) rfl rfl) ?_
            refine stepW (s_buildSlice rfl rfl rfl (nb hn rfl) Try.underlying77 sz22 zr22 rfl rfl rfl (show _ = [.d .nil] from by kernel_rfl) (by kernel_rfl) rfl (fill_d (by kernel_rfl) rfl rfl rfl) rfl rfl rfl) fun _ => ?_
            refine stepW (s_append (id := 9) rfl rfl rfl (nb hn rfl) elt77 trivial rfl rfl rfl (by simp [chunk]; omega) (by simp [chunk]; omega) (fun b hb => trivial)) fun v53 => ?_
            refine sq rfl rfl hn rfl (q_assign rfl rfl) ?_
            refine run_nil ?_
            refine aend_block ?_
            refine aend_then ?_
            refine awp_region ?_
            refine sq rfl rfl hn rfl (q_add rfl rfl rfl (r := ((i + 1 : Nat) : Int)) (i64w (by omega) (by omega))) ?_
            refine sq rfl rfl hn rfl (q_move rfl rfl) ?_
            refine run_nil ?_
            exact aend_round_on ⟨(i + 1, v53), by simp only; omega⟩ ⟨.inl rfl, .inl rfl, holdT_anys _⟩ ⟨.inl (by rw [List.range_succ, List.map_append]; rfl), holdR_gones _⟩ (by simp only; omega) (by repeat (first | exact kr _ | refine kc rfl ?_)) (by repeat (first | exact kr _ | refine kc rfl ?_))
        · try simp only [decide_eq_true_eq, decide_eq_false_iff_not, Bool.and_eq_true, Bool.or_eq_true, Bool.and_eq_false_iff, Bool.or_eq_false_iff, Bool.not_eq_true', Bool.not_eq_false', beq_iff_eq, bne_iff_ne, ne_eq, beq_eq_false_iff_ne, bne_eq_false_iff_eq, Int.not_lt, Int.not_le] at hb3
          have hie : i = r.start.length := by simp only [List.length_map] at hb3; omega
          subst hie
          refine awp_exit ?_
          refine aend_then_exit ?_
          refine aend_then_exit ?_
          refine aend_block_exit ?_
          refine aend_then ?_
          refine awp_seq ?_
          refine awp_region ?_
          refine sq rfl rfl hn rfl (q_move rfl rfl) ?_
          refine sq rfl rfl hn rfl (q_assign rfl rfl) ?_
          refine sq rfl rfl hn rfl (q_assign rfl rfl) ?_
          refine run_nil ?_
          refine aend_then ?_
          refine awp_ret ?_
          refine gh_end (g_row (t := 4) (id := 9) rfl rfl) ?_
          refine ret_eq (ret_2 (.inl rfl) hl rfl (.tmp rfl) (.tmp rfl)) ?_
          rw [show playE r l = 0 from by simp [playE, hb0, hb1, hsome], show playL r l = playOut r ds from by simp [playL, playE, hb0, hb1, hsome, hds]]; simp [playOut]
def seenAll (r : Reg) : Nat → List Nat → Bool
  | _, [] => true
  | n, d :: ds => r.sights.all (seenB n (placesA r d)) && seenAll r (n + 1) ds
def proveB (r : Reg) (l : List Int) : Bool := (checkE r == 0) && datedF r.entries l && (playDays r l).isSome && seenAll r 0 ((playDays r l).getD [])
theorem ProveTruth_ok (r : Reg) (l : List Int) : PureAt Try.prog 45 [regD r, ints l] (.bool (proveB r l)) := by
  refine PureAt.of_awp Try.func45 rfl (by kernel_rfl) (Nat.le_of_ble_eq_true rfl) fun Γ hn hl => ?_
  refine awp_seq ?_
  refine awp_region ?_
  refine stepW (s_box 2 rfl rfl rfl (nb hn rfl) rfl rfl) fun b2 => ?_
  refine sq rfl rfl hn rfl (q_assign rfl rfl) ?_
  refine run_nil ?_
  refine aend_then ?_
  refine awp_seq ?_
  refine awp_seq ?_
  refine awp_region ?_
  refine sq rfl rfl hn rfl (q_loadAd rfl rfl (id := 2) rfl Try.underlying35 rfl sz35 rfl rfl sees0) ?_
  refine stepW (s_call [] (fun _ => CheckRegister_ok _) rfl (guard_none rfl) rfl (nb hn rfl) (fun _ => trivial) rfl rfl (.refl _)) fun _ => ?_
  refine sq rfl rfl hn rfl (q_neq rfl rfl rfl) ?_
  refine sq rfl rfl hn rfl (q_move rfl rfl) ?_
  refine stepG [] (guard_some rfl rfl rfl) rfl (nb hn rfl) (fun hc => trivial) (fun hc => q_loadAd rfl rfl (id := 2) rfl Try.underlying35 rfl sz35 rfl rfl sees0) ?_
  refine stepG [] (guard_some rfl rfl rfl) rfl (nb hn rfl) (fun hc => trivial) (fun hc => q_move rfl rfl) ?_
  refine stepW (s_call [(13, _), (14, _)] (fun hc => dated_ok r l (valid_of (by simpa using hc))) rfl (guard_some rfl rfl rfl) rfl (nb hn rfl) (fun hc => ⟨⟨_, rfl, hc⟩, ⟨_, rfl, hc⟩, trivial⟩) rfl rfl (.refl _)) fun _ => ?_
  refine stepG [(15, _)] (guard_some rfl rfl rfl) rfl (nb hn rfl) (fun hc => ⟨⟨_, rfl, hc⟩, trivial⟩) (fun hc => q_not rfl rfl) ?_
  refine sq rfl rfl hn rfl (q_or rfl rfl rfl (by intro hB; first | (rw [hB]; rfl) | (rw [hB, hc]; rfl) | simp_all)) ?_
  refine run_nil ?_
  refine aend_then ?_
  refine awp_cond rfl (fun hb0 => ?_) (fun hb0 => ?_)
  · skip
    refine awp_seq ?_
    refine awp_region ?_
    refine sq rfl rfl hn rfl (q_assign rfl rfl) ?_
    refine run_nil ?_
    refine aend_then ?_
    refine awp_ret ?_
    refine aend_then_ret ?_
    refine ret_eq (ret_1 (.inl rfl) hl rfl (.tmp rfl)) ?_
    rw [show proveB r l = false from by simp [proveB]; simp at hb0; intro h1 h2; simp [h1, h2] at hb0]
  · skip
    have hv0 : checkE r = 0 := by simp at hb0; omega
    have v := valid_of hv0
    have hs4 := v.s4
    have hdt : datedF r.entries l = true := by simp [hv0] at hb0; exact hb0
    have hl5 := datedF_len hdt
    have hdl : ((playDays r l).getD []).length ≤ 10 := playDays_le r l
    generalize hds : (playDays r l).getD [] = ds at hdl
    refine awp_skip ?_
    refine aend_then ?_
    refine awp_seq ?_
    refine awp_region ?_
    refine sq rfl rfl hn rfl (q_loadAd rfl rfl (id := 2) rfl Try.underlying35 rfl sz35 rfl rfl sees0) ?_
    refine sq rfl rfl hn rfl (q_move rfl rfl) ?_
    refine stepW (s_call [] (fun _ => hds ▸ play_ok r l v hl5) rfl (guard_none rfl) rfl (nb hn rfl) (fun _ => trivial) rfl rfl (.refl _)) fun _ => ?_
    refine sq rfl rfl hn rfl (q_move rfl rfl) ?_
    refine sq rfl rfl hn rfl (q_extractd rfl rfl rfl) ?_
    refine sq rfl rfl hn rfl (q_extractd rfl rfl rfl) ?_
    refine sq rfl rfl hn rfl (q_assign rfl rfl) ?_
    refine sq rfl rfl hn rfl (q_assign rfl rfl) ?_
    refine run_nil ?_
    refine aend_then ?_
    refine awp_seq ?_
    refine awp_seq ?_
    refine awp_region ?_
    refine sq rfl rfl hn rfl (q_move rfl rfl) ?_
    refine sq rfl rfl hn rfl (q_len rfl rfl Try.underlying133) ?_
    refine sq rfl rfl hn rfl (q_move rfl rfl) ?_
    refine run_nil ?_
    refine aend_then ?_
    refine awp_block ?_
    refine awp_loop_on (ι := { x : Nat × Bool // x.1 ≤ ds.length ∧ ((playDays r l).isSome && seenAll r 0 ds) = (x.2 && seenAll r x.1 (ds.drop x.1)) }) (fun x => (26, true, .d (.int .i64 (x.1.1 : Int))) :: (6, true, .d (.bool x.1.2)) :: anys [27, 28, 29, 30, 8, 7, 31, 32, 33, 34, 35, 36, 37, 38]) (fun x => gones [8]) (fun x => ds.length - x.1.1) ⟨(0, (playDays r l).isSome), by simp⟩ ⟨.inl rfl, .inl rfl, holdT_anys _⟩ (holdR_gones _) ?_
    rintro ⟨⟨i, b⟩, hi, hF⟩
    dsimp only
    dsimp only at hi hF
    refine awp_seq ?_
    refine awp_region ?_
    refine sq rfl rfl hn rfl (q_lss rfl rfl rfl) ?_
    refine run_nil ?_
    refine aend_then ?_
    refine awp_seq ?_
    refine awp_cond rfl (fun hb1 => ?_) (fun hb1 => ?_)
    · try simp only [decide_eq_true_eq, decide_eq_false_iff_not, Bool.and_eq_true, Bool.or_eq_true, Bool.and_eq_false_iff, Bool.or_eq_false_iff, Bool.not_eq_true', Bool.not_eq_false', beq_iff_eq, bne_iff_ne, ne_eq, beq_eq_false_iff_ne, bne_eq_false_iff_eq, Int.not_lt, Int.not_le] at hb1
      have hlt : i < ds.length := by simpa using hb1
      obtain ⟨d, hd⟩ := ex_get hlt
      rw [drop_of hd] at hF; simp only [seenAll] at hF
      refine awp_skip ?_
      refine aend_then ?_
      refine awp_seq ?_
      refine awp_block ?_
      refine awp_seq ?_
      refine awp_region ?_
      refine sq rfl rfl hn rfl (q_move rfl rfl) ?_
      refine sq rfl rfl hn rfl (q_index rfl rfl rfl Try.underlying133 sz103 rfl (mget hd)) ?_
      refine sq rfl rfl hn rfl (q_loadpA rfl rfl Try.underlying103 rfl sz103 (List.take_of_length_le (by rw [playRow_len]; omega)) (playRow_len r d) seesF0) ?_
      refine stepW (s_alloc 8 rfl rfl rfl (nb hn rfl) zr103 rfl rfl) fun b8 => ?_
      refine sq rfl rfl hn rfl (q_assign rfl rfl) ?_
      refine stepW (s_store rfl rfl rfl rfl rfl rfl (id := 8) rfl sz103 (by rw [show (TV.d (D.agg (playRow r d))).cells = (playRow r d).map .d from rfl, List.length_map, playRow_len]) (Nat.le_of_ble_eq_true rfl) (show _ = (playRow r d).map .d from by simp [TV.cells, Value.cells]) trivial) fun _ => ?_
      refine run_nil ?_
      refine aend_then ?_
      refine awp_region ?_
      refine sq rfl rfl hn rfl (q_move rfl rfl) ?_
      refine sq rfl rfl hn rfl (q_move rfl rfl) ?_
      refine stepG [] (guard_some rfl rfl rfl) rfl (nb hn rfl) (fun hc => trivial) (fun hc => q_loadAd rfl rfl (id := 2) rfl Try.underlying35 rfl sz35 rfl rfl sees0) ?_
      refine stepG [] (guard_some rfl rfl rfl) rfl (nb hn rfl) (fun hc => trivial) (fun hc => q_move rfl rfl) ?_
      refine stepG [] (guard_some rfl rfl rfl) rfl (nb hn rfl) (fun hc => trivial) (fun hc => q_loadAd rfl rfl (id := 8) rfl Try.underlying103 rfl sz103 (by rw [List.drop_zero, List.take_of_length_le (by rw [List.length_map, playRow_len]; omega)]; exact allD_d _) (playRow_len r d) sees0) ?_
      refine stepW (s_call [(33, _), (34, _), (35, _)] (fun hc => seen_ok r _ _ v (placesA_len _ _)) rfl (guard_some rfl rfl rfl) rfl (nb hn rfl) (fun hc => ⟨⟨_, rfl, hc⟩, ⟨_, rfl, hc⟩, ⟨_, rfl, hc⟩, trivial⟩) rfl rfl (.refl _)) fun _ => ?_
      refine sq rfl rfl hn rfl (q_and rfl rfl rfl (by intro hB; first | (rw [hB]; rfl) | (rw [hB, hc]; rfl) | simp_all)) ?_
      refine sq rfl rfl hn rfl (q_assign rfl rfl) ?_
      refine run_nil ?_
      refine aend_block ?_
      refine aend_then ?_
      refine awp_region ?_
      refine sq rfl rfl hn rfl (q_add rfl rfl rfl (r := ((i + 1 : Nat) : Int)) (i64w (by omega) (by omega))) ?_
      refine sq rfl rfl hn rfl (q_move rfl rfl) ?_
      refine run_nil ?_
      exact aend_round_on ⟨(i + 1, b && r.sights.all (seenB i (placesA r d))), by simp only; omega, by rw [hF]; simp [Bool.and_assoc]⟩ ⟨.inl rfl, .inl rfl, holdT_anys _⟩ (holdR_gones _) (by simp only; omega) (by repeat (first | exact kr _ | refine kc rfl ?_)) (by repeat (first | exact kr _ | refine kc rfl ?_))
    · try simp only [decide_eq_true_eq, decide_eq_false_iff_not, Bool.and_eq_true, Bool.or_eq_true, Bool.and_eq_false_iff, Bool.or_eq_false_iff, Bool.not_eq_true', Bool.not_eq_false', beq_iff_eq, bne_iff_ne, ne_eq, beq_eq_false_iff_ne, bne_eq_false_iff_eq, Int.not_lt, Int.not_le] at hb1
      refine awp_exit ?_
      refine aend_then_exit ?_
      refine aend_then_exit ?_
      refine aend_block_exit ?_
      refine aend_then ?_
      refine awp_seq ?_
      refine awp_region ?_
      refine sq rfl rfl hn rfl (q_move rfl rfl) ?_
      refine sq rfl rfl hn rfl (q_assign rfl rfl) ?_
      refine run_nil ?_
      refine aend_then ?_
      refine awp_ret ?_
      refine ret_eq (ret_1 (.inl rfl) hl rfl (.tmp rfl)) ?_
      have e : i = ds.length := by simp only [List.length_map] at hb1; omega
      subst e; rw [List.drop_length] at hF; simp only [seenAll, Bool.and_true] at hF
      simp only [proveB, hv0, hdt, hds, hF, beq_self_eq_true, Bool.true_and]
end Go.Proofs.Ytnbmmopjkkofoaa
namespace Go.Proofs.Ytnbmmopjkkofoaa
open Go.RowKit
set_option maxRecDepth 20000
set_option linter.all false
def beforeB : List Int → List Int → Bool
  | [], [] => false
  | [], _ :: _ => true
  | _ :: _, [] => false
  | a :: as', b :: bs => bif a != b then decide (a < b) else beforeB as' bs
def sameB (a b : List Int) : Bool := ((a.length : Int) == b.length) && !(beforeB a b) && !(beforeB b a)
theorem before_end {a b : List Int} {i : Nat} (ha : i ≤ a.length) (hb : i ≤ b.length) (h : a.length ≤ i ∨ b.length ≤ i) : beforeB (a.drop i) (b.drop i) = decide ((a.length : Int) < b.length) := by
  rcases h with h | h
  · have e : i = a.length := by omega
    subst e
    rw [List.drop_length]
    cases hd : b.drop a.length with
    | nil => have := congrArg List.length hd; simp at this; simp [beforeB]; omega
    | cons x xs => have := congrArg List.length hd; simp at this; simp [beforeB]; omega
  · have e : i = b.length := by omega
    subst e
    rw [List.drop_length]
    have e2 : ∀ l : List Int, beforeB l [] = false := fun l => by cases l <;> rfl
    rw [e2]
    simp
    omega
/-- How many days an entry's range has. -/
def span (e : Ent5) : Nat := (e.hi - e.lo + 1).toNat
def manyN : List Ent5 → Nat
  | [] => 1
  | e :: es => span e * manyN es
/-- The list of days with a number. -/
def nthL : List Ent5 → Nat → List Int
  | [], _ => []
  | e :: es, n => (e.lo + ((n % span e : Nat) : Int)) :: nthL es (n / span e)
theorem Before_ok (a b : List Int) : PureAt Try.prog 62 [ints a, ints b] (.bool (beforeB a b)) := by
  refine PureAt.of_awp' Try.func62 rfl (by kernel_rfl) rfl fun hlen Γ hn hl => ?_
  have ha5 := hlen.1; have hb5 := hlen.2.1; simp only [List.length_map] at ha5 hb5
  refine awp_seq ?_
  refine awp_region ?_
  refine sq rfl rfl hn rfl (q_assign rfl rfl) ?_
  refine run_nil ?_
  refine aend_then ?_
  refine awp_seq ?_
  refine awp_seq ?_
  refine awp_region ?_
  refine sq rfl rfl hn rfl (q_assign rfl rfl) ?_
  refine run_nil ?_
  refine aend_then ?_
  refine awp_block ?_
  refine awp_loop_on (ι := { i : Nat // i ≤ a.length ∧ i ≤ b.length ∧ beforeB a b = beforeB (a.drop i) (b.drop i) }) (fun x => (5, true, .d (.int .i64 (x.1 : Int))) :: anys [6, 7, 8, 9, 10, 11, 12, 13, 14, 15, 18, 19, 20, 21, 22, 23, 24, 25, 26, 16, 17]) (fun x => []) (fun x => a.length - x.1) ⟨0, by simp⟩ ⟨.inl rfl, holdT_anys _⟩ trivial ?_
  rintro ⟨i, hi, hj, hF⟩
  dsimp only
  refine awp_seq ?_
  refine awp_seq ?_
  refine awp_region ?_
  refine sq rfl rfl hn rfl (q_move rfl rfl) ?_
  refine sq rfl rfl hn rfl (q_move rfl rfl) ?_
  refine sq rfl rfl hn rfl (q_len rfl rfl Try.underlying22) ?_
  refine sq rfl rfl hn rfl (q_lss rfl rfl rfl) ?_
  refine sq rfl rfl hn rfl (q_move rfl rfl) ?_
  refine stepG [] (guard_some rfl rfl rfl) rfl (nb hn rfl) (fun hc => trivial) (fun hc => q_move rfl rfl) ?_
  refine stepG [] (guard_some rfl rfl rfl) rfl (nb hn rfl) (fun hc => trivial) (fun hc => q_move rfl rfl) ?_
  refine stepG [(12, _)] (guard_some rfl rfl rfl) rfl (nb hn rfl) (fun hc => ⟨⟨_, rfl, hc⟩, trivial⟩) (fun hc => q_len rfl rfl Try.underlying22) ?_
  refine stepG [(11, _), (13, _)] (guard_some rfl rfl rfl) rfl (nb hn rfl) (fun hc => ⟨⟨_, rfl, hc⟩, ⟨_, rfl, hc⟩, trivial⟩) (fun hc => q_lss rfl rfl rfl) ?_
  refine sq rfl rfl hn rfl (q_and rfl rfl rfl (by simp_all)) ?_
  refine run_nil ?_
  refine aend_then ?_
  refine awp_cond rfl (fun hb0 => ?_) (fun hb0 => ?_)
  · try simp only [decide_eq_true_eq, decide_eq_false_iff_not, Bool.and_eq_true, Bool.or_eq_true, Bool.and_eq_false_iff, Bool.or_eq_false_iff, Bool.not_eq_true', Bool.not_eq_false', beq_iff_eq, bne_iff_ne, ne_eq, beq_eq_false_iff_ne, bne_eq_false_iff_eq, Int.not_lt, Int.not_le] at hb0
    have hlt : i < a.length := by simp only [List.length_map] at hb0; omega
    have hlt2 : i < b.length := by simp only [List.length_map] at hb0; omega
    obtain ⟨x, hx⟩ := ex_get hlt
    obtain ⟨y, hy⟩ := ex_get hlt2
    rw [drop_of hx, drop_of hy] at hF; simp only [beforeB] at hF
    refine awp_skip ?_
    refine aend_then ?_
    refine awp_seq ?_
    refine awp_block ?_
    refine awp_seq ?_
    refine d_start (W := fun b => True) fmo ?_
    refine d1q (i := 0) rfl (by kernel_rfl) (fun _ _ _ _ h => h) rfl rfl hn rfl (q_move rfl rfl) ?_
    refine d1q (i := 1) rfl (by kernel_rfl) (fun _ _ _ _ h => h) rfl rfl hn rfl (q_move rfl rfl) ?_
    refine d1q (i := 2) rfl (by kernel_rfl) (fun _ _ _ _ h => h) rfl rfl hn rfl (q_index rfl rfl rfl Try.underlying22 sz3 rfl (mget hx)) ?_
    refine d1q (i := 3) rfl (by kernel_rfl) (fun _ _ _ _ h => h) rfl rfl hn rfl (q_loadp rfl rfl Try.underlying3 rfl seesFA) ?_
    refine d1q (i := 4) rfl (by kernel_rfl) (fun _ _ _ _ h => h) rfl rfl hn rfl (q_move rfl rfl) ?_
    refine d1q (i := 5) rfl (by kernel_rfl) (fun _ _ _ _ h => h) rfl rfl hn rfl (q_move rfl rfl) ?_
    refine d1q (i := 6) rfl (by kernel_rfl) (fun _ _ _ _ h => h) rfl rfl hn rfl (q_index rfl rfl rfl Try.underlying22 sz3 rfl (mget hy)) ?_
    refine d1q (i := 7) rfl (by kernel_rfl) (fun _ _ _ _ h => h) rfl rfl hn rfl (q_loadp rfl rfl Try.underlying3 rfl seesFA) ?_
    refine d1q (i := 8) rfl (by kernel_rfl) (fun _ _ _ _ h => h) rfl rfl hn rfl (q_neq rfl rfl rfl) ?_
    refine d1_of_d2 ?_
    refine d2_done (by kernel_rfl) ?_
    refine aend_then ?_
    refine awp_cond rfl (fun hb1 => ?_) (fun hb1 => ?_)
    · skip
      refine awp_seq ?_
      refine d_start (W := fun b => True) fmo ?_
      refine d1q (i := 0) rfl (by kernel_rfl) (fun _ _ _ _ h => h) rfl rfl hn rfl (q_move rfl rfl) ?_
      refine d1q (i := 1) rfl (by kernel_rfl) (fun _ _ _ _ h => h) rfl rfl hn rfl (q_move rfl rfl) ?_
      refine d1q (i := 2) rfl (by kernel_rfl) (fun _ _ _ _ h => h) rfl rfl hn rfl (q_index rfl rfl rfl Try.underlying22 sz3 rfl (mget hx)) ?_
      refine d1q (i := 3) rfl (by kernel_rfl) (fun _ _ _ _ h => h) rfl rfl hn rfl (q_loadp rfl rfl Try.underlying3 rfl seesFA) ?_
      refine d1q (i := 4) rfl (by kernel_rfl) (fun _ _ _ _ h => h) rfl rfl hn rfl (q_move rfl rfl) ?_
      refine d1q (i := 5) rfl (by kernel_rfl) (fun _ _ _ _ h => h) rfl rfl hn rfl (q_move rfl rfl) ?_
      refine d1q (i := 6) rfl (by kernel_rfl) (fun _ _ _ _ h => h) rfl rfl hn rfl (q_index rfl rfl rfl Try.underlying22 sz3 rfl (mget hy)) ?_
      refine d1q (i := 7) rfl (by kernel_rfl) (fun _ _ _ _ h => h) rfl rfl hn rfl (q_loadp rfl rfl Try.underlying3 rfl seesFA) ?_
      refine d1q (i := 8) rfl (by kernel_rfl) (fun _ _ _ _ h => h) rfl rfl hn rfl (q_lss rfl rfl rfl) ?_
      refine d1q (i := 9) rfl (by kernel_rfl) (fun _ _ _ _ h => h) rfl rfl hn rfl (q_assign rfl rfl) ?_
      refine d1_of_d2 ?_
      refine d2_done (by kernel_rfl) ?_
      refine aend_then ?_
      refine awp_ret ?_
      refine aend_block_ret ?_
      refine aend_then_ret ?_
      refine aend_then_ret ?_
      refine aend_block_ret ?_
      refine aend_then_ret ?_
      refine ret_eq (ret_1 (.inl rfl) hl rfl (.tmp rfl)) ?_
      rw [hF, hb1]; rfl
    · skip
      refine awp_skip ?_
      refine aend_block ?_
      refine aend_then ?_
      refine awp_region ?_
      refine sq rfl rfl hn rfl (q_move rfl rfl) ?_
      refine sq rfl rfl hn rfl (q_add rfl rfl rfl (r := ((i + 1 : Nat) : Int)) (i64w (by omega) (by omega))) ?_
      refine sq rfl rfl hn rfl (q_assign rfl rfl) ?_
      refine run_nil ?_
      exact aend_round_on ⟨i + 1, by omega, by omega, by rw [hF, hb1]; rfl⟩ ⟨.inl rfl, holdT_anys _⟩ trivial (by simp only; omega) (by repeat (first | exact kr _ | refine kc rfl ?_)) (by repeat (first | exact kr _ | refine kc rfl ?_))
  · try simp only [decide_eq_true_eq, decide_eq_false_iff_not, Bool.and_eq_true, Bool.or_eq_true, Bool.and_eq_false_iff, Bool.or_eq_false_iff, Bool.not_eq_true', Bool.not_eq_false', beq_iff_eq, bne_iff_ne, ne_eq, beq_eq_false_iff_ne, bne_eq_false_iff_eq, Int.not_lt, Int.not_le] at hb0
    refine awp_exit ?_
    refine aend_then_exit ?_
    refine aend_then_exit ?_
    refine aend_block_exit ?_
    refine aend_then ?_
    refine awp_seq ?_
    refine awp_region ?_
    refine sq rfl rfl hn rfl (q_move rfl rfl) ?_
    refine sq rfl rfl hn rfl (q_len rfl rfl Try.underlying22) ?_
    refine sq rfl rfl hn rfl (q_move rfl rfl) ?_
    refine sq rfl rfl hn rfl (q_len rfl rfl Try.underlying22) ?_
    refine sq rfl rfl hn rfl (q_lss rfl rfl rfl) ?_
    refine sq rfl rfl hn rfl (q_assign rfl rfl) ?_
    refine run_nil ?_
    refine aend_then ?_
    refine awp_ret ?_
    refine ret_eq (ret_1 (.inl rfl) hl rfl (.tmp rfl)) ?_
    rw [hF, before_end hi hj (by simp only [List.length_map] at hb0; omega)]; simp only [List.length_map]
theorem Same_ok (a b : List Int) : PureAt Try.prog 22 [ints a, ints b] (.bool (sameB a b)) := by
  refine PureAt.of_awp Try.func22 rfl (by kernel_rfl) (Nat.le_of_ble_eq_true rfl) fun Γ hn hl => ?_
  refine awp_seq ?_
  refine awp_region ?_
  refine sq rfl rfl hn rfl (q_assign rfl rfl) ?_
  refine run_nil ?_
  refine aend_then ?_
  refine awp_seq ?_
  refine awp_region ?_
  refine sq rfl rfl hn rfl (q_move rfl rfl) ?_
  refine sq rfl rfl hn rfl (q_len rfl rfl Try.underlying22) ?_
  refine sq rfl rfl hn rfl (q_move rfl rfl) ?_
  refine sq rfl rfl hn rfl (q_len rfl rfl Try.underlying22) ?_
  refine sq rfl rfl hn rfl (q_eql rfl rfl rfl) ?_
  refine sq rfl rfl hn rfl (q_move rfl rfl) ?_
  refine stepG [] (guard_some rfl rfl rfl) rfl (nb hn rfl) (fun hc => trivial) (fun hc => q_move rfl rfl) ?_
  refine stepG [] (guard_some rfl rfl rfl) rfl (nb hn rfl) (fun hc => trivial) (fun hc => q_move rfl rfl) ?_
  refine stepW (s_call [(11, _), (12, _)] (fun hc => Before_ok _ _) rfl (guard_some rfl rfl rfl) rfl (nb hn rfl) (fun hc => ⟨⟨_, rfl, hc⟩, ⟨_, rfl, hc⟩, trivial⟩) rfl rfl (.refl _)) fun _ => ?_
  refine stepG [(13, _)] (guard_some rfl rfl rfl) rfl (nb hn rfl) (fun hc => ⟨⟨_, rfl, hc⟩, trivial⟩) (fun hc => q_not rfl rfl) ?_
  refine sq rfl rfl hn rfl (q_and rfl rfl rfl (by simp_all)) ?_
  refine sq rfl rfl hn rfl (q_move rfl rfl) ?_
  refine stepG [] (guard_some rfl rfl rfl) rfl (nb hn rfl) (fun hc => trivial) (fun hc => q_move rfl rfl) ?_
  refine stepG [] (guard_some rfl rfl rfl) rfl (nb hn rfl) (fun hc => trivial) (fun hc => q_move rfl rfl) ?_
  refine stepW (s_call [(17, _), (18, _)] (fun hc => Before_ok _ _) rfl (guard_some rfl rfl rfl) rfl (nb hn rfl) (fun hc => ⟨⟨_, rfl, hc⟩, ⟨_, rfl, hc⟩, trivial⟩) rfl rfl (.refl _)) fun _ => ?_
  refine stepG [(19, _)] (guard_some rfl rfl rfl) rfl (nb hn rfl) (fun hc => ⟨⟨_, rfl, hc⟩, trivial⟩) (fun hc => q_not rfl rfl) ?_
  refine sq rfl rfl hn rfl (q_and rfl rfl rfl (by simp_all)) ?_
  refine sq rfl rfl hn rfl (q_assign rfl rfl) ?_
  refine run_nil ?_
  refine aend_then ?_
  refine awp_ret ?_
  refine ret_eq (ret_1 (.inl rfl) hl rfl (.tmp rfl)) ?_
  simp only [sameB, List.length_map]
end Go.Proofs.Ytnbmmopjkkofoaa
namespace Go.Proofs.Ytnbmmopjkkofoaa
open Go.RowKit
set_option maxRecDepth 20000
set_option linter.all false
def upd (l : List Int) (k : Nat) (x : Int) : List Int := l.set k (l.getD k 0 + x)
abbrev RSt := List Int × List Int
/-- An entry happens, if it can. -/
def refStep (e : Ent5) (st : RSt) : Option RSt :=
  bif (st.1.getD e.sheet.toNat 0 != e.frm) || ((e.kind == 2) && decide (st.2.getD (e.to.toNat * 4 + e.frm.toNat) 0 < 1)) then none
  else some (st.1.set e.sheet.toNat e.to, bif e.kind == 2 then upd (bif e.kind == 1 then upd st.2 (e.frm.toNat * 4 + e.to.toNat) 1 else st.2) (e.to.toNat * 4 + e.frm.toNat) (-1) else (bif e.kind == 1 then upd st.2 (e.frm.toNat * 4 + e.to.toNat) 1 else st.2))
def refDayF (day : Int) : List Ent5 → List Int → RSt → Option RSt
  | [], _, st => some st
  | e :: es, t :: ts, st => bif t != day then refDayF day es ts st else match refStep e st with
    | none => none
    | some st' => refDayF day es ts st'
  | _ :: _, [], st => some st
def splice (o : List Int) (k n : Nat) (l : List Int) : List Int := o.take k ++ l ++ o.drop (k + n)
def putDay (out : List Int) (day : Nat) (st : RSt) : List Int := splice (splice out (day * 4) 4 st.1) (40 + day * 16) 16 st.2
def refPlayF (r : Reg) (l : List Int) : Nat → Nat → List Int → RSt → List Int × Bool
  | 0, _, out, _ => (out, true)
  | m + 1, day, out, st => match refDayF day r.entries l st with
    | none => (out, false)
    | some st' => refPlayF r l m (day + 1) (putDay out day st') st'
def startA (r : Reg) (i : Nat) : List Int := r.start.take i ++ List.replicate (4 - i) 0
def refPlay (r : Reg) (l : List Int) : List Int × Bool := refPlayF r l 10 0 (List.replicate 200 0) (startA r r.start.length, List.replicate 16 0)
theorem splice_len {o l : List Int} {k n : Nat} (h : k + n ≤ o.length) (hl : l.length = n) : (splice o k n l).length = o.length := by
  simp [splice, hl]
  omega
theorem store_all {l : List Int} {cs : List TV} {n : Nat} (h : cs.length ≤ 0 + n) : cs.take 0 ++ (TV.d (.agg (l.map intD))).cells ++ cs.drop (0 + n) = l.map intT := by
  rw [List.drop_of_length_le h]
  simp [TV.cells]
theorem cells_len {l : List Int} {n : Nat} (h : l.length = n) : (TV.d (.agg (l.map intD))).cells.length = n := by simp [TV.cells, h]
theorem startA_len {r : Reg} {i : Nat} (h : i ≤ r.start.length) (h4 : r.start.length ≤ 4) : (startA r i).length = 4 := by
  simp [startA]
  omega
theorem upd_len (l : List Int) (k : Nat) (x : Int) : (upd l k x).length = l.length := by simp [upd]
def houseAt (o : List Int) (day s : Nat) : Int := o.getD (day * 4 + s) 0
def openAt (o : List Int) (day a b : Nat) : Int := o.getD (40 + day * 16 + a * 4 + b) 0
theorem putDay_len {out : List Int} {day : Nat} {st : RSt} (hd : day < 10) (ho : out.length = 200) (h1 : st.1.length = 4) (h2 : st.2.length = 16) : (putDay out day st).length = 200 := by
  unfold putDay
  rw [splice_len (by rw [splice_len (by omega) h1]; omega) h2, splice_len (by omega) h1, ho]
def sightOK (o : List Int) (s : Sight5) : Bool := houseAt o s.day.toNat s.sheet.toNat == s.house
def isTruthB (r : Reg) (l : List Int) : Bool := datedF r.entries l && ((refPlay r l).2 && r.sights.all (sightOK (refPlay r l).1))
def truthsF (r : Reg) (n : Nat) : List (List Int) := ((List.range n).map (nthL r.entries)).filter (isTruthB r)
/-- All truths. -/
def truths (r : Reg) : List (List Int) := truthsF r (manyN r.entries)
def daysOf (r : Reg) (t : List Int) : List Int := (refPlay r t).1
def allDays (r : Reg) : List (List Int) := (truths r).map (daysOf r)
theorem fill_agg {n : Nat} {ds : List D} {zs : List TV} (hz : zs.length = n) (hd : ds.length = n) : fillTV (fun i => some (i * n, n)) zs [(0, .d (.agg ds))] = some (ds.map .d) := by
  have h1 : Nat.beq n n = true := Nat.beq_refl n
  have h2 : Nat.ble n n = true := by simp
  simp only [fillTV, TV.cells, List.length_map, hd, hz, TV.flat, Nat.zero_mul, Nat.zero_add, h1, h2]
  rw [List.drop_of_length_le (by omega)]
  simp
theorem chunk_one {n : Nat} {ds : List D} (hd : ds.length = n) : chunk n 1 ds = [ds] := by
  simp only [chunk]
  rw [List.take_of_length_le (by omega)]
theorem beq_len {n : Nat} {ds : List D} (hd : ds.length = n) : Nat.beq ds.length (1 * n) = true := by rw [hd, Nat.one_mul]; exact Nat.beq_refl n
def refHolders (r : Reg) (all : List (List Int)) (s day : Nat) (h : Nat) : List Int := ((List.range h).filter fun (h : Nat) => all.any fun o => houseAt o day s == (h : Int)).map Int.ofNat
def refSurely (all : List (List Int)) (house : Int) (day n : Nat) : List Int := ((List.range n).filter fun s => all.all fun o => houseAt o day s == house).map Int.ofNat
theorem any_take {α : Type} {l : List α} {p : α → Bool} {i : Nat} {x : α} (h : l[i]? = some x) : (l.take (i + 1)).any p = ((l.take i).any p || p x) := by rw [List.take_add_one, h]; simp [List.any_append]
theorem filter_t {p : Nat → Bool} {n : Nat} (h : p n = true) : ((List.range (n + 1)).filter p).map Int.ofNat = ((List.range n).filter p).map Int.ofNat ++ [(n : Int)] := by simp [List.range_succ, List.filter_append, h]
theorem filter_f {p : Nat → Bool} {n : Nat} (h : p n = false) : ((List.range (n + 1)).filter p).map Int.ofNat = ((List.range n).filter p).map Int.ofNat := by simp [List.range_succ, List.filter_append, h]
theorem filter_len {p : Nat → Bool} {n : Nat} : (((List.range n).filter p).map Int.ofNat).length ≤ n := by
  rw [List.length_map]
  exact Nat.le_trans (List.length_filter_le _ _) (by simp)
theorem fill_nat {x : Nat} {zs : List TV} (hz : zs.length = 1) : fillTV (fun i => some (i * 1, 1)) zs [(0, .d (.int .i64 (x : Nat)))] = some [.d (.int .i64 (x : Nat))] := fill_int hz
end Go.Proofs.Ytnbmmopjkkofoaa
namespace Go.Proofs.Ytnbmmopjkkofoaa
open Go.RowKit
set_option maxRecDepth 20000
set_option linter.all false
def loanR (more : List Ent5) (sights : List Sight5) : Reg := ⟨3, [0, 1], [⟨1, 0, 0, 1, 1, 3⟩, ⟨0, 0, 1, 2, 2, 4⟩, ⟨2, 1, 1, 0, 3, 5⟩] ++ more, sights⟩
def astrayL : List Ent5 := [⟨0, 1, 2, 0, 0, 9⟩]
theorem zr35 : (Try.prog.info? 35).map (·.zero) = some (some (.agg #[(.int .i64 0), (.slice none 0 0), (.slice none 0 0), (.slice none 0 0)])) := by kernel_rfl
theorem zr45 : (Try.prog.info? 45).map (·.zero) = some (some (.agg #[(.int .i64 0), (.int .i64 0)])) := by kernel_rfl
theorem zr92 : (Try.prog.info? 92).map (·.zero) = some (some (.agg #[(.int .i64 0), (.int .i64 0), (.int .i64 0)])) := by kernel_rfl
theorem bt35 : BT Try.prog 35 (.agg #[(.int .i64 0), (.slice none 0 0), (.slice none 0 0), (.slice none 0 0)]) (fun i => ([(0, 1), (1, 1), (2, 1), (3, 1)] : List (Nat × Nat))[i]?) := bt_struct Try.underlying35 zr35 (by kernel_rfl)
theorem bt45 : BT Try.prog 45 (.agg #[(.int .i64 0), (.int .i64 0)]) (fun i => ([(0, 1), (1, 1)] : List (Nat × Nat))[i]?) := bt_struct Try.underlying45 zr45 (by kernel_rfl)
theorem bt92 : BT Try.prog 92 (.agg #[(.int .i64 0), (.int .i64 0), (.int .i64 0)]) (fun i => ([(0, 1), (1, 1), (2, 1)] : List (Nat × Nat))[i]?) := bt_struct Try.underlying92 zr92 (by kernel_rfl)
theorem bt95 : BT Try.prog 95 (.agg #[(.int .i64 0), (.int .i64 0), (.int .i64 0), (.int .i64 0), (.int .i64 0), (.int .i64 0)]) (fun i => ([(0, 1), (1, 1), (2, 1), (3, 1), (4, 2)] : List (Nat × Nat))[i]?) := bt_struct Try.underlying95 zr95 (by kernel_rfl)
theorem elt32 : ElT Try.prog 32 95 6 48 := elt_of Try.underlying32 (z := (.agg #[(.int .i64 0), (.int .i64 0), (.int .i64 0), (.int .i64 0), (.int .i64 0), (.int .i64 0)])) (by kernel_rfl) rfl (by decide)
theorem elt33 : ElT Try.prog 33 92 3 24 := elt_of Try.underlying33 (z := (.agg #[(.int .i64 0), (.int .i64 0), (.int .i64 0)])) (by kernel_rfl) rfl (by decide)
theorem astray_ok  : PureAt Try.prog 50 [] (entsD astrayL) := by
  refine PureAt.of_awp Try.func50 rfl (by kernel_rfl) (Nat.le_of_ble_eq_true rfl) fun Γ hn hl => ?_
  refine awp_seq ?_
  refine awp_region ?_
  refine sq rfl rfl hn rfl (q_assign rfl rfl) ?_
  refine run_nil ?_
  refine aend_then ?_
  refine awp_seq ?_
  refine awp_region ?_
  refine sq rfl rfl hn rfl (q_buildd rfl bt45 rfl rfl rfl rfl rfl) ?_
  refine sq rfl rfl hn rfl (q_buildd rfl bt95 rfl rfl rfl rfl rfl) ?_
  refine stepW (s_buildSlice rfl rfl rfl (nb hn rfl) Try.underlying32 sz95 zr95 rfl rfl rfl (show _ = [.d (.int .i64 0), .d (.int .i64 0), .d (.int .i64 0), .d (.int .i64 0), .d (.int .i64 0), .d (.int .i64 0)] from by kernel_rfl) (by kernel_rfl) rfl (fill_agg (by kernel_rfl) rfl) (allD_d _) (beq_len rfl) (chunk_one rfl)) fun _ => ?_
  refine sq rfl rfl hn rfl (q_assign rfl rfl) ?_
  refine run_nil ?_
  refine aend_then ?_
  refine awp_ret ?_
  exact ret_1 (.inl rfl) hl rfl (.tmp rfl)
theorem loan_ok (more : List Ent5) (sights : List Sight5) (h5 : more.length ≤ 1000) : PureAt Try.prog 49 [entsD more, sightsD sights] (regD (loanR more sights)) := by
  refine PureAt.of_awp Try.func49 rfl (by kernel_rfl) (Nat.le_of_ble_eq_true rfl) fun Γ hn hl => ?_
  refine awp_seq ?_
  refine awp_region ?_
  refine stepW (s_alloc 4 rfl rfl rfl (nb hn rfl) zr35 rfl rfl) fun b4 => ?_
  refine run_nil ?_
  refine aend_then ?_
  refine awp_seq ?_
  refine awp_region ?_
  refine sq rfl rfl hn rfl (q_buildd rfl bt45 rfl rfl rfl rfl rfl) ?_
  refine sq rfl rfl hn rfl (q_buildd rfl bt95 rfl rfl rfl rfl rfl) ?_
  refine sq rfl rfl hn rfl (q_buildd rfl bt45 rfl rfl rfl rfl rfl) ?_
  refine sq rfl rfl hn rfl (q_buildd rfl bt95 rfl rfl rfl rfl rfl) ?_
  refine sq rfl rfl hn rfl (q_buildd rfl bt45 rfl rfl rfl rfl rfl) ?_
  refine sq rfl rfl hn rfl (q_buildd rfl bt95 rfl rfl rfl rfl rfl) ?_
  refine stepW (s_buildRow 5 rfl rfl rfl (nb hn rfl) Try.underlying32 sz95 zr95 rfl rfl rfl (show _ = [.d (.int .i64 0), .d (.int .i64 0), .d (.int .i64 0), .d (.int .i64 0), .d (.int .i64 0), .d (.int .i64 0), .d (.int .i64 0), .d (.int .i64 0), .d (.int .i64 0), .d (.int .i64 0), .d (.int .i64 0), .d (.int .i64 0), .d (.int .i64 0), .d (.int .i64 0), .d (.int .i64 0), .d (.int .i64 0), .d (.int .i64 0), .d (.int .i64 0)] from by kernel_rfl) (by kernel_rfl) rfl rfl rfl rfl rfl) fun v12 => ?_
  refine sq rfl rfl hn rfl (q_assign rfl rfl) ?_
  refine run_nil ?_
  refine aend_then ?_
  refine awp_seq ?_
  refine awp_region ?_
  refine stepW (s_buildSlice rfl rfl rfl (nb hn rfl) Try.underlying22 sz3 zr3 rfl rfl rfl (show _ = [.d (.int .i64 0), .d (.int .i64 0)] from by kernel_rfl) (by kernel_rfl) rfl rfl rfl rfl rfl) fun _ => ?_
  refine sq rfl rfl hn rfl (q_move rfl rfl) ?_
  refine sq rfl rfl hn rfl (q_move rfl rfl) ?_
  refine stepW (s_append (id := 5) rfl rfl rfl (nb hn rfl) elt32 trivial rfl rfl rfl (by simp [chunk]; omega) (by simp [chunk]; omega) (fun b hb => trivial)) fun v16 => ?_
  refine sq rfl rfl hn rfl (q_move rfl rfl) ?_
  refine gh_run (g_row (t := 16) (id := 5) rfl rfl) ?_
  refine sq rfl rfl hn rfl (q_buildd rfl bt35 rfl rfl rfl rfl rfl) ?_
  refine stepW (s_store rfl rfl rfl rfl rfl rfl (id := 4) rfl sz35 rfl (Nat.le_of_ble_eq_true rfl) rfl trivial) fun _ => ?_
  refine run_nil ?_
  refine aend_then ?_
  refine awp_ret ?_
  exact ret_1 (.inl rfl) hl rfl (.cellA rfl (id := 4) rfl Try.underlying35 rfl sz35 rfl rfl)
def heldN (r : Reg) (d : Nat) (house : Int) : Nat := ((placesA r d).take r.start.length).countP fun h => h == house
theorem held_ok (r : Reg) (d : Nat) (house x : Int) (v : Valid r) (hd : d < 18446744073709551616) : PureAt Try.prog 63 [regD r, .int .u64 (d : Nat), .int .i64 house, .int .i64 x] (.int .i64 (heldN r d house : Nat)) := by
  refine PureAt.of_awp Try.func63 rfl (by kernel_rfl) (Nat.le_of_ble_eq_true rfl) fun Γ hn hl => ?_
  have hs4 := v.s4
  have hpl := placesA_len r d
  refine awp_seq ?_
  refine awp_region ?_
  refine stepW (s_box 4 rfl rfl rfl (nb hn rfl) rfl rfl) fun b4 => ?_
  refine sq rfl rfl hn rfl (q_assign rfl rfl) ?_
  refine run_nil ?_
  refine aend_then ?_
  refine awp_seq ?_
  refine awp_region ?_
  refine sq rfl rfl hn rfl (q_loadAd rfl rfl (id := 4) rfl Try.underlying35 rfl sz35 rfl rfl sees0) ?_
  refine sq rfl rfl hn rfl (q_move rfl rfl) ?_
  refine stepW (s_call [] (fun _ => places_ok r _ v (by assumption)) rfl (guard_none rfl) rfl (nb hn rfl) (fun _ => trivial) rfl rfl (.refl _)) fun _ => ?_
  refine stepW (s_alloc 9 rfl rfl rfl (nb hn rfl) zr103 rfl rfl) fun b9 => ?_
  refine stepW (s_store rfl rfl rfl rfl rfl rfl (id := 9) rfl sz103 (cells_len hpl) (Nat.le_of_ble_eq_true rfl) (store_all (by simp [Value.cells])) trivial) fun _ => ?_
  refine run_nil ?_
  refine aend_then ?_
  refine awp_seq ?_
  refine awp_seq ?_
  refine awp_region ?_
  refine sq rfl rfl hn rfl (q_fieldAddr rfl rfl Try.underlying35 rfl sz22) ?_
  refine sq rfl rfl hn rfl (q_load rfl rfl (id := 4) rfl Try.underlying22 rfl rfl sees0) ?_
  refine sq rfl rfl hn rfl (q_len rfl rfl Try.underlying22) ?_
  refine gh_run (g_freeze (t := 9) 9 rfl (nb hn rfl) rfl (allD_int _) trivial) ?_
  refine sq rfl rfl hn rfl (q_slicePh (j := r.start.length) rfl rfl rfl Try.underlying103 sz3 (beq_int4 hpl) (chunk_int4 hpl) rfl (by simp only [List.length_map]) (by omega) (by rw [← List.map_take])) ?_
  refine sq rfl rfl hn rfl (q_len rfl rfl Try.underlying22) ?_
  refine sq rfl rfl hn rfl (q_move rfl rfl) ?_
  refine run_nil ?_
  refine aend_then ?_
  refine awp_block ?_
  refine awp_loop_on (ι := { x : Nat × Nat // x.1 ≤ r.start.length ∧ x.2 = (((placesA r d).take r.start.length).take x.1).countP (fun h => h == house) ∧ x.2 ≤ x.1 }) (fun x => (20, true, .d (.int .i64 (x.1.1 : Nat))) :: (8, true, .d (.int .i64 (x.1.2 : Nat))) :: anys [21, 22, 23, 11, 24, 25, 26, 27, 28, 29]) (fun x => []) (fun x => r.start.length - x.1.1) ⟨(0, 0), by simp⟩ ⟨.inl rfl, .inl rfl, holdT_anys _⟩ trivial ?_
  rintro ⟨⟨i, n⟩, hi, hn5, hle⟩
  dsimp only
  dsimp only at hi hn5 hle
  refine awp_seq ?_
  refine awp_region ?_
  refine sq rfl rfl hn rfl (q_lss rfl rfl rfl) ?_
  refine run_nil ?_
  refine aend_then ?_
  refine awp_seq ?_
  refine awp_cond rfl (fun hb0 => ?_) (fun hb0 => ?_)
  · try simp only [decide_eq_true_eq, decide_eq_false_iff_not, Bool.and_eq_true, Bool.or_eq_true, Bool.and_eq_false_iff, Bool.or_eq_false_iff, Bool.not_eq_true', Bool.not_eq_false', beq_iff_eq, bne_iff_ne, ne_eq, beq_eq_false_iff_ne, bne_eq_false_iff_eq, Int.not_lt, Int.not_le] at hb0
    have hlt : i < r.start.length := by simp only [List.length_map, List.length_take] at hb0; omega
    obtain ⟨p, hp⟩ := ex_get (l := (placesA r d).take r.start.length) (i := i) (by rw [List.length_take]; omega)
    refine awp_skip ?_
    refine aend_then ?_
    refine awp_seq ?_
    refine awp_block ?_
    refine awp_seq ?_
    refine awp_region ?_
    refine sq rfl rfl hn rfl (q_index rfl rfl rfl Try.underlying22 sz3 rfl (mget hp)) ?_
    refine sq rfl rfl hn rfl (q_loadp rfl rfl Try.underlying3 rfl seesF0) ?_
    refine sq rfl rfl hn rfl (q_assign rfl rfl) ?_
    refine run_nil ?_
    refine aend_then ?_
    refine awp_seq ?_
    refine awp_region ?_
    refine sq rfl rfl hn rfl (q_move rfl rfl) ?_
    refine sq rfl rfl hn rfl (q_move rfl rfl) ?_
    refine sq rfl rfl hn rfl (q_eql rfl rfl rfl) ?_
    refine run_nil ?_
    refine aend_then ?_
    refine awp_cond rfl (fun hb1 => ?_) (fun hb1 => ?_)
    · skip
      refine awp_region ?_
      refine sq rfl rfl hn rfl (q_move rfl rfl) ?_
      refine sq rfl rfl hn rfl (q_add rfl rfl rfl (r := ((n + 1 : Nat) : Int)) (i64w (by omega) (by omega))) ?_
      refine sq rfl rfl hn rfl (q_assign rfl rfl) ?_
      refine run_nil ?_
      refine aend_block ?_
      refine aend_then ?_
      refine awp_region ?_
      refine sq rfl rfl hn rfl (q_add rfl rfl rfl (r := ((i + 1 : Nat) : Int)) (i64w (by omega) (by omega))) ?_
      refine sq rfl rfl hn rfl (q_move rfl rfl) ?_
      refine run_nil ?_
      exact aend_round_on ⟨(i + 1, n + 1), by simp only; omega, by simp only [List.take_add_one, hp, List.countP_append, hn5]; simp [hb1], by simp only; omega⟩ ⟨.inl rfl, .inl rfl, holdT_anys _⟩ trivial (by simp only; omega) (by repeat (first | exact kr _ | refine kc rfl ?_)) (by repeat (first | exact kr _ | refine kc rfl ?_))
    · skip
      refine awp_skip ?_
      refine aend_block ?_
      refine aend_then ?_
      refine awp_region ?_
      refine sq rfl rfl hn rfl (q_add rfl rfl rfl (r := ((i + 1 : Nat) : Int)) (i64w (by omega) (by omega))) ?_
      refine sq rfl rfl hn rfl (q_move rfl rfl) ?_
      refine run_nil ?_
      exact aend_round_on ⟨(i + 1, n), by simp only; omega, by simp only [List.take_add_one, hp, List.countP_append, hn5]; simp [hb1], by simp only; omega⟩ ⟨.inl rfl, .inl rfl, holdT_anys _⟩ trivial (by simp only; omega) (by repeat (first | exact kr _ | refine kc rfl ?_)) (by repeat (first | exact kr _ | refine kc rfl ?_))
  · try simp only [decide_eq_true_eq, decide_eq_false_iff_not, Bool.and_eq_true, Bool.or_eq_true, Bool.and_eq_false_iff, Bool.or_eq_false_iff, Bool.not_eq_true', Bool.not_eq_false', beq_iff_eq, bne_iff_ne, ne_eq, beq_eq_false_iff_ne, bne_eq_false_iff_eq, Int.not_lt, Int.not_le] at hb0
    refine awp_exit ?_
    refine aend_then_exit ?_
    refine aend_then_exit ?_
    refine aend_block_exit ?_
    refine aend_then ?_
    refine awp_seq ?_
    refine awp_region ?_
    refine sq rfl rfl hn rfl (q_move rfl rfl) ?_
    refine sq rfl rfl hn rfl (q_assign rfl rfl) ?_
    refine run_nil ?_
    refine aend_then ?_
    refine awp_ret ?_
    refine ret_eq (ret_1 (.inl rfl) hl rfl (.tmp rfl)) ?_
    have hie : i = r.start.length := by simp only [List.length_map, List.length_take] at hb0; omega
    subst hie; rw [hn5, List.take_take, Nat.min_self]; rfl
def minL (x : Int) (l : List Int) : Int := l.foldl min x
theorem minL_take {x y : Int} {l : List Int} {i : Nat} (h : l[i]? = some y) : min (minL x (l.take i)) y = minL x (l.take (i + 1)) := by simp [minL, List.take_add_one, h, List.foldl_append]
theorem Min_ok (x : Int) (l : List Int) : PureAt Try.prog 115 [ints (x :: l)] (.int .i64 (minL x l)) := by
  refine PureAt.of_awp' Try.func115 rfl (by kernel_rfl) rfl fun hlen Γ hn hl => ?_
  have hl5 := hlen.1; simp only [List.length_map, List.length_cons] at hl5
  refine awp_seq ?_
  refine awp_region ?_
  refine sq rfl rfl hn rfl (q_assign rfl rfl) ?_
  refine run_nil ?_
  refine aend_then ?_
  refine awp_seq ?_
  refine awp_seq ?_
  refine awp_region ?_
  refine sq rfl rfl hn rfl (q_move rfl rfl) ?_
  refine sq rfl rfl hn rfl (q_len rfl rfl Try.underlying22) ?_
  refine sq rfl rfl hn rfl (q_lss rfl rfl rfl) ?_
  refine run_nil ?_
  refine aend_then ?_
  refine awp_cond rfl (fun hb0 => ?_) (fun hb0 => ?_)
  · skip
    exfalso; simp at hb0; omega
  · try simp only [decide_eq_true_eq, decide_eq_false_iff_not, Bool.and_eq_true, Bool.or_eq_true, Bool.and_eq_false_iff, Bool.or_eq_false_iff, Bool.not_eq_true', Bool.not_eq_false', beq_iff_eq, bne_iff_ne, ne_eq, beq_eq_false_iff_ne, bne_eq_false_iff_eq, Int.not_lt, Int.not_le] at hb0
    refine awp_skip ?_
    refine aend_then ?_
    refine awp_seq ?_
    refine awp_region ?_
    refine sq rfl rfl hn rfl (q_move rfl rfl) ?_
    refine sq rfl rfl hn rfl (q_index (i := 0) rfl rfl rfl Try.underlying22 sz3 rfl rfl) ?_
    refine sq rfl rfl hn rfl (q_loadp rfl rfl Try.underlying3 rfl seesF0) ?_
    refine sq rfl rfl hn rfl (q_assign rfl rfl) ?_
    refine run_nil ?_
    refine aend_then ?_
    refine awp_seq ?_
    refine awp_seq ?_
    refine awp_region ?_
    refine sq rfl rfl hn rfl (q_assign rfl rfl) ?_
    refine run_nil ?_
    refine aend_then ?_
    refine awp_block ?_
    refine awp_loop_on (ι := { i : Nat // i ≤ l.length }) (fun y => (4, true, .d (.int .i64 ((y.1 + 1 : Nat) : Int))) :: (3, true, .d (.int .i64 (minL x (l.take y.1)))) :: anys [12, 13, 14, 15, 18, 19, 20, 21, 22, 23, 16, 17]) (fun y => []) (fun y => l.length - y.1) ⟨0, by simp⟩ ⟨.inl rfl, .inl rfl, holdT_anys _⟩ trivial ?_
    rintro ⟨i, hi⟩
    dsimp only
    refine awp_seq ?_
    refine awp_seq ?_
    refine awp_region ?_
    refine sq rfl rfl hn rfl (q_move rfl rfl) ?_
    refine sq rfl rfl hn rfl (q_move rfl rfl) ?_
    refine sq rfl rfl hn rfl (q_len rfl rfl Try.underlying22) ?_
    refine sq rfl rfl hn rfl (q_lss rfl rfl rfl) ?_
    refine run_nil ?_
    refine aend_then ?_
    refine awp_cond rfl (fun hb1 => ?_) (fun hb1 => ?_)
    · try simp only [decide_eq_true_eq, decide_eq_false_iff_not, Bool.and_eq_true, Bool.or_eq_true, Bool.and_eq_false_iff, Bool.or_eq_false_iff, Bool.not_eq_true', Bool.not_eq_false', beq_iff_eq, bne_iff_ne, ne_eq, beq_eq_false_iff_ne, bne_eq_false_iff_eq, Int.not_lt, Int.not_le] at hb1
      have hlt : i < l.length := by simp at hb1; omega
      obtain ⟨y, hy⟩ := ex_get hlt
      refine awp_skip ?_
      refine aend_then ?_
      refine awp_seq ?_
      refine awp_block ?_
      refine awp_region ?_
      refine sq rfl rfl hn rfl (q_move rfl rfl) ?_
      refine sq rfl rfl hn rfl (q_move rfl rfl) ?_
      refine sq rfl rfl hn rfl (q_move rfl rfl) ?_
      refine sq rfl rfl hn rfl (q_index (i := (i + 1)) rfl rfl rfl Try.underlying22 sz3 rfl (show ((x :: l).map intE)[i + 1]? = some (intE y) from mget (by simpa using hy))) ?_
      refine sq rfl rfl hn rfl (q_loadp rfl rfl Try.underlying3 rfl seesF0) ?_
      refine sq rfl rfl hn rfl (q_min rfl rfl rfl) ?_
      refine sq rfl rfl hn rfl (q_assign rfl rfl) ?_
      refine run_nil ?_
      refine aend_block ?_
      refine aend_then ?_
      refine awp_region ?_
      refine sq rfl rfl hn rfl (q_move rfl rfl) ?_
      refine sq rfl rfl hn rfl (q_add rfl rfl rfl (r := ((i + 1 + 1 : Nat) : Int)) (i64w (by omega) (by omega))) ?_
      refine sq rfl rfl hn rfl (q_assign rfl rfl) ?_
      refine run_nil ?_
      exact aend_round_on ⟨i + 1, by omega⟩ ⟨.inl rfl, .inl (congrArg (fun z => some (true, TV.d (.int .i64 z))) (minL_take hy)), holdT_anys _⟩ trivial (by simp only; omega) (by repeat (first | exact kr _ | refine kc rfl ?_)) (by repeat (first | exact kr _ | refine kc rfl ?_))
    · try simp only [decide_eq_true_eq, decide_eq_false_iff_not, Bool.and_eq_true, Bool.or_eq_true, Bool.and_eq_false_iff, Bool.or_eq_false_iff, Bool.not_eq_true', Bool.not_eq_false', beq_iff_eq, bne_iff_ne, ne_eq, beq_eq_false_iff_ne, bne_eq_false_iff_eq, Int.not_lt, Int.not_le] at hb1
      refine awp_exit ?_
      refine aend_then_exit ?_
      refine aend_then_exit ?_
      refine aend_block_exit ?_
      refine aend_then ?_
      refine awp_seq ?_
      refine awp_region ?_
      refine sq rfl rfl hn rfl (q_move rfl rfl) ?_
      refine sq rfl rfl hn rfl (q_assign rfl rfl) ?_
      refine run_nil ?_
      refine aend_then ?_
      refine awp_ret ?_
      refine ret_eq (ret_1 (.inl rfl) hl rfl (.tmp rfl)) ?_
      have hie : i = l.length := by simp at hb1; omega
      subst hie; rw [List.take_length]
theorem minimum_ok (x : Int) (l : List Int) : PureAt Try.prog 91 [ints (x :: l)] (.int .i64 (minL x l)) := by
  refine PureAt.of_awp Try.func91 rfl (by kernel_rfl) (Nat.le_of_ble_eq_true rfl) fun Γ hn hl => ?_
  refine awp_seq ?_
  refine awp_region ?_
  refine sq rfl rfl hn rfl (q_assign rfl rfl) ?_
  refine run_nil ?_
  refine aend_then ?_
  refine awp_seq ?_
  refine awp_region ?_
  refine sq rfl rfl hn rfl (q_move rfl rfl) ?_
  refine stepW (s_call [] (fun _ => Min_ok x l) rfl (guard_none rfl) rfl (nb hn rfl) (fun _ => trivial) rfl rfl (.refl _)) fun _ => ?_
  refine sq rfl rfl hn rfl (q_assign rfl rfl) ?_
  refine run_nil ?_
  refine aend_then ?_
  refine awp_ret ?_
  exact ret_1 (.inl rfl) hl rfl (.tmp rfl)
def rangeF (l : List Int) : Int × Int := l.foldl (fun p n => (min p.1 n, max p.2 n)) (9, 0)
def countAt (o : List Int) (day n : Nat) (house : Int) : Nat := (List.range n).countP fun s => houseAt o day s == house
def refInHand (r : Reg) (all : List (List Int)) (house : Int) (day : Nat) : Int × Int := rangeF (all.map fun o => (countAt o day r.start.length house : Int))
def refOwed (all : List (List Int)) (a b day : Nat) : Int × Int := rangeF (all.map fun o => openAt o day a b)
section
variable {r : Reg} {b i : Nat}
end
end Go.Proofs.Ytnbmmopjkkofoaa
namespace Go.Proofs.Ytnbmmopjkkofoaa
open Go.RowKit
set_option maxRecDepth 20000
set_option linter.all false
/-- Those whose number is not in a list, from a number on. -/
def dropF {α : Type} (out : List Int) : Nat → List α → List α
  | _, [] => []
  | k, x :: xs => bif out.any (fun n => (k : Int) == n) then dropF out (k + 1) xs else x :: dropF out (k + 1) xs
def dropR (r : Reg) (out : List Int) : Reg := ⟨r.houses, r.start, dropF out 0 r.entries, dropF out r.entries.length r.sights⟩
theorem dropF_len {α : Type} {out : List Int} : ∀ {k : Nat} {l : List α}, (dropF out k l).length ≤ l.length
  | _, [] => Nat.le_refl _
  | k, x :: xs => by
    simp only [dropF]
    cases out.any (fun n => (k : Int) == n)
    · simpa using dropF_len
    · exact Nat.le_succ_of_le dropF_len
theorem dropF_append {α : Type} {out : List Int} {x : α} : ∀ {k : Nat} {l : List α}, dropF out k (l ++ [x]) = dropF out k l ++ (bif out.any (fun n => ((k + l.length : Nat) : Int) == n) then [] else [x])
  | k, [] => by simp only [List.nil_append, dropF, List.length_nil, Nat.add_zero]
  | k, y :: l => by
    simp only [List.cons_append, dropF, dropF_append (k := k + 1) (l := l), List.length_cons, show k + 1 + l.length = k + (l.length + 1) by omega]
    cases out.any (fun n => (k : Int) == n) <;> rfl
theorem dropF_take {α : Type} {out : List Int} {k i : Nat} {l : List α} {x : α} (h : l[i]? = some x) : dropF out k (l.take (i + 1)) = dropF out k (l.take i) ++ (bif out.any (fun n => ((k + i : Nat) : Int) == n) then [] else [x]) := by
  have hlt := (List.getElem?_eq_some_iff.1 h).1
  rw [List.take_add_one, h]
  simp only [Option.toList_some]
  rw [dropF_append, List.length_take, Nat.min_eq_left (by omega)]
theorem sz109 : Sz Try.prog 109 1 := (by kernel_rfl : (Try.prog.info? 109).map (·.size) = some 1)
theorem Contains_ok (l : List Int) (n : Int) : PureAt Try.prog 94 [ints l, .int .i64 n] (.bool (l.any fun x => n == x)) := by
  refine PureAt.of_awp Try.func94 rfl (by kernel_rfl) (Nat.le_of_ble_eq_true rfl) fun Γ hn hl => ?_
  refine awp_seq ?_
  refine awp_region ?_
  refine sq rfl rfl hn rfl (q_assign rfl rfl) ?_
  refine run_nil ?_
  refine aend_then ?_
  refine awp_seq ?_
  refine awp_region ?_
  refine sq rfl rfl hn rfl (q_move rfl rfl) ?_
  refine sq rfl rfl hn rfl (q_move rfl rfl) ?_
  refine stepW (s_call [] (fun _ => Index_ok _ _) rfl (guard_none rfl) rfl (nb hn rfl) (fun _ => trivial) rfl rfl (.refl _)) fun _ => ?_
  refine sq rfl rfl hn rfl (q_geq rfl rfl rfl) ?_
  refine sq rfl rfl hn rfl (q_assign rfl rfl) ?_
  refine run_nil ?_
  refine aend_then ?_
  refine awp_ret ?_
  refine ret_eq (ret_1 (.inl rfl) hl rfl (.tmp rfl)) ?_
  rw [idxOf_nonneg]
theorem dr_f {α : Type} {out : List Int} {k i : Nat} {l : List α} {x : α} {f : α → List D} (h : l[i]? = some x) (hb : (out.any fun n => ((k + i : Nat) : Int) == n) = false) : (dropF out k (l.take i)).map f ++ [f x] = (dropF out k (l.take (i + 1))).map f := by
  rw [dropF_take h, hb]; simp
theorem dr_t {α : Type} {out : List Int} {k i : Nat} {l : List α} {x : α} {f : α → List D} (h : l[i]? = some x) (hb : (out.any fun n => ((k + i : Nat) : Int) == n) = true) : (dropF out k (l.take i)).map f = (dropF out k (l.take (i + 1))).map f := by
  rw [dropF_take h, hb]; simp
theorem without_ok (r : Reg) (out : List Int) (h2 : r.entries.length ≤ 20) (h3 : r.sights.length ≤ 20) : PureAt Try.prog 72 [regD r, ints out] (regD (dropR r out)) := by
  refine PureAt.of_awp Try.func72 rfl (by kernel_rfl) (Nat.le_of_ble_eq_true rfl) fun Γ hn hl => ?_
  refine awp_seq ?_
  refine awp_region ?_
  refine stepW (s_box 2 rfl rfl rfl (nb hn rfl) rfl rfl) fun b2 => ?_
  refine stepW (s_alloc 4 rfl rfl rfl (nb hn rfl) zr35 rfl rfl) fun b4 => ?_
  refine run_nil ?_
  refine aend_then ?_
  refine awp_seq ?_
  refine awp_region ?_
  refine sq rfl rfl hn rfl (q_fieldAddr rfl rfl Try.underlying35 rfl sz3) ?_
  refine sq rfl rfl hn rfl (q_load rfl rfl (id := 2) rfl Try.underlying3 rfl rfl sees0) ?_
  refine sq rfl rfl hn rfl (q_fieldAddr rfl rfl Try.underlying35 rfl sz22) ?_
  refine sq rfl rfl hn rfl (q_load rfl rfl (id := 2) rfl Try.underlying22 rfl rfl sees0) ?_
  refine sq rfl rfl hn rfl (q_buildd rfl bt35 rfl rfl rfl rfl rfl) ?_
  refine stepW (s_alloc 5 rfl rfl rfl (nb hn rfl) zr35 rfl rfl) fun b5 => ?_
  refine stepW (s_store rfl rfl rfl rfl rfl rfl (id := 5) rfl sz35 rfl (Nat.le_of_ble_eq_true rfl) rfl trivial) fun _ => ?_
  refine run_nil ?_
  refine aend_then ?_
  refine awp_seq ?_
  refine awp_seq ?_
  refine gh_awp (gh_nilcell (id := 5) (k := 2) 502 95 6 rfl rfl) ?_
  refine gh_awp (gh_nilcell (id := 5) (k := 3) 503 92 3 rfl rfl) ?_
  refine awp_region ?_
  refine sq rfl rfl hn rfl (q_fieldAddr rfl rfl Try.underlying35 rfl sz32) ?_
  refine sq rfl rfl hn rfl (q_load rfl rfl (id := 2) rfl Try.underlying32 rfl rfl sees0) ?_
  refine sq rfl rfl hn rfl (q_len rfl rfl Try.underlying32) ?_
  refine sq rfl rfl hn rfl (q_move rfl rfl) ?_
  refine run_nil ?_
  refine aend_then ?_
  refine awp_block ?_
  refine awp_loop_on (ι := { x : Nat × Value // x.1 ≤ r.entries.length }) (fun x => (18, true, .d (.int .i64 (x.1.1 : Nat))) :: anys [19, 20, 21, 22, 7, 6, 23, 24, 25, 26, 27, 28, 29, 30, 31, 32, 33]) (fun x => (5, .box b5 35 [.d (.int .i64 r.houses), .d (ints r.start), .val x.1.2, .val (.slice none 0 0)]) :: (502, .row x.1.2 95 6 ((dropF out 0 (r.entries.take x.1.1)).map entE)) :: gones [7]) (fun x => r.entries.length - x.1.1) ⟨(0, .slice none 0 0), by simp⟩ ⟨.inl rfl, holdT_anys _⟩ ⟨.inl rfl, .inl rfl, holdR_gones _⟩ ?_
  rintro ⟨⟨i, vv⟩, hi⟩
  dsimp only
  dsimp only at hi
  have hkl := dropF_len (out := out) (k := 0) (l := r.entries.take i)
  rw [List.length_take] at hkl
  refine awp_seq ?_
  refine awp_region ?_
  refine sq rfl rfl hn rfl (q_lss rfl rfl rfl) ?_
  refine run_nil ?_
  refine aend_then ?_
  refine awp_seq ?_
  refine awp_cond rfl (fun hb0 => ?_) (fun hb0 => ?_)
  · try simp only [decide_eq_true_eq, decide_eq_false_iff_not, Bool.and_eq_true, Bool.or_eq_true, Bool.and_eq_false_iff, Bool.or_eq_false_iff, Bool.not_eq_true', Bool.not_eq_false', beq_iff_eq, bne_iff_ne, ne_eq, beq_eq_false_iff_ne, bne_eq_false_iff_eq, Int.not_lt, Int.not_le] at hb0
    have hlt : i < r.entries.length := by simpa using hb0
    obtain ⟨x, hx⟩ := ex_get hlt
    refine awp_skip ?_
    refine aend_then ?_
    refine awp_seq ?_
    refine awp_block ?_
    refine awp_seq ?_
    refine awp_region ?_
    refine sq rfl rfl hn rfl (q_move rfl rfl) ?_
    refine sq rfl rfl hn rfl (q_index rfl rfl rfl Try.underlying32 sz95 rfl (mget hx)) ?_
    refine sq rfl rfl hn rfl (q_loadpA rfl rfl Try.underlying95 rfl sz95 rfl rfl seesF0) ?_
    refine stepW (s_alloc 7 rfl rfl rfl (nb hn rfl) zr95 rfl rfl) fun b7 => ?_
    refine sq rfl rfl hn rfl (q_assign rfl rfl) ?_
    refine stepW (s_store rfl rfl rfl rfl rfl rfl (id := 7) rfl sz95 rfl (Nat.le_of_ble_eq_true rfl) rfl trivial) fun _ => ?_
    refine run_nil ?_
    refine aend_then ?_
    refine awp_seq ?_
    refine awp_region ?_
    refine sq rfl rfl hn rfl (q_move rfl rfl) ?_
    refine sq rfl rfl hn rfl (q_move rfl rfl) ?_
    refine stepW (s_call [] (fun _ => Contains_ok out (i : Int)) rfl (guard_none rfl) rfl (nb hn rfl) (fun _ => trivial) rfl rfl (.refl _)) fun _ => ?_
    refine sq rfl rfl hn rfl (q_not rfl rfl) ?_
    refine run_nil ?_
    refine aend_then ?_
    refine awp_cond rfl (fun hb1 => ?_) (fun hb1 => ?_)
    · skip
      refine awp_region ?_
      refine sq rfl rfl hn rfl (q_fieldAddr rfl rfl Try.underlying35 rfl sz32) ?_
      refine sq rfl rfl hn rfl (q_load rfl rfl (id := 5) rfl Try.underlying32 rfl rfl sees0) ?_
      refine sq rfl rfl hn rfl (q_loadAd rfl rfl (id := 7) rfl Try.underlying95 rfl sz95 rfl rfl sees0) ?_
      refine stepW (s_buildSlice rfl rfl rfl (nb hn rfl) Try.underlying32 sz95 zr95 rfl rfl rfl (show _ = [.d (.int .i64 0), .d (.int .i64 0), .d (.int .i64 0), .d (.int .i64 0), .d (.int .i64 0), .d (.int .i64 0)] from by kernel_rfl) (by kernel_rfl) rfl (fill_agg rfl rfl) (allD_d _) (beq_len rfl) (chunk_one rfl)) fun _ => ?_
      refine stepW (s_append (id := 502) rfl rfl rfl (nb hn rfl) elt32 trivial rfl rfl rfl (by simp; omega) (by simp; omega) (fun b hb => trivial)) fun v31 => ?_
      refine sq rfl rfl hn rfl (q_fieldAddr rfl rfl Try.underlying35 rfl sz32) ?_
      refine stepW (s_storeRow rfl rfl rfl rfl rfl (rid := 502) rfl (id := 5) rfl sz32 (Nat.le_of_ble_eq_true rfl) rfl trivial) fun _ => ?_
      refine run_nil ?_
      refine aend_block ?_
      refine aend_then ?_
      refine awp_region ?_
      refine sq rfl rfl hn rfl (q_add rfl rfl rfl (r := ((i + 1 : Nat) : Int)) (i64w (by omega) (by omega))) ?_
      refine sq rfl rfl hn rfl (q_move rfl rfl) ?_
      refine run_nil ?_
      exact aend_round_on ⟨(i + 1, v31), by simp only; omega⟩ ⟨.inl rfl, holdT_anys _⟩ ⟨.inl rfl, .inl (congrArg (fun z => some (Res.row v31 95 6 z)) (dr_f (f := entE) hx (by rw [Nat.zero_add]; exact notT hb1))), holdR_gones _⟩ (by simp only; omega) (by repeat (first | exact kr _ | refine kc rfl ?_)) (by repeat (first | exact kr _ | refine kc rfl ?_))
    · skip
      refine awp_skip ?_
      refine aend_block ?_
      refine aend_then ?_
      refine awp_region ?_
      refine sq rfl rfl hn rfl (q_add rfl rfl rfl (r := ((i + 1 : Nat) : Int)) (i64w (by omega) (by omega))) ?_
      refine sq rfl rfl hn rfl (q_move rfl rfl) ?_
      refine run_nil ?_
      exact aend_round_on ⟨(i + 1, vv), by simp only; omega⟩ ⟨.inl rfl, holdT_anys _⟩ ⟨.inl rfl, .inl (congrArg (fun z => some (Res.row vv 95 6 z)) (dr_t (f := entE) hx (by rw [Nat.zero_add]; exact notF hb1))), holdR_gones _⟩ (by simp only; omega) (by repeat (first | exact kr _ | refine kc rfl ?_)) (by repeat (first | exact kr _ | refine kc rfl ?_))
  · try simp only [decide_eq_true_eq, decide_eq_false_iff_not, Bool.and_eq_true, Bool.or_eq_true, Bool.and_eq_false_iff, Bool.or_eq_false_iff, Bool.not_eq_true', Bool.not_eq_false', beq_iff_eq, bne_iff_ne, ne_eq, beq_eq_false_iff_ne, bne_eq_false_iff_eq, Int.not_lt, Int.not_le] at hb0
    have hie : i = r.entries.length := by simp only [List.length_map] at hb0; omega
    subst hie; rw [List.take_length]
    refine awp_exit ?_
    refine aend_then_exit ?_
    refine aend_then_exit ?_
    refine aend_block_exit ?_
    refine aend_then ?_
    refine awp_seq ?_
    refine awp_seq ?_
    refine awp_region ?_
    refine sq rfl rfl hn rfl (q_fieldAddr rfl rfl Try.underlying35 rfl sz33) ?_
    refine sq rfl rfl hn rfl (q_load rfl rfl (id := 2) rfl Try.underlying33 rfl rfl sees0) ?_
    refine sq rfl rfl hn rfl (q_len rfl rfl Try.underlying33) ?_
    refine sq rfl rfl hn rfl (q_move rfl rfl) ?_
    refine run_nil ?_
    refine aend_then ?_
    refine awp_block ?_
    refine awp_loop_on (ι := { x : Nat × Value // x.1 ≤ r.sights.length }) (fun x => (37, true, .d (.int .i64 (x.1.1 : Nat))) :: anys [38, 39, 40, 41, 9, 8, 42, 43, 44, 45, 46, 47, 48, 49, 50, 51, 52, 53, 54, 55, 56]) (fun x => (5, .box b5 35 [.d (.int .i64 r.houses), .d (ints r.start), .val vv, .val x.1.2]) :: (503, .row x.1.2 92 3 ((dropF out r.entries.length (r.sights.take x.1.1)).map sightE)) :: gones [9]) (fun x => r.sights.length - x.1.1) ⟨(0, .slice none 0 0), by simp⟩ ⟨.inl rfl, holdT_anys _⟩ ⟨.inl rfl, .inl rfl, holdR_gones _⟩ ?_
    rintro ⟨⟨j, vw⟩, hj⟩
    dsimp only
    dsimp only at hj
    have hkl := dropF_len (out := out) (k := r.entries.length) (l := r.sights.take j)
    rw [List.length_take] at hkl
    refine awp_seq ?_
    refine awp_region ?_
    refine sq rfl rfl hn rfl (q_lss rfl rfl rfl) ?_
    refine run_nil ?_
    refine aend_then ?_
    refine awp_seq ?_
    refine awp_cond rfl (fun hb2 => ?_) (fun hb2 => ?_)
    · try simp only [decide_eq_true_eq, decide_eq_false_iff_not, Bool.and_eq_true, Bool.or_eq_true, Bool.and_eq_false_iff, Bool.or_eq_false_iff, Bool.not_eq_true', Bool.not_eq_false', beq_iff_eq, bne_iff_ne, ne_eq, beq_eq_false_iff_ne, bne_eq_false_iff_eq, Int.not_lt, Int.not_le] at hb2
      have hlt : j < r.sights.length := by simpa using hb2
      obtain ⟨x, hx⟩ := ex_get hlt
      refine awp_skip ?_
      refine aend_then ?_
      refine awp_seq ?_
      refine awp_block ?_
      refine awp_seq ?_
      refine awp_region ?_
      refine sq rfl rfl hn rfl (q_move rfl rfl) ?_
      refine sq rfl rfl hn rfl (q_index rfl rfl rfl Try.underlying33 sz92 rfl (mget hx)) ?_
      refine sq rfl rfl hn rfl (q_loadpA rfl rfl Try.underlying92 rfl sz92 rfl rfl seesF0) ?_
      refine stepW (s_alloc 9 rfl rfl rfl (nb hn rfl) zr92 rfl rfl) fun b9 => ?_
      refine sq rfl rfl hn rfl (q_assign rfl rfl) ?_
      refine stepW (s_store rfl rfl rfl rfl rfl rfl (id := 9) rfl sz92 rfl (Nat.le_of_ble_eq_true rfl) rfl trivial) fun _ => ?_
      refine run_nil ?_
      refine aend_then ?_
      refine awp_seq ?_
      refine awp_region ?_
      refine sq rfl rfl hn rfl (q_move rfl rfl) ?_
      refine sq rfl rfl hn rfl (q_fieldAddr rfl rfl Try.underlying35 rfl sz32) ?_
      refine sq rfl rfl hn rfl (q_load rfl rfl (id := 2) rfl Try.underlying32 rfl rfl sees0) ?_
      refine sq rfl rfl hn rfl (q_len rfl rfl Try.underlying32) ?_
      refine sq rfl rfl hn rfl (q_move rfl rfl) ?_
      refine sq rfl rfl hn rfl (q_add rfl rfl rfl (r := ((r.entries.length + j : Nat) : Int)) (i64w (by simp only [List.length_map]; omega) (by simp only [List.length_map]; omega))) ?_
      refine stepW (s_call [] (fun _ => Contains_ok out ((r.entries.length + j : Nat) : Int)) rfl (guard_none rfl) rfl (nb hn rfl) (fun _ => trivial) rfl rfl (.refl _)) fun _ => ?_
      refine sq rfl rfl hn rfl (q_not rfl rfl) ?_
      refine run_nil ?_
      refine aend_then ?_
      refine awp_cond rfl (fun hb3 => ?_) (fun hb3 => ?_)
      · skip
        refine awp_region ?_
        refine sq rfl rfl hn rfl (q_fieldAddr rfl rfl Try.underlying35 rfl sz33) ?_
        refine sq rfl rfl hn rfl (q_load rfl rfl (id := 5) rfl Try.underlying33 rfl rfl sees0) ?_
        refine sq rfl rfl hn rfl (q_loadAd rfl rfl (id := 9) rfl Try.underlying92 rfl sz92 rfl rfl sees0) ?_
        refine stepW (s_buildSlice rfl rfl rfl (nb hn rfl) Try.underlying33 sz92 zr92 rfl rfl rfl (show _ = [.d (.int .i64 0), .d (.int .i64 0), .d (.int .i64 0)] from by kernel_rfl) (by kernel_rfl) rfl (fill_agg rfl rfl) (allD_d _) (beq_len rfl) (chunk_one rfl)) fun _ => ?_
        refine stepW (s_append (id := 503) rfl rfl rfl (nb hn rfl) elt33 trivial rfl rfl rfl (by simp; omega) (by simp; omega) (fun b hb => trivial)) fun v54 => ?_
        refine sq rfl rfl hn rfl (q_fieldAddr rfl rfl Try.underlying35 rfl sz33) ?_
        refine stepW (s_storeRow rfl rfl rfl rfl rfl (rid := 503) rfl (id := 5) rfl sz33 (Nat.le_of_ble_eq_true rfl) rfl trivial) fun _ => ?_
        refine run_nil ?_
        refine aend_block ?_
        refine aend_then ?_
        refine awp_region ?_
        refine sq rfl rfl hn rfl (q_add rfl rfl rfl (r := ((j + 1 : Nat) : Int)) (i64w (by omega) (by omega))) ?_
        refine sq rfl rfl hn rfl (q_move rfl rfl) ?_
        refine run_nil ?_
        exact aend_round_on ⟨(j + 1, v54), by simp only; omega⟩ ⟨.inl rfl, holdT_anys _⟩ ⟨.inl rfl, .inl (congrArg (fun z => some (Res.row v54 92 3 z)) (dr_f (f := sightE) hx (notT hb3))), holdR_gones _⟩ (by simp only; omega) (by repeat (first | exact kr _ | refine kc rfl ?_)) (by repeat (first | exact kr _ | refine kc rfl ?_))
      · skip
        refine awp_skip ?_
        refine aend_block ?_
        refine aend_then ?_
        refine awp_region ?_
        refine sq rfl rfl hn rfl (q_add rfl rfl rfl (r := ((j + 1 : Nat) : Int)) (i64w (by omega) (by omega))) ?_
        refine sq rfl rfl hn rfl (q_move rfl rfl) ?_
        refine run_nil ?_
        exact aend_round_on ⟨(j + 1, vw), by simp only; omega⟩ ⟨.inl rfl, holdT_anys _⟩ ⟨.inl rfl, .inl (congrArg (fun z => some (Res.row vw 92 3 z)) (dr_t (f := sightE) hx (notF hb3))), holdR_gones _⟩ (by simp only; omega) (by repeat (first | exact kr _ | refine kc rfl ?_)) (by repeat (first | exact kr _ | refine kc rfl ?_))
    · try simp only [decide_eq_true_eq, decide_eq_false_iff_not, Bool.and_eq_true, Bool.or_eq_true, Bool.and_eq_false_iff, Bool.or_eq_false_iff, Bool.not_eq_true', Bool.not_eq_false', beq_iff_eq, bne_iff_ne, ne_eq, beq_eq_false_iff_ne, bne_eq_false_iff_eq, Int.not_lt, Int.not_le] at hb2
      have hje : j = r.sights.length := by simp only [List.length_map] at hb2; omega
      subst hje; rw [List.take_length]
      refine awp_exit ?_
      refine aend_then_exit ?_
      refine aend_then_exit ?_
      refine aend_block_exit ?_
      refine aend_then ?_
      refine awp_seq ?_
      refine gh_awp (gh_rowcell (id := 5) (k := 2) (rid := 502) rfl rfl rfl) ?_
      refine gh_awp (gh_rowcell (id := 5) (k := 3) (rid := 503) rfl rfl rfl) ?_
      refine awp_region ?_
      refine sq rfl rfl hn rfl (q_loadAd rfl rfl (id := 5) rfl Try.underlying35 rfl sz35 rfl rfl sees0) ?_
      refine stepW (s_store rfl rfl rfl rfl rfl rfl (id := 4) rfl sz35 rfl (Nat.le_of_ble_eq_true rfl) rfl trivial) fun _ => ?_
      refine run_nil ?_
      refine aend_then ?_
      refine awp_ret ?_
      exact ret_1 (.inl rfl) hl rfl (.cellA rfl (id := 4) rfl Try.underlying35 rfl sz35 rfl rfl)
theorem minL_le {x : Int} {l : List Int} : ∀ y ∈ x :: l, minL x l ≤ y := by
  unfold minL
  induction l generalizing x with
  | nil => intro y hy; simp at hy; simp [hy]
  | cons z l ih =>
    intro y hy
    simp only [List.foldl_cons]
    rcases List.mem_cons.1 hy with rfl | hy
    · exact Int.le_trans (ih _ (List.mem_cons_self)) (Int.min_le_left _ _)
    · rcases List.mem_cons.1 hy with rfl | hy
      · exact Int.le_trans (ih _ (List.mem_cons_self)) (Int.min_le_right _ _)
      · exact ih y (List.mem_cons_of_mem _ hy)
theorem minL_mem {x : Int} {l : List Int} : minL x l ∈ x :: l := by
  unfold minL
  induction l generalizing x with
  | nil => simp
  | cons z l ih =>
    simp only [List.foldl_cons]
    rcases List.mem_cons.1 (ih (x := min x z)) with h | h
    · rw [h]
      by_cases hz : x ≤ z
      · rw [Int.min_eq_left hz]; simp
      · rw [Int.min_eq_right (by omega)]; simp
    · simp [h]
def maxL (x : Int) (l : List Int) : Int := -(minL (-x) (l.map fun n => -n))
theorem maxL_ge {x : Int} {l : List Int} : ∀ y ∈ x :: l, y ≤ maxL x l := by
  intro y hy
  have := minL_le (x := -x) (l := l.map fun n => -n) (-y) (by rcases List.mem_cons.1 hy with rfl | hy; simp; exact List.mem_cons_of_mem _ (List.mem_map.2 ⟨y, hy, rfl⟩))
  unfold maxL
  omega
theorem maxL_mem {x : Int} {l : List Int} : maxL x l ∈ x :: l := by
  have := minL_mem (x := -x) (l := l.map fun n => -n)
  unfold maxL
  rcases List.mem_cons.1 this with h | h
  · rw [h]; simp
  · obtain ⟨n, hn, e⟩ := List.mem_map.1 h
    rw [← e]
    simp [hn]
theorem take_map2 {l : List Nat} {f : Nat → Int} {i : Nat} {x : Nat} (h : l[i]? = some x) : ((l.take i).map f).map intE ++ [intE (f x)] = ((l.take (i + 1)).map f).map intE := by rw [List.take_add_one, h]; simp
theorem bd_neg {d0 : Nat} {l : List Nat} {N : Nat → Int} (hN : ∀ d ∈ d0 :: l, -1000 ≤ N d ∧ N d ≤ 1000) : -9223372036854775808 ≤ 0 - minL (-(N d0)) (l.map fun d => -(N d)) ∧ 0 - minL (-(N d0)) (l.map fun d => -(N d)) ≤ 9223372036854775807 := by
  rcases List.mem_cons.1 (minL_mem (x := -(N d0)) (l := l.map fun d => -(N d))) with h | h
  · rw [h]; have := hN d0 (by simp); omega
  · obtain ⟨d, hd, e⟩ := List.mem_map.1 h
    rw [← e]
    have := hN d (List.mem_cons_of_mem _ hd)
    omega
theorem bounds_ok (r : Reg) (f : FuncId) (a b : Int) (d0 : Nat) (l : List Nat) (N : Nat → Int) (hN : ∀ d ∈ d0 :: l, -1000 ≤ N d ∧ N d ≤ 1000) (hll : l.length ≤ 1000000) (hp : ∀ d ∈ d0 :: l, PureAt Try.prog f [regD r, .int .u64 (d : Nat), .int .i64 a, .int .i64 b] (.int .i64 (N d))) : PureAt Try.prog 64 [.agg [.fn (.func f) [] [], .int .i64 a, .int .i64 b], regD r, donesD (d0 :: l)] (.agg [.int .i64 (minL (N d0) (l.map N)), .int .i64 (maxL (N d0) (l.map N))]) := by
  refine PureAt.of_awp Try.func64 rfl (by kernel_rfl) (Nat.le_of_ble_eq_true rfl) fun Γ hn hl => ?_
  refine awp_seq ?_
  refine awp_region ?_
  refine stepW (s_box 3 rfl rfl rfl (nb hn rfl) rfl rfl) fun b3 => ?_
  refine stepW (s_box 4 rfl rfl rfl (nb hn rfl) rfl rfl) fun b4 => ?_
  refine stepW (s_alloc 6 rfl rfl rfl (nb hn rfl) zr45 rfl rfl) fun b6 => ?_
  refine run_nil ?_
  refine aend_then ?_
  refine awp_seq ?_
  refine awp_region ?_
  refine sq rfl rfl hn rfl (q_assign rfl rfl) ?_
  refine sq rfl rfl hn rfl (q_assign rfl rfl) ?_
  refine run_nil ?_
  refine aend_then ?_
  refine awp_seq ?_
  refine awp_seq ?_
  refine gh_awp (g_nil (t := 7) (id := 7) 3 1 rfl (nb hn rfl)) ?_
  refine gh_awp (g_nil (t := 8) (id := 8) 3 1 rfl (nb hn rfl)) ?_
  refine awp_region ?_
  refine sq rfl rfl hn rfl (q_move rfl rfl) ?_
  refine sq rfl rfl hn rfl (q_len rfl rfl Try.underlying98) ?_
  refine sq rfl rfl hn rfl (q_move rfl rfl) ?_
  refine run_nil ?_
  refine aend_then ?_
  refine awp_block ?_
  refine awp_loop_on (ι := { x : Nat × Value × Value // x.1 ≤ (d0 :: l).length }) (fun x => (14, true, .d (.int .i64 (x.1.1 : Nat))) :: (7, true, .val x.1.2.1) :: (8, true, .val x.1.2.2) :: anys [15, 16, 17, 10, 18, 19, 20, 21, 22, 23, 24, 25, 26, 11, 27, 28, 29, 30, 31, 32, 33, 34, 35, 36]) (fun x => [(7, .row x.1.2.1 3 1 ((((d0 :: l).take x.1.1).map N).map intE)), (8, .row x.1.2.2 3 1 ((((d0 :: l).take x.1.1).map fun d => -(N d)).map intE))]) (fun x => (d0 :: l).length - x.1.1) ⟨(0, .slice none 0 0, .slice none 0 0), by simp⟩ ⟨.inl rfl, .inl rfl, .inl rfl, holdT_anys _⟩ ⟨.inl rfl, .inl rfl, trivial⟩ ?_
  rintro ⟨⟨i, v1, v2⟩, hi⟩
  dsimp only
  dsimp only at hi
  refine awp_seq ?_
  refine awp_region ?_
  refine sq rfl rfl hn rfl (q_lss rfl rfl rfl) ?_
  refine run_nil ?_
  refine aend_then ?_
  refine awp_seq ?_
  refine awp_cond rfl (fun hb0 => ?_) (fun hb0 => ?_)
  · try simp only [decide_eq_true_eq, decide_eq_false_iff_not, Bool.and_eq_true, Bool.or_eq_true, Bool.and_eq_false_iff, Bool.or_eq_false_iff, Bool.not_eq_true', Bool.not_eq_false', beq_iff_eq, bne_iff_ne, ne_eq, beq_eq_false_iff_ne, bne_eq_false_iff_eq, Int.not_lt, Int.not_le] at hb0
    have hlt : i < (d0 :: l).length := by simp only [List.length_map] at hb0; omega
    obtain ⟨d, hd⟩ := ex_get hlt
    have hdm := List.mem_of_getElem? hd
    have hNd := hN d hdm
    have hlt2 : i < l.length + 1 := hlt
    refine awp_skip ?_
    refine aend_then ?_
    refine awp_seq ?_
    refine awp_block ?_
    refine awp_seq ?_
    refine awp_region ?_
    refine sq rfl rfl hn rfl (q_index rfl rfl rfl Try.underlying98 sz102 rfl (mget hd)) ?_
    refine sq rfl rfl hn rfl (q_loadp rfl rfl Try.underlying102 rfl seesF0) ?_
    refine sq rfl rfl hn rfl (q_assign rfl rfl) ?_
    refine run_nil ?_
    refine aend_then ?_
    refine awp_seq ?_
    refine awp_region ?_
    refine sq rfl rfl hn rfl (q_fieldAddr rfl rfl Try.underlying112 rfl sz109) ?_
    refine sq rfl rfl hn rfl (q_load rfl rfl (id := 3) rfl Try.underlying109 rfl rfl sees0) ?_
    refine sq rfl rfl hn rfl (q_loadAd rfl rfl (id := 4) rfl Try.underlying35 rfl sz35 rfl rfl sees0) ?_
    refine sq rfl rfl hn rfl (q_move rfl rfl) ?_
    refine sq rfl rfl hn rfl (q_fieldAddr rfl rfl Try.underlying112 rfl sz3) ?_
    refine sq rfl rfl hn rfl (q_load rfl rfl (id := 3) rfl Try.underlying3 rfl rfl sees0) ?_
    refine sq rfl rfl hn rfl (q_fieldAddr rfl rfl Try.underlying112 rfl sz3) ?_
    refine sq rfl rfl hn rfl (q_load rfl rfl (id := 3) rfl Try.underlying3 rfl rfl sees0) ?_
    refine stepW (s_call [] (fun _ => hp d hdm) rfl (guard_none rfl) rfl (nb hn rfl) (fun _ => trivial) rfl rfl (.refl _)) fun _ => ?_
    refine sq rfl rfl hn rfl (q_assign rfl rfl) ?_
    refine run_nil ?_
    refine aend_then ?_
    refine awp_region ?_
    refine sq rfl rfl hn rfl (q_move rfl rfl) ?_
    refine sq rfl rfl hn rfl (q_move rfl rfl) ?_
    refine stepW (s_buildSlice rfl rfl rfl (nb hn rfl) Try.underlying22 sz3 zr3 rfl rfl rfl (show _ = [.d (.int .i64 0)] from by kernel_rfl) (by kernel_rfl) rfl (fill_int rfl) rfl rfl rfl) fun _ => ?_
    refine stepW (s_append (id := 7) rfl rfl rfl (nb hn rfl) elt22 trivial rfl rfl rfl (by simp [chunk]; omega) (by simp [chunk]; omega) (fun b hb => trivial)) fun v30 => ?_
    refine sq rfl rfl hn rfl (q_move rfl rfl) ?_
    refine sq rfl rfl hn rfl (q_move rfl rfl) ?_
    refine sq rfl rfl hn rfl (q_neg rfl rfl (r := -(N d)) (i64w (by omega) (by omega))) ?_
    refine stepW (s_buildSlice rfl rfl rfl (nb hn rfl) Try.underlying22 sz3 zr3 rfl rfl rfl (show _ = [.d (.int .i64 0)] from by kernel_rfl) (by kernel_rfl) rfl (fill_int rfl) rfl rfl rfl) fun _ => ?_
    refine stepW (s_append (id := 8) rfl rfl rfl (nb hn rfl) elt22 trivial rfl rfl rfl (by simp [chunk]; omega) (by simp [chunk]; omega) (fun b hb => trivial)) fun v35 => ?_
    refine sq rfl rfl hn rfl (q_assign rfl rfl) ?_
    refine sq rfl rfl hn rfl (q_assign rfl rfl) ?_
    refine run_nil ?_
    refine aend_block ?_
    refine aend_then ?_
    refine awp_region ?_
    refine sq rfl rfl hn rfl (q_add rfl rfl rfl (r := ((i + 1 : Nat) : Int)) (i64w (by simp only [List.length_cons] at hlt; omega) (by omega))) ?_
    refine sq rfl rfl hn rfl (q_move rfl rfl) ?_
    refine run_nil ?_
    exact aend_round_on ⟨(i + 1, v30, v35), by simp only; omega⟩ ⟨.inl rfl, .inl rfl, .inl rfl, holdT_anys _⟩ ⟨.inl (congrArg (fun z => some (Res.row v30 3 1 z)) (take_map2 (f := N) hd)), .inl (congrArg (fun z => some (Res.row v35 3 1 z)) (take_map2 (f := fun d => -(N d)) hd)), trivial⟩ (by simp only; omega) (by repeat (first | exact kr _ | refine kc rfl ?_)) (by repeat (first | exact kr _ | refine kc rfl ?_))
  · try simp only [decide_eq_true_eq, decide_eq_false_iff_not, Bool.and_eq_true, Bool.or_eq_true, Bool.and_eq_false_iff, Bool.or_eq_false_iff, Bool.not_eq_true', Bool.not_eq_false', beq_iff_eq, bne_iff_ne, ne_eq, beq_eq_false_iff_ne, bne_eq_false_iff_eq, Int.not_lt, Int.not_le] at hb0
    have hie : i = (d0 :: l).length := by simp only [List.length_map] at hb0; omega
    subst hie; rw [List.take_length]; simp only [List.map_cons]
    refine awp_exit ?_
    refine aend_then_exit ?_
    refine aend_then_exit ?_
    refine aend_block_exit ?_
    refine aend_then ?_
    refine awp_seq ?_
    refine awp_region ?_
    refine sq rfl rfl hn rfl (q_move rfl rfl) ?_
    refine gh_run (g_row (t := 37) (id := 7) rfl rfl) ?_
    refine stepW (s_call [] (fun _ => minimum_ok (N d0) (l.map N)) rfl (guard_none rfl) rfl (nb hn rfl) (fun _ => trivial) rfl rfl (.refl _)) fun _ => ?_
    refine sq rfl rfl hn rfl (q_move rfl rfl) ?_
    refine gh_run (g_row (t := 39) (id := 8) rfl rfl) ?_
    refine stepW (s_call [] (fun _ => minimum_ok (-(N d0)) (l.map fun d => -(N d))) rfl (guard_none rfl) rfl (nb hn rfl) (fun _ => trivial) rfl rfl (.refl _)) fun _ => ?_
    refine sq rfl rfl hn rfl (q_neg rfl rfl (r := maxL (N d0) (l.map N)) (i64w (bd_neg hN) (by simp only [maxL, List.map_map]; rw [Int.zero_sub]; rfl))) ?_
    refine sq rfl rfl hn rfl (q_buildd rfl bt45 rfl rfl rfl rfl rfl) ?_
    refine stepW (s_store rfl rfl rfl rfl rfl rfl (id := 6) rfl sz45 rfl (Nat.le_of_ble_eq_true rfl) rfl trivial) fun _ => ?_
    refine run_nil ?_
    refine aend_then ?_
    refine awp_ret ?_
    exact ret_1 (.inl rfl) hl rfl (.cellA rfl (id := 6) rfl Try.underlying45 rfl sz45 rfl rfl)
end Go.Proofs.Ytnbmmopjkkofoaa
namespace Go.Proofs.Ytnbmmopjkkofoaa
open Go.RowKit
set_option maxRecDepth 20000
set_option linter.all false
@[reducible] def workC (r : Reg) (b : Nat) : List D := regC r ++ [.raw (.map (some b))]
@[reducible] def spotC (d n m : Nat) : List D := [.int .i64 (d : Nat), .int .i64 (n : Nat), .int .u64 (m : Nat)]
@[reducible] def spotD (d n m : Nat) : D := .agg (spotC d n m)
abbrev KS : Value → Prop := KV Try.prog 119
def inE (e : Ent5) (d : Nat) : Bool := decide (e.lo ≤ (d : Int)) && decide ((d : Int) ≤ e.hi)
/-- What can be next, within a day. -/
def nextE (r : Reg) (e : Ent5) (d n m : Nat) : List (Nat × Nat × Nat) :=
  (bif inE e d && canB r n m then [(d, n + 1, m ||| 2 ^ n)] else []) ++ (bif m.testBit n || decide ((d : Int) < e.hi) then [(d, n + 1, m)] else [])
def nextL (r : Reg) (d n m : Nat) : List (Nat × Nat × Nat) := match r.entries[n]? with
  | some e => nextE r e d n m
  | none => []
def spotX (s : Nat × Nat × Nat) : List D := [spotD s.1 s.2.1 s.2.2]
def nextXs (r : Reg) (d n m : Nat) : List (List D) := (nextL r d n m).map spotX
theorem nextXs_eq {r : Reg} {e : Ent5} {d n m : Nat} (h : r.entries[n]? = some e) : nextXs r d n m = (nextE r e d n m).map spotX := by simp [nextXs, nextL, h]
/-- All sights of a day are true. -/
def seenN (r : Reg) (d m : Nat) : Bool := r.sights.all (seenB (d : Int) (placesA r m))
def goesF (r : Reg) : Nat → Nat → Nat → Nat → Bool
  | 0, _, _, _ => true
  | k + 1, d, n, m => bif decide (9 < d) then true else bif n == r.entries.length then seenN r d m && goesF r k (d + 1) 0 m else (nextL r d n m).any fun s => goesF r k s.1 s.2.1 s.2.2
def muS (r : Reg) (d n : Nat) : Nat := if 9 < d then 0 else (10 - d) * (r.entries.length + 1) + (r.entries.length - n)
/-- Whether all that is left can happen from a spot on. -/
def goesB (r : Reg) (d n m : Nat) : Bool := goesF r (muS r d n + 1) d n m
theorem nextL_mem {r : Reg} {d n m : Nat} {s : Nat × Nat × Nat} (h : s ∈ nextL r d n m) : s.1 = d ∧ s.2.1 = n + 1 ∧ (s.2.2 = m ∨ s.2.2 = m ||| 2 ^ n) ∧ n < r.entries.length := by
  unfold nextL at h
  split at h
  · rename_i e he
    have hlt := (List.getElem?_eq_some_iff.1 he).1
    unfold nextE at h
    rcases List.mem_append.1 h with h | h
    · cases hc : (inE e d && canB r n m) <;> rw [hc] at h <;> simp at h
      subst h
      exact ⟨rfl, rfl, .inr rfl, hlt⟩
    · cases hc : (m.testBit n || decide ((d : Int) < e.hi)) <;> rw [hc] at h <;> simp at h
      subst h
      exact ⟨rfl, rfl, .inl rfl, hlt⟩
  · cases h
theorem muS_next {r : Reg} {d n : Nat} (hd : d ≤ 9) (hn : n < r.entries.length) : muS r d (n + 1) < muS r d n := by
  unfold muS; rw [if_neg (by omega), if_neg (by omega)]; omega
theorem muS_day {r : Reg} {d n : Nat} (hd : d ≤ 9) : muS r (d + 1) 0 < muS r d n := by
  unfold muS
  rw [if_neg (by omega : ¬ 9 < d)]
  by_cases h : 9 < d + 1
  · rw [if_pos h]; have : 10 - d = 1 := by omega
    rw [this]; omega
  · rw [if_neg h]
    have : 10 - d = (10 - (d + 1)) + 1 := by omega
    rw [this, Nat.add_mul]; omega
theorem goesF_eq (r : Reg) : ∀ (k k' d n m : Nat), muS r d n < k → muS r d n < k' → goesF r k d n m = goesF r k' d n m
  | 0, _, _, _, _, h, _ => by omega
  | _ + 1, 0, _, _, _, _, h => by omega
  | k + 1, k' + 1, d, n, m, h, h' => by
    unfold goesF
    by_cases hd : 9 < d
    · simp [hd]
    · simp only [hd, decide_false, cond_false]
      have hd' : d ≤ 9 := by omega
      congr 1
      · have h1 := muS_day (r := r) (n := n) hd'
        rw [goesF_eq r k k' (d + 1) 0 m (by omega) (by omega)]
      · have : ∀ s ∈ nextL r d n m, goesF r k s.1 s.2.1 s.2.2 = goesF r k' s.1 s.2.1 s.2.2 := fun s hs => by
          obtain ⟨e1, e2, _, e4⟩ := nextL_mem hs
          have h1 := muS_next hd' e4
          rw [e1, e2]
          exact goesF_eq r k k' d (n + 1) s.2.2 (by omega) (by omega)
        rw [Bool.eq_iff_iff, List.any_eq_true, List.any_eq_true]
        exact ⟨fun ⟨s, hs, hg⟩ => ⟨s, hs, by rw [← this s hs]; exact hg⟩, fun ⟨s, hs, hg⟩ => ⟨s, hs, by rw [this s hs]; exact hg⟩⟩
theorem goesB_end {r : Reg} {d n m : Nat} (h : 9 < d) : goesB r d n m = true := by unfold goesB goesF; simp [h]
theorem goesB_day {r : Reg} {d m : Nat} (h : d ≤ 9) : goesB r d r.entries.length m = (seenN r d m && goesB r (d + 1) 0 m) := by
  unfold goesB
  have h1 := muS_day (r := r) (n := r.entries.length) h
  rw [goesF, show decide (9 < d) = false by simp; omega]
  simp only [cond_false, beq_self_eq_true, cond_true]
  rw [goesF_eq r _ (muS r (d + 1) 0 + 1) (d + 1) 0 m (by omega) (by omega)]
theorem goesB_next {r : Reg} {d n m : Nat} (h : d ≤ 9) (hn : n < r.entries.length) : goesB r d n m = (nextL r d n m).any fun s => goesB r s.1 s.2.1 s.2.2 := by
  unfold goesB
  rw [goesF, show decide (9 < d) = false by simp; omega, show (n == r.entries.length) = false by simp; omega]
  simp only [cond_false]
  have h1 := muS_next (r := r) h hn
  have : ∀ s ∈ nextL r d n m, goesF r (muS r d n) s.1 s.2.1 s.2.2 = goesF r (muS r s.1 s.2.1 + 1) s.1 s.2.1 s.2.2 := fun s hs => by
    obtain ⟨e1, e2, _, _⟩ := nextL_mem hs
    rw [e1, e2]
    exact goesF_eq r _ _ d (n + 1) s.2.2 (by omega) (by omega)
  rw [Bool.eq_iff_iff, List.any_eq_true, List.any_eq_true]
  exact ⟨fun ⟨s, hs, hg⟩ => ⟨s, hs, by rw [← this s hs]; exact hg⟩, fun ⟨s, hs, hg⟩ => ⟨s, hs, by rw [this s hs]; exact hg⟩⟩
theorem spot_law : KLaw Try.prog 119 (KV Try.prog 119) := KLaw.of (Go.deep_law (m := 3) (by omega) (by kernel_rfl) (by kernel_rfl) (by kernel_rfl))
theorem wf_i64 {n : Int} (h : -9223372036854775808 ≤ n ∧ n ≤ 9223372036854775807) : (Lit.int .i64 n).wf = true := by
  have e1 : IntKind.i64.min = -9223372036854775808 := by decide
  have e2 : IntKind.i64.max = 9223372036854775807 := by decide
  simp only [Lit.wf, e1, e2, Bool.and_eq_true, decide_eq_true_eq]
  exact h
theorem wf_u64 {n : Int} (h : 0 ≤ n ∧ n ≤ 18446744073709551615) : (Lit.int .u64 n).wf = true := by
  have e1 : IntKind.u64.min = 0 := by decide
  have e2 : IntKind.u64.max = 18446744073709551615 := by decide
  simp only [Lit.wf, e1, e2, Bool.and_eq_true, decide_eq_true_eq]
  exact h
theorem spot_lits {d n m : Nat} (k : Nat) (hd : d ≤ 10) (hn : n ≤ 6) (hm : m < 18446744073709551616) : ∃ ls, Try.prog.keyLits (k + 2) 119 [.int .i64 (d : Nat), .int .i64 (n : Nat), .int .u64 (m : Nat)] = some ls := by
  have h1 := wf_i64 (n := (d : Int)) (by omega)
  have h2 := wf_i64 (n := (n : Int)) (by omega)
  have h3 := wf_u64 (n := (m : Int)) (by omega)
  have c1 : Try.prog.cellsOf 119 = 3 := by kernel_rfl
  have c2 : Try.prog.cellsOf 3 = 1 := by kernel_rfl
  have c3 : Try.prog.cellsOf 102 = 1 := by kernel_rfl
  simp only [Program.keyLits, Try.underlying119, Try.underlying3, Try.underlying102]
  simp [c1, c2, c3, h1, h2, h3]
theorem spot_kv {d n m : Nat} (hd : d ≤ 10) (hn : n ≤ 6) (hm : m < 18446744073709551616) : KV Try.prog 119 (.agg [.int .i64 (d : Nat), .int .i64 (n : Nat), .int .u64 (m : Nat)].toArray) := by
  have c1 : Try.prog.cellsOf 119 = 3 := by kernel_rfl
  have hk : Try.prog.keyType 119 = true := by kernel_rfl
  have h1 : Nat.ble 1 Try.prog.types.size = true := by kernel_rfl
  have hs : ∃ k, Try.prog.types.size + 1 = k + 2 := ⟨Try.prog.types.size - 1, by have := Nat.le_of_ble_eq_true h1; omega⟩
  obtain ⟨k, hs⟩ := hs
  obtain ⟨ls, hl⟩ := spot_lits k hd hn hm
  unfold KV keyOf
  rw [Try.underlying119, hs]
  simp only [hk, Value.formed, Try.underlying119, c1, Value.cells]
  simp [hl]
theorem lt64 {k x : Nat} (hk : k ≤ 6) (hx : x < 2 ^ k) : x < 18446744073709551616 := by
  have : 2 ^ k ≤ 2 ^ 6 := Nat.pow_le_pow_right (by omega) hk
  omega
theorem sz4 : Sz Try.prog 4 1 := (by kernel_rfl : (Try.prog.info? 4).map (·.size) = some 1)
theorem sz119 : Sz Try.prog 119 3 := (by kernel_rfl : (Try.prog.info? 119).map (·.size) = some 3)
theorem sz142 : Sz Try.prog 142 1 := (by kernel_rfl : (Try.prog.info? 142).map (·.size) = some 1)
theorem zr4 : (Try.prog.info? 4).map (·.zero) = some (some (.bool false)) := by kernel_rfl
theorem zr119 : (Try.prog.info? 119).map (·.zero) = some (some (.agg #[(.int .i64 0), (.int .i64 0), (.int .u64 0)])) := by kernel_rfl
theorem zr144 : (Try.prog.info? 144).map (·.zero) = some (some (.agg #[(.int .i64 0), (.slice none 0 0), (.slice none 0 0), (.slice none 0 0), (.map none)])) := by kernel_rfl
theorem bt119 : BT Try.prog 119 (.agg #[(.int .i64 0), (.int .i64 0), (.int .u64 0)]) (fun i => ([(0, 1), (1, 1), (2, 1)] : List (Nat × Nat))[i]?) := bt_struct Try.underlying119 zr119 (by kernel_rfl)
theorem bt144 : BT Try.prog 144 (.agg #[(.int .i64 0), (.slice none 0 0), (.slice none 0 0), (.slice none 0 0), (.map none)]) (fun i => ([(0, 4), (4, 1)] : List (Nat × Nat))[i]?) := bt_struct Try.underlying144 zr144 (by kernel_rfl)
theorem next_ok (r : Reg) (d n m : Nat) : PureAt Try.prog 70 [regD r, spotD d n m] (.fn (.func 92) [] [.ptr (regC r), .ptr (spotC d n m)]) := by
  refine PureAt.of_awp Try.func70 rfl (by kernel_rfl) (Nat.le_of_ble_eq_true rfl) fun Γ hn hl => ?_
  refine awp_seq ?_
  refine awp_region ?_
  refine stepW (s_box 2 rfl rfl rfl (nb hn rfl) rfl rfl) fun b2 => ?_
  refine stepW (s_box 3 rfl rfl rfl (nb hn rfl) rfl rfl) fun b3 => ?_
  refine sq rfl rfl hn rfl (q_assign rfl rfl) ?_
  refine run_nil ?_
  refine aend_then ?_
  refine awp_seq ?_
  refine gh_awp (g_freeze (t := 2) 2 rfl (nb hn rfl) rfl rfl trivial) ?_
  refine gh_awp (g_freeze (t := 3) 3 rfl (nb hn rfl) rfl rfl trivial) ?_
  refine awp_region ?_
  refine sq rfl rfl hn rfl (q_makeFuncd rfl rfl rfl) ?_
  refine sq rfl rfl hn rfl (q_assign rfl rfl) ?_
  refine run_nil ?_
  refine aend_then ?_
  refine awp_ret ?_
  exact ret_1 (.inl rfl) hl rfl (.tmp rfl)
theorem closed_ok (r : Reg) (b d n m : Nat) (v : Valid r) (hd : d ≤ 9) (hm : m < 18446744073709551616) : PureAt Try.prog 69 [.ptr (workC r b), spotD d n m] (.tup [spotD (d + 1) 0 m, .bool (seenN r d m)]) := by
  refine PureAt.of_awp Try.func69 rfl (by kernel_rfl) (Nat.le_of_ble_eq_true rfl) fun Γ hn hl => ?_
  refine awp_seq ?_
  refine awp_region ?_
  refine stepW (s_box 3 rfl rfl rfl (nb hn rfl) rfl rfl) fun b3 => ?_
  refine stepW (s_alloc 4 rfl rfl rfl (nb hn rfl) zr119 rfl rfl) fun b4 => ?_
  refine sq rfl rfl hn rfl (q_assign rfl rfl) ?_
  refine run_nil ?_
  refine aend_then ?_
  refine awp_seq ?_
  refine d_start (W := fun b => b ≠ b3) fmo ?_
  refine d1q (i := 0) rfl (by kernel_rfl) (fun _ _ _ _ h => h) rfl rfl hn rfl (q_fieldAddr rfl rfl Try.underlying119 rfl sz3) ?_
  refine d1q (i := 1) rfl (by kernel_rfl) (fun _ _ _ _ h => h) rfl rfl hn rfl (q_load rfl rfl (id := 3) rfl Try.underlying3 rfl rfl (seesA (by simp))) ?_
  refine d1q (i := 2) rfl (by kernel_rfl) (fun _ _ _ _ h => h) rfl rfl hn rfl (q_add rfl rfl rfl (r := ((d + 1 : Nat) : Int)) (i64w (by omega) (by omega))) ?_
  refine d1q (i := 3) rfl (by kernel_rfl) (fun _ _ _ _ h => h) rfl rfl hn rfl (q_fieldAddr rfl rfl Try.underlying119 rfl sz102) ?_
  refine d1q (i := 4) rfl (by kernel_rfl) (fun _ _ _ _ h => h) rfl rfl hn rfl (q_load rfl rfl (id := 3) rfl Try.underlying102 rfl rfl (seesA (by simp))) ?_
  refine d1q (i := 5) rfl (by kernel_rfl) (fun _ _ _ _ h => h) rfl rfl hn rfl (q_buildd rfl bt119 rfl rfl rfl rfl rfl) ?_
  refine d1q (i := 6) rfl (by kernel_rfl) (fun _ _ _ _ h => h) rfl rfl hn rfl (q_move rfl rfl) ?_
  refine d1q (i := 7) rfl (by kernel_rfl) (fun _ _ _ _ h => h) rfl rfl hn rfl (q_nilCheckp rfl rfl) ?_
  refine d1q (i := 8) rfl (by kernel_rfl) (fun _ _ _ _ h => h) rfl rfl hn rfl (q_fieldAddrp rfl rfl Try.underlying144 rfl sz35 rfl) ?_
  refine d1q (i := 9) rfl (by kernel_rfl) (fun _ _ _ _ h => h) rfl rfl hn rfl (q_loadpA rfl rfl Try.underlying35 rfl sz35 rfl rfl seesFA) ?_
  refine d1q (i := 10) rfl (by kernel_rfl) (fun _ _ _ _ h => h) rfl rfl hn rfl (q_fieldAddr rfl rfl Try.underlying119 rfl sz3) ?_
  refine d1q (i := 11) rfl (by kernel_rfl) (fun _ _ _ _ h => h) rfl rfl hn rfl (q_load rfl rfl (id := 3) rfl Try.underlying3 rfl rfl (seesA (by simp))) ?_
  refine d1q (i := 12) rfl (by kernel_rfl) (fun _ _ _ _ h => h) rfl rfl hn rfl (q_move rfl rfl) ?_
  refine d1q (i := 13) rfl (by kernel_rfl) (fun _ _ _ _ h => h) rfl rfl hn rfl (q_nilCheckp rfl rfl) ?_
  refine d1q (i := 14) rfl (by kernel_rfl) (fun _ _ _ _ h => h) rfl rfl hn rfl (q_fieldAddrp rfl rfl Try.underlying144 rfl sz35 rfl) ?_
  refine d1q (i := 15) rfl (by kernel_rfl) (fun _ _ _ _ h => h) rfl rfl hn rfl (q_loadpA rfl rfl Try.underlying35 rfl sz35 rfl rfl seesFA) ?_
  refine d1q (i := 16) rfl (by kernel_rfl) (fun _ _ _ _ h => h) rfl rfl hn rfl (q_fieldAddr rfl rfl Try.underlying119 rfl sz102) ?_
  refine d1q (i := 17) rfl (by kernel_rfl) (fun _ _ _ _ h => h) rfl rfl hn rfl (q_load rfl rfl (id := 3) rfl Try.underlying102 rfl rfl (seesA (by simp))) ?_
  refine d1_of_d2 ?_
  refine d2_one (i := 18) (by kernel_rfl) rfl (s_call [] (fun _ => places_ok r m v hm) rfl (guard_none rfl) rfl (nb hn rfl) (fun _ => trivial) rfl rfl (.refl _)) fun _ => ?_
  refine d2_of_d1 ?_
  refine d1_of_d2 ?_
  refine d2_one (i := 19) (by kernel_rfl) rfl (s_call [] (fun _ => seen_ok r (d : Int) (placesA r m) v (placesA_len r m)) rfl (guard_none rfl) rfl (nb hn rfl) (fun _ => trivial) rfl rfl (.refl _)) fun _ => ?_
  refine d2_of_d1 ?_
  refine d1_of_d2 ?_
  refine g_ne_d2 (i := 4) (j := 3) rfl rfl rfl (fun hne4_3 => ?_)
  refine d2_one (i := 20) (by kernel_rfl) rfl (s_store rfl rfl rfl rfl rfl rfl (id := 4) rfl sz119 rfl (Nat.le_of_ble_eq_true rfl) rfl (fun e => hne4_3 _ rfl (congrArg some e.symm))) fun _ => ?_
  refine d2_of_d1 ?_
  refine d1q (i := 21) rfl (by kernel_rfl) (fun _ _ _ _ h => h) rfl rfl hn rfl (q_assign rfl rfl) ?_
  refine d1_of_d2 ?_
  refine d2_done (by kernel_rfl) ?_
  refine aend_then ?_
  refine awp_ret ?_
  exact ret_2 (.inl rfl) hl rfl (.cellA rfl (id := 4) rfl Try.underlying119 rfl sz119 rfl rfl) (.tmp rfl)
theorem work_ok (r : Reg) : EffAt Try.prog 67 [.d (regD r)] [] (X := Nat) (fun b => .d (.ptr (workC r b))) (fun b => [(1000, mapRes KS b fun _ _ => False)]) := by
  refine EffAt.of_awp Try.func67 rfl (by kernel_rfl) rfl fun Γ hn => ?_
  refine awp_seq ?_
  refine awp_region ?_
  refine stepW (s_box 1 rfl rfl rfl (nb hn rfl) rfl rfl) fun b1 => ?_
  refine sq rfl rfl hn rfl (q_assign rfl rfl) ?_
  refine run_nil ?_
  refine aend_then ?_
  refine awp_seq ?_
  refine awp_region ?_
  refine sq rfl rfl hn rfl (q_loadAd rfl rfl (id := 1) rfl Try.underlying35 rfl sz35 rfl rfl sees0) ?_
  refine stepW (s_makeMap (KS) 1000 rfl rfl rfl (nb hn rfl)) fun b4 => ?_
  refine sq rfl rfl hn rfl (q_buildd rfl bt144 rfl rfl rfl rfl rfl) ?_
  refine stepW (s_box 6 rfl rfl rfl (nb hn rfl) rfl rfl) fun b6 => ?_
  refine sq rfl rfl hn rfl (q_assign rfl rfl) ?_
  refine run_nil ?_
  refine aend_then ?_
  refine awp_ret ?_
  refine gh_end (g_freeze (t := 2) 6 rfl (nb hn rfl) rfl rfl trivial) ?_
  exact ret_E (.inl rfl) b4 (hands_1 rfl (.tmp rfl)) ⟨rfl, trivial⟩
theorem next_second {r : Reg} {e : Ent5} {d n m : Nat} (h : (m.testBit n || decide ((d : Int) < e.hi)) = true) : ((nextE r e d n m).map spotX)[(bif inE e d && canB r n m then 1 else 0)]? = some [spotD d (n + 1) m] := by
  rcases Bool.eq_false_or_eq_true (inE e d && canB r n m) with hA | hA <;> simp only [nextE, h, hA, cond_true, cond_false] <;> rfl
theorem next_len_t {r : Reg} {e : Ent5} {d n m : Nat} (h : (m.testBit n || decide ((d : Int) < e.hi)) = true) : ((nextE r e d n m).map spotX).length = (bif inE e d && canB r n m then 1 else 0) + 1 := by
  rcases Bool.eq_false_or_eq_true (inE e d && canB r n m) with hA | hA <;> simp only [nextE, h, hA, cond_true, cond_false] <;> rfl
theorem next_len_f {r : Reg} {e : Ent5} {d n m : Nat} (h : (m.testBit n || decide ((d : Int) < e.hi)) = false) : ((nextE r e d n m).map spotX).length = (bif inE e d && canB r n m then 1 else 0) := by
  rcases Bool.eq_false_or_eq_true (inE e d && canB r n m) with hA | hA <;> simp only [nextE, h, hA, cond_true, cond_false] <;> rfl
theorem next_first {r : Reg} {e : Ent5} {d n m : Nat} (h : (inE e d && canB r n m) = true) : ((nextE r e d n m).map spotX)[0]? = some [spotD d (n + 1) (m ||| 2 ^ n)] := by simp [nextE, h, spotX]
theorem next1_ok (r : Reg) (d n m : Nat) (e : Ent5) (he : r.entries[n]? = some e) (v : Valid r) (hd : d ≤ 9) (hn6 : n < 6) (hm : m < 18446744073709551616) : SeqAt Try.prog 92 [.ptr (regC r), .ptr (spotC d n m)] (nextXs r d n m) := by
  rw [nextXs_eq he]
  have hlt : n < r.entries.length := (List.getElem?_eq_some_iff.1 he).1
  refine ⟨ent_of (fn := Try.f92) (by kernel_rfl) rfl rfl, fun ι l R A B hy i0 hA0 => EffAt.of_awp Try.func92 rfl (by kernel_rfl) rfl fun Γ hn => awi_wide.1 ?_⟩
  refine awi_seq ?_
  refine awi_region ?_
  refine sqI rfl rfl hn rfl (q_fieldAddrp rfl rfl Try.underlying35 rfl sz32 rfl) rfl ?_
  refine sqI rfl rfl hn rfl (q_loadp rfl rfl Try.underlying32 rfl seesF0) rfl ?_
  refine sqI rfl rfl hn rfl (q_fieldAddrp rfl rfl Try.underlying119 rfl sz3 rfl) rfl ?_
  refine sqI rfl rfl hn rfl (q_loadp rfl rfl Try.underlying3 rfl seesF0) rfl ?_
  refine sqI rfl rfl hn rfl (q_index rfl rfl rfl Try.underlying32 sz95 rfl (mget he)) rfl ?_
  refine sqI rfl rfl hn rfl (q_loadpA rfl rfl Try.underlying95 rfl sz95 rfl rfl seesF0) rfl ?_
  refine stepWI ((s_alloc 4 rfl rfl rfl (nb hn rfl) zr95 rfl rfl).i rfl) fun b4 => ?_
  refine stepWI ((s_store rfl rfl rfl rfl rfl rfl (id := 4) rfl sz95 rfl (Nat.le_of_ble_eq_true rfl) rfl trivial).i rfl) fun _ => ?_
  refine run_nilI ?_
  refine aend_thenI ?_
  refine awi_seq ?_
  refine awi_seq ?_
  refine gh_awi (g_freeze (t := 4) 4 rfl (nb hn rfl) rfl rfl trivial) ?_
  refine d_startI (W := fun b => True) fmo ?_
  refine d1qI (i := 0) rfl (by kernel_rfl) rfl (fun _ _ _ _ h => h) rfl rfl hn rfl (q_fieldAddrp rfl rfl Try.underlying119 rfl sz3 rfl) ?_
  refine d1qI (i := 1) rfl (by kernel_rfl) rfl (fun _ _ _ _ h => h) rfl rfl hn rfl (q_loadp rfl rfl Try.underlying3 rfl seesFA) ?_
  refine d1qI (i := 2) rfl (by kernel_rfl) rfl (fun _ _ _ _ h => h) rfl rfl hn rfl (q_fieldAddrp rfl rfl Try.underlying95 rfl sz45 rfl) ?_
  refine d1qI (i := 3) rfl (by kernel_rfl) rfl (fun _ _ _ _ h => h) rfl rfl hn rfl (q_fieldAddrp rfl rfl Try.underlying45 rfl sz3 rfl) ?_
  refine d1qI (i := 4) rfl (by kernel_rfl) rfl (fun _ _ _ _ h => h) rfl rfl hn rfl (q_loadp rfl rfl Try.underlying3 rfl seesFA) ?_
  refine d1qI (i := 5) rfl (by kernel_rfl) rfl (fun _ _ _ _ h => h) rfl rfl hn rfl (q_fieldAddrp rfl rfl Try.underlying95 rfl sz45 rfl) ?_
  refine d1qI (i := 6) rfl (by kernel_rfl) rfl (fun _ _ _ _ h => h) rfl rfl hn rfl (q_fieldAddrp rfl rfl Try.underlying45 rfl sz3 rfl) ?_
  refine d1qI (i := 7) rfl (by kernel_rfl) rfl (fun _ _ _ _ h => h) rfl rfl hn rfl (q_loadp rfl rfl Try.underlying3 rfl seesFA) ?_
  refine d1_of_d2I ?_
  refine d2_oneI (i := 8) (by kernel_rfl) rfl ((s_call [] (fun _ => within_ok (d : Int) e.lo e.hi) rfl (guard_none rfl) rfl (nb hn rfl) (fun _ => trivial) rfl rfl (.refl _)).i rfl) fun _ => ?_
  refine d2_of_d1I ?_
  refine d1qI (i := 9) rfl (by kernel_rfl) rfl (fun _ _ _ _ h => h) rfl rfl hn rfl (q_move rfl rfl) ?_
  refine d1gI (i := 10) [] rfl (by kernel_rfl) rfl (fun _ _ _ _ h => h) (guard_some rfl rfl rfl) rfl hn rfl (fun hc => trivial) (fun hc => q_loadpA rfl rfl Try.underlying35 rfl sz35 rfl rfl seesFA) ?_
  refine d1gI (i := 11) [] rfl (by kernel_rfl) rfl (fun _ _ _ _ h => h) (guard_some rfl rfl rfl) rfl hn rfl (fun hc => trivial) (fun hc => q_fieldAddrp rfl rfl Try.underlying119 rfl sz3 rfl) ?_
  refine d1gI (i := 12) [(22, _)] rfl (by kernel_rfl) rfl (fun _ _ _ _ h => h) (guard_some rfl rfl rfl) rfl hn rfl (fun hc => ⟨⟨_, rfl, hc⟩, trivial⟩) (fun hc => q_loadp rfl rfl Try.underlying3 rfl seesFA) ?_
  refine d1gI (i := 13) [] rfl (by kernel_rfl) rfl (fun _ _ _ _ h => h) (guard_some rfl rfl rfl) rfl hn rfl (fun hc => trivial) (fun hc => q_fieldAddrp rfl rfl Try.underlying119 rfl sz102 rfl) ?_
  refine d1gI (i := 14) [(24, _)] rfl (by kernel_rfl) rfl (fun _ _ _ _ h => h) (guard_some rfl rfl rfl) rfl hn rfl (fun hc => ⟨⟨_, rfl, hc⟩, trivial⟩) (fun hc => q_loadp rfl rfl Try.underlying102 rfl seesFA) ?_
  refine d1_of_d2I ?_
  refine d2_oneI (i := 15) (by kernel_rfl) rfl ((s_call [(21, _), (23, _), (25, _)] (fun hc => can_ok r n m v hm hlt) rfl (guard_some rfl rfl rfl) rfl (nb hn rfl) (fun hc => ⟨⟨_, rfl, hc⟩, ⟨_, rfl, hc⟩, ⟨_, rfl, hc⟩, trivial⟩) rfl rfl (.refl _)).i rfl) fun _ => ?_
  refine d2_of_d1I ?_
  refine d1qI (i := 16) rfl (by kernel_rfl) rfl (fun _ _ _ _ h => h) rfl rfl hn rfl (q_and rfl rfl rfl (by simp_all)) ?_
  refine d1qI (i := 17) rfl (by kernel_rfl) rfl (fun _ _ _ _ h => h) rfl rfl hn rfl (q_move rfl rfl) ?_
  refine d1gI (i := 18) [] rfl (by kernel_rfl) rfl (fun _ _ _ _ h => h) (guard_some rfl rfl rfl) rfl hn rfl (fun hc => trivial) (fun hc => q_move rfl rfl) ?_
  refine d1gI (i := 19) [] rfl (by kernel_rfl) rfl (fun _ _ _ _ h => h) (guard_some rfl rfl rfl) rfl hn rfl (fun hc => trivial) (fun hc => q_fieldAddrp rfl rfl Try.underlying119 rfl sz3 rfl) ?_
  refine d1gI (i := 20) [(30, _)] rfl (by kernel_rfl) rfl (fun _ _ _ _ h => h) (guard_some rfl rfl rfl) rfl hn rfl (fun hc => ⟨⟨_, rfl, hc⟩, trivial⟩) (fun hc => q_loadp rfl rfl Try.underlying3 rfl seesFA) ?_
  refine d1gI (i := 21) [] rfl (by kernel_rfl) rfl (fun _ _ _ _ h => h) (guard_some rfl rfl rfl) rfl hn rfl (fun hc => trivial) (fun hc => q_fieldAddrp rfl rfl Try.underlying119 rfl sz3 rfl) ?_
  refine d1gI (i := 22) [(32, _)] rfl (by kernel_rfl) rfl (fun _ _ _ _ h => h) (guard_some rfl rfl rfl) rfl hn rfl (fun hc => ⟨⟨_, rfl, hc⟩, trivial⟩) (fun hc => q_loadp rfl rfl Try.underlying3 rfl seesFA) ?_
  refine d1gI (i := 23) [(33, _)] rfl (by kernel_rfl) rfl (fun _ _ _ _ h => h) (guard_some rfl rfl rfl) rfl hn rfl (fun hc => ⟨⟨_, rfl, hc⟩, trivial⟩) (fun hc => q_add rfl rfl rfl (r := ((n + 1 : Nat) : Int)) (i64w (by omega) (by omega))) ?_
  refine d1gI (i := 24) [] rfl (by kernel_rfl) rfl (fun _ _ _ _ h => h) (guard_some rfl rfl rfl) rfl hn rfl (fun hc => trivial) (fun hc => q_fieldAddrp rfl rfl Try.underlying119 rfl sz102 rfl) ?_
  refine d1gI (i := 25) [(35, _)] rfl (by kernel_rfl) rfl (fun _ _ _ _ h => h) (guard_some rfl rfl rfl) rfl hn rfl (fun hc => ⟨⟨_, rfl, hc⟩, trivial⟩) (fun hc => q_loadp rfl rfl Try.underlying102 rfl seesFA) ?_
  refine d1gI (i := 26) [] rfl (by kernel_rfl) rfl (fun _ _ _ _ h => h) (guard_some rfl rfl rfl) rfl hn rfl (fun hc => trivial) (fun hc => q_fieldAddrp rfl rfl Try.underlying119 rfl sz3 rfl) ?_
  refine d1gI (i := 27) [(37, _)] rfl (by kernel_rfl) rfl (fun _ _ _ _ h => h) (guard_some rfl rfl rfl) rfl hn rfl (fun hc => ⟨⟨_, rfl, hc⟩, trivial⟩) (fun hc => q_loadp rfl rfl Try.underlying3 rfl seesFA) ?_
  refine d1gI (i := 28) [(38, _)] rfl (by kernel_rfl) rfl (fun _ _ _ _ h => h) (guard_some rfl rfl rfl) rfl hn rfl (fun hc => ⟨⟨_, rfl, hc⟩, trivial⟩) (fun hc => q_shl rfl rfl rfl (by omega) (by show _ ≤ (64 : Int); omega) (shl_bit (by omega))) ?_
  refine d1gI (i := 29) [(36, _), (39, _)] rfl (by kernel_rfl) rfl (fun _ _ _ _ h => h) (guard_some rfl rfl rfl) rfl hn rfl (fun hc => ⟨⟨_, rfl, hc⟩, ⟨_, rfl, hc⟩, trivial⟩) (fun hc => q_bitor rfl rfl rfl (or_bits hm (pow_lt (by omega)))) ?_
  refine d1gI (i := 30) [(31, _), (34, _), (40, _)] rfl (by kernel_rfl) rfl (fun _ _ _ _ h => h) (guard_some rfl rfl rfl) rfl hn rfl (fun hc => ⟨⟨_, rfl, hc⟩, ⟨_, rfl, hc⟩, ⟨_, rfl, hc⟩, trivial⟩) (fun hc => q_buildd rfl bt119 rfl rfl rfl rfl rfl) ?_
  refine d1_of_d2I ?_
  refine d2_oneI (i := 31) (by kernel_rfl) rfl (s_yield [(41, _), (29, _)] (i0) (fun hc => hy 0 [spotD d (n + 1) (m ||| 2 ^ n)] i0 (next_first (by simpa [inE] using hc)) hA0) rfl (guard_some rfl rfl rfl) rfl (nb hn rfl) (fun hc => ⟨⟨_, rfl, hc⟩, ⟨_, rfl, hc⟩, trivial⟩) rfl rfl (.refl _) rfl (fun _ _ => trivial)) fun ⟨⟨b1, i1⟩, hp1, hp0⟩ => ?_
  refine d2_of_d1I ?_
  refine d1gI (i := 32) [(42, _)] rfl (by kernel_rfl) rfl (fun _ _ _ _ h => h) (guard_some rfl rfl rfl) rfl hn rfl (fun hc => ⟨⟨_, rfl, hc⟩, trivial⟩) (fun hc => q_not rfl rfl) ?_
  refine d1qI (i := 33) rfl (by kernel_rfl) rfl (fun _ _ _ _ h => h) rfl rfl hn rfl (q_and rfl rfl rfl (by simp_all)) ?_
  refine d1_of_d2I ?_
  refine d2_doneI (by kernel_rfl) ?_
  refine aend_thenI ?_
  refine awi_cond rfl (fun hb0 => ?_) (fun hb0 => ?_)
  · skip
    have hA : (inE e d && canB r n m) = true := by simp [inE] at hb0 ⊢; exact hb0.1
    have hb1 : b1 = false := by simp at hb0; exact hb0.2
    refine awi_ret ?_
    refine aend_then_ret ?_
    exact ret_E (.inl rfl) ⟨i1, .inr ((hp1 (by simpa [inE, Bool.and_assoc] using hA)).2 hb1)⟩ (hands_0 rfl) ⟨rfl, trivial⟩
  · skip
    have hA1 : A (bif inE e d && canB r n m then 1 else 0) i1 := by
      rcases Bool.eq_false_or_eq_true (inE e d && canB r n m) with hA | hA
      · have hb1 : b1 = true := by simp [inE] at hb0 hA; exact hb0 hA.1.1 hA.1.2 hA.2
        rw [hA]; exact (hp1 (by simpa [inE, Bool.and_assoc] using hA)).1 hb1
      · rw [hA]; have hi := hp0 (by simpa [inE, Bool.and_assoc] using hA); simp only at hi; rw [hi]; exact hA0
    refine awi_skip ?_
    refine aend_thenI ?_
    refine awi_seq ?_
    refine awi_region ?_
    refine sqI rfl rfl hn rfl (q_fieldAddrp rfl rfl Try.underlying119 rfl sz102 rfl) rfl ?_
    refine sqI rfl rfl hn rfl (q_loadp rfl rfl Try.underlying102 rfl seesF0) rfl ?_
    refine sqI rfl rfl hn rfl (q_fieldAddrp rfl rfl Try.underlying119 rfl sz3 rfl) rfl ?_
    refine sqI rfl rfl hn rfl (q_loadp rfl rfl Try.underlying3 rfl seesF0) rfl ?_
    refine stepWI ((s_call [] (fun _ => has_ok m n hm (by omega)) rfl (guard_none rfl) rfl (nb hn rfl) (fun _ => trivial) rfl rfl (.refl _)).i rfl) fun _ => ?_
    refine sqI rfl rfl hn rfl (q_move rfl rfl) rfl ?_
    refine stepGI [] (guard_some rfl rfl rfl) rfl (nb hn rfl) (fun hc => trivial) (fun hc => q_fieldAddrp rfl rfl Try.underlying95 rfl sz45 rfl) rfl ?_
    refine stepGI [(51, _)] (guard_some rfl rfl rfl) rfl (nb hn rfl) (fun hc => ⟨⟨_, rfl, hc⟩, trivial⟩) (fun hc => q_fieldAddrp rfl rfl Try.underlying45 rfl sz3 rfl) rfl ?_
    refine stepGI [(52, _)] (guard_some rfl rfl rfl) rfl (nb hn rfl) (fun hc => ⟨⟨_, rfl, hc⟩, trivial⟩) (fun hc => q_loadp rfl rfl Try.underlying3 rfl seesF0) rfl ?_
    refine stepGI [] (guard_some rfl rfl rfl) rfl (nb hn rfl) (fun hc => trivial) (fun hc => q_fieldAddrp rfl rfl Try.underlying119 rfl sz3 rfl) rfl ?_
    refine stepGI [(54, _)] (guard_some rfl rfl rfl) rfl (nb hn rfl) (fun hc => ⟨⟨_, rfl, hc⟩, trivial⟩) (fun hc => q_loadp rfl rfl Try.underlying3 rfl seesF0) rfl ?_
    refine stepGI [(53, _), (55, _)] (guard_some rfl rfl rfl) rfl (nb hn rfl) (fun hc => ⟨⟨_, rfl, hc⟩, ⟨_, rfl, hc⟩, trivial⟩) (fun hc => q_gtr rfl rfl rfl) rfl ?_
    refine sqI rfl rfl hn rfl (q_or rfl rfl rfl (by simp_all)) rfl ?_
    refine run_nilI ?_
    refine aend_thenI ?_
    refine awi_cond rfl (fun hb1 => ?_) (fun hb1 => ?_)
    · skip
      refine awi_region ?_
      refine sqI rfl rfl hn rfl (q_move rfl rfl) rfl ?_
      refine sqI rfl rfl hn rfl (q_fieldAddrp rfl rfl Try.underlying119 rfl sz3 rfl) rfl ?_
      refine sqI rfl rfl hn rfl (q_loadp rfl rfl Try.underlying3 rfl seesF0) rfl ?_
      refine sqI rfl rfl hn rfl (q_fieldAddrp rfl rfl Try.underlying119 rfl sz3 rfl) rfl ?_
      refine sqI rfl rfl hn rfl (q_loadp rfl rfl Try.underlying3 rfl seesF0) rfl ?_
      refine sqI rfl rfl hn rfl (q_add rfl rfl rfl (r := ((n + 1 : Nat) : Int)) (i64w (by omega) (by omega))) rfl ?_
      refine sqI rfl rfl hn rfl (q_fieldAddrp rfl rfl Try.underlying119 rfl sz102 rfl) rfl ?_
      refine sqI rfl rfl hn rfl (q_loadp rfl rfl Try.underlying102 rfl seesF0) rfl ?_
      refine sqI rfl rfl hn rfl (q_buildd rfl bt119 rfl rfl rfl rfl rfl) rfl ?_
      refine stepWI (s_yield [] (i1) (fun _ => hy _ [spotD d (n + 1) m] i1 (next_second (by simpa using hb1)) hA1) rfl (guard_none rfl) rfl (nb hn rfl) (fun _ => trivial) rfl rfl (.refl _) rfl (fun _ _ => trivial)) fun ⟨⟨b2, i2⟩, hq1, hq0⟩ => ?_
      refine run_nilI ?_
      exact ret_E (.inr rfl) ⟨i2, by rw [next_len_t (by simpa using hb1)]; cases b2; exact .inr ((hq1 rfl).2 rfl); exact .inl ((hq1 rfl).1 rfl)⟩ (hands_0 rfl) ⟨rfl, trivial⟩
    · skip
      refine awi_skip ?_
      exact ret_E (.inr rfl) ⟨i1, .inl (by rw [next_len_f (by simpa using hb1)]; exact hA1)⟩ (hands_0 rfl) ⟨rfl, trivial⟩
/-- What is known is right. -/
def Good (r : Reg) (M : D → D → Prop) : Prop := ∀ x y, M x y → ∃ d n m, x = spotD d n m ∧ y = .bool (goesB r d n m)
def GoesOK (r : Reg) (b k : Nat) : Prop := ∀ (d n m : Nat) (M : D → D → Prop), d ≤ 10 → n ≤ r.entries.length → m < 2 ^ r.entries.length → muS r d n < k → Good r M →
  EffAt Try.prog 68 [.d (.ptr (workC r b)), .d (spotD d n m)] [(1000, mapRes KS b M)] (X := {M // Good r M}) (fun _ => .d (.bool (goesB r d n m))) (fun M => [(1000, mapRes KS b M.1)])
theorem look_bool {r : Reg} {M : D → D → Prop} {d n m : Nat} (hM : Good r M) (lr : {q : Option D // (∀ x, q = some x → M (spotD d n m) x) ∧ (q = none → ∀ x, ¬ M (spotD d n m) x)}) :
    ∃ xb : Bool, lr.1.getD (.bool false) = .bool xb ∧ (lr.1.isSome = true → xb = goesB r d n m) ∧ (lr.1.isSome = false → xb = false) := by
  obtain ⟨q, h1, h2⟩ := lr
  cases q with
  | none => exact ⟨false, rfl, fun h => (by cases h), fun _ => rfl⟩
  | some x =>
    obtain ⟨d', n', m', e1, e2⟩ := hM _ _ (h1 x rfl)
    have e3 := D.agg.inj e1
    simp only [spotC, List.cons.injEq, D.int.injEq, true_and, and_true, Int.natCast_inj] at e3
    obtain ⟨rfl, rfl, rfl⟩ := e3
    exact ⟨_, e2, fun _ => rfl, fun h => (by cases h)⟩
theorem good_set {r : Reg} {M : D → D → Prop} {d n m : Nat} {x : Bool} (hM : Good r M) (hx : x = goesB r d n m) : Good r (setM M (spotD d n m) (.bool x)) := fun a c h => by
  rcases h with ⟨rfl, rfl⟩ | ⟨_, h⟩
  · exact ⟨d, n, m, rfl, by rw [hx]⟩
  · exact hM a c h
theorem nextXs_len (r : Reg) (d n m : Nat) : ∀ x ∈ nextXs r d n m, x.length = (#[51] : Array Tmp).size := fun x hx => by
  obtain ⟨s, _, rfl⟩ := List.mem_map.1 hx
  rfl
theorem nextXs_get {r : Reg} {d n m j : Nat} {x : List D} (h : (nextXs r d n m)[j]? = some x) : ∃ s, (nextL r d n m)[j]? = some s ∧ x = spotX s := by
  simp only [nextXs, List.getElem?_map, Option.map_eq_some_iff] at h
  obtain ⟨s, h1, h2⟩ := h
  exact ⟨s, h1, h2.symm⟩
theorem next_lt {m m' n k : Nat} (hm : m < 2 ^ k) (hn : n < k) (h : m' = m ∨ m' = m ||| 2 ^ n) : m' < 2 ^ k := by
  rcases h with rfl | rfl
  · exact hm
  · exact Nat.or_lt_two_pow hm (Nat.pow_lt_pow_right (by omega) hn)
theorem goes_step (r : Reg) (v : Valid r) (b k : Nat) (ih : GoesOK r b k) (d n m : Nat) (M : D → D → Prop) (hd : d ≤ 10) (hn6 : n ≤ r.entries.length) (hm : m < 2 ^ r.entries.length) (hk : muS r d n < k + 1) (hM : Good r M) : EffAt Try.prog 68 [.d (.ptr (workC r b)), .d (spotD d n m)] [(1000, mapRes KS b M)] (X := {M // Good r M}) (fun _ => .d (.bool (goesB r d n m))) (fun M => [(1000, mapRes KS b M.1)]) := by
  have he6 := v.e6
  have hm64 := lt64 he6 hm
  refine EffAt.of_awpM Try.func68 rfl (by kernel_rfl) rfl fun Γ hn => ?_
  refine awp_seq ?_
  refine awp_region ?_
  refine stepW (s_box 2 rfl rfl rfl (nb hn rfl) rfl rfl) fun b2 => ?_
  refine stepW (s_box 3 rfl rfl rfl (nb hn rfl) rfl rfl) fun b3 => ?_
  refine sq rfl rfl hn rfl (q_assign rfl rfl) ?_
  refine run_nil ?_
  refine aend_then ?_
  refine awp_seq ?_
  refine awp_seq ?_
  refine gh_awp (g_freeze (t := 2) 2 rfl (nb hn rfl) rfl rfl trivial) ?_
  refine gh_awp (g_freeze (t := 3) 3 rfl (nb hn rfl) rfl rfl trivial) ?_
  refine awp_region ?_
  refine sq rfl rfl hn rfl (q_fieldAddrp rfl rfl Try.underlying119 rfl sz3 rfl) ?_
  refine sq rfl rfl hn rfl (q_loadp rfl rfl Try.underlying3 rfl seesF0) ?_
  refine sq rfl rfl hn rfl (q_gtr rfl rfl rfl) ?_
  refine run_nil ?_
  refine aend_then ?_
  refine awp_cond rfl (fun hb0 => ?_) (fun hb0 => ?_)
  · try simp only [decide_eq_true_eq, decide_eq_false_iff_not, Bool.and_eq_true, Bool.or_eq_true, Bool.and_eq_false_iff, Bool.or_eq_false_iff, Bool.not_eq_true', Bool.not_eq_false', beq_iff_eq, bne_iff_ne, ne_eq, beq_eq_false_iff_ne, bne_eq_false_iff_eq, Int.not_lt, Int.not_le] at hb0
    refine awp_seq ?_
    refine awp_region ?_
    refine sq rfl rfl hn rfl (q_assign rfl rfl) ?_
    refine run_nil ?_
    refine aend_then ?_
    refine awp_ret ?_
    refine aend_then_ret ?_
    exact ret_M (.inl rfl) ⟨M, hM⟩ (.inl rfl) ((hands_1 rfl (.tmp rfl)).eq (by rw [goesB_end (by omega)]; rfl)) ⟨rfl, trivial⟩ rfl
  · try simp only [decide_eq_true_eq, decide_eq_false_iff_not, Bool.and_eq_true, Bool.or_eq_true, Bool.and_eq_false_iff, Bool.or_eq_false_iff, Bool.not_eq_true', Bool.not_eq_false', beq_iff_eq, bne_iff_ne, ne_eq, beq_eq_false_iff_ne, bne_eq_false_iff_eq, Int.not_lt, Int.not_le] at hb0
    have hd9 : d ≤ 9 := by omega
    refine awp_skip ?_
    refine aend_then ?_
    refine awp_seq ?_
    refine awp_join_on (e := .normal) (ι := {x : Nat × Bool × Bool // (x.2.2 = true → x.2.1 = goesB r d n m) ∧ (x.2.2 = false → x.2.1 = false)}) (fun x => (5, true, .val (.pointer (some ⟨x.1.1, 0, none⟩))) :: (6, true, .d (.bool x.1.2.2)) :: anys [14, 15, 16, 17, 18, 19, 13, 20, 21]) (fun x => [(5, .box x.1.1 4 [.d (.bool x.1.2.1)])]) (fun hJ1 => ?_) ?_
    · skip
      refine d_start (W := fun b => True) fmo ?_
      refine d1q (i := 0) rfl (by kernel_rfl) (fun _ _ _ _ h => h) rfl rfl hn rfl (q_loadp rfl rfl Try.underlying115 rfl seesFA) ?_
      refine d1q (i := 1) rfl (by kernel_rfl) (fun _ _ _ _ h => h) rfl rfl hn rfl (q_nilCheckp rfl rfl) ?_
      refine d1q (i := 2) rfl (by kernel_rfl) (fun _ _ _ _ h => h) rfl rfl hn rfl (q_fieldAddrp rfl rfl Try.underlying144 rfl sz142 rfl) ?_
      refine d1q (i := 3) rfl (by kernel_rfl) (fun _ _ _ _ h => h) rfl rfl hn rfl (q_loadp rfl rfl Try.underlying142 rfl seesFA) ?_
      refine d1q (i := 4) rfl (by kernel_rfl) (fun _ _ _ _ h => h) rfl rfl hn rfl (q_loadpA rfl rfl Try.underlying119 rfl sz119 rfl rfl seesFA) ?_
      refine d1_of_d2 ?_
      refine d2_all 5 [9] (by kernel_rfl) ⟨?_, ?_, trivial⟩
      · skip
        refine br rfl (s_lookup (id := 1000) (zd := (.bool false)) rfl rfl rfl (nb hn rfl) spot_law Try.underlying142 zr4 rfl (.d rfl) rfl rfl (spot_kv hd (by omega) hm64) rfl) fun lr => ?_
        obtain ⟨xb, hx1, hx2⟩ := look_bool hM lr
        rw [hx1]
        refine d2_of_d1 ?_
        refine d1q (i := 6) rfl (by kernel_rfl) (fun _ _ _ _ h => h) rfl rfl hn rfl (q_move rfl rfl) ?_
        refine d1q (i := 7) rfl (by kernel_rfl) (fun _ _ _ _ h => h) rfl rfl hn rfl (q_extractd rfl rfl rfl) ?_
        refine d1q (i := 8) rfl (by kernel_rfl) (fun _ _ _ _ h => h) rfl rfl hn rfl (q_extractd rfl rfl rfl) ?_
        refine d1_of_d2 ?_
        refine d2_one (i := 9) (by kernel_rfl) rfl (s_alloc 5 rfl rfl rfl (nb hn rfl) zr4 rfl rfl) fun b5 => ?_
        refine d2_of_d1 ?_
        refine d1_of_d2 ?_
        refine d2_one (i := 10) (by kernel_rfl) rfl (s_store1 rfl rfl rfl rfl rfl rfl (id := 5) rfl sz4 (Nat.le_of_ble_eq_true rfl) rfl trivial) fun _ => ?_
        refine d2_of_d1 ?_
        refine d1q (i := 11) rfl (by kernel_rfl) (fun _ _ _ _ h => h) rfl rfl hn rfl (q_assign rfl rfl) ?_
        refine d1_of_d2 ?_
        refine d2_done (by kernel_rfl) ?_
        exact aend_join_on hJ1 ⟨(b5, xb, lr.1.isSome), hx2⟩ ⟨.inl rfl, .inl rfl, holdT_anys _⟩ ⟨.inl rfl, trivial⟩ (by repeat (first | exact kr _ | refine kc rfl ?_)) (by repeat (first | exact kr _ | refine kc rfl ?_))
      · skip
        refine br rfl (s_alloc 5 rfl rfl rfl (nb hn rfl) zr4 rfl rfl) fun b5 => ?_
        refine d2_of_d1 ?_
        refine d1_of_d2 ?_
        refine d2_one (i := 5) (by kernel_rfl) rfl (s_lookup (id := 1000) (zd := (.bool false)) rfl rfl rfl (nb hn rfl) spot_law Try.underlying142 zr4 rfl (.d rfl) rfl rfl (spot_kv hd (by omega) hm64) rfl) fun lr => ?_
        obtain ⟨xb, hx1, hx2⟩ := look_bool hM lr
        rw [hx1]
        refine d2_of_d1 ?_
        refine d1q (i := 6) rfl (by kernel_rfl) (fun _ _ _ _ h => h) rfl rfl hn rfl (q_move rfl rfl) ?_
        refine d1q (i := 7) rfl (by kernel_rfl) (fun _ _ _ _ h => h) rfl rfl hn rfl (q_extractd rfl rfl rfl) ?_
        refine d1q (i := 8) rfl (by kernel_rfl) (fun _ _ _ _ h => h) rfl rfl hn rfl (q_extractd rfl rfl rfl) ?_
        refine d1_of_d2 ?_
        refine d2_one (i := 10) (by kernel_rfl) rfl (s_store1 rfl rfl rfl rfl rfl rfl (id := 5) rfl sz4 (Nat.le_of_ble_eq_true rfl) rfl trivial) fun _ => ?_
        refine d2_of_d1 ?_
        refine d1q (i := 11) rfl (by kernel_rfl) (fun _ _ _ _ h => h) rfl rfl hn rfl (q_assign rfl rfl) ?_
        refine d1_of_d2 ?_
        refine d2_done (by kernel_rfl) ?_
        exact aend_join_on hJ1 ⟨(b5, xb, lr.1.isSome), hx2⟩ ⟨.inl rfl, .inl rfl, holdT_anys _⟩ ⟨.inl rfl, trivial⟩ (by repeat (first | exact kr _ | refine kc rfl ?_)) (by repeat (first | exact kr _ | refine kc rfl ?_))
    · rintro ⟨⟨b5, is, kn⟩, hkn, hkf⟩
      dsimp only
      dsimp only at hkn hkf
      refine aend_then ?_
      refine awp_seq ?_
      refine awp_seq ?_
      refine awp_region ?_
      refine sq rfl rfl hn rfl (q_move rfl rfl) ?_
      refine run_nil ?_
      refine aend_then ?_
      refine awp_cond rfl (fun hb2 => ?_) (fun hb2 => ?_)
      · skip
        refine awp_seq ?_
        refine awp_region ?_
        refine sq rfl rfl hn rfl (q_load rfl rfl (id := 5) rfl Try.underlying4 rfl rfl sees0) ?_
        refine sq rfl rfl hn rfl (q_assign rfl rfl) ?_
        refine run_nil ?_
        refine aend_then ?_
        refine awp_ret ?_
        refine aend_then_ret ?_
        exact ret_M (.inl rfl) ⟨M, hM⟩ (.inl rfl) ((hands_1 rfl (.tmp rfl)).eq (by rw [hkn hb2])) ⟨rfl, trivial⟩ rfl
      · skip
        have his : is = false := hkf hb2
        subst his
        refine awp_skip ?_
        refine aend_then ?_
        refine awp_seq ?_
        refine awp_seq ?_
        refine d_start (W := fun b => True) fmo ?_
        refine d1q (i := 0) rfl (by kernel_rfl) (fun _ _ _ _ h => h) rfl rfl hn rfl (q_fieldAddrp rfl rfl Try.underlying119 rfl sz3 rfl) ?_
        refine d1q (i := 1) rfl (by kernel_rfl) (fun _ _ _ _ h => h) rfl rfl hn rfl (q_loadp rfl rfl Try.underlying3 rfl seesFA) ?_
        refine d1q (i := 2) rfl (by kernel_rfl) (fun _ _ _ _ h => h) rfl rfl hn rfl (q_loadp rfl rfl Try.underlying115 rfl seesFA) ?_
        refine d1q (i := 3) rfl (by kernel_rfl) (fun _ _ _ _ h => h) rfl rfl hn rfl (q_nilCheckp rfl rfl) ?_
        refine d1q (i := 4) rfl (by kernel_rfl) (fun _ _ _ _ h => h) rfl rfl hn rfl (q_fieldAddrp rfl rfl Try.underlying144 rfl sz35 rfl) ?_
        refine d1q (i := 5) rfl (by kernel_rfl) (fun _ _ _ _ h => h) rfl rfl hn rfl (q_fieldAddrp rfl rfl Try.underlying35 rfl sz32 rfl) ?_
        refine d1q (i := 6) rfl (by kernel_rfl) (fun _ _ _ _ h => h) rfl rfl hn rfl (q_loadp rfl rfl Try.underlying32 rfl seesFA) ?_
        refine d1q (i := 7) rfl (by kernel_rfl) (fun _ _ _ _ h => h) rfl rfl hn rfl (q_len rfl rfl Try.underlying32) ?_
        refine d1q (i := 8) rfl (by kernel_rfl) (fun _ _ _ _ h => h) rfl rfl hn rfl (q_eql rfl rfl rfl) ?_
        refine d1_of_d2 ?_
        refine d2_done (by kernel_rfl) ?_
        refine aend_then ?_
        refine awp_cond rfl (fun hb3 => ?_) (fun hb3 => ?_)
        · try simp only [decide_eq_true_eq, decide_eq_false_iff_not, Bool.and_eq_true, Bool.or_eq_true, Bool.and_eq_false_iff, Bool.or_eq_false_iff, Bool.not_eq_true', Bool.not_eq_false', beq_iff_eq, bne_iff_ne, ne_eq, beq_eq_false_iff_ne, bne_eq_false_iff_eq, Int.not_lt, Int.not_le] at hb3
          have hnl : n = r.entries.length := by simp only [List.length_map] at hb3; omega
          subst hnl
          refine awp_seq ?_
          refine awp_region ?_
          refine sq rfl rfl hn rfl (q_loadp rfl rfl Try.underlying115 rfl seesF0) ?_
          refine sq rfl rfl hn rfl (q_loadpA rfl rfl Try.underlying119 rfl sz119 rfl rfl seesF0) ?_
          refine stepW (s_call [] (fun _ => closed_ok r b d _ m v hd9 hm64) rfl (guard_none rfl) rfl (nb hn rfl) (fun _ => trivial) rfl rfl (.refl _)) fun _ => ?_
          refine sq rfl rfl hn rfl (q_move rfl rfl) ?_
          refine sq rfl rfl hn rfl (q_extractd rfl rfl rfl) ?_
          refine sq rfl rfl hn rfl (q_extractd rfl rfl rfl) ?_
          refine stepW (s_alloc 7 rfl rfl rfl (nb hn rfl) zr119 rfl rfl) fun b7 => ?_
          refine stepW (s_store rfl rfl rfl rfl rfl rfl (id := 7) rfl sz119 rfl (Nat.le_of_ble_eq_true rfl) rfl trivial) fun _ => ?_
          refine sq rfl rfl hn rfl (q_assign rfl rfl) ?_
          refine run_nil ?_
          refine aend_then ?_
          refine awp_region ?_
          refine sq rfl rfl hn rfl (q_move rfl rfl) ?_
          refine sq rfl rfl hn rfl (q_move rfl rfl) ?_
          refine stepG [] (guard_some rfl rfl rfl) rfl (nb hn rfl) (fun hc => trivial) (fun hc => q_loadp rfl rfl Try.underlying115 rfl seesF0) ?_
          refine stepG [] (guard_some rfl rfl rfl) rfl (nb hn rfl) (fun hc => trivial) (fun hc => q_loadAd rfl rfl (id := 7) rfl Try.underlying119 rfl sz119 rfl rfl sees0) ?_
          refine stepW (s_callEg [(41, _), (42, _)] ⟨M, hM⟩ (fun hc => ih (d + 1) 0 m M (by omega) (by omega) hm (by have := muS_day (r := r) (n := r.entries.length) hd9; omega) hM) rfl (guard_some rfl rfl rfl) rfl (nb hn rfl) (fun hc => ⟨⟨_, rfl, hc⟩, ⟨_, rfl, hc⟩, trivial⟩) (.d rfl) rfl (.refl _) ⟨rfl, trivial⟩ (fun _ => rfl) (fun _ _ => trivial) ⟨rfl, trivial⟩) fun ⟨⟨M1, hM1⟩, hc1⟩ => ?_
          refine sq rfl rfl hn rfl (q_and rfl rfl rfl (by simp_all)) ?_
          refine stepW (s_store1 rfl rfl rfl rfl rfl rfl (id := 5) rfl sz4 (Nat.le_of_ble_eq_true rfl) rfl trivial) fun _ => ?_
          refine run_nil ?_
          refine aend_then ?_
          refine awp_seq ?_
          refine gh_awp (g_freeze (t := 5) 5 rfl (nb hn rfl) rfl rfl trivial) ?_
          refine d_start (W := fun b => True) fmo ?_
          refine d1q (i := 0) rfl (by kernel_rfl) (fun _ _ _ _ h => h) rfl rfl hn rfl (q_loadp rfl rfl Try.underlying115 rfl seesFA) ?_
          refine d1q (i := 1) rfl (by kernel_rfl) (fun _ _ _ _ h => h) rfl rfl hn rfl (q_nilCheckp rfl rfl) ?_
          refine d1q (i := 2) rfl (by kernel_rfl) (fun _ _ _ _ h => h) rfl rfl hn rfl (q_fieldAddrp rfl rfl Try.underlying144 rfl sz142 rfl) ?_
          refine d1q (i := 3) rfl (by kernel_rfl) (fun _ _ _ _ h => h) rfl rfl hn rfl (q_loadp rfl rfl Try.underlying142 rfl seesFA) ?_
          refine d1q (i := 4) rfl (by kernel_rfl) (fun _ _ _ _ h => h) rfl rfl hn rfl (q_loadpA rfl rfl Try.underlying119 rfl sz119 rfl rfl seesFA) ?_
          refine d1q (i := 5) rfl (by kernel_rfl) (fun _ _ _ _ h => h) rfl rfl hn rfl (q_loadp rfl rfl Try.underlying4 rfl seesFA) ?_
          refine d1_of_d2 ?_
          refine d2_one (i := 6) (by kernel_rfl) rfl (s_mapUpdate (id := 1000) rfl rfl rfl spot_law Try.underlying142 (.d rfl) rfl rfl (spot_kv hd (by omega) hm64) rfl rfl rfl rfl trivial) fun _ => ?_
          refine d2_of_d1 ?_
          refine d1_of_d2 ?_
          refine d2_done (by kernel_rfl) ?_
          refine aend_then ?_
          refine awp_seq ?_
          refine awp_region ?_
          refine sq rfl rfl hn rfl (q_loadp rfl rfl Try.underlying4 rfl seesF0) ?_
          refine sq rfl rfl hn rfl (q_assign rfl rfl) ?_
          refine run_nil ?_
          refine aend_then ?_
          refine awp_ret ?_
          exact ret_M (.inl rfl) ⟨_, good_set hM1 (goesB_day hd9).symm⟩ (.inl rfl) ((hands_1 rfl (.tmp rfl)).eq (by rw [goesB_day (by omega)])) ⟨rfl, trivial⟩ rfl
        · try simp only [decide_eq_true_eq, decide_eq_false_iff_not, Bool.and_eq_true, Bool.or_eq_true, Bool.and_eq_false_iff, Bool.or_eq_false_iff, Bool.not_eq_true', Bool.not_eq_false', beq_iff_eq, bne_iff_ne, ne_eq, beq_eq_false_iff_ne, bne_eq_false_iff_eq, Int.not_lt, Int.not_le] at hb3
          have hnl : n < r.entries.length := by simp only [List.length_map] at hb3; omega
          obtain ⟨e, he⟩ := ex_get hnl
          refine awp_seq ?_
          refine d_start (W := fun b => True) fmo ?_
          refine d1q (i := 0) rfl (by kernel_rfl) (fun _ _ _ _ h => h) rfl rfl hn rfl (q_loadp rfl rfl Try.underlying115 rfl seesFA) ?_
          refine d1q (i := 1) rfl (by kernel_rfl) (fun _ _ _ _ h => h) rfl rfl hn rfl (q_nilCheckp rfl rfl) ?_
          refine d1q (i := 2) rfl (by kernel_rfl) (fun _ _ _ _ h => h) rfl rfl hn rfl (q_fieldAddrp rfl rfl Try.underlying144 rfl sz35 rfl) ?_
          refine d1q (i := 3) rfl (by kernel_rfl) (fun _ _ _ _ h => h) rfl rfl hn rfl (q_loadpA rfl rfl Try.underlying35 rfl sz35 rfl rfl seesFA) ?_
          refine d1q (i := 4) rfl (by kernel_rfl) (fun _ _ _ _ h => h) rfl rfl hn rfl (q_loadpA rfl rfl Try.underlying119 rfl sz119 rfl rfl seesFA) ?_
          refine d1_of_d2 ?_
          refine d2_one (i := 5) (by kernel_rfl) rfl (s_call [] (fun _ => next_ok _ _ _ _) rfl (guard_none rfl) rfl (nb hn rfl) (fun _ => trivial) rfl rfl (.refl _)) fun _ => ?_
          refine d2_of_d1 ?_
          refine d1_of_d2 ?_
          refine d2_done (by kernel_rfl) ?_
          refine aend_then ?_
          refine awp_block ?_
          refine awp_rangeFunc (ι := {x : Bool × (D → D → Prop) // Good r x.2}) (fun x => [(5, .box b5 4 [.d (.bool x.1.1)]), (1000, mapRes KS b x.1.2)]) (fun j x => x.1.1 = ((nextL r d n m).take j).any fun s => goesB r s.1 s.2.1 s.2.2) (fun _ _ => False) ⟨(false, M), hM⟩ ((next1_ok r d n m e he v hd9 (by omega) hm64)) rfl (nextXs_len r d n m) (by rw [hn]; rfl) (.inl rfl) ⟨rfl, rfl, trivial⟩ rfl (fun _ => rfl) (fun _ => rfl) rfl rfl ?_ ?_ ?_
          · rintro l0 r0 Γr j0 x0 ⟨⟨is1, M1⟩, hM1⟩ hnr hrd hx0 hA0
            dsimp only at hA0
            obtain ⟨s, hs, rfl⟩ := nextXs_get hx0
            have hsm := nextL_mem (List.mem_of_getElem? hs)
            obtain ⟨s1, s2, s3⟩ := s
            obtain rfl : d = s1 := hsm.1.symm
            obtain rfl : n + 1 = s2 := hsm.2.1.symm
            have hs3 := hsm.2.2.1
            dsimp only at hs3
            have hs3b : s3 < 2 ^ r.entries.length := next_lt hm hnl hs3
            refine awi_region ?_
            refine stepWI ((s_alloc 9 rfl rfl rfl (nb (hnr.trans hn) rfl) zr119 rfl rfl).i rfl) fun b9 => ?_
            refine stepWI ((s_store rfl rfl rfl rfl rfl rfl (id := 9) rfl sz119 rfl (Nat.le_of_ble_eq_true rfl) rfl trivial).i rfl) fun _ => ?_
            refine run_nilI ?_
            refine aend_begin hrd rfl ?_
            refine awi_block ?_
            refine awi_region ?_
            refine sqI rfl rfl (hnr.trans hn) rfl (q_load rfl rfl (id := 5) rfl Try.underlying4 rfl rfl sees0) rfl ?_
            refine sqI rfl rfl (hnr.trans hn) rfl (q_move rfl rfl) rfl ?_
            refine stepGI [] (guard_some rfl rfl rfl) rfl (nb (hnr.trans hn) rfl) (fun hc => trivial) (fun hc => q_loadp rfl rfl Try.underlying115 rfl seesF0) rfl ?_
            refine stepGI [] (guard_some rfl rfl rfl) rfl (nb (hnr.trans hn) rfl) (fun hc => trivial) (fun hc => q_loadAd rfl rfl (id := 9) rfl Try.underlying119 rfl sz119 rfl rfl sees0) rfl ?_
            refine stepWI ((s_callEg [(54, _), (55, _)] ⟨M1, hM1⟩ (fun hc => ih d (n + 1) s3 M1 hd (by omega) hs3b (by have := muS_next (r := r) hd9 hnl; omega) hM1) rfl (guard_some rfl rfl rfl) rfl (nb (hnr.trans hn) rfl) (fun hc => ⟨⟨_, rfl, hc⟩, ⟨_, rfl, hc⟩, trivial⟩) (.d rfl) rfl (.refl _) ⟨rfl, trivial⟩ (fun _ => rfl) (fun _ _ => trivial) ⟨rfl, trivial⟩).i rfl) fun ⟨⟨M2, hM2⟩, hc2⟩ => ?_
            refine sqI rfl rfl (hnr.trans hn) rfl (q_or rfl rfl rfl (by simp_all)) rfl ?_
            refine stepWI ((s_store1 rfl rfl rfl rfl rfl rfl (id := 5) rfl sz4 (Nat.le_of_ble_eq_true rfl) rfl trivial).i rfl) fun _ => ?_
            refine run_nilI ?_
            refine aend_block ?_
            exact aend_round_go ⟨(is1 || goesB r d (n + 1) s3, M2), hM2⟩ (by show _ = _; rw [any_take hs, ← hA0]) ⟨rfl, rfl, rfl, trivial⟩
          · rintro ⟨⟨is1, M1⟩, hM1⟩ D0 hA0
            rw [show (nextXs r d n m).length = (nextL r d n m).length by simp [nextXs], List.take_length, ← goesB_next hd9 hnl] at hA0
            dsimp only at hA0
            subst hA0
            refine aend_block ?_
            refine aend_then ?_
            refine awp_seq ?_
            refine gh_awp (g_freeze (t := 5) 5 rfl (nb hn rfl) rfl rfl trivial) ?_
            refine d_start (W := fun b => True) fmo ?_
            refine d1q (i := 0) rfl (by kernel_rfl) (fun _ _ _ _ h => h) rfl rfl hn rfl (q_loadp rfl rfl Try.underlying115 rfl seesFA) ?_
            refine d1q (i := 1) rfl (by kernel_rfl) (fun _ _ _ _ h => h) rfl rfl hn rfl (q_nilCheckp rfl rfl) ?_
            refine d1q (i := 2) rfl (by kernel_rfl) (fun _ _ _ _ h => h) rfl rfl hn rfl (q_fieldAddrp rfl rfl Try.underlying144 rfl sz142 rfl) ?_
            refine d1q (i := 3) rfl (by kernel_rfl) (fun _ _ _ _ h => h) rfl rfl hn rfl (q_loadp rfl rfl Try.underlying142 rfl seesFA) ?_
            refine d1q (i := 4) rfl (by kernel_rfl) (fun _ _ _ _ h => h) rfl rfl hn rfl (q_loadpA rfl rfl Try.underlying119 rfl sz119 rfl rfl seesFA) ?_
            refine d1q (i := 5) rfl (by kernel_rfl) (fun _ _ _ _ h => h) rfl rfl hn rfl (q_loadp rfl rfl Try.underlying4 rfl seesFA) ?_
            refine d1_of_d2 ?_
            refine d2_one (i := 6) (by kernel_rfl) rfl (s_mapUpdate (id := 1000) rfl rfl rfl spot_law Try.underlying142 (.d rfl) rfl rfl (spot_kv hd (by omega) hm64) rfl rfl rfl rfl trivial) fun _ => ?_
            refine d2_of_d1 ?_
            refine d1_of_d2 ?_
            refine d2_done (by kernel_rfl) ?_
            refine aend_then ?_
            refine awp_seq ?_
            refine awp_region ?_
            refine sq rfl rfl hn rfl (q_loadp rfl rfl Try.underlying4 rfl seesF0) ?_
            refine sq rfl rfl hn rfl (q_assign rfl rfl) ?_
            refine run_nil ?_
            refine aend_then ?_
            refine awp_ret ?_
            exact ret_M (.inl rfl) ⟨_, good_set hM1 rfl⟩ (.inr rfl) ((hands_1 rfl (.tmp rfl)).eq rfl) ⟨rfl, trivial⟩ rfl
          · exact fun _ _ _ h => h.elim
end Go.Proofs.Ytnbmmopjkkofoaa
namespace Go.Proofs.Ytnbmmopjkkofoaa
open Go.RowKit
set_option maxRecDepth 20000
set_option linter.all false
theorem goes_all (r : Reg) (v : Valid r) (b : Nat) : ∀ k, GoesOK r b k := by
  intro k
  induction k with
  | zero => intro d n m M _ _ _ h; omega
  | succ k ih => intro d n m M h1 h2 h3 h4 h5; exact goes_step r v b k ih d n m M h1 h2 h3 h4 h5
theorem goes_ok (r : Reg) (v : Valid r) (b d n m : Nat) (M : D → D → Prop) (hd : d ≤ 10) (hn : n ≤ r.entries.length) (hm : m < 2 ^ r.entries.length) (hM : Good r M) :
    EffAt Try.prog 68 [.d (.ptr (workC r b)), .d (spotD d n m)] [(1000, mapRes KS b M)] (X := {M // Good r M}) (fun _ => .d (.bool (goesB r d n m))) (fun M => [(1000, mapRes KS b M.1)]) :=
  goes_all r v b _ d n m M hd hn hm (Nat.lt_succ_self _) hM
abbrev Spots := Nat → Nat → Nat → Prop
/-- Where the walk goes on from a spot: it ends with the evening N. -/
def succL (r : Reg) (N d n m : Nat) : List (Nat × Nat × Nat) := if n < r.entries.length then nextL r d n m else if d = N then [] else [(d + 1, 0, m)]
/-- What can be reached, all that is left being possible. -/
inductive Rch (r : Reg) (N : Nat) : Spots
  | start (h : goesB r 0 0 0 = true) : Rch r N 0 0 0
  | step {d n m : Nat} {s : Nat × Nat × Nat} (h : Rch r N d n m) (hs : s ∈ succL r N d n m) (hg : goesB r s.1 s.2.1 s.2.2 = true) : Rch r N s.1 s.2.1 s.2.2
theorem Rch.bd {r : Reg} {N d n m : Nat} (h : Rch r N d n m) (hN : N ≤ 9) : d ≤ N ∧ n ≤ r.entries.length ∧ m < 2 ^ r.entries.length := by
  induction h with
  | start => exact ⟨by omega, by omega, Nat.two_pow_pos _⟩
  | step _ hs _ ih =>
    unfold succL at hs
    split at hs
    · obtain ⟨e1, e2, e3, e4⟩ := nextL_mem hs
      exact ⟨by omega, by omega, next_lt ih.2.2 e4 e3⟩
    · split at hs
      · cases hs
      · rw [List.mem_singleton] at hs
        subst hs
        exact ⟨by dsimp only; omega, by dsimp only; omega, ih.2.2⟩
theorem nodup_le : ∀ (n : Nat) (l : List Nat), l.Nodup → (∀ x ∈ l, x < n) → l.length ≤ n
  | 0, l, _, h => by cases l with
    | nil => simp
    | cons x l => exact absurd (h x (by simp)) (by omega)
  | n + 1, l, hn, h => by
    have h1 := nodup_le n (l.filter (fun x => x != n)) (hn.filter _) (fun x hx => by
      rw [List.mem_filter] at hx
      have := h x hx.1
      have h2 : x ≠ n := by simpa using hx.2
      omega)
    have h2 : l.length ≤ (l.filter (fun x => x != n)).length + 1 := by
      clear h1 h
      induction l with
      | nil => simp
      | cons y l ih =>
        have hn' := List.nodup_cons.1 hn
        by_cases e : y = n
        · subst e
          have : l.filter (fun x => x != y) = l := List.filter_eq_self.2 fun x hx => by
            have : x ≠ y := fun e => hn'.1 (e ▸ hx)
            simpa using this
          simp [this]
        · have hy : (y != n) = true := by simpa using e
          rw [List.filter_cons, hy]
          simp only [if_true, List.length_cons]
          have := ih hn'.2
          omega
    omega
def VOK (r : Reg) (N : Nat) (Vis : Spots) (out : List Nat) : Prop := (∀ d n m, Vis d n m → Rch r N d n m) ∧ (∀ m, m ∈ out ↔ Vis N r.entries.length m) ∧ out.Nodup
def ClosedUp (r : Reg) (N : Nat) (Vis Vis' : Spots) : Prop := ∀ a b c, Vis' a b c → ¬ Vis a b c → ∀ s ∈ succL r N a b c, goesB r s.1 s.2.1 s.2.2 = true → Vis' s.1 s.2.1 s.2.2
/-- What a walk from a spot leaves. -/
def WPost (r : Reg) (N : Nat) (Vis : Spots) (d n m : Nat) (Vis' : Spots) (out' : List Nat) : Prop :=
  VOK r N Vis' out' ∧ (∀ a b c, Vis a b c → Vis' a b c) ∧ (goesB r d n m = true → Vis' d n m) ∧ ClosedUp r N Vis Vis'
def addV (Vis : Spots) (d n m : Nat) : Spots := fun a b c => Vis a b c ∨ (a = d ∧ b = n ∧ c = m)
/-- The same in the midst of it, some of the next ones being done. -/
def WMid (r : Reg) (N : Nat) (Vis1 : Spots) (ss : List (Nat × Nat × Nat)) (Vis' : Spots) (out' : List Nat) : Prop :=
  VOK r N Vis' out' ∧ (∀ a b c, Vis1 a b c → Vis' a b c) ∧ (∀ s ∈ ss, goesB r s.1 s.2.1 s.2.2 = true → Vis' s.1 s.2.1 s.2.2) ∧ ClosedUp r N Vis1 Vis'
theorem mid_step {r : Reg} {N : Nat} {Vis1 Vis' Vis'' : Spots} {ss : List (Nat × Nat × Nat)} {out' out'' : List Nat} {d n m : Nat} (h : WMid r N Vis1 ss Vis' out') (k : WPost r N Vis' d n m Vis'' out'') : WMid r N Vis1 (ss ++ [(d, n, m)]) Vis'' out'' := by
  obtain ⟨h1, h2, h3, h4⟩ := h
  obtain ⟨k1, k2, k3, k4⟩ := k
  refine ⟨k1, fun a b c ha => k2 a b c (h2 a b c ha), fun s hs hg => ?_, fun a b c ha hna s hs hg => ?_⟩
  · rcases List.mem_append.1 hs with hs | hs
    · exact k2 _ _ _ (h3 s hs hg)
    · rw [List.mem_singleton] at hs
      subst hs
      exact k3 hg
  · by_cases hv : Vis' a b c
    · exact k2 _ _ _ (h4 a b c hv hna s hs hg)
    · exact k4 a b c ha hv s hs hg
theorem mid_end {r : Reg} {N : Nat} {Vis Vis' : Spots} {out' : List Nat} {d n m : Nat} (h : WMid r N (addV Vis d n m) (succL r N d n m) Vis' out') : WPost r N Vis d n m Vis' out' := by
  obtain ⟨h1, h2, h3, h4⟩ := h
  refine ⟨h1, fun a b c ha => h2 a b c (.inl ha), fun _ => h2 d n m (.inr ⟨rfl, rfl, rfl⟩), fun a b c ha hna s hs hg => ?_⟩
  by_cases he : a = d ∧ b = n ∧ c = m
  · obtain ⟨rfl, rfl, rfl⟩ := he
    exact h3 s hs hg
  · exact h4 a b c ha (fun hv => hv.elim hna he) s hs hg
theorem mid_start {r : Reg} {N : Nat} {Vis : Spots} {out : List Nat} {d n m : Nat} (h : VOK r N Vis out) (hr : Rch r N d n m) (hne : ¬ (d = N ∧ n = r.entries.length)) : WMid r N (addV Vis d n m) [] (addV Vis d n m) out :=
  ⟨⟨fun a b c ha => ha.elim (h.1 a b c) (fun ⟨e1, e2, e3⟩ => by rw [e1, e2, e3]; exact hr), fun x => (h.2.1 x).trans ⟨.inl, fun hx => hx.resolve_right fun ⟨e1, e2, _⟩ => hne ⟨e1.symm, e2.symm⟩⟩, h.2.2⟩, fun _ _ _ h => h, fun s hs => (by cases hs), fun a b c ha hna => (hna ha).elim⟩
theorem post_seen {r : Reg} {N : Nat} {Vis : Spots} {out : List Nat} {d n m : Nat} (h : VOK r N Vis out) (hs : goesB r d n m = true → Vis d n m) : WPost r N Vis d n m Vis out :=
  ⟨h, fun _ _ _ h => h, hs, fun a b c ha hna => (hna ha).elim⟩
theorem post_end {r : Reg} {N : Nat} {Vis : Spots} {out : List Nat} {m : Nat} (h : VOK r N Vis out) (hr : Rch r N N r.entries.length m) (hnv : ¬ Vis N r.entries.length m) : WPost r N Vis N r.entries.length m (addV Vis N r.entries.length m) (out ++ [m]) := by
  refine ⟨⟨fun a b c ha => ha.elim (h.1 a b c) (fun ⟨e1, e2, e3⟩ => by rw [e1, e2, e3]; exact hr), fun x => ?_, ?_⟩, fun _ _ _ => .inl, fun _ => .inr ⟨rfl, rfl, rfl⟩, fun a b c ha hna s hs _ => ?_⟩
  · rw [List.mem_append, h.2.1 x, List.mem_singleton]
    exact ⟨fun hx => hx.imp id (fun e => ⟨rfl, rfl, e⟩), fun hx => hx.imp id (fun e => e.2.2)⟩
  · rw [List.nodup_append]
    refine ⟨h.2.2, by simp, fun x hx y hy => ?_⟩
    rw [List.mem_singleton] at hy
    subst hy
    intro e
    subst e
    exact hnv ((h.2.1 x).1 hx)
  · obtain ⟨rfl, rfl, rfl⟩ := ha.resolve_left hna
    simp [succL] at hs
/-- The spots where the walk has been, as a map. -/
def visM (Vis : Spots) (x y : D) : Prop := ∃ d n m, Vis d n m ∧ x = spotD d n m ∧ y = .bool true
theorem spotD_inj {d n m d' n' m' : Nat} (h : spotD d n m = spotD d' n' m') : d = d' ∧ n = n' ∧ m = m' := by
  have e3 := D.agg.inj h
  simpa only [spotC, List.cons.injEq, D.int.injEq, true_and, and_true, Int.natCast_inj] using e3
theorem vis_set (Vis : Spots) (d n m : Nat) : setM (visM Vis) (spotD d n m) (.bool true) = visM (addV Vis d n m) := by
  funext x y
  refine propext ⟨fun h => ?_, fun ⟨a, b, c, h, e1, e2⟩ => ?_⟩
  · rcases h with ⟨e1, e2⟩ | ⟨_, a, b, c, h, e1, e2⟩
    · exact ⟨d, n, m, .inr ⟨rfl, rfl, rfl⟩, e1, e2⟩
    · exact ⟨a, b, c, .inl h, e1, e2⟩
  · by_cases he : x = spotD d n m
    · exact .inl ⟨he, e2⟩
    · rcases h with h | ⟨rfl, rfl, rfl⟩
      · exact .inr ⟨he, a, b, c, h, e1, e2⟩
      · exact (he e1).elim
theorem vis_none : visM (fun _ _ _ => False) = fun _ _ => False := by
  funext x y
  exact propext ⟨fun ⟨_, _, _, h, _⟩ => h, fun h => h.elim⟩
theorem vis_look {Vis : Spots} {d n m : Nat} (lr : {q : Option D // (∀ x, q = some x → visM Vis (spotD d n m) x) ∧ (q = none → ∀ x, ¬ visM Vis (spotD d n m) x)}) : ∃ xb : Bool, lr.1.getD (.bool false) = .bool xb ∧ (xb = true → Vis d n m) ∧ (xb = false → ¬ Vis d n m) := by
  obtain ⟨q, h1, h2⟩ := lr
  cases q with
  | none => exact ⟨false, rfl, fun h => (by cases h), fun _ hv => h2 rfl _ ⟨d, n, m, hv, rfl, rfl⟩⟩
  | some x =>
    obtain ⟨a, b, c, hv, e1, e2⟩ := h1 x rfl
    obtain ⟨rfl, rfl, rfl⟩ := spotD_inj e1
    exact ⟨true, e2, fun _ => hv, fun h => (by cases h)⟩
@[reducible] def walkCa (r : Reg) (b b2 b3 b5 N : Nat) : List TV := [.d (.ptr [.raw (.map (some b2))]), .d (.ptr [.ptr (workC r b)]), .val (.pointer (some ⟨b3, 0, none⟩)), .d (.ptr [.int .i64 (N : Nat)]), .val (.pointer (some ⟨b5, 0, none⟩))]
@[reducible] def walkRs (r : Reg) (b b2 b3 b5 N : Nat) (M : D → D → Prop) (Vis : Spots) (out : List Nat) (v : Value) : List (Nat × Res) :=
  [(1000, mapRes KS b M), (1001, mapRes KS b2 (visM Vis)), (1002, .box b3 147 [.fn (.func 102) [] (walkCa r b b2 b3 b5 N)]), (1003, .box b5 98 [.val v]), (1004, .row v 102 1 (out.map doneE))]
def WX (r : Reg) (N : Nat) (Vis : Spots) (d n m : Nat) : Type := {x : (D → D → Prop) × Spots × List Nat × Value // Good r x.1 ∧ WPost r N Vis d n m x.2.1 x.2.2.1}
def WalksOK (r : Reg) (b b2 b3 b5 N k : Nat) : Prop := ∀ (d n m : Nat) (M : D → D → Prop) (Vis : Spots) (out : List Nat) (v : Value), d ≤ N → n ≤ r.entries.length → m < 2 ^ r.entries.length → muS r d n < k → Good r M → VOK r N Vis out → (goesB r d n m = true → Rch r N d n m) →
  EffAt Try.prog 102 (.d (spotD d n m) :: walkCa r b b2 b3 b5 N) (walkRs r b b2 b3 b5 N M Vis out v) (X := WX r N Vis d n m) (fun _ => .d (.tup [])) (fun x => walkRs r b b2 b3 b5 N x.1.1 x.1.2.1 x.1.2.2.1 x.1.2.2.2)
theorem voK_len {r : Reg} {N : Nat} {Vis : Spots} {out : List Nat} (v : Valid r) (hN : N ≤ 9) (h : VOK r N Vis out) : out.length ≤ 64 := by
  refine nodup_le 64 out h.2.2 fun x hx => ?_
  have h1 := ((h.1 _ _ _ ((h.2.1 x).1 hx)).bd hN).2.2
  have h2 : 2 ^ r.entries.length ≤ 2 ^ 6 := Nat.pow_le_pow_right (by omega) v.e6
  omega
theorem sz98 : Sz Try.prog 98 1 := (by kernel_rfl : (Try.prog.info? 98).map (·.size) = some 1)
theorem zr102 : (Try.prog.info? 102).map (·.zero) = some (some (.int .u64 0)) := by kernel_rfl
theorem elt98 : ElT Try.prog 98 102 1 8 := elt_of Try.underlying98 (z := (.int .u64 0)) (by kernel_rfl) rfl (by decide)
theorem nextXs_len36 (r : Reg) (d n m : Nat) : ∀ x ∈ nextXs r d n m, x.length = (#[36] : Array Tmp).size := fun x hx => by
  obtain ⟨s, _, rfl⟩ := List.mem_map.1 hx
  rfl
theorem fill_nat64 {x : Nat} {zs : List TV} (hz : zs.length = 1) : fillTV (fun i => some (i * 1, 1)) zs [(0, .d (.int .u64 (x : Nat)))] = some [.d (.int .u64 (x : Nat))] := fill_d hz rfl rfl rfl
theorem walk_step (r : Reg) (v : Valid r) (b b2 b3 b5 N k : Nat) (hN : N ≤ 9) (ih : WalksOK r b b2 b3 b5 N k) (d n m : Nat) (M : D → D → Prop) (Vis : Spots) (out : List Nat) (vo : Value) (hd : d ≤ N) (hn6 : n ≤ r.entries.length) (hm : m < 2 ^ r.entries.length) (hk : muS r d n < k + 1) (hM : Good r M) (hV : VOK r N Vis out) (hRT : goesB r d n m = true → Rch r N d n m) : EffAt Try.prog 102 (.d (spotD d n m) :: walkCa r b b2 b3 b5 N) (walkRs r b b2 b3 b5 N M Vis out vo) (X := WX r N Vis d n m) (fun _ => .d (.tup [])) (fun x => walkRs r b b2 b3 b5 N x.1.1 x.1.2.1 x.1.2.2.1 x.1.2.2.2) := by
  have he6 := v.e6
  have hm64 := lt64 he6 hm
  have ho64 := voK_len v hN hV
  refine EffAt.of_awpM Try.func102 rfl (by kernel_rfl) rfl fun Γ hn => ?_
  refine awp_seq ?_
  refine awp_region ?_
  refine stepW (s_box 6 rfl rfl rfl (nb hn rfl) rfl rfl) fun b6 => ?_
  refine run_nil ?_
  refine aend_then ?_
  refine awp_seq ?_
  refine awp_seq ?_
  refine gh_awp (g_freeze (t := 6) 6 rfl (nb hn rfl) rfl rfl trivial) ?_
  refine awp_region ?_
  refine sq rfl rfl hn rfl (q_loadp rfl rfl Try.underlying142 rfl seesF0) ?_
  refine sq rfl rfl hn rfl (q_loadpA rfl rfl Try.underlying119 rfl sz119 rfl rfl seesF0) ?_
  refine stepW (s_lookup (id := 1001) (zd := (.bool false)) rfl rfl rfl (nb hn rfl) spot_law Try.underlying142 zr4 rfl (.d rfl) rfl rfl (spot_kv (by omega) (by omega) hm64) rfl) fun lr => ?_
  obtain ⟨xb, hx1, hx2, hx3⟩ := vis_look lr
  rw [hx1]
  refine sq rfl rfl hn rfl (q_move rfl rfl) ?_
  refine stepG [] (guard_some rfl rfl rfl) rfl (nb hn rfl) (fun hc => trivial) (fun hc => q_loadp rfl rfl Try.underlying115 rfl seesF0) ?_
  refine stepG [] (guard_some rfl rfl rfl) rfl (nb hn rfl) (fun hc => trivial) (fun hc => q_loadpA rfl rfl Try.underlying119 rfl sz119 rfl rfl seesF0) ?_
  refine stepW (s_callEg [(14, _), (15, _)] ⟨M, hM⟩ (fun hc => goes_ok r v b d n m M (by omega) hn6 hm hM) rfl (guard_some rfl rfl rfl) rfl (nb hn rfl) (fun hc => ⟨⟨_, rfl, hc⟩, ⟨_, rfl, hc⟩, trivial⟩) (.d rfl) rfl (.refl _) ⟨rfl, trivial⟩ (fun _ => rfl) (fun _ _ => trivial) ⟨rfl, trivial⟩) fun ⟨⟨M1, hM1⟩, hc1⟩ => ?_
  refine stepG [(16, _)] (guard_some rfl rfl rfl) rfl (nb hn rfl) (fun hc => ⟨⟨_, rfl, hc⟩, trivial⟩) (fun hc => q_not rfl rfl) ?_
  refine sq rfl rfl hn rfl (q_or rfl rfl rfl (by simp_all)) ?_
  refine run_nil ?_
  refine aend_then ?_
  refine awp_cond rfl (fun hb0 => ?_) (fun hb0 => ?_)
  · skip
    have hpo : WPost r N Vis d n m Vis out := post_seen hV fun hg => by cases xb with
      | true => exact hx2 rfl
      | false => rw [hg] at hb0; simp at hb0
    refine awp_ret ?_
    refine aend_then_ret ?_
    exact ret_M (.inl rfl) ⟨(M1, Vis, out, vo), hM1, hpo⟩ (.inl rfl) (hands_0 rfl) ⟨rfl, rfl, rfl, rfl, rfl, trivial⟩ rfl
  · skip
    obtain ⟨rfl, hg⟩ : xb = false ∧ goesB r d n m = true := by cases xb <;> simp at hb0 ⊢; exact hb0
    have hnv := hx3 rfl
    have hrt := hRT hg
    refine awp_skip ?_
    refine aend_then ?_
    refine awp_seq ?_
    refine awp_region ?_
    refine sq rfl rfl hn rfl (q_loadp rfl rfl Try.underlying142 rfl seesF0) ?_
    refine sq rfl rfl hn rfl (q_loadpA rfl rfl Try.underlying119 rfl sz119 rfl rfl seesF0) ?_
    refine stepW (s_mapUpdate (id := 1001) rfl rfl rfl spot_law Try.underlying142 (.d rfl) rfl rfl (spot_kv (by omega) (by omega) hm64) rfl rfl rfl (vis_set Vis d n m) trivial) fun _ => ?_
    refine run_nil ?_
    refine aend_then ?_
    refine awp_seq ?_
    refine awp_seq ?_
    refine d_start (W := fun b => True) fmo ?_
    refine d1q (i := 0) rfl (by kernel_rfl) (fun _ _ _ _ h => h) rfl rfl hn rfl (q_fieldAddrp rfl rfl Try.underlying119 rfl sz3 rfl) ?_
    refine d1q (i := 1) rfl (by kernel_rfl) (fun _ _ _ _ h => h) rfl rfl hn rfl (q_loadp rfl rfl Try.underlying3 rfl seesFA) ?_
    refine d1q (i := 2) rfl (by kernel_rfl) (fun _ _ _ _ h => h) rfl rfl hn rfl (q_loadp rfl rfl Try.underlying115 rfl seesFA) ?_
    refine d1q (i := 3) rfl (by kernel_rfl) (fun _ _ _ _ h => h) rfl rfl hn rfl (q_nilCheckp rfl rfl) ?_
    refine d1q (i := 4) rfl (by kernel_rfl) (fun _ _ _ _ h => h) rfl rfl hn rfl (q_fieldAddrp rfl rfl Try.underlying144 rfl sz35 rfl) ?_
    refine d1q (i := 5) rfl (by kernel_rfl) (fun _ _ _ _ h => h) rfl rfl hn rfl (q_fieldAddrp rfl rfl Try.underlying35 rfl sz32 rfl) ?_
    refine d1q (i := 6) rfl (by kernel_rfl) (fun _ _ _ _ h => h) rfl rfl hn rfl (q_loadp rfl rfl Try.underlying32 rfl seesFA) ?_
    refine d1q (i := 7) rfl (by kernel_rfl) (fun _ _ _ _ h => h) rfl rfl hn rfl (q_len rfl rfl Try.underlying32) ?_
    refine d1q (i := 8) rfl (by kernel_rfl) (fun _ _ _ _ h => h) rfl rfl hn rfl (q_lss rfl rfl rfl) ?_
    refine d1_of_d2 ?_
    refine d2_done (by kernel_rfl) ?_
    refine aend_then ?_
    refine awp_cond rfl (fun hb1 => ?_) (fun hb1 => ?_)
    · try simp only [decide_eq_true_eq, decide_eq_false_iff_not, Bool.and_eq_true, Bool.or_eq_true, Bool.and_eq_false_iff, Bool.or_eq_false_iff, Bool.not_eq_true', Bool.not_eq_false', beq_iff_eq, bne_iff_ne, ne_eq, beq_eq_false_iff_ne, bne_eq_false_iff_eq, Int.not_lt, Int.not_le] at hb1
      have hnl : n < r.entries.length := by simp only [List.length_map] at hb1; omega
      obtain ⟨e, he⟩ := ex_get hnl
      have hne : ¬ (d = N ∧ n = r.entries.length) := by omega
      refine awp_seq ?_
      refine awp_seq ?_
      refine d_start (W := fun b => True) fmo ?_
      refine d1q (i := 0) rfl (by kernel_rfl) (fun _ _ _ _ h => h) rfl rfl hn rfl (q_loadp rfl rfl Try.underlying115 rfl seesFA) ?_
      refine d1q (i := 1) rfl (by kernel_rfl) (fun _ _ _ _ h => h) rfl rfl hn rfl (q_nilCheckp rfl rfl) ?_
      refine d1q (i := 2) rfl (by kernel_rfl) (fun _ _ _ _ h => h) rfl rfl hn rfl (q_fieldAddrp rfl rfl Try.underlying144 rfl sz35 rfl) ?_
      refine d1q (i := 3) rfl (by kernel_rfl) (fun _ _ _ _ h => h) rfl rfl hn rfl (q_loadpA rfl rfl Try.underlying35 rfl sz35 rfl rfl seesFA) ?_
      refine d1q (i := 4) rfl (by kernel_rfl) (fun _ _ _ _ h => h) rfl rfl hn rfl (q_loadpA rfl rfl Try.underlying119 rfl sz119 rfl rfl seesFA) ?_
      refine d1_of_d2 ?_
      refine d2_one (i := 5) (by kernel_rfl) rfl (s_call [] (fun _ => next_ok _ _ _ _) rfl (guard_none rfl) rfl (nb hn rfl) (fun _ => trivial) rfl rfl (.refl _)) fun _ => ?_
      refine d2_of_d1 ?_
      refine d1_of_d2 ?_
      refine d2_done (by kernel_rfl) ?_
      refine aend_then ?_
      refine awp_block ?_
      refine awp_rangeFunc (ι := {x : (D → D → Prop) × Spots × List Nat × Value // Good r x.1}) (fun x => [(1000, mapRes KS b x.1.1), (1001, mapRes KS b2 (visM x.1.2.1)), (1002, .box b3 147 [.fn (.func 102) [] (walkCa r b b2 b3 b5 N)]), (1003, .box b5 98 [.val x.1.2.2.2]), (1004, .row x.1.2.2.2 102 1 (x.1.2.2.1.map doneE))]) (fun j x => WMid r N (addV Vis d n m) ((nextL r d n m).take j) x.1.2.1 x.1.2.2.1) (fun _ _ => False) ⟨(M1, addV Vis d n m, out, vo), hM1⟩ ((next1_ok r d n m e he v (by omega) (by omega) hm64)) rfl (nextXs_len36 r d n m) (by rw [hn]; rfl) (.inl rfl) ⟨rfl, rfl, rfl, rfl, rfl, trivial⟩ (mid_start hV hrt hne) (fun _ => rfl) (fun _ => rfl) rfl rfl ?_ ?_ ?_
      · rintro l0 r0 Γr j0 x0 ⟨⟨M2, Vis2, out2, vo2⟩, hM2⟩ hnr hrd hx0 hA0
        dsimp only at hA0 hM2
        obtain ⟨s, hs, rfl⟩ := nextXs_get hx0
        have hsm := nextL_mem (List.mem_of_getElem? hs)
        have hsin : s ∈ succL r N d n m := by rw [succL, if_pos hnl]; exact List.mem_of_getElem? hs
        obtain ⟨s1, s2, s3⟩ := s
        obtain rfl : d = s1 := hsm.1.symm
        obtain rfl : n + 1 = s2 := hsm.2.1.symm
        have hs3 := hsm.2.2.1
        dsimp only at hs3
        have hs3b : s3 < 2 ^ r.entries.length := next_lt hm hnl hs3
        refine awi_region ?_
        refine stepWI ((s_alloc 7 rfl rfl rfl (nb (hnr.trans hn) rfl) zr119 rfl rfl).i rfl) fun b7 => ?_
        refine stepWI ((s_store rfl rfl rfl rfl rfl rfl (id := 7) rfl sz119 rfl (Nat.le_of_ble_eq_true rfl) rfl trivial).i rfl) fun _ => ?_
        refine run_nilI ?_
        refine aend_begin hrd rfl ?_
        refine awi_block ?_
        refine awi_region ?_
        refine sqI rfl rfl (hnr.trans hn) rfl (q_load rfl rfl (id := 1002) rfl Try.underlying147 rfl rfl sees0) rfl ?_
        refine sqI rfl rfl (hnr.trans hn) rfl (q_loadAd rfl rfl (id := 7) rfl Try.underlying119 rfl sz119 rfl rfl sees0) rfl ?_
        refine stepWI ((s_callE (ih d (n + 1) s3 M2 Vis2 out2 vo2 hd (by omega) hs3b (by have := muS_next (r := r) (by omega : d ≤ 9) hnl; omega) hM2 hA0.1 (fun hg3 => Rch.step hrt hsin hg3)) rfl rfl rfl (nb (hnr.trans hn) rfl) (.t rfl) rfl (.refl _) ⟨rfl, rfl, rfl, rfl, rfl, trivial⟩ (fun _ => rfl) (fun _ _ => trivial)).i rfl) fun ⟨⟨M3, Vis3, out3, vo3⟩, hM3, hpo3⟩ => ?_
        refine run_nilI ?_
        refine aend_block ?_
        exact aend_round_go ⟨(M3, Vis3, out3, vo3), hM3⟩ (by have := mid_step hA0 hpo3; show WMid _ _ _ _ _ _; rw [List.take_add_one, hs]; exact this) ⟨rfl, rfl, rfl, rfl, rfl, rfl, trivial⟩
      · rintro ⟨⟨M2, Vis2, out2, vo2⟩, hM2⟩ D0 hA0
        rw [show (nextXs r d n m).length = (nextL r d n m).length by simp [nextXs], List.take_length] at hA0
        dsimp only at hA0 hM2
        have hpo : WPost r N Vis d n m Vis2 out2 := mid_end (by rw [succL, if_pos hnl]; exact hA0)
        refine aend_block ?_
        refine aend_then ?_
        refine awp_ret ?_
        refine aend_then_ret ?_
        exact ret_M (.inl rfl) ⟨(M2, Vis2, out2, vo2), hM2, hpo⟩ (.inr rfl) (hands_0 rfl) ⟨rfl, rfl, rfl, rfl, rfl, trivial⟩ rfl
      · exact fun _ _ _ h => h.elim
    · try simp only [decide_eq_true_eq, decide_eq_false_iff_not, Bool.and_eq_true, Bool.or_eq_true, Bool.and_eq_false_iff, Bool.or_eq_false_iff, Bool.not_eq_true', Bool.not_eq_false', beq_iff_eq, bne_iff_ne, ne_eq, beq_eq_false_iff_ne, bne_eq_false_iff_eq, Int.not_lt, Int.not_le] at hb1
      obtain rfl : r.entries.length = n := by simp only [List.length_map] at hb1; omega
      refine awp_skip ?_
      refine aend_then ?_
      refine awp_seq ?_
      refine awp_seq ?_
      refine awp_region ?_
      refine sq rfl rfl hn rfl (q_fieldAddrp rfl rfl Try.underlying119 rfl sz3 rfl) ?_
      refine sq rfl rfl hn rfl (q_loadp rfl rfl Try.underlying3 rfl seesF0) ?_
      refine sq rfl rfl hn rfl (q_loadp rfl rfl Try.underlying3 rfl seesF0) ?_
      refine sq rfl rfl hn rfl (q_eql rfl rfl rfl) ?_
      refine run_nil ?_
      refine aend_then ?_
      refine awp_cond rfl (fun hb2 => ?_) (fun hb2 => ?_)
      · try simp only [decide_eq_true_eq, decide_eq_false_iff_not, Bool.and_eq_true, Bool.or_eq_true, Bool.and_eq_false_iff, Bool.or_eq_false_iff, Bool.not_eq_true', Bool.not_eq_false', beq_iff_eq, bne_iff_ne, ne_eq, beq_eq_false_iff_ne, bne_eq_false_iff_eq, Int.not_lt, Int.not_le] at hb2
        obtain rfl : d = N := by omega
        have hpo := post_end hV hrt hnv
        refine awp_seq ?_
        refine awp_region ?_
        refine sq rfl rfl hn rfl (q_load rfl rfl (id := 1003) rfl Try.underlying98 rfl rfl sees0) ?_
        refine sq rfl rfl hn rfl (q_fieldAddrp rfl rfl Try.underlying119 rfl sz102 rfl) ?_
        refine sq rfl rfl hn rfl (q_loadp rfl rfl Try.underlying102 rfl seesF0) ?_
        refine stepW (s_buildSlice rfl rfl rfl (nb hn rfl) Try.underlying98 sz102 zr102 rfl rfl rfl (show _ = [.d (.int .u64 0)] from by kernel_rfl) (by kernel_rfl) rfl (fill_nat64 rfl) rfl rfl rfl) fun _ => ?_
        refine stepW (s_append (id := 1004) rfl rfl rfl (nb hn rfl) elt98 trivial rfl rfl rfl (by simp [chunk]; omega) (by simp [chunk]; omega) (fun b hb => trivial)) fun v48 => ?_
        refine stepW (s_storeRow rfl rfl rfl rfl rfl (rid := 1004) rfl (id := 1003) rfl sz98 (Nat.le_of_ble_eq_true rfl) rfl trivial) fun _ => ?_
        refine run_nil ?_
        refine aend_then ?_
        refine awp_ret ?_
        refine aend_then_ret ?_
        exact ret_M (.inl rfl) ⟨(M1, addV Vis d r.entries.length m, out ++ [m], v48), hM1, hpo⟩ (.inl rfl) (hands_0 rfl) ⟨rfl, rfl, rfl, rfl, (by rw [List.map_append]; rfl), trivial⟩ rfl
      · try simp only [decide_eq_true_eq, decide_eq_false_iff_not, Bool.and_eq_true, Bool.or_eq_true, Bool.and_eq_false_iff, Bool.or_eq_false_iff, Bool.not_eq_true', Bool.not_eq_false', beq_iff_eq, bne_iff_ne, ne_eq, beq_eq_false_iff_ne, bne_eq_false_iff_eq, Int.not_lt, Int.not_le] at hb2
        have hdN : d ≠ N := by omega
        refine awp_skip ?_
        refine aend_then ?_
        refine awp_seq ?_
        refine awp_region ?_
        refine sq rfl rfl hn rfl (q_loadp rfl rfl Try.underlying115 rfl seesF0) ?_
        refine sq rfl rfl hn rfl (q_loadpA rfl rfl Try.underlying119 rfl sz119 rfl rfl seesF0) ?_
        refine stepW (s_call [] (fun _ => closed_ok r b d r.entries.length m v (by omega) hm64) rfl (guard_none rfl) rfl (nb hn rfl) (fun _ => trivial) rfl rfl (.refl _)) fun _ => ?_
        refine sq rfl rfl hn rfl (q_move rfl rfl) ?_
        refine sq rfl rfl hn rfl (q_extractd rfl rfl rfl) ?_
        refine sq rfl rfl hn rfl (q_extractd rfl rfl rfl) ?_
        refine stepW (s_alloc 8 rfl rfl rfl (nb hn rfl) zr119 rfl rfl) fun b8 => ?_
        refine stepW (s_store rfl rfl rfl rfl rfl rfl (id := 8) rfl sz119 rfl (Nat.le_of_ble_eq_true rfl) rfl trivial) fun _ => ?_
        refine sq rfl rfl hn rfl (q_assign rfl rfl) ?_
        refine run_nil ?_
        refine aend_then ?_
        refine awp_region ?_
        refine sq rfl rfl hn rfl (q_load rfl rfl (id := 1002) rfl Try.underlying147 rfl rfl sees0) ?_
        refine sq rfl rfl hn rfl (q_loadAd rfl rfl (id := 8) rfl Try.underlying119 rfl sz119 rfl rfl sees0) ?_
        refine stepW (s_callE (ih (d + 1) 0 m M1 (addV Vis d r.entries.length m) out vo (by omega) (by omega) hm (by have := muS_day (r := r) (n := r.entries.length) (by omega : d ≤ 9); omega) hM1 (mid_start hV hrt (fun h => hdN h.1)).1 (fun hg3 => Rch.step (s := (d + 1, 0, m)) hrt (by simp [succL, hdN]) hg3)) rfl rfl rfl (nb hn rfl) (.t rfl) rfl (.refl _) ⟨rfl, rfl, rfl, rfl, rfl, trivial⟩ (fun _ => rfl) (fun _ _ => trivial)) fun ⟨⟨M3, Vis3, out3, vo3⟩, hM3, hpo3⟩ => ?_
        refine run_nil ?_
        exact ret_M (.inr rfl) ⟨(M3, Vis3, out3, vo3), hM3, mid_end (by have := mid_step (mid_start hV hrt (fun h => hdN h.1)) hpo3; rw [succL, if_neg (by omega), if_neg hdN]; exact this)⟩ (.inl rfl) (hands_0 rfl) ⟨rfl, rfl, rfl, rfl, rfl, trivial⟩ rfl
end Go.Proofs.Ytnbmmopjkkofoaa
namespace Go.Proofs.Ytnbmmopjkkofoaa
open Go.RowKit
set_option maxRecDepth 20000
set_option linter.all false
theorem walks_all (r : Reg) (v : Valid r) (b b2 b3 b5 N : Nat) (hN : N ≤ 9) : ∀ k, WalksOK r b b2 b3 b5 N k := by
  intro k
  induction k with
  | zero => intro d n m M Vis out vo _ _ _ h; omega
  | succ k ih => intro d n m M Vis out vo h1 h2 h3 h4 h5 h6 h7; exact walk_step r v b b2 b3 b5 N k hN ih d n m M Vis out vo h1 h2 h3 h4 h5 h6 h7
def noSpots : Spots := fun _ _ _ => False
theorem vok_none (r : Reg) (N : Nat) : VOK r N noSpots [] := ⟨fun _ _ _ h => h.elim, fun m => ⟨fun h => (by cases h), fun h => h.elim⟩, List.nodup_nil⟩
theorem walk_ok (r : Reg) (v : Valid r) (b b2 b3 b5 N : Nat) (hN : N ≤ 9) (M : D → D → Prop) (vo : Value) (hM : Good r M) :
    EffAt Try.prog 102 (.d (spotD 0 0 0) :: walkCa r b b2 b3 b5 N) (walkRs r b b2 b3 b5 N M noSpots [] vo) (X := WX r N noSpots 0 0 0) (fun _ => .d (.tup [])) (fun x => walkRs r b b2 b3 b5 N x.1.1 x.1.2.1 x.1.2.2.1 x.1.2.2.2) :=
  walks_all r v b b2 b3 b5 N hN _ 0 0 0 M noSpots [] vo (Nat.zero_le _) (Nat.zero_le _) (Nat.two_pow_pos _) (Nat.lt_succ_self _) hM (vok_none r N) .start
/-- What can have happened at the end of a day: all of it, each once. -/
def EvOK (r : Reg) (N : Nat) (out : List Nat) : Prop := (∀ m, m ∈ out ↔ Rch r N N r.entries.length m) ∧ out.length ≤ 64 ∧ out.Nodup
theorem ev_of {r : Reg} {N : Nat} {Vis : Spots} {out : List Nat} (v : Valid r) (hN : N ≤ 9) (h : WPost r N noSpots 0 0 0 Vis out) : EvOK r N out := by
  obtain ⟨h1, _, h3, h4⟩ := h
  have key : ∀ d n m, Rch r N d n m → Vis d n m := fun d n m hr => by
    induction hr with
    | start hg => exact h3 hg
    | step _ hs hg ih => exact h4 _ _ _ ih (fun h => h) _ hs hg
  exact ⟨fun m => (h1.2.1 m).trans ⟨h1.1 _ _ _, key _ _ _⟩, voK_len v hN h1, h1.2.2⟩
theorem good_none (r : Reg) : Good r fun _ _ => False := fun _ _ h => h.elim
theorem ev_bd {r : Reg} {N : Nat} {out : List Nat} (v : Valid r) (hN : N ≤ 9) (h : EvOK r N out) : ∀ m ∈ out, m < 18446744073709551616 := fun m hm => lt64 v.e6 (((h.1 m).1 hm).bd hN).2.2
/-- What is returned where evenings are asked for. -/
def AskP (r : Reg) (is : Bool) (N : Int) (out : List Nat) (e : Int) : Prop :=
  (checkE r ≠ 0 ∧ out = [] ∧ e = checkE r) ∨ (checkE r = 0 ∧ (is && dayB N) = false ∧ out = [] ∧ e = 2) ∨ (checkE r = 0 ∧ is = true ∧ ∃ n : Nat, N = n ∧ n ≤ 9 ∧ EvOK r n out ∧ e = bif out.isEmpty then 9 else 0)
def AskX (r : Reg) (is : Bool) (N : Int) : Type := {x : List Nat × Int // AskP r is N x.1 x.2}
theorem sz147 : Sz Try.prog 147 1 := (by kernel_rfl : (Try.prog.info? 147).map (·.size) = some 1)
theorem zr98 : (Try.prog.info? 98).map (·.zero) = some (some (.slice none 0 0)) := by kernel_rfl
theorem zr142 : (Try.prog.info? 142).map (·.zero) = some (some (.map none)) := by kernel_rfl
theorem zr147 : (Try.prog.info? 147).map (·.zero) = some (some .nilFunc) := by kernel_rfl
theorem evenings_ok (r : Reg) (v : Valid r) (b N : Nat) (hN : N ≤ 9) (M : D → D → Prop) (hM : Good r M) : EffAt Try.prog 83 [.d (.ptr (workC r b)), .d (.int .i64 (N : Nat))] [(1000, mapRes KS b M)] (X := {x : (D → D → Prop) × List Nat // Good r x.1 ∧ EvOK r N x.2}) (fun x => .d (donesD x.1.2)) (fun x => [(1000, mapRes KS b x.1.1)]) := by
  refine EffAt.of_awp Try.func83 rfl (by kernel_rfl) rfl fun Γ hn => ?_
  refine awp_seq ?_
  refine awp_region ?_
  refine stepW (s_box 2 rfl rfl rfl (nb hn rfl) rfl rfl) fun b2 => ?_
  refine stepW (s_box 3 rfl rfl rfl (nb hn rfl) rfl rfl) fun b3 => ?_
  refine stepW (s_alloc 1003 rfl rfl rfl (nb hn rfl) zr98 rfl rfl) fun b4 => ?_
  refine run_nil ?_
  refine aend_then ?_
  refine awp_seq ?_
  refine awp_region ?_
  refine stepW (s_makeMap (KS) 1001 rfl rfl rfl (nb hn rfl)) fun b7 => ?_
  refine stepW (s_alloc 5 rfl rfl rfl (nb hn rfl) zr142 rfl rfl) fun b5 => ?_
  refine stepW (s_store1 rfl rfl rfl rfl rfl rfl (id := 5) rfl sz142 (Nat.le_of_ble_eq_true rfl) rfl trivial) fun _ => ?_
  refine run_nil ?_
  refine aend_then ?_
  refine awp_seq ?_
  refine awp_region ?_
  refine stepW (s_alloc 1002 rfl rfl rfl (nb hn rfl) zr147 rfl rfl) fun b6 => ?_
  refine run_nil ?_
  refine aend_then ?_
  refine awp_seq ?_
  refine gh_awp (g_freeze (t := 5) 5 rfl (nb hn rfl) rfl rfl trivial) ?_
  refine gh_awp (g_freeze (t := 2) 2 rfl (nb hn rfl) rfl rfl trivial) ?_
  refine gh_awp (g_freeze (t := 3) 3 rfl (nb hn rfl) rfl rfl trivial) ?_
  refine gh_awp (gh_nilcell (id := 1003) (k := 0) 1004 102 1 rfl rfl) ?_
  refine awp_region ?_
  refine sq rfl rfl hn rfl (q_makeFunc rfl rfl rfl) ?_
  refine stepW (s_store1 rfl rfl rfl rfl rfl rfl (id := 1002) rfl sz147 (Nat.le_of_ble_eq_true rfl) rfl trivial) fun _ => ?_
  refine run_nil ?_
  refine aend_then ?_
  refine awp_seq ?_
  refine gh_awp (gh_req (id := 1001) rfl (congrArg (mapRes KS b7) vis_none.symm)) ?_
  refine awp_region ?_
  refine sq rfl rfl hn rfl (q_load rfl rfl (id := 1002) rfl Try.underlying147 rfl rfl sees0) ?_
  refine sq rfl rfl hn rfl (q_buildd rfl bt119 rfl rfl rfl rfl rfl) ?_
  refine stepW (s_callE (walk_ok r v b b7 b6 b4 N hN M (.slice none 0 0) hM) rfl rfl rfl (nb hn rfl) (.t rfl) rfl (.refl _) ⟨rfl, rfl, rfl, rfl, rfl, trivial⟩ (fun _ => rfl) (fun _ _ => trivial)) fun ⟨⟨M1, Vis1, out1, vo1⟩, hM1, hpo1⟩ => ?_
  refine run_nil ?_
  refine aend_then ?_
  refine awp_seq ?_
  refine awp_region ?_
  refine sq rfl rfl hn rfl (q_load rfl rfl (id := 1003) rfl Try.underlying98 rfl rfl sees0) ?_
  refine stepW (s_storeRow rfl rfl rfl rfl rfl (rid := 1004) rfl (id := 1003) rfl sz98 (Nat.le_of_ble_eq_true rfl) rfl trivial) fun _ => ?_
  refine run_nil ?_
  refine aend_then ?_
  refine awp_ret ?_
  refine gh_end (gh_rowcell (id := 1003) (k := 0) (rid := 1004) rfl rfl rfl) ?_
  exact ret_E (.inl rfl) ⟨(M1, out1), hM1, ev_of v hN hpo1⟩ (hands_1 rfl (.cell rfl (id := 1003) rfl Try.underlying98 rfl rfl)) ⟨rfl, trivial⟩
theorem asked_ok (r : Reg) (is : Bool) (N : Int) : EffAt Try.prog 53 [.d (regD r), .d (.bool is), .d (.int .i64 N)] [] (X := AskX r is N) (fun x => .d (.tup [donesD x.1.1, .int .i64 x.1.2])) (fun _ => []) := by
  refine EffAt.of_awp Try.func53 rfl (by kernel_rfl) rfl fun Γ hn => ?_
  refine awp_seq ?_
  refine awp_region ?_
  refine stepW (s_box 3 rfl rfl rfl (nb hn rfl) rfl rfl) fun b3 => ?_
  refine sq rfl rfl hn rfl (q_assign rfl rfl) ?_
  refine sq rfl rfl hn rfl (q_assign rfl rfl) ?_
  refine run_nil ?_
  refine aend_then ?_
  refine awp_seq ?_
  refine awp_seq ?_
  refine awp_region ?_
  refine sq rfl rfl hn rfl (q_loadAd rfl rfl (id := 3) rfl Try.underlying35 rfl sz35 rfl rfl sees0) ?_
  refine stepW (s_call [] (fun _ => CheckRegister_ok _) rfl (guard_none rfl) rfl (nb hn rfl) (fun _ => trivial) rfl rfl (.refl _)) fun _ => ?_
  refine sq rfl rfl hn rfl (q_assign rfl rfl) ?_
  refine run_nil ?_
  refine aend_then ?_
  refine awp_seq ?_
  refine awp_region ?_
  refine sq rfl rfl hn rfl (q_move rfl rfl) ?_
  refine sq rfl rfl hn rfl (q_neq rfl rfl rfl) ?_
  refine run_nil ?_
  refine aend_then ?_
  refine awp_cond rfl (fun hb0 => ?_) (fun hb0 => ?_)
  · simp only [bne_iff_ne, ne_eq] at hb0
    have hc0 : checkE r ≠ 0 := hb0
    refine awp_seq ?_
    refine awp_region ?_
    refine sq rfl rfl hn rfl (q_move rfl rfl) ?_
    refine sq rfl rfl hn rfl (q_assign rfl rfl) ?_
    refine sq rfl rfl hn rfl (q_assign rfl rfl) ?_
    refine run_nil ?_
    refine aend_then ?_
    refine awp_ret ?_
    refine aend_then_ret ?_
    exact ret_E (.inl rfl) ⟨([], checkE r), .inl ⟨hc0, rfl, rfl⟩⟩ ((hands_2d rfl (.tmp rfl) (.tmp rfl)).le (.tup (.cons (.nil 1) (.refl _)))) trivial
  · skip
    have hc0 : checkE r = 0 := by simpa using hb0
    have v := valid_of hc0
    refine awp_skip ?_
    refine aend_then ?_
    refine awp_seq ?_
    refine awp_seq ?_
    refine awp_region ?_
    refine sq rfl rfl hn rfl (q_move rfl rfl) ?_
    refine sq rfl rfl hn rfl (q_not rfl rfl) ?_
    refine sq rfl rfl hn rfl (q_move rfl rfl) ?_
    refine stepG [] (guard_some rfl rfl rfl) rfl (nb hn rfl) (fun hc => trivial) (fun hc => q_move rfl rfl) ?_
    refine stepW (s_call [(18, _)] (fun hc => day_ok _) rfl (guard_some rfl rfl rfl) rfl (nb hn rfl) (fun hc => ⟨⟨_, rfl, hc⟩, trivial⟩) rfl rfl (.refl _)) fun _ => ?_
    refine stepG [(19, _)] (guard_some rfl rfl rfl) rfl (nb hn rfl) (fun hc => ⟨⟨_, rfl, hc⟩, trivial⟩) (fun hc => q_not rfl rfl) ?_
    refine sq rfl rfl hn rfl (q_or rfl rfl rfl (by simp_all)) ?_
    refine run_nil ?_
    refine aend_then ?_
    refine awp_cond rfl (fun hb1 => ?_) (fun hb1 => ?_)
    · skip
      have his : (is && dayB N) = false := by cases is <;> simp at hb1 ⊢; exact hb1
      refine awp_seq ?_
      refine awp_region ?_
      refine sq rfl rfl hn rfl (q_assign rfl rfl) ?_
      refine sq rfl rfl hn rfl (q_assign rfl rfl) ?_
      refine run_nil ?_
      refine aend_then ?_
      refine awp_ret ?_
      refine aend_then_ret ?_
      exact ret_E (.inl rfl) ⟨([], 2), .inr (.inl ⟨hc0, his, rfl, rfl⟩)⟩ ((hands_2d rfl (.tmp rfl) (.tmp rfl)).le (.tup (.cons (.nil 1) (.refl _)))) trivial
    · skip
      have his : is = true ∧ dayB N = true := by cases is <;> simp at hb1 ⊢; exact hb1
      obtain ⟨n, rfl⟩ : ∃ n : Nat, N = n := ⟨N.toNat, by have := his.2; simp [dayB] at this; omega⟩
      have hN : n ≤ 9 := by have := his.2; simp [dayB] at this; omega
      refine awp_skip ?_
      refine aend_then ?_
      refine awp_seq ?_
      refine awp_region ?_
      refine sq rfl rfl hn rfl (q_loadAd rfl rfl (id := 3) rfl Try.underlying35 rfl sz35 rfl rfl sees0) ?_
      refine stepW (s_callE (work_ok r) rfl rfl rfl (nb hn rfl) (.d rfl) rfl (.refl _) trivial (fun _ => rfl) (fun _ _ => trivial)) fun b1 => ?_
      refine sq rfl rfl hn rfl (q_move rfl rfl) ?_
      refine stepW (s_callE (evenings_ok r v b1 n hN _ (good_none r)) rfl rfl rfl (nb hn rfl) (.d rfl) rfl (.refl _) ⟨rfl, trivial⟩ (fun _ => rfl) (fun _ _ => trivial)) fun ⟨⟨M1, out⟩, hM1, hev⟩ => ?_
      refine sq rfl rfl hn rfl (q_assign rfl rfl) ?_
      refine run_nil ?_
      refine aend_then ?_
      refine awp_seq ?_
      refine awp_seq ?_
      refine awp_region ?_
      refine sq rfl rfl hn rfl (q_move rfl rfl) ?_
      refine sq rfl rfl hn rfl (q_len rfl rfl Try.underlying98) ?_
      refine sq rfl rfl hn rfl (q_eql rfl rfl rfl) ?_
      refine run_nil ?_
      refine aend_then ?_
      refine awp_cond rfl (fun hb2 => ?_) (fun hb2 => ?_)
      · skip
        obtain rfl : out = [] := by simp at hb2; exact hb2
        refine awp_seq ?_
        refine awp_region ?_
        refine sq rfl rfl hn rfl (q_assign rfl rfl) ?_
        refine sq rfl rfl hn rfl (q_assign rfl rfl) ?_
        refine run_nil ?_
        refine aend_then ?_
        refine awp_ret ?_
        refine aend_then_ret ?_
        exact ret_E (.inl rfl) ⟨([], 9), .inr (.inr ⟨hc0, his.1, n, rfl, hN, hev, rfl⟩)⟩ ((hands_2d rfl (.tmp rfl) (.tmp rfl)).le (.tup (.cons (.nil 1) (.refl _)))) trivial
      · skip
        have hne : out.isEmpty = false := by cases out <;> simp at hb2 ⊢
        refine awp_skip ?_
        refine aend_then ?_
        refine awp_seq ?_
        refine awp_region ?_
        refine sq rfl rfl hn rfl (q_move rfl rfl) ?_
        refine sq rfl rfl hn rfl (q_assign rfl rfl) ?_
        refine sq rfl rfl hn rfl (q_assign rfl rfl) ?_
        refine run_nil ?_
        refine aend_then ?_
        refine awp_ret ?_
        exact ret_E (.inl rfl) ⟨(out, 0), .inr (.inr ⟨hc0, his.1, n, rfl, hN, hev, by rw [hne]; rfl⟩)⟩ (hands_2d rfl (.tmp rfl) (.tmp rfl)) trivial
end Go.Proofs.Ytnbmmopjkkofoaa
