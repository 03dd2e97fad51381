/-
  Walks by the rules of Base, printed by gen.py: the statements' own helpers, and more of the reference. No condition: no statement of the seat is proved here.
-/
import Derived.Test.YtnbmmopjkkofoaaW4
namespace Go.Proofs.Ytnbmmopjkkofoaa
open Go.RowKit
set_option maxRecDepth 20000
set_option linter.all false

def hasB (l : List Int) (n : Int) : Bool := l.any fun x => x == n
def subsetB (a b : List Int) : Bool := a.all (hasB b)
def loanR (more : List Ent5) (sights : List Sight5) : Reg := ⟨3, [0, 1], [⟨1, 0, 0, 1, 1, 3⟩, ⟨0, 0, 1, 2, 2, 4⟩, ⟨2, 1, 1, 0, 3, 5⟩] ++ more, sights⟩
def astrayL : List Ent5 := [⟨0, 1, 2, 0, 0, 9⟩]
def seeingR (r : Reg) (s : Sight5) : Reg := ⟨r.houses, r.start, r.entries, r.sights ++ [s]⟩
theorem take_map {α β : Type} {l : List α} {f : α → β} {i : Nat} {x : α} (h : l[i]? = some x) : (l.take i).map f ++ [f x] = (l.take (i + 1)).map f := by rw [List.take_add_one, h]; simp
theorem any_of {α : Type} {l : List α} {p : α → Bool} {i : Nat} {x : α} (h : l[i]? = some x) (hx : p x = true) : l.any p = true := List.any_eq_true.2 ⟨x, List.mem_of_getElem? h, hx⟩
theorem all_not {α : Type} {l : List α} {p : α → Bool} {i : Nat} {x : α} (h : l[i]? = some x) (hx : p x = false) : l.all p = false := List.all_eq_false.2 ⟨x, List.mem_of_getElem? h, by simp [hx]⟩
theorem any_none {α : Type} {l : List α} {p : α → Bool} (h : l.all (fun x => !p x) = true) : l.any p = false := by
  rw [List.any_eq_false]
  intro x hx
  have := List.all_eq_true.1 h x hx
  simpa using this
theorem zr35 : (Try.prog.info? 35).map (·.zero) = some (some (.agg #[(.int .i64 0), (.slice none 0 0), (.slice none 0 0), (.slice none 0 0)])) := by kernel_rfl
theorem zr45 : (Try.prog.info? 45).map (·.zero) = some (some (.agg #[(.int .i64 0), (.int .i64 0)])) := by kernel_rfl
theorem zr92 : (Try.prog.info? 92).map (·.zero) = some (some (.agg #[(.int .i64 0), (.int .i64 0), (.int .i64 0)])) := by kernel_rfl
theorem bt35 : BT Try.prog 35 (.agg #[(.int .i64 0), (.slice none 0 0), (.slice none 0 0), (.slice none 0 0)]) (fun i => ([(0, 1), (1, 1), (2, 1), (3, 1)] : List (Nat × Nat))[i]?) := bt_struct Try.underlying35 zr35 (by kernel_rfl)
theorem bt45 : BT Try.prog 45 (.agg #[(.int .i64 0), (.int .i64 0)]) (fun i => ([(0, 1), (1, 1)] : List (Nat × Nat))[i]?) := bt_struct Try.underlying45 zr45 (by kernel_rfl)
theorem bt49 : BT Try.prog 49 (.agg #[(.int .i64 0), (.int .i64 0)]) (fun i => ([(0, 1), (1, 1)] : List (Nat × Nat))[i]?) := bt_struct Try.underlying49 zr49 (by kernel_rfl)
theorem bt92 : BT Try.prog 92 (.agg #[(.int .i64 0), (.int .i64 0), (.int .i64 0)]) (fun i => ([(0, 1), (1, 1), (2, 1)] : List (Nat × Nat))[i]?) := bt_struct Try.underlying92 zr92 (by kernel_rfl)
theorem bt95 : BT Try.prog 95 (.agg #[(.int .i64 0), (.int .i64 0), (.int .i64 0), (.int .i64 0), (.int .i64 0), (.int .i64 0)]) (fun i => ([(0, 1), (1, 1), (2, 1), (3, 1), (4, 2)] : List (Nat × Nat))[i]?) := bt_struct Try.underlying95 zr95 (by kernel_rfl)
theorem elt23 : ElT Try.prog 23 67 6 48 := elt_of Try.underlying23 (z := (.agg #[(.int .i64 0), (.int .i64 0), (.int .i64 0), (.int .i64 0), (.int .i64 0), (.int .i64 0)])) (by kernel_rfl) rfl (by decide)
theorem elt24 : ElT Try.prog 24 59 3 24 := elt_of Try.underlying24 (z := (.agg #[(.int .i64 0), (.int .i64 0), (.int .i64 0)])) (by kernel_rfl) rfl (by decide)
theorem elt32 : ElT Try.prog 32 95 6 48 := elt_of Try.underlying32 (z := (.agg #[(.int .i64 0), (.int .i64 0), (.int .i64 0), (.int .i64 0), (.int .i64 0), (.int .i64 0)])) (by kernel_rfl) rfl (by decide)
theorem elt33 : ElT Try.prog 33 92 3 24 := elt_of Try.underlying33 (z := (.agg #[(.int .i64 0), (.int .i64 0), (.int .i64 0)])) (by kernel_rfl) rfl (by decide)

theorem has5_ok (l : List Int) (n : Int) : PureAt Try.prog 31 [ints l, .int .i64 n] (.bool (hasB l n)) := by
  refine PureAt.of_awp' Try.func31 rfl (by kernel_rfl) rfl fun hlen Γ hn hl => ?_
  have hl5 := hlen.1; simp only [List.length_map] at hl5
  refine awp_seq ?_
  refine awp_region ?_
  refine sq rfl rfl hn rfl (q_assign rfl rfl) ?_
  refine run_nil ?_
  refine aend_then ?_
  refine awp_seq ?_
  refine awp_seq ?_
  refine awp_region ?_
  refine sq rfl rfl hn rfl (q_assign rfl rfl) ?_
  refine run_nil ?_
  refine aend_then ?_
  refine awp_block ?_
  refine awp_loop_on (ι := { i : Nat // i ≤ (l).length ∧ ((l).take i).all (fun x => !(x == n)) = true }) (fun i => (5, true, .d (.int .i64 (i.1 : Int))) :: anys [6, 7, 8, 9, 12, 13, 14, 15, 16, 17, 10, 11]) (fun i => []) (fun i => (l).length - i.1) ⟨0, by simp⟩ ⟨.inl rfl, holdT_anys _⟩ trivial ?_
  rintro ⟨i, hi, hall⟩
  dsimp only
  refine awp_seq ?_
  refine awp_seq ?_
  refine awp_region ?_
  refine sq rfl rfl hn rfl (q_move rfl rfl) ?_
  refine sq rfl rfl hn rfl (q_move rfl rfl) ?_
  refine sq rfl rfl hn rfl (q_len rfl rfl Try.underlying22) ?_
  refine sq rfl rfl hn rfl (q_lss rfl rfl rfl) ?_
  refine run_nil ?_
  refine aend_then ?_
  refine awp_cond rfl (fun hb0 => ?_) (fun hb0 => ?_)
  · try simp only [decide_eq_true_eq, decide_eq_false_iff_not, Bool.and_eq_true, Bool.or_eq_true, Bool.and_eq_false_iff, Bool.or_eq_false_iff, Bool.not_eq_true', Bool.not_eq_false', beq_iff_eq, bne_iff_ne, ne_eq, beq_eq_false_iff_ne, bne_eq_false_iff_eq, Int.not_lt, Int.not_le] at hb0
    have hlt : i < (l).length := by simpa using hb0
    obtain ⟨x, hx⟩ := ex_get hlt
    refine awp_skip ?_
    refine aend_then ?_
    refine awp_seq ?_
    refine awp_block ?_
    refine awp_seq ?_
    refine awp_region ?_
    refine sq rfl rfl hn rfl (q_move rfl rfl) ?_
    refine sq rfl rfl hn rfl (q_move rfl rfl) ?_
    refine sq rfl rfl hn rfl (q_index rfl rfl rfl Try.underlying22 sz3 rfl (mget hx)) ?_
    refine sq rfl rfl hn rfl (q_loadp rfl rfl Try.underlying3 rfl seesF0) ?_
    refine sq rfl rfl hn rfl (q_move rfl rfl) ?_
    refine sq rfl rfl hn rfl (q_eql rfl rfl rfl) ?_
    refine run_nil ?_
    refine aend_then ?_
    refine awp_cond rfl (fun hb1 => ?_) (fun hb1 => ?_)
    · skip
      refine awp_seq ?_
      refine awp_region ?_
      refine sq rfl rfl hn rfl (q_assign rfl rfl) ?_
      refine run_nil ?_
      refine aend_then ?_
      refine awp_ret ?_
      refine aend_block_ret ?_
      refine aend_then_ret ?_
      refine aend_then_ret ?_
      refine aend_block_ret ?_
      refine aend_then_ret ?_
      refine ret_eq (ret_1 (.inl rfl) hl rfl (.tmp rfl)) ?_
      rw [hasB, any_of hx hb1]
    · skip
      refine awp_skip ?_
      refine aend_block ?_
      refine aend_then ?_
      refine awp_region ?_
      refine sq rfl rfl hn rfl (q_move rfl rfl) ?_
      refine sq rfl rfl hn rfl (q_add rfl rfl rfl (r := ((i + 1 : Nat) : Int)) (i64w (by omega) (by omega))) ?_
      refine sq rfl rfl hn rfl (q_assign rfl rfl) ?_
      refine run_nil ?_
      exact aend_round_on ⟨i + 1, by omega, take_all_succ hx hall (by rw [hb1]; rfl)⟩ ⟨.inl rfl, holdT_anys _⟩ trivial (by simp only; omega) (by repeat (first | exact kr _ | refine kc rfl ?_)) (by repeat (first | exact kr _ | refine kc rfl ?_))
  · try simp only [decide_eq_true_eq, decide_eq_false_iff_not, Bool.and_eq_true, Bool.or_eq_true, Bool.and_eq_false_iff, Bool.or_eq_false_iff, Bool.not_eq_true', Bool.not_eq_false', beq_iff_eq, bne_iff_ne, ne_eq, beq_eq_false_iff_ne, bne_eq_false_iff_eq, Int.not_lt, Int.not_le] at hb0
    refine awp_exit ?_
    refine aend_then_exit ?_
    refine aend_then_exit ?_
    refine aend_block_exit ?_
    refine aend_then ?_
    refine awp_seq ?_
    refine awp_region ?_
    refine sq rfl rfl hn rfl (q_assign rfl rfl) ?_
    refine run_nil ?_
    refine aend_then ?_
    refine awp_ret ?_
    refine ret_eq (ret_1 (.inl rfl) hl rfl (.tmp rfl)) ?_
    rw [hasB, any_none (full_all hb0 hi hall)]

theorem subset_ok (a b : List Int) : PureAt Try.prog 37 [ints a, ints b] (.bool (subsetB a b)) := by
  refine PureAt.of_awp' Try.func37 rfl (by kernel_rfl) rfl fun hlen Γ hn hl => ?_
  have hl5 := hlen.1; simp only [List.length_map] at hl5
  refine awp_seq ?_
  refine awp_region ?_
  refine sq rfl rfl hn rfl (q_assign rfl rfl) ?_
  refine run_nil ?_
  refine aend_then ?_
  refine awp_seq ?_
  refine awp_seq ?_
  refine awp_region ?_
  refine sq rfl rfl hn rfl (q_assign rfl rfl) ?_
  refine run_nil ?_
  refine aend_then ?_
  refine awp_block ?_
  refine awp_loop_on (ι := { i : Nat // i ≤ (a).length ∧ ((a).take i).all (hasB b) = true }) (fun i => (5, true, .d (.int .i64 (i.1 : Int))) :: anys [6, 7, 8, 9, 12, 13, 14, 15, 16, 17, 18, 10, 11]) (fun i => []) (fun i => (a).length - i.1) ⟨0, by simp⟩ ⟨.inl rfl, holdT_anys _⟩ trivial ?_
  rintro ⟨i, hi, hall⟩
  dsimp only
  refine awp_seq ?_
  refine awp_seq ?_
  refine awp_region ?_
  refine sq rfl rfl hn rfl (q_move rfl rfl) ?_
  refine sq rfl rfl hn rfl (q_move rfl rfl) ?_
  refine sq rfl rfl hn rfl (q_len rfl rfl Try.underlying22) ?_
  refine sq rfl rfl hn rfl (q_lss rfl rfl rfl) ?_
  refine run_nil ?_
  refine aend_then ?_
  refine awp_cond rfl (fun hb0 => ?_) (fun hb0 => ?_)
  · try simp only [decide_eq_true_eq, decide_eq_false_iff_not, Bool.and_eq_true, Bool.or_eq_true, Bool.and_eq_false_iff, Bool.or_eq_false_iff, Bool.not_eq_true', Bool.not_eq_false', beq_iff_eq, bne_iff_ne, ne_eq, beq_eq_false_iff_ne, bne_eq_false_iff_eq, Int.not_lt, Int.not_le] at hb0
    have hlt : i < (a).length := by simpa using hb0
    obtain ⟨x, hx⟩ := ex_get hlt
    refine awp_skip ?_
    refine aend_then ?_
    refine awp_seq ?_
    refine awp_block ?_
    refine awp_seq ?_
    refine awp_region ?_
    refine sq rfl rfl hn rfl (q_move rfl rfl) ?_
    refine sq rfl rfl hn rfl (q_move rfl rfl) ?_
    refine sq rfl rfl hn rfl (q_move rfl rfl) ?_
    refine sq rfl rfl hn rfl (q_index rfl rfl rfl Try.underlying22 sz3 rfl (mget hx)) ?_
    refine sq rfl rfl hn rfl (q_loadp rfl rfl Try.underlying3 rfl seesF0) ?_
    refine stepW (s_call [] (fun _ => has5_ok _ _) rfl (guard_none rfl) rfl (nb hn rfl) (fun _ => trivial) rfl rfl (.refl _)) fun _ => ?_
    refine sq rfl rfl hn rfl (q_not rfl rfl) ?_
    refine run_nil ?_
    refine aend_then ?_
    refine awp_cond rfl (fun hb1 => ?_) (fun hb1 => ?_)
    · skip
      refine awp_seq ?_
      refine awp_region ?_
      refine sq rfl rfl hn rfl (q_assign rfl rfl) ?_
      refine run_nil ?_
      refine aend_then ?_
      refine awp_ret ?_
      refine aend_block_ret ?_
      refine aend_then_ret ?_
      refine aend_then_ret ?_
      refine aend_block_ret ?_
      refine aend_then_ret ?_
      refine ret_eq (ret_1 (.inl rfl) hl rfl (.tmp rfl)) ?_
      rw [subsetB, all_not hx (notT hb1)]
    · skip
      refine awp_skip ?_
      refine aend_block ?_
      refine aend_then ?_
      refine awp_region ?_
      refine sq rfl rfl hn rfl (q_move rfl rfl) ?_
      refine sq rfl rfl hn rfl (q_add rfl rfl rfl (r := ((i + 1 : Nat) : Int)) (i64w (by omega) (by omega))) ?_
      refine sq rfl rfl hn rfl (q_assign rfl rfl) ?_
      refine run_nil ?_
      exact aend_round_on ⟨i + 1, by omega, take_all_succ hx hall (notF hb1)⟩ ⟨.inl rfl, holdT_anys _⟩ trivial (by simp only; omega) (by repeat (first | exact kr _ | refine kc rfl ?_)) (by repeat (first | exact kr _ | refine kc rfl ?_))
  · try simp only [decide_eq_true_eq, decide_eq_false_iff_not, Bool.and_eq_true, Bool.or_eq_true, Bool.and_eq_false_iff, Bool.or_eq_false_iff, Bool.not_eq_true', Bool.not_eq_false', beq_iff_eq, bne_iff_ne, ne_eq, beq_eq_false_iff_ne, bne_eq_false_iff_eq, Int.not_lt, Int.not_le] at hb0
    refine awp_exit ?_
    refine aend_then_exit ?_
    refine aend_then_exit ?_
    refine aend_block_exit ?_
    refine aend_then ?_
    refine awp_seq ?_
    refine awp_region ?_
    refine sq rfl rfl hn rfl (q_assign rfl rfl) ?_
    refine run_nil ?_
    refine aend_then ?_
    refine awp_ret ?_
    refine ret_eq (ret_1 (.inl rfl) hl rfl (.tmp rfl)) ?_
    rw [subsetB, full_all hb0 hi hall]

theorem list_ok (l : List Int) (h5 : l.length ≤ 1000000) : PureAt Try.prog 44 [ints l] (ints l) := by
  refine PureAt.of_awp Try.func44 rfl (by kernel_rfl) (Nat.le_of_ble_eq_true rfl) fun Γ hn hl => ?_
  refine awp_seq ?_
  refine awp_region ?_
  refine sq rfl rfl hn rfl (q_assign rfl rfl) ?_
  refine run_nil ?_
  refine aend_then ?_
  refine awp_seq ?_
  refine awp_region ?_
  refine stepW (s_buildRow 3 rfl rfl rfl (nb hn rfl) Try.underlying22 sz3 zr3 rfl rfl rfl (show _ = [] from by kernel_rfl) (by kernel_rfl) rfl rfl (show allD _ = some [] from by kernel_rfl) rfl rfl) fun v3 => ?_
  refine sq rfl rfl hn rfl (q_move rfl rfl) ?_
  refine stepW (s_append (id := 3) rfl rfl rfl (nb hn rfl) elt22 trivial rfl rfl rfl (by simp [chunk]; omega) (by simp [chunk]; omega) (fun b hb => trivial)) fun v5 => ?_
  refine sq rfl rfl hn rfl (q_assign rfl rfl) ?_
  refine run_nil ?_
  refine aend_then ?_
  refine awp_ret ?_
  refine gh_end (g_row (t := 2) (id := 3) rfl rfl) ?_
  refine ret_eq (ret_1 (.inl rfl) hl rfl (.tmp rfl)) ?_
  rfl

theorem astray_ok  : PureAt Try.prog 50 [] (entsD astrayL) := by
  refine PureAt.of_awp Try.func50 rfl (by kernel_rfl) (Nat.le_of_ble_eq_true rfl) fun Γ hn hl => ?_
  refine awp_seq ?_
  refine awp_region ?_
  refine sq rfl rfl hn rfl (q_assign rfl rfl) ?_
  refine run_nil ?_
  refine aend_then ?_
  refine awp_seq ?_
  refine awp_region ?_
  refine sq rfl rfl hn rfl (q_buildd rfl bt45 rfl rfl rfl rfl rfl) ?_
  refine sq rfl rfl hn rfl (q_buildd rfl bt95 rfl rfl rfl rfl rfl) ?_
  refine stepW (s_buildSlice rfl rfl rfl (nb hn rfl) Try.underlying32 sz95 zr95 rfl rfl rfl (show _ = [.d (.int .i64 0), .d (.int .i64 0), .d (.int .i64 0), .d (.int .i64 0), .d (.int .i64 0), .d (.int .i64 0)] from by kernel_rfl) (by kernel_rfl) rfl (fill_agg (by kernel_rfl) rfl) (allD_d _) (beq_len rfl) (chunk_one rfl)) fun _ => ?_
  refine sq rfl rfl hn rfl (q_assign rfl rfl) ?_
  refine run_nil ?_
  refine aend_then ?_
  refine awp_ret ?_
  exact ret_1 (.inl rfl) hl rfl (.tmp rfl)

theorem Register_ok (r : Reg) (h1 : r.start.length ≤ 1000000) (h2 : r.entries.length ≤ 1000000) (h3 : r.sights.length ≤ 1000000) : PureAt Try.prog 17 [regD r] (regD r) := by
  refine PureAt.of_awp Try.func17 rfl (by kernel_rfl) (Nat.le_of_ble_eq_true rfl) fun Γ hn hl => ?_
  refine awp_seq ?_
  refine awp_region ?_
  refine stepW (s_box 1 rfl rfl rfl (nb hn rfl) rfl rfl) fun b1 => ?_
  refine stepW (s_alloc 2 rfl rfl rfl (nb hn rfl) zr35 rfl rfl) fun b2 => ?_
  refine run_nil ?_
  refine aend_then ?_
  refine awp_seq ?_
  refine awp_join_on (e := .normal) (ι := Nat) (fun b3 => (3, true, .val (.pointer (some ⟨b3, 0, none⟩))) :: anys [8, 9, 10, 11, 12, 13]) (fun b3 => [(3, .box b3 35 [.d (.int .i64 r.houses), .d (ints r.start), .d .nil, .d .nil])]) (fun hJ0 => ?_) ?_
  · skip
    refine d_start (W := fun b => b ≠ b1) fmo ?_
    refine d1q (i := 0) rfl (by kernel_rfl) (fun _ _ _ _ h => h) rfl rfl hn rfl (q_fieldAddr rfl rfl Try.underlying26 rfl sz3) ?_
    refine d1q (i := 1) rfl (by kernel_rfl) (fun _ _ _ _ h => h) rfl rfl hn rfl (q_load rfl rfl (id := 1) rfl Try.underlying3 rfl rfl (seesA (by simp))) ?_
    refine d1q (i := 2) rfl (by kernel_rfl) (fun _ _ _ _ h => h) rfl rfl hn rfl (q_fieldAddr rfl rfl Try.underlying26 rfl sz22) ?_
    refine d1q (i := 3) rfl (by kernel_rfl) (fun _ _ _ _ h => h) rfl rfl hn rfl (q_load rfl rfl (id := 1) rfl Try.underlying22 rfl rfl (seesA (by simp))) ?_
    refine d1_of_d2 ?_
    refine d2_all 4 [6] (by kernel_rfl) ⟨?_, ?_, trivial⟩
    · skip
      refine br rfl (s_call [] (fun _ => list_ok _ (by omega)) rfl (guard_none rfl) rfl (nb hn rfl) (fun _ => trivial) rfl rfl (.refl _)) fun _ => ?_
      refine d2_of_d1 ?_
      refine d1q (i := 5) rfl (by kernel_rfl) (fun _ _ _ _ h => h) rfl rfl hn rfl (q_buildd rfl bt35 rfl rfl rfl rfl rfl) ?_
      refine d1_of_d2 ?_
      refine d2_one (i := 6) (by kernel_rfl) rfl (s_alloc 3 rfl rfl rfl (nb hn rfl) zr35 rfl rfl) fun b3 => ?_
      refine d2_of_d1 ?_
      refine d1_of_d2 ?_
      refine g_ne_d2 (i := 3) (j := 1) rfl rfl rfl (fun hne3_1 => ?_)
      refine d2_one (i := 7) (by kernel_rfl) rfl (s_store rfl rfl rfl rfl rfl rfl (id := 3) rfl sz35 rfl (Nat.le_of_ble_eq_true rfl) rfl (fun e => hne3_1 _ rfl (congrArg some e.symm))) fun _ => ?_
      refine d2_of_d1 ?_
      refine d1_of_d2 ?_
      refine d2_done (by kernel_rfl) ?_
      exact aend_join_on hJ0 b3 ⟨.inl rfl, holdT_anys _⟩ ⟨.inl rfl, trivial⟩ (by repeat (first | exact kr _ | refine kc rfl ?_)) (by repeat (first | exact kr _ | refine kc rfl ?_))
    · skip
      refine br rfl (s_alloc 3 rfl rfl rfl (nb hn rfl) zr35 rfl rfl) fun b3 => ?_
      refine d2_of_d1 ?_
      refine d1_of_d2 ?_
      refine d2_one (i := 4) (by kernel_rfl) rfl (s_call [] (fun _ => list_ok _ (by omega)) rfl (guard_none rfl) rfl (nb hn rfl) (fun _ => trivial) rfl rfl (.refl _)) fun _ => ?_
      refine d2_of_d1 ?_
      refine d1q (i := 5) rfl (by kernel_rfl) (fun _ _ _ _ h => h) rfl rfl hn rfl (q_buildd rfl bt35 rfl rfl rfl rfl rfl) ?_
      refine d1_of_d2 ?_
      refine g_ne_d2 (i := 3) (j := 1) rfl rfl rfl (fun hne3_1 => ?_)
      refine d2_one (i := 7) (by kernel_rfl) rfl (s_store rfl rfl rfl rfl rfl rfl (id := 3) rfl sz35 rfl (Nat.le_of_ble_eq_true rfl) rfl (fun e => hne3_1 _ rfl (congrArg some e.symm))) fun _ => ?_
      refine d2_of_d1 ?_
      refine d1_of_d2 ?_
      refine d2_done (by kernel_rfl) ?_
      exact aend_join_on hJ0 b3 ⟨.inl rfl, holdT_anys _⟩ ⟨.inl rfl, trivial⟩ (by repeat (first | exact kr _ | refine kc rfl ?_)) (by repeat (first | exact kr _ | refine kc rfl ?_))
  · rintro b3
    refine aend_then ?_
    refine awp_seq ?_
    refine awp_seq ?_
    refine gh_awp (gh_nilcell (id := 3) (k := 2) 302 95 6 rfl rfl) ?_
    refine gh_awp (gh_nilcell (id := 3) (k := 3) 303 92 3 rfl rfl) ?_
    refine awp_region ?_
    refine sq rfl rfl hn rfl (q_assign rfl rfl) ?_
    refine run_nil ?_
    refine aend_then ?_
    refine awp_block ?_
    refine awp_loop_on (ι := { x : Nat × Value // x.1 ≤ r.entries.length }) (fun x => (4, true, .d (.int .i64 (x.1.1 : Nat))) :: anys [14, 15, 16, 17, 18, 21, 22, 23, 24, 25, 5, 26, 27, 28, 29, 30, 31, 32, 33, 34, 35, 36, 37, 38, 39, 40, 41, 42, 43, 44, 45, 46, 19, 20]) (fun x => (3, .box b3 35 [.d (.int .i64 r.houses), .d (ints r.start), .val x.1.2, .val (.slice none 0 0)]) :: (302, .row x.1.2 95 6 ((r.entries.take x.1.1).map entE)) :: gones [5]) (fun x => r.entries.length - x.1.1) ⟨(0, .slice none 0 0), by simp⟩ ⟨.inl rfl, holdT_anys _⟩ ⟨.inl rfl, .inl rfl, holdR_gones _⟩ ?_
    rintro ⟨⟨i, vv⟩, hi⟩
    dsimp only
    dsimp only at hi
    refine awp_seq ?_
    refine awp_seq ?_
    refine awp_region ?_
    refine sq rfl rfl hn rfl (q_move rfl rfl) ?_
    refine sq rfl rfl hn rfl (q_fieldAddr rfl rfl Try.underlying26 rfl sz23) ?_
    refine sq rfl rfl hn rfl (q_load rfl rfl (id := 1) rfl Try.underlying23 rfl rfl sees0) ?_
    refine sq rfl rfl hn rfl (q_len rfl rfl Try.underlying23) ?_
    refine sq rfl rfl hn rfl (q_lss rfl rfl rfl) ?_
    refine run_nil ?_
    refine aend_then ?_
    refine awp_cond rfl (fun hb1 => ?_) (fun hb1 => ?_)
    · try simp only [decide_eq_true_eq, decide_eq_false_iff_not, Bool.and_eq_true, Bool.or_eq_true, Bool.and_eq_false_iff, Bool.or_eq_false_iff, Bool.not_eq_true', Bool.not_eq_false', beq_iff_eq, bne_iff_ne, ne_eq, beq_eq_false_iff_ne, bne_eq_false_iff_eq, Int.not_lt, Int.not_le] at hb1
      have hlt : i < r.entries.length := by simpa using hb1
      obtain ⟨x, hx⟩ := ex_get hlt
      refine awp_skip ?_
      refine aend_then ?_
      refine awp_seq ?_
      refine awp_block ?_
      refine awp_seq ?_
      refine awp_region ?_
      refine sq rfl rfl hn rfl (q_fieldAddr rfl rfl Try.underlying26 rfl sz23) ?_
      refine sq rfl rfl hn rfl (q_load rfl rfl (id := 1) rfl Try.underlying23 rfl rfl sees0) ?_
      refine sq rfl rfl hn rfl (q_move rfl rfl) ?_
      refine sq rfl rfl hn rfl (q_index rfl rfl rfl Try.underlying23 sz67 rfl (mget hx)) ?_
      refine sq rfl rfl hn rfl (q_loadpA rfl rfl Try.underlying67 rfl sz67 rfl rfl seesF0) ?_
      refine stepW (s_alloc 5 rfl rfl rfl (nb hn rfl) zr67 rfl rfl) fun b5 => ?_
      refine stepW (s_store rfl rfl rfl rfl rfl rfl (id := 5) rfl sz67 rfl (Nat.le_of_ble_eq_true rfl) rfl trivial) fun _ => ?_
      refine run_nil ?_
      refine aend_then ?_
      refine awp_region ?_
      refine sq rfl rfl hn rfl (q_fieldAddr rfl rfl Try.underlying35 rfl sz32) ?_
      refine sq rfl rfl hn rfl (q_load rfl rfl (id := 3) rfl Try.underlying32 rfl rfl sees0) ?_
      refine sq rfl rfl hn rfl (q_fieldAddr rfl rfl Try.underlying67 rfl sz3) ?_
      refine sq rfl rfl hn rfl (q_load rfl rfl (id := 5) rfl Try.underlying3 rfl rfl sees0) ?_
      refine sq rfl rfl hn rfl (q_fieldAddr rfl rfl Try.underlying67 rfl sz3) ?_
      refine sq rfl rfl hn rfl (q_load rfl rfl (id := 5) rfl Try.underlying3 rfl rfl sees0) ?_
      refine sq rfl rfl hn rfl (q_fieldAddr rfl rfl Try.underlying67 rfl sz3) ?_
      refine sq rfl rfl hn rfl (q_load rfl rfl (id := 5) rfl Try.underlying3 rfl rfl sees0) ?_
      refine sq rfl rfl hn rfl (q_fieldAddr rfl rfl Try.underlying67 rfl sz3) ?_
      refine sq rfl rfl hn rfl (q_load rfl rfl (id := 5) rfl Try.underlying3 rfl rfl sees0) ?_
      refine sq rfl rfl hn rfl (q_fieldAddr rfl rfl Try.underlying67 rfl sz49) ?_
      refine sq rfl rfl hn rfl (q_fieldAddr rfl rfl Try.underlying49 rfl sz3) ?_
      refine sq rfl rfl hn rfl (q_load rfl rfl (id := 5) rfl Try.underlying3 rfl rfl sees0) ?_
      refine sq rfl rfl hn rfl (q_fieldAddr rfl rfl Try.underlying67 rfl sz49) ?_
      refine sq rfl rfl hn rfl (q_fieldAddr rfl rfl Try.underlying49 rfl sz3) ?_
      refine sq rfl rfl hn rfl (q_load rfl rfl (id := 5) rfl Try.underlying3 rfl rfl sees0) ?_
      refine sq rfl rfl hn rfl (q_buildd rfl bt45 rfl rfl rfl rfl rfl) ?_
      refine sq rfl rfl hn rfl (q_buildd rfl bt95 rfl rfl rfl rfl rfl) ?_
      refine stepW (s_buildSlice rfl rfl rfl (nb hn rfl) Try.underlying32 sz95 zr95 rfl rfl rfl (show _ = [.d (.int .i64 0), .d (.int .i64 0), .d (.int .i64 0), .d (.int .i64 0), .d (.int .i64 0), .d (.int .i64 0)] from by kernel_rfl) (by kernel_rfl) rfl (fill_agg (by kernel_rfl) rfl) (allD_d _) (beq_len rfl) (chunk_one rfl)) fun _ => ?_
      refine stepW (s_append (id := 302) rfl rfl rfl (nb hn rfl) elt32 trivial rfl rfl rfl (by simp [List.length_take]; omega) (by simp [List.length_take]; omega) (fun b hb => trivial)) fun v45 => ?_
      refine sq rfl rfl hn rfl (q_fieldAddr rfl rfl Try.underlying35 rfl sz32) ?_
      refine stepW (s_storeRow rfl rfl rfl rfl rfl (rid := 302) rfl (id := 3) rfl sz32 (Nat.le_of_ble_eq_true rfl) rfl trivial) fun _ => ?_
      refine run_nil ?_
      refine aend_block ?_
      refine aend_then ?_
      refine awp_region ?_
      refine sq rfl rfl hn rfl (q_move rfl rfl) ?_
      refine sq rfl rfl hn rfl (q_add rfl rfl rfl (r := ((i + 1 : Nat) : Int)) (i64w (by omega) (by omega))) ?_
      refine sq rfl rfl hn rfl (q_assign rfl rfl) ?_
      refine run_nil ?_
      exact aend_round_on ⟨(i + 1, v45), by simp only; omega⟩ ⟨.inl rfl, holdT_anys _⟩ ⟨.inl rfl, .inl (congrArg (fun z => some (Res.row v45 95 6 z)) (take_map hx)), holdR_gones _⟩ (by simp only; omega) (by repeat (first | exact kr _ | refine kc rfl ?_)) (by repeat (first | exact kr _ | refine kc rfl ?_))
    · try simp only [decide_eq_true_eq, decide_eq_false_iff_not, Bool.and_eq_true, Bool.or_eq_true, Bool.and_eq_false_iff, Bool.or_eq_false_iff, Bool.not_eq_true', Bool.not_eq_false', beq_iff_eq, bne_iff_ne, ne_eq, beq_eq_false_iff_ne, bne_eq_false_iff_eq, Int.not_lt, Int.not_le] at hb1
      have hie : i = r.entries.length := by simp only [List.length_map] at hb1; omega
      subst hie; rw [List.take_length]
      refine awp_exit ?_
      refine aend_then_exit ?_
      refine aend_then_exit ?_
      refine aend_block_exit ?_
      refine aend_then ?_
      refine awp_seq ?_
      refine awp_seq ?_
      refine awp_region ?_
      refine sq rfl rfl hn rfl (q_assign rfl rfl) ?_
      refine run_nil ?_
      refine aend_then ?_
      refine awp_block ?_
      refine awp_loop_on (ι := { x : Nat × Value // x.1 ≤ r.sights.length }) (fun x => (6, true, .d (.int .i64 (x.1.1 : Nat))) :: anys [47, 48, 49, 50, 51, 54, 55, 56, 57, 58, 7, 59, 60, 61, 62, 63, 64, 65, 66, 67, 68, 69, 70, 52, 53]) (fun x => (3, .box b3 35 [.d (.int .i64 r.houses), .d (ints r.start), .val vv, .val x.1.2]) :: (303, .row x.1.2 92 3 ((r.sights.take x.1.1).map sightE)) :: gones [7]) (fun x => r.sights.length - x.1.1) ⟨(0, .slice none 0 0), by simp⟩ ⟨.inl rfl, holdT_anys _⟩ ⟨.inl rfl, .inl rfl, holdR_gones _⟩ ?_
      rintro ⟨⟨i, vw⟩, hi⟩
      dsimp only
      dsimp only at hi
      refine awp_seq ?_
      refine awp_seq ?_
      refine awp_region ?_
      refine sq rfl rfl hn rfl (q_move rfl rfl) ?_
      refine sq rfl rfl hn rfl (q_fieldAddr rfl rfl Try.underlying26 rfl sz24) ?_
      refine sq rfl rfl hn rfl (q_load rfl rfl (id := 1) rfl Try.underlying24 rfl rfl sees0) ?_
      refine sq rfl rfl hn rfl (q_len rfl rfl Try.underlying24) ?_
      refine sq rfl rfl hn rfl (q_lss rfl rfl rfl) ?_
      refine run_nil ?_
      refine aend_then ?_
      refine awp_cond rfl (fun hb2 => ?_) (fun hb2 => ?_)
      · try simp only [decide_eq_true_eq, decide_eq_false_iff_not, Bool.and_eq_true, Bool.or_eq_true, Bool.and_eq_false_iff, Bool.or_eq_false_iff, Bool.not_eq_true', Bool.not_eq_false', beq_iff_eq, bne_iff_ne, ne_eq, beq_eq_false_iff_ne, bne_eq_false_iff_eq, Int.not_lt, Int.not_le] at hb2
        have hlt : i < r.sights.length := by simpa using hb2
        obtain ⟨x, hx⟩ := ex_get hlt
        refine awp_skip ?_
        refine aend_then ?_
        refine awp_seq ?_
        refine awp_block ?_
        refine awp_seq ?_
        refine awp_region ?_
        refine sq rfl rfl hn rfl (q_fieldAddr rfl rfl Try.underlying26 rfl sz24) ?_
        refine sq rfl rfl hn rfl (q_load rfl rfl (id := 1) rfl Try.underlying24 rfl rfl sees0) ?_
        refine sq rfl rfl hn rfl (q_move rfl rfl) ?_
        refine sq rfl rfl hn rfl (q_index rfl rfl rfl Try.underlying24 sz59 rfl (mget hx)) ?_
        refine sq rfl rfl hn rfl (q_loadpA rfl rfl Try.underlying59 rfl sz59 rfl rfl seesF0) ?_
        refine stepW (s_alloc 7 rfl rfl rfl (nb hn rfl) zr59 rfl rfl) fun b7 => ?_
        refine stepW (s_store rfl rfl rfl rfl rfl rfl (id := 7) rfl sz59 rfl (Nat.le_of_ble_eq_true rfl) rfl trivial) fun _ => ?_
        refine run_nil ?_
        refine aend_then ?_
        refine awp_region ?_
        refine sq rfl rfl hn rfl (q_fieldAddr rfl rfl Try.underlying35 rfl sz33) ?_
        refine sq rfl rfl hn rfl (q_load rfl rfl (id := 3) rfl Try.underlying33 rfl rfl sees0) ?_
        refine sq rfl rfl hn rfl (q_fieldAddr rfl rfl Try.underlying59 rfl sz3) ?_
        refine sq rfl rfl hn rfl (q_load rfl rfl (id := 7) rfl Try.underlying3 rfl rfl sees0) ?_
        refine sq rfl rfl hn rfl (q_fieldAddr rfl rfl Try.underlying59 rfl sz3) ?_
        refine sq rfl rfl hn rfl (q_load rfl rfl (id := 7) rfl Try.underlying3 rfl rfl sees0) ?_
        refine sq rfl rfl hn rfl (q_fieldAddr rfl rfl Try.underlying59 rfl sz3) ?_
        refine sq rfl rfl hn rfl (q_load rfl rfl (id := 7) rfl Try.underlying3 rfl rfl sees0) ?_
        refine sq rfl rfl hn rfl (q_buildd rfl bt92 rfl rfl rfl rfl rfl) ?_
        refine stepW (s_buildSlice rfl rfl rfl (nb hn rfl) Try.underlying33 sz92 zr92 rfl rfl rfl (show _ = [.d (.int .i64 0), .d (.int .i64 0), .d (.int .i64 0)] from by kernel_rfl) (by kernel_rfl) rfl (fill_agg (by kernel_rfl) rfl) (allD_d _) (beq_len rfl) (chunk_one rfl)) fun _ => ?_
        refine stepW (s_append (id := 303) rfl rfl rfl (nb hn rfl) elt33 trivial rfl rfl rfl (by simp [List.length_take]; omega) (by simp [List.length_take]; omega) (fun b hb => trivial)) fun v69 => ?_
        refine sq rfl rfl hn rfl (q_fieldAddr rfl rfl Try.underlying35 rfl sz33) ?_
        refine stepW (s_storeRow rfl rfl rfl rfl rfl (rid := 303) rfl (id := 3) rfl sz33 (Nat.le_of_ble_eq_true rfl) rfl trivial) fun _ => ?_
        refine run_nil ?_
        refine aend_block ?_
        refine aend_then ?_
        refine awp_region ?_
        refine sq rfl rfl hn rfl (q_move rfl rfl) ?_
        refine sq rfl rfl hn rfl (q_add rfl rfl rfl (r := ((i + 1 : Nat) : Int)) (i64w (by omega) (by omega))) ?_
        refine sq rfl rfl hn rfl (q_assign rfl rfl) ?_
        refine run_nil ?_
        exact aend_round_on ⟨(i + 1, v69), by simp only; omega⟩ ⟨.inl rfl, holdT_anys _⟩ ⟨.inl rfl, .inl (congrArg (fun z => some (Res.row v69 92 3 z)) (take_map hx)), holdR_gones _⟩ (by simp only; omega) (by repeat (first | exact kr _ | refine kc rfl ?_)) (by repeat (first | exact kr _ | refine kc rfl ?_))
      · try simp only [decide_eq_true_eq, decide_eq_false_iff_not, Bool.and_eq_true, Bool.or_eq_true, Bool.and_eq_false_iff, Bool.or_eq_false_iff, Bool.not_eq_true', Bool.not_eq_false', beq_iff_eq, bne_iff_ne, ne_eq, beq_eq_false_iff_ne, bne_eq_false_iff_eq, Int.not_lt, Int.not_le] at hb2
        have hie : i = r.sights.length := by simp only [List.length_map] at hb2; omega
        subst hie; rw [List.take_length]
        refine awp_exit ?_
        refine aend_then_exit ?_
        refine aend_then_exit ?_
        refine aend_block_exit ?_
        refine aend_then ?_
        refine awp_seq ?_
        refine gh_awp (gh_rowcell (id := 3) (k := 2) (rid := 302) rfl rfl rfl) ?_
        refine gh_awp (gh_rowcell (id := 3) (k := 3) (rid := 303) rfl rfl rfl) ?_
        refine awp_region ?_
        refine sq rfl rfl hn rfl (q_loadAd rfl rfl (id := 3) rfl Try.underlying35 rfl sz35 rfl rfl sees0) ?_
        refine stepW (s_store rfl rfl rfl rfl rfl rfl (id := 2) rfl sz35 rfl (Nat.le_of_ble_eq_true rfl) rfl trivial) fun _ => ?_
        refine run_nil ?_
        refine aend_then ?_
        refine awp_ret ?_
        exact ret_1 (.inl rfl) hl rfl (.cellA rfl (id := 2) rfl Try.underlying35 rfl sz35 rfl rfl)


theorem few_valid {a : Bool} {x : Int} (h : ((true && (a == true)) && ((x != 0) == false)) = true) : x = 0 := by simp at h; exact h.2
theorem few_ok (r : Reg) (most : Int) : PureAt Try.prog 14 [regD r, .int .i64 most] (.bool (thinB r && ((checkE r != 0) || decide ((manyN r.entries : Int) ≤ most)))) := by
  refine PureAt.of_awp Try.func14 rfl (by kernel_rfl) (Nat.le_of_ble_eq_true rfl) fun Γ hn hl => ?_
  refine awp_seq ?_
  refine awp_region ?_
  refine stepW (s_box 2 rfl rfl rfl (nb hn rfl) rfl rfl) fun b2 => ?_
  refine sq rfl rfl hn rfl (q_assign rfl rfl) ?_
  refine run_nil ?_
  refine aend_then ?_
  refine awp_seq ?_
  refine awp_region ?_
  refine sq rfl rfl hn rfl (q_loadAd rfl rfl (id := 2) rfl Try.underlying26 rfl sz26 rfl rfl sees0) ?_
  refine stepW (s_call [] (fun _ => Thin_ok _) rfl (guard_none rfl) rfl (nb hn rfl) (fun _ => trivial) rfl rfl (.refl _)) fun _ => ?_
  refine sq rfl rfl hn rfl (q_move rfl rfl) ?_
  refine stepG [] (guard_some rfl rfl rfl) rfl (nb hn rfl) (fun hc => trivial) (fun hc => q_loadAd rfl rfl (id := 2) rfl Try.underlying26 rfl sz26 rfl rfl sees0) ?_
  refine stepW (s_call [(8, _)] (fun hc => Fault_ok _) rfl (guard_some rfl rfl rfl) rfl (nb hn rfl) (fun hc => ⟨⟨_, rfl, hc⟩, trivial⟩) rfl rfl (.refl _)) fun _ => ?_
  refine stepG [(9, _)] (guard_some rfl rfl rfl) rfl (nb hn rfl) (fun hc => ⟨⟨_, rfl, hc⟩, trivial⟩) (fun hc => q_neq rfl rfl rfl) ?_
  refine stepG [(10, _)] (guard_some rfl rfl rfl) rfl (nb hn rfl) (fun hc => ⟨⟨_, rfl, hc⟩, trivial⟩) (fun hc => q_move rfl rfl) ?_
  refine stepG [] (guard_some rfl rfl rfl) rfl (nb hn rfl) (fun hc => trivial) (fun hc => q_loadAd rfl rfl (id := 2) rfl Try.underlying26 rfl sz26 rfl rfl sees0) ?_
  refine stepW (s_call [(12, _)] (fun hc => Many_ok r (valid_of (few_valid hc))) rfl (guard_some rfl rfl rfl) rfl (nb hn rfl) (fun hc => ⟨⟨_, rfl, hc⟩, trivial⟩) rfl rfl (.refl _)) fun _ => ?_
  refine stepG [] (guard_some rfl rfl rfl) rfl (nb hn rfl) (fun hc => trivial) (fun hc => q_move rfl rfl) ?_
  refine stepG [(13, _), (14, _)] (guard_some rfl rfl rfl) rfl (nb hn rfl) (fun hc => ⟨⟨_, rfl, hc⟩, ⟨_, rfl, hc⟩, trivial⟩) (fun hc => q_leq rfl rfl rfl) ?_
  refine stepG [(11, _)] (guard_some rfl rfl rfl) rfl (nb hn rfl) (fun hc => ⟨⟨_, rfl, hc⟩, trivial⟩) (fun hc => q_or rfl rfl rfl (by simp_all)) ?_
  refine sq rfl rfl hn rfl (q_and rfl rfl rfl (by simp_all)) ?_
  refine sq rfl rfl hn rfl (q_assign rfl rfl) ?_
  refine run_nil ?_
  refine aend_then ?_
  refine awp_ret ?_
  exact ret_1 (.inl rfl) hl rfl (.tmp rfl)

theorem loan_ok (more : List Ent5) (sights : List Sight5) (h5 : more.length ≤ 1000) : PureAt Try.prog 49 [entsD more, sightsD sights] (regD (loanR more sights)) := by
  refine PureAt.of_awp Try.func49 rfl (by kernel_rfl) (Nat.le_of_ble_eq_true rfl) fun Γ hn hl => ?_
  refine awp_seq ?_
  refine awp_region ?_
  refine stepW (s_alloc 4 rfl rfl rfl (nb hn rfl) zr35 rfl rfl) fun b4 => ?_
  refine run_nil ?_
  refine aend_then ?_
  refine awp_seq ?_
  refine awp_region ?_
  refine sq rfl rfl hn rfl (q_buildd rfl bt45 rfl rfl rfl rfl rfl) ?_
  refine sq rfl rfl hn rfl (q_buildd rfl bt95 rfl rfl rfl rfl rfl) ?_
  refine sq rfl rfl hn rfl (q_buildd rfl bt45 rfl rfl rfl rfl rfl) ?_
  refine sq rfl rfl hn rfl (q_buildd rfl bt95 rfl rfl rfl rfl rfl) ?_
  refine sq rfl rfl hn rfl (q_buildd rfl bt45 rfl rfl rfl rfl rfl) ?_
  refine sq rfl rfl hn rfl (q_buildd rfl bt95 rfl rfl rfl rfl rfl) ?_
  refine stepW (s_buildRow 5 rfl rfl rfl (nb hn rfl) Try.underlying32 sz95 zr95 rfl rfl rfl (show _ = [.d (.int .i64 0), .d (.int .i64 0), .d (.int .i64 0), .d (.int .i64 0), .d (.int .i64 0), .d (.int .i64 0), .d (.int .i64 0), .d (.int .i64 0), .d (.int .i64 0), .d (.int .i64 0), .d (.int .i64 0), .d (.int .i64 0), .d (.int .i64 0), .d (.int .i64 0), .d (.int .i64 0), .d (.int .i64 0), .d (.int .i64 0), .d (.int .i64 0)] from by kernel_rfl) (by kernel_rfl) rfl rfl rfl rfl rfl) fun v12 => ?_
  refine sq rfl rfl hn rfl (q_assign rfl rfl) ?_
  refine run_nil ?_
  refine aend_then ?_
  refine awp_seq ?_
  refine awp_region ?_
  refine stepW (s_buildSlice rfl rfl rfl (nb hn rfl) Try.underlying22 sz3 zr3 rfl rfl rfl (show _ = [.d (.int .i64 0), .d (.int .i64 0)] from by kernel_rfl) (by kernel_rfl) rfl rfl rfl rfl rfl) fun _ => ?_
  refine sq rfl rfl hn rfl (q_move rfl rfl) ?_
  refine sq rfl rfl hn rfl (q_move rfl rfl) ?_
  refine stepW (s_append (id := 5) rfl rfl rfl (nb hn rfl) elt32 trivial rfl rfl rfl (by simp [chunk]; omega) (by simp [chunk]; omega) (fun b hb => trivial)) fun v16 => ?_
  refine sq rfl rfl hn rfl (q_move rfl rfl) ?_
  refine gh_run (g_row (t := 16) (id := 5) rfl rfl) ?_
  refine sq rfl rfl hn rfl (q_buildd rfl bt35 rfl rfl rfl rfl rfl) ?_
  refine stepW (s_store rfl rfl rfl rfl rfl rfl (id := 4) rfl sz35 rfl (Nat.le_of_ble_eq_true rfl) rfl trivial) fun _ => ?_
  refine run_nil ?_
  refine aend_then ?_
  refine awp_ret ?_
  exact ret_1 (.inl rfl) hl rfl (.cellA rfl (id := 4) rfl Try.underlying35 rfl sz35 rfl rfl)

theorem seeing_ok (r : Reg) (s : Sight5) (h5 : r.sights.length ≤ 1000000) : PureAt Try.prog 32 [regD r, .agg (sightE s)] (regD (seeingR r s)) := by
  refine PureAt.of_awp Try.func32 rfl (by kernel_rfl) (Nat.le_of_ble_eq_true rfl) fun Γ hn hl => ?_
  refine awp_seq ?_
  refine awp_region ?_
  refine stepW (s_box 2 rfl rfl rfl (nb hn rfl) rfl rfl) fun b2 => ?_
  refine stepW (s_box 3 rfl rfl rfl (nb hn rfl) rfl rfl) fun b3 => ?_
  refine stepW (s_alloc 4 rfl rfl rfl (nb hn rfl) zr26 rfl rfl) fun b4 => ?_
  refine run_nil ?_
  refine aend_then ?_
  refine awp_seq ?_
  refine d_start (W := fun b => b ≠ b3) fmo ?_
  refine d1q (i := 1) rfl (by kernel_rfl) (fun _ _ _ _ h => h) rfl rfl hn rfl (q_fieldAddr rfl rfl Try.underlying26 rfl sz24) ?_
  refine d1q (i := 4) rfl (by kernel_rfl) (fun _ _ _ _ h => h) rfl rfl hn rfl (q_loadAd rfl rfl (id := 3) rfl Try.underlying59 rfl sz59 rfl rfl (seesA (by simp))) ?_
  refine d1_of_d2 ?_
  refine d2_all 0 [2, 5] (by kernel_rfl) ⟨?_, ?_, ?_, trivial⟩
  · skip
    refine br rfl (s_buildRow 5 rfl rfl rfl (nb hn rfl) Try.underlying24 sz59 zr59 rfl rfl rfl (show _ = [] from by kernel_rfl) (by kernel_rfl) rfl rfl (show allD _ = some [] from by kernel_rfl) rfl rfl) fun v5 => ?_
    refine d2_of_d1 ?_
    refine d1_of_d2 ?_
    refine d2_all 2 [5] (by kernel_rfl) ⟨?_, ?_, trivial⟩
    · skip
      refine br rfl (quiet_wg _ [] (guard_none rfl) rfl (nb hn rfl) (fun _ => trivial) (fun _ => q_load rfl rfl (id := 2) rfl Try.underlying24 rfl rfl sees0)) fun _ => ?_
      refine d2_of_d1 ?_
      refine d1_of_d2 ?_
      refine g_ne_d2 (i := 5) (j := 3) rfl rfl rfl (fun hne5_3 => ?_)
      refine d2_all 3 [5] (by kernel_rfl) ⟨?_, ?_, trivial⟩
      · skip
        refine br rfl (s_append (id := 5) rfl rfl rfl (nb hn rfl) elt24 trivial rfl rfl rfl (by simp [chunk]; omega) (by simp [chunk]; omega) (fun b hb => (fun e => hne5_3 _ hb (congrArg some e.symm)))) fun v8 => ?_
        refine d2_of_d1 ?_
        refine d1_of_d2 ?_
        refine d2_one (i := 5) (by kernel_rfl) rfl (s_buildSlice rfl rfl rfl (nb hn rfl) Try.underlying24 sz59 zr59 rfl rfl rfl (show _ = [.d (.int .i64 0), .d (.int .i64 0), .d (.int .i64 0)] from by kernel_rfl) (by kernel_rfl) rfl (fill_agg (by kernel_rfl) rfl) (allD_d _) (beq_len rfl) (chunk_one rfl)) fun _ => ?_
        refine d2_of_d1 ?_
        refine d1_of_d2 ?_
        refine g_ne_d2 (i := 5) (j := 3) rfl rfl rfl (fun hne5_3 => ?_)
        refine d2_one (i := 6) (by kernel_rfl) rfl (s_append (id := 5) rfl rfl rfl (nb hn rfl) elt24 trivial rfl rfl rfl (by simp [chunk]; omega) (by simp [chunk]; omega) (fun b hb => (fun e => hne5_3 _ hb (congrArg some e.symm)))) fun v11 => ?_
        refine d2_of_d1 ?_
        refine d1q (i := 7) rfl (by kernel_rfl) (fun _ _ _ _ h => h) rfl rfl hn rfl (q_fieldAddr rfl rfl Try.underlying26 rfl sz24) ?_
        refine d1_of_d2 ?_
        refine gh_d2 (g_row (t := 11) (id := 5) rfl rfl) ?_
        refine g_ne_d2 (i := 2) (j := 3) rfl rfl rfl (fun hne2_3 => ?_)
        refine d2_one (i := 8) (by kernel_rfl) rfl (s_store1 rfl rfl rfl rfl rfl rfl (id := 2) rfl sz24 (Nat.le_of_ble_eq_true rfl) rfl (fun e => hne2_3 _ rfl (congrArg some e.symm))) fun _ => ?_
        refine d2_of_d1 ?_
        refine d1_of_d2 ?_
        refine d2_done (by kernel_rfl) ?_
        refine aend_then ?_
        refine awp_seq ?_
        refine awp_region ?_
        refine sq rfl rfl hn rfl (q_loadAd rfl rfl (id := 2) rfl Try.underlying26 rfl sz26 rfl rfl sees0) ?_
        refine stepW (s_store rfl rfl rfl rfl rfl rfl (id := 4) rfl sz26 rfl (Nat.le_of_ble_eq_true rfl) rfl trivial) fun _ => ?_
        refine run_nil ?_
        refine aend_then ?_
        refine awp_ret ?_
        refine ret_eq (ret_1 (.inl rfl) hl rfl (.cellA rfl (id := 4) rfl Try.underlying26 rfl sz26 rfl rfl)) ?_
        simp [seeingR, chunk]
      · skip
        refine br rfl (s_buildSlice rfl rfl rfl (nb hn rfl) Try.underlying24 sz59 zr59 rfl rfl rfl (show _ = [.d (.int .i64 0), .d (.int .i64 0), .d (.int .i64 0)] from by kernel_rfl) (by kernel_rfl) rfl (fill_agg (by kernel_rfl) rfl) (allD_d _) (beq_len rfl) (chunk_one rfl)) fun _ => ?_
        refine d2_of_d1 ?_
        refine d1_of_d2 ?_
        refine g_ne_d2 (i := 5) (j := 3) rfl rfl rfl (fun hne5_3 => ?_)
        refine d2_one (i := 3) (by kernel_rfl) rfl (s_append (id := 5) rfl rfl rfl (nb hn rfl) elt24 trivial rfl rfl rfl (by simp [chunk]; omega) (by simp [chunk]; omega) (fun b hb => (fun e => hne5_3 _ hb (congrArg some e.symm)))) fun v8 => ?_
        refine d2_of_d1 ?_
        refine d1_of_d2 ?_
        refine g_ne_d2 (i := 5) (j := 3) rfl rfl rfl (fun hne5_3 => ?_)
        refine d2_one (i := 6) (by kernel_rfl) rfl (s_append (id := 5) rfl rfl rfl (nb hn rfl) elt24 trivial rfl rfl rfl (by simp [chunk]; omega) (by simp [chunk]; omega) (fun b hb => (fun e => hne5_3 _ hb (congrArg some e.symm)))) fun v11 => ?_
        refine d2_of_d1 ?_
        refine d1q (i := 7) rfl (by kernel_rfl) (fun _ _ _ _ h => h) rfl rfl hn rfl (q_fieldAddr rfl rfl Try.underlying26 rfl sz24) ?_
        refine d1_of_d2 ?_
        refine gh_d2 (g_row (t := 11) (id := 5) rfl rfl) ?_
        refine g_ne_d2 (i := 2) (j := 3) rfl rfl rfl (fun hne2_3 => ?_)
        refine d2_one (i := 8) (by kernel_rfl) rfl (s_store1 rfl rfl rfl rfl rfl rfl (id := 2) rfl sz24 (Nat.le_of_ble_eq_true rfl) rfl (fun e => hne2_3 _ rfl (congrArg some e.symm))) fun _ => ?_
        refine d2_of_d1 ?_
        refine d1_of_d2 ?_
        refine d2_done (by kernel_rfl) ?_
        refine aend_then ?_
        refine awp_seq ?_
        refine awp_region ?_
        refine sq rfl rfl hn rfl (q_loadAd rfl rfl (id := 2) rfl Try.underlying26 rfl sz26 rfl rfl sees0) ?_
        refine stepW (s_store rfl rfl rfl rfl rfl rfl (id := 4) rfl sz26 rfl (Nat.le_of_ble_eq_true rfl) rfl trivial) fun _ => ?_
        refine run_nil ?_
        refine aend_then ?_
        refine awp_ret ?_
        refine ret_eq (ret_1 (.inl rfl) hl rfl (.cellA rfl (id := 4) rfl Try.underlying26 rfl sz26 rfl rfl)) ?_
        simp [seeingR, chunk]
    · skip
      refine br rfl (s_buildSlice rfl rfl rfl (nb hn rfl) Try.underlying24 sz59 zr59 rfl rfl rfl (show _ = [.d (.int .i64 0), .d (.int .i64 0), .d (.int .i64 0)] from by kernel_rfl) (by kernel_rfl) rfl (fill_agg (by kernel_rfl) rfl) (allD_d _) (beq_len rfl) (chunk_one rfl)) fun _ => ?_
      refine d2_of_d1 ?_
      refine d1_of_d2 ?_
      refine d2_one (i := 2) (by kernel_rfl) rfl (quiet_wg _ [] (guard_none rfl) rfl (nb hn rfl) (fun _ => trivial) (fun _ => q_load rfl rfl (id := 2) rfl Try.underlying24 rfl rfl sees0)) fun _ => ?_
      refine d2_of_d1 ?_
      refine d1_of_d2 ?_
      refine g_ne_d2 (i := 5) (j := 3) rfl rfl rfl (fun hne5_3 => ?_)
      refine d2_one (i := 3) (by kernel_rfl) rfl (s_append (id := 5) rfl rfl rfl (nb hn rfl) elt24 trivial rfl rfl rfl (by simp [chunk]; omega) (by simp [chunk]; omega) (fun b hb => (fun e => hne5_3 _ hb (congrArg some e.symm)))) fun v8 => ?_
      refine d2_of_d1 ?_
      refine d1_of_d2 ?_
      refine g_ne_d2 (i := 5) (j := 3) rfl rfl rfl (fun hne5_3 => ?_)
      refine d2_one (i := 6) (by kernel_rfl) rfl (s_append (id := 5) rfl rfl rfl (nb hn rfl) elt24 trivial rfl rfl rfl (by simp [chunk]; omega) (by simp [chunk]; omega) (fun b hb => (fun e => hne5_3 _ hb (congrArg some e.symm)))) fun v11 => ?_
      refine d2_of_d1 ?_
      refine d1q (i := 7) rfl (by kernel_rfl) (fun _ _ _ _ h => h) rfl rfl hn rfl (q_fieldAddr rfl rfl Try.underlying26 rfl sz24) ?_
      refine d1_of_d2 ?_
      refine gh_d2 (g_row (t := 11) (id := 5) rfl rfl) ?_
      refine g_ne_d2 (i := 2) (j := 3) rfl rfl rfl (fun hne2_3 => ?_)
      refine d2_one (i := 8) (by kernel_rfl) rfl (s_store1 rfl rfl rfl rfl rfl rfl (id := 2) rfl sz24 (Nat.le_of_ble_eq_true rfl) rfl (fun e => hne2_3 _ rfl (congrArg some e.symm))) fun _ => ?_
      refine d2_of_d1 ?_
      refine d1_of_d2 ?_
      refine d2_done (by kernel_rfl) ?_
      refine aend_then ?_
      refine awp_seq ?_
      refine awp_region ?_
      refine sq rfl rfl hn rfl (q_loadAd rfl rfl (id := 2) rfl Try.underlying26 rfl sz26 rfl rfl sees0) ?_
      refine stepW (s_store rfl rfl rfl rfl rfl rfl (id := 4) rfl sz26 rfl (Nat.le_of_ble_eq_true rfl) rfl trivial) fun _ => ?_
      refine run_nil ?_
      refine aend_then ?_
      refine awp_ret ?_
      refine ret_eq (ret_1 (.inl rfl) hl rfl (.cellA rfl (id := 4) rfl Try.underlying26 rfl sz26 rfl rfl)) ?_
      simp [seeingR, chunk]
  · skip
    refine br rfl (quiet_wg _ [] (guard_none rfl) rfl (nb hn rfl) (fun _ => trivial) (fun _ => q_load rfl rfl (id := 2) rfl Try.underlying24 rfl rfl sees0)) fun _ => ?_
    refine d2_of_d1 ?_
    refine d1_of_d2 ?_
    refine d2_all 0 [5] (by kernel_rfl) ⟨?_, ?_, trivial⟩
    · skip
      refine br rfl (s_buildRow 5 rfl rfl rfl (nb hn rfl) Try.underlying24 sz59 zr59 rfl rfl rfl (show _ = [] from by kernel_rfl) (by kernel_rfl) rfl rfl (show allD _ = some [] from by kernel_rfl) rfl rfl) fun v5 => ?_
      refine d2_of_d1 ?_
      refine d1_of_d2 ?_
      refine g_ne_d2 (i := 5) (j := 3) rfl rfl rfl (fun hne5_3 => ?_)
      refine d2_all 3 [5] (by kernel_rfl) ⟨?_, ?_, trivial⟩
      · skip
        refine br rfl (s_append (id := 5) rfl rfl rfl (nb hn rfl) elt24 trivial rfl rfl rfl (by simp [chunk]; omega) (by simp [chunk]; omega) (fun b hb => (fun e => hne5_3 _ hb (congrArg some e.symm)))) fun v8 => ?_
        refine d2_of_d1 ?_
        refine d1_of_d2 ?_
        refine d2_one (i := 5) (by kernel_rfl) rfl (s_buildSlice rfl rfl rfl (nb hn rfl) Try.underlying24 sz59 zr59 rfl rfl rfl (show _ = [.d (.int .i64 0), .d (.int .i64 0), .d (.int .i64 0)] from by kernel_rfl) (by kernel_rfl) rfl (fill_agg (by kernel_rfl) rfl) (allD_d _) (beq_len rfl) (chunk_one rfl)) fun _ => ?_
        refine d2_of_d1 ?_
        refine d1_of_d2 ?_
        refine g_ne_d2 (i := 5) (j := 3) rfl rfl rfl (fun hne5_3 => ?_)
        refine d2_one (i := 6) (by kernel_rfl) rfl (s_append (id := 5) rfl rfl rfl (nb hn rfl) elt24 trivial rfl rfl rfl (by simp [chunk]; omega) (by simp [chunk]; omega) (fun b hb => (fun e => hne5_3 _ hb (congrArg some e.symm)))) fun v11 => ?_
        refine d2_of_d1 ?_
        refine d1q (i := 7) rfl (by kernel_rfl) (fun _ _ _ _ h => h) rfl rfl hn rfl (q_fieldAddr rfl rfl Try.underlying26 rfl sz24) ?_
        refine d1_of_d2 ?_
        refine gh_d2 (g_row (t := 11) (id := 5) rfl rfl) ?_
        refine g_ne_d2 (i := 2) (j := 3) rfl rfl rfl (fun hne2_3 => ?_)
        refine d2_one (i := 8) (by kernel_rfl) rfl (s_store1 rfl rfl rfl rfl rfl rfl (id := 2) rfl sz24 (Nat.le_of_ble_eq_true rfl) rfl (fun e => hne2_3 _ rfl (congrArg some e.symm))) fun _ => ?_
        refine d2_of_d1 ?_
        refine d1_of_d2 ?_
        refine d2_done (by kernel_rfl) ?_
        refine aend_then ?_
        refine awp_seq ?_
        refine awp_region ?_
        refine sq rfl rfl hn rfl (q_loadAd rfl rfl (id := 2) rfl Try.underlying26 rfl sz26 rfl rfl sees0) ?_
        refine stepW (s_store rfl rfl rfl rfl rfl rfl (id := 4) rfl sz26 rfl (Nat.le_of_ble_eq_true rfl) rfl trivial) fun _ => ?_
        refine run_nil ?_
        refine aend_then ?_
        refine awp_ret ?_
        refine ret_eq (ret_1 (.inl rfl) hl rfl (.cellA rfl (id := 4) rfl Try.underlying26 rfl sz26 rfl rfl)) ?_
        simp [seeingR, chunk]
      · skip
        refine br rfl (s_buildSlice rfl rfl rfl (nb hn rfl) Try.underlying24 sz59 zr59 rfl rfl rfl (show _ = [.d (.int .i64 0), .d (.int .i64 0), .d (.int .i64 0)] from by kernel_rfl) (by kernel_rfl) rfl (fill_agg (by kernel_rfl) rfl) (allD_d _) (beq_len rfl) (chunk_one rfl)) fun _ => ?_
        refine d2_of_d1 ?_
        refine d1_of_d2 ?_
        refine g_ne_d2 (i := 5) (j := 3) rfl rfl rfl (fun hne5_3 => ?_)
        refine d2_one (i := 3) (by kernel_rfl) rfl (s_append (id := 5) rfl rfl rfl (nb hn rfl) elt24 trivial rfl rfl rfl (by simp [chunk]; omega) (by simp [chunk]; omega) (fun b hb => (fun e => hne5_3 _ hb (congrArg some e.symm)))) fun v8 => ?_
        refine d2_of_d1 ?_
        refine d1_of_d2 ?_
        refine g_ne_d2 (i := 5) (j := 3) rfl rfl rfl (fun hne5_3 => ?_)
        refine d2_one (i := 6) (by kernel_rfl) rfl (s_append (id := 5) rfl rfl rfl (nb hn rfl) elt24 trivial rfl rfl rfl (by simp [chunk]; omega) (by simp [chunk]; omega) (fun b hb => (fun e => hne5_3 _ hb (congrArg some e.symm)))) fun v11 => ?_
        refine d2_of_d1 ?_
        refine d1q (i := 7) rfl (by kernel_rfl) (fun _ _ _ _ h => h) rfl rfl hn rfl (q_fieldAddr rfl rfl Try.underlying26 rfl sz24) ?_
        refine d1_of_d2 ?_
        refine gh_d2 (g_row (t := 11) (id := 5) rfl rfl) ?_
        refine g_ne_d2 (i := 2) (j := 3) rfl rfl rfl (fun hne2_3 => ?_)
        refine d2_one (i := 8) (by kernel_rfl) rfl (s_store1 rfl rfl rfl rfl rfl rfl (id := 2) rfl sz24 (Nat.le_of_ble_eq_true rfl) rfl (fun e => hne2_3 _ rfl (congrArg some e.symm))) fun _ => ?_
        refine d2_of_d1 ?_
        refine d1_of_d2 ?_
        refine d2_done (by kernel_rfl) ?_
        refine aend_then ?_
        refine awp_seq ?_
        refine awp_region ?_
        refine sq rfl rfl hn rfl (q_loadAd rfl rfl (id := 2) rfl Try.underlying26 rfl sz26 rfl rfl sees0) ?_
        refine stepW (s_store rfl rfl rfl rfl rfl rfl (id := 4) rfl sz26 rfl (Nat.le_of_ble_eq_true rfl) rfl trivial) fun _ => ?_
        refine run_nil ?_
        refine aend_then ?_
        refine awp_ret ?_
        refine ret_eq (ret_1 (.inl rfl) hl rfl (.cellA rfl (id := 4) rfl Try.underlying26 rfl sz26 rfl rfl)) ?_
        simp [seeingR, chunk]
    · skip
      refine br rfl (s_buildSlice rfl rfl rfl (nb hn rfl) Try.underlying24 sz59 zr59 rfl rfl rfl (show _ = [.d (.int .i64 0), .d (.int .i64 0), .d (.int .i64 0)] from by kernel_rfl) (by kernel_rfl) rfl (fill_agg (by kernel_rfl) rfl) (allD_d _) (beq_len rfl) (chunk_one rfl)) fun _ => ?_
      refine d2_of_d1 ?_
      refine d1_of_d2 ?_
      refine d2_one (i := 0) (by kernel_rfl) rfl (s_buildRow 5 rfl rfl rfl (nb hn rfl) Try.underlying24 sz59 zr59 rfl rfl rfl (show _ = [] from by kernel_rfl) (by kernel_rfl) rfl rfl (show allD _ = some [] from by kernel_rfl) rfl rfl) fun v5 => ?_
      refine d2_of_d1 ?_
      refine d1_of_d2 ?_
      refine g_ne_d2 (i := 5) (j := 3) rfl rfl rfl (fun hne5_3 => ?_)
      refine d2_one (i := 3) (by kernel_rfl) rfl (s_append (id := 5) rfl rfl rfl (nb hn rfl) elt24 trivial rfl rfl rfl (by simp [chunk]; omega) (by simp [chunk]; omega) (fun b hb => (fun e => hne5_3 _ hb (congrArg some e.symm)))) fun v8 => ?_
      refine d2_of_d1 ?_
      refine d1_of_d2 ?_
      refine g_ne_d2 (i := 5) (j := 3) rfl rfl rfl (fun hne5_3 => ?_)
      refine d2_one (i := 6) (by kernel_rfl) rfl (s_append (id := 5) rfl rfl rfl (nb hn rfl) elt24 trivial rfl rfl rfl (by simp [chunk]; omega) (by simp [chunk]; omega) (fun b hb => (fun e => hne5_3 _ hb (congrArg some e.symm)))) fun v11 => ?_
      refine d2_of_d1 ?_
      refine d1q (i := 7) rfl (by kernel_rfl) (fun _ _ _ _ h => h) rfl rfl hn rfl (q_fieldAddr rfl rfl Try.underlying26 rfl sz24) ?_
      refine d1_of_d2 ?_
      refine gh_d2 (g_row (t := 11) (id := 5) rfl rfl) ?_
      refine g_ne_d2 (i := 2) (j := 3) rfl rfl rfl (fun hne2_3 => ?_)
      refine d2_one (i := 8) (by kernel_rfl) rfl (s_store1 rfl rfl rfl rfl rfl rfl (id := 2) rfl sz24 (Nat.le_of_ble_eq_true rfl) rfl (fun e => hne2_3 _ rfl (congrArg some e.symm))) fun _ => ?_
      refine d2_of_d1 ?_
      refine d1_of_d2 ?_
      refine d2_done (by kernel_rfl) ?_
      refine aend_then ?_
      refine awp_seq ?_
      refine awp_region ?_
      refine sq rfl rfl hn rfl (q_loadAd rfl rfl (id := 2) rfl Try.underlying26 rfl sz26 rfl rfl sees0) ?_
      refine stepW (s_store rfl rfl rfl rfl rfl rfl (id := 4) rfl sz26 rfl (Nat.le_of_ble_eq_true rfl) rfl trivial) fun _ => ?_
      refine run_nil ?_
      refine aend_then ?_
      refine awp_ret ?_
      refine ret_eq (ret_1 (.inl rfl) hl rfl (.cellA rfl (id := 4) rfl Try.underlying26 rfl sz26 rfl rfl)) ?_
      simp [seeingR, chunk]
  · skip
    refine br rfl (s_buildSlice rfl rfl rfl (nb hn rfl) Try.underlying24 sz59 zr59 rfl rfl rfl (show _ = [.d (.int .i64 0), .d (.int .i64 0), .d (.int .i64 0)] from by kernel_rfl) (by kernel_rfl) rfl (fill_agg (by kernel_rfl) rfl) (allD_d _) (beq_len rfl) (chunk_one rfl)) fun _ => ?_
    refine d2_of_d1 ?_
    refine d1_of_d2 ?_
    refine d2_all 0 [2] (by kernel_rfl) ⟨?_, ?_, trivial⟩
    · skip
      refine br rfl (s_buildRow 5 rfl rfl rfl (nb hn rfl) Try.underlying24 sz59 zr59 rfl rfl rfl (show _ = [] from by kernel_rfl) (by kernel_rfl) rfl rfl (show allD _ = some [] from by kernel_rfl) rfl rfl) fun v5 => ?_
      refine d2_of_d1 ?_
      refine d1_of_d2 ?_
      refine d2_one (i := 2) (by kernel_rfl) rfl (quiet_wg _ [] (guard_none rfl) rfl (nb hn rfl) (fun _ => trivial) (fun _ => q_load rfl rfl (id := 2) rfl Try.underlying24 rfl rfl sees0)) fun _ => ?_
      refine d2_of_d1 ?_
      refine d1_of_d2 ?_
      refine g_ne_d2 (i := 5) (j := 3) rfl rfl rfl (fun hne5_3 => ?_)
      refine d2_one (i := 3) (by kernel_rfl) rfl (s_append (id := 5) rfl rfl rfl (nb hn rfl) elt24 trivial rfl rfl rfl (by simp [chunk]; omega) (by simp [chunk]; omega) (fun b hb => (fun e => hne5_3 _ hb (congrArg some e.symm)))) fun v8 => ?_
      refine d2_of_d1 ?_
      refine d1_of_d2 ?_
      refine g_ne_d2 (i := 5) (j := 3) rfl rfl rfl (fun hne5_3 => ?_)
      refine d2_one (i := 6) (by kernel_rfl) rfl (s_append (id := 5) rfl rfl rfl (nb hn rfl) elt24 trivial rfl rfl rfl (by simp [chunk]; omega) (by simp [chunk]; omega) (fun b hb => (fun e => hne5_3 _ hb (congrArg some e.symm)))) fun v11 => ?_
      refine d2_of_d1 ?_
      refine d1q (i := 7) rfl (by kernel_rfl) (fun _ _ _ _ h => h) rfl rfl hn rfl (q_fieldAddr rfl rfl Try.underlying26 rfl sz24) ?_
      refine d1_of_d2 ?_
      refine gh_d2 (g_row (t := 11) (id := 5) rfl rfl) ?_
      refine g_ne_d2 (i := 2) (j := 3) rfl rfl rfl (fun hne2_3 => ?_)
      refine d2_one (i := 8) (by kernel_rfl) rfl (s_store1 rfl rfl rfl rfl rfl rfl (id := 2) rfl sz24 (Nat.le_of_ble_eq_true rfl) rfl (fun e => hne2_3 _ rfl (congrArg some e.symm))) fun _ => ?_
      refine d2_of_d1 ?_
      refine d1_of_d2 ?_
      refine d2_done (by kernel_rfl) ?_
      refine aend_then ?_
      refine awp_seq ?_
      refine awp_region ?_
      refine sq rfl rfl hn rfl (q_loadAd rfl rfl (id := 2) rfl Try.underlying26 rfl sz26 rfl rfl sees0) ?_
      refine stepW (s_store rfl rfl rfl rfl rfl rfl (id := 4) rfl sz26 rfl (Nat.le_of_ble_eq_true rfl) rfl trivial) fun _ => ?_
      refine run_nil ?_
      refine aend_then ?_
      refine awp_ret ?_
      refine ret_eq (ret_1 (.inl rfl) hl rfl (.cellA rfl (id := 4) rfl Try.underlying26 rfl sz26 rfl rfl)) ?_
      simp [seeingR, chunk]
    · skip
      refine br rfl (quiet_wg _ [] (guard_none rfl) rfl (nb hn rfl) (fun _ => trivial) (fun _ => q_load rfl rfl (id := 2) rfl Try.underlying24 rfl rfl sees0)) fun _ => ?_
      refine d2_of_d1 ?_
      refine d1_of_d2 ?_
      refine d2_one (i := 0) (by kernel_rfl) rfl (s_buildRow 5 rfl rfl rfl (nb hn rfl) Try.underlying24 sz59 zr59 rfl rfl rfl (show _ = [] from by kernel_rfl) (by kernel_rfl) rfl rfl (show allD _ = some [] from by kernel_rfl) rfl rfl) fun v5 => ?_
      refine d2_of_d1 ?_
      refine d1_of_d2 ?_
      refine g_ne_d2 (i := 5) (j := 3) rfl rfl rfl (fun hne5_3 => ?_)
      refine d2_one (i := 3) (by kernel_rfl) rfl (s_append (id := 5) rfl rfl rfl (nb hn rfl) elt24 trivial rfl rfl rfl (by simp [chunk]; omega) (by simp [chunk]; omega) (fun b hb => (fun e => hne5_3 _ hb (congrArg some e.symm)))) fun v8 => ?_
      refine d2_of_d1 ?_
      refine d1_of_d2 ?_
      refine g_ne_d2 (i := 5) (j := 3) rfl rfl rfl (fun hne5_3 => ?_)
      refine d2_one (i := 6) (by kernel_rfl) rfl (s_append (id := 5) rfl rfl rfl (nb hn rfl) elt24 trivial rfl rfl rfl (by simp [chunk]; omega) (by simp [chunk]; omega) (fun b hb => (fun e => hne5_3 _ hb (congrArg some e.symm)))) fun v11 => ?_
      refine d2_of_d1 ?_
      refine d1q (i := 7) rfl (by kernel_rfl) (fun _ _ _ _ h => h) rfl rfl hn rfl (q_fieldAddr rfl rfl Try.underlying26 rfl sz24) ?_
      refine d1_of_d2 ?_
      refine gh_d2 (g_row (t := 11) (id := 5) rfl rfl) ?_
      refine g_ne_d2 (i := 2) (j := 3) rfl rfl rfl (fun hne2_3 => ?_)
      refine d2_one (i := 8) (by kernel_rfl) rfl (s_store1 rfl rfl rfl rfl rfl rfl (id := 2) rfl sz24 (Nat.le_of_ble_eq_true rfl) rfl (fun e => hne2_3 _ rfl (congrArg some e.symm))) fun _ => ?_
      refine d2_of_d1 ?_
      refine d1_of_d2 ?_
      refine d2_done (by kernel_rfl) ?_
      refine aend_then ?_
      refine awp_seq ?_
      refine awp_region ?_
      refine sq rfl rfl hn rfl (q_loadAd rfl rfl (id := 2) rfl Try.underlying26 rfl sz26 rfl rfl sees0) ?_
      refine stepW (s_store rfl rfl rfl rfl rfl rfl (id := 4) rfl sz26 rfl (Nat.le_of_ble_eq_true rfl) rfl trivial) fun _ => ?_
      refine run_nil ?_
      refine aend_then ?_
      refine awp_ret ?_
      refine ret_eq (ret_1 (.inl rfl) hl rfl (.cellA rfl (id := 4) rfl Try.underlying26 rfl sz26 rfl rfl)) ?_
      simp [seeingR, chunk]


def heldN (r : Reg) (d : Nat) (house : Int) : Nat := ((placesA r d).take r.start.length).countP fun h => h == house
theorem held_ok (r : Reg) (d : Nat) (house x : Int) (v : Valid r) (hd : d < 18446744073709551616) : PureAt Try.prog 63 [regD r, .int .u64 (d : Nat), .int .i64 house, .int .i64 x] (.int .i64 (heldN r d house : Nat)) := by
  refine PureAt.of_awp Try.func63 rfl (by kernel_rfl) (Nat.le_of_ble_eq_true rfl) fun Γ hn hl => ?_
  have hs4 := v.s4
  have hpl := placesA_len r d
  refine awp_seq ?_
  refine awp_region ?_
  refine stepW (s_box 4 rfl rfl rfl (nb hn rfl) rfl rfl) fun b4 => ?_
  refine sq rfl rfl hn rfl (q_assign rfl rfl) ?_
  refine run_nil ?_
  refine aend_then ?_
  refine awp_seq ?_
  refine awp_region ?_
  refine sq rfl rfl hn rfl (q_loadAd rfl rfl (id := 4) rfl Try.underlying35 rfl sz35 rfl rfl sees0) ?_
  refine sq rfl rfl hn rfl (q_move rfl rfl) ?_
  refine stepW (s_call [] (fun _ => places_ok r _ v (by assumption)) rfl (guard_none rfl) rfl (nb hn rfl) (fun _ => trivial) rfl rfl (.refl _)) fun _ => ?_
  refine stepW (s_alloc 9 rfl rfl rfl (nb hn rfl) zr103 rfl rfl) fun b9 => ?_
  refine stepW (s_store rfl rfl rfl rfl rfl rfl (id := 9) rfl sz103 (cells_len hpl) (Nat.le_of_ble_eq_true rfl) (store_all (by simp [Value.cells])) trivial) fun _ => ?_
  refine run_nil ?_
  refine aend_then ?_
  refine awp_seq ?_
  refine awp_seq ?_
  refine awp_region ?_
  refine sq rfl rfl hn rfl (q_fieldAddr rfl rfl Try.underlying35 rfl sz22) ?_
  refine sq rfl rfl hn rfl (q_load rfl rfl (id := 4) rfl Try.underlying22 rfl rfl sees0) ?_
  refine sq rfl rfl hn rfl (q_len rfl rfl Try.underlying22) ?_
  refine gh_run (g_freeze (t := 9) 9 rfl (nb hn rfl) rfl (allD_int _) trivial) ?_
  refine sq rfl rfl hn rfl (q_slicePh (j := r.start.length) rfl rfl rfl Try.underlying103 sz3 (beq_int4 hpl) (chunk_int4 hpl) rfl (by simp only [List.length_map]) (by omega) (by rw [← List.map_take])) ?_
  refine sq rfl rfl hn rfl (q_len rfl rfl Try.underlying22) ?_
  refine sq rfl rfl hn rfl (q_move rfl rfl) ?_
  refine run_nil ?_
  refine aend_then ?_
  refine awp_block ?_
  refine awp_loop_on (ι := { x : Nat × Nat // x.1 ≤ r.start.length ∧ x.2 = (((placesA r d).take r.start.length).take x.1).countP (fun h => h == house) ∧ x.2 ≤ x.1 }) (fun x => (20, true, .d (.int .i64 (x.1.1 : Nat))) :: (8, true, .d (.int .i64 (x.1.2 : Nat))) :: anys [21, 22, 23, 11, 24, 25, 26, 27, 28, 29]) (fun x => []) (fun x => r.start.length - x.1.1) ⟨(0, 0), by simp⟩ ⟨.inl rfl, .inl rfl, holdT_anys _⟩ trivial ?_
  rintro ⟨⟨i, n⟩, hi, hn5, hle⟩
  dsimp only
  dsimp only at hi hn5 hle
  refine awp_seq ?_
  refine awp_region ?_
  refine sq rfl rfl hn rfl (q_lss rfl rfl rfl) ?_
  refine run_nil ?_
  refine aend_then ?_
  refine awp_seq ?_
  refine awp_cond rfl (fun hb0 => ?_) (fun hb0 => ?_)
  · try simp only [decide_eq_true_eq, decide_eq_false_iff_not, Bool.and_eq_true, Bool.or_eq_true, Bool.and_eq_false_iff, Bool.or_eq_false_iff, Bool.not_eq_true', Bool.not_eq_false', beq_iff_eq, bne_iff_ne, ne_eq, beq_eq_false_iff_ne, bne_eq_false_iff_eq, Int.not_lt, Int.not_le] at hb0
    have hlt : i < r.start.length := by simp only [List.length_map, List.length_take] at hb0; omega
    obtain ⟨p, hp⟩ := ex_get (l := (placesA r d).take r.start.length) (i := i) (by rw [List.length_take]; omega)
    refine awp_skip ?_
    refine aend_then ?_
    refine awp_seq ?_
    refine awp_block ?_
    refine awp_seq ?_
    refine awp_region ?_
    refine sq rfl rfl hn rfl (q_index rfl rfl rfl Try.underlying22 sz3 rfl (mget hp)) ?_
    refine sq rfl rfl hn rfl (q_loadp rfl rfl Try.underlying3 rfl seesF0) ?_
    refine sq rfl rfl hn rfl (q_assign rfl rfl) ?_
    refine run_nil ?_
    refine aend_then ?_
    refine awp_seq ?_
    refine awp_region ?_
    refine sq rfl rfl hn rfl (q_move rfl rfl) ?_
    refine sq rfl rfl hn rfl (q_move rfl rfl) ?_
    refine sq rfl rfl hn rfl (q_eql rfl rfl rfl) ?_
    refine run_nil ?_
    refine aend_then ?_
    refine awp_cond rfl (fun hb1 => ?_) (fun hb1 => ?_)
    · skip
      refine awp_region ?_
      refine sq rfl rfl hn rfl (q_move rfl rfl) ?_
      refine sq rfl rfl hn rfl (q_add rfl rfl rfl (r := ((n + 1 : Nat) : Int)) (i64w (by omega) (by omega))) ?_
      refine sq rfl rfl hn rfl (q_assign rfl rfl) ?_
      refine run_nil ?_
      refine aend_block ?_
      refine aend_then ?_
      refine awp_region ?_
      refine sq rfl rfl hn rfl (q_add rfl rfl rfl (r := ((i + 1 : Nat) : Int)) (i64w (by omega) (by omega))) ?_
      refine sq rfl rfl hn rfl (q_move rfl rfl) ?_
      refine run_nil ?_
      exact aend_round_on ⟨(i + 1, n + 1), by simp only; omega, by simp only [List.take_add_one, hp, List.countP_append, hn5]; simp [hb1], by simp only; omega⟩ ⟨.inl rfl, .inl rfl, holdT_anys _⟩ trivial (by simp only; omega) (by repeat (first | exact kr _ | refine kc rfl ?_)) (by repeat (first | exact kr _ | refine kc rfl ?_))
    · skip
      refine awp_skip ?_
      refine aend_block ?_
      refine aend_then ?_
      refine awp_region ?_
      refine sq rfl rfl hn rfl (q_add rfl rfl rfl (r := ((i + 1 : Nat) : Int)) (i64w (by omega) (by omega))) ?_
      refine sq rfl rfl hn rfl (q_move rfl rfl) ?_
      refine run_nil ?_
      exact aend_round_on ⟨(i + 1, n), by simp only; omega, by simp only [List.take_add_one, hp, List.countP_append, hn5]; simp [hb1], by simp only; omega⟩ ⟨.inl rfl, .inl rfl, holdT_anys _⟩ trivial (by simp only; omega) (by repeat (first | exact kr _ | refine kc rfl ?_)) (by repeat (first | exact kr _ | refine kc rfl ?_))
  · try simp only [decide_eq_true_eq, decide_eq_false_iff_not, Bool.and_eq_true, Bool.or_eq_true, Bool.and_eq_false_iff, Bool.or_eq_false_iff, Bool.not_eq_true', Bool.not_eq_false', beq_iff_eq, bne_iff_ne, ne_eq, beq_eq_false_iff_ne, bne_eq_false_iff_eq, Int.not_lt, Int.not_le] at hb0
    refine awp_exit ?_
    refine aend_then_exit ?_
    refine aend_then_exit ?_
    refine aend_block_exit ?_
    refine aend_then ?_
    refine awp_seq ?_
    refine awp_region ?_
    refine sq rfl rfl hn rfl (q_move rfl rfl) ?_
    refine sq rfl rfl hn rfl (q_assign rfl rfl) ?_
    refine run_nil ?_
    refine aend_then ?_
    refine awp_ret ?_
    refine ret_eq (ret_1 (.inl rfl) hl rfl (.tmp rfl)) ?_
    have hie : i = r.start.length := by simp only [List.length_map, List.length_take] at hb0; omega
    subst hie; rw [hn5, List.take_take, Nat.min_self]; rfl


def minL (x : Int) (l : List Int) : Int := l.foldl min x
theorem minL_take {x y : Int} {l : List Int} {i : Nat} (h : l[i]? = some y) : min (minL x (l.take i)) y = minL x (l.take (i + 1)) := by simp [minL, List.take_add_one, h, List.foldl_append]
theorem Min_ok (x : Int) (l : List Int) : PureAt Try.prog 115 [ints (x :: l)] (.int .i64 (minL x l)) := by
  refine PureAt.of_awp' Try.func115 rfl (by kernel_rfl) rfl fun hlen Γ hn hl => ?_
  have hl5 := hlen.1; simp only [List.length_map, List.length_cons] at hl5
  refine awp_seq ?_
  refine awp_region ?_
  refine sq rfl rfl hn rfl (q_assign rfl rfl) ?_
  refine run_nil ?_
  refine aend_then ?_
  refine awp_seq ?_
  refine awp_seq ?_
  refine awp_region ?_
  refine sq rfl rfl hn rfl (q_move rfl rfl) ?_
  refine sq rfl rfl hn rfl (q_len rfl rfl Try.underlying22) ?_
  refine sq rfl rfl hn rfl (q_lss rfl rfl rfl) ?_
  refine run_nil ?_
  refine aend_then ?_
  refine awp_cond rfl (fun hb0 => ?_) (fun hb0 => ?_)
  · skip
    exfalso; simp at hb0; omega
  · try simp only [decide_eq_true_eq, decide_eq_false_iff_not, Bool.and_eq_true, Bool.or_eq_true, Bool.and_eq_false_iff, Bool.or_eq_false_iff, Bool.not_eq_true', Bool.not_eq_false', beq_iff_eq, bne_iff_ne, ne_eq, beq_eq_false_iff_ne, bne_eq_false_iff_eq, Int.not_lt, Int.not_le] at hb0
    refine awp_skip ?_
    refine aend_then ?_
    refine awp_seq ?_
    refine awp_region ?_
    refine sq rfl rfl hn rfl (q_move rfl rfl) ?_
    refine sq rfl rfl hn rfl (q_index (i := 0) rfl rfl rfl Try.underlying22 sz3 rfl rfl) ?_
    refine sq rfl rfl hn rfl (q_loadp rfl rfl Try.underlying3 rfl seesF0) ?_
    refine sq rfl rfl hn rfl (q_assign rfl rfl) ?_
    refine run_nil ?_
    refine aend_then ?_
    refine awp_seq ?_
    refine awp_seq ?_
    refine awp_region ?_
    refine sq rfl rfl hn rfl (q_assign rfl rfl) ?_
    refine run_nil ?_
    refine aend_then ?_
    refine awp_block ?_
    refine awp_loop_on (ι := { i : Nat // i ≤ l.length }) (fun y => (4, true, .d (.int .i64 ((y.1 + 1 : Nat) : Int))) :: (3, true, .d (.int .i64 (minL x (l.take y.1)))) :: anys [12, 13, 14, 15, 18, 19, 20, 21, 22, 23, 16, 17]) (fun y => []) (fun y => l.length - y.1) ⟨0, by simp⟩ ⟨.inl rfl, .inl rfl, holdT_anys _⟩ trivial ?_
    rintro ⟨i, hi⟩
    dsimp only
    refine awp_seq ?_
    refine awp_seq ?_
    refine awp_region ?_
    refine sq rfl rfl hn rfl (q_move rfl rfl) ?_
    refine sq rfl rfl hn rfl (q_move rfl rfl) ?_
    refine sq rfl rfl hn rfl (q_len rfl rfl Try.underlying22) ?_
    refine sq rfl rfl hn rfl (q_lss rfl rfl rfl) ?_
    refine run_nil ?_
    refine aend_then ?_
    refine awp_cond rfl (fun hb1 => ?_) (fun hb1 => ?_)
    · try simp only [decide_eq_true_eq, decide_eq_false_iff_not, Bool.and_eq_true, Bool.or_eq_true, Bool.and_eq_false_iff, Bool.or_eq_false_iff, Bool.not_eq_true', Bool.not_eq_false', beq_iff_eq, bne_iff_ne, ne_eq, beq_eq_false_iff_ne, bne_eq_false_iff_eq, Int.not_lt, Int.not_le] at hb1
      have hlt : i < l.length := by simp at hb1; omega
      obtain ⟨y, hy⟩ := ex_get hlt
      refine awp_skip ?_
      refine aend_then ?_
      refine awp_seq ?_
      refine awp_block ?_
      refine awp_region ?_
      refine sq rfl rfl hn rfl (q_move rfl rfl) ?_
      refine sq rfl rfl hn rfl (q_move rfl rfl) ?_
      refine sq rfl rfl hn rfl (q_move rfl rfl) ?_
      refine sq rfl rfl hn rfl (q_index (i := (i + 1)) rfl rfl rfl Try.underlying22 sz3 rfl (show ((x :: l).map intE)[i + 1]? = some (intE y) from mget (by simpa using hy))) ?_
      refine sq rfl rfl hn rfl (q_loadp rfl rfl Try.underlying3 rfl seesF0) ?_
      refine sq rfl rfl hn rfl (q_min rfl rfl rfl) ?_
      refine sq rfl rfl hn rfl (q_assign rfl rfl) ?_
      refine run_nil ?_
      refine aend_block ?_
      refine aend_then ?_
      refine awp_region ?_
      refine sq rfl rfl hn rfl (q_move rfl rfl) ?_
      refine sq rfl rfl hn rfl (q_add rfl rfl rfl (r := ((i + 1 + 1 : Nat) : Int)) (i64w (by omega) (by omega))) ?_
      refine sq rfl rfl hn rfl (q_assign rfl rfl) ?_
      refine run_nil ?_
      exact aend_round_on ⟨i + 1, by omega⟩ ⟨.inl rfl, .inl (congrArg (fun z => some (true, TV.d (.int .i64 z))) (minL_take hy)), holdT_anys _⟩ trivial (by simp only; omega) (by repeat (first | exact kr _ | refine kc rfl ?_)) (by repeat (first | exact kr _ | refine kc rfl ?_))
    · try simp only [decide_eq_true_eq, decide_eq_false_iff_not, Bool.and_eq_true, Bool.or_eq_true, Bool.and_eq_false_iff, Bool.or_eq_false_iff, Bool.not_eq_true', Bool.not_eq_false', beq_iff_eq, bne_iff_ne, ne_eq, beq_eq_false_iff_ne, bne_eq_false_iff_eq, Int.not_lt, Int.not_le] at hb1
      refine awp_exit ?_
      refine aend_then_exit ?_
      refine aend_then_exit ?_
      refine aend_block_exit ?_
      refine aend_then ?_
      refine awp_seq ?_
      refine awp_region ?_
      refine sq rfl rfl hn rfl (q_move rfl rfl) ?_
      refine sq rfl rfl hn rfl (q_assign rfl rfl) ?_
      refine run_nil ?_
      refine aend_then ?_
      refine awp_ret ?_
      refine ret_eq (ret_1 (.inl rfl) hl rfl (.tmp rfl)) ?_
      have hie : i = l.length := by simp at hb1; omega
      subst hie; rw [List.take_length]

theorem minimum_ok (x : Int) (l : List Int) : PureAt Try.prog 91 [ints (x :: l)] (.int .i64 (minL x l)) := by
  refine PureAt.of_awp Try.func91 rfl (by kernel_rfl) (Nat.le_of_ble_eq_true rfl) fun Γ hn hl => ?_
  refine awp_seq ?_
  refine awp_region ?_
  refine sq rfl rfl hn rfl (q_assign rfl rfl) ?_
  refine run_nil ?_
  refine aend_then ?_
  refine awp_seq ?_
  refine awp_region ?_
  refine sq rfl rfl hn rfl (q_move rfl rfl) ?_
  refine stepW (s_call [] (fun _ => Min_ok x l) rfl (guard_none rfl) rfl (nb hn rfl) (fun _ => trivial) rfl rfl (.refl _)) fun _ => ?_
  refine sq rfl rfl hn rfl (q_assign rfl rfl) ?_
  refine run_nil ?_
  refine aend_then ?_
  refine awp_ret ?_
  exact ret_1 (.inl rfl) hl rfl (.tmp rfl)


def rangeF (l : List Int) : Int × Int := l.foldl (fun p n => (min p.1 n, max p.2 n)) (9, 0)
theorem rangeF_take {l : List Int} {i : Nat} {n : Int} (h : l[i]? = some n) : rangeF (l.take (i + 1)) = (min (rangeF (l.take i)).1 n, max (rangeF (l.take i)).2 n) := by simp [rangeF, List.take_add_one, h, List.foldl_append]
def countAt (o : List Int) (day n : Nat) (house : Int) : Nat := (List.range n).countP fun s => houseAt o day s == house
def refInHand (r : Reg) (all : List (List Int)) (house : Int) (day : Nat) : Int × Int := rangeF (all.map fun o => (countAt o day r.start.length house : Int))
def refOwed (all : List (List Int)) (a b day : Nat) : Int × Int := rangeF (all.map fun o => openAt o day a b)

theorem count_t {o : List Int} {day s : Nat} {house : Int} (h : (houseAt o day s == house) = true) : countAt o day (s + 1) house = countAt o day s house + 1 := by simp only [countAt, List.range_succ, List.countP_append]; simp [h]
theorem count_f {o : List Int} {day s : Nat} {house : Int} (h : (houseAt o day s == house) = false) : countAt o day (s + 1) house = countAt o day s house := by simp only [countAt, List.range_succ, List.countP_append]; simp [h]
theorem refInHand_ok (r : Reg) (all : List (List Int)) (house day : Int) (v : Valid r) (hall : ∀ o ∈ all, o.length = 200) (hal : all.length ≤ 1000000) (hd : 0 ≤ day ∧ day ≤ 9) : PureAt Try.prog 27 [regD r, .slice 200 (all.map daysE), .int .i64 house, .int .i64 day] (.agg [.int .i64 (refInHand r all house day.toNat).1, .int .i64 (refInHand r all house day.toNat).2]) := by
  refine PureAt.of_awp Try.func27 rfl (by kernel_rfl) (Nat.le_of_ble_eq_true rfl) fun Γ hn hl => ?_
  have hs4 := v.s4
  refine awp_seq ?_
  refine awp_region ?_
  refine stepW (s_box 4 rfl rfl rfl (nb hn rfl) rfl rfl) fun b4 => ?_
  refine stepW (s_alloc 8 rfl rfl rfl (nb hn rfl) zr49 rfl rfl) fun b8 => ?_
  refine run_nil ?_
  refine aend_then ?_
  refine awp_seq ?_
  refine awp_region ?_
  refine sq rfl rfl hn rfl (q_buildd rfl bt49 rfl rfl rfl rfl rfl) ?_
  refine stepW (s_alloc 9 rfl rfl rfl (nb hn rfl) zr49 rfl rfl) fun b9 => ?_
  refine stepW (s_store rfl rfl rfl rfl rfl rfl (id := 9) rfl sz49 rfl (Nat.le_of_ble_eq_true rfl) rfl trivial) fun _ => ?_
  refine run_nil ?_
  refine aend_then ?_
  refine awp_seq ?_
  refine awp_seq ?_
  refine awp_region ?_
  refine sq rfl rfl hn rfl (q_assign rfl rfl) ?_
  refine run_nil ?_
  refine aend_then ?_
  refine awp_block ?_
  refine awp_loop_on (ι := { i : Nat // i ≤ all.length }) (fun x => (10, true, .d (.int .i64 (x.1 : Nat))) :: anys [14, 15, 16, 17, 11, 12, 20, 21, 22, 23, 24, 27, 28, 29, 30, 31, 32, 33, 34, 35, 36, 37, 38, 39, 25, 26, 40, 41, 42, 43, 44, 45, 46, 47, 48, 18, 19]) (fun x => [(9, .box b9 49 [.d (.int .i64 (rangeF ((all.map fun o => (countAt o day.toNat r.start.length house : Int)).take x.1)).1), .d (.int .i64 (rangeF ((all.map fun o => (countAt o day.toNat r.start.length house : Int)).take x.1)).2)])]) (fun x => all.length - x.1) ⟨0, by simp⟩ ⟨.inl rfl, holdT_anys _⟩ ⟨.inl rfl, trivial⟩ ?_
  rintro ⟨i, hi⟩
  dsimp only
  refine awp_seq ?_
  refine awp_seq ?_
  refine awp_region ?_
  refine sq rfl rfl hn rfl (q_move rfl rfl) ?_
  refine sq rfl rfl hn rfl (q_move rfl rfl) ?_
  refine sq rfl rfl hn rfl (q_len rfl rfl Try.underlying38) ?_
  refine sq rfl rfl hn rfl (q_lss rfl rfl rfl) ?_
  refine run_nil ?_
  refine aend_then ?_
  refine awp_cond rfl (fun hb0 => ?_) (fun hb0 => ?_)
  · try simp only [decide_eq_true_eq, decide_eq_false_iff_not, Bool.and_eq_true, Bool.or_eq_true, Bool.and_eq_false_iff, Bool.or_eq_false_iff, Bool.not_eq_true', Bool.not_eq_false', beq_iff_eq, bne_iff_ne, ne_eq, beq_eq_false_iff_ne, bne_eq_false_iff_eq, Int.not_lt, Int.not_le] at hb0
    have hlt2 : i < all.length := by simpa using hb0
    obtain ⟨o, ho⟩ := ex_get hlt2
    have hol := hall o (List.mem_of_getElem? ho)
    refine awp_skip ?_
    refine aend_then ?_
    refine awp_seq ?_
    refine awp_block ?_
    refine awp_seq ?_
    refine awp_region ?_
    refine sq rfl rfl hn rfl (q_assign rfl rfl) ?_
    refine run_nil ?_
    refine aend_then ?_
    refine awp_seq ?_
    refine awp_seq ?_
    refine awp_region ?_
    refine sq rfl rfl hn rfl (q_assign rfl rfl) ?_
    refine run_nil ?_
    refine aend_then ?_
    refine awp_block ?_
    refine awp_loop_on (ι := { s : Nat // s ≤ r.start.length ∧ countAt o day.toNat s house ≤ s }) (fun y => (12, true, .d (.int .i64 (y.1 : Nat))) :: (11, true, .d (.int .i64 (countAt o day.toNat y.1 house : Nat))) :: anys [20, 21, 22, 23, 24, 27, 28, 29, 30, 31, 32, 33, 34, 35, 36, 37, 38, 39, 25, 26]) (fun y => []) (fun y => r.start.length - y.1) ⟨0, by simp [countAt]⟩ ⟨.inl rfl, .inl rfl, holdT_anys _⟩ trivial ?_
    rintro ⟨s, hs, hc5⟩
    dsimp only
    refine awp_seq ?_
    refine awp_seq ?_
    refine awp_region ?_
    refine sq rfl rfl hn rfl (q_move rfl rfl) ?_
    refine sq rfl rfl hn rfl (q_fieldAddr rfl rfl Try.underlying26 rfl sz22) ?_
    refine sq rfl rfl hn rfl (q_load rfl rfl (id := 4) rfl Try.underlying22 rfl rfl sees0) ?_
    refine sq rfl rfl hn rfl (q_len rfl rfl Try.underlying22) ?_
    refine sq rfl rfl hn rfl (q_lss rfl rfl rfl) ?_
    refine run_nil ?_
    refine aend_then ?_
    refine awp_cond rfl (fun hb1 => ?_) (fun hb1 => ?_)
    · try simp only [decide_eq_true_eq, decide_eq_false_iff_not, Bool.and_eq_true, Bool.or_eq_true, Bool.and_eq_false_iff, Bool.or_eq_false_iff, Bool.not_eq_true', Bool.not_eq_false', beq_iff_eq, bne_iff_ne, ne_eq, beq_eq_false_iff_ne, bne_eq_false_iff_eq, Int.not_lt, Int.not_le] at hb1
      have hlt3 : s < r.start.length := by simpa using hb1
      refine awp_skip ?_
      refine aend_then ?_
      refine awp_seq ?_
      refine awp_block ?_
      refine awp_seq ?_
      refine awp_region ?_
      refine sq rfl rfl hn rfl (q_move rfl rfl) ?_
      refine sq rfl rfl hn rfl (q_move rfl rfl) ?_
      refine sq rfl rfl hn rfl (q_move rfl rfl) ?_
      refine sq rfl rfl hn rfl (q_move rfl rfl) ?_
      refine sq rfl rfl hn rfl (q_index rfl rfl rfl Try.underlying38 sz88 rfl (mget ho)) ?_
      refine sq rfl rfl hn rfl (q_fieldAddrp rfl rfl Try.underlying88 rfl sz84 rfl) ?_
      refine sq rfl rfl hn rfl (q_indexP (i := day.toNat) rfl rfl rfl Try.underlying84 sz83 (by omega) (by omega) rfl) ?_
      refine sq rfl rfl hn rfl (q_indexP (i := s) rfl rfl rfl Try.underlying83 sz3 rfl (by omega) (drop3 (x := houseAt o day.toNat s) (by show o[0 + day.toNat * 4 + s * 1]? = _; rw [show 0 + day.toNat * 4 + s * 1 = day.toNat * 4 + s by omega]; exact getD_some (by omega)))) ?_
      refine sq rfl rfl hn rfl (q_loadp rfl rfl Try.underlying3 rfl seesF0) ?_
      refine sq rfl rfl hn rfl (q_move rfl rfl) ?_
      refine sq rfl rfl hn rfl (q_eql rfl rfl rfl) ?_
      refine run_nil ?_
      refine aend_then ?_
      refine awp_cond rfl (fun hb2 => ?_) (fun hb2 => ?_)
      · skip
        refine awp_region ?_
        refine sq rfl rfl hn rfl (q_move rfl rfl) ?_
        refine sq rfl rfl hn rfl (q_add rfl rfl rfl (r := ((countAt o day.toNat s house + 1 : Nat) : Int)) (i64w (by omega) (by omega))) ?_
        refine sq rfl rfl hn rfl (q_assign rfl rfl) ?_
        refine run_nil ?_
        refine aend_block ?_
        refine aend_then ?_
        refine awp_region ?_
        refine sq rfl rfl hn rfl (q_move rfl rfl) ?_
        refine sq rfl rfl hn rfl (q_add rfl rfl rfl (r := ((s + 1 : Nat) : Int)) (i64w (by omega) (by omega))) ?_
        refine sq rfl rfl hn rfl (q_assign rfl rfl) ?_
        refine run_nil ?_
        exact aend_round_on ⟨s + 1, by omega, by rw [count_t hb2]; omega⟩ ⟨.inl rfl, .inl (congrArg (fun z : Nat => some (true, TV.d (.int .i64 z))) (count_t hb2).symm), holdT_anys _⟩ trivial (by simp only; omega) (by repeat (first | exact kr _ | refine kc rfl ?_)) (by repeat (first | exact kr _ | refine kc rfl ?_))
      · skip
        refine awp_skip ?_
        refine aend_block ?_
        refine aend_then ?_
        refine awp_region ?_
        refine sq rfl rfl hn rfl (q_move rfl rfl) ?_
        refine sq rfl rfl hn rfl (q_add rfl rfl rfl (r := ((s + 1 : Nat) : Int)) (i64w (by omega) (by omega))) ?_
        refine sq rfl rfl hn rfl (q_assign rfl rfl) ?_
        refine run_nil ?_
        exact aend_round_on ⟨s + 1, by omega, by rw [count_f hb2]; omega⟩ ⟨.inl rfl, .inl (congrArg (fun z : Nat => some (true, TV.d (.int .i64 z))) (count_f hb2).symm), holdT_anys _⟩ trivial (by simp only; omega) (by repeat (first | exact kr _ | refine kc rfl ?_)) (by repeat (first | exact kr _ | refine kc rfl ?_))
    · try simp only [decide_eq_true_eq, decide_eq_false_iff_not, Bool.and_eq_true, Bool.or_eq_true, Bool.and_eq_false_iff, Bool.or_eq_false_iff, Bool.not_eq_true', Bool.not_eq_false', beq_iff_eq, bne_iff_ne, ne_eq, beq_eq_false_iff_ne, bne_eq_false_iff_eq, Int.not_lt, Int.not_le] at hb1
      have hse : s = r.start.length := by simp only [List.length_map] at hb1; omega
      subst hse
      refine awp_exit ?_
      refine aend_then_exit ?_
      refine aend_then_exit ?_
      refine aend_block_exit ?_
      refine aend_then ?_
      refine awp_region ?_
      refine sq rfl rfl hn rfl (q_fieldAddr rfl rfl Try.underlying49 rfl sz3) ?_
      refine sq rfl rfl hn rfl (q_load rfl rfl (id := 9) rfl Try.underlying3 rfl rfl sees0) ?_
      refine sq rfl rfl hn rfl (q_move rfl rfl) ?_
      refine sq rfl rfl hn rfl (q_min rfl rfl rfl) ?_
      refine sq rfl rfl hn rfl (q_fieldAddr rfl rfl Try.underlying49 rfl sz3) ?_
      refine sq rfl rfl hn rfl (q_load rfl rfl (id := 9) rfl Try.underlying3 rfl rfl sees0) ?_
      refine sq rfl rfl hn rfl (q_move rfl rfl) ?_
      refine sq rfl rfl hn rfl (q_max rfl rfl rfl) ?_
      refine sq rfl rfl hn rfl (q_buildd rfl bt49 rfl rfl rfl rfl rfl) ?_
      refine stepW (s_store rfl rfl rfl rfl rfl rfl (id := 9) rfl sz49 rfl (Nat.le_of_ble_eq_true rfl) rfl trivial) fun _ => ?_
      refine run_nil ?_
      refine aend_block ?_
      refine aend_then ?_
      refine awp_region ?_
      refine sq rfl rfl hn rfl (q_move rfl rfl) ?_
      refine sq rfl rfl hn rfl (q_add rfl rfl rfl (r := ((i + 1 : Nat) : Int)) (i64w (by omega) (by omega))) ?_
      refine sq rfl rfl hn rfl (q_assign rfl rfl) ?_
      refine run_nil ?_
      exact aend_round_on ⟨i + 1, by omega⟩ ⟨.inl rfl, holdT_anys _⟩ ⟨.inl (by rw [rangeF_take (show (all.map fun o => (countAt o day.toNat r.start.length house : Int))[i]? = some (countAt o day.toNat r.start.length house : Int) from mget ho)]; rfl), trivial⟩ (by simp only; omega) (by repeat (first | exact kr _ | refine kc rfl ?_)) (by repeat (first | exact kr _ | refine kc rfl ?_))
  · try simp only [decide_eq_true_eq, decide_eq_false_iff_not, Bool.and_eq_true, Bool.or_eq_true, Bool.and_eq_false_iff, Bool.or_eq_false_iff, Bool.not_eq_true', Bool.not_eq_false', beq_iff_eq, bne_iff_ne, ne_eq, beq_eq_false_iff_ne, bne_eq_false_iff_eq, Int.not_lt, Int.not_le] at hb0
    have hie : i = all.length := by simp only [List.length_map] at hb0; omega
    subst hie; rw [List.take_of_length_le (Nat.le_of_eq (List.length_map _))]
    refine awp_exit ?_
    refine aend_then_exit ?_
    refine aend_then_exit ?_
    refine aend_block_exit ?_
    refine aend_then ?_
    refine awp_seq ?_
    refine awp_region ?_
    refine sq rfl rfl hn rfl (q_loadAd rfl rfl (id := 9) rfl Try.underlying49 rfl sz49 rfl rfl sees0) ?_
    refine stepW (s_store rfl rfl rfl rfl rfl rfl (id := 8) rfl sz49 rfl (Nat.le_of_ble_eq_true rfl) rfl trivial) fun _ => ?_
    refine run_nil ?_
    refine aend_then ?_
    refine awp_ret ?_
    exact ret_1 (.inl rfl) hl rfl (.cellA rfl (id := 8) rfl Try.underlying49 rfl sz49 rfl rfl)


theorem drop4 {o : List Int} {k i j m : Nat} {x : Int} (h : o[k + i + j + m]? = some x) : (((((o.map intD).drop k).drop i).drop j).drop m) = intD x :: (o.map intD).drop (k + i + j + m + 1) := by
  rw [List.drop_drop, List.drop_drop, List.drop_drop, ← Nat.add_assoc, ← Nat.add_assoc]
  exact drop_of (mget h)
theorem refOwed_ok (all : List (List Int)) (a b day : Int) (hall : ∀ o ∈ all, o.length = 200) (hal : all.length ≤ 1000000) (ha : 0 ≤ a ∧ a < 4) (hb5 : 0 ≤ b ∧ b < 4) (hd : 0 ≤ day ∧ day ≤ 9) : PureAt Try.prog 28 [.slice 200 (all.map daysE), .int .i64 a, .int .i64 b, .int .i64 day] (.agg [.int .i64 (refOwed all a.toNat b.toNat day.toNat).1, .int .i64 (refOwed all a.toNat b.toNat day.toNat).2]) := by
  refine PureAt.of_awp Try.func28 rfl (by kernel_rfl) (Nat.le_of_ble_eq_true rfl) fun Γ hn hl => ?_
  refine awp_seq ?_
  refine awp_region ?_
  refine stepW (s_alloc 8 rfl rfl rfl (nb hn rfl) zr49 rfl rfl) fun b8 => ?_
  refine run_nil ?_
  refine aend_then ?_
  refine awp_seq ?_
  refine awp_region ?_
  refine sq rfl rfl hn rfl (q_buildd rfl bt49 rfl rfl rfl rfl rfl) ?_
  refine stepW (s_alloc 9 rfl rfl rfl (nb hn rfl) zr49 rfl rfl) fun b9 => ?_
  refine stepW (s_store rfl rfl rfl rfl rfl rfl (id := 9) rfl sz49 rfl (Nat.le_of_ble_eq_true rfl) rfl trivial) fun _ => ?_
  refine run_nil ?_
  refine aend_then ?_
  refine awp_seq ?_
  refine awp_seq ?_
  refine awp_region ?_
  refine sq rfl rfl hn rfl (q_assign rfl rfl) ?_
  refine run_nil ?_
  refine aend_then ?_
  refine awp_block ?_
  refine awp_loop_on (ι := { i : Nat // i ≤ all.length }) (fun x => (10, true, .d (.int .i64 (x.1 : Nat))) :: anys [13, 14, 15, 16, 19, 20, 21, 22, 23, 24, 25, 26, 27, 28, 29, 11, 30, 31, 32, 33, 34, 35, 36, 37, 38, 17, 18]) (fun x => [(9, .box b9 49 [.d (.int .i64 (rangeF ((all.map fun o => openAt o day.toNat a.toNat b.toNat).take x.1)).1), .d (.int .i64 (rangeF ((all.map fun o => openAt o day.toNat a.toNat b.toNat).take x.1)).2)])]) (fun x => all.length - x.1) ⟨0, by simp⟩ ⟨.inl rfl, holdT_anys _⟩ ⟨.inl rfl, trivial⟩ ?_
  rintro ⟨i, hi⟩
  dsimp only
  refine awp_seq ?_
  refine awp_seq ?_
  refine awp_region ?_
  refine sq rfl rfl hn rfl (q_move rfl rfl) ?_
  refine sq rfl rfl hn rfl (q_move rfl rfl) ?_
  refine sq rfl rfl hn rfl (q_len rfl rfl Try.underlying38) ?_
  refine sq rfl rfl hn rfl (q_lss rfl rfl rfl) ?_
  refine run_nil ?_
  refine aend_then ?_
  refine awp_cond rfl (fun hb0 => ?_) (fun hb0 => ?_)
  · try simp only [decide_eq_true_eq, decide_eq_false_iff_not, Bool.and_eq_true, Bool.or_eq_true, Bool.and_eq_false_iff, Bool.or_eq_false_iff, Bool.not_eq_true', Bool.not_eq_false', beq_iff_eq, bne_iff_ne, ne_eq, beq_eq_false_iff_ne, bne_eq_false_iff_eq, Int.not_lt, Int.not_le] at hb0
    have hlt2 : i < all.length := by simpa using hb0
    obtain ⟨o, ho⟩ := ex_get hlt2
    have hol := hall o (List.mem_of_getElem? ho)
    refine awp_skip ?_
    refine aend_then ?_
    refine awp_seq ?_
    refine awp_block ?_
    refine awp_seq ?_
    refine awp_region ?_
    refine sq rfl rfl hn rfl (q_move rfl rfl) ?_
    refine sq rfl rfl hn rfl (q_move rfl rfl) ?_
    refine sq rfl rfl hn rfl (q_move rfl rfl) ?_
    refine sq rfl rfl hn rfl (q_move rfl rfl) ?_
    refine sq rfl rfl hn rfl (q_move rfl rfl) ?_
    refine sq rfl rfl hn rfl (q_index rfl rfl rfl Try.underlying38 sz88 rfl (mget ho)) ?_
    refine sq rfl rfl hn rfl (q_fieldAddrp rfl rfl Try.underlying88 rfl sz86 rfl) ?_
    refine sq rfl rfl hn rfl (q_indexP (i := day.toNat) rfl rfl rfl Try.underlying86 sz85 (by omega) (by omega) rfl) ?_
    refine sq rfl rfl hn rfl (q_indexP (i := a.toNat) rfl rfl rfl Try.underlying85 sz83 (by omega) (by omega) rfl) ?_
    refine sq rfl rfl hn rfl (q_indexP (i := b.toNat) rfl rfl rfl Try.underlying83 sz3 (by omega) (by omega) (drop4 (x := openAt o day.toNat a.toNat b.toNat) (by show o[40 + day.toNat * 16 + a.toNat * 4 + b.toNat * 1]? = _; rw [Nat.mul_one]; exact getD_some (by omega)))) ?_
    refine sq rfl rfl hn rfl (q_loadp rfl rfl Try.underlying3 rfl seesF0) ?_
    refine sq rfl rfl hn rfl (q_assign rfl rfl) ?_
    refine run_nil ?_
    refine aend_then ?_
    refine awp_region ?_
    refine sq rfl rfl hn rfl (q_fieldAddr rfl rfl Try.underlying49 rfl sz3) ?_
    refine sq rfl rfl hn rfl (q_load rfl rfl (id := 9) rfl Try.underlying3 rfl rfl sees0) ?_
    refine sq rfl rfl hn rfl (q_move rfl rfl) ?_
    refine sq rfl rfl hn rfl (q_min rfl rfl rfl) ?_
    refine sq rfl rfl hn rfl (q_fieldAddr rfl rfl Try.underlying49 rfl sz3) ?_
    refine sq rfl rfl hn rfl (q_load rfl rfl (id := 9) rfl Try.underlying3 rfl rfl sees0) ?_
    refine sq rfl rfl hn rfl (q_move rfl rfl) ?_
    refine sq rfl rfl hn rfl (q_max rfl rfl rfl) ?_
    refine sq rfl rfl hn rfl (q_buildd rfl bt49 rfl rfl rfl rfl rfl) ?_
    refine stepW (s_store rfl rfl rfl rfl rfl rfl (id := 9) rfl sz49 rfl (Nat.le_of_ble_eq_true rfl) rfl trivial) fun _ => ?_
    refine run_nil ?_
    refine aend_block ?_
    refine aend_then ?_
    refine awp_region ?_
    refine sq rfl rfl hn rfl (q_move rfl rfl) ?_
    refine sq rfl rfl hn rfl (q_add rfl rfl rfl (r := ((i + 1 : Nat) : Int)) (i64w (by omega) (by omega))) ?_
    refine sq rfl rfl hn rfl (q_assign rfl rfl) ?_
    refine run_nil ?_
    exact aend_round_on ⟨i + 1, by omega⟩ ⟨.inl rfl, holdT_anys _⟩ ⟨.inl (by rw [rangeF_take (show (all.map fun o => openAt o day.toNat a.toNat b.toNat)[i]? = some (openAt o day.toNat a.toNat b.toNat) from mget ho)]; rfl), trivial⟩ (by simp only; omega) (by repeat (first | exact kr _ | refine kc rfl ?_)) (by repeat (first | exact kr _ | refine kc rfl ?_))
  · try simp only [decide_eq_true_eq, decide_eq_false_iff_not, Bool.and_eq_true, Bool.or_eq_true, Bool.and_eq_false_iff, Bool.or_eq_false_iff, Bool.not_eq_true', Bool.not_eq_false', beq_iff_eq, bne_iff_ne, ne_eq, beq_eq_false_iff_ne, bne_eq_false_iff_eq, Int.not_lt, Int.not_le] at hb0
    have hie : i = all.length := by simp only [List.length_map] at hb0; omega
    subst hie; rw [List.take_of_length_le (Nat.le_of_eq (List.length_map _))]
    refine awp_exit ?_
    refine aend_then_exit ?_
    refine aend_then_exit ?_
    refine aend_block_exit ?_
    refine aend_then ?_
    refine awp_seq ?_
    refine awp_region ?_
    refine sq rfl rfl hn rfl (q_loadAd rfl rfl (id := 9) rfl Try.underlying49 rfl sz49 rfl rfl sees0) ?_
    refine stepW (s_store rfl rfl rfl rfl rfl rfl (id := 8) rfl sz49 rfl (Nat.le_of_ble_eq_true rfl) rfl trivial) fun _ => ?_
    refine run_nil ?_
    refine aend_then ?_
    refine awp_ret ?_
    exact ret_1 (.inl rfl) hl rfl (.cellA rfl (id := 8) rfl Try.underlying49 rfl sz49 rfl rfl)


/-- Those whose bit is not set, from a number on. -/
def keepF {α : Type} (bits : Nat) : Nat → List α → List α
  | _, [] => []
  | k, x :: xs => bif bits.testBit k then keepF bits (k + 1) xs else x :: keepF bits (k + 1) xs
def withoutR (r : Reg) (bits : Nat) : Reg := ⟨r.houses, r.start, keepF bits 0 r.entries, keepF bits r.entries.length r.sights⟩
def outB (r : Reg) (bits : Nat) : List Int := ((List.range (r.entries.length + r.sights.length)).filter fun i => bits.testBit i).map Int.ofNat
theorem keepF_len {α : Type} {bits : Nat} : ∀ {k : Nat} {l : List α}, (keepF bits k l).length ≤ l.length
  | _, [] => Nat.le_refl _
  | k, x :: xs => by
    simp only [keepF]
    cases bits.testBit k
    · simpa using keepF_len
    · exact Nat.le_succ_of_le keepF_len
theorem keepF_append {α : Type} {bits : Nat} {x : α} : ∀ {k : Nat} {l : List α}, keepF bits k (l ++ [x]) = keepF bits k l ++ (bif bits.testBit (k + l.length) then [] else [x])
  | k, [] => by simp only [List.nil_append, keepF, List.length_nil, Nat.add_zero]
  | k, y :: l => by
    simp only [List.cons_append, keepF, keepF_append (k := k + 1) (l := l), List.length_cons, show k + 1 + l.length = k + (l.length + 1) by omega]
    cases bits.testBit k <;> rfl
theorem keepF_take {α : Type} {bits k i : Nat} {l : List α} {x : α} (h : l[i]? = some x) : keepF bits k (l.take (i + 1)) = keepF bits k (l.take i) ++ (bif bits.testBit (k + i) then [] else [x]) := by
  have hlt := (List.getElem?_eq_some_iff.1 h).1
  rw [List.take_add_one, h]
  simp only [Option.toList_some]
  rw [keepF_append, List.length_take, Nat.min_eq_left (by omega)]
theorem shr_rem {b i : Nat} : ((((b : Int) / 2 ^ ((i : Int)).toNat).tmod 2) == 1) = b.testBit i := by
  have : (b : Int) / 2 ^ ((i : Int)).toNat = ((b / 2 ^ i : Nat) : Int) := by simp
  rw [this, Nat.testBit_eq_decide_div_mod_eq, show (((b / 2 ^ i : Nat) : Int).tmod 2) = ((b / 2 ^ i % 2 : Nat) : Int) from rfl]
  generalize b / 2 ^ i % 2 = x
  rw [Bool.eq_iff_iff, beq_iff_eq, decide_eq_true_eq]
  omega

section
variable {r : Reg} {b i : Nat}
theorem wo_out_t (h : b.testBit i = true) : (((List.range i).filter fun i => b.testBit i).map Int.ofNat).map intE ++ [intE (i : Int)] = (((List.range (i + 1)).filter fun i => b.testBit i).map Int.ofNat).map intE := by
  rw [filter_t (p := fun i => b.testBit i) h, List.map_append]; rfl
theorem wo_out_f (h : b.testBit i = false) : (((List.range i).filter fun i => b.testBit i).map Int.ofNat).map intE = (((List.range (i + 1)).filter fun i => b.testBit i).map Int.ofNat).map intE := by
  rw [filter_f (p := fun i => b.testBit i) h]
theorem wo_si_i : ([] : List (List D)) = (keepF b r.entries.length (r.sights.take (0 - r.entries.length))).map sightE := by rw [Nat.zero_sub]; rfl
theorem wo_ent_t (h : b.testBit i = true) : (keepF b 0 (r.entries.take i)).map entE = (keepF b 0 (r.entries.take (i + 1))).map entE := by
  cases he : r.entries[i]? with
  | none => rw [List.take_add_one, he]; simp
  | some e => rw [keepF_take he, Nat.zero_add, h]; simp
theorem wo_ent_f {e : Ent5} (he : r.entries[i]? = some e) (h : b.testBit i = false) : (keepF b 0 (r.entries.take i)).map entE ++ [entE e] = (keepF b 0 (r.entries.take (i + 1))).map entE := by
  rw [keepF_take he, Nat.zero_add, h]; simp
theorem wo_ent_0 (h : r.entries.length ≤ i) : (keepF b 0 (r.entries.take i)).map entE = (keepF b 0 (r.entries.take (i + 1))).map entE := by
  rw [List.take_of_length_le h, List.take_of_length_le (by omega)]
theorem wo_si_0 (h : i < r.entries.length) : (keepF b r.entries.length (r.sights.take (i - r.entries.length))).map sightE = (keepF b r.entries.length (r.sights.take (i + 1 - r.entries.length))).map sightE := by
  rw [show i - r.entries.length = 0 by omega, show i + 1 - r.entries.length = 0 by omega]
theorem wo_si_f {s : Sight5} (h : r.entries.length ≤ i) (hs : r.sights[i - r.entries.length]? = some s) (hb : b.testBit i = false) : (keepF b r.entries.length (r.sights.take (i - r.entries.length))).map sightE ++ [sightE s] = (keepF b r.entries.length (r.sights.take (i + 1 - r.entries.length))).map sightE := by
  rw [show i + 1 - r.entries.length = (i - r.entries.length) + 1 by omega, keepF_take hs, show r.entries.length + (i - r.entries.length) = i by omega, hb]; simp
theorem wo_si_t (hb : b.testBit i = true) : (keepF b r.entries.length (r.sights.take (i - r.entries.length))).map sightE = (keepF b r.entries.length (r.sights.take (i + 1 - r.entries.length))).map sightE := by
  by_cases h : i < r.entries.length
  · exact wo_si_0 h
  · cases hs : r.sights[i - r.entries.length]? with
    | none => rw [show i + 1 - r.entries.length = (i - r.entries.length) + 1 by omega, List.take_add_one, hs]; simp
    | some s => rw [show i + 1 - r.entries.length = (i - r.entries.length) + 1 by omega, keepF_take hs, show r.entries.length + (i - r.entries.length) = i by omega, hb]; simp
end
theorem Without_ok (r : Reg) (b : Nat) (h2 : r.entries.length ≤ 20) (h3 : r.sights.length ≤ 20) (hb5 : b < 9223372036854775808) : PureAt Try.prog 39 [regD r, .int .i64 (b : Nat)] (.tup [regD (withoutR r b), ints (outB r b)]) := by
  refine PureAt.of_awp Try.func39 rfl (by kernel_rfl) (Nat.le_of_ble_eq_true rfl) fun Γ hn hl => ?_
  refine awp_seq ?_
  refine awp_region ?_
  refine stepW (s_box 2 rfl rfl rfl (nb hn rfl) rfl rfl) fun b2 => ?_
  refine stepW (s_alloc 4 rfl rfl rfl (nb hn rfl) zr26 rfl rfl) fun b4 => ?_
  refine sq rfl rfl hn rfl (q_assign rfl rfl) ?_
  refine run_nil ?_
  refine aend_then ?_
  refine awp_seq ?_
  refine awp_region ?_
  refine sq rfl rfl hn rfl (q_fieldAddr rfl rfl Try.underlying26 rfl sz3) ?_
  refine sq rfl rfl hn rfl (q_load rfl rfl (id := 2) rfl Try.underlying3 rfl rfl sees0) ?_
  refine sq rfl rfl hn rfl (q_fieldAddr rfl rfl Try.underlying26 rfl sz22) ?_
  refine sq rfl rfl hn rfl (q_load rfl rfl (id := 2) rfl Try.underlying22 rfl rfl sees0) ?_
  refine sq rfl rfl hn rfl (q_buildd rfl bt26 rfl rfl rfl rfl rfl) ?_
  refine stepW (s_alloc 6 rfl rfl rfl (nb hn rfl) zr26 rfl rfl) fun b6 => ?_
  refine stepW (s_store rfl rfl rfl rfl rfl rfl (id := 6) rfl sz26 rfl (Nat.le_of_ble_eq_true rfl) rfl trivial) fun _ => ?_
  refine run_nil ?_
  refine aend_then ?_
  refine awp_seq ?_
  refine awp_region ?_
  refine sq rfl rfl hn rfl (q_assign rfl rfl) ?_
  refine run_nil ?_
  refine aend_then ?_
  refine awp_seq ?_
  refine awp_region ?_
  refine sq rfl rfl hn rfl (q_fieldAddr rfl rfl Try.underlying26 rfl sz23) ?_
  refine sq rfl rfl hn rfl (q_load rfl rfl (id := 2) rfl Try.underlying23 rfl rfl sees0) ?_
  refine sq rfl rfl hn rfl (q_len rfl rfl Try.underlying23) ?_
  refine sq rfl rfl hn rfl (q_assign rfl rfl) ?_
  refine run_nil ?_
  refine aend_then ?_
  refine awp_seq ?_
  refine awp_seq ?_
  refine gh_awp (g_nil (t := 7) (id := 7) 3 1 rfl (nb hn rfl)) ?_
  refine gh_awp (gh_nilcell (id := 6) (k := 2) 602 67 6 rfl rfl) ?_
  refine gh_awp (gh_nilcell (id := 6) (k := 3) 603 59 3 rfl rfl) ?_
  refine awp_region ?_
  refine sq rfl rfl hn rfl (q_assign rfl rfl) ?_
  refine run_nil ?_
  refine aend_then ?_
  refine awp_block ?_
  refine awp_loop_on (ι := { x : Nat × Value × Value × Value // x.1 ≤ r.entries.length + r.sights.length }) (fun x => (9, true, .d (.int .i64 (x.1.1 : Nat))) :: (7, true, .val x.1.2.1) :: anys [18, 19, 20, 21, 22, 23, 24, 27, 28, 29, 30, 31, 32, 33, 34, 35, 36, 37, 38, 39, 40, 41, 42, 43, 44, 45, 46, 47, 48, 49, 50, 51, 52, 53, 54, 55, 56, 57, 58, 59, 60, 61, 25, 26]) (fun x => [(7, .row x.1.2.1 3 1 ((((List.range x.1.1).filter fun i => b.testBit i).map Int.ofNat).map intE)), (6, .box b6 26 [.d (.int .i64 r.houses), .d (ints r.start), .val x.1.2.2.1, .val x.1.2.2.2]), (602, .row x.1.2.2.1 67 6 ((keepF b 0 (r.entries.take x.1.1)).map entE)), (603, .row x.1.2.2.2 59 3 ((keepF b r.entries.length (r.sights.take (x.1.1 - r.entries.length))).map sightE))]) (fun x => r.entries.length + r.sights.length - x.1.1) ⟨(0, .slice none 0 0, .slice none 0 0, .slice none 0 0), by simp⟩ ⟨.inl rfl, .inl rfl, holdT_anys _⟩ ⟨.inl rfl, .inl rfl, .inl rfl, .inl (congrArg (fun z => some (Res.row (.slice none 0 0) 59 3 z)) (wo_si_i (r := r) (b := b))), trivial⟩ ?_
  rintro ⟨⟨i, vo, ve, vs⟩, hi⟩
  dsimp only
  dsimp only at hi
  have hfl := filter_len (p := fun i => b.testBit i) (n := i)
  have hke := keepF_len (bits := b) (k := 0) (l := r.entries.take i)
  have hks := keepF_len (bits := b) (k := r.entries.length) (l := r.sights.take (i - r.entries.length))
  rw [List.length_take] at hke hks
  refine awp_seq ?_
  refine awp_seq ?_
  refine awp_region ?_
  refine sq rfl rfl hn rfl (q_move rfl rfl) ?_
  refine sq rfl rfl hn rfl (q_move rfl rfl) ?_
  refine sq rfl rfl hn rfl (q_fieldAddr rfl rfl Try.underlying26 rfl sz24) ?_
  refine sq rfl rfl hn rfl (q_load rfl rfl (id := 2) rfl Try.underlying24 rfl rfl sees0) ?_
  refine sq rfl rfl hn rfl (q_len rfl rfl Try.underlying24) ?_
  refine sq rfl rfl hn rfl (q_add rfl rfl rfl (i64w (by simp only [List.length_map]; omega) rfl)) ?_
  refine sq rfl rfl hn rfl (q_lss rfl rfl rfl) ?_
  refine run_nil ?_
  refine aend_then ?_
  refine awp_cond rfl (fun hb0 => ?_) (fun hb0 => ?_)
  · try simp only [decide_eq_true_eq, decide_eq_false_iff_not, Bool.and_eq_true, Bool.or_eq_true, Bool.and_eq_false_iff, Bool.or_eq_false_iff, Bool.not_eq_true', Bool.not_eq_false', beq_iff_eq, bne_iff_ne, ne_eq, beq_eq_false_iff_ne, bne_eq_false_iff_eq, Int.not_lt, Int.not_le] at hb0
    have hlt : i < r.entries.length + r.sights.length := by simp only [List.length_map] at hb0; omega
    refine awp_skip ?_
    refine aend_then ?_
    refine awp_seq ?_
    refine awp_block ?_
    refine awp_seq ?_
    refine awp_region ?_
    refine sq rfl rfl hn rfl (q_move rfl rfl) ?_
    refine sq rfl rfl hn rfl (q_move rfl rfl) ?_
    refine sq rfl rfl hn rfl (q_conv rfl rfl Try.underlying3 Try.underlying72 (u64w (by omega) rfl)) ?_
    refine sq rfl rfl hn rfl (q_shr rfl rfl rfl (by omega) (by simp [IntKind.bits]; omega)) ?_
    refine sq rfl rfl hn rfl (q_rem rfl rfl rfl (by omega) rfl) ?_
    refine sq rfl rfl hn rfl (q_eql rfl rfl rfl) ?_
    refine run_nil ?_
    refine aend_then ?_
    refine awp_cond rfl (fun hb1 => ?_) (fun hb1 => ?_)
    · rw [shr_rem] at hb1
      refine awp_region ?_
      refine sq rfl rfl hn rfl (q_move rfl rfl) ?_
      refine sq rfl rfl hn rfl (q_move rfl rfl) ?_
      refine stepW (s_buildSlice rfl rfl rfl (nb hn rfl) Try.underlying22 sz3 zr3 rfl rfl rfl (show _ = [.d (.int .i64 0)] from by kernel_rfl) (by kernel_rfl) rfl (fill_nat (by kernel_rfl)) rfl rfl rfl) fun _ => ?_
      refine stepW (s_append (id := 7) rfl rfl rfl (nb hn rfl) elt22 trivial rfl rfl rfl (by simp only [List.length_map] at hfl ⊢; simp [chunk]; omega) (by simp only [List.length_map] at hfl ⊢; simp [chunk]; omega) (fun b hb => trivial)) fun v36 => ?_
      refine sq rfl rfl hn rfl (q_assign rfl rfl) ?_
      refine run_nil ?_
      refine aend_block ?_
      refine aend_then ?_
      refine awp_region ?_
      refine sq rfl rfl hn rfl (q_move rfl rfl) ?_
      refine sq rfl rfl hn rfl (q_add rfl rfl rfl (r := ((i + 1 : Nat) : Int)) (i64w (by omega) (by omega))) ?_
      refine sq rfl rfl hn rfl (q_assign rfl rfl) ?_
      refine run_nil ?_
      exact aend_round_on ⟨(i + 1, v36, ve, vs), by simp only; omega⟩ ⟨.inl rfl, .inl rfl, holdT_anys _⟩ ⟨.inl (congrArg (fun z => some (Res.row v36 3 1 z)) (wo_out_t hb1)), .inl rfl, .inl (congrArg (fun z => some (Res.row ve 67 6 z)) (wo_ent_t hb1)), .inl (congrArg (fun z => some (Res.row vs 59 3 z)) (wo_si_t hb1)), trivial⟩ (by simp only; omega) (by repeat (first | exact kr _ | refine kc rfl ?_)) (by repeat (first | exact kr _ | refine kc rfl ?_))
    · rw [shr_rem] at hb1
      refine awp_seq ?_
      refine awp_region ?_
      refine sq rfl rfl hn rfl (q_move rfl rfl) ?_
      refine sq rfl rfl hn rfl (q_move rfl rfl) ?_
      refine sq rfl rfl hn rfl (q_lss rfl rfl rfl) ?_
      refine run_nil ?_
      refine aend_then ?_
      refine awp_cond rfl (fun hb2 => ?_) (fun hb2 => ?_)
      · try simp only [decide_eq_true_eq, decide_eq_false_iff_not, Bool.and_eq_true, Bool.or_eq_true, Bool.and_eq_false_iff, Bool.or_eq_false_iff, Bool.not_eq_true', Bool.not_eq_false', beq_iff_eq, bne_iff_ne, ne_eq, beq_eq_false_iff_ne, bne_eq_false_iff_eq, Int.not_lt, Int.not_le] at hb2
        have hlt2 : i < r.entries.length := by simp only [List.length_map] at hb2; omega
        obtain ⟨e, he⟩ := ex_get hlt2
        refine d_start (W := fun b => b ≠ b2) fmo ?_
        refine d1q (i := 0) rfl (by kernel_rfl) (fun _ _ _ _ h => h) rfl rfl hn rfl (q_fieldAddr rfl rfl Try.underlying26 rfl sz23) ?_
        refine d1q (i := 2) rfl (by kernel_rfl) (fun _ _ _ _ h => h) rfl rfl hn rfl (q_fieldAddr rfl rfl Try.underlying26 rfl sz23) ?_
        refine d1q (i := 3) rfl (by kernel_rfl) (fun _ _ _ _ h => h) rfl rfl hn rfl (q_load rfl rfl (id := 2) rfl Try.underlying23 rfl rfl (seesA (by simp))) ?_
        refine d1q (i := 4) rfl (by kernel_rfl) (fun _ _ _ _ h => h) rfl rfl hn rfl (q_move rfl rfl) ?_
        refine d1q (i := 5) rfl (by kernel_rfl) (fun _ _ _ _ h => h) rfl rfl hn rfl (q_index rfl rfl rfl Try.underlying23 sz67 rfl (mget he)) ?_
        refine d1q (i := 6) rfl (by kernel_rfl) (fun _ _ _ _ h => h) rfl rfl hn rfl (q_loadpA rfl rfl Try.underlying67 rfl sz67 rfl rfl seesFA) ?_
        refine d1_of_d2 ?_
        refine d2_all 1 [7] (by kernel_rfl) ⟨?_, ?_, trivial⟩
        · skip
          refine br rfl (quiet_wg _ [] (guard_none rfl) rfl (nb hn rfl) (fun _ => trivial) (fun _ => q_load rfl rfl (id := 6) rfl Try.underlying23 rfl rfl sees0)) fun _ => ?_
          refine d2_of_d1 ?_
          refine d1_of_d2 ?_
          refine d2_one (i := 7) (by kernel_rfl) rfl (s_buildSlice rfl rfl rfl (nb hn rfl) Try.underlying23 sz67 zr67 rfl rfl rfl (show _ = [.d (.int .i64 0), .d (.int .i64 0), .d (.int .i64 0), .d (.int .i64 0), .d (.int .i64 0), .d (.int .i64 0)] from by kernel_rfl) (by kernel_rfl) rfl (fill_agg rfl rfl) (allD_d _) (beq_len rfl) (chunk_one rfl)) fun _ => ?_
          refine d2_of_d1 ?_
          refine d1_of_d2 ?_
          refine g_ne_d2 (i := 602) (j := 2) rfl rfl rfl (fun hne602_2 => ?_)
          refine d2_one (i := 8) (by kernel_rfl) rfl (s_append (id := 602) rfl rfl rfl (nb hn rfl) elt23 trivial rfl rfl rfl (by simp; omega) (by simp; omega) (fun b hb => (fun e => hne602_2 _ hb (congrArg some e.symm)))) fun v48 => ?_
          refine d2_of_d1 ?_
          refine d1q (i := 9) rfl (by kernel_rfl) (fun _ _ _ _ h => h) rfl rfl hn rfl (q_fieldAddr rfl rfl Try.underlying26 rfl sz23) ?_
          refine d1_of_d2 ?_
          refine g_ne_d2 (i := 6) (j := 2) rfl rfl rfl (fun hne6_2 => ?_)
          refine d2_one (i := 10) (by kernel_rfl) rfl (s_storeRow rfl rfl rfl rfl rfl (rid := 602) rfl (id := 6) rfl sz23 (Nat.le_of_ble_eq_true rfl) rfl (fun e => hne6_2 _ rfl (congrArg some e.symm))) fun _ => ?_
          refine d2_of_d1 ?_
          refine d1_of_d2 ?_
          refine d2_done (by kernel_rfl) ?_
          refine aend_block ?_
          refine aend_then ?_
          refine awp_region ?_
          refine sq rfl rfl hn rfl (q_move rfl rfl) ?_
          refine sq rfl rfl hn rfl (q_add rfl rfl rfl (r := ((i + 1 : Nat) : Int)) (i64w (by omega) (by omega))) ?_
          refine sq rfl rfl hn rfl (q_assign rfl rfl) ?_
          refine run_nil ?_
          exact aend_round_on ⟨(i + 1, vo, v48, vs), by simp only; omega⟩ ⟨.inl rfl, .inl rfl, holdT_anys _⟩ ⟨.inl (congrArg (fun z => some (Res.row vo 3 1 z)) (wo_out_f hb1)), .inl rfl, .inl (congrArg (fun z => some (Res.row v48 67 6 z)) (wo_ent_f he hb1)), .inl (congrArg (fun z => some (Res.row vs 59 3 z)) (wo_si_0 hlt2)), trivial⟩ (by simp only; omega) (by repeat (first | exact kr _ | refine kc rfl ?_)) (by repeat (first | exact kr _ | refine kc rfl ?_))
        · skip
          refine br rfl (s_buildSlice rfl rfl rfl (nb hn rfl) Try.underlying23 sz67 zr67 rfl rfl rfl (show _ = [.d (.int .i64 0), .d (.int .i64 0), .d (.int .i64 0), .d (.int .i64 0), .d (.int .i64 0), .d (.int .i64 0)] from by kernel_rfl) (by kernel_rfl) rfl (fill_agg rfl rfl) (allD_d _) (beq_len rfl) (chunk_one rfl)) fun _ => ?_
          refine d2_of_d1 ?_
          refine d1_of_d2 ?_
          refine d2_one (i := 1) (by kernel_rfl) rfl (quiet_wg _ [] (guard_none rfl) rfl (nb hn rfl) (fun _ => trivial) (fun _ => q_load rfl rfl (id := 6) rfl Try.underlying23 rfl rfl sees0)) fun _ => ?_
          refine d2_of_d1 ?_
          refine d1_of_d2 ?_
          refine g_ne_d2 (i := 602) (j := 2) rfl rfl rfl (fun hne602_2 => ?_)
          refine d2_one (i := 8) (by kernel_rfl) rfl (s_append (id := 602) rfl rfl rfl (nb hn rfl) elt23 trivial rfl rfl rfl (by simp; omega) (by simp; omega) (fun b hb => (fun e => hne602_2 _ hb (congrArg some e.symm)))) fun v48 => ?_
          refine d2_of_d1 ?_
          refine d1q (i := 9) rfl (by kernel_rfl) (fun _ _ _ _ h => h) rfl rfl hn rfl (q_fieldAddr rfl rfl Try.underlying26 rfl sz23) ?_
          refine d1_of_d2 ?_
          refine g_ne_d2 (i := 6) (j := 2) rfl rfl rfl (fun hne6_2 => ?_)
          refine d2_one (i := 10) (by kernel_rfl) rfl (s_storeRow rfl rfl rfl rfl rfl (rid := 602) rfl (id := 6) rfl sz23 (Nat.le_of_ble_eq_true rfl) rfl (fun e => hne6_2 _ rfl (congrArg some e.symm))) fun _ => ?_
          refine d2_of_d1 ?_
          refine d1_of_d2 ?_
          refine d2_done (by kernel_rfl) ?_
          refine aend_block ?_
          refine aend_then ?_
          refine awp_region ?_
          refine sq rfl rfl hn rfl (q_move rfl rfl) ?_
          refine sq rfl rfl hn rfl (q_add rfl rfl rfl (r := ((i + 1 : Nat) : Int)) (i64w (by omega) (by omega))) ?_
          refine sq rfl rfl hn rfl (q_assign rfl rfl) ?_
          refine run_nil ?_
          exact aend_round_on ⟨(i + 1, vo, v48, vs), by simp only; omega⟩ ⟨.inl rfl, .inl rfl, holdT_anys _⟩ ⟨.inl (congrArg (fun z => some (Res.row vo 3 1 z)) (wo_out_f hb1)), .inl rfl, .inl (congrArg (fun z => some (Res.row v48 67 6 z)) (wo_ent_f he hb1)), .inl (congrArg (fun z => some (Res.row vs 59 3 z)) (wo_si_0 hlt2)), trivial⟩ (by simp only; omega) (by repeat (first | exact kr _ | refine kc rfl ?_)) (by repeat (first | exact kr _ | refine kc rfl ?_))
      · try simp only [decide_eq_true_eq, decide_eq_false_iff_not, Bool.and_eq_true, Bool.or_eq_true, Bool.and_eq_false_iff, Bool.or_eq_false_iff, Bool.not_eq_true', Bool.not_eq_false', beq_iff_eq, bne_iff_ne, ne_eq, beq_eq_false_iff_ne, bne_eq_false_iff_eq, Int.not_lt, Int.not_le] at hb2
        have hge : r.entries.length ≤ i := by simp only [List.length_map] at hb2; omega
        obtain ⟨s, hs⟩ := ex_get (l := r.sights) (i := i - r.entries.length) (by omega)
        refine d_start (W := fun b => b ≠ b2) fmo ?_
        refine d1q (i := 0) rfl (by kernel_rfl) (fun _ _ _ _ h => h) rfl rfl hn rfl (q_fieldAddr rfl rfl Try.underlying26 rfl sz24) ?_
        refine d1q (i := 2) rfl (by kernel_rfl) (fun _ _ _ _ h => h) rfl rfl hn rfl (q_fieldAddr rfl rfl Try.underlying26 rfl sz24) ?_
        refine d1q (i := 3) rfl (by kernel_rfl) (fun _ _ _ _ h => h) rfl rfl hn rfl (q_load rfl rfl (id := 2) rfl Try.underlying24 rfl rfl (seesA (by simp))) ?_
        refine d1q (i := 4) rfl (by kernel_rfl) (fun _ _ _ _ h => h) rfl rfl hn rfl (q_move rfl rfl) ?_
        refine d1q (i := 5) rfl (by kernel_rfl) (fun _ _ _ _ h => h) rfl rfl hn rfl (q_move rfl rfl) ?_
        refine d1q (i := 6) rfl (by kernel_rfl) (fun _ _ _ _ h => h) rfl rfl hn rfl (q_sub rfl rfl rfl (r := ((i - r.entries.length : Nat) : Int)) (i64w (by simp only [List.length_map]; omega) (by simp only [List.length_map]; omega))) ?_
        refine d1q (i := 7) rfl (by kernel_rfl) (fun _ _ _ _ h => h) rfl rfl hn rfl (q_index rfl rfl rfl Try.underlying24 sz59 rfl (mget hs)) ?_
        refine d1q (i := 8) rfl (by kernel_rfl) (fun _ _ _ _ h => h) rfl rfl hn rfl (q_loadpA rfl rfl Try.underlying59 rfl sz59 rfl rfl seesFA) ?_
        refine d1_of_d2 ?_
        refine d2_all 1 [9] (by kernel_rfl) ⟨?_, ?_, trivial⟩
        · skip
          refine br rfl (quiet_wg _ [] (guard_none rfl) rfl (nb hn rfl) (fun _ => trivial) (fun _ => q_load rfl rfl (id := 6) rfl Try.underlying24 rfl rfl sees0)) fun _ => ?_
          refine d2_of_d1 ?_
          refine d1_of_d2 ?_
          refine d2_one (i := 9) (by kernel_rfl) rfl (s_buildSlice rfl rfl rfl (nb hn rfl) Try.underlying24 sz59 zr59 rfl rfl rfl (show _ = [.d (.int .i64 0), .d (.int .i64 0), .d (.int .i64 0)] from by kernel_rfl) (by kernel_rfl) rfl (fill_agg rfl rfl) (allD_d _) (beq_len rfl) (chunk_one rfl)) fun _ => ?_
          refine d2_of_d1 ?_
          refine d1_of_d2 ?_
          refine g_ne_d2 (i := 603) (j := 2) rfl rfl rfl (fun hne603_2 => ?_)
          refine d2_one (i := 10) (by kernel_rfl) rfl (s_append (id := 603) rfl rfl rfl (nb hn rfl) elt24 trivial rfl rfl rfl (by simp; omega) (by simp; omega) (fun b hb => (fun e => hne603_2 _ hb (congrArg some e.symm)))) fun v60 => ?_
          refine d2_of_d1 ?_
          refine d1q (i := 11) rfl (by kernel_rfl) (fun _ _ _ _ h => h) rfl rfl hn rfl (q_fieldAddr rfl rfl Try.underlying26 rfl sz24) ?_
          refine d1_of_d2 ?_
          refine g_ne_d2 (i := 6) (j := 2) rfl rfl rfl (fun hne6_2 => ?_)
          refine d2_one (i := 12) (by kernel_rfl) rfl (s_storeRow rfl rfl rfl rfl rfl (rid := 603) rfl (id := 6) rfl sz24 (Nat.le_of_ble_eq_true rfl) rfl (fun e => hne6_2 _ rfl (congrArg some e.symm))) fun _ => ?_
          refine d2_of_d1 ?_
          refine d1_of_d2 ?_
          refine d2_done (by kernel_rfl) ?_
          refine aend_block ?_
          refine aend_then ?_
          refine awp_region ?_
          refine sq rfl rfl hn rfl (q_move rfl rfl) ?_
          refine sq rfl rfl hn rfl (q_add rfl rfl rfl (r := ((i + 1 : Nat) : Int)) (i64w (by omega) (by omega))) ?_
          refine sq rfl rfl hn rfl (q_assign rfl rfl) ?_
          refine run_nil ?_
          exact aend_round_on ⟨(i + 1, vo, ve, v60), by simp only; omega⟩ ⟨.inl rfl, .inl rfl, holdT_anys _⟩ ⟨.inl (congrArg (fun z => some (Res.row vo 3 1 z)) (wo_out_f hb1)), .inl rfl, .inl (congrArg (fun z => some (Res.row ve 67 6 z)) (wo_ent_0 hge)), .inl (congrArg (fun z => some (Res.row v60 59 3 z)) (wo_si_f hge hs hb1)), trivial⟩ (by simp only; omega) (by repeat (first | exact kr _ | refine kc rfl ?_)) (by repeat (first | exact kr _ | refine kc rfl ?_))
        · skip
          refine br rfl (s_buildSlice rfl rfl rfl (nb hn rfl) Try.underlying24 sz59 zr59 rfl rfl rfl (show _ = [.d (.int .i64 0), .d (.int .i64 0), .d (.int .i64 0)] from by kernel_rfl) (by kernel_rfl) rfl (fill_agg rfl rfl) (allD_d _) (beq_len rfl) (chunk_one rfl)) fun _ => ?_
          refine d2_of_d1 ?_
          refine d1_of_d2 ?_
          refine d2_one (i := 1) (by kernel_rfl) rfl (quiet_wg _ [] (guard_none rfl) rfl (nb hn rfl) (fun _ => trivial) (fun _ => q_load rfl rfl (id := 6) rfl Try.underlying24 rfl rfl sees0)) fun _ => ?_
          refine d2_of_d1 ?_
          refine d1_of_d2 ?_
          refine g_ne_d2 (i := 603) (j := 2) rfl rfl rfl (fun hne603_2 => ?_)
          refine d2_one (i := 10) (by kernel_rfl) rfl (s_append (id := 603) rfl rfl rfl (nb hn rfl) elt24 trivial rfl rfl rfl (by simp; omega) (by simp; omega) (fun b hb => (fun e => hne603_2 _ hb (congrArg some e.symm)))) fun v60 => ?_
          refine d2_of_d1 ?_
          refine d1q (i := 11) rfl (by kernel_rfl) (fun _ _ _ _ h => h) rfl rfl hn rfl (q_fieldAddr rfl rfl Try.underlying26 rfl sz24) ?_
          refine d1_of_d2 ?_
          refine g_ne_d2 (i := 6) (j := 2) rfl rfl rfl (fun hne6_2 => ?_)
          refine d2_one (i := 12) (by kernel_rfl) rfl (s_storeRow rfl rfl rfl rfl rfl (rid := 603) rfl (id := 6) rfl sz24 (Nat.le_of_ble_eq_true rfl) rfl (fun e => hne6_2 _ rfl (congrArg some e.symm))) fun _ => ?_
          refine d2_of_d1 ?_
          refine d1_of_d2 ?_
          refine d2_done (by kernel_rfl) ?_
          refine aend_block ?_
          refine aend_then ?_
          refine awp_region ?_
          refine sq rfl rfl hn rfl (q_move rfl rfl) ?_
          refine sq rfl rfl hn rfl (q_add rfl rfl rfl (r := ((i + 1 : Nat) : Int)) (i64w (by omega) (by omega))) ?_
          refine sq rfl rfl hn rfl (q_assign rfl rfl) ?_
          refine run_nil ?_
          exact aend_round_on ⟨(i + 1, vo, ve, v60), by simp only; omega⟩ ⟨.inl rfl, .inl rfl, holdT_anys _⟩ ⟨.inl (congrArg (fun z => some (Res.row vo 3 1 z)) (wo_out_f hb1)), .inl rfl, .inl (congrArg (fun z => some (Res.row ve 67 6 z)) (wo_ent_0 hge)), .inl (congrArg (fun z => some (Res.row v60 59 3 z)) (wo_si_f hge hs hb1)), trivial⟩ (by simp only; omega) (by repeat (first | exact kr _ | refine kc rfl ?_)) (by repeat (first | exact kr _ | refine kc rfl ?_))
  · try simp only [decide_eq_true_eq, decide_eq_false_iff_not, Bool.and_eq_true, Bool.or_eq_true, Bool.and_eq_false_iff, Bool.or_eq_false_iff, Bool.not_eq_true', Bool.not_eq_false', beq_iff_eq, bne_iff_ne, ne_eq, beq_eq_false_iff_ne, bne_eq_false_iff_eq, Int.not_lt, Int.not_le] at hb0
    have hie : i = r.entries.length + r.sights.length := by simp only [List.length_map] at hb0; omega
    subst hie
    rw [List.take_of_length_le (by omega), Nat.add_sub_cancel_left, List.take_length]
    refine awp_exit ?_
    refine aend_then_exit ?_
    refine aend_then_exit ?_
    refine aend_block_exit ?_
    refine aend_then ?_
    refine awp_seq ?_
    refine gh_awp (gh_rowcell (id := 6) (k := 2) (rid := 602) rfl rfl rfl) ?_
    refine gh_awp (gh_rowcell (id := 6) (k := 3) (rid := 603) rfl rfl rfl) ?_
    refine awp_region ?_
    refine sq rfl rfl hn rfl (q_loadAd rfl rfl (id := 6) rfl Try.underlying26 rfl sz26 rfl rfl sees0) ?_
    refine sq rfl rfl hn rfl (q_move rfl rfl) ?_
    refine stepW (s_store rfl rfl rfl rfl rfl rfl (id := 4) rfl sz26 rfl (Nat.le_of_ble_eq_true rfl) rfl trivial) fun _ => ?_
    refine sq rfl rfl hn rfl (q_assign rfl rfl) ?_
    refine run_nil ?_
    refine aend_then ?_
    refine awp_ret ?_
    refine gh_end (g_row (t := 5) (id := 7) rfl rfl) ?_
    exact ret_2 (.inl rfl) hl rfl (.cellA rfl (id := 4) rfl Try.underlying26 rfl sz26 rfl rfl) (.tmp rfl)
end Go.Proofs.Ytnbmmopjkkofoaa
