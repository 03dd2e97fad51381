/-
  A part of the proof that contangolaw.TapeNames returns true: what the last text needs, and no more. No condition: no statement of the seat is proved here.
-/
import Derived.Test.YtplpcamcnppibaaGreatDoorChecked
import Derived.Test.YtplpcamcnppibaaGreatDoorTapeNamesF
namespace Go.Proofs.YtplpcamcnppibaaGreatDoor
open Go.RowKit
set_option maxRecDepth 20000
set_option linter.all false
def withinB (n lo hi : Int) : Bool := decide (lo ≤ n) && decide (n ≤ hi)
def letterB (b : UInt8) : Bool := decide (65 ≤ (b.toNat : Int)) && decide ((b.toNat : Int) ≤ 90)
def namedB (s : List UInt8) : Bool := withinB s.length 1 3 && s.all letterB
def spansB (lo hi a b : Int) : Bool := decide (a ≤ lo) && decide (lo ≤ hi) && decide (hi ≤ b)
theorem sz3 : Sz Tryz.prog 3 1 := (by kernel_rfl : (Tryz.prog.info? 3).map (·.size) = some 1)
theorem sz5 : Sz Tryz.prog 5 1 := (by kernel_rfl : (Tryz.prog.info? 5).map (·.size) = some 1)
theorem sz45 : Sz Tryz.prog 45 2 := (by kernel_rfl : (Tryz.prog.info? 45).map (·.size) = some 2)
theorem sz117 : Sz Tryz.prog 117 3 := (by kernel_rfl : (Tryz.prog.info? 117).map (·.size) = some 3)
theorem zr45 : (Tryz.prog.info? 45).map (·.zero) = some (some (.agg #[(.int .i64 0), (.int .i64 0)])) := by kernel_rfl
theorem bt45 : BT Tryz.prog 45 (.agg #[(.int .i64 0), (.int .i64 0)]) (fun i => ([(0, 1), (1, 1)] : List (Nat × Nat))[i]?) := bt_struct Tryz.underlying45 zr45 (by kernel_rfl)
theorem within_ok (n lo hi : Int) : PureAt Tryz.prog 65 [.int .i64 n, .int .i64 lo, .int .i64 hi] (.bool (withinB n lo hi)) := by
 refine PureAt.of_awp Tryz.func65 rfl (by kernel_rfl) (Nat.le_of_ble_eq_true rfl) fun Γ hn hl => ?_
 refine awp_seq (awp_region ?_)
 refine sq rfl rfl hn rfl (q_assign rfl rfl) ?_
 refine run_nil (aend_then (awp_seq (awp_region ?_)))
 refine sq rfl rfl hn rfl (q_move rfl rfl) ?_
 refine sq rfl rfl hn rfl (q_move rfl rfl) ?_
 refine sq rfl rfl hn rfl (q_leq rfl rfl rfl) ?_
 refine sq rfl rfl hn rfl (q_move rfl rfl) ?_
 refine stepG [] (guard_some rfl rfl rfl) rfl (nb hn rfl) (fun hc => trivial) (fun hc => q_move rfl rfl) ?_
 refine stepG [] (guard_some rfl rfl rfl) rfl (nb hn rfl) (fun hc => trivial) (fun hc => q_move rfl rfl) ?_
 refine stepG [(11, _), (12, _)] (guard_some rfl rfl rfl) rfl (nb hn rfl) (fun hc => ⟨⟨_, rfl, hc⟩, ⟨_, rfl, hc⟩, trivial⟩) (fun hc => q_leq rfl rfl rfl) ?_
 refine sq rfl rfl hn rfl (q_and rfl rfl rfl (by intro hB; first | (rw [hB]; rfl) | (rw [hB, hc]; rfl) | simp_all)) ?_
 refine sq rfl rfl hn rfl (q_assign rfl rfl) ?_
 refine run_nil (aend_then (awp_ret ?_))
 exact ret_1 (.inl rfl) hl rfl (.tmp rfl)
theorem letter_ok (b : UInt8) : PureAt Tryz.prog 125 [.int .u8 (b.toNat : Int)] (.bool (letterB b)) := by
 refine PureAt.of_awp Tryz.func125 rfl (by kernel_rfl) (Nat.le_of_ble_eq_true rfl) fun Γ hn hl => ?_
 refine awp_seq (awp_region ?_)
 refine sq rfl rfl hn rfl (q_assign rfl rfl) ?_
 refine run_nil (aend_then (awp_seq (awp_region ?_)))
 refine sq rfl rfl hn rfl (q_move rfl rfl) ?_
 refine sq rfl rfl hn rfl (q_leq rfl rfl rfl) ?_
 refine sq rfl rfl hn rfl (q_move rfl rfl) ?_
 refine stepG [] (guard_some rfl rfl rfl) rfl (nb hn rfl) (fun hc => trivial) (fun hc => q_move rfl rfl) ?_
 refine stepG [(6, _)] (guard_some rfl rfl rfl) rfl (nb hn rfl) (fun hc => ⟨⟨_, rfl, hc⟩, trivial⟩) (fun hc => q_leq rfl rfl rfl) ?_
 refine sq rfl rfl hn rfl (q_and rfl rfl rfl (by intro hB; first | (rw [hB]; rfl) | (rw [hB, hc]; rfl) | simp_all)) ?_
 refine sq rfl rfl hn rfl (q_assign rfl rfl) ?_
 refine run_nil (aend_then (awp_ret ?_))
 exact ret_1 (.inl rfl) hl rfl (.tmp rfl)
theorem IndexFunc_byte (l : List UInt8) (p : UInt8 → Bool) (g : FuncId) (fi ca : List D) (hp : ∀ x ∈ l, PureAt Tryz.prog g (fi ++ [.int .u8 (x.toNat : Int)] ++ ca) (.bool (p x))) : PureAt Tryz.prog 151 [bytesD l, .fn (.func g) fi ca] (.int .i64 (idxOf p l)) := by
 refine PureAt.of_awp' Tryz.func151 rfl (by kernel_rfl) rfl fun hlen Γ hn hl => ?_
 have hl5 := hlen.1; simp only [List.length_map] at hl5
 refine awp_seq (awp_region ?_)
 refine sq rfl rfl hn rfl (q_assign rfl rfl) ?_
 refine run_nil (aend_then (awp_seq (awp_seq (awp_region ?_))))
 refine sq rfl rfl hn rfl (q_move rfl rfl) ?_
 refine sq rfl rfl hn rfl (q_len rfl rfl Tryz.underlying167) ?_
 refine sq rfl rfl hn rfl (q_move rfl rfl) ?_
 refine run_nil (aend_then (awp_block ?_))
 refine awp_loop_on (ι := { i : Nat // i ≤ l.length ∧ (l.take i).all (fun x => !p x) = true }) (fun i => (8, true, .d (.int .i64 (i.1 : Int))) :: anys [9, 10, 5, 11, 12, 13, 14, 15, 16, 18]) (fun i => []) (fun i => l.length - i.1) ⟨0, by simp⟩ ⟨.inl rfl, holdT_anys _⟩ trivial ?_
 rintro ⟨i, hi, hall⟩
 dsimp only
 refine awp_seq (awp_region ?_)
 refine sq rfl rfl hn rfl (q_lss rfl rfl rfl) ?_
 refine run_nil (aend_then (awp_seq ?_))
 refine awp_cond rfl (fun hb0 => ?_) (fun hb0 => ?_)
 ·
  try simp only [decide_eq_true_eq, decide_eq_false_iff_not, Bool.and_eq_true, Bool.or_eq_true, Bool.and_eq_false_iff, Bool.or_eq_false_iff, Bool.not_eq_true', Bool.not_eq_false', beq_iff_eq, bne_iff_ne, ne_eq, beq_eq_false_iff_ne, bne_eq_false_iff_eq, Int.not_lt, Int.not_le] at hb0
  have hlt : i < l.length := by simpa using hb0
  obtain ⟨x, hx⟩ := ex_get hlt
  refine awp_skip (aend_then (awp_seq (awp_block (awp_seq (awp_region ?_)))))
  refine sq rfl rfl hn rfl (q_move rfl rfl) ?_
  refine sq rfl rfl hn rfl (q_assign rfl rfl) ?_
  refine run_nil (aend_then (awp_seq (awp_region ?_)))
  refine sq rfl rfl hn rfl (q_move rfl rfl) ?_
  refine sq rfl rfl hn rfl (q_move rfl rfl) ?_
  refine sq rfl rfl hn rfl (q_move rfl rfl) ?_
  refine sq rfl rfl hn rfl (q_index rfl rfl rfl Tryz.underlying167 sz5 rfl (mget hx)) ?_
  refine sq rfl rfl hn rfl (q_loadp rfl rfl Tryz.underlying5 rfl seesF0) ?_
  refine stepW (s_call [] (fun _ => hp x (List.mem_of_getElem? hx)) rfl (guard_none rfl) rfl (nb hn rfl) (fun _ => trivial) rfl rfl (.refl _)) fun _ => ?_
  refine run_nil (aend_then ?_)
  refine awp_cond rfl (fun hb1 => ?_) (fun hb1 => ?_)
  ·
   try simp only [decide_eq_true_eq, decide_eq_false_iff_not, Bool.and_eq_true, Bool.or_eq_true, Bool.and_eq_false_iff, Bool.or_eq_false_iff, Bool.not_eq_true', Bool.not_eq_false', beq_iff_eq, bne_iff_ne, ne_eq, beq_eq_false_iff_ne, bne_eq_false_iff_eq, Int.not_lt, Int.not_le] at hb1
   refine awp_seq (awp_region ?_)
   refine sq rfl rfl hn rfl (q_move rfl rfl) ?_
   refine sq rfl rfl hn rfl (q_assign rfl rfl) ?_
   refine run_nil (aend_then (awp_ret (aend_block_ret (aend_then_ret (aend_then_ret (aend_block_ret (aend_then_ret ?_)))))))
   refine ret_eq (ret_1 (.inl rfl) hl rfl (.tmp rfl)) ?_
   rw [idxOf_hit hx hall (by simpa using hb1)]
  ·
   try simp only [decide_eq_true_eq, decide_eq_false_iff_not, Bool.and_eq_true, Bool.or_eq_true, Bool.and_eq_false_iff, Bool.or_eq_false_iff, Bool.not_eq_true', Bool.not_eq_false', beq_iff_eq, bne_iff_ne, ne_eq, beq_eq_false_iff_ne, bne_eq_false_iff_eq, Int.not_lt, Int.not_le] at hb1
   refine awp_skip (aend_block (aend_then (awp_region ?_)))
   refine sq rfl rfl hn rfl (q_add rfl rfl rfl (r := ((i + 1 : Nat) : Int)) (i64w (by omega) (by omega))) ?_
   refine sq rfl rfl hn rfl (q_move rfl rfl) ?_
   refine run_nil ?_
   exact aend_round_on ⟨i + 1, by omega, take_all_succ hx hall (by simp [hb1])⟩ ⟨.inl rfl, holdT_anys _⟩ trivial (by simp only; omega) (by repeat (first | exact kr _ | refine kc rfl ?_)) (by repeat (first | exact kr _ | refine kc rfl ?_))
 ·
  try simp only [decide_eq_true_eq, decide_eq_false_iff_not, Bool.and_eq_true, Bool.or_eq_true, Bool.and_eq_false_iff, Bool.or_eq_false_iff, Bool.not_eq_true', Bool.not_eq_false', beq_iff_eq, bne_iff_ne, ne_eq, beq_eq_false_iff_ne, bne_eq_false_iff_eq, Int.not_lt, Int.not_le] at hb0
  refine awp_exit (aend_then_exit (aend_then_exit (aend_block_exit (aend_then (awp_seq (awp_region ?_))))))
  refine sq rfl rfl hn rfl (q_assign rfl rfl) ?_
  refine run_nil (aend_then (awp_ret ?_))
  refine ret_eq (ret_1 (.inl rfl) hl rfl (.tmp rfl)) ?_
  have hi2 : i = l.length := by simp only [List.length_map] at hb0; omega
  subst hi2; rw [List.take_length] at hall; rw [idxOf_miss hall]
theorem ContainsFunc_byte (l : List UInt8) (p : UInt8 → Bool) (g : FuncId) (fi ca : List D) (hp : ∀ x ∈ l, PureAt Tryz.prog g (fi ++ [.int .u8 (x.toNat : Int)] ++ ca) (.bool (p x))) : PureAt Tryz.prog 136 [bytesD l, .fn (.func g) fi ca] (.bool (l.any p)) := by
 refine PureAt.of_awp Tryz.func136 rfl (by kernel_rfl) (Nat.le_of_ble_eq_true rfl) fun Γ hn hl => ?_
 refine awp_seq (awp_region ?_)
 refine sq rfl rfl hn rfl (q_assign rfl rfl) ?_
 refine run_nil (aend_then (awp_seq (awp_region ?_)))
 refine sq rfl rfl hn rfl (q_move rfl rfl) ?_
 refine sq rfl rfl hn rfl (q_move rfl rfl) ?_
 refine stepW (s_call [] (fun _ => IndexFunc_byte l p g fi ca hp) rfl (guard_none rfl) rfl (nb hn rfl) (fun _ => trivial) rfl rfl (.refl _)) fun _ => ?_
 refine sq rfl rfl hn rfl (q_geq rfl rfl rfl) ?_
 refine sq rfl rfl hn rfl (q_assign rfl rfl) ?_
 refine run_nil (aend_then (awp_ret ?_))
 refine ret_eq (ret_1 (.inl rfl) hl rfl (.tmp rfl)) ?_
 rw [idxOf_nonneg]
theorem all1_byte (x : UInt8) (b : Bool) (g : FuncId) (fi ca : List D) (hp : PureAt Tryz.prog g (fi ++ [.int .u8 (x.toNat : Int)] ++ ca) (.bool b)) : PureAt Tryz.prog 137 [.int .u8 (x.toNat : Int), .ptr [.fn (.func g) fi ca]] (.bool (!b)) := by
 refine PureAt.of_awp Tryz.func137 rfl (by kernel_rfl) (Nat.le_of_ble_eq_true rfl) fun Γ hn hl => ?_
 refine awp_seq (awp_region ?_)
 refine sq rfl rfl hn rfl (q_assign rfl rfl) ?_
 refine run_nil (aend_then (awp_seq (awp_region ?_)))
 refine sq rfl rfl hn rfl (q_loadp rfl rfl Tryz.underlying205 rfl seesF0) ?_
 refine sq rfl rfl hn rfl (q_move rfl rfl) ?_
 refine stepW (s_call [] (fun _ => hp) rfl (guard_none rfl) rfl (nb hn rfl) (fun _ => trivial) rfl rfl (.refl _)) fun _ => ?_
 refine sq rfl rfl hn rfl (q_not rfl rfl) ?_
 refine sq rfl rfl hn rfl (q_assign rfl rfl) ?_
 refine run_nil (aend_then (awp_ret ?_))
 exact ret_1 (.inl rfl) hl rfl (.tmp rfl)
theorem all_byte (l : List UInt8) (p : UInt8 → Bool) (g : FuncId) (fi ca : List D) (hp : ∀ x ∈ l, PureAt Tryz.prog g (fi ++ [.int .u8 (x.toNat : Int)] ++ ca) (.bool (p x))) : PureAt Tryz.prog 124 [bytesD l, .fn (.func g) fi ca] (.bool (l.all p)) := by
 refine PureAt.of_awp Tryz.func124 rfl (by kernel_rfl) (Nat.le_of_ble_eq_true rfl) fun Γ hn hl => ?_
 refine awp_seq (awp_region ?_)
 refine stepW (s_box 3 rfl rfl rfl (nb hn rfl) rfl rfl) fun b3 => ?_
 refine sq rfl rfl hn rfl (q_assign rfl rfl) ?_
 refine run_nil (aend_then (awp_seq (awp_region ?_)))
 refine sq rfl rfl hn rfl (q_move rfl rfl) ?_
 refine gh_run (g_freeze (t := 3) 3 rfl (nb hn rfl) rfl rfl trivial) ?_
 refine sq rfl rfl hn rfl (q_makeFuncd rfl rfl rfl) ?_
 refine stepW (s_call [] (fun _ => ContainsFunc_byte l (fun x => !p x) _ [] [.ptr [.fn (.func g) fi ca]] (fun x hx => all1_byte x _ g fi ca (hp x hx))) rfl (guard_none rfl) rfl (nb hn rfl) (fun _ => trivial) rfl rfl (.refl _)) fun _ => ?_
 refine sq rfl rfl hn rfl (q_not rfl rfl) ?_
 refine sq rfl rfl hn rfl (q_assign rfl rfl) ?_
 refine run_nil (aend_then (awp_ret ?_))
 refine ret_eq (ret_1 (.inl rfl) hl rfl (.tmp rfl)) ?_
 rw [List.all_eq_not_any_not]
theorem IndexFunc_stk (l : List Stk) (p : Stk → Bool) (g : FuncId) (fi ca : List D) (hp : ∀ x ∈ l, PureAt Tryz.prog g (fi ++ [.agg (stkE x)] ++ ca) (.bool (p x))) : PureAt Tryz.prog 121 [stksD l, .fn (.func g) fi ca] (.int .i64 (idxOf p l)) := by
 refine PureAt.of_awp' Tryz.func121 rfl (by kernel_rfl) rfl fun hlen Γ hn hl => ?_
 have hl5 := hlen.1; simp only [List.length_map] at hl5
 refine awp_seq (awp_region ?_)
 refine sq rfl rfl hn rfl (q_assign rfl rfl) ?_
 refine run_nil (aend_then (awp_seq (awp_seq (awp_region ?_))))
 refine sq rfl rfl hn rfl (q_move rfl rfl) ?_
 refine sq rfl rfl hn rfl (q_len rfl rfl Tryz.underlying31) ?_
 refine sq rfl rfl hn rfl (q_move rfl rfl) ?_
 refine run_nil (aend_then (awp_block ?_))
 refine awp_loop_on (ι := { i : Nat // i ≤ l.length ∧ (l.take i).all (fun x => !p x) = true }) (fun i => (8, true, .d (.int .i64 (i.1 : Int))) :: anys [9, 10, 5, 11, 12, 13, 14, 15, 16, 18]) (fun i => []) (fun i => l.length - i.1) ⟨0, by simp⟩ ⟨.inl rfl, holdT_anys _⟩ trivial ?_
 rintro ⟨i, hi, hall⟩
 dsimp only
 refine awp_seq (awp_region ?_)
 refine sq rfl rfl hn rfl (q_lss rfl rfl rfl) ?_
 refine run_nil (aend_then (awp_seq ?_))
 refine awp_cond rfl (fun hb0 => ?_) (fun hb0 => ?_)
 ·
  try simp only [decide_eq_true_eq, decide_eq_false_iff_not, Bool.and_eq_true, Bool.or_eq_true, Bool.and_eq_false_iff, Bool.or_eq_false_iff, Bool.not_eq_true', Bool.not_eq_false', beq_iff_eq, bne_iff_ne, ne_eq, beq_eq_false_iff_ne, bne_eq_false_iff_eq, Int.not_lt, Int.not_le] at hb0
  have hlt : i < l.length := by simpa using hb0
  obtain ⟨x, hx⟩ := ex_get hlt
  refine awp_skip (aend_then (awp_seq (awp_block (awp_seq (awp_region ?_)))))
  refine sq rfl rfl hn rfl (q_move rfl rfl) ?_
  refine sq rfl rfl hn rfl (q_assign rfl rfl) ?_
  refine run_nil (aend_then (awp_seq (awp_region ?_)))
  refine sq rfl rfl hn rfl (q_move rfl rfl) ?_
  refine sq rfl rfl hn rfl (q_move rfl rfl) ?_
  refine sq rfl rfl hn rfl (q_move rfl rfl) ?_
  refine sq rfl rfl hn rfl (q_index rfl rfl rfl Tryz.underlying31 sz117 rfl (mget hx)) ?_
  refine sq rfl rfl hn rfl (q_loadpA rfl rfl Tryz.underlying117 rfl sz117 rfl rfl seesF0) ?_
  refine stepW (s_call [] (fun _ => hp x (List.mem_of_getElem? hx)) rfl (guard_none rfl) rfl (nb hn rfl) (fun _ => trivial) rfl rfl (.refl _)) fun _ => ?_
  refine run_nil (aend_then ?_)
  refine awp_cond rfl (fun hb1 => ?_) (fun hb1 => ?_)
  ·
   try simp only [decide_eq_true_eq, decide_eq_false_iff_not, Bool.and_eq_true, Bool.or_eq_true, Bool.and_eq_false_iff, Bool.or_eq_false_iff, Bool.not_eq_true', Bool.not_eq_false', beq_iff_eq, bne_iff_ne, ne_eq, beq_eq_false_iff_ne, bne_eq_false_iff_eq, Int.not_lt, Int.not_le] at hb1
   refine awp_seq (awp_region ?_)
   refine sq rfl rfl hn rfl (q_move rfl rfl) ?_
   refine sq rfl rfl hn rfl (q_assign rfl rfl) ?_
   refine run_nil (aend_then (awp_ret (aend_block_ret (aend_then_ret (aend_then_ret (aend_block_ret (aend_then_ret ?_)))))))
   refine ret_eq (ret_1 (.inl rfl) hl rfl (.tmp rfl)) ?_
   rw [idxOf_hit hx hall (by simpa using hb1)]
  ·
   try simp only [decide_eq_true_eq, decide_eq_false_iff_not, Bool.and_eq_true, Bool.or_eq_true, Bool.and_eq_false_iff, Bool.or_eq_false_iff, Bool.not_eq_true', Bool.not_eq_false', beq_iff_eq, bne_iff_ne, ne_eq, beq_eq_false_iff_ne, bne_eq_false_iff_eq, Int.not_lt, Int.not_le] at hb1
   refine awp_skip (aend_block (aend_then (awp_region ?_)))
   refine sq rfl rfl hn rfl (q_add rfl rfl rfl (r := ((i + 1 : Nat) : Int)) (i64w (by omega) (by omega))) ?_
   refine sq rfl rfl hn rfl (q_move rfl rfl) ?_
   refine run_nil ?_
   exact aend_round_on ⟨i + 1, by omega, take_all_succ hx hall (by simp [hb1])⟩ ⟨.inl rfl, holdT_anys _⟩ trivial (by simp only; omega) (by repeat (first | exact kr _ | refine kc rfl ?_)) (by repeat (first | exact kr _ | refine kc rfl ?_))
 ·
  try simp only [decide_eq_true_eq, decide_eq_false_iff_not, Bool.and_eq_true, Bool.or_eq_true, Bool.and_eq_false_iff, Bool.or_eq_false_iff, Bool.not_eq_true', Bool.not_eq_false', beq_iff_eq, bne_iff_ne, ne_eq, beq_eq_false_iff_ne, bne_eq_false_iff_eq, Int.not_lt, Int.not_le] at hb0
  refine awp_exit (aend_then_exit (aend_then_exit (aend_block_exit (aend_then (awp_seq (awp_region ?_))))))
  refine sq rfl rfl hn rfl (q_assign rfl rfl) ?_
  refine run_nil (aend_then (awp_ret ?_))
  refine ret_eq (ret_1 (.inl rfl) hl rfl (.tmp rfl)) ?_
  have hi2 : i = l.length := by simp only [List.length_map] at hb0; omega
  subst hi2; rw [List.take_length] at hall; rw [idxOf_miss hall]
theorem ContainsFunc_stk (l : List Stk) (p : Stk → Bool) (g : FuncId) (fi ca : List D) (hp : ∀ x ∈ l, PureAt Tryz.prog g (fi ++ [.agg (stkE x)] ++ ca) (.bool (p x))) : PureAt Tryz.prog 98 [stksD l, .fn (.func g) fi ca] (.bool (l.any p)) := by
 refine PureAt.of_awp Tryz.func98 rfl (by kernel_rfl) (Nat.le_of_ble_eq_true rfl) fun Γ hn hl => ?_
 refine awp_seq (awp_region ?_)
 refine sq rfl rfl hn rfl (q_assign rfl rfl) ?_
 refine run_nil (aend_then (awp_seq (awp_region ?_)))
 refine sq rfl rfl hn rfl (q_move rfl rfl) ?_
 refine sq rfl rfl hn rfl (q_move rfl rfl) ?_
 refine stepW (s_call [] (fun _ => IndexFunc_stk l p g fi ca hp) rfl (guard_none rfl) rfl (nb hn rfl) (fun _ => trivial) rfl rfl (.refl _)) fun _ => ?_
 refine sq rfl rfl hn rfl (q_geq rfl rfl rfl) ?_
 refine sq rfl rfl hn rfl (q_assign rfl rfl) ?_
 refine run_nil (aend_then (awp_ret ?_))
 refine ret_eq (ret_1 (.inl rfl) hl rfl (.tmp rfl)) ?_
 rw [idxOf_nonneg]
theorem all1_stk (x : Stk) (b : Bool) (g : FuncId) (fi ca : List D) (hp : PureAt Tryz.prog g (fi ++ [.agg (stkE x)] ++ ca) (.bool b)) : PureAt Tryz.prog 99 [.agg (stkE x), .ptr [.fn (.func g) fi ca]] (.bool (!b)) := by
 refine PureAt.of_awp Tryz.func99 rfl (by kernel_rfl) (Nat.le_of_ble_eq_true rfl) fun Γ hn hl => ?_
 refine awp_seq (awp_region ?_)
 refine stepW (s_box 2 rfl rfl rfl (nb hn rfl) rfl rfl) fun b2 => ?_
 refine sq rfl rfl hn rfl (q_assign rfl rfl) ?_
 refine run_nil (aend_then (awp_seq (awp_region ?_)))
 refine sq rfl rfl hn rfl (q_loadp rfl rfl Tryz.underlying134 rfl seesF0) ?_
 refine sq rfl rfl hn rfl (q_loadAd rfl rfl (id := 2) rfl Tryz.underlying117 rfl sz117 rfl rfl sees0) ?_
 refine stepW (s_call [] (fun _ => hp) rfl (guard_none rfl) rfl (nb hn rfl) (fun _ => trivial) rfl rfl (.refl _)) fun _ => ?_
 refine sq rfl rfl hn rfl (q_not rfl rfl) ?_
 refine sq rfl rfl hn rfl (q_assign rfl rfl) ?_
 refine run_nil (aend_then (awp_ret ?_))
 exact ret_1 (.inl rfl) hl rfl (.tmp rfl)
theorem all_stk (l : List Stk) (p : Stk → Bool) (g : FuncId) (fi ca : List D) (hp : ∀ x ∈ l, PureAt Tryz.prog g (fi ++ [.agg (stkE x)] ++ ca) (.bool (p x))) : PureAt Tryz.prog 66 [stksD l, .fn (.func g) fi ca] (.bool (l.all p)) := by
 refine PureAt.of_awp Tryz.func66 rfl (by kernel_rfl) (Nat.le_of_ble_eq_true rfl) fun Γ hn hl => ?_
 refine awp_seq (awp_region ?_)
 refine stepW (s_box 3 rfl rfl rfl (nb hn rfl) rfl rfl) fun b3 => ?_
 refine sq rfl rfl hn rfl (q_assign rfl rfl) ?_
 refine run_nil (aend_then (awp_seq (awp_region ?_)))
 refine sq rfl rfl hn rfl (q_move rfl rfl) ?_
 refine gh_run (g_freeze (t := 3) 3 rfl (nb hn rfl) rfl rfl trivial) ?_
 refine sq rfl rfl hn rfl (q_makeFuncd rfl rfl rfl) ?_
 refine stepW (s_call [] (fun _ => ContainsFunc_stk l (fun x => !p x) _ [] [.ptr [.fn (.func g) fi ca]] (fun x hx => all1_stk x _ g fi ca (hp x hx))) rfl (guard_none rfl) rfl (nb hn rfl) (fun _ => trivial) rfl rfl (.refl _)) fun _ => ?_
 refine sq rfl rfl hn rfl (q_not rfl rfl) ?_
 refine sq rfl rfl hn rfl (q_assign rfl rfl) ?_
 refine run_nil (aend_then (awp_ret ?_))
 refine ret_eq (ret_1 (.inl rfl) hl rfl (.tmp rfl)) ?_
 rw [List.all_eq_not_any_not]
theorem IndexFunc_rng (l : List (Int × Int)) (p : (Int × Int) → Bool) (g : FuncId) (fi ca : List D) (hp : ∀ x ∈ l, PureAt Tryz.prog g (fi ++ [rngD x] ++ ca) (.bool (p x))) : PureAt Tryz.prog 138 [rngsD l, .fn (.func g) fi ca] (.int .i64 (idxOf p l)) := by
 refine PureAt.of_awp' Tryz.func138 rfl (by kernel_rfl) rfl fun hlen Γ hn hl => ?_
 have hl5 := hlen.1; simp only [List.length_map] at hl5
 refine awp_seq (awp_region ?_)
 refine sq rfl rfl hn rfl (q_assign rfl rfl) ?_
 refine run_nil (aend_then (awp_seq (awp_seq (awp_region ?_))))
 refine sq rfl rfl hn rfl (q_move rfl rfl) ?_
 refine sq rfl rfl hn rfl (q_len rfl rfl Tryz.underlying48) ?_
 refine sq rfl rfl hn rfl (q_move rfl rfl) ?_
 refine run_nil (aend_then (awp_block ?_))
 refine awp_loop_on (ι := { i : Nat // i ≤ l.length ∧ (l.take i).all (fun x => !p x) = true }) (fun i => (8, true, .d (.int .i64 (i.1 : Int))) :: anys [9, 10, 5, 11, 12, 13, 14, 15, 16, 18]) (fun i => []) (fun i => l.length - i.1) ⟨0, by simp⟩ ⟨.inl rfl, holdT_anys _⟩ trivial ?_
 rintro ⟨i, hi, hall⟩
 dsimp only
 refine awp_seq (awp_region ?_)
 refine sq rfl rfl hn rfl (q_lss rfl rfl rfl) ?_
 refine run_nil (aend_then (awp_seq ?_))
 refine awp_cond rfl (fun hb0 => ?_) (fun hb0 => ?_)
 ·
  try simp only [decide_eq_true_eq, decide_eq_false_iff_not, Bool.and_eq_true, Bool.or_eq_true, Bool.and_eq_false_iff, Bool.or_eq_false_iff, Bool.not_eq_true', Bool.not_eq_false', beq_iff_eq, bne_iff_ne, ne_eq, beq_eq_false_iff_ne, bne_eq_false_iff_eq, Int.not_lt, Int.not_le] at hb0
  have hlt : i < l.length := by simpa using hb0
  obtain ⟨x, hx⟩ := ex_get hlt
  refine awp_skip (aend_then (awp_seq (awp_block (awp_seq (awp_region ?_)))))
  refine sq rfl rfl hn rfl (q_move rfl rfl) ?_
  refine sq rfl rfl hn rfl (q_assign rfl rfl) ?_
  refine run_nil (aend_then (awp_seq (awp_region ?_)))
  refine sq rfl rfl hn rfl (q_move rfl rfl) ?_
  refine sq rfl rfl hn rfl (q_move rfl rfl) ?_
  refine sq rfl rfl hn rfl (q_move rfl rfl) ?_
  refine sq rfl rfl hn rfl (q_index rfl rfl rfl Tryz.underlying48 sz45 rfl (mget hx)) ?_
  refine sq rfl rfl hn rfl (q_loadpA rfl rfl Tryz.underlying45 rfl sz45 rfl rfl seesF0) ?_
  refine stepW (s_call [] (fun _ => hp x (List.mem_of_getElem? hx)) rfl (guard_none rfl) rfl (nb hn rfl) (fun _ => trivial) rfl rfl (.refl _)) fun _ => ?_
  refine run_nil (aend_then ?_)
  refine awp_cond rfl (fun hb1 => ?_) (fun hb1 => ?_)
  ·
   try simp only [decide_eq_true_eq, decide_eq_false_iff_not, Bool.and_eq_true, Bool.or_eq_true, Bool.and_eq_false_iff, Bool.or_eq_false_iff, Bool.not_eq_true', Bool.not_eq_false', beq_iff_eq, bne_iff_ne, ne_eq, beq_eq_false_iff_ne, bne_eq_false_iff_eq, Int.not_lt, Int.not_le] at hb1
   refine awp_seq (awp_region ?_)
   refine sq rfl rfl hn rfl (q_move rfl rfl) ?_
   refine sq rfl rfl hn rfl (q_assign rfl rfl) ?_
   refine run_nil (aend_then (awp_ret (aend_block_ret (aend_then_ret (aend_then_ret (aend_block_ret (aend_then_ret ?_)))))))
   refine ret_eq (ret_1 (.inl rfl) hl rfl (.tmp rfl)) ?_
   rw [idxOf_hit hx hall (by simpa using hb1)]
  ·
   try simp only [decide_eq_true_eq, decide_eq_false_iff_not, Bool.and_eq_true, Bool.or_eq_true, Bool.and_eq_false_iff, Bool.or_eq_false_iff, Bool.not_eq_true', Bool.not_eq_false', beq_iff_eq, bne_iff_ne, ne_eq, beq_eq_false_iff_ne, bne_eq_false_iff_eq, Int.not_lt, Int.not_le] at hb1
   refine awp_skip (aend_block (aend_then (awp_region ?_)))
   refine sq rfl rfl hn rfl (q_add rfl rfl rfl (r := ((i + 1 : Nat) : Int)) (i64w (by omega) (by omega))) ?_
   refine sq rfl rfl hn rfl (q_move rfl rfl) ?_
   refine run_nil ?_
   exact aend_round_on ⟨i + 1, by omega, take_all_succ hx hall (by simp [hb1])⟩ ⟨.inl rfl, holdT_anys _⟩ trivial (by simp only; omega) (by repeat (first | exact kr _ | refine kc rfl ?_)) (by repeat (first | exact kr _ | refine kc rfl ?_))
 ·
  try simp only [decide_eq_true_eq, decide_eq_false_iff_not, Bool.and_eq_true, Bool.or_eq_true, Bool.and_eq_false_iff, Bool.or_eq_false_iff, Bool.not_eq_true', Bool.not_eq_false', beq_iff_eq, bne_iff_ne, ne_eq, beq_eq_false_iff_ne, bne_eq_false_iff_eq, Int.not_lt, Int.not_le] at hb0
  refine awp_exit (aend_then_exit (aend_then_exit (aend_block_exit (aend_then (awp_seq (awp_region ?_))))))
  refine sq rfl rfl hn rfl (q_assign rfl rfl) ?_
  refine run_nil (aend_then (awp_ret ?_))
  refine ret_eq (ret_1 (.inl rfl) hl rfl (.tmp rfl)) ?_
  have hi2 : i = l.length := by simp only [List.length_map] at hb0; omega
  subst hi2; rw [List.take_length] at hall; rw [idxOf_miss hall]
theorem ContainsFunc_rng (l : List (Int × Int)) (p : (Int × Int) → Bool) (g : FuncId) (fi ca : List D) (hp : ∀ x ∈ l, PureAt Tryz.prog g (fi ++ [rngD x] ++ ca) (.bool (p x))) : PureAt Tryz.prog 127 [rngsD l, .fn (.func g) fi ca] (.bool (l.any p)) := by
 refine PureAt.of_awp Tryz.func127 rfl (by kernel_rfl) (Nat.le_of_ble_eq_true rfl) fun Γ hn hl => ?_
 refine awp_seq (awp_region ?_)
 refine sq rfl rfl hn rfl (q_assign rfl rfl) ?_
 refine run_nil (aend_then (awp_seq (awp_region ?_)))
 refine sq rfl rfl hn rfl (q_move rfl rfl) ?_
 refine sq rfl rfl hn rfl (q_move rfl rfl) ?_
 refine stepW (s_call [] (fun _ => IndexFunc_rng l p g fi ca hp) rfl (guard_none rfl) rfl (nb hn rfl) (fun _ => trivial) rfl rfl (.refl _)) fun _ => ?_
 refine sq rfl rfl hn rfl (q_geq rfl rfl rfl) ?_
 refine sq rfl rfl hn rfl (q_assign rfl rfl) ?_
 refine run_nil (aend_then (awp_ret ?_))
 refine ret_eq (ret_1 (.inl rfl) hl rfl (.tmp rfl)) ?_
 rw [idxOf_nonneg]
theorem all1_rng (x : (Int × Int)) (b : Bool) (g : FuncId) (fi ca : List D) (hp : PureAt Tryz.prog g (fi ++ [rngD x] ++ ca) (.bool b)) : PureAt Tryz.prog 128 [rngD x, .ptr [.fn (.func g) fi ca]] (.bool (!b)) := by
 refine PureAt.of_awp Tryz.func128 rfl (by kernel_rfl) (Nat.le_of_ble_eq_true rfl) fun Γ hn hl => ?_
 refine awp_seq (awp_region ?_)
 refine stepW (s_box 2 rfl rfl rfl (nb hn rfl) rfl rfl) fun b2 => ?_
 refine sq rfl rfl hn rfl (q_assign rfl rfl) ?_
 refine run_nil (aend_then (awp_seq (awp_region ?_)))
 refine sq rfl rfl hn rfl (q_loadp rfl rfl Tryz.underlying180 rfl seesF0) ?_
 refine sq rfl rfl hn rfl (q_loadAd rfl rfl (id := 2) rfl Tryz.underlying45 rfl sz45 rfl rfl sees0) ?_
 refine stepW (s_call [] (fun _ => hp) rfl (guard_none rfl) rfl (nb hn rfl) (fun _ => trivial) rfl rfl (.refl _)) fun _ => ?_
 refine sq rfl rfl hn rfl (q_not rfl rfl) ?_
 refine sq rfl rfl hn rfl (q_assign rfl rfl) ?_
 refine run_nil (aend_then (awp_ret ?_))
 exact ret_1 (.inl rfl) hl rfl (.tmp rfl)
theorem all_rng (l : List (Int × Int)) (p : (Int × Int) → Bool) (g : FuncId) (fi ca : List D) (hp : ∀ x ∈ l, PureAt Tryz.prog g (fi ++ [rngD x] ++ ca) (.bool (p x))) : PureAt Tryz.prog 102 [rngsD l, .fn (.func g) fi ca] (.bool (l.all p)) := by
 refine PureAt.of_awp Tryz.func102 rfl (by kernel_rfl) (Nat.le_of_ble_eq_true rfl) fun Γ hn hl => ?_
 refine awp_seq (awp_region ?_)
 refine stepW (s_box 3 rfl rfl rfl (nb hn rfl) rfl rfl) fun b3 => ?_
 refine sq rfl rfl hn rfl (q_assign rfl rfl) ?_
 refine run_nil (aend_then (awp_seq (awp_region ?_)))
 refine sq rfl rfl hn rfl (q_move rfl rfl) ?_
 refine gh_run (g_freeze (t := 3) 3 rfl (nb hn rfl) rfl rfl trivial) ?_
 refine sq rfl rfl hn rfl (q_makeFuncd rfl rfl rfl) ?_
 refine stepW (s_call [] (fun _ => ContainsFunc_rng l (fun x => !p x) _ [] [.ptr [.fn (.func g) fi ca]] (fun x hx => all1_rng x _ g fi ca (hp x hx))) rfl (guard_none rfl) rfl (nb hn rfl) (fun _ => trivial) rfl rfl (.refl _)) fun _ => ?_
 refine sq rfl rfl hn rfl (q_not rfl rfl) ?_
 refine sq rfl rfl hn rfl (q_assign rfl rfl) ?_
 refine run_nil (aend_then (awp_ret ?_))
 refine ret_eq (ret_1 (.inl rfl) hl rfl (.tmp rfl)) ?_
 rw [List.all_eq_not_any_not]
theorem named_ok (s : List UInt8) (h5 : s.length ≤ 140737488355328) : PureAt Tryz.prog 96 [strD s] (.bool (namedB s)) := by
 refine PureAt.of_awp Tryz.func96 rfl (by kernel_rfl) (Nat.le_of_ble_eq_true rfl) fun Γ hn hl => ?_
 refine awp_seq (awp_region ?_)
 refine sq rfl rfl hn rfl (q_assign rfl rfl) ?_
 refine run_nil (aend_then (awp_seq (awp_region ?_)))
 refine sq rfl rfl hn rfl (q_move rfl rfl) ?_
 refine sq rfl rfl hn rfl (q_lenS rfl rfl Tryz.underlying9) ?_
 refine stepW (s_call [] (fun _ => within_ok _ _ _) rfl (guard_none rfl) rfl (nb hn rfl) (fun _ => trivial) rfl rfl (.refl _)) fun _ => ?_
 refine sq rfl rfl hn rfl (q_move rfl rfl) ?_
 refine stepG [] (guard_some rfl rfl rfl) rfl (nb hn rfl) (fun hc => trivial) (fun hc => q_move rfl rfl) ?_
 refine stepW (s_guardL [(7, _)] (guard_some rfl rfl rfl) rfl (nb hn rfl) (fun hc => ⟨⟨_, rfl, hc⟩, trivial⟩) (fun hc => s_bytesOf rfl rfl rfl (nb hn rfl) rfl Tryz.underlying9 Tryz.underlying167 Tryz.underlying5 (by simp only [maxLen]; omega))) fun _ => ?_
 refine stepW (s_call [(8, _)] (fun hc => all_byte s letterB 125 [] [] (fun x _ => letter_ok x)) rfl (guard_some rfl rfl rfl) rfl (nb hn rfl) (fun hc => ⟨⟨_, rfl, hc⟩, trivial⟩) rfl rfl (.refl _)) fun _ => ?_
 refine sq rfl rfl hn rfl (q_and rfl rfl rfl (by intro hB; first | (rw [hB]; rfl) | (rw [hB, hc]; rfl) | simp_all)) ?_
 refine sq rfl rfl hn rfl (q_assign rfl rfl) ?_
 refine run_nil (aend_then (awp_ret ?_))
 exact ret_1 (.inl rfl) hl rfl (.tmp rfl)
theorem spans_ok (r : Int × Int) (a b : Int) : PureAt Tryz.prog 97 [rngD r, .int .i64 a, .int .i64 b] (.bool (spansB r.1 r.2 a b)) := by
 refine PureAt.of_awp Tryz.func97 rfl (by kernel_rfl) (Nat.le_of_ble_eq_true rfl) fun Γ hn hl => ?_
 refine awp_seq (awp_region ?_)
 refine stepW (s_box 3 rfl rfl rfl (nb hn rfl) rfl rfl) fun b3 => ?_
 refine sq rfl rfl hn rfl (q_assign rfl rfl) ?_
 refine run_nil (aend_then (awp_seq (awp_region ?_)))
 refine sq rfl rfl hn rfl (q_move rfl rfl) ?_
 refine sq rfl rfl hn rfl (q_fieldAddr rfl rfl Tryz.underlying45 rfl sz3) ?_
 refine sq rfl rfl hn rfl (q_load rfl rfl (id := 3) rfl Tryz.underlying3 rfl rfl sees0) ?_
 refine sq rfl rfl hn rfl (q_leq rfl rfl rfl) ?_
 refine sq rfl rfl hn rfl (q_move rfl rfl) ?_
 refine stepG [] (guard_some rfl rfl rfl) rfl (nb hn rfl) (fun hc => trivial) (fun hc => q_fieldAddr rfl rfl Tryz.underlying45 rfl sz3) ?_
 refine stepG [(12, _)] (guard_some rfl rfl rfl) rfl (nb hn rfl) (fun hc => ⟨⟨_, rfl, hc⟩, trivial⟩) (fun hc => q_load rfl rfl (id := 3) rfl Tryz.underlying3 rfl rfl sees0) ?_
 refine stepG [] (guard_some rfl rfl rfl) rfl (nb hn rfl) (fun hc => trivial) (fun hc => q_fieldAddr rfl rfl Tryz.underlying45 rfl sz3) ?_
 refine stepG [(14, _)] (guard_some rfl rfl rfl) rfl (nb hn rfl) (fun hc => ⟨⟨_, rfl, hc⟩, trivial⟩) (fun hc => q_load rfl rfl (id := 3) rfl Tryz.underlying3 rfl rfl sees0) ?_
 refine stepG [(13, _), (15, _)] (guard_some rfl rfl rfl) rfl (nb hn rfl) (fun hc => ⟨⟨_, rfl, hc⟩, ⟨_, rfl, hc⟩, trivial⟩) (fun hc => q_leq rfl rfl rfl) ?_
 refine sq rfl rfl hn rfl (q_and rfl rfl rfl (by intro hB; first | (rw [hB]; rfl) | (rw [hB, hc]; rfl) | simp_all)) ?_
 refine sq rfl rfl hn rfl (q_move rfl rfl) ?_
 refine stepG [] (guard_some rfl rfl rfl) rfl (nb hn rfl) (fun hc => trivial) (fun hc => q_fieldAddr rfl rfl Tryz.underlying45 rfl sz3) ?_
 refine stepG [(19, _)] (guard_some rfl rfl rfl) rfl (nb hn rfl) (fun hc => ⟨⟨_, rfl, hc⟩, trivial⟩) (fun hc => q_load rfl rfl (id := 3) rfl Tryz.underlying3 rfl rfl sees0) ?_
 refine stepG [] (guard_some rfl rfl rfl) rfl (nb hn rfl) (fun hc => trivial) (fun hc => q_move rfl rfl) ?_
 refine stepG [(20, _), (21, _)] (guard_some rfl rfl rfl) rfl (nb hn rfl) (fun hc => ⟨⟨_, rfl, hc⟩, ⟨_, rfl, hc⟩, trivial⟩) (fun hc => q_leq rfl rfl rfl) ?_
 refine sq rfl rfl hn rfl (q_and rfl rfl rfl (by intro hB; first | (rw [hB]; rfl) | (rw [hB, hc]; rfl) | simp_all)) ?_
 refine sq rfl rfl hn rfl (q_assign rfl rfl) ?_
 refine run_nil (aend_then (awp_ret ?_))
 exact ret_1 (.inl rfl) hl rfl (.tmp rfl)
theorem rhas_ok (r : Int × Int) (n : Int) : PureAt Tryz.prog 72 [rngD r, .int .i64 n] (.bool (withinB n r.1 r.2)) := by
 refine PureAt.of_awp Tryz.func72 rfl (by kernel_rfl) (Nat.le_of_ble_eq_true rfl) fun Γ hn hl => ?_
 refine awp_seq (awp_region ?_)
 refine stepW (s_box 2 rfl rfl rfl (nb hn rfl) rfl rfl) fun b2 => ?_
 refine sq rfl rfl hn rfl (q_assign rfl rfl) ?_
 refine run_nil (aend_then (awp_seq (awp_region ?_)))
 refine sq rfl rfl hn rfl (q_move rfl rfl) ?_
 refine sq rfl rfl hn rfl (q_fieldAddr rfl rfl Tryz.underlying45 rfl sz3) ?_
 refine sq rfl rfl hn rfl (q_load rfl rfl (id := 2) rfl Tryz.underlying3 rfl rfl sees0) ?_
 refine sq rfl rfl hn rfl (q_fieldAddr rfl rfl Tryz.underlying45 rfl sz3) ?_
 refine sq rfl rfl hn rfl (q_load rfl rfl (id := 2) rfl Tryz.underlying3 rfl rfl sees0) ?_
 refine stepW (s_call [] (fun _ => within_ok _ _ _) rfl (guard_none rfl) rfl (nb hn rfl) (fun _ => trivial) rfl rfl (.refl _)) fun _ => ?_
 refine sq rfl rfl hn rfl (q_assign rfl rfl) ?_
 refine run_nil (aend_then (awp_ret ?_))
 exact ret_1 (.inl rfl) hl rfl (.tmp rfl)
theorem between_ok (a b : Int) : PureAt Tryz.prog 50 [.int .i64 a, .int .i64 b] (rngD (a, b)) := by
 refine PureAt.of_awp Tryz.func50 rfl (by kernel_rfl) (Nat.le_of_ble_eq_true rfl) fun Γ hn hl => ?_
 refine awp_seq (awp_region ?_)
 refine stepW (s_alloc 4 rfl rfl rfl (nb hn rfl) zr45 rfl rfl) fun b4 => ?_
 refine run_nil (aend_then (awp_seq (awp_region ?_)))
 refine sq rfl rfl hn rfl (q_move rfl rfl) ?_
 refine sq rfl rfl hn rfl (q_move rfl rfl) ?_
 refine sq rfl rfl hn rfl (q_buildd rfl bt45 rfl rfl rfl rfl rfl) ?_
 refine stepW (s_store rfl rfl rfl rfl rfl rfl (id := 4) rfl sz45 rfl (Nat.le_of_ble_eq_true rfl) rfl trivial) fun _ => ?_
 refine run_nil (aend_then (awp_ret ?_))
 exact ret_1 (.inl rfl) hl rfl (.cellA rfl (id := 4) rfl Tryz.underlying45 rfl sz45 rfl rfl)
end Go.Proofs.YtplpcamcnppibaaGreatDoor
namespace Go.Proofs.YtplpcamcnppibaaGreatDoor
open Go.RowKit
set_option maxRecDepth 20000
set_option linter.all false
def eqN (s o : Stk) : Bool := o.name == s.name
def stockB (b : Brd) (s : Stk) : Bool := ((b.stocks.countP (eqN s) : Int) == 1) && namedB s.name && spansB s.lo s.hi 1 799
def limT (b : Brd) : Bool := decide (4 < (b.stocks.length : Int))
def argT (b : Brd) : Bool := ((b.stocks.length : Int) == 0) || !(withinB b.jump 0 40) || !(withinB b.small 1 9) || !(b.stocks.all (stockB b))
def checkT (b : Brd) : Int := bif limT b then 3 else bif argT b then 1 else 0
/-- What the rows know of names' lengths. -/
def NamesOK (b : Brd) : Prop := ∀ s ∈ b.stocks, s.name.length ≤ 140737488355328
theorem countP_take {l : List Stk} {p : Stk → Bool} {i : Nat} {x : Stk} (h : l[i]? = some x) : (l.take (i + 1)).countP p = (l.take i).countP p + (if p x then 1 else 0) := by
  rw [List.take_add_one, h]
  simp [List.countP_append, List.countP_cons]
theorem countP_le_n {l : List Stk} {p : Stk → Bool} {i : Nat} : (l.take i).countP p ≤ i := Nat.le_trans List.countP_le_length (by simp; omega)
theorem checkT_of {b : Brd} (h : limT b = false) (k : argT b = true) : checkT b = 1 := by simp [checkT, h, k]
theorem checkT_3 {b : Brd} (h : limT b = true) : checkT b = 3 := by simp [checkT, h]
theorem checkT_0 {b : Brd} (h : limT b = false) (k : argT b = false) : checkT b = 0 := by simp [checkT, h, k]
def twoB : Brd := ⟨[⟨[65, 66], 300, 310⟩, ⟨[67], 75, 79⟩], 10, 4⟩
theorem sz4 : Sz Tryz.prog 4 1 := (by kernel_rfl : (Tryz.prog.info? 4).map (·.size) = some 1)
theorem sz9 : Sz Tryz.prog 9 1 := (by kernel_rfl : (Tryz.prog.info? 9).map (·.size) = some 1)
theorem sz31 : Sz Tryz.prog 31 1 := (by kernel_rfl : (Tryz.prog.info? 31).map (·.size) = some 1)
theorem sz33 : Sz Tryz.prog 33 3 := (by kernel_rfl : (Tryz.prog.info? 33).map (·.size) = some 3)
theorem sz61 : Sz Tryz.prog 61 5 := (by kernel_rfl : (Tryz.prog.info? 61).map (·.size) = some 5)
theorem zr33 : (Tryz.prog.info? 33).map (·.zero) = some (some (.agg #[(.slice none 0 0), (.int .i64 0), (.int .i64 0)])) := by kernel_rfl
theorem zr61 : (Tryz.prog.info? 61).map (·.zero) = some (some (.agg #[(.int .i64 0), (.int .i64 0), (.int .i64 0), (.int .i64 0), (.int .i64 0)])) := by kernel_rfl
theorem zr117 : (Tryz.prog.info? 117).map (·.zero) = some (some (.agg #[(.string ⟨#[]⟩), (.int .i64 0), (.int .i64 0)])) := by kernel_rfl
theorem bt33 : BT Tryz.prog 33 (.agg #[(.slice none 0 0), (.int .i64 0), (.int .i64 0)]) (fun i => ([(0, 1), (1, 1), (2, 1)] : List (Nat × Nat))[i]?) := bt_struct Tryz.underlying33 zr33 (by kernel_rfl)
theorem bt61 : BT Tryz.prog 61 (.agg #[(.int .i64 0), (.int .i64 0), (.int .i64 0), (.int .i64 0), (.int .i64 0)]) (fun i => ([(0, 1), (1, 1), (2, 1), (3, 2)] : List (Nat × Nat))[i]?) := bt_struct Tryz.underlying61 zr61 (by kernel_rfl)
theorem bt117 : BT Tryz.prog 117 (.agg #[(.string ⟨#[]⟩), (.int .i64 0), (.int .i64 0)]) (fun i => ([(0, 1), (1, 2)] : List (Nat × Nat))[i]?) := bt_struct Tryz.underlying117 zr117 (by kernel_rfl)
theorem fmo : Tryz.prog.follows .mixedOrders = true := by kernel_rfl
theorem stock_ok (b : Brd) (s : Stk) (h5 : s.name.length ≤ 140737488355328) : PureAt Tryz.prog 64 [brdD b, .agg (stkE s)] (.bool (stockB b s)) := by
 refine PureAt.of_awp' Tryz.func64 rfl (by kernel_rfl) rfl fun hlen Γ hn hl => ?_
 have hl5 := hlen.1 3 (b.stocks.map stkE) (by simp)
 simp only [List.length_map] at hl5
 refine awp_seq (awp_region ?_)
 refine stepW (s_box 2 rfl rfl rfl (nb hn rfl) rfl rfl) fun b2 => ?_
 refine stepW (s_box 3 rfl rfl rfl (nb hn rfl) rfl rfl) fun b3 => ?_
 refine sq rfl rfl hn rfl (q_assign rfl rfl) ?_
 refine run_nil (aend_then (awp_seq (awp_region ?_)))
 refine sq rfl rfl hn rfl (q_assign rfl rfl) ?_
 refine run_nil (aend_then (awp_seq (awp_seq (awp_region ?_))))
 refine sq rfl rfl hn rfl (q_fieldAddr rfl rfl Tryz.underlying33 rfl sz31) ?_
 refine sq rfl rfl hn rfl (q_load rfl rfl (id := 2) rfl Tryz.underlying31 rfl rfl sees0) ?_
 refine sq rfl rfl hn rfl (q_len rfl rfl Tryz.underlying31) ?_
 refine sq rfl rfl hn rfl (q_move rfl rfl) ?_
 refine run_nil (aend_then (awp_block ?_))
 refine awp_loop_on (ι := {i : Nat // i ≤ b.stocks.length}) (fun x => (11, true, .d (.int .i64 (x.1 : Nat))) :: (5, true, .d (.int .i64 ((b.stocks.take x.1).countP (eqN s) : Nat))) :: anys [12, 13, 14, 7, 15, 16, 17, 18, 19, 20, 21, 22]) (fun x => gones [7]) (fun x => b.stocks.length - x.1) ⟨0, Nat.zero_le _⟩ ⟨.inl rfl, .inl rfl, holdT_anys _⟩ (holdR_gones _) ?_
 rintro ⟨i, hi⟩
 dsimp only
 refine awp_seq (awp_region ?_)
 refine sq rfl rfl hn rfl (q_lss rfl rfl rfl) ?_
 refine run_nil (aend_then (awp_seq ?_))
 refine awp_cond rfl (fun hb0 => ?_) (fun hb0 => ?_)
 ·
  have hlt : i < b.stocks.length := by simp at hb0; omega
  obtain ⟨o, ho⟩ := ex_get hlt
  have hcl := countP_le_n (l := b.stocks) (p := eqN s) (i := i)
  refine awp_skip (aend_then (awp_seq (awp_block (awp_seq (awp_region ?_)))))
  refine sq rfl rfl hn rfl (q_index (i := i) rfl rfl rfl Tryz.underlying31 sz117 rfl (mget ho)) ?_
  refine sq rfl rfl hn rfl (q_loadpA rfl rfl Tryz.underlying117 rfl sz117 rfl rfl seesF0) ?_
  refine stepW (s_alloc 7 rfl rfl rfl (nb hn rfl) zr117 rfl rfl) fun b7 => ?_
  refine stepW (s_store rfl rfl rfl rfl rfl rfl (id := 7) rfl sz117 rfl (Nat.le_of_ble_eq_true rfl) rfl trivial) fun _ => ?_
  refine run_nil (aend_then (awp_seq (awp_region ?_)))
  refine sq rfl rfl hn rfl (q_fieldAddr rfl rfl Tryz.underlying117 rfl sz9) ?_
  refine sq rfl rfl hn rfl (q_load rfl rfl (id := 7) rfl Tryz.underlying9 rfl rfl sees0) ?_
  refine sq rfl rfl hn rfl (q_fieldAddr rfl rfl Tryz.underlying117 rfl sz9) ?_
  refine sq rfl rfl hn rfl (q_load rfl rfl (id := 3) rfl Tryz.underlying9 rfl rfl sees0) ?_
  refine sq rfl rfl hn rfl (q_eqlS rfl rfl rfl) ?_
  refine run_nil (aend_then ?_)
  refine awp_join_on (e := .normal) (ι := Unit) (fun x => (5, true, .d (.int .i64 ((b.stocks.take (i + 1)).countP (eqN s) : Nat))) :: anys [20, 21]) (fun x => []) (fun hJ1 => ?_) ?_
  ·
   refine awp_cond rfl (fun hb1 => ?_) (fun hb1 => ?_)
   ·
    have hq5 : eqN s o = true := hb1
    refine awp_region ?_
    refine sq rfl rfl hn rfl (q_move rfl rfl) ?_
    refine sq rfl rfl hn rfl (q_add rfl rfl rfl (r := (((b.stocks.take (i + 1)).countP (eqN s) : Nat) : Int)) (i64w (by omega) (by rw [countP_take ho, if_pos hq5]; omega))) ?_
    refine sq rfl rfl hn rfl (q_assign rfl rfl) ?_
    refine run_nil ?_
    exact aend_join_on hJ1 () ⟨.inl rfl, holdT_anys _⟩ trivial (by repeat (first | exact kr _ | refine kc rfl ?_)) (by repeat (first | exact kr _ | refine kc rfl ?_))
   ·
    have hq6 : eqN s o = false := hb1
    have hq7 : (b.stocks.take i).countP (eqN s) = (b.stocks.take (i + 1)).countP (eqN s) := by rw [countP_take ho, hq6]; simp
    refine awp_skip ?_
    exact aend_join_on hJ1 () ⟨.inl (congrArg (fun n : Nat => some (true, TV.d (.int .i64 (n : Int)))) hq7), holdT_anys _⟩ trivial (by repeat (first | exact kr _ | refine kc rfl ?_)) (by repeat (first | exact kr _ | refine kc rfl ?_))
  ·
   rintro _
   refine aend_block (aend_then (awp_region ?_))
   refine sq rfl rfl hn rfl (q_add rfl rfl rfl (r := ((i + 1 : Nat) : Int)) (i64w (by omega) (by omega))) ?_
   refine sq rfl rfl hn rfl (q_move rfl rfl) ?_
   refine run_nil ?_
   exact aend_round_on ⟨i + 1, by omega⟩ ⟨.inl rfl, .inl rfl, holdT_anys _⟩ (holdR_gones _) (by simp only; omega) (by repeat (first | exact kr _ | refine kc rfl ?_)) (by repeat (first | exact kr _ | refine kc rfl ?_))
 ·
  have hie : i = b.stocks.length := by simp at hb0; omega
  subst hie
  rw [List.take_length]
  refine awp_exit (aend_then_exit (aend_then_exit (aend_block_exit (aend_then (awp_seq (awp_region ?_))))))
  refine sq rfl rfl hn rfl (q_move rfl rfl) ?_
  refine sq rfl rfl hn rfl (q_eql rfl rfl rfl) ?_
  refine sq rfl rfl hn rfl (q_move rfl rfl) ?_
  refine stepG [] (guard_some rfl rfl rfl) rfl (nb hn rfl) (fun hc => trivial) (fun hc => q_fieldAddr rfl rfl Tryz.underlying117 rfl sz9) ?_
  refine stepG [(26, _)] (guard_some rfl rfl rfl) rfl (nb hn rfl) (fun hc => ⟨⟨_, rfl, hc⟩, trivial⟩) (fun hc => q_load rfl rfl (id := 3) rfl Tryz.underlying9 rfl rfl sees0) ?_
  refine stepW (s_call [(27, _)] (fun hc => named_ok _ (by omega)) rfl (guard_some rfl rfl rfl) rfl (nb hn rfl) (fun hc => ⟨⟨_, rfl, hc⟩, trivial⟩) rfl rfl (.refl _)) fun _ => ?_
  refine sq rfl rfl hn rfl (q_and rfl rfl rfl (by intro hB; first | (rw [hB]; rfl) | (rw [hB, hc]; rfl) | simp_all)) ?_
  refine sq rfl rfl hn rfl (q_move rfl rfl) ?_
  refine stepG [] (guard_some rfl rfl rfl) rfl (nb hn rfl) (fun hc => trivial) (fun hc => q_fieldAddr rfl rfl Tryz.underlying117 rfl sz45) ?_
  refine stepG [(31, _)] (guard_some rfl rfl rfl) rfl (nb hn rfl) (fun hc => ⟨⟨_, rfl, hc⟩, trivial⟩) (fun hc => q_loadAd rfl rfl (id := 3) rfl Tryz.underlying45 rfl sz45 rfl rfl sees0) ?_
  refine stepW (s_call [(32, _)] (fun hc => spans_ok (_, _) _ _) rfl (guard_some rfl rfl rfl) rfl (nb hn rfl) (fun hc => ⟨⟨_, rfl, hc⟩, trivial⟩) rfl rfl (.refl _)) fun _ => ?_
  refine sq rfl rfl hn rfl (q_and rfl rfl rfl (by intro hB; first | (rw [hB]; rfl) | (rw [hB, hc]; rfl) | simp_all)) ?_
  refine sq rfl rfl hn rfl (q_assign rfl rfl) ?_
  refine run_nil (aend_then (awp_ret ?_))
  exact ret_1 (.inl rfl) hl rfl (.tmp rfl)
theorem CheckBoard_ok (b : Brd) (hN : NamesOK b) : PureAt Tryz.prog 21 [brdD b] (.int .i64 (checkT b)) := by
 refine PureAt.of_awp Tryz.func21 rfl (by kernel_rfl) (Nat.le_of_ble_eq_true rfl) fun Γ hn hl => ?_
 refine awp_seq (awp_region ?_)
 refine stepW (s_box 1 rfl rfl rfl (nb hn rfl) rfl rfl) fun b1 => ?_
 refine sq rfl rfl hn rfl (q_assign rfl rfl) ?_
 refine run_nil (aend_then (awp_seq (awp_region ?_)))
 refine sq rfl rfl hn rfl (q_loadAd rfl rfl (id := 1) rfl Tryz.underlying33 rfl sz33 rfl rfl sees0) ?_
 refine sq rfl rfl hn rfl (q_makeFuncd rfl rfl rfl) ?_
 refine sq rfl rfl hn rfl (q_assign rfl rfl) ?_
 refine run_nil (aend_then (awp_seq (awp_block (awp_seq (awp_region ?_)))))
 refine sq rfl rfl hn rfl (q_fieldAddr rfl rfl Tryz.underlying33 rfl sz31) ?_
 refine sq rfl rfl hn rfl (q_load rfl rfl (id := 1) rfl Tryz.underlying31 rfl rfl sees0) ?_
 refine sq rfl rfl hn rfl (q_len rfl rfl Tryz.underlying31) ?_
 refine sq rfl rfl hn rfl (q_gtr rfl rfl rfl) ?_
 refine sq rfl rfl hn rfl (q_assign rfl rfl) ?_
 refine run_nil (aend_then ?_)
 refine awp_cond rfl (fun hb0 => ?_) (fun hb0 => ?_)
 ·
  refine awp_seq (awp_region ?_)
  refine sq rfl rfl hn rfl (q_assign rfl rfl) ?_
  refine run_nil (aend_then (awp_ret (aend_block_ret (aend_then_ret ?_))))
  refine ret_eq (ret_1 (.inl rfl) hl rfl (.tmp rfl)) ?_
  rw [checkT_3 (by simpa [limT] using hb0)]
 ·
  refine awp_seq (awp_region ?_)
  refine sq rfl rfl hn rfl (q_fieldAddr rfl rfl Tryz.underlying33 rfl sz31) ?_
  refine sq rfl rfl hn rfl (q_load rfl rfl (id := 1) rfl Tryz.underlying31 rfl rfl sees0) ?_
  refine sq rfl rfl hn rfl (q_len rfl rfl Tryz.underlying31) ?_
  refine sq rfl rfl hn rfl (q_eql rfl rfl rfl) ?_
  refine sq rfl rfl hn rfl (q_move rfl rfl) ?_
  refine stepG [] (guard_some rfl rfl rfl) rfl (nb hn rfl) (fun hc => trivial) (fun hc => q_fieldAddr rfl rfl Tryz.underlying33 rfl sz3) ?_
  refine stepG [(17, _)] (guard_some rfl rfl rfl) rfl (nb hn rfl) (fun hc => ⟨⟨_, rfl, hc⟩, trivial⟩) (fun hc => q_load rfl rfl (id := 1) rfl Tryz.underlying3 rfl rfl sees0) ?_
  refine stepW (s_call [(18, _)] (fun hc => within_ok _ _ _) rfl (guard_some rfl rfl rfl) rfl (nb hn rfl) (fun hc => ⟨⟨_, rfl, hc⟩, trivial⟩) rfl rfl (.refl _)) fun _ => ?_
  refine stepG [(19, _)] (guard_some rfl rfl rfl) rfl (nb hn rfl) (fun hc => ⟨⟨_, rfl, hc⟩, trivial⟩) (fun hc => q_not rfl rfl) ?_
  refine sq rfl rfl hn rfl (q_or rfl rfl rfl (by intro hB; first | (rw [hB]; rfl) | (rw [hB, hc]; rfl) | simp_all)) ?_
  refine sq rfl rfl hn rfl (q_move rfl rfl) ?_
  refine stepG [] (guard_some rfl rfl rfl) rfl (nb hn rfl) (fun hc => trivial) (fun hc => q_fieldAddr rfl rfl Tryz.underlying33 rfl sz3) ?_
  refine stepG [(23, _)] (guard_some rfl rfl rfl) rfl (nb hn rfl) (fun hc => ⟨⟨_, rfl, hc⟩, trivial⟩) (fun hc => q_load rfl rfl (id := 1) rfl Tryz.underlying3 rfl rfl sees0) ?_
  refine stepW (s_call [(24, _)] (fun hc => within_ok _ _ _) rfl (guard_some rfl rfl rfl) rfl (nb hn rfl) (fun hc => ⟨⟨_, rfl, hc⟩, trivial⟩) rfl rfl (.refl _)) fun _ => ?_
  refine stepG [(25, _)] (guard_some rfl rfl rfl) rfl (nb hn rfl) (fun hc => ⟨⟨_, rfl, hc⟩, trivial⟩) (fun hc => q_not rfl rfl) ?_
  refine sq rfl rfl hn rfl (q_or rfl rfl rfl (by intro hB; first | (rw [hB]; rfl) | (rw [hB, hc]; rfl) | simp_all)) ?_
  refine sq rfl rfl hn rfl (q_move rfl rfl) ?_
  refine stepG [] (guard_some rfl rfl rfl) rfl (nb hn rfl) (fun hc => trivial) (fun hc => q_fieldAddr rfl rfl Tryz.underlying33 rfl sz31) ?_
  refine stepG [(29, _)] (guard_some rfl rfl rfl) rfl (nb hn rfl) (fun hc => ⟨⟨_, rfl, hc⟩, trivial⟩) (fun hc => q_load rfl rfl (id := 1) rfl Tryz.underlying31 rfl rfl sees0) ?_
  refine stepG [] (guard_some rfl rfl rfl) rfl (nb hn rfl) (fun hc => trivial) (fun hc => q_move rfl rfl) ?_
  refine stepW (s_call [(30, _), (31, _)] (fun hc => all_stk b.stocks (stockB b) 64 [brdD b] [] (fun x hx => stock_ok b x (hN x hx))) rfl (guard_some rfl rfl rfl) rfl (nb hn rfl) (fun hc => ⟨⟨_, rfl, hc⟩, ⟨_, rfl, hc⟩, trivial⟩) rfl rfl (.refl _)) fun _ => ?_
  refine stepG [(32, _)] (guard_some rfl rfl rfl) rfl (nb hn rfl) (fun hc => ⟨⟨_, rfl, hc⟩, trivial⟩) (fun hc => q_not rfl rfl) ?_
  refine sq rfl rfl hn rfl (q_or rfl rfl rfl (by intro hB; first | (rw [hB]; rfl) | (rw [hB, hc]; rfl) | simp_all)) ?_
  refine sq rfl rfl hn rfl (q_assign rfl rfl) ?_
  refine run_nil (aend_then ?_)
  refine awp_cond rfl (fun hb1 => ?_) (fun hb1 => ?_)
  ·
   refine awp_seq (awp_region ?_)
   refine sq rfl rfl hn rfl (q_assign rfl rfl) ?_
   refine run_nil (aend_then (awp_ret (aend_block_ret (aend_then_ret ?_))))
   refine ret_eq (ret_1 (.inl rfl) hl rfl (.tmp rfl)) ?_
   simp only [List.length_map] at hb0 hb1; rw [checkT_of (by simpa [limT] using hb0) hb1]
  ·
   refine awp_skip (aend_block (aend_then (awp_seq (awp_region ?_))))
   refine sq rfl rfl hn rfl (q_assign rfl rfl) ?_
   refine run_nil (aend_then (awp_ret ?_))
   refine ret_eq (ret_1 (.inl rfl) hl rfl (.tmp rfl)) ?_
   simp only [List.length_map] at hb0 hb1; rw [checkT_0 (by simpa [limT] using hb0) hb1]
theorem two_ok  : PureAt Tryz.prog 61 [] (brdD twoB) := by
 refine PureAt.of_awp Tryz.func61 rfl (by kernel_rfl) (Nat.le_of_ble_eq_true rfl) fun Γ hn hl => ?_
 refine awp_seq (awp_region ?_)
 refine stepW (s_alloc 0 rfl rfl rfl (nb hn rfl) zr33 rfl rfl) fun b0 => ?_
 refine run_nil (aend_then (awp_seq (awp_region ?_)))
 refine stepW (s_call [] (fun _ => between_ok _ _) rfl (guard_none rfl) rfl (nb hn rfl) (fun _ => trivial) rfl rfl (.refl _)) fun _ => ?_
 refine sq rfl rfl hn rfl (q_buildd rfl bt117 rfl rfl rfl rfl rfl) ?_
 refine stepW (s_call [] (fun _ => between_ok _ _) rfl (guard_none rfl) rfl (nb hn rfl) (fun _ => trivial) rfl rfl (.refl _)) fun _ => ?_
 refine sq rfl rfl hn rfl (q_buildd rfl bt117 rfl rfl rfl rfl rfl) ?_
 refine stepW (s_buildSlice rfl rfl rfl (nb hn rfl) Tryz.underlying31 sz117 zr117 rfl rfl rfl (show _ = [.d (.str ⟨#[]⟩), .d (.int .i64 0), .d (.int .i64 0), .d (.str ⟨#[]⟩), .d (.int .i64 0), .d (.int .i64 0)] from by kernel_rfl) (by kernel_rfl) rfl rfl rfl rfl rfl) fun _ => ?_
 refine sq rfl rfl hn rfl (q_buildd rfl bt33 rfl rfl rfl rfl rfl) ?_
 refine stepW (s_store rfl rfl rfl rfl rfl rfl (id := 0) rfl sz33 rfl (Nat.le_of_ble_eq_true rfl) rfl trivial) fun _ => ?_
 refine run_nil (aend_then (awp_ret ?_))
 exact ret_1 (.inl rfl) hl rfl (.cellA rfl (id := 0) rfl Tryz.underlying33 rfl sz33 rfl rfl)
end Go.Proofs.YtplpcamcnppibaaGreatDoor
namespace Go.Proofs.YtplpcamcnppibaaGreatDoor
open Go.RowKit
set_option maxRecDepth 20000
set_option linter.all false
theorem fill_agg {n : Nat} {ds : List D} {zs : List TV} (hz : zs.length = n) (hd : ds.length = n) : fillTV (fun i => some (i * n, n)) zs [(0, .d (.agg ds))] = some (ds.map .d) := by
  have h1 : Nat.beq n n = true := Nat.beq_refl n
  have h2 : Nat.ble n n = true := by simp
  simp only [fillTV, TV.cells, List.length_map, hd, hz, TV.flat, Nat.zero_mul, Nat.zero_add, h1, h2]
  rw [List.drop_of_length_le (by omega)]
  simp
theorem allD_d : ∀ (l : List D), allD (l.map .d) = some l
  | [] => rfl
  | x :: l => by simp only [List.map_cons, allD, allD_d l]
theorem beq_len {n : Nat} {ds : List D} (hd : ds.length = n) : Nat.beq ds.length (1 * n) = true := by rw [hd, Nat.one_mul]; exact Nat.beq_refl n
theorem chunk_one {n : Nat} {ds : List D} (hd : ds.length = n) : chunk n 1 ds = [ds] := by
  simp only [chunk]
  rw [List.take_of_length_le (by omega)]
theorem modN {a b : Nat} (hb : 0 < b) : ((a : Int).tmod (b : Int)) = ((a % b : Nat) : Int) := by
  rw [Int.tmod_eq_emod_of_nonneg (by omega)]; rfl
theorem quoN {a b : Nat} (ha : a ≤ 9223372036854775807) (hb : 0 < b) : IntKind.i64.wrap ((a : Int).tdiv (b : Int)) = ((a / b : Nat) : Int) := by
  rw [Int.tdiv_eq_ediv_of_nonneg (by omega)]
  have : ((a : Int) / (b : Int)) = ((a / b : Nat) : Int) := by simp
  rw [this]
  have h := Nat.div_le_self a b
  generalize a / b = c at *
  exact i64w (by omega) rfl
theorem no_blks {b : Nat} (h : blks [] b) {p : Prop} : p := by
  obtain ⟨i, r, h, _⟩ := h
  simp [lk] at h
def intsB : List Int → List Int → Bool
  | [], [] => true
  | a :: p, b :: q => bif a != b then false else intsB p q
  | _, _ => false
theorem intsB_iff : ∀ {a b : List Int}, intsB a b = true ↔ a = b
  | [], [] => by simp [intsB]
  | [], _ :: _ => by simp [intsB]
  | _ :: _, [] => by simp [intsB]
  | a :: p, b :: q => by
    unfold intsB
    by_cases h : a = b
    · subst h; simp [intsB_iff]
    · simp [h]
theorem ints_ok (a b : List Int) : PureAt Tryz.prog 31 [ints a, ints b] (.bool (intsB a b)) := by
 refine PureAt.of_awp' Tryz.func31 rfl (by kernel_rfl) rfl fun hlen Γ hn hl => ?_
 have hl1 := hlen.1; have hl2 := hlen.2.1
 simp only [List.length_map] at hl1 hl2
 refine awp_seq (awp_region ?_)
 refine sq rfl rfl hn rfl (q_assign rfl rfl) ?_
 refine run_nil (aend_then (awp_seq (awp_seq (awp_region ?_))))
 refine sq rfl rfl hn rfl (q_move rfl rfl) ?_
 refine sq rfl rfl hn rfl (q_len rfl rfl Tryz.underlying57) ?_
 refine sq rfl rfl hn rfl (q_move rfl rfl) ?_
 refine sq rfl rfl hn rfl (q_len rfl rfl Tryz.underlying57) ?_
 refine sq rfl rfl hn rfl (q_neq rfl rfl rfl) ?_
 refine run_nil (aend_then ?_)
 refine awp_cond rfl (fun hb0 => ?_) (fun hb0 => ?_)
 ·
  have hne : a ≠ b := fun e => by subst e; simp at hb0
  refine awp_seq (awp_region ?_)
  refine sq rfl rfl hn rfl (q_assign rfl rfl) ?_
  refine run_nil (aend_then (awp_ret (aend_then_ret ?_)))
  refine ret_eq (ret_1 (.inl rfl) hl rfl (.tmp rfl)) ?_
  rw [show intsB a b = false from by rw [Bool.eq_false_iff]; exact fun q => hne (intsB_iff.1 q)]
 ·
  have hle : a.length = b.length := by simp at hb0; omega
  refine awp_skip (aend_then (awp_seq (awp_seq (awp_region ?_))))
  refine sq rfl rfl hn rfl (q_assign rfl rfl) ?_
  refine run_nil (aend_then (awp_block ?_))
  refine awp_loop_on (ι := {i : Nat // i ≤ a.length ∧ ∀ j, j < i → a[j]? = b[j]?}) (fun x => (5, true, .d (.int .i64 (x.1 : Nat))) :: anys [11, 12, 13, 14, 17, 18, 19, 20, 21, 22, 23, 24, 25, 15, 16]) (fun x => []) (fun x => a.length - x.1) ⟨0, Nat.zero_le _, fun j hj => by omega⟩ ⟨.inl rfl, holdT_anys _⟩ trivial ?_
  rintro ⟨i, hi, hall⟩
  dsimp only
  refine awp_seq (awp_seq (awp_region ?_))
  refine sq rfl rfl hn rfl (q_move rfl rfl) ?_
  refine sq rfl rfl hn rfl (q_move rfl rfl) ?_
  refine sq rfl rfl hn rfl (q_len rfl rfl Tryz.underlying57) ?_
  refine sq rfl rfl hn rfl (q_lss rfl rfl rfl) ?_
  refine run_nil (aend_then ?_)
  refine awp_cond rfl (fun hb1 => ?_) (fun hb1 => ?_)
  ·
   have hlt : i < a.length := by simp at hb1; omega
   obtain ⟨x, hx⟩ := ex_get hlt
   obtain ⟨y, hy⟩ := ex_get (show i < b.length by omega)
   refine awp_skip (aend_then (awp_seq (awp_block (awp_seq ?_))))
   refine d_start (W := fun b => True) fmo ?_
   refine d1q (i := 0) rfl (by kernel_rfl) (fun _ _ _ _ h => h) rfl rfl hn rfl (q_move rfl rfl) ?_
   refine d1q (i := 1) rfl (by kernel_rfl) (fun _ _ _ _ h => h) rfl rfl hn rfl (q_move rfl rfl) ?_
   refine d1q (i := 2) rfl (by kernel_rfl) (fun _ _ _ _ h => h) rfl rfl hn rfl (q_index (i := i) rfl rfl rfl Tryz.underlying57 sz3 rfl (mget hx)) ?_
   refine d1q (i := 3) rfl (by kernel_rfl) (fun _ _ _ _ h => h) rfl rfl hn rfl (q_loadp rfl rfl Tryz.underlying3 rfl seesFA) ?_
   refine d1q (i := 4) rfl (by kernel_rfl) (fun _ _ _ _ h => h) rfl rfl hn rfl (q_move rfl rfl) ?_
   refine d1q (i := 5) rfl (by kernel_rfl) (fun _ _ _ _ h => h) rfl rfl hn rfl (q_move rfl rfl) ?_
   refine d1q (i := 6) rfl (by kernel_rfl) (fun _ _ _ _ h => h) rfl rfl hn rfl (q_index (i := i) rfl rfl rfl Tryz.underlying57 sz3 rfl (mget hy)) ?_
   refine d1q (i := 7) rfl (by kernel_rfl) (fun _ _ _ _ h => h) rfl rfl hn rfl (q_loadp rfl rfl Tryz.underlying3 rfl seesFA) ?_
   refine d1q (i := 8) rfl (by kernel_rfl) (fun _ _ _ _ h => h) rfl rfl hn rfl (q_neq rfl rfl rfl) ?_
   refine d1_of_d2 ?_
   refine d2_done (by kernel_rfl) ?_
   refine aend_then ?_
   refine awp_cond rfl (fun hb2 => ?_) (fun hb2 => ?_)
   ·
    have hne : a ≠ b := fun e => by (subst e; rw [hx] at hy; cases hy; simp at hb2)
    refine awp_seq (awp_region ?_)
    refine sq rfl rfl hn rfl (q_assign rfl rfl) ?_
    refine run_nil (aend_then (awp_ret (aend_block_ret (aend_then_ret (aend_then_ret (aend_block_ret (aend_then_ret ?_)))))))
    refine ret_eq (ret_1 (.inl rfl) hl rfl (.tmp rfl)) ?_
    rw [show intsB a b = false from by rw [Bool.eq_false_iff]; exact fun q => hne (intsB_iff.1 q)]
   ·
    have hxy : x = y := by simpa using hb2
    refine awp_skip (aend_block (aend_then (awp_region ?_)))
    refine sq rfl rfl hn rfl (q_move rfl rfl) ?_
    refine sq rfl rfl hn rfl (q_add rfl rfl rfl (r := ((i + 1 : Nat) : Int)) (i64w (by omega) (by omega))) ?_
    refine sq rfl rfl hn rfl (q_assign rfl rfl) ?_
    refine run_nil ?_
    exact aend_round_on ⟨i + 1, by omega, fun j hj => by (by_cases e : j = i; (subst e; rw [hx, hy, hxy]); exact hall j (by omega))⟩ ⟨.inl rfl, holdT_anys _⟩ trivial (by simp only; omega) (by repeat (first | exact kr _ | refine kc rfl ?_)) (by repeat (first | exact kr _ | refine kc rfl ?_))
  ·
   have hie : i = a.length := by simp at hb1; omega
   refine awp_exit (aend_then_exit (aend_then_exit (aend_block_exit (aend_then (awp_seq (awp_region ?_))))))
   refine sq rfl rfl hn rfl (q_assign rfl rfl) ?_
   refine run_nil (aend_then (awp_ret ?_))
   refine ret_eq (ret_1 (.inl rfl) hl rfl (.tmp rfl)) ?_
   rw [show intsB a b = true from intsB_iff.2 (List.ext_getElem? fun j => by (by_cases e : j < i; exact hall j e; rw [List.getElem?_eq_none (by omega), List.getElem?_eq_none (by omega)]))]
end Go.Proofs.YtplpcamcnppibaaGreatDoor
namespace Go.Proofs.YtplpcamcnppibaaGreatDoor
open Go.RowKit
set_option maxRecDepth 20000
set_option linter.all false
theorem sz115 : Sz Tryz.prog 115 4 := (by kernel_rfl : (Tryz.prog.info? 115).map (·.size) = some 4)
theorem zr115 : (Tryz.prog.info? 115).map (·.zero) = some (some (.agg #[(.int .i64 0), (.int .i64 0), (.int .i64 0), (.int .i64 0)])) := by kernel_rfl
theorem bt115 : BT Tryz.prog 115 (.agg #[(.int .i64 0), (.int .i64 0), (.int .i64 0), (.int .i64 0)]) (fun i => ([(0, 1), (1, 1), (2, 1), (3, 1)] : List (Nat × Nat))[i]?) := bt_struct Tryz.underlying115 zr115 (by kernel_rfl)
end Go.Proofs.YtplpcamcnppibaaGreatDoor
