/-
  A part of the proof that contangolaw.SheetEnds returns true: what the last text needs, and no more. No condition: no statement of the seat is proved here.
-/
import Derived.Shelf.Sort.Plain
import Derived.Ground.Names2Prog
import Derived.Shelf.Slices.CompactI
import Derived.Shelf.Slices.In.SortNone
import Derived.Test.YtnbmmopjkkofoaaProg
import Derived.Sort.Grow
import Derived.Test.YtnbmmopjkkofoaaSheetEndsC
namespace Go.Proofs.Ytnbmmopjkkofoaa
open Go.RowKit
set_option maxRecDepth 20000
set_option linter.all false
def hasB (l : List Int) (n : Int) : Bool := l.any fun x => x == n
def loanR (more : List Ent5) (sights : List Sight5) : Reg := ⟨3, [0, 1], [⟨1, 0, 0, 1, 1, 3⟩, ⟨0, 0, 1, 2, 2, 4⟩, ⟨2, 1, 1, 0, 3, 5⟩] ++ more, sights⟩
def astrayL : List Ent5 := [⟨0, 1, 2, 0, 0, 9⟩]
def seeingR (r : Reg) (s : Sight5) : Reg := ⟨r.houses, r.start, r.entries, r.sights ++ [s]⟩
theorem take_map {α β : Type} {l : List α} {f : α → β} {i : Nat} {x : α} (h : l[i]? = some x) : (l.take i).map f ++ [f x] = (l.take (i + 1)).map f := by rw [List.take_add_one, h]; simp
theorem any_of {α : Type} {l : List α} {p : α → Bool} {i : Nat} {x : α} (h : l[i]? = some x) (hx : p x = true) : l.any p = true := List.any_eq_true.2 ⟨x, List.mem_of_getElem? h, hx⟩
theorem any_none {α : Type} {l : List α} {p : α → Bool} (h : l.all (fun x => !p x) = true) : l.any p = false := by
  rw [List.any_eq_false]
  intro x hx
  have := List.all_eq_true.1 h x hx
  simpa using this
theorem zr35 : (Try.prog.info? 35).map (·.zero) = some (some (.agg #[(.int .i64 0), (.slice none 0 0), (.slice none 0 0), (.slice none 0 0)])) := by kernel_rfl
theorem zr45 : (Try.prog.info? 45).map (·.zero) = some (some (.agg #[(.int .i64 0), (.int .i64 0)])) := by kernel_rfl
theorem zr92 : (Try.prog.info? 92).map (·.zero) = some (some (.agg #[(.int .i64 0), (.int .i64 0), (.int .i64 0)])) := by kernel_rfl
theorem bt35 : BT Try.prog 35 (.agg #[(.int .i64 0), (.slice none 0 0), (.slice none 0 0), (.slice none 0 0)]) (fun i => ([(0, 1), (1, 1), (2, 1), (3, 1)] : List (Nat × Nat))[i]?) := bt_struct Try.underlying35 zr35 (by kernel_rfl)
theorem bt45 : BT Try.prog 45 (.agg #[(.int .i64 0), (.int .i64 0)]) (fun i => ([(0, 1), (1, 1)] : List (Nat × Nat))[i]?) := bt_struct Try.underlying45 zr45 (by kernel_rfl)
theorem bt49 : BT Try.prog 49 (.agg #[(.int .i64 0), (.int .i64 0)]) (fun i => ([(0, 1), (1, 1)] : List (Nat × Nat))[i]?) := bt_struct Try.underlying49 zr49 (by kernel_rfl)
theorem bt92 : BT Try.prog 92 (.agg #[(.int .i64 0), (.int .i64 0), (.int .i64 0)]) (fun i => ([(0, 1), (1, 1), (2, 1)] : List (Nat × Nat))[i]?) := bt_struct Try.underlying92 zr92 (by kernel_rfl)
theorem bt95 : BT Try.prog 95 (.agg #[(.int .i64 0), (.int .i64 0), (.int .i64 0), (.int .i64 0), (.int .i64 0), (.int .i64 0)]) (fun i => ([(0, 1), (1, 1), (2, 1), (3, 1), (4, 2)] : List (Nat × Nat))[i]?) := bt_struct Try.underlying95 zr95 (by kernel_rfl)
theorem elt23 : ElT Try.prog 23 67 6 48 := elt_of Try.underlying23 (z := (.agg #[(.int .i64 0), (.int .i64 0), (.int .i64 0), (.int .i64 0), (.int .i64 0), (.int .i64 0)])) (by kernel_rfl) rfl (by decide)
theorem elt24 : ElT Try.prog 24 59 3 24 := elt_of Try.underlying24 (z := (.agg #[(.int .i64 0), (.int .i64 0), (.int .i64 0)])) (by kernel_rfl) rfl (by decide)
theorem elt32 : ElT Try.prog 32 95 6 48 := elt_of Try.underlying32 (z := (.agg #[(.int .i64 0), (.int .i64 0), (.int .i64 0), (.int .i64 0), (.int .i64 0), (.int .i64 0)])) (by kernel_rfl) rfl (by decide)
theorem elt33 : ElT Try.prog 33 92 3 24 := elt_of Try.underlying33 (z := (.agg #[(.int .i64 0), (.int .i64 0), (.int .i64 0)])) (by kernel_rfl) rfl (by decide)
theorem has5_ok (l : List Int) (n : Int) : PureAt Try.prog 31 [ints l, .int .i64 n] (.bool (hasB l n)) := by
  refine PureAt.of_awp' Try.func31 rfl (by kernel_rfl) rfl fun hlen Γ hn hl => ?_
  have hl5 := hlen.1; simp only [List.length_map] at hl5
  refine awp_seq ?_
  refine awp_region ?_
  refine sq rfl rfl hn rfl (q_assign rfl rfl) ?_
  refine run_nil ?_
  refine aend_then ?_
  refine awp_seq ?_
  refine awp_seq ?_
  refine awp_region ?_
  refine sq rfl rfl hn rfl (q_assign rfl rfl) ?_
  refine run_nil ?_
  refine aend_then ?_
  refine awp_block ?_
  refine awp_loop_on (ι := { i : Nat // i ≤ (l).length ∧ ((l).take i).all (fun x => !(x == n)) = true }) (fun i => (5, true, .d (.int .i64 (i.1 : Int))) :: anys [6, 7, 8, 9, 12, 13, 14, 15, 16, 17, 10, 11]) (fun i => []) (fun i => (l).length - i.1) ⟨0, by simp⟩ ⟨.inl rfl, holdT_anys _⟩ trivial ?_
  rintro ⟨i, hi, hall⟩
  dsimp only
  refine awp_seq ?_
  refine awp_seq ?_
  refine awp_region ?_
  refine sq rfl rfl hn rfl (q_move rfl rfl) ?_
  refine sq rfl rfl hn rfl (q_move rfl rfl) ?_
  refine sq rfl rfl hn rfl (q_len rfl rfl Try.underlying22) ?_
  refine sq rfl rfl hn rfl (q_lss rfl rfl rfl) ?_
  refine run_nil ?_
  refine aend_then ?_
  refine awp_cond rfl (fun hb0 => ?_) (fun hb0 => ?_)
  · try simp only [decide_eq_true_eq, decide_eq_false_iff_not, Bool.and_eq_true, Bool.or_eq_true, Bool.and_eq_false_iff, Bool.or_eq_false_iff, Bool.not_eq_true', Bool.not_eq_false', beq_iff_eq, bne_iff_ne, ne_eq, beq_eq_false_iff_ne, bne_eq_false_iff_eq, Int.not_lt, Int.not_le] at hb0
    have hlt : i < (l).length := by simpa using hb0
    obtain ⟨x, hx⟩ := ex_get hlt
    refine awp_skip ?_
    refine aend_then ?_
    refine awp_seq ?_
    refine awp_block ?_
    refine awp_seq ?_
    refine awp_region ?_
    refine sq rfl rfl hn rfl (q_move rfl rfl) ?_
    refine sq rfl rfl hn rfl (q_move rfl rfl) ?_
    refine sq rfl rfl hn rfl (q_index rfl rfl rfl Try.underlying22 sz3 rfl (mget hx)) ?_
    refine sq rfl rfl hn rfl (q_loadp rfl rfl Try.underlying3 rfl seesF0) ?_
    refine sq rfl rfl hn rfl (q_move rfl rfl) ?_
    refine sq rfl rfl hn rfl (q_eql rfl rfl rfl) ?_
    refine run_nil ?_
    refine aend_then ?_
    refine awp_cond rfl (fun hb1 => ?_) (fun hb1 => ?_)
    · skip
      refine awp_seq ?_
      refine awp_region ?_
      refine sq rfl rfl hn rfl (q_assign rfl rfl) ?_
      refine run_nil ?_
      refine aend_then ?_
      refine awp_ret ?_
      refine aend_block_ret ?_
      refine aend_then_ret ?_
      refine aend_then_ret ?_
      refine aend_block_ret ?_
      refine aend_then_ret ?_
      refine ret_eq (ret_1 (.inl rfl) hl rfl (.tmp rfl)) ?_
      rw [hasB, any_of hx hb1]
    · skip
      refine awp_skip ?_
      refine aend_block ?_
      refine aend_then ?_
      refine awp_region ?_
      refine sq rfl rfl hn rfl (q_move rfl rfl) ?_
      refine sq rfl rfl hn rfl (q_add rfl rfl rfl (r := ((i + 1 : Nat) : Int)) (i64w (by omega) (by omega))) ?_
      refine sq rfl rfl hn rfl (q_assign rfl rfl) ?_
      refine run_nil ?_
      exact aend_round_on ⟨i + 1, by omega, take_all_succ hx hall (by rw [hb1]; rfl)⟩ ⟨.inl rfl, holdT_anys _⟩ trivial (by simp only; omega) (by repeat (first | exact kr _ | refine kc rfl ?_)) (by repeat (first | exact kr _ | refine kc rfl ?_))
  · try simp only [decide_eq_true_eq, decide_eq_false_iff_not, Bool.and_eq_true, Bool.or_eq_true, Bool.and_eq_false_iff, Bool.or_eq_false_iff, Bool.not_eq_true', Bool.not_eq_false', beq_iff_eq, bne_iff_ne, ne_eq, beq_eq_false_iff_ne, bne_eq_false_iff_eq, Int.not_lt, Int.not_le] at hb0
    refine awp_exit ?_
    refine aend_then_exit ?_
    refine aend_then_exit ?_
    refine aend_block_exit ?_
    refine aend_then ?_
    refine awp_seq ?_
    refine awp_region ?_
    refine sq rfl rfl hn rfl (q_assign rfl rfl) ?_
    refine run_nil ?_
    refine aend_then ?_
    refine awp_ret ?_
    refine ret_eq (ret_1 (.inl rfl) hl rfl (.tmp rfl)) ?_
    rw [hasB, any_none (full_all hb0 hi hall)]
theorem list_ok (l : List Int) (h5 : l.length ≤ 1000000) : PureAt Try.prog 44 [ints l] (ints l) := by
  refine PureAt.of_awp Try.func44 rfl (by kernel_rfl) (Nat.le_of_ble_eq_true rfl) fun Γ hn hl => ?_
  refine awp_seq ?_
  refine awp_region ?_
  refine sq rfl rfl hn rfl (q_assign rfl rfl) ?_
  refine run_nil ?_
  refine aend_then ?_
  refine awp_seq ?_
  refine awp_region ?_
  refine stepW (s_buildRow 3 rfl rfl rfl (nb hn rfl) Try.underlying22 sz3 zr3 rfl rfl rfl (show _ = [] from by kernel_rfl) (by kernel_rfl) rfl rfl (show allD _ = some [] from by kernel_rfl) rfl rfl) fun v3 => ?_
  refine sq rfl rfl hn rfl (q_move rfl rfl) ?_
  refine stepW (s_append (id := 3) rfl rfl rfl (nb hn rfl) elt22 trivial rfl rfl rfl (by simp [chunk]; omega) (by simp [chunk]; omega) (fun b hb => trivial)) fun v5 => ?_
  refine sq rfl rfl hn rfl (q_assign rfl rfl) ?_
  refine run_nil ?_
  refine aend_then ?_
  refine awp_ret ?_
  refine gh_end (g_row (t := 2) (id := 3) rfl rfl) ?_
  refine ret_eq (ret_1 (.inl rfl) hl rfl (.tmp rfl)) ?_
  rfl
theorem astray_ok  : PureAt Try.prog 50 [] (entsD astrayL) := by
  refine PureAt.of_awp Try.func50 rfl (by kernel_rfl) (Nat.le_of_ble_eq_true rfl) fun Γ hn hl => ?_
  refine awp_seq ?_
  refine awp_region ?_
  refine sq rfl rfl hn rfl (q_assign rfl rfl) ?_
  refine run_nil ?_
  refine aend_then ?_
  refine awp_seq ?_
  refine awp_region ?_
  refine sq rfl rfl hn rfl (q_buildd rfl bt45 rfl rfl rfl rfl rfl) ?_
  refine sq rfl rfl hn rfl (q_buildd rfl bt95 rfl rfl rfl rfl rfl) ?_
  refine stepW (s_buildSlice rfl rfl rfl (nb hn rfl) Try.underlying32 sz95 zr95 rfl rfl rfl (show _ = [.d (.int .i64 0), .d (.int .i64 0), .d (.int .i64 0), .d (.int .i64 0), .d (.int .i64 0), .d (.int .i64 0)] from by kernel_rfl) (by kernel_rfl) rfl (fill_agg (by kernel_rfl) rfl) (allD_d _) (beq_len rfl) (chunk_one rfl)) fun _ => ?_
  refine sq rfl rfl hn rfl (q_assign rfl rfl) ?_
  refine run_nil ?_
  refine aend_then ?_
  refine awp_ret ?_
  exact ret_1 (.inl rfl) hl rfl (.tmp rfl)
theorem Register_ok (r : Reg) (h1 : r.start.length ≤ 1000000) (h2 : r.entries.length ≤ 1000000) (h3 : r.sights.length ≤ 1000000) : PureAt Try.prog 17 [regD r] (regD r) := by
  refine PureAt.of_awp Try.func17 rfl (by kernel_rfl) (Nat.le_of_ble_eq_true rfl) fun Γ hn hl => ?_
  refine awp_seq ?_
  refine awp_region ?_
  refine stepW (s_box 1 rfl rfl rfl (nb hn rfl) rfl rfl) fun b1 => ?_
  refine stepW (s_alloc 2 rfl rfl rfl (nb hn rfl) zr35 rfl rfl) fun b2 => ?_
  refine run_nil ?_
  refine aend_then ?_
  refine awp_seq ?_
  refine awp_join_on (e := .normal) (ι := Nat) (fun b3 => (3, true, .val (.pointer (some ⟨b3, 0, none⟩))) :: anys [8, 9, 10, 11, 12, 13]) (fun b3 => [(3, .box b3 35 [.d (.int .i64 r.houses), .d (ints r.start), .d .nil, .d .nil])]) (fun hJ0 => ?_) ?_
  · skip
    refine d_start (W := fun b => b ≠ b1) fmo ?_
    refine d1q (i := 0) rfl (by kernel_rfl) (fun _ _ _ _ h => h) rfl rfl hn rfl (q_fieldAddr rfl rfl Try.underlying26 rfl sz3) ?_
    refine d1q (i := 1) rfl (by kernel_rfl) (fun _ _ _ _ h => h) rfl rfl hn rfl (q_load rfl rfl (id := 1) rfl Try.underlying3 rfl rfl (seesA (by simp))) ?_
    refine d1q (i := 2) rfl (by kernel_rfl) (fun _ _ _ _ h => h) rfl rfl hn rfl (q_fieldAddr rfl rfl Try.underlying26 rfl sz22) ?_
    refine d1q (i := 3) rfl (by kernel_rfl) (fun _ _ _ _ h => h) rfl rfl hn rfl (q_load rfl rfl (id := 1) rfl Try.underlying22 rfl rfl (seesA (by simp))) ?_
    refine d1_of_d2 ?_
    refine d2_all 4 [6] (by kernel_rfl) ⟨?_, ?_, trivial⟩
    · skip
      refine br rfl (s_call [] (fun _ => list_ok _ (by omega)) rfl (guard_none rfl) rfl (nb hn rfl) (fun _ => trivial) rfl rfl (.refl _)) fun _ => ?_
      refine d2_of_d1 ?_
      refine d1q (i := 5) rfl (by kernel_rfl) (fun _ _ _ _ h => h) rfl rfl hn rfl (q_buildd rfl bt35 rfl rfl rfl rfl rfl) ?_
      refine d1_of_d2 ?_
      refine d2_one (i := 6) (by kernel_rfl) rfl (s_alloc 3 rfl rfl rfl (nb hn rfl) zr35 rfl rfl) fun b3 => ?_
      refine d2_of_d1 ?_
      refine d1_of_d2 ?_
      refine g_ne_d2 (i := 3) (j := 1) rfl rfl rfl (fun hne3_1 => ?_)
      refine d2_one (i := 7) (by kernel_rfl) rfl (s_store rfl rfl rfl rfl rfl rfl (id := 3) rfl sz35 rfl (Nat.le_of_ble_eq_true rfl) rfl (fun e => hne3_1 _ rfl (congrArg some e.symm))) fun _ => ?_
      refine d2_of_d1 ?_
      refine d1_of_d2 ?_
      refine d2_done (by kernel_rfl) ?_
      exact aend_join_on hJ0 b3 ⟨.inl rfl, holdT_anys _⟩ ⟨.inl rfl, trivial⟩ (by repeat (first | exact kr _ | refine kc rfl ?_)) (by repeat (first | exact kr _ | refine kc rfl ?_))
    · skip
      refine br rfl (s_alloc 3 rfl rfl rfl (nb hn rfl) zr35 rfl rfl) fun b3 => ?_
      refine d2_of_d1 ?_
      refine d1_of_d2 ?_
      refine d2_one (i := 4) (by kernel_rfl) rfl (s_call [] (fun _ => list_ok _ (by omega)) rfl (guard_none rfl) rfl (nb hn rfl) (fun _ => trivial) rfl rfl (.refl _)) fun _ => ?_
      refine d2_of_d1 ?_
      refine d1q (i := 5) rfl (by kernel_rfl) (fun _ _ _ _ h => h) rfl rfl hn rfl (q_buildd rfl bt35 rfl rfl rfl rfl rfl) ?_
      refine d1_of_d2 ?_
      refine g_ne_d2 (i := 3) (j := 1) rfl rfl rfl (fun hne3_1 => ?_)
      refine d2_one (i := 7) (by kernel_rfl) rfl (s_store rfl rfl rfl rfl rfl rfl (id := 3) rfl sz35 rfl (Nat.le_of_ble_eq_true rfl) rfl (fun e => hne3_1 _ rfl (congrArg some e.symm))) fun _ => ?_
      refine d2_of_d1 ?_
      refine d1_of_d2 ?_
      refine d2_done (by kernel_rfl) ?_
      exact aend_join_on hJ0 b3 ⟨.inl rfl, holdT_anys _⟩ ⟨.inl rfl, trivial⟩ (by repeat (first | exact kr _ | refine kc rfl ?_)) (by repeat (first | exact kr _ | refine kc rfl ?_))
  · rintro b3
    refine aend_then ?_
    refine awp_seq ?_
    refine awp_seq ?_
    refine gh_awp (gh_nilcell (id := 3) (k := 2) 302 95 6 rfl rfl) ?_
    refine gh_awp (gh_nilcell (id := 3) (k := 3) 303 92 3 rfl rfl) ?_
    refine awp_region ?_
    refine sq rfl rfl hn rfl (q_assign rfl rfl) ?_
    refine run_nil ?_
    refine aend_then ?_
    refine awp_block ?_
    refine awp_loop_on (ι := { x : Nat × Value // x.1 ≤ r.entries.length }) (fun x => (4, true, .d (.int .i64 (x.1.1 : Nat))) :: anys [14, 15, 16, 17, 18, 21, 22, 23, 24, 25, 5, 26, 27, 28, 29, 30, 31, 32, 33, 34, 35, 36, 37, 38, 39, 40, 41, 42, 43, 44, 45, 46, 19, 20]) (fun x => (3, .box b3 35 [.d (.int .i64 r.houses), .d (ints r.start), .val x.1.2, .val (.slice none 0 0)]) :: (302, .row x.1.2 95 6 ((r.entries.take x.1.1).map entE)) :: gones [5]) (fun x => r.entries.length - x.1.1) ⟨(0, .slice none 0 0), by simp⟩ ⟨.inl rfl, holdT_anys _⟩ ⟨.inl rfl, .inl rfl, holdR_gones _⟩ ?_
    rintro ⟨⟨i, vv⟩, hi⟩
    dsimp only
    dsimp only at hi
    refine awp_seq ?_
    refine awp_seq ?_
    refine awp_region ?_
    refine sq rfl rfl hn rfl (q_move rfl rfl) ?_
    refine sq rfl rfl hn rfl (q_fieldAddr rfl rfl Try.underlying26 rfl sz23) ?_
    refine sq rfl rfl hn rfl (q_load rfl rfl (id := 1) rfl Try.underlying23 rfl rfl sees0) ?_
    refine sq rfl rfl hn rfl (q_len rfl rfl Try.underlying23) ?_
    refine sq rfl rfl hn rfl (q_lss rfl rfl rfl) ?_
    refine run_nil ?_
    refine aend_then ?_
    refine awp_cond rfl (fun hb1 => ?_) (fun hb1 => ?_)
    · try simp only [decide_eq_true_eq, decide_eq_false_iff_not, Bool.and_eq_true, Bool.or_eq_true, Bool.and_eq_false_iff, Bool.or_eq_false_iff, Bool.not_eq_true', Bool.not_eq_false', beq_iff_eq, bne_iff_ne, ne_eq, beq_eq_false_iff_ne, bne_eq_false_iff_eq, Int.not_lt, Int.not_le] at hb1
      have hlt : i < r.entries.length := by simpa using hb1
      obtain ⟨x, hx⟩ := ex_get hlt
      refine awp_skip ?_
      refine aend_then ?_
      refine awp_seq ?_
      refine awp_block ?_
      refine awp_seq ?_
      refine awp_region ?_
      refine sq rfl rfl hn rfl (q_fieldAddr rfl rfl Try.underlying26 rfl sz23) ?_
      refine sq rfl rfl hn rfl (q_load rfl rfl (id := 1) rfl Try.underlying23 rfl rfl sees0) ?_
      refine sq rfl rfl hn rfl (q_move rfl rfl) ?_
      refine sq rfl rfl hn rfl (q_index rfl rfl rfl Try.underlying23 sz67 rfl (mget hx)) ?_
      refine sq rfl rfl hn rfl (q_loadpA rfl rfl Try.underlying67 rfl sz67 rfl rfl seesF0) ?_
      refine stepW (s_alloc 5 rfl rfl rfl (nb hn rfl) zr67 rfl rfl) fun b5 => ?_
      refine stepW (s_store rfl rfl rfl rfl rfl rfl (id := 5) rfl sz67 rfl (Nat.le_of_ble_eq_true rfl) rfl trivial) fun _ => ?_
      refine run_nil ?_
      refine aend_then ?_
      refine awp_region ?_
      refine sq rfl rfl hn rfl (q_fieldAddr rfl rfl Try.underlying35 rfl sz32) ?_
      refine sq rfl rfl hn rfl (q_load rfl rfl (id := 3) rfl Try.underlying32 rfl rfl sees0) ?_
      refine sq rfl rfl hn rfl (q_fieldAddr rfl rfl Try.underlying67 rfl sz3) ?_
      refine sq rfl rfl hn rfl (q_load rfl rfl (id := 5) rfl Try.underlying3 rfl rfl sees0) ?_
      refine sq rfl rfl hn rfl (q_fieldAddr rfl rfl Try.underlying67 rfl sz3) ?_
      refine sq rfl rfl hn rfl (q_load rfl rfl (id := 5) rfl Try.underlying3 rfl rfl sees0) ?_
      refine sq rfl rfl hn rfl (q_fieldAddr rfl rfl Try.underlying67 rfl sz3) ?_
      refine sq rfl rfl hn rfl (q_load rfl rfl (id := 5) rfl Try.underlying3 rfl rfl sees0) ?_
      refine sq rfl rfl hn rfl (q_fieldAddr rfl rfl Try.underlying67 rfl sz3) ?_
      refine sq rfl rfl hn rfl (q_load rfl rfl (id := 5) rfl Try.underlying3 rfl rfl sees0) ?_
      refine sq rfl rfl hn rfl (q_fieldAddr rfl rfl Try.underlying67 rfl sz49) ?_
      refine sq rfl rfl hn rfl (q_fieldAddr rfl rfl Try.underlying49 rfl sz3) ?_
      refine sq rfl rfl hn rfl (q_load rfl rfl (id := 5) rfl Try.underlying3 rfl rfl sees0) ?_
      refine sq rfl rfl hn rfl (q_fieldAddr rfl rfl Try.underlying67 rfl sz49) ?_
      refine sq rfl rfl hn rfl (q_fieldAddr rfl rfl Try.underlying49 rfl sz3) ?_
      refine sq rfl rfl hn rfl (q_load rfl rfl (id := 5) rfl Try.underlying3 rfl rfl sees0) ?_
      refine sq rfl rfl hn rfl (q_buildd rfl bt45 rfl rfl rfl rfl rfl) ?_
      refine sq rfl rfl hn rfl (q_buildd rfl bt95 rfl rfl rfl rfl rfl) ?_
      refine stepW (s_buildSlice rfl rfl rfl (nb hn rfl) Try.underlying32 sz95 zr95 rfl rfl rfl (show _ = [.d (.int .i64 0), .d (.int .i64 0), .d (.int .i64 0), .d (.int .i64 0), .d (.int .i64 0), .d (.int .i64 0)] from by kernel_rfl) (by kernel_rfl) rfl (fill_agg (by kernel_rfl) rfl) (allD_d _) (beq_len rfl) (chunk_one rfl)) fun _ => ?_
      refine stepW (s_append (id := 302) rfl rfl rfl (nb hn rfl) elt32 trivial rfl rfl rfl (by simp [List.length_take]; omega) (by simp [List.length_take]; omega) (fun b hb => trivial)) fun v45 => ?_
      refine sq rfl rfl hn rfl (q_fieldAddr rfl rfl Try.underlying35 rfl sz32) ?_
      refine stepW (s_storeRow rfl rfl rfl rfl rfl (rid := 302) rfl (id := 3) rfl sz32 (Nat.le_of_ble_eq_true rfl) rfl trivial) fun _ => ?_
      refine run_nil ?_
      refine aend_block ?_
      refine aend_then ?_
      refine awp_region ?_
      refine sq rfl rfl hn rfl (q_move rfl rfl) ?_
      refine sq rfl rfl hn rfl (q_add rfl rfl rfl (r := ((i + 1 : Nat) : Int)) (i64w (by omega) (by omega))) ?_
      refine sq rfl rfl hn rfl (q_assign rfl rfl) ?_
      refine run_nil ?_
      exact aend_round_on ⟨(i + 1, v45), by simp only; omega⟩ ⟨.inl rfl, holdT_anys _⟩ ⟨.inl rfl, .inl (congrArg (fun z => some (Res.row v45 95 6 z)) (take_map hx)), holdR_gones _⟩ (by simp only; omega) (by repeat (first | exact kr _ | refine kc rfl ?_)) (by repeat (first | exact kr _ | refine kc rfl ?_))
    · try simp only [decide_eq_true_eq, decide_eq_false_iff_not, Bool.and_eq_true, Bool.or_eq_true, Bool.and_eq_false_iff, Bool.or_eq_false_iff, Bool.not_eq_true', Bool.not_eq_false', beq_iff_eq, bne_iff_ne, ne_eq, beq_eq_false_iff_ne, bne_eq_false_iff_eq, Int.not_lt, Int.not_le] at hb1
      have hie : i = r.entries.length := by simp only [List.length_map] at hb1; omega
      subst hie; rw [List.take_length]
      refine awp_exit ?_
      refine aend_then_exit ?_
      refine aend_then_exit ?_
      refine aend_block_exit ?_
      refine aend_then ?_
      refine awp_seq ?_
      refine awp_seq ?_
      refine awp_region ?_
      refine sq rfl rfl hn rfl (q_assign rfl rfl) ?_
      refine run_nil ?_
      refine aend_then ?_
      refine awp_block ?_
      refine awp_loop_on (ι := { x : Nat × Value // x.1 ≤ r.sights.length }) (fun x => (6, true, .d (.int .i64 (x.1.1 : Nat))) :: anys [47, 48, 49, 50, 51, 54, 55, 56, 57, 58, 7, 59, 60, 61, 62, 63, 64, 65, 66, 67, 68, 69, 70, 52, 53]) (fun x => (3, .box b3 35 [.d (.int .i64 r.houses), .d (ints r.start), .val vv, .val x.1.2]) :: (303, .row x.1.2 92 3 ((r.sights.take x.1.1).map sightE)) :: gones [7]) (fun x => r.sights.length - x.1.1) ⟨(0, .slice none 0 0), by simp⟩ ⟨.inl rfl, holdT_anys _⟩ ⟨.inl rfl, .inl rfl, holdR_gones _⟩ ?_
      rintro ⟨⟨i, vw⟩, hi⟩
      dsimp only
      dsimp only at hi
      refine awp_seq ?_
      refine awp_seq ?_
      refine awp_region ?_
      refine sq rfl rfl hn rfl (q_move rfl rfl) ?_
      refine sq rfl rfl hn rfl (q_fieldAddr rfl rfl Try.underlying26 rfl sz24) ?_
      refine sq rfl rfl hn rfl (q_load rfl rfl (id := 1) rfl Try.underlying24 rfl rfl sees0) ?_
      refine sq rfl rfl hn rfl (q_len rfl rfl Try.underlying24) ?_
      refine sq rfl rfl hn rfl (q_lss rfl rfl rfl) ?_
      refine run_nil ?_
      refine aend_then ?_
      refine awp_cond rfl (fun hb2 => ?_) (fun hb2 => ?_)
      · try simp only [decide_eq_true_eq, decide_eq_false_iff_not, Bool.and_eq_true, Bool.or_eq_true, Bool.and_eq_false_iff, Bool.or_eq_false_iff, Bool.not_eq_true', Bool.not_eq_false', beq_iff_eq, bne_iff_ne, ne_eq, beq_eq_false_iff_ne, bne_eq_false_iff_eq, Int.not_lt, Int.not_le] at hb2
        have hlt : i < r.sights.length := by simpa using hb2
        obtain ⟨x, hx⟩ := ex_get hlt
        refine awp_skip ?_
        refine aend_then ?_
        refine awp_seq ?_
        refine awp_block ?_
        refine awp_seq ?_
        refine awp_region ?_
        refine sq rfl rfl hn rfl (q_fieldAddr rfl rfl Try.underlying26 rfl sz24) ?_
        refine sq rfl rfl hn rfl (q_load rfl rfl (id := 1) rfl Try.underlying24 rfl rfl sees0) ?_
        refine sq rfl rfl hn rfl (q_move rfl rfl) ?_
        refine sq rfl rfl hn rfl (q_index rfl rfl rfl Try.underlying24 sz59 rfl (mget hx)) ?_
        refine sq rfl rfl hn rfl (q_loadpA rfl rfl Try.underlying59 rfl sz59 rfl rfl seesF0) ?_
        refine stepW (s_alloc 7 rfl rfl rfl (nb hn rfl) zr59 rfl rfl) fun b7 => ?_
        refine stepW (s_store rfl rfl rfl rfl rfl rfl (id := 7) rfl sz59 rfl (Nat.le_of_ble_eq_true rfl) rfl trivial) fun _ => ?_
        refine run_nil ?_
        refine aend_then ?_
        refine awp_region ?_
        refine sq rfl rfl hn rfl (q_fieldAddr rfl rfl Try.underlying35 rfl sz33) ?_
        refine sq rfl rfl hn rfl (q_load rfl rfl (id := 3) rfl Try.underlying33 rfl rfl sees0) ?_
        refine sq rfl rfl hn rfl (q_fieldAddr rfl rfl Try.underlying59 rfl sz3) ?_
        refine sq rfl rfl hn rfl (q_load rfl rfl (id := 7) rfl Try.underlying3 rfl rfl sees0) ?_
        refine sq rfl rfl hn rfl (q_fieldAddr rfl rfl Try.underlying59 rfl sz3) ?_
        refine sq rfl rfl hn rfl (q_load rfl rfl (id := 7) rfl Try.underlying3 rfl rfl sees0) ?_
        refine sq rfl rfl hn rfl (q_fieldAddr rfl rfl Try.underlying59 rfl sz3) ?_
        refine sq rfl rfl hn rfl (q_load rfl rfl (id := 7) rfl Try.underlying3 rfl rfl sees0) ?_
        refine sq rfl rfl hn rfl (q_buildd rfl bt92 rfl rfl rfl rfl rfl) ?_
        refine stepW (s_buildSlice rfl rfl rfl (nb hn rfl) Try.underlying33 sz92 zr92 rfl rfl rfl (show _ = [.d (.int .i64 0), .d (.int .i64 0), .d (.int .i64 0)] from by kernel_rfl) (by kernel_rfl) rfl (fill_agg (by kernel_rfl) rfl) (allD_d _) (beq_len rfl) (chunk_one rfl)) fun _ => ?_
        refine stepW (s_append (id := 303) rfl rfl rfl (nb hn rfl) elt33 trivial rfl rfl rfl (by simp [List.length_take]; omega) (by simp [List.length_take]; omega) (fun b hb => trivial)) fun v69 => ?_
        refine sq rfl rfl hn rfl (q_fieldAddr rfl rfl Try.underlying35 rfl sz33) ?_
        refine stepW (s_storeRow rfl rfl rfl rfl rfl (rid := 303) rfl (id := 3) rfl sz33 (Nat.le_of_ble_eq_true rfl) rfl trivial) fun _ => ?_
        refine run_nil ?_
        refine aend_block ?_
        refine aend_then ?_
        refine awp_region ?_
        refine sq rfl rfl hn rfl (q_move rfl rfl) ?_
        refine sq rfl rfl hn rfl (q_add rfl rfl rfl (r := ((i + 1 : Nat) : Int)) (i64w (by omega) (by omega))) ?_
        refine sq rfl rfl hn rfl (q_assign rfl rfl) ?_
        refine run_nil ?_
        exact aend_round_on ⟨(i + 1, v69), by simp only; omega⟩ ⟨.inl rfl, holdT_anys _⟩ ⟨.inl rfl, .inl (congrArg (fun z => some (Res.row v69 92 3 z)) (take_map hx)), holdR_gones _⟩ (by simp only; omega) (by repeat (first | exact kr _ | refine kc rfl ?_)) (by repeat (first | exact kr _ | refine kc rfl ?_))
      · try simp only [decide_eq_true_eq, decide_eq_false_iff_not, Bool.and_eq_true, Bool.or_eq_true, Bool.and_eq_false_iff, Bool.or_eq_false_iff, Bool.not_eq_true', Bool.not_eq_false', beq_iff_eq, bne_iff_ne, ne_eq, beq_eq_false_iff_ne, bne_eq_false_iff_eq, Int.not_lt, Int.not_le] at hb2
        have hie : i = r.sights.length := by simp only [List.length_map] at hb2; omega
        subst hie; rw [List.take_length]
        refine awp_exit ?_
        refine aend_then_exit ?_
        refine aend_then_exit ?_
        refine aend_block_exit ?_
        refine aend_then ?_
        refine awp_seq ?_
        refine gh_awp (gh_rowcell (id := 3) (k := 2) (rid := 302) rfl rfl rfl) ?_
        refine gh_awp (gh_rowcell (id := 3) (k := 3) (rid := 303) rfl rfl rfl) ?_
        refine awp_region ?_
        refine sq rfl rfl hn rfl (q_loadAd rfl rfl (id := 3) rfl Try.underlying35 rfl sz35 rfl rfl sees0) ?_
        refine stepW (s_store rfl rfl rfl rfl rfl rfl (id := 2) rfl sz35 rfl (Nat.le_of_ble_eq_true rfl) rfl trivial) fun _ => ?_
        refine run_nil ?_
        refine aend_then ?_
        refine awp_ret ?_
        exact ret_1 (.inl rfl) hl rfl (.cellA rfl (id := 2) rfl Try.underlying35 rfl sz35 rfl rfl)
theorem loan_ok (more : List Ent5) (sights : List Sight5) (h5 : more.length ≤ 1000) : PureAt Try.prog 49 [entsD more, sightsD sights] (regD (loanR more sights)) := by
  refine PureAt.of_awp Try.func49 rfl (by kernel_rfl) (Nat.le_of_ble_eq_true rfl) fun Γ hn hl => ?_
  refine awp_seq ?_
  refine awp_region ?_
  refine stepW (s_alloc 4 rfl rfl rfl (nb hn rfl) zr35 rfl rfl) fun b4 => ?_
  refine run_nil ?_
  refine aend_then ?_
  refine awp_seq ?_
  refine awp_region ?_
  refine sq rfl rfl hn rfl (q_buildd rfl bt45 rfl rfl rfl rfl rfl) ?_
  refine sq rfl rfl hn rfl (q_buildd rfl bt95 rfl rfl rfl rfl rfl) ?_
  refine sq rfl rfl hn rfl (q_buildd rfl bt45 rfl rfl rfl rfl rfl) ?_
  refine sq rfl rfl hn rfl (q_buildd rfl bt95 rfl rfl rfl rfl rfl) ?_
  refine sq rfl rfl hn rfl (q_buildd rfl bt45 rfl rfl rfl rfl rfl) ?_
  refine sq rfl rfl hn rfl (q_buildd rfl bt95 rfl rfl rfl rfl rfl) ?_
  refine stepW (s_buildRow 5 rfl rfl rfl (nb hn rfl) Try.underlying32 sz95 zr95 rfl rfl rfl (show _ = [.d (.int .i64 0), .d (.int .i64 0), .d (.int .i64 0), .d (.int .i64 0), .d (.int .i64 0), .d (.int .i64 0), .d (.int .i64 0), .d (.int .i64 0), .d (.int .i64 0), .d (.int .i64 0), .d (.int .i64 0), .d (.int .i64 0), .d (.int .i64 0), .d (.int .i64 0), .d (.int .i64 0), .d (.int .i64 0), .d (.int .i64 0), .d (.int .i64 0)] from by kernel_rfl) (by kernel_rfl) rfl rfl rfl rfl rfl) fun v12 => ?_
  refine sq rfl rfl hn rfl (q_assign rfl rfl) ?_
  refine run_nil ?_
  refine aend_then ?_
  refine awp_seq ?_
  refine awp_region ?_
  refine stepW (s_buildSlice rfl rfl rfl (nb hn rfl) Try.underlying22 sz3 zr3 rfl rfl rfl (show _ = [.d (.int .i64 0), .d (.int .i64 0)] from by kernel_rfl) (by kernel_rfl) rfl rfl rfl rfl rfl) fun _ => ?_
  refine sq rfl rfl hn rfl (q_move rfl rfl) ?_
  refine sq rfl rfl hn rfl (q_move rfl rfl) ?_
  refine stepW (s_append (id := 5) rfl rfl rfl (nb hn rfl) elt32 trivial rfl rfl rfl (by simp [chunk]; omega) (by simp [chunk]; omega) (fun b hb => trivial)) fun v16 => ?_
  refine sq rfl rfl hn rfl (q_move rfl rfl) ?_
  refine gh_run (g_row (t := 16) (id := 5) rfl rfl) ?_
  refine sq rfl rfl hn rfl (q_buildd rfl bt35 rfl rfl rfl rfl rfl) ?_
  refine stepW (s_store rfl rfl rfl rfl rfl rfl (id := 4) rfl sz35 rfl (Nat.le_of_ble_eq_true rfl) rfl trivial) fun _ => ?_
  refine run_nil ?_
  refine aend_then ?_
  refine awp_ret ?_
  exact ret_1 (.inl rfl) hl rfl (.cellA rfl (id := 4) rfl Try.underlying35 rfl sz35 rfl rfl)
def heldN (r : Reg) (d : Nat) (house : Int) : Nat := ((placesA r d).take r.start.length).countP fun h => h == house
theorem held_ok (r : Reg) (d : Nat) (house x : Int) (v : Valid r) (hd : d < 18446744073709551616) : PureAt Try.prog 63 [regD r, .int .u64 (d : Nat), .int .i64 house, .int .i64 x] (.int .i64 (heldN r d house : Nat)) := by
  refine PureAt.of_awp Try.func63 rfl (by kernel_rfl) (Nat.le_of_ble_eq_true rfl) fun Γ hn hl => ?_
  have hs4 := v.s4
  have hpl := placesA_len r d
  refine awp_seq ?_
  refine awp_region ?_
  refine stepW (s_box 4 rfl rfl rfl (nb hn rfl) rfl rfl) fun b4 => ?_
  refine sq rfl rfl hn rfl (q_assign rfl rfl) ?_
  refine run_nil ?_
  refine aend_then ?_
  refine awp_seq ?_
  refine awp_region ?_
  refine sq rfl rfl hn rfl (q_loadAd rfl rfl (id := 4) rfl Try.underlying35 rfl sz35 rfl rfl sees0) ?_
  refine sq rfl rfl hn rfl (q_move rfl rfl) ?_
  refine stepW (s_call [] (fun _ => places_ok r _ v (by assumption)) rfl (guard_none rfl) rfl (nb hn rfl) (fun _ => trivial) rfl rfl (.refl _)) fun _ => ?_
  refine stepW (s_alloc 9 rfl rfl rfl (nb hn rfl) zr103 rfl rfl) fun b9 => ?_
  refine stepW (s_store rfl rfl rfl rfl rfl rfl (id := 9) rfl sz103 (cells_len hpl) (Nat.le_of_ble_eq_true rfl) (store_all (by simp [Value.cells])) trivial) fun _ => ?_
  refine run_nil ?_
  refine aend_then ?_
  refine awp_seq ?_
  refine awp_seq ?_
  refine awp_region ?_
  refine sq rfl rfl hn rfl (q_fieldAddr rfl rfl Try.underlying35 rfl sz22) ?_
  refine sq rfl rfl hn rfl (q_load rfl rfl (id := 4) rfl Try.underlying22 rfl rfl sees0) ?_
  refine sq rfl rfl hn rfl (q_len rfl rfl Try.underlying22) ?_
  refine gh_run (g_freeze (t := 9) 9 rfl (nb hn rfl) rfl (allD_int _) trivial) ?_
  refine sq rfl rfl hn rfl (q_slicePh (j := r.start.length) rfl rfl rfl Try.underlying103 sz3 (beq_int4 hpl) (chunk_int4 hpl) rfl (by simp only [List.length_map]) (by omega) (by rw [← List.map_take])) ?_
  refine sq rfl rfl hn rfl (q_len rfl rfl Try.underlying22) ?_
  refine sq rfl rfl hn rfl (q_move rfl rfl) ?_
  refine run_nil ?_
  refine aend_then ?_
  refine awp_block ?_
  refine awp_loop_on (ι := { x : Nat × Nat // x.1 ≤ r.start.length ∧ x.2 = (((placesA r d).take r.start.length).take x.1).countP (fun h => h == house) ∧ x.2 ≤ x.1 }) (fun x => (20, true, .d (.int .i64 (x.1.1 : Nat))) :: (8, true, .d (.int .i64 (x.1.2 : Nat))) :: anys [21, 22, 23, 11, 24, 25, 26, 27, 28, 29]) (fun x => []) (fun x => r.start.length - x.1.1) ⟨(0, 0), by simp⟩ ⟨.inl rfl, .inl rfl, holdT_anys _⟩ trivial ?_
  rintro ⟨⟨i, n⟩, hi, hn5, hle⟩
  dsimp only
  dsimp only at hi hn5 hle
  refine awp_seq ?_
  refine awp_region ?_
  refine sq rfl rfl hn rfl (q_lss rfl rfl rfl) ?_
  refine run_nil ?_
  refine aend_then ?_
  refine awp_seq ?_
  refine awp_cond rfl (fun hb0 => ?_) (fun hb0 => ?_)
  · try simp only [decide_eq_true_eq, decide_eq_false_iff_not, Bool.and_eq_true, Bool.or_eq_true, Bool.and_eq_false_iff, Bool.or_eq_false_iff, Bool.not_eq_true', Bool.not_eq_false', beq_iff_eq, bne_iff_ne, ne_eq, beq_eq_false_iff_ne, bne_eq_false_iff_eq, Int.not_lt, Int.not_le] at hb0
    have hlt : i < r.start.length := by simp only [List.length_map, List.length_take] at hb0; omega
    obtain ⟨p, hp⟩ := ex_get (l := (placesA r d).take r.start.length) (i := i) (by rw [List.length_take]; omega)
    refine awp_skip ?_
    refine aend_then ?_
    refine awp_seq ?_
    refine awp_block ?_
    refine awp_seq ?_
    refine awp_region ?_
    refine sq rfl rfl hn rfl (q_index rfl rfl rfl Try.underlying22 sz3 rfl (mget hp)) ?_
    refine sq rfl rfl hn rfl (q_loadp rfl rfl Try.underlying3 rfl seesF0) ?_
    refine sq rfl rfl hn rfl (q_assign rfl rfl) ?_
    refine run_nil ?_
    refine aend_then ?_
    refine awp_seq ?_
    refine awp_region ?_
    refine sq rfl rfl hn rfl (q_move rfl rfl) ?_
    refine sq rfl rfl hn rfl (q_move rfl rfl) ?_
    refine sq rfl rfl hn rfl (q_eql rfl rfl rfl) ?_
    refine run_nil ?_
    refine aend_then ?_
    refine awp_cond rfl (fun hb1 => ?_) (fun hb1 => ?_)
    · skip
      refine awp_region ?_
      refine sq rfl rfl hn rfl (q_move rfl rfl) ?_
      refine sq rfl rfl hn rfl (q_add rfl rfl rfl (r := ((n + 1 : Nat) : Int)) (i64w (by omega) (by omega))) ?_
      refine sq rfl rfl hn rfl (q_assign rfl rfl) ?_
      refine run_nil ?_
      refine aend_block ?_
      refine aend_then ?_
      refine awp_region ?_
      refine sq rfl rfl hn rfl (q_add rfl rfl rfl (r := ((i + 1 : Nat) : Int)) (i64w (by omega) (by omega))) ?_
      refine sq rfl rfl hn rfl (q_move rfl rfl) ?_
      refine run_nil ?_
      exact aend_round_on ⟨(i + 1, n + 1), by simp only; omega, by simp only [List.take_add_one, hp, List.countP_append, hn5]; simp [hb1], by simp only; omega⟩ ⟨.inl rfl, .inl rfl, holdT_anys _⟩ trivial (by simp only; omega) (by repeat (first | exact kr _ | refine kc rfl ?_)) (by repeat (first | exact kr _ | refine kc rfl ?_))
    · skip
      refine awp_skip ?_
      refine aend_block ?_
      refine aend_then ?_
      refine awp_region ?_
      refine sq rfl rfl hn rfl (q_add rfl rfl rfl (r := ((i + 1 : Nat) : Int)) (i64w (by omega) (by omega))) ?_
      refine sq rfl rfl hn rfl (q_move rfl rfl) ?_
      refine run_nil ?_
      exact aend_round_on ⟨(i + 1, n), by simp only; omega, by simp only [List.take_add_one, hp, List.countP_append, hn5]; simp [hb1], by simp only; omega⟩ ⟨.inl rfl, .inl rfl, holdT_anys _⟩ trivial (by simp only; omega) (by repeat (first | exact kr _ | refine kc rfl ?_)) (by repeat (first | exact kr _ | refine kc rfl ?_))
  · try simp only [decide_eq_true_eq, decide_eq_false_iff_not, Bool.and_eq_true, Bool.or_eq_true, Bool.and_eq_false_iff, Bool.or_eq_false_iff, Bool.not_eq_true', Bool.not_eq_false', beq_iff_eq, bne_iff_ne, ne_eq, beq_eq_false_iff_ne, bne_eq_false_iff_eq, Int.not_lt, Int.not_le] at hb0
    refine awp_exit ?_
    refine aend_then_exit ?_
    refine aend_then_exit ?_
    refine aend_block_exit ?_
    refine aend_then ?_
    refine awp_seq ?_
    refine awp_region ?_
    refine sq rfl rfl hn rfl (q_move rfl rfl) ?_
    refine sq rfl rfl hn rfl (q_assign rfl rfl) ?_
    refine run_nil ?_
    refine aend_then ?_
    refine awp_ret ?_
    refine ret_eq (ret_1 (.inl rfl) hl rfl (.tmp rfl)) ?_
    have hie : i = r.start.length := by simp only [List.length_map, List.length_take] at hb0; omega
    subst hie; rw [hn5, List.take_take, Nat.min_self]; rfl
def minL (x : Int) (l : List Int) : Int := l.foldl min x
theorem minL_take {x y : Int} {l : List Int} {i : Nat} (h : l[i]? = some y) : min (minL x (l.take i)) y = minL x (l.take (i + 1)) := by simp [minL, List.take_add_one, h, List.foldl_append]
theorem Min_ok (x : Int) (l : List Int) : PureAt Try.prog 115 [ints (x :: l)] (.int .i64 (minL x l)) := by
  refine PureAt.of_awp' Try.func115 rfl (by kernel_rfl) rfl fun hlen Γ hn hl => ?_
  have hl5 := hlen.1; simp only [List.length_map, List.length_cons] at hl5
  refine awp_seq ?_
  refine awp_region ?_
  refine sq rfl rfl hn rfl (q_assign rfl rfl) ?_
  refine run_nil ?_
  refine aend_then ?_
  refine awp_seq ?_
  refine awp_seq ?_
  refine awp_region ?_
  refine sq rfl rfl hn rfl (q_move rfl rfl) ?_
  refine sq rfl rfl hn rfl (q_len rfl rfl Try.underlying22) ?_
  refine sq rfl rfl hn rfl (q_lss rfl rfl rfl) ?_
  refine run_nil ?_
  refine aend_then ?_
  refine awp_cond rfl (fun hb0 => ?_) (fun hb0 => ?_)
  · skip
    exfalso; simp at hb0; omega
  · try simp only [decide_eq_true_eq, decide_eq_false_iff_not, Bool.and_eq_true, Bool.or_eq_true, Bool.and_eq_false_iff, Bool.or_eq_false_iff, Bool.not_eq_true', Bool.not_eq_false', beq_iff_eq, bne_iff_ne, ne_eq, beq_eq_false_iff_ne, bne_eq_false_iff_eq, Int.not_lt, Int.not_le] at hb0
    refine awp_skip ?_
    refine aend_then ?_
    refine awp_seq ?_
    refine awp_region ?_
    refine sq rfl rfl hn rfl (q_move rfl rfl) ?_
    refine sq rfl rfl hn rfl (q_index (i := 0) rfl rfl rfl Try.underlying22 sz3 rfl rfl) ?_
    refine sq rfl rfl hn rfl (q_loadp rfl rfl Try.underlying3 rfl seesF0) ?_
    refine sq rfl rfl hn rfl (q_assign rfl rfl) ?_
    refine run_nil ?_
    refine aend_then ?_
    refine awp_seq ?_
    refine awp_seq ?_
    refine awp_region ?_
    refine sq rfl rfl hn rfl (q_assign rfl rfl) ?_
    refine run_nil ?_
    refine aend_then ?_
    refine awp_block ?_
    refine awp_loop_on (ι := { i : Nat // i ≤ l.length }) (fun y => (4, true, .d (.int .i64 ((y.1 + 1 : Nat) : Int))) :: (3, true, .d (.int .i64 (minL x (l.take y.1)))) :: anys [12, 13, 14, 15, 18, 19, 20, 21, 22, 23, 16, 17]) (fun y => []) (fun y => l.length - y.1) ⟨0, by simp⟩ ⟨.inl rfl, .inl rfl, holdT_anys _⟩ trivial ?_
    rintro ⟨i, hi⟩
    dsimp only
    refine awp_seq ?_
    refine awp_seq ?_
    refine awp_region ?_
    refine sq rfl rfl hn rfl (q_move rfl rfl) ?_
    refine sq rfl rfl hn rfl (q_move rfl rfl) ?_
    refine sq rfl rfl hn rfl (q_len rfl rfl Try.underlying22) ?_
    refine sq rfl rfl hn rfl (q_lss rfl rfl rfl) ?_
    refine run_nil ?_
    refine aend_then ?_
    refine awp_cond rfl (fun hb1 => ?_) (fun hb1 => ?_)
    · try simp only [decide_eq_true_eq, decide_eq_false_iff_not, Bool.and_eq_true, Bool.or_eq_true, Bool.and_eq_false_iff, Bool.or_eq_false_iff, Bool.not_eq_true', Bool.not_eq_false', beq_iff_eq, bne_iff_ne, ne_eq, beq_eq_false_iff_ne, bne_eq_false_iff_eq, Int.not_lt, Int.not_le] at hb1
      have hlt : i < l.length := by simp at hb1; omega
      obtain ⟨y, hy⟩ := ex_get hlt
      refine awp_skip ?_
      refine aend_then ?_
      refine awp_seq ?_
      refine awp_block ?_
      refine awp_region ?_
      refine sq rfl rfl hn rfl (q_move rfl rfl) ?_
      refine sq rfl rfl hn rfl (q_move rfl rfl) ?_
      refine sq rfl rfl hn rfl (q_move rfl rfl) ?_
      refine sq rfl rfl hn rfl (q_index (i := (i + 1)) rfl rfl rfl Try.underlying22 sz3 rfl (show ((x :: l).map intE)[i + 1]? = some (intE y) from mget (by simpa using hy))) ?_
      refine sq rfl rfl hn rfl (q_loadp rfl rfl Try.underlying3 rfl seesF0) ?_
      refine sq rfl rfl hn rfl (q_min rfl rfl rfl) ?_
      refine sq rfl rfl hn rfl (q_assign rfl rfl) ?_
      refine run_nil ?_
      refine aend_block ?_
      refine aend_then ?_
      refine awp_region ?_
      refine sq rfl rfl hn rfl (q_move rfl rfl) ?_
      refine sq rfl rfl hn rfl (q_add rfl rfl rfl (r := ((i + 1 + 1 : Nat) : Int)) (i64w (by omega) (by omega))) ?_
      refine sq rfl rfl hn rfl (q_assign rfl rfl) ?_
      refine run_nil ?_
      exact aend_round_on ⟨i + 1, by omega⟩ ⟨.inl rfl, .inl (congrArg (fun z => some (true, TV.d (.int .i64 z))) (minL_take hy)), holdT_anys _⟩ trivial (by simp only; omega) (by repeat (first | exact kr _ | refine kc rfl ?_)) (by repeat (first | exact kr _ | refine kc rfl ?_))
    · try simp only [decide_eq_true_eq, decide_eq_false_iff_not, Bool.and_eq_true, Bool.or_eq_true, Bool.and_eq_false_iff, Bool.or_eq_false_iff, Bool.not_eq_true', Bool.not_eq_false', beq_iff_eq, bne_iff_ne, ne_eq, beq_eq_false_iff_ne, bne_eq_false_iff_eq, Int.not_lt, Int.not_le] at hb1
      refine awp_exit ?_
      refine aend_then_exit ?_
      refine aend_then_exit ?_
      refine aend_block_exit ?_
      refine aend_then ?_
      refine awp_seq ?_
      refine awp_region ?_
      refine sq rfl rfl hn rfl (q_move rfl rfl) ?_
      refine sq rfl rfl hn rfl (q_assign rfl rfl) ?_
      refine run_nil ?_
      refine aend_then ?_
      refine awp_ret ?_
      refine ret_eq (ret_1 (.inl rfl) hl rfl (.tmp rfl)) ?_
      have hie : i = l.length := by simp at hb1; omega
      subst hie; rw [List.take_length]
theorem minimum_ok (x : Int) (l : List Int) : PureAt Try.prog 91 [ints (x :: l)] (.int .i64 (minL x l)) := by
  refine PureAt.of_awp Try.func91 rfl (by kernel_rfl) (Nat.le_of_ble_eq_true rfl) fun Γ hn hl => ?_
  refine awp_seq ?_
  refine awp_region ?_
  refine sq rfl rfl hn rfl (q_assign rfl rfl) ?_
  refine run_nil ?_
  refine aend_then ?_
  refine awp_seq ?_
  refine awp_region ?_
  refine sq rfl rfl hn rfl (q_move rfl rfl) ?_
  refine stepW (s_call [] (fun _ => Min_ok x l) rfl (guard_none rfl) rfl (nb hn rfl) (fun _ => trivial) rfl rfl (.refl _)) fun _ => ?_
  refine sq rfl rfl hn rfl (q_assign rfl rfl) ?_
  refine run_nil ?_
  refine aend_then ?_
  refine awp_ret ?_
  exact ret_1 (.inl rfl) hl rfl (.tmp rfl)
def rangeF (l : List Int) : Int × Int := l.foldl (fun p n => (min p.1 n, max p.2 n)) (9, 0)
def countAt (o : List Int) (day n : Nat) (house : Int) : Nat := (List.range n).countP fun s => houseAt o day s == house
def refInHand (r : Reg) (all : List (List Int)) (house : Int) (day : Nat) : Int × Int := rangeF (all.map fun o => (countAt o day r.start.length house : Int))
def refOwed (all : List (List Int)) (a b day : Nat) : Int × Int := rangeF (all.map fun o => openAt o day a b)
section
variable {r : Reg} {b i : Nat}
end
end Go.Proofs.Ytnbmmopjkkofoaa
namespace Go.Proofs.Ytnbmmopjkkofoaa
open Go.RowKit
set_option maxRecDepth 20000
set_option linter.all false
@[reducible] def wordE (n : Nat) : List D := [.int .u16 (n : Nat)]
@[reducible] def wordsD (l : List Nat) : D := .slice 1 (l.map wordE)
/-- One of some words, or 0. -/
def wordN (l : List Nat) (i : Nat) : Nat := bif (l.length : Int) == 0 then 0 else l.getD (i % l.length) 0
/-- Those whose number is not in a list, from a number on. -/
def dropF {α : Type} (out : List Int) : Nat → List α → List α
  | _, [] => []
  | k, x :: xs => bif out.any (fun n => (k : Int) == n) then dropF out (k + 1) xs else x :: dropF out (k + 1) xs
def dropR (r : Reg) (out : List Int) : Reg := ⟨r.houses, r.start, dropF out 0 r.entries, dropF out r.entries.length r.sights⟩
theorem dropF_len {α : Type} {out : List Int} : ∀ {k : Nat} {l : List α}, (dropF out k l).length ≤ l.length
  | _, [] => Nat.le_refl _
  | k, x :: xs => by
    simp only [dropF]
    cases out.any (fun n => (k : Int) == n)
    · simpa using dropF_len
    · exact Nat.le_succ_of_le dropF_len
theorem dropF_append {α : Type} {out : List Int} {x : α} : ∀ {k : Nat} {l : List α}, dropF out k (l ++ [x]) = dropF out k l ++ (bif out.any (fun n => ((k + l.length : Nat) : Int) == n) then [] else [x])
  | k, [] => by simp only [List.nil_append, dropF, List.length_nil, Nat.add_zero]
  | k, y :: l => by
    simp only [List.cons_append, dropF, dropF_append (k := k + 1) (l := l), List.length_cons, show k + 1 + l.length = k + (l.length + 1) by omega]
    cases out.any (fun n => (k : Int) == n) <;> rfl
theorem dropF_take {α : Type} {out : List Int} {k i : Nat} {l : List α} {x : α} (h : l[i]? = some x) : dropF out k (l.take (i + 1)) = dropF out k (l.take i) ++ (bif out.any (fun n => ((k + i : Nat) : Int) == n) then [] else [x]) := by
  have hlt := (List.getElem?_eq_some_iff.1 h).1
  rw [List.take_add_one, h]
  simp only [Option.toList_some]
  rw [dropF_append, List.length_take, Nat.min_eq_left (by omega)]
theorem sz71 : Sz Try.prog 71 1 := (by kernel_rfl : (Try.prog.info? 71).map (·.size) = some 1)
theorem sz109 : Sz Try.prog 109 1 := (by kernel_rfl : (Try.prog.info? 109).map (·.size) = some 1)
theorem Contains_ok (l : List Int) (n : Int) : PureAt Try.prog 94 [ints l, .int .i64 n] (.bool (l.any fun x => n == x)) := by
  refine PureAt.of_awp Try.func94 rfl (by kernel_rfl) (Nat.le_of_ble_eq_true rfl) fun Γ hn hl => ?_
  refine awp_seq ?_
  refine awp_region ?_
  refine sq rfl rfl hn rfl (q_assign rfl rfl) ?_
  refine run_nil ?_
  refine aend_then ?_
  refine awp_seq ?_
  refine awp_region ?_
  refine sq rfl rfl hn rfl (q_move rfl rfl) ?_
  refine sq rfl rfl hn rfl (q_move rfl rfl) ?_
  refine stepW (s_call [] (fun _ => Index_ok _ _) rfl (guard_none rfl) rfl (nb hn rfl) (fun _ => trivial) rfl rfl (.refl _)) fun _ => ?_
  refine sq rfl rfl hn rfl (q_geq rfl rfl rfl) ?_
  refine sq rfl rfl hn rfl (q_assign rfl rfl) ?_
  refine run_nil ?_
  refine aend_then ?_
  refine awp_ret ?_
  refine ret_eq (ret_1 (.inl rfl) hl rfl (.tmp rfl)) ?_
  rw [idxOf_nonneg]
theorem word_ok (l : List Nat) (i : Nat) (hl6 : ∀ x ∈ l, x < 65536) : PureAt Try.prog 66 [wordsD l, .int .i64 (i : Nat)] (.int .i64 (wordN l i : Nat)) := by
  refine PureAt.of_awp Try.func66 rfl (by kernel_rfl) (Nat.le_of_ble_eq_true rfl) fun Γ hn hl => ?_
  refine awp_seq ?_
  refine awp_region ?_
  refine sq rfl rfl hn rfl (q_assign rfl rfl) ?_
  refine run_nil ?_
  refine aend_then ?_
  refine awp_seq ?_
  refine awp_seq ?_
  refine awp_region ?_
  refine sq rfl rfl hn rfl (q_move rfl rfl) ?_
  refine sq rfl rfl hn rfl (q_len rfl rfl Try.underlying52) ?_
  refine sq rfl rfl hn rfl (q_eql rfl rfl rfl) ?_
  refine run_nil ?_
  refine aend_then ?_
  refine awp_cond rfl (fun hb0 => ?_) (fun hb0 => ?_)
  · skip
    refine awp_seq ?_
    refine awp_region ?_
    refine sq rfl rfl hn rfl (q_assign rfl rfl) ?_
    refine run_nil ?_
    refine aend_then ?_
    refine awp_ret ?_
    refine aend_then_ret ?_
    refine ret_eq (ret_1 (.inl rfl) hl rfl (.tmp rfl)) ?_
    simp only [List.length_map] at hb0; rw [wordN, hb0]; rfl
  · skip
    have hpos : 0 < l.length := by simp at hb0; exact List.length_pos_iff.2 hb0
    have hlt : i % l.length < l.length := Nat.mod_lt _ hpos
    obtain ⟨x, hx⟩ := ex_get hlt
    have hx6 := hl6 x (List.mem_of_getElem? hx)
    refine awp_skip ?_
    refine aend_then ?_
    refine awp_seq ?_
    refine awp_region ?_
    refine sq rfl rfl hn rfl (q_move rfl rfl) ?_
    refine sq rfl rfl hn rfl (q_move rfl rfl) ?_
    refine sq rfl rfl hn rfl (q_move rfl rfl) ?_
    refine sq rfl rfl hn rfl (q_len rfl rfl Try.underlying52) ?_
    refine sq rfl rfl hn rfl (q_rem rfl rfl rfl (r := ((i % l.length : Nat) : Int)) (by simp only [List.length_map]; omega) (by simp only [List.length_map]; rw [Int.ofNat_tmod])) ?_
    refine sq rfl rfl hn rfl (q_index rfl rfl rfl Try.underlying52 sz71 rfl (mget hx)) ?_
    refine sq rfl rfl hn rfl (q_loadp rfl rfl Try.underlying71 rfl seesF0) ?_
    refine sq rfl rfl hn rfl (q_conv rfl rfl Try.underlying71 Try.underlying3 (i64w (by omega) rfl)) ?_
    refine sq rfl rfl hn rfl (q_assign rfl rfl) ?_
    refine run_nil ?_
    refine aend_then ?_
    refine awp_ret ?_
    refine ret_eq (ret_1 (.inl rfl) hl rfl (.tmp rfl)) ?_
    simp only [List.length_map] at hb0; rw [wordN, hb0]; simp only [cond_false]; rw [List.getD_eq_getElem?_getD, hx]; rfl
theorem dr_f {α : Type} {out : List Int} {k i : Nat} {l : List α} {x : α} {f : α → List D} (h : l[i]? = some x) (hb : (out.any fun n => ((k + i : Nat) : Int) == n) = false) : (dropF out k (l.take i)).map f ++ [f x] = (dropF out k (l.take (i + 1))).map f := by
  rw [dropF_take h, hb]; simp
theorem dr_t {α : Type} {out : List Int} {k i : Nat} {l : List α} {x : α} {f : α → List D} (h : l[i]? = some x) (hb : (out.any fun n => ((k + i : Nat) : Int) == n) = true) : (dropF out k (l.take i)).map f = (dropF out k (l.take (i + 1))).map f := by
  rw [dropF_take h, hb]; simp
theorem without_ok (r : Reg) (out : List Int) (h2 : r.entries.length ≤ 20) (h3 : r.sights.length ≤ 20) : PureAt Try.prog 72 [regD r, ints out] (regD (dropR r out)) := by
  refine PureAt.of_awp Try.func72 rfl (by kernel_rfl) (Nat.le_of_ble_eq_true rfl) fun Γ hn hl => ?_
  refine awp_seq ?_
  refine awp_region ?_
  refine stepW (s_box 2 rfl rfl rfl (nb hn rfl) rfl rfl) fun b2 => ?_
  refine stepW (s_alloc 4 rfl rfl rfl (nb hn rfl) zr35 rfl rfl) fun b4 => ?_
  refine run_nil ?_
  refine aend_then ?_
  refine awp_seq ?_
  refine awp_region ?_
  refine sq rfl rfl hn rfl (q_fieldAddr rfl rfl Try.underlying35 rfl sz3) ?_
  refine sq rfl rfl hn rfl (q_load rfl rfl (id := 2) rfl Try.underlying3 rfl rfl sees0) ?_
  refine sq rfl rfl hn rfl (q_fieldAddr rfl rfl Try.underlying35 rfl sz22) ?_
  refine sq rfl rfl hn rfl (q_load rfl rfl (id := 2) rfl Try.underlying22 rfl rfl sees0) ?_
  refine sq rfl rfl hn rfl (q_buildd rfl bt35 rfl rfl rfl rfl rfl) ?_
  refine stepW (s_alloc 5 rfl rfl rfl (nb hn rfl) zr35 rfl rfl) fun b5 => ?_
  refine stepW (s_store rfl rfl rfl rfl rfl rfl (id := 5) rfl sz35 rfl (Nat.le_of_ble_eq_true rfl) rfl trivial) fun _ => ?_
  refine run_nil ?_
  refine aend_then ?_
  refine awp_seq ?_
  refine awp_seq ?_
  refine gh_awp (gh_nilcell (id := 5) (k := 2) 502 95 6 rfl rfl) ?_
  refine gh_awp (gh_nilcell (id := 5) (k := 3) 503 92 3 rfl rfl) ?_
  refine awp_region ?_
  refine sq rfl rfl hn rfl (q_fieldAddr rfl rfl Try.underlying35 rfl sz32) ?_
  refine sq rfl rfl hn rfl (q_load rfl rfl (id := 2) rfl Try.underlying32 rfl rfl sees0) ?_
  refine sq rfl rfl hn rfl (q_len rfl rfl Try.underlying32) ?_
  refine sq rfl rfl hn rfl (q_move rfl rfl) ?_
  refine run_nil ?_
  refine aend_then ?_
  refine awp_block ?_
  refine awp_loop_on (ι := { x : Nat × Value // x.1 ≤ r.entries.length }) (fun x => (18, true, .d (.int .i64 (x.1.1 : Nat))) :: anys [19, 20, 21, 22, 7, 6, 23, 24, 25, 26, 27, 28, 29, 30, 31, 32, 33]) (fun x => (5, .box b5 35 [.d (.int .i64 r.houses), .d (ints r.start), .val x.1.2, .val (.slice none 0 0)]) :: (502, .row x.1.2 95 6 ((dropF out 0 (r.entries.take x.1.1)).map entE)) :: gones [7]) (fun x => r.entries.length - x.1.1) ⟨(0, .slice none 0 0), by simp⟩ ⟨.inl rfl, holdT_anys _⟩ ⟨.inl rfl, .inl rfl, holdR_gones _⟩ ?_
  rintro ⟨⟨i, vv⟩, hi⟩
  dsimp only
  dsimp only at hi
  have hkl := dropF_len (out := out) (k := 0) (l := r.entries.take i)
  rw [List.length_take] at hkl
  refine awp_seq ?_
  refine awp_region ?_
  refine sq rfl rfl hn rfl (q_lss rfl rfl rfl) ?_
  refine run_nil ?_
  refine aend_then ?_
  refine awp_seq ?_
  refine awp_cond rfl (fun hb0 => ?_) (fun hb0 => ?_)
  · try simp only [decide_eq_true_eq, decide_eq_false_iff_not, Bool.and_eq_true, Bool.or_eq_true, Bool.and_eq_false_iff, Bool.or_eq_false_iff, Bool.not_eq_true', Bool.not_eq_false', beq_iff_eq, bne_iff_ne, ne_eq, beq_eq_false_iff_ne, bne_eq_false_iff_eq, Int.not_lt, Int.not_le] at hb0
    have hlt : i < r.entries.length := by simpa using hb0
    obtain ⟨x, hx⟩ := ex_get hlt
    refine awp_skip ?_
    refine aend_then ?_
    refine awp_seq ?_
    refine awp_block ?_
    refine awp_seq ?_
    refine awp_region ?_
    refine sq rfl rfl hn rfl (q_move rfl rfl) ?_
    refine sq rfl rfl hn rfl (q_index rfl rfl rfl Try.underlying32 sz95 rfl (mget hx)) ?_
    refine sq rfl rfl hn rfl (q_loadpA rfl rfl Try.underlying95 rfl sz95 rfl rfl seesF0) ?_
    refine stepW (s_alloc 7 rfl rfl rfl (nb hn rfl) zr95 rfl rfl) fun b7 => ?_
    refine sq rfl rfl hn rfl (q_assign rfl rfl) ?_
    refine stepW (s_store rfl rfl rfl rfl rfl rfl (id := 7) rfl sz95 rfl (Nat.le_of_ble_eq_true rfl) rfl trivial) fun _ => ?_
    refine run_nil ?_
    refine aend_then ?_
    refine awp_seq ?_
    refine awp_region ?_
    refine sq rfl rfl hn rfl (q_move rfl rfl) ?_
    refine sq rfl rfl hn rfl (q_move rfl rfl) ?_
    refine stepW (s_call [] (fun _ => Contains_ok out (i : Int)) rfl (guard_none rfl) rfl (nb hn rfl) (fun _ => trivial) rfl rfl (.refl _)) fun _ => ?_
    refine sq rfl rfl hn rfl (q_not rfl rfl) ?_
    refine run_nil ?_
    refine aend_then ?_
    refine awp_cond rfl (fun hb1 => ?_) (fun hb1 => ?_)
    · skip
      refine awp_region ?_
      refine sq rfl rfl hn rfl (q_fieldAddr rfl rfl Try.underlying35 rfl sz32) ?_
      refine sq rfl rfl hn rfl (q_load rfl rfl (id := 5) rfl Try.underlying32 rfl rfl sees0) ?_
      refine sq rfl rfl hn rfl (q_loadAd rfl rfl (id := 7) rfl Try.underlying95 rfl sz95 rfl rfl sees0) ?_
      refine stepW (s_buildSlice rfl rfl rfl (nb hn rfl) Try.underlying32 sz95 zr95 rfl rfl rfl (show _ = [.d (.int .i64 0), .d (.int .i64 0), .d (.int .i64 0), .d (.int .i64 0), .d (.int .i64 0), .d (.int .i64 0)] from by kernel_rfl) (by kernel_rfl) rfl (fill_agg rfl rfl) (allD_d _) (beq_len rfl) (chunk_one rfl)) fun _ => ?_
      refine stepW (s_append (id := 502) rfl rfl rfl (nb hn rfl) elt32 trivial rfl rfl rfl (by simp; omega) (by simp; omega) (fun b hb => trivial)) fun v31 => ?_
      refine sq rfl rfl hn rfl (q_fieldAddr rfl rfl Try.underlying35 rfl sz32) ?_
      refine stepW (s_storeRow rfl rfl rfl rfl rfl (rid := 502) rfl (id := 5) rfl sz32 (Nat.le_of_ble_eq_true rfl) rfl trivial) fun _ => ?_
      refine run_nil ?_
      refine aend_block ?_
      refine aend_then ?_
      refine awp_region ?_
      refine sq rfl rfl hn rfl (q_add rfl rfl rfl (r := ((i + 1 : Nat) : Int)) (i64w (by omega) (by omega))) ?_
      refine sq rfl rfl hn rfl (q_move rfl rfl) ?_
      refine run_nil ?_
      exact aend_round_on ⟨(i + 1, v31), by simp only; omega⟩ ⟨.inl rfl, holdT_anys _⟩ ⟨.inl rfl, .inl (congrArg (fun z => some (Res.row v31 95 6 z)) (dr_f (f := entE) hx (by rw [Nat.zero_add]; exact notT hb1))), holdR_gones _⟩ (by simp only; omega) (by repeat (first | exact kr _ | refine kc rfl ?_)) (by repeat (first | exact kr _ | refine kc rfl ?_))
    · skip
      refine awp_skip ?_
      refine aend_block ?_
      refine aend_then ?_
      refine awp_region ?_
      refine sq rfl rfl hn rfl (q_add rfl rfl rfl (r := ((i + 1 : Nat) : Int)) (i64w (by omega) (by omega))) ?_
      refine sq rfl rfl hn rfl (q_move rfl rfl) ?_
      refine run_nil ?_
      exact aend_round_on ⟨(i + 1, vv), by simp only; omega⟩ ⟨.inl rfl, holdT_anys _⟩ ⟨.inl rfl, .inl (congrArg (fun z => some (Res.row vv 95 6 z)) (dr_t (f := entE) hx (by rw [Nat.zero_add]; exact notF hb1))), holdR_gones _⟩ (by simp only; omega) (by repeat (first | exact kr _ | refine kc rfl ?_)) (by repeat (first | exact kr _ | refine kc rfl ?_))
  · try simp only [decide_eq_true_eq, decide_eq_false_iff_not, Bool.and_eq_true, Bool.or_eq_true, Bool.and_eq_false_iff, Bool.or_eq_false_iff, Bool.not_eq_true', Bool.not_eq_false', beq_iff_eq, bne_iff_ne, ne_eq, beq_eq_false_iff_ne, bne_eq_false_iff_eq, Int.not_lt, Int.not_le] at hb0
    have hie : i = r.entries.length := by simp only [List.length_map] at hb0; omega
    subst hie; rw [List.take_length]
    refine awp_exit ?_
    refine aend_then_exit ?_
    refine aend_then_exit ?_
    refine aend_block_exit ?_
    refine aend_then ?_
    refine awp_seq ?_
    refine awp_seq ?_
    refine awp_region ?_
    refine sq rfl rfl hn rfl (q_fieldAddr rfl rfl Try.underlying35 rfl sz33) ?_
    refine sq rfl rfl hn rfl (q_load rfl rfl (id := 2) rfl Try.underlying33 rfl rfl sees0) ?_
    refine sq rfl rfl hn rfl (q_len rfl rfl Try.underlying33) ?_
    refine sq rfl rfl hn rfl (q_move rfl rfl) ?_
    refine run_nil ?_
    refine aend_then ?_
    refine awp_block ?_
    refine awp_loop_on (ι := { x : Nat × Value // x.1 ≤ r.sights.length }) (fun x => (37, true, .d (.int .i64 (x.1.1 : Nat))) :: anys [38, 39, 40, 41, 9, 8, 42, 43, 44, 45, 46, 47, 48, 49, 50, 51, 52, 53, 54, 55, 56]) (fun x => (5, .box b5 35 [.d (.int .i64 r.houses), .d (ints r.start), .val vv, .val x.1.2]) :: (503, .row x.1.2 92 3 ((dropF out r.entries.length (r.sights.take x.1.1)).map sightE)) :: gones [9]) (fun x => r.sights.length - x.1.1) ⟨(0, .slice none 0 0), by simp⟩ ⟨.inl rfl, holdT_anys _⟩ ⟨.inl rfl, .inl rfl, holdR_gones _⟩ ?_
    rintro ⟨⟨j, vw⟩, hj⟩
    dsimp only
    dsimp only at hj
    have hkl := dropF_len (out := out) (k := r.entries.length) (l := r.sights.take j)
    rw [List.length_take] at hkl
    refine awp_seq ?_
    refine awp_region ?_
    refine sq rfl rfl hn rfl (q_lss rfl rfl rfl) ?_
    refine run_nil ?_
    refine aend_then ?_
    refine awp_seq ?_
    refine awp_cond rfl (fun hb2 => ?_) (fun hb2 => ?_)
    · try simp only [decide_eq_true_eq, decide_eq_false_iff_not, Bool.and_eq_true, Bool.or_eq_true, Bool.and_eq_false_iff, Bool.or_eq_false_iff, Bool.not_eq_true', Bool.not_eq_false', beq_iff_eq, bne_iff_ne, ne_eq, beq_eq_false_iff_ne, bne_eq_false_iff_eq, Int.not_lt, Int.not_le] at hb2
      have hlt : j < r.sights.length := by simpa using hb2
      obtain ⟨x, hx⟩ := ex_get hlt
      refine awp_skip ?_
      refine aend_then ?_
      refine awp_seq ?_
      refine awp_block ?_
      refine awp_seq ?_
      refine awp_region ?_
      refine sq rfl rfl hn rfl (q_move rfl rfl) ?_
      refine sq rfl rfl hn rfl (q_index rfl rfl rfl Try.underlying33 sz92 rfl (mget hx)) ?_
      refine sq rfl rfl hn rfl (q_loadpA rfl rfl Try.underlying92 rfl sz92 rfl rfl seesF0) ?_
      refine stepW (s_alloc 9 rfl rfl rfl (nb hn rfl) zr92 rfl rfl) fun b9 => ?_
      refine sq rfl rfl hn rfl (q_assign rfl rfl) ?_
      refine stepW (s_store rfl rfl rfl rfl rfl rfl (id := 9) rfl sz92 rfl (Nat.le_of_ble_eq_true rfl) rfl trivial) fun _ => ?_
      refine run_nil ?_
      refine aend_then ?_
      refine awp_seq ?_
      refine awp_region ?_
      refine sq rfl rfl hn rfl (q_move rfl rfl) ?_
      refine sq rfl rfl hn rfl (q_fieldAddr rfl rfl Try.underlying35 rfl sz32) ?_
      refine sq rfl rfl hn rfl (q_load rfl rfl (id := 2) rfl Try.underlying32 rfl rfl sees0) ?_
      refine sq rfl rfl hn rfl (q_len rfl rfl Try.underlying32) ?_
      refine sq rfl rfl hn rfl (q_move rfl rfl) ?_
      refine sq rfl rfl hn rfl (q_add rfl rfl rfl (r := ((r.entries.length + j : Nat) : Int)) (i64w (by simp only [List.length_map]; omega) (by simp only [List.length_map]; omega))) ?_
      refine stepW (s_call [] (fun _ => Contains_ok out ((r.entries.length + j : Nat) : Int)) rfl (guard_none rfl) rfl (nb hn rfl) (fun _ => trivial) rfl rfl (.refl _)) fun _ => ?_
      refine sq rfl rfl hn rfl (q_not rfl rfl) ?_
      refine run_nil ?_
      refine aend_then ?_
      refine awp_cond rfl (fun hb3 => ?_) (fun hb3 => ?_)
      · skip
        refine awp_region ?_
        refine sq rfl rfl hn rfl (q_fieldAddr rfl rfl Try.underlying35 rfl sz33) ?_
        refine sq rfl rfl hn rfl (q_load rfl rfl (id := 5) rfl Try.underlying33 rfl rfl sees0) ?_
        refine sq rfl rfl hn rfl (q_loadAd rfl rfl (id := 9) rfl Try.underlying92 rfl sz92 rfl rfl sees0) ?_
        refine stepW (s_buildSlice rfl rfl rfl (nb hn rfl) Try.underlying33 sz92 zr92 rfl rfl rfl (show _ = [.d (.int .i64 0), .d (.int .i64 0), .d (.int .i64 0)] from by kernel_rfl) (by kernel_rfl) rfl (fill_agg rfl rfl) (allD_d _) (beq_len rfl) (chunk_one rfl)) fun _ => ?_
        refine stepW (s_append (id := 503) rfl rfl rfl (nb hn rfl) elt33 trivial rfl rfl rfl (by simp; omega) (by simp; omega) (fun b hb => trivial)) fun v54 => ?_
        refine sq rfl rfl hn rfl (q_fieldAddr rfl rfl Try.underlying35 rfl sz33) ?_
        refine stepW (s_storeRow rfl rfl rfl rfl rfl (rid := 503) rfl (id := 5) rfl sz33 (Nat.le_of_ble_eq_true rfl) rfl trivial) fun _ => ?_
        refine run_nil ?_
        refine aend_block ?_
        refine aend_then ?_
        refine awp_region ?_
        refine sq rfl rfl hn rfl (q_add rfl rfl rfl (r := ((j + 1 : Nat) : Int)) (i64w (by omega) (by omega))) ?_
        refine sq rfl rfl hn rfl (q_move rfl rfl) ?_
        refine run_nil ?_
        exact aend_round_on ⟨(j + 1, v54), by simp only; omega⟩ ⟨.inl rfl, holdT_anys _⟩ ⟨.inl rfl, .inl (congrArg (fun z => some (Res.row v54 92 3 z)) (dr_f (f := sightE) hx (notT hb3))), holdR_gones _⟩ (by simp only; omega) (by repeat (first | exact kr _ | refine kc rfl ?_)) (by repeat (first | exact kr _ | refine kc rfl ?_))
      · skip
        refine awp_skip ?_
        refine aend_block ?_
        refine aend_then ?_
        refine awp_region ?_
        refine sq rfl rfl hn rfl (q_add rfl rfl rfl (r := ((j + 1 : Nat) : Int)) (i64w (by omega) (by omega))) ?_
        refine sq rfl rfl hn rfl (q_move rfl rfl) ?_
        refine run_nil ?_
        exact aend_round_on ⟨(j + 1, vw), by simp only; omega⟩ ⟨.inl rfl, holdT_anys _⟩ ⟨.inl rfl, .inl (congrArg (fun z => some (Res.row vw 92 3 z)) (dr_t (f := sightE) hx (notF hb3))), holdR_gones _⟩ (by simp only; omega) (by repeat (first | exact kr _ | refine kc rfl ?_)) (by repeat (first | exact kr _ | refine kc rfl ?_))
    · try simp only [decide_eq_true_eq, decide_eq_false_iff_not, Bool.and_eq_true, Bool.or_eq_true, Bool.and_eq_false_iff, Bool.or_eq_false_iff, Bool.not_eq_true', Bool.not_eq_false', beq_iff_eq, bne_iff_ne, ne_eq, beq_eq_false_iff_ne, bne_eq_false_iff_eq, Int.not_lt, Int.not_le] at hb2
      have hje : j = r.sights.length := by simp only [List.length_map] at hb2; omega
      subst hje; rw [List.take_length]
      refine awp_exit ?_
      refine aend_then_exit ?_
      refine aend_then_exit ?_
      refine aend_block_exit ?_
      refine aend_then ?_
      refine awp_seq ?_
      refine gh_awp (gh_rowcell (id := 5) (k := 2) (rid := 502) rfl rfl rfl) ?_
      refine gh_awp (gh_rowcell (id := 5) (k := 3) (rid := 503) rfl rfl rfl) ?_
      refine awp_region ?_
      refine sq rfl rfl hn rfl (q_loadAd rfl rfl (id := 5) rfl Try.underlying35 rfl sz35 rfl rfl sees0) ?_
      refine stepW (s_store rfl rfl rfl rfl rfl rfl (id := 4) rfl sz35 rfl (Nat.le_of_ble_eq_true rfl) rfl trivial) fun _ => ?_
      refine run_nil ?_
      refine aend_then ?_
      refine awp_ret ?_
      exact ret_1 (.inl rfl) hl rfl (.cellA rfl (id := 4) rfl Try.underlying35 rfl sz35 rfl rfl)
theorem minL_le {x : Int} {l : List Int} : ∀ y ∈ x :: l, minL x l ≤ y := by
  unfold minL
  induction l generalizing x with
  | nil => intro y hy; simp at hy; simp [hy]
  | cons z l ih =>
    intro y hy
    simp only [List.foldl_cons]
    rcases List.mem_cons.1 hy with rfl | hy
    · exact Int.le_trans (ih _ (List.mem_cons_self)) (Int.min_le_left _ _)
    · rcases List.mem_cons.1 hy with rfl | hy
      · exact Int.le_trans (ih _ (List.mem_cons_self)) (Int.min_le_right _ _)
      · exact ih y (List.mem_cons_of_mem _ hy)
theorem minL_mem {x : Int} {l : List Int} : minL x l ∈ x :: l := by
  unfold minL
  induction l generalizing x with
  | nil => simp
  | cons z l ih =>
    simp only [List.foldl_cons]
    rcases List.mem_cons.1 (ih (x := min x z)) with h | h
    · rw [h]
      by_cases hz : x ≤ z
      · rw [Int.min_eq_left hz]; simp
      · rw [Int.min_eq_right (by omega)]; simp
    · simp [h]
def maxL (x : Int) (l : List Int) : Int := -(minL (-x) (l.map fun n => -n))
theorem maxL_ge {x : Int} {l : List Int} : ∀ y ∈ x :: l, y ≤ maxL x l := by
  intro y hy
  have := minL_le (x := -x) (l := l.map fun n => -n) (-y) (by rcases List.mem_cons.1 hy with rfl | hy; simp; exact List.mem_cons_of_mem _ (List.mem_map.2 ⟨y, hy, rfl⟩))
  unfold maxL
  omega
theorem maxL_mem {x : Int} {l : List Int} : maxL x l ∈ x :: l := by
  have := minL_mem (x := -x) (l := l.map fun n => -n)
  unfold maxL
  rcases List.mem_cons.1 this with h | h
  · rw [h]; simp
  · obtain ⟨n, hn, e⟩ := List.mem_map.1 h
    rw [← e]
    simp [hn]
theorem take_map2 {l : List Nat} {f : Nat → Int} {i : Nat} {x : Nat} (h : l[i]? = some x) : ((l.take i).map f).map intE ++ [intE (f x)] = ((l.take (i + 1)).map f).map intE := by rw [List.take_add_one, h]; simp
theorem bd_neg {d0 : Nat} {l : List Nat} {N : Nat → Int} (hN : ∀ d ∈ d0 :: l, -1000 ≤ N d ∧ N d ≤ 1000) : -9223372036854775808 ≤ 0 - minL (-(N d0)) (l.map fun d => -(N d)) ∧ 0 - minL (-(N d0)) (l.map fun d => -(N d)) ≤ 9223372036854775807 := by
  rcases List.mem_cons.1 (minL_mem (x := -(N d0)) (l := l.map fun d => -(N d))) with h | h
  · rw [h]; have := hN d0 (by simp); omega
  · obtain ⟨d, hd, e⟩ := List.mem_map.1 h
    rw [← e]
    have := hN d (List.mem_cons_of_mem _ hd)
    omega
theorem bounds_ok (r : Reg) (f : FuncId) (a b : Int) (d0 : Nat) (l : List Nat) (N : Nat → Int) (hN : ∀ d ∈ d0 :: l, -1000 ≤ N d ∧ N d ≤ 1000) (hll : l.length ≤ 1000000) (hp : ∀ d ∈ d0 :: l, PureAt Try.prog f [regD r, .int .u64 (d : Nat), .int .i64 a, .int .i64 b] (.int .i64 (N d))) : PureAt Try.prog 64 [.agg [.fn (.func f) [] [], .int .i64 a, .int .i64 b], regD r, donesD (d0 :: l)] (.agg [.int .i64 (minL (N d0) (l.map N)), .int .i64 (maxL (N d0) (l.map N))]) := by
  refine PureAt.of_awp Try.func64 rfl (by kernel_rfl) (Nat.le_of_ble_eq_true rfl) fun Γ hn hl => ?_
  refine awp_seq ?_
  refine awp_region ?_
  refine stepW (s_box 3 rfl rfl rfl (nb hn rfl) rfl rfl) fun b3 => ?_
  refine stepW (s_box 4 rfl rfl rfl (nb hn rfl) rfl rfl) fun b4 => ?_
  refine stepW (s_alloc 6 rfl rfl rfl (nb hn rfl) zr45 rfl rfl) fun b6 => ?_
  refine run_nil ?_
  refine aend_then ?_
  refine awp_seq ?_
  refine awp_region ?_
  refine sq rfl rfl hn rfl (q_assign rfl rfl) ?_
  refine sq rfl rfl hn rfl (q_assign rfl rfl) ?_
  refine run_nil ?_
  refine aend_then ?_
  refine awp_seq ?_
  refine awp_seq ?_
  refine gh_awp (g_nil (t := 7) (id := 7) 3 1 rfl (nb hn rfl)) ?_
  refine gh_awp (g_nil (t := 8) (id := 8) 3 1 rfl (nb hn rfl)) ?_
  refine awp_region ?_
  refine sq rfl rfl hn rfl (q_move rfl rfl) ?_
  refine sq rfl rfl hn rfl (q_len rfl rfl Try.underlying98) ?_
  refine sq rfl rfl hn rfl (q_move rfl rfl) ?_
  refine run_nil ?_
  refine aend_then ?_
  refine awp_block ?_
  refine awp_loop_on (ι := { x : Nat × Value × Value // x.1 ≤ (d0 :: l).length }) (fun x => (14, true, .d (.int .i64 (x.1.1 : Nat))) :: (7, true, .val x.1.2.1) :: (8, true, .val x.1.2.2) :: anys [15, 16, 17, 10, 18, 19, 20, 21, 22, 23, 24, 25, 26, 11, 27, 28, 29, 30, 31, 32, 33, 34, 35, 36]) (fun x => [(7, .row x.1.2.1 3 1 ((((d0 :: l).take x.1.1).map N).map intE)), (8, .row x.1.2.2 3 1 ((((d0 :: l).take x.1.1).map fun d => -(N d)).map intE))]) (fun x => (d0 :: l).length - x.1.1) ⟨(0, .slice none 0 0, .slice none 0 0), by simp⟩ ⟨.inl rfl, .inl rfl, .inl rfl, holdT_anys _⟩ ⟨.inl rfl, .inl rfl, trivial⟩ ?_
  rintro ⟨⟨i, v1, v2⟩, hi⟩
  dsimp only
  dsimp only at hi
  refine awp_seq ?_
  refine awp_region ?_
  refine sq rfl rfl hn rfl (q_lss rfl rfl rfl) ?_
  refine run_nil ?_
  refine aend_then ?_
  refine awp_seq ?_
  refine awp_cond rfl (fun hb0 => ?_) (fun hb0 => ?_)
  · try simp only [decide_eq_true_eq, decide_eq_false_iff_not, Bool.and_eq_true, Bool.or_eq_true, Bool.and_eq_false_iff, Bool.or_eq_false_iff, Bool.not_eq_true', Bool.not_eq_false', beq_iff_eq, bne_iff_ne, ne_eq, beq_eq_false_iff_ne, bne_eq_false_iff_eq, Int.not_lt, Int.not_le] at hb0
    have hlt : i < (d0 :: l).length := by simp only [List.length_map] at hb0; omega
    obtain ⟨d, hd⟩ := ex_get hlt
    have hdm := List.mem_of_getElem? hd
    have hNd := hN d hdm
    have hlt2 : i < l.length + 1 := hlt
    refine awp_skip ?_
    refine aend_then ?_
    refine awp_seq ?_
    refine awp_block ?_
    refine awp_seq ?_
    refine awp_region ?_
    refine sq rfl rfl hn rfl (q_index rfl rfl rfl Try.underlying98 sz102 rfl (mget hd)) ?_
    refine sq rfl rfl hn rfl (q_loadp rfl rfl Try.underlying102 rfl seesF0) ?_
    refine sq rfl rfl hn rfl (q_assign rfl rfl) ?_
    refine run_nil ?_
    refine aend_then ?_
    refine awp_seq ?_
    refine awp_region ?_
    refine sq rfl rfl hn rfl (q_fieldAddr rfl rfl Try.underlying112 rfl sz109) ?_
    refine sq rfl rfl hn rfl (q_load rfl rfl (id := 3) rfl Try.underlying109 rfl rfl sees0) ?_
    refine sq rfl rfl hn rfl (q_loadAd rfl rfl (id := 4) rfl Try.underlying35 rfl sz35 rfl rfl sees0) ?_
    refine sq rfl rfl hn rfl (q_move rfl rfl) ?_
    refine sq rfl rfl hn rfl (q_fieldAddr rfl rfl Try.underlying112 rfl sz3) ?_
    refine sq rfl rfl hn rfl (q_load rfl rfl (id := 3) rfl Try.underlying3 rfl rfl sees0) ?_
    refine sq rfl rfl hn rfl (q_fieldAddr rfl rfl Try.underlying112 rfl sz3) ?_
    refine sq rfl rfl hn rfl (q_load rfl rfl (id := 3) rfl Try.underlying3 rfl rfl sees0) ?_
    refine stepW (s_call [] (fun _ => hp d hdm) rfl (guard_none rfl) rfl (nb hn rfl) (fun _ => trivial) rfl rfl (.refl _)) fun _ => ?_
    refine sq rfl rfl hn rfl (q_assign rfl rfl) ?_
    refine run_nil ?_
    refine aend_then ?_
    refine awp_region ?_
    refine sq rfl rfl hn rfl (q_move rfl rfl) ?_
    refine sq rfl rfl hn rfl (q_move rfl rfl) ?_
    refine stepW (s_buildSlice rfl rfl rfl (nb hn rfl) Try.underlying22 sz3 zr3 rfl rfl rfl (show _ = [.d (.int .i64 0)] from by kernel_rfl) (by kernel_rfl) rfl (fill_int rfl) rfl rfl rfl) fun _ => ?_
    refine stepW (s_append (id := 7) rfl rfl rfl (nb hn rfl) elt22 trivial rfl rfl rfl (by simp [chunk]; omega) (by simp [chunk]; omega) (fun b hb => trivial)) fun v30 => ?_
    refine sq rfl rfl hn rfl (q_move rfl rfl) ?_
    refine sq rfl rfl hn rfl (q_move rfl rfl) ?_
    refine sq rfl rfl hn rfl (q_neg rfl rfl (r := -(N d)) (i64w (by omega) (by omega))) ?_
    refine stepW (s_buildSlice rfl rfl rfl (nb hn rfl) Try.underlying22 sz3 zr3 rfl rfl rfl (show _ = [.d (.int .i64 0)] from by kernel_rfl) (by kernel_rfl) rfl (fill_int rfl) rfl rfl rfl) fun _ => ?_
    refine stepW (s_append (id := 8) rfl rfl rfl (nb hn rfl) elt22 trivial rfl rfl rfl (by simp [chunk]; omega) (by simp [chunk]; omega) (fun b hb => trivial)) fun v35 => ?_
    refine sq rfl rfl hn rfl (q_assign rfl rfl) ?_
    refine sq rfl rfl hn rfl (q_assign rfl rfl) ?_
    refine run_nil ?_
    refine aend_block ?_
    refine aend_then ?_
    refine awp_region ?_
    refine sq rfl rfl hn rfl (q_add rfl rfl rfl (r := ((i + 1 : Nat) : Int)) (i64w (by simp only [List.length_cons] at hlt; omega) (by omega))) ?_
    refine sq rfl rfl hn rfl (q_move rfl rfl) ?_
    refine run_nil ?_
    exact aend_round_on ⟨(i + 1, v30, v35), by simp only; omega⟩ ⟨.inl rfl, .inl rfl, .inl rfl, holdT_anys _⟩ ⟨.inl (congrArg (fun z => some (Res.row v30 3 1 z)) (take_map2 (f := N) hd)), .inl (congrArg (fun z => some (Res.row v35 3 1 z)) (take_map2 (f := fun d => -(N d)) hd)), trivial⟩ (by simp only; omega) (by repeat (first | exact kr _ | refine kc rfl ?_)) (by repeat (first | exact kr _ | refine kc rfl ?_))
  · try simp only [decide_eq_true_eq, decide_eq_false_iff_not, Bool.and_eq_true, Bool.or_eq_true, Bool.and_eq_false_iff, Bool.or_eq_false_iff, Bool.not_eq_true', Bool.not_eq_false', beq_iff_eq, bne_iff_ne, ne_eq, beq_eq_false_iff_ne, bne_eq_false_iff_eq, Int.not_lt, Int.not_le] at hb0
    have hie : i = (d0 :: l).length := by simp only [List.length_map] at hb0; omega
    subst hie; rw [List.take_length]; simp only [List.map_cons]
    refine awp_exit ?_
    refine aend_then_exit ?_
    refine aend_then_exit ?_
    refine aend_block_exit ?_
    refine aend_then ?_
    refine awp_seq ?_
    refine awp_region ?_
    refine sq rfl rfl hn rfl (q_move rfl rfl) ?_
    refine gh_run (g_row (t := 37) (id := 7) rfl rfl) ?_
    refine stepW (s_call [] (fun _ => minimum_ok (N d0) (l.map N)) rfl (guard_none rfl) rfl (nb hn rfl) (fun _ => trivial) rfl rfl (.refl _)) fun _ => ?_
    refine sq rfl rfl hn rfl (q_move rfl rfl) ?_
    refine gh_run (g_row (t := 39) (id := 8) rfl rfl) ?_
    refine stepW (s_call [] (fun _ => minimum_ok (-(N d0)) (l.map fun d => -(N d))) rfl (guard_none rfl) rfl (nb hn rfl) (fun _ => trivial) rfl rfl (.refl _)) fun _ => ?_
    refine sq rfl rfl hn rfl (q_neg rfl rfl (r := maxL (N d0) (l.map N)) (i64w (bd_neg hN) (by simp only [maxL, List.map_map]; rw [Int.zero_sub]; rfl))) ?_
    refine sq rfl rfl hn rfl (q_buildd rfl bt45 rfl rfl rfl rfl rfl) ?_
    refine stepW (s_store rfl rfl rfl rfl rfl rfl (id := 6) rfl sz45 rfl (Nat.le_of_ble_eq_true rfl) rfl trivial) fun _ => ?_
    refine run_nil ?_
    refine aend_then ?_
    refine awp_ret ?_
    exact ret_1 (.inl rfl) hl rfl (.cellA rfl (id := 6) rfl Try.underlying45 rfl sz45 rfl rfl)
end Go.Proofs.Ytnbmmopjkkofoaa
namespace Go.Proofs.Ytnbmmopjkkofoaa
open Go.ChangeShapes Go.WideShapes Go.ChangeAt Go.RowKit
set_option linter.all false
theorem u8_bd {n : Int} (h : (Lit.int .u8 n).wf = true) : 0 ≤ n ∧ n ≤ 255 := by
  simpa [Lit.wf, IntKind.min, IntKind.max, IntKind.signed, IntKind.bits] using h
theorem u16_bd {n : Int} (h : (Lit.int .u16 n).wf = true) : 0 ≤ n ∧ n ≤ 65535 := by
  simpa [Lit.wf, IntKind.min, IntKind.max, IntKind.signed, IntKind.bits] using h
def SU8 (d : D) : Prop := ∃ n : Nat, d = .int .u8 (n : Nat) ∧ n < 256
def SInts (d : D) : Prop := ∃ l : List Int, d = ints l ∧ (∀ n ∈ l, I64 n) ∧ l.length * 8 ≤ 140737488351232
def SU16s (d : D) : Prop := ∃ l : List Nat, d = wordsD l ∧ (∀ n ∈ l, n < 65536) ∧ l.length * 2 ≤ 140737488351232
theorem by71 : Try.prog.bytesOf 71 = 2 := by kernel_rfl
theorem opensP_imp {P : Program} {t : TypeId} {S S' : D → Prop} (h : OpensP P t S) (k : ∀ x, S x → S' x) : OpensP P t S' := fun enc w r b0 base spare held v d p h1 h2 h3 => by
  obtain ⟨x, hx, hr⟩ := h enc w r b0 base spare held v d p h1 h2 h3
  exact ⟨x, k x hx, hr⟩
theorem pU8 : OpensP Try.prog 5 SU8 := opensP_imp (opensP_int Try.underlying5) fun x ⟨n, e, hw⟩ => by
  have := u8_bd hw
  exact ⟨n.toNat, by rw [e]; congr 1; omega, by omega⟩
theorem pInts : OpensP Try.prog 22 SInts := opensP_imp (opensP_slice (sz := 1) Try.underlying22 (by kernel_rfl) (by omega) (fun ds h => by
  obtain ⟨_, rfl, _⟩ := h
  rfl) oI) fun x ⟨es, e, z, h⟩ => by
  obtain ⟨l, rfl, q⟩ := map_back (f := intE) (g := intOf1) (Q := I64) fun c hc => by
    obtain ⟨_, rfl, h⟩ := h c hc
    exact ⟨rfl, h⟩
  rw [by3, List.length_map] at z
  exact ⟨l, e, q, z⟩
def wordOf (ds : List D) : Nat := match ds with
  | [.int _ a] => a.toNat
  | _ => 0
theorem pU16s : OpensP Try.prog 52 SU16s := opensP_imp (opensP_slice (sz := 1) Try.underlying52 (by kernel_rfl) (by omega) (fun ds h => by
  obtain ⟨_, rfl, _⟩ := h
  rfl) (opens_int Try.underlying71)) fun x ⟨es, e, z, h⟩ => by
  obtain ⟨l, rfl, q⟩ := map_back (f := wordE) (g := wordOf) (Q := fun n => n < 65536) fun c hc => by
    obtain ⟨n, rfl, hw⟩ := h c hc
    have := u16_bd hw
    refine ⟨?_, by show n.toNat < _; omega⟩
    show [D.int .u16 n] = [D.int .u16 ((n.toNat : Nat) : Int)]
    rw [show ((n.toNat : Nat) : Int) = n by omega]
  rw [by71, List.length_map] at z
  exact ⟨l, e, q, z⟩
end Go.Proofs.Ytnbmmopjkkofoaa
namespace Go.Proofs.Ytnbmmopjkkofoaa
open Go.RowKit
set_option maxRecDepth 20000
set_option linter.all false
@[reducible] def workC (r : Reg) (b : Nat) : List D := regC r ++ [.raw (.map (some b))]
@[reducible] def spotC (d n m : Nat) : List D := [.int .i64 (d : Nat), .int .i64 (n : Nat), .int .u64 (m : Nat)]
@[reducible] def spotD (d n m : Nat) : D := .agg (spotC d n m)
abbrev KS : Value → Prop := KV Try.prog 119
def inE (e : Ent5) (d : Nat) : Bool := decide (e.lo ≤ (d : Int)) && decide ((d : Int) ≤ e.hi)
/-- What can be next, within a day. -/
def nextE (r : Reg) (e : Ent5) (d n m : Nat) : List (Nat × Nat × Nat) :=
  (bif inE e d && canB r n m then [(d, n + 1, m ||| 2 ^ n)] else []) ++ (bif m.testBit n || decide ((d : Int) < e.hi) then [(d, n + 1, m)] else [])
def nextL (r : Reg) (d n m : Nat) : List (Nat × Nat × Nat) := match r.entries[n]? with
  | some e => nextE r e d n m
  | none => []
def spotX (s : Nat × Nat × Nat) : List D := [spotD s.1 s.2.1 s.2.2]
def nextXs (r : Reg) (d n m : Nat) : List (List D) := (nextL r d n m).map spotX
theorem nextXs_eq {r : Reg} {e : Ent5} {d n m : Nat} (h : r.entries[n]? = some e) : nextXs r d n m = (nextE r e d n m).map spotX := by simp [nextXs, nextL, h]
/-- All sights of a day are true. -/
def seenN (r : Reg) (d m : Nat) : Bool := r.sights.all (seenB (d : Int) (placesA r m))
def goesF (r : Reg) : Nat → Nat → Nat → Nat → Bool
  | 0, _, _, _ => true
  | k + 1, d, n, m => bif decide (9 < d) then true else bif n == r.entries.length then seenN r d m && goesF r k (d + 1) 0 m else (nextL r d n m).any fun s => goesF r k s.1 s.2.1 s.2.2
def muS (r : Reg) (d n : Nat) : Nat := if 9 < d then 0 else (10 - d) * (r.entries.length + 1) + (r.entries.length - n)
/-- Whether all that is left can happen from a spot on. -/
def goesB (r : Reg) (d n m : Nat) : Bool := goesF r (muS r d n + 1) d n m
theorem nextL_mem {r : Reg} {d n m : Nat} {s : Nat × Nat × Nat} (h : s ∈ nextL r d n m) : s.1 = d ∧ s.2.1 = n + 1 ∧ (s.2.2 = m ∨ s.2.2 = m ||| 2 ^ n) ∧ n < r.entries.length := by
  unfold nextL at h
  split at h
  · rename_i e he
    have hlt := (List.getElem?_eq_some_iff.1 he).1
    unfold nextE at h
    rcases List.mem_append.1 h with h | h
    · cases hc : (inE e d && canB r n m) <;> rw [hc] at h <;> simp at h
      subst h
      exact ⟨rfl, rfl, .inr rfl, hlt⟩
    · cases hc : (m.testBit n || decide ((d : Int) < e.hi)) <;> rw [hc] at h <;> simp at h
      subst h
      exact ⟨rfl, rfl, .inl rfl, hlt⟩
  · cases h
theorem muS_next {r : Reg} {d n : Nat} (hd : d ≤ 9) (hn : n < r.entries.length) : muS r d (n + 1) < muS r d n := by
  unfold muS; rw [if_neg (by omega), if_neg (by omega)]; omega
theorem muS_day {r : Reg} {d n : Nat} (hd : d ≤ 9) : muS r (d + 1) 0 < muS r d n := by
  unfold muS
  rw [if_neg (by omega : ¬ 9 < d)]
  by_cases h : 9 < d + 1
  · rw [if_pos h]; have : 10 - d = 1 := by omega
    rw [this]; omega
  · rw [if_neg h]
    have : 10 - d = (10 - (d + 1)) + 1 := by omega
    rw [this, Nat.add_mul]; omega
theorem goesF_eq (r : Reg) : ∀ (k k' d n m : Nat), muS r d n < k → muS r d n < k' → goesF r k d n m = goesF r k' d n m
  | 0, _, _, _, _, h, _ => by omega
  | _ + 1, 0, _, _, _, _, h => by omega
  | k + 1, k' + 1, d, n, m, h, h' => by
    unfold goesF
    by_cases hd : 9 < d
    · simp [hd]
    · simp only [hd, decide_false, cond_false]
      have hd' : d ≤ 9 := by omega
      congr 1
      · have h1 := muS_day (r := r) (n := n) hd'
        rw [goesF_eq r k k' (d + 1) 0 m (by omega) (by omega)]
      · have : ∀ s ∈ nextL r d n m, goesF r k s.1 s.2.1 s.2.2 = goesF r k' s.1 s.2.1 s.2.2 := fun s hs => by
          obtain ⟨e1, e2, _, e4⟩ := nextL_mem hs
          have h1 := muS_next hd' e4
          rw [e1, e2]
          exact goesF_eq r k k' d (n + 1) s.2.2 (by omega) (by omega)
        rw [Bool.eq_iff_iff, List.any_eq_true, List.any_eq_true]
        exact ⟨fun ⟨s, hs, hg⟩ => ⟨s, hs, by rw [← this s hs]; exact hg⟩, fun ⟨s, hs, hg⟩ => ⟨s, hs, by rw [this s hs]; exact hg⟩⟩
theorem goesB_end {r : Reg} {d n m : Nat} (h : 9 < d) : goesB r d n m = true := by unfold goesB goesF; simp [h]
theorem goesB_day {r : Reg} {d m : Nat} (h : d ≤ 9) : goesB r d r.entries.length m = (seenN r d m && goesB r (d + 1) 0 m) := by
  unfold goesB
  have h1 := muS_day (r := r) (n := r.entries.length) h
  rw [goesF, show decide (9 < d) = false by simp; omega]
  simp only [cond_false, beq_self_eq_true, cond_true]
  rw [goesF_eq r _ (muS r (d + 1) 0 + 1) (d + 1) 0 m (by omega) (by omega)]
theorem goesB_next {r : Reg} {d n m : Nat} (h : d ≤ 9) (hn : n < r.entries.length) : goesB r d n m = (nextL r d n m).any fun s => goesB r s.1 s.2.1 s.2.2 := by
  unfold goesB
  rw [goesF, show decide (9 < d) = false by simp; omega, show (n == r.entries.length) = false by simp; omega]
  simp only [cond_false]
  have h1 := muS_next (r := r) h hn
  have : ∀ s ∈ nextL r d n m, goesF r (muS r d n) s.1 s.2.1 s.2.2 = goesF r (muS r s.1 s.2.1 + 1) s.1 s.2.1 s.2.2 := fun s hs => by
    obtain ⟨e1, e2, _, _⟩ := nextL_mem hs
    rw [e1, e2]
    exact goesF_eq r _ _ d (n + 1) s.2.2 (by omega) (by omega)
  rw [Bool.eq_iff_iff, List.any_eq_true, List.any_eq_true]
  exact ⟨fun ⟨s, hs, hg⟩ => ⟨s, hs, by rw [← this s hs]; exact hg⟩, fun ⟨s, hs, hg⟩ => ⟨s, hs, by rw [this s hs]; exact hg⟩⟩
theorem spot_law : KLaw Try.prog 119 (KV Try.prog 119) := KLaw.of (Go.deep_law (m := 3) (by omega) (by kernel_rfl) (by kernel_rfl) (by kernel_rfl))
theorem wf_i64 {n : Int} (h : -9223372036854775808 ≤ n ∧ n ≤ 9223372036854775807) : (Lit.int .i64 n).wf = true := by
  have e1 : IntKind.i64.min = -9223372036854775808 := by decide
  have e2 : IntKind.i64.max = 9223372036854775807 := by decide
  simp only [Lit.wf, e1, e2, Bool.and_eq_true, decide_eq_true_eq]
  exact h
theorem wf_u64 {n : Int} (h : 0 ≤ n ∧ n ≤ 18446744073709551615) : (Lit.int .u64 n).wf = true := by
  have e1 : IntKind.u64.min = 0 := by decide
  have e2 : IntKind.u64.max = 18446744073709551615 := by decide
  simp only [Lit.wf, e1, e2, Bool.and_eq_true, decide_eq_true_eq]
  exact h
theorem spot_lits {d n m : Nat} (k : Nat) (hd : d ≤ 10) (hn : n ≤ 6) (hm : m < 18446744073709551616) : ∃ ls, Try.prog.keyLits (k + 2) 119 [.int .i64 (d : Nat), .int .i64 (n : Nat), .int .u64 (m : Nat)] = some ls := by
  have h1 := wf_i64 (n := (d : Int)) (by omega)
  have h2 := wf_i64 (n := (n : Int)) (by omega)
  have h3 := wf_u64 (n := (m : Int)) (by omega)
  have c1 : Try.prog.cellsOf 119 = 3 := by kernel_rfl
  have c2 : Try.prog.cellsOf 3 = 1 := by kernel_rfl
  have c3 : Try.prog.cellsOf 102 = 1 := by kernel_rfl
  simp only [Program.keyLits, Try.underlying119, Try.underlying3, Try.underlying102]
  simp [c1, c2, c3, h1, h2, h3]
theorem spot_kv {d n m : Nat} (hd : d ≤ 10) (hn : n ≤ 6) (hm : m < 18446744073709551616) : KV Try.prog 119 (.agg [.int .i64 (d : Nat), .int .i64 (n : Nat), .int .u64 (m : Nat)].toArray) := by
  have c1 : Try.prog.cellsOf 119 = 3 := by kernel_rfl
  have hk : Try.prog.keyType 119 = true := by kernel_rfl
  have h1 : Nat.ble 1 Try.prog.types.size = true := by kernel_rfl
  have hs : ∃ k, Try.prog.types.size + 1 = k + 2 := ⟨Try.prog.types.size - 1, by have := Nat.le_of_ble_eq_true h1; omega⟩
  obtain ⟨k, hs⟩ := hs
  obtain ⟨ls, hl⟩ := spot_lits k hd hn hm
  unfold KV keyOf
  rw [Try.underlying119, hs]
  simp only [hk, Value.formed, Try.underlying119, c1, Value.cells]
  simp [hl]
theorem lt64 {k x : Nat} (hk : k ≤ 6) (hx : x < 2 ^ k) : x < 18446744073709551616 := by
  have : 2 ^ k ≤ 2 ^ 6 := Nat.pow_le_pow_right (by omega) hk
  omega
theorem sz4 : Sz Try.prog 4 1 := (by kernel_rfl : (Try.prog.info? 4).map (·.size) = some 1)
theorem sz119 : Sz Try.prog 119 3 := (by kernel_rfl : (Try.prog.info? 119).map (·.size) = some 3)
theorem sz142 : Sz Try.prog 142 1 := (by kernel_rfl : (Try.prog.info? 142).map (·.size) = some 1)
theorem zr4 : (Try.prog.info? 4).map (·.zero) = some (some (.bool false)) := by kernel_rfl
theorem zr119 : (Try.prog.info? 119).map (·.zero) = some (some (.agg #[(.int .i64 0), (.int .i64 0), (.int .u64 0)])) := by kernel_rfl
theorem zr144 : (Try.prog.info? 144).map (·.zero) = some (some (.agg #[(.int .i64 0), (.slice none 0 0), (.slice none 0 0), (.slice none 0 0), (.map none)])) := by kernel_rfl
theorem bt119 : BT Try.prog 119 (.agg #[(.int .i64 0), (.int .i64 0), (.int .u64 0)]) (fun i => ([(0, 1), (1, 1), (2, 1)] : List (Nat × Nat))[i]?) := bt_struct Try.underlying119 zr119 (by kernel_rfl)
theorem bt144 : BT Try.prog 144 (.agg #[(.int .i64 0), (.slice none 0 0), (.slice none 0 0), (.slice none 0 0), (.map none)]) (fun i => ([(0, 4), (4, 1)] : List (Nat × Nat))[i]?) := bt_struct Try.underlying144 zr144 (by kernel_rfl)
theorem next_ok (r : Reg) (d n m : Nat) : PureAt Try.prog 70 [regD r, spotD d n m] (.fn (.func 92) [] [.ptr (regC r), .ptr (spotC d n m)]) := by
  refine PureAt.of_awp Try.func70 rfl (by kernel_rfl) (Nat.le_of_ble_eq_true rfl) fun Γ hn hl => ?_
  refine awp_seq ?_
  refine awp_region ?_
  refine stepW (s_box 2 rfl rfl rfl (nb hn rfl) rfl rfl) fun b2 => ?_
  refine stepW (s_box 3 rfl rfl rfl (nb hn rfl) rfl rfl) fun b3 => ?_
  refine sq rfl rfl hn rfl (q_assign rfl rfl) ?_
  refine run_nil ?_
  refine aend_then ?_
  refine awp_seq ?_
  refine gh_awp (g_freeze (t := 2) 2 rfl (nb hn rfl) rfl rfl trivial) ?_
  refine gh_awp (g_freeze (t := 3) 3 rfl (nb hn rfl) rfl rfl trivial) ?_
  refine awp_region ?_
  refine sq rfl rfl hn rfl (q_makeFuncd rfl rfl rfl) ?_
  refine sq rfl rfl hn rfl (q_assign rfl rfl) ?_
  refine run_nil ?_
  refine aend_then ?_
  refine awp_ret ?_
  exact ret_1 (.inl rfl) hl rfl (.tmp rfl)
theorem closed_ok (r : Reg) (b d n m : Nat) (v : Valid r) (hd : d ≤ 9) (hm : m < 18446744073709551616) : PureAt Try.prog 69 [.ptr (workC r b), spotD d n m] (.tup [spotD (d + 1) 0 m, .bool (seenN r d m)]) := by
  refine PureAt.of_awp Try.func69 rfl (by kernel_rfl) (Nat.le_of_ble_eq_true rfl) fun Γ hn hl => ?_
  refine awp_seq ?_
  refine awp_region ?_
  refine stepW (s_box 3 rfl rfl rfl (nb hn rfl) rfl rfl) fun b3 => ?_
  refine stepW (s_alloc 4 rfl rfl rfl (nb hn rfl) zr119 rfl rfl) fun b4 => ?_
  refine sq rfl rfl hn rfl (q_assign rfl rfl) ?_
  refine run_nil ?_
  refine aend_then ?_
  refine awp_seq ?_
  refine d_start (W := fun b => b ≠ b3) fmo ?_
  refine d1q (i := 0) rfl (by kernel_rfl) (fun _ _ _ _ h => h) rfl rfl hn rfl (q_fieldAddr rfl rfl Try.underlying119 rfl sz3) ?_
  refine d1q (i := 1) rfl (by kernel_rfl) (fun _ _ _ _ h => h) rfl rfl hn rfl (q_load rfl rfl (id := 3) rfl Try.underlying3 rfl rfl (seesA (by simp))) ?_
  refine d1q (i := 2) rfl (by kernel_rfl) (fun _ _ _ _ h => h) rfl rfl hn rfl (q_add rfl rfl rfl (r := ((d + 1 : Nat) : Int)) (i64w (by omega) (by omega))) ?_
  refine d1q (i := 3) rfl (by kernel_rfl) (fun _ _ _ _ h => h) rfl rfl hn rfl (q_fieldAddr rfl rfl Try.underlying119 rfl sz102) ?_
  refine d1q (i := 4) rfl (by kernel_rfl) (fun _ _ _ _ h => h) rfl rfl hn rfl (q_load rfl rfl (id := 3) rfl Try.underlying102 rfl rfl (seesA (by simp))) ?_
  refine d1q (i := 5) rfl (by kernel_rfl) (fun _ _ _ _ h => h) rfl rfl hn rfl (q_buildd rfl bt119 rfl rfl rfl rfl rfl) ?_
  refine d1q (i := 6) rfl (by kernel_rfl) (fun _ _ _ _ h => h) rfl rfl hn rfl (q_move rfl rfl) ?_
  refine d1q (i := 7) rfl (by kernel_rfl) (fun _ _ _ _ h => h) rfl rfl hn rfl (q_nilCheckp rfl rfl) ?_
  refine d1q (i := 8) rfl (by kernel_rfl) (fun _ _ _ _ h => h) rfl rfl hn rfl (q_fieldAddrp rfl rfl Try.underlying144 rfl sz35 rfl) ?_
  refine d1q (i := 9) rfl (by kernel_rfl) (fun _ _ _ _ h => h) rfl rfl hn rfl (q_loadpA rfl rfl Try.underlying35 rfl sz35 rfl rfl seesFA) ?_
  refine d1q (i := 10) rfl (by kernel_rfl) (fun _ _ _ _ h => h) rfl rfl hn rfl (q_fieldAddr rfl rfl Try.underlying119 rfl sz3) ?_
  refine d1q (i := 11) rfl (by kernel_rfl) (fun _ _ _ _ h => h) rfl rfl hn rfl (q_load rfl rfl (id := 3) rfl Try.underlying3 rfl rfl (seesA (by simp))) ?_
  refine d1q (i := 12) rfl (by kernel_rfl) (fun _ _ _ _ h => h) rfl rfl hn rfl (q_move rfl rfl) ?_
  refine d1q (i := 13) rfl (by kernel_rfl) (fun _ _ _ _ h => h) rfl rfl hn rfl (q_nilCheckp rfl rfl) ?_
  refine d1q (i := 14) rfl (by kernel_rfl) (fun _ _ _ _ h => h) rfl rfl hn rfl (q_fieldAddrp rfl rfl Try.underlying144 rfl sz35 rfl) ?_
  refine d1q (i := 15) rfl (by kernel_rfl) (fun _ _ _ _ h => h) rfl rfl hn rfl (q_loadpA rfl rfl Try.underlying35 rfl sz35 rfl rfl seesFA) ?_
  refine d1q (i := 16) rfl (by kernel_rfl) (fun _ _ _ _ h => h) rfl rfl hn rfl (q_fieldAddr rfl rfl Try.underlying119 rfl sz102) ?_
  refine d1q (i := 17) rfl (by kernel_rfl) (fun _ _ _ _ h => h) rfl rfl hn rfl (q_load rfl rfl (id := 3) rfl Try.underlying102 rfl rfl (seesA (by simp))) ?_
  refine d1_of_d2 ?_
  refine d2_one (i := 18) (by kernel_rfl) rfl (s_call [] (fun _ => places_ok r m v hm) rfl (guard_none rfl) rfl (nb hn rfl) (fun _ => trivial) rfl rfl (.refl _)) fun _ => ?_
  refine d2_of_d1 ?_
  refine d1_of_d2 ?_
  refine d2_one (i := 19) (by kernel_rfl) rfl (s_call [] (fun _ => seen_ok r (d : Int) (placesA r m) v (placesA_len r m)) rfl (guard_none rfl) rfl (nb hn rfl) (fun _ => trivial) rfl rfl (.refl _)) fun _ => ?_
  refine d2_of_d1 ?_
  refine d1_of_d2 ?_
  refine g_ne_d2 (i := 4) (j := 3) rfl rfl rfl (fun hne4_3 => ?_)
  refine d2_one (i := 20) (by kernel_rfl) rfl (s_store rfl rfl rfl rfl rfl rfl (id := 4) rfl sz119 rfl (Nat.le_of_ble_eq_true rfl) rfl (fun e => hne4_3 _ rfl (congrArg some e.symm))) fun _ => ?_
  refine d2_of_d1 ?_
  refine d1q (i := 21) rfl (by kernel_rfl) (fun _ _ _ _ h => h) rfl rfl hn rfl (q_assign rfl rfl) ?_
  refine d1_of_d2 ?_
  refine d2_done (by kernel_rfl) ?_
  refine aend_then ?_
  refine awp_ret ?_
  exact ret_2 (.inl rfl) hl rfl (.cellA rfl (id := 4) rfl Try.underlying119 rfl sz119 rfl rfl) (.tmp rfl)
theorem work_ok (r : Reg) : EffAt Try.prog 67 [.d (regD r)] [] (X := Nat) (fun b => .d (.ptr (workC r b))) (fun b => [(1000, mapRes KS b fun _ _ => False)]) := by
  refine EffAt.of_awp Try.func67 rfl (by kernel_rfl) rfl fun Γ hn => ?_
  refine awp_seq ?_
  refine awp_region ?_
  refine stepW (s_box 1 rfl rfl rfl (nb hn rfl) rfl rfl) fun b1 => ?_
  refine sq rfl rfl hn rfl (q_assign rfl rfl) ?_
  refine run_nil ?_
  refine aend_then ?_
  refine awp_seq ?_
  refine awp_region ?_
  refine sq rfl rfl hn rfl (q_loadAd rfl rfl (id := 1) rfl Try.underlying35 rfl sz35 rfl rfl sees0) ?_
  refine stepW (s_makeMap (KS) 1000 rfl rfl rfl (nb hn rfl)) fun b4 => ?_
  refine sq rfl rfl hn rfl (q_buildd rfl bt144 rfl rfl rfl rfl rfl) ?_
  refine stepW (s_box 6 rfl rfl rfl (nb hn rfl) rfl rfl) fun b6 => ?_
  refine sq rfl rfl hn rfl (q_assign rfl rfl) ?_
  refine run_nil ?_
  refine aend_then ?_
  refine awp_ret ?_
  refine gh_end (g_freeze (t := 2) 6 rfl (nb hn rfl) rfl rfl trivial) ?_
  exact ret_E (.inl rfl) b4 (hands_1 rfl (.tmp rfl)) ⟨rfl, trivial⟩
theorem next_second {r : Reg} {e : Ent5} {d n m : Nat} (h : (m.testBit n || decide ((d : Int) < e.hi)) = true) : ((nextE r e d n m).map spotX)[(bif inE e d && canB r n m then 1 else 0)]? = some [spotD d (n + 1) m] := by
  rcases Bool.eq_false_or_eq_true (inE e d && canB r n m) with hA | hA <;> simp only [nextE, h, hA, cond_true, cond_false] <;> rfl
theorem next_len_t {r : Reg} {e : Ent5} {d n m : Nat} (h : (m.testBit n || decide ((d : Int) < e.hi)) = true) : ((nextE r e d n m).map spotX).length = (bif inE e d && canB r n m then 1 else 0) + 1 := by
  rcases Bool.eq_false_or_eq_true (inE e d && canB r n m) with hA | hA <;> simp only [nextE, h, hA, cond_true, cond_false] <;> rfl
theorem next_len_f {r : Reg} {e : Ent5} {d n m : Nat} (h : (m.testBit n || decide ((d : Int) < e.hi)) = false) : ((nextE r e d n m).map spotX).length = (bif inE e d && canB r n m then 1 else 0) := by
  rcases Bool.eq_false_or_eq_true (inE e d && canB r n m) with hA | hA <;> simp only [nextE, h, hA, cond_true, cond_false] <;> rfl
theorem next_first {r : Reg} {e : Ent5} {d n m : Nat} (h : (inE e d && canB r n m) = true) : ((nextE r e d n m).map spotX)[0]? = some [spotD d (n + 1) (m ||| 2 ^ n)] := by simp [nextE, h, spotX]
theorem next1_ok (r : Reg) (d n m : Nat) (e : Ent5) (he : r.entries[n]? = some e) (v : Valid r) (hd : d ≤ 9) (hn6 : n < 6) (hm : m < 18446744073709551616) : SeqAt Try.prog 92 [.ptr (regC r), .ptr (spotC d n m)] (nextXs r d n m) := by
  rw [nextXs_eq he]
  have hlt : n < r.entries.length := (List.getElem?_eq_some_iff.1 he).1
  refine ⟨ent_of (fn := Try.f92) (by kernel_rfl) rfl rfl, fun ι l R A B hy i0 hA0 => EffAt.of_awp Try.func92 rfl (by kernel_rfl) rfl fun Γ hn => awi_wide.1 ?_⟩
  refine awi_seq ?_
  refine awi_region ?_
  refine sqI rfl rfl hn rfl (q_fieldAddrp rfl rfl Try.underlying35 rfl sz32 rfl) rfl ?_
  refine sqI rfl rfl hn rfl (q_loadp rfl rfl Try.underlying32 rfl seesF0) rfl ?_
  refine sqI rfl rfl hn rfl (q_fieldAddrp rfl rfl Try.underlying119 rfl sz3 rfl) rfl ?_
  refine sqI rfl rfl hn rfl (q_loadp rfl rfl Try.underlying3 rfl seesF0) rfl ?_
  refine sqI rfl rfl hn rfl (q_index rfl rfl rfl Try.underlying32 sz95 rfl (mget he)) rfl ?_
  refine sqI rfl rfl hn rfl (q_loadpA rfl rfl Try.underlying95 rfl sz95 rfl rfl seesF0) rfl ?_
  refine stepWI ((s_alloc 4 rfl rfl rfl (nb hn rfl) zr95 rfl rfl).i rfl) fun b4 => ?_
  refine stepWI ((s_store rfl rfl rfl rfl rfl rfl (id := 4) rfl sz95 rfl (Nat.le_of_ble_eq_true rfl) rfl trivial).i rfl) fun _ => ?_
  refine run_nilI ?_
  refine aend_thenI ?_
  refine awi_seq ?_
  refine awi_seq ?_
  refine gh_awi (g_freeze (t := 4) 4 rfl (nb hn rfl) rfl rfl trivial) ?_
  refine d_startI (W := fun b => True) fmo ?_
  refine d1qI (i := 0) rfl (by kernel_rfl) rfl (fun _ _ _ _ h => h) rfl rfl hn rfl (q_fieldAddrp rfl rfl Try.underlying119 rfl sz3 rfl) ?_
  refine d1qI (i := 1) rfl (by kernel_rfl) rfl (fun _ _ _ _ h => h) rfl rfl hn rfl (q_loadp rfl rfl Try.underlying3 rfl seesFA) ?_
  refine d1qI (i := 2) rfl (by kernel_rfl) rfl (fun _ _ _ _ h => h) rfl rfl hn rfl (q_fieldAddrp rfl rfl Try.underlying95 rfl sz45 rfl) ?_
  refine d1qI (i := 3) rfl (by kernel_rfl) rfl (fun _ _ _ _ h => h) rfl rfl hn rfl (q_fieldAddrp rfl rfl Try.underlying45 rfl sz3 rfl) ?_
  refine d1qI (i := 4) rfl (by kernel_rfl) rfl (fun _ _ _ _ h => h) rfl rfl hn rfl (q_loadp rfl rfl Try.underlying3 rfl seesFA) ?_
  refine d1qI (i := 5) rfl (by kernel_rfl) rfl (fun _ _ _ _ h => h) rfl rfl hn rfl (q_fieldAddrp rfl rfl Try.underlying95 rfl sz45 rfl) ?_
  refine d1qI (i := 6) rfl (by kernel_rfl) rfl (fun _ _ _ _ h => h) rfl rfl hn rfl (q_fieldAddrp rfl rfl Try.underlying45 rfl sz3 rfl) ?_
  refine d1qI (i := 7) rfl (by kernel_rfl) rfl (fun _ _ _ _ h => h) rfl rfl hn rfl (q_loadp rfl rfl Try.underlying3 rfl seesFA) ?_
  refine d1_of_d2I ?_
  refine d2_oneI (i := 8) (by kernel_rfl) rfl ((s_call [] (fun _ => within_ok (d : Int) e.lo e.hi) rfl (guard_none rfl) rfl (nb hn rfl) (fun _ => trivial) rfl rfl (.refl _)).i rfl) fun _ => ?_
  refine d2_of_d1I ?_
  refine d1qI (i := 9) rfl (by kernel_rfl) rfl (fun _ _ _ _ h => h) rfl rfl hn rfl (q_move rfl rfl) ?_
  refine d1gI (i := 10) [] rfl (by kernel_rfl) rfl (fun _ _ _ _ h => h) (guard_some rfl rfl rfl) rfl hn rfl (fun hc => trivial) (fun hc => q_loadpA rfl rfl Try.underlying35 rfl sz35 rfl rfl seesFA) ?_
  refine d1gI (i := 11) [] rfl (by kernel_rfl) rfl (fun _ _ _ _ h => h) (guard_some rfl rfl rfl) rfl hn rfl (fun hc => trivial) (fun hc => q_fieldAddrp rfl rfl Try.underlying119 rfl sz3 rfl) ?_
  refine d1gI (i := 12) [(22, _)] rfl (by kernel_rfl) rfl (fun _ _ _ _ h => h) (guard_some rfl rfl rfl) rfl hn rfl (fun hc => ⟨⟨_, rfl, hc⟩, trivial⟩) (fun hc => q_loadp rfl rfl Try.underlying3 rfl seesFA) ?_
  refine d1gI (i := 13) [] rfl (by kernel_rfl) rfl (fun _ _ _ _ h => h) (guard_some rfl rfl rfl) rfl hn rfl (fun hc => trivial) (fun hc => q_fieldAddrp rfl rfl Try.underlying119 rfl sz102 rfl) ?_
  refine d1gI (i := 14) [(24, _)] rfl (by kernel_rfl) rfl (fun _ _ _ _ h => h) (guard_some rfl rfl rfl) rfl hn rfl (fun hc => ⟨⟨_, rfl, hc⟩, trivial⟩) (fun hc => q_loadp rfl rfl Try.underlying102 rfl seesFA) ?_
  refine d1_of_d2I ?_
  refine d2_oneI (i := 15) (by kernel_rfl) rfl ((s_call [(21, _), (23, _), (25, _)] (fun hc => can_ok r n m v hm hlt) rfl (guard_some rfl rfl rfl) rfl (nb hn rfl) (fun hc => ⟨⟨_, rfl, hc⟩, ⟨_, rfl, hc⟩, ⟨_, rfl, hc⟩, trivial⟩) rfl rfl (.refl _)).i rfl) fun _ => ?_
  refine d2_of_d1I ?_
  refine d1qI (i := 16) rfl (by kernel_rfl) rfl (fun _ _ _ _ h => h) rfl rfl hn rfl (q_and rfl rfl rfl (by simp_all)) ?_
  refine d1qI (i := 17) rfl (by kernel_rfl) rfl (fun _ _ _ _ h => h) rfl rfl hn rfl (q_move rfl rfl) ?_
  refine d1gI (i := 18) [] rfl (by kernel_rfl) rfl (fun _ _ _ _ h => h) (guard_some rfl rfl rfl) rfl hn rfl (fun hc => trivial) (fun hc => q_move rfl rfl) ?_
  refine d1gI (i := 19) [] rfl (by kernel_rfl) rfl (fun _ _ _ _ h => h) (guard_some rfl rfl rfl) rfl hn rfl (fun hc => trivial) (fun hc => q_fieldAddrp rfl rfl Try.underlying119 rfl sz3 rfl) ?_
  refine d1gI (i := 20) [(30, _)] rfl (by kernel_rfl) rfl (fun _ _ _ _ h => h) (guard_some rfl rfl rfl) rfl hn rfl (fun hc => ⟨⟨_, rfl, hc⟩, trivial⟩) (fun hc => q_loadp rfl rfl Try.underlying3 rfl seesFA) ?_
  refine d1gI (i := 21) [] rfl (by kernel_rfl) rfl (fun _ _ _ _ h => h) (guard_some rfl rfl rfl) rfl hn rfl (fun hc => trivial) (fun hc => q_fieldAddrp rfl rfl Try.underlying119 rfl sz3 rfl) ?_
  refine d1gI (i := 22) [(32, _)] rfl (by kernel_rfl) rfl (fun _ _ _ _ h => h) (guard_some rfl rfl rfl) rfl hn rfl (fun hc => ⟨⟨_, rfl, hc⟩, trivial⟩) (fun hc => q_loadp rfl rfl Try.underlying3 rfl seesFA) ?_
  refine d1gI (i := 23) [(33, _)] rfl (by kernel_rfl) rfl (fun _ _ _ _ h => h) (guard_some rfl rfl rfl) rfl hn rfl (fun hc => ⟨⟨_, rfl, hc⟩, trivial⟩) (fun hc => q_add rfl rfl rfl (r := ((n + 1 : Nat) : Int)) (i64w (by omega) (by omega))) ?_
  refine d1gI (i := 24) [] rfl (by kernel_rfl) rfl (fun _ _ _ _ h => h) (guard_some rfl rfl rfl) rfl hn rfl (fun hc => trivial) (fun hc => q_fieldAddrp rfl rfl Try.underlying119 rfl sz102 rfl) ?_
  refine d1gI (i := 25) [(35, _)] rfl (by kernel_rfl) rfl (fun _ _ _ _ h => h) (guard_some rfl rfl rfl) rfl hn rfl (fun hc => ⟨⟨_, rfl, hc⟩, trivial⟩) (fun hc => q_loadp rfl rfl Try.underlying102 rfl seesFA) ?_
  refine d1gI (i := 26) [] rfl (by kernel_rfl) rfl (fun _ _ _ _ h => h) (guard_some rfl rfl rfl) rfl hn rfl (fun hc => trivial) (fun hc => q_fieldAddrp rfl rfl Try.underlying119 rfl sz3 rfl) ?_
  refine d1gI (i := 27) [(37, _)] rfl (by kernel_rfl) rfl (fun _ _ _ _ h => h) (guard_some rfl rfl rfl) rfl hn rfl (fun hc => ⟨⟨_, rfl, hc⟩, trivial⟩) (fun hc => q_loadp rfl rfl Try.underlying3 rfl seesFA) ?_
  refine d1gI (i := 28) [(38, _)] rfl (by kernel_rfl) rfl (fun _ _ _ _ h => h) (guard_some rfl rfl rfl) rfl hn rfl (fun hc => ⟨⟨_, rfl, hc⟩, trivial⟩) (fun hc => q_shl rfl rfl rfl (by omega) (by show _ ≤ (64 : Int); omega) (shl_bit (by omega))) ?_
  refine d1gI (i := 29) [(36, _), (39, _)] rfl (by kernel_rfl) rfl (fun _ _ _ _ h => h) (guard_some rfl rfl rfl) rfl hn rfl (fun hc => ⟨⟨_, rfl, hc⟩, ⟨_, rfl, hc⟩, trivial⟩) (fun hc => q_bitor rfl rfl rfl (or_bits hm (pow_lt (by omega)))) ?_
  refine d1gI (i := 30) [(31, _), (34, _), (40, _)] rfl (by kernel_rfl) rfl (fun _ _ _ _ h => h) (guard_some rfl rfl rfl) rfl hn rfl (fun hc => ⟨⟨_, rfl, hc⟩, ⟨_, rfl, hc⟩, ⟨_, rfl, hc⟩, trivial⟩) (fun hc => q_buildd rfl bt119 rfl rfl rfl rfl rfl) ?_
  refine d1_of_d2I ?_
  refine d2_oneI (i := 31) (by kernel_rfl) rfl (s_yield [(41, _), (29, _)] (i0) (fun hc => hy 0 [spotD d (n + 1) (m ||| 2 ^ n)] i0 (next_first (by simpa [inE] using hc)) hA0) rfl (guard_some rfl rfl rfl) rfl (nb hn rfl) (fun hc => ⟨⟨_, rfl, hc⟩, ⟨_, rfl, hc⟩, trivial⟩) rfl rfl (.refl _) rfl (fun _ _ => trivial)) fun ⟨⟨b1, i1⟩, hp1, hp0⟩ => ?_
  refine d2_of_d1I ?_
  refine d1gI (i := 32) [(42, _)] rfl (by kernel_rfl) rfl (fun _ _ _ _ h => h) (guard_some rfl rfl rfl) rfl hn rfl (fun hc => ⟨⟨_, rfl, hc⟩, trivial⟩) (fun hc => q_not rfl rfl) ?_
  refine d1qI (i := 33) rfl (by kernel_rfl) rfl (fun _ _ _ _ h => h) rfl rfl hn rfl (q_and rfl rfl rfl (by simp_all)) ?_
  refine d1_of_d2I ?_
  refine d2_doneI (by kernel_rfl) ?_
  refine aend_thenI ?_
  refine awi_cond rfl (fun hb0 => ?_) (fun hb0 => ?_)
  · skip
    have hA : (inE e d && canB r n m) = true := by simp [inE] at hb0 ⊢; exact hb0.1
    have hb1 : b1 = false := by simp at hb0; exact hb0.2
    refine awi_ret ?_
    refine aend_then_ret ?_
    exact ret_E (.inl rfl) ⟨i1, .inr ((hp1 (by simpa [inE, Bool.and_assoc] using hA)).2 hb1)⟩ (hands_0 rfl) ⟨rfl, trivial⟩
  · skip
    have hA1 : A (bif inE e d && canB r n m then 1 else 0) i1 := by
      rcases Bool.eq_false_or_eq_true (inE e d && canB r n m) with hA | hA
      · have hb1 : b1 = true := by simp [inE] at hb0 hA; exact hb0 hA.1.1 hA.1.2 hA.2
        rw [hA]; exact (hp1 (by simpa [inE, Bool.and_assoc] using hA)).1 hb1
      · rw [hA]; have hi := hp0 (by simpa [inE, Bool.and_assoc] using hA); simp only at hi; rw [hi]; exact hA0
    refine awi_skip ?_
    refine aend_thenI ?_
    refine awi_seq ?_
    refine awi_region ?_
    refine sqI rfl rfl hn rfl (q_fieldAddrp rfl rfl Try.underlying119 rfl sz102 rfl) rfl ?_
    refine sqI rfl rfl hn rfl (q_loadp rfl rfl Try.underlying102 rfl seesF0) rfl ?_
    refine sqI rfl rfl hn rfl (q_fieldAddrp rfl rfl Try.underlying119 rfl sz3 rfl) rfl ?_
    refine sqI rfl rfl hn rfl (q_loadp rfl rfl Try.underlying3 rfl seesF0) rfl ?_
    refine stepWI ((s_call [] (fun _ => has_ok m n hm (by omega)) rfl (guard_none rfl) rfl (nb hn rfl) (fun _ => trivial) rfl rfl (.refl _)).i rfl) fun _ => ?_
    refine sqI rfl rfl hn rfl (q_move rfl rfl) rfl ?_
    refine stepGI [] (guard_some rfl rfl rfl) rfl (nb hn rfl) (fun hc => trivial) (fun hc => q_fieldAddrp rfl rfl Try.underlying95 rfl sz45 rfl) rfl ?_
    refine stepGI [(51, _)] (guard_some rfl rfl rfl) rfl (nb hn rfl) (fun hc => ⟨⟨_, rfl, hc⟩, trivial⟩) (fun hc => q_fieldAddrp rfl rfl Try.underlying45 rfl sz3 rfl) rfl ?_
    refine stepGI [(52, _)] (guard_some rfl rfl rfl) rfl (nb hn rfl) (fun hc => ⟨⟨_, rfl, hc⟩, trivial⟩) (fun hc => q_loadp rfl rfl Try.underlying3 rfl seesF0) rfl ?_
    refine stepGI [] (guard_some rfl rfl rfl) rfl (nb hn rfl) (fun hc => trivial) (fun hc => q_fieldAddrp rfl rfl Try.underlying119 rfl sz3 rfl) rfl ?_
    refine stepGI [(54, _)] (guard_some rfl rfl rfl) rfl (nb hn rfl) (fun hc => ⟨⟨_, rfl, hc⟩, trivial⟩) (fun hc => q_loadp rfl rfl Try.underlying3 rfl seesF0) rfl ?_
    refine stepGI [(53, _), (55, _)] (guard_some rfl rfl rfl) rfl (nb hn rfl) (fun hc => ⟨⟨_, rfl, hc⟩, ⟨_, rfl, hc⟩, trivial⟩) (fun hc => q_gtr rfl rfl rfl) rfl ?_
    refine sqI rfl rfl hn rfl (q_or rfl rfl rfl (by simp_all)) rfl ?_
    refine run_nilI ?_
    refine aend_thenI ?_
    refine awi_cond rfl (fun hb1 => ?_) (fun hb1 => ?_)
    · skip
      refine awi_region ?_
      refine sqI rfl rfl hn rfl (q_move rfl rfl) rfl ?_
      refine sqI rfl rfl hn rfl (q_fieldAddrp rfl rfl Try.underlying119 rfl sz3 rfl) rfl ?_
      refine sqI rfl rfl hn rfl (q_loadp rfl rfl Try.underlying3 rfl seesF0) rfl ?_
      refine sqI rfl rfl hn rfl (q_fieldAddrp rfl rfl Try.underlying119 rfl sz3 rfl) rfl ?_
      refine sqI rfl rfl hn rfl (q_loadp rfl rfl Try.underlying3 rfl seesF0) rfl ?_
      refine sqI rfl rfl hn rfl (q_add rfl rfl rfl (r := ((n + 1 : Nat) : Int)) (i64w (by omega) (by omega))) rfl ?_
      refine sqI rfl rfl hn rfl (q_fieldAddrp rfl rfl Try.underlying119 rfl sz102 rfl) rfl ?_
      refine sqI rfl rfl hn rfl (q_loadp rfl rfl Try.underlying102 rfl seesF0) rfl ?_
      refine sqI rfl rfl hn rfl (q_buildd rfl bt119 rfl rfl rfl rfl rfl) rfl ?_
      refine stepWI (s_yield [] (i1) (fun _ => hy _ [spotD d (n + 1) m] i1 (next_second (by simpa using hb1)) hA1) rfl (guard_none rfl) rfl (nb hn rfl) (fun _ => trivial) rfl rfl (.refl _) rfl (fun _ _ => trivial)) fun ⟨⟨b2, i2⟩, hq1, hq0⟩ => ?_
      refine run_nilI ?_
      exact ret_E (.inr rfl) ⟨i2, by rw [next_len_t (by simpa using hb1)]; cases b2; exact .inr ((hq1 rfl).2 rfl); exact .inl ((hq1 rfl).1 rfl)⟩ (hands_0 rfl) ⟨rfl, trivial⟩
    · skip
      refine awi_skip ?_
      exact ret_E (.inr rfl) ⟨i1, .inl (by rw [next_len_f (by simpa using hb1)]; exact hA1)⟩ (hands_0 rfl) ⟨rfl, trivial⟩
/-- What is known is right. -/
def Good (r : Reg) (M : D → D → Prop) : Prop := ∀ x y, M x y → ∃ d n m, x = spotD d n m ∧ y = .bool (goesB r d n m)
def GoesOK (r : Reg) (b k : Nat) : Prop := ∀ (d n m : Nat) (M : D → D → Prop), d ≤ 10 → n ≤ r.entries.length → m < 2 ^ r.entries.length → muS r d n < k → Good r M →
  EffAt Try.prog 68 [.d (.ptr (workC r b)), .d (spotD d n m)] [(1000, mapRes KS b M)] (X := {M // Good r M}) (fun _ => .d (.bool (goesB r d n m))) (fun M => [(1000, mapRes KS b M.1)])
theorem look_bool {r : Reg} {M : D → D → Prop} {d n m : Nat} (hM : Good r M) (lr : {q : Option D // (∀ x, q = some x → M (spotD d n m) x) ∧ (q = none → ∀ x, ¬ M (spotD d n m) x)}) :
    ∃ xb : Bool, lr.1.getD (.bool false) = .bool xb ∧ (lr.1.isSome = true → xb = goesB r d n m) ∧ (lr.1.isSome = false → xb = false) := by
  obtain ⟨q, h1, h2⟩ := lr
  cases q with
  | none => exact ⟨false, rfl, fun h => (by cases h), fun _ => rfl⟩
  | some x =>
    obtain ⟨d', n', m', e1, e2⟩ := hM _ _ (h1 x rfl)
    have e3 := D.agg.inj e1
    simp only [spotC, List.cons.injEq, D.int.injEq, true_and, and_true, Int.natCast_inj] at e3
    obtain ⟨rfl, rfl, rfl⟩ := e3
    exact ⟨_, e2, fun _ => rfl, fun h => (by cases h)⟩
theorem good_set {r : Reg} {M : D → D → Prop} {d n m : Nat} {x : Bool} (hM : Good r M) (hx : x = goesB r d n m) : Good r (setM M (spotD d n m) (.bool x)) := fun a c h => by
  rcases h with ⟨rfl, rfl⟩ | ⟨_, h⟩
  · exact ⟨d, n, m, rfl, by rw [hx]⟩
  · exact hM a c h
theorem nextXs_len (r : Reg) (d n m : Nat) : ∀ x ∈ nextXs r d n m, x.length = (#[51] : Array Tmp).size := fun x hx => by
  obtain ⟨s, _, rfl⟩ := List.mem_map.1 hx
  rfl
theorem nextXs_get {r : Reg} {d n m j : Nat} {x : List D} (h : (nextXs r d n m)[j]? = some x) : ∃ s, (nextL r d n m)[j]? = some s ∧ x = spotX s := by
  simp only [nextXs, List.getElem?_map, Option.map_eq_some_iff] at h
  obtain ⟨s, h1, h2⟩ := h
  exact ⟨s, h1, h2.symm⟩
theorem next_lt {m m' n k : Nat} (hm : m < 2 ^ k) (hn : n < k) (h : m' = m ∨ m' = m ||| 2 ^ n) : m' < 2 ^ k := by
  rcases h with rfl | rfl
  · exact hm
  · exact Nat.or_lt_two_pow hm (Nat.pow_lt_pow_right (by omega) hn)
theorem goes_step (r : Reg) (v : Valid r) (b k : Nat) (ih : GoesOK r b k) (d n m : Nat) (M : D → D → Prop) (hd : d ≤ 10) (hn6 : n ≤ r.entries.length) (hm : m < 2 ^ r.entries.length) (hk : muS r d n < k + 1) (hM : Good r M) : EffAt Try.prog 68 [.d (.ptr (workC r b)), .d (spotD d n m)] [(1000, mapRes KS b M)] (X := {M // Good r M}) (fun _ => .d (.bool (goesB r d n m))) (fun M => [(1000, mapRes KS b M.1)]) := by
  have he6 := v.e6
  have hm64 := lt64 he6 hm
  refine EffAt.of_awpM Try.func68 rfl (by kernel_rfl) rfl fun Γ hn => ?_
  refine awp_seq ?_
  refine awp_region ?_
  refine stepW (s_box 2 rfl rfl rfl (nb hn rfl) rfl rfl) fun b2 => ?_
  refine stepW (s_box 3 rfl rfl rfl (nb hn rfl) rfl rfl) fun b3 => ?_
  refine sq rfl rfl hn rfl (q_assign rfl rfl) ?_
  refine run_nil ?_
  refine aend_then ?_
  refine awp_seq ?_
  refine awp_seq ?_
  refine gh_awp (g_freeze (t := 2) 2 rfl (nb hn rfl) rfl rfl trivial) ?_
  refine gh_awp (g_freeze (t := 3) 3 rfl (nb hn rfl) rfl rfl trivial) ?_
  refine awp_region ?_
  refine sq rfl rfl hn rfl (q_fieldAddrp rfl rfl Try.underlying119 rfl sz3 rfl) ?_
  refine sq rfl rfl hn rfl (q_loadp rfl rfl Try.underlying3 rfl seesF0) ?_
  refine sq rfl rfl hn rfl (q_gtr rfl rfl rfl) ?_
  refine run_nil ?_
  refine aend_then ?_
  refine awp_cond rfl (fun hb0 => ?_) (fun hb0 => ?_)
  · try simp only [decide_eq_true_eq, decide_eq_false_iff_not, Bool.and_eq_true, Bool.or_eq_true, Bool.and_eq_false_iff, Bool.or_eq_false_iff, Bool.not_eq_true', Bool.not_eq_false', beq_iff_eq, bne_iff_ne, ne_eq, beq_eq_false_iff_ne, bne_eq_false_iff_eq, Int.not_lt, Int.not_le] at hb0
    refine awp_seq ?_
    refine awp_region ?_
    refine sq rfl rfl hn rfl (q_assign rfl rfl) ?_
    refine run_nil ?_
    refine aend_then ?_
    refine awp_ret ?_
    refine aend_then_ret ?_
    exact ret_M (.inl rfl) ⟨M, hM⟩ (.inl rfl) ((hands_1 rfl (.tmp rfl)).eq (by rw [goesB_end (by omega)]; rfl)) ⟨rfl, trivial⟩ rfl
  · try simp only [decide_eq_true_eq, decide_eq_false_iff_not, Bool.and_eq_true, Bool.or_eq_true, Bool.and_eq_false_iff, Bool.or_eq_false_iff, Bool.not_eq_true', Bool.not_eq_false', beq_iff_eq, bne_iff_ne, ne_eq, beq_eq_false_iff_ne, bne_eq_false_iff_eq, Int.not_lt, Int.not_le] at hb0
    have hd9 : d ≤ 9 := by omega
    refine awp_skip ?_
    refine aend_then ?_
    refine awp_seq ?_
    refine awp_join_on (e := .normal) (ι := {x : Nat × Bool × Bool // (x.2.2 = true → x.2.1 = goesB r d n m) ∧ (x.2.2 = false → x.2.1 = false)}) (fun x => (5, true, .val (.pointer (some ⟨x.1.1, 0, none⟩))) :: (6, true, .d (.bool x.1.2.2)) :: anys [14, 15, 16, 17, 18, 19, 13, 20, 21]) (fun x => [(5, .box x.1.1 4 [.d (.bool x.1.2.1)])]) (fun hJ1 => ?_) ?_
    · skip
      refine d_start (W := fun b => True) fmo ?_
      refine d1q (i := 0) rfl (by kernel_rfl) (fun _ _ _ _ h => h) rfl rfl hn rfl (q_loadp rfl rfl Try.underlying115 rfl seesFA) ?_
      refine d1q (i := 1) rfl (by kernel_rfl) (fun _ _ _ _ h => h) rfl rfl hn rfl (q_nilCheckp rfl rfl) ?_
      refine d1q (i := 2) rfl (by kernel_rfl) (fun _ _ _ _ h => h) rfl rfl hn rfl (q_fieldAddrp rfl rfl Try.underlying144 rfl sz142 rfl) ?_
      refine d1q (i := 3) rfl (by kernel_rfl) (fun _ _ _ _ h => h) rfl rfl hn rfl (q_loadp rfl rfl Try.underlying142 rfl seesFA) ?_
      refine d1q (i := 4) rfl (by kernel_rfl) (fun _ _ _ _ h => h) rfl rfl hn rfl (q_loadpA rfl rfl Try.underlying119 rfl sz119 rfl rfl seesFA) ?_
      refine d1_of_d2 ?_
      refine d2_all 5 [9] (by kernel_rfl) ⟨?_, ?_, trivial⟩
      · skip
        refine br rfl (s_lookup (id := 1000) (zd := (.bool false)) rfl rfl rfl (nb hn rfl) spot_law Try.underlying142 zr4 rfl (.d rfl) rfl rfl (spot_kv hd (by omega) hm64) rfl) fun lr => ?_
        obtain ⟨xb, hx1, hx2⟩ := look_bool hM lr
        rw [hx1]
        refine d2_of_d1 ?_
        refine d1q (i := 6) rfl (by kernel_rfl) (fun _ _ _ _ h => h) rfl rfl hn rfl (q_move rfl rfl) ?_
        refine d1q (i := 7) rfl (by kernel_rfl) (fun _ _ _ _ h => h) rfl rfl hn rfl (q_extractd rfl rfl rfl) ?_
        refine d1q (i := 8) rfl (by kernel_rfl) (fun _ _ _ _ h => h) rfl rfl hn rfl (q_extractd rfl rfl rfl) ?_
        refine d1_of_d2 ?_
        refine d2_one (i := 9) (by kernel_rfl) rfl (s_alloc 5 rfl rfl rfl (nb hn rfl) zr4 rfl rfl) fun b5 => ?_
        refine d2_of_d1 ?_
        refine d1_of_d2 ?_
        refine d2_one (i := 10) (by kernel_rfl) rfl (s_store1 rfl rfl rfl rfl rfl rfl (id := 5) rfl sz4 (Nat.le_of_ble_eq_true rfl) rfl trivial) fun _ => ?_
        refine d2_of_d1 ?_
        refine d1q (i := 11) rfl (by kernel_rfl) (fun _ _ _ _ h => h) rfl rfl hn rfl (q_assign rfl rfl) ?_
        refine d1_of_d2 ?_
        refine d2_done (by kernel_rfl) ?_
        exact aend_join_on hJ1 ⟨(b5, xb, lr.1.isSome), hx2⟩ ⟨.inl rfl, .inl rfl, holdT_anys _⟩ ⟨.inl rfl, trivial⟩ (by repeat (first | exact kr _ | refine kc rfl ?_)) (by repeat (first | exact kr _ | refine kc rfl ?_))
      · skip
        refine br rfl (s_alloc 5 rfl rfl rfl (nb hn rfl) zr4 rfl rfl) fun b5 => ?_
        refine d2_of_d1 ?_
        refine d1_of_d2 ?_
        refine d2_one (i := 5) (by kernel_rfl) rfl (s_lookup (id := 1000) (zd := (.bool false)) rfl rfl rfl (nb hn rfl) spot_law Try.underlying142 zr4 rfl (.d rfl) rfl rfl (spot_kv hd (by omega) hm64) rfl) fun lr => ?_
        obtain ⟨xb, hx1, hx2⟩ := look_bool hM lr
        rw [hx1]
        refine d2_of_d1 ?_
        refine d1q (i := 6) rfl (by kernel_rfl) (fun _ _ _ _ h => h) rfl rfl hn rfl (q_move rfl rfl) ?_
        refine d1q (i := 7) rfl (by kernel_rfl) (fun _ _ _ _ h => h) rfl rfl hn rfl (q_extractd rfl rfl rfl) ?_
        refine d1q (i := 8) rfl (by kernel_rfl) (fun _ _ _ _ h => h) rfl rfl hn rfl (q_extractd rfl rfl rfl) ?_
        refine d1_of_d2 ?_
        refine d2_one (i := 10) (by kernel_rfl) rfl (s_store1 rfl rfl rfl rfl rfl rfl (id := 5) rfl sz4 (Nat.le_of_ble_eq_true rfl) rfl trivial) fun _ => ?_
        refine d2_of_d1 ?_
        refine d1q (i := 11) rfl (by kernel_rfl) (fun _ _ _ _ h => h) rfl rfl hn rfl (q_assign rfl rfl) ?_
        refine d1_of_d2 ?_
        refine d2_done (by kernel_rfl) ?_
        exact aend_join_on hJ1 ⟨(b5, xb, lr.1.isSome), hx2⟩ ⟨.inl rfl, .inl rfl, holdT_anys _⟩ ⟨.inl rfl, trivial⟩ (by repeat (first | exact kr _ | refine kc rfl ?_)) (by repeat (first | exact kr _ | refine kc rfl ?_))
    · rintro ⟨⟨b5, is, kn⟩, hkn, hkf⟩
      dsimp only
      dsimp only at hkn hkf
      refine aend_then ?_
      refine awp_seq ?_
      refine awp_seq ?_
      refine awp_region ?_
      refine sq rfl rfl hn rfl (q_move rfl rfl) ?_
      refine run_nil ?_
      refine aend_then ?_
      refine awp_cond rfl (fun hb2 => ?_) (fun hb2 => ?_)
      · skip
        refine awp_seq ?_
        refine awp_region ?_
        refine sq rfl rfl hn rfl (q_load rfl rfl (id := 5) rfl Try.underlying4 rfl rfl sees0) ?_
        refine sq rfl rfl hn rfl (q_assign rfl rfl) ?_
        refine run_nil ?_
        refine aend_then ?_
        refine awp_ret ?_
        refine aend_then_ret ?_
        exact ret_M (.inl rfl) ⟨M, hM⟩ (.inl rfl) ((hands_1 rfl (.tmp rfl)).eq (by rw [hkn hb2])) ⟨rfl, trivial⟩ rfl
      · skip
        have his : is = false := hkf hb2
        subst his
        refine awp_skip ?_
        refine aend_then ?_
        refine awp_seq ?_
        refine awp_seq ?_
        refine d_start (W := fun b => True) fmo ?_
        refine d1q (i := 0) rfl (by kernel_rfl) (fun _ _ _ _ h => h) rfl rfl hn rfl (q_fieldAddrp rfl rfl Try.underlying119 rfl sz3 rfl) ?_
        refine d1q (i := 1) rfl (by kernel_rfl) (fun _ _ _ _ h => h) rfl rfl hn rfl (q_loadp rfl rfl Try.underlying3 rfl seesFA) ?_
        refine d1q (i := 2) rfl (by kernel_rfl) (fun _ _ _ _ h => h) rfl rfl hn rfl (q_loadp rfl rfl Try.underlying115 rfl seesFA) ?_
        refine d1q (i := 3) rfl (by kernel_rfl) (fun _ _ _ _ h => h) rfl rfl hn rfl (q_nilCheckp rfl rfl) ?_
        refine d1q (i := 4) rfl (by kernel_rfl) (fun _ _ _ _ h => h) rfl rfl hn rfl (q_fieldAddrp rfl rfl Try.underlying144 rfl sz35 rfl) ?_
        refine d1q (i := 5) rfl (by kernel_rfl) (fun _ _ _ _ h => h) rfl rfl hn rfl (q_fieldAddrp rfl rfl Try.underlying35 rfl sz32 rfl) ?_
        refine d1q (i := 6) rfl (by kernel_rfl) (fun _ _ _ _ h => h) rfl rfl hn rfl (q_loadp rfl rfl Try.underlying32 rfl seesFA) ?_
        refine d1q (i := 7) rfl (by kernel_rfl) (fun _ _ _ _ h => h) rfl rfl hn rfl (q_len rfl rfl Try.underlying32) ?_
        refine d1q (i := 8) rfl (by kernel_rfl) (fun _ _ _ _ h => h) rfl rfl hn rfl (q_eql rfl rfl rfl) ?_
        refine d1_of_d2 ?_
        refine d2_done (by kernel_rfl) ?_
        refine aend_then ?_
        refine awp_cond rfl (fun hb3 => ?_) (fun hb3 => ?_)
        · try simp only [decide_eq_true_eq, decide_eq_false_iff_not, Bool.and_eq_true, Bool.or_eq_true, Bool.and_eq_false_iff, Bool.or_eq_false_iff, Bool.not_eq_true', Bool.not_eq_false', beq_iff_eq, bne_iff_ne, ne_eq, beq_eq_false_iff_ne, bne_eq_false_iff_eq, Int.not_lt, Int.not_le] at hb3
          have hnl : n = r.entries.length := by simp only [List.length_map] at hb3; omega
          subst hnl
          refine awp_seq ?_
          refine awp_region ?_
          refine sq rfl rfl hn rfl (q_loadp rfl rfl Try.underlying115 rfl seesF0) ?_
          refine sq rfl rfl hn rfl (q_loadpA rfl rfl Try.underlying119 rfl sz119 rfl rfl seesF0) ?_
          refine stepW (s_call [] (fun _ => closed_ok r b d _ m v hd9 hm64) rfl (guard_none rfl) rfl (nb hn rfl) (fun _ => trivial) rfl rfl (.refl _)) fun _ => ?_
          refine sq rfl rfl hn rfl (q_move rfl rfl) ?_
          refine sq rfl rfl hn rfl (q_extractd rfl rfl rfl) ?_
          refine sq rfl rfl hn rfl (q_extractd rfl rfl rfl) ?_
          refine stepW (s_alloc 7 rfl rfl rfl (nb hn rfl) zr119 rfl rfl) fun b7 => ?_
          refine stepW (s_store rfl rfl rfl rfl rfl rfl (id := 7) rfl sz119 rfl (Nat.le_of_ble_eq_true rfl) rfl trivial) fun _ => ?_
          refine sq rfl rfl hn rfl (q_assign rfl rfl) ?_
          refine run_nil ?_
          refine aend_then ?_
          refine awp_region ?_
          refine sq rfl rfl hn rfl (q_move rfl rfl) ?_
          refine sq rfl rfl hn rfl (q_move rfl rfl) ?_
          refine stepG [] (guard_some rfl rfl rfl) rfl (nb hn rfl) (fun hc => trivial) (fun hc => q_loadp rfl rfl Try.underlying115 rfl seesF0) ?_
          refine stepG [] (guard_some rfl rfl rfl) rfl (nb hn rfl) (fun hc => trivial) (fun hc => q_loadAd rfl rfl (id := 7) rfl Try.underlying119 rfl sz119 rfl rfl sees0) ?_
          refine stepW (s_callEg [(41, _), (42, _)] ⟨M, hM⟩ (fun hc => ih (d + 1) 0 m M (by omega) (by omega) hm (by have := muS_day (r := r) (n := r.entries.length) hd9; omega) hM) rfl (guard_some rfl rfl rfl) rfl (nb hn rfl) (fun hc => ⟨⟨_, rfl, hc⟩, ⟨_, rfl, hc⟩, trivial⟩) (.d rfl) rfl (.refl _) ⟨rfl, trivial⟩ (fun _ => rfl) (fun _ _ => trivial) ⟨rfl, trivial⟩) fun ⟨⟨M1, hM1⟩, hc1⟩ => ?_
          refine sq rfl rfl hn rfl (q_and rfl rfl rfl (by simp_all)) ?_
          refine stepW (s_store1 rfl rfl rfl rfl rfl rfl (id := 5) rfl sz4 (Nat.le_of_ble_eq_true rfl) rfl trivial) fun _ => ?_
          refine run_nil ?_
          refine aend_then ?_
          refine awp_seq ?_
          refine gh_awp (g_freeze (t := 5) 5 rfl (nb hn rfl) rfl rfl trivial) ?_
          refine d_start (W := fun b => True) fmo ?_
          refine d1q (i := 0) rfl (by kernel_rfl) (fun _ _ _ _ h => h) rfl rfl hn rfl (q_loadp rfl rfl Try.underlying115 rfl seesFA) ?_
          refine d1q (i := 1) rfl (by kernel_rfl) (fun _ _ _ _ h => h) rfl rfl hn rfl (q_nilCheckp rfl rfl) ?_
          refine d1q (i := 2) rfl (by kernel_rfl) (fun _ _ _ _ h => h) rfl rfl hn rfl (q_fieldAddrp rfl rfl Try.underlying144 rfl sz142 rfl) ?_
          refine d1q (i := 3) rfl (by kernel_rfl) (fun _ _ _ _ h => h) rfl rfl hn rfl (q_loadp rfl rfl Try.underlying142 rfl seesFA) ?_
          refine d1q (i := 4) rfl (by kernel_rfl) (fun _ _ _ _ h => h) rfl rfl hn rfl (q_loadpA rfl rfl Try.underlying119 rfl sz119 rfl rfl seesFA) ?_
          refine d1q (i := 5) rfl (by kernel_rfl) (fun _ _ _ _ h => h) rfl rfl hn rfl (q_loadp rfl rfl Try.underlying4 rfl seesFA) ?_
          refine d1_of_d2 ?_
          refine d2_one (i := 6) (by kernel_rfl) rfl (s_mapUpdate (id := 1000) rfl rfl rfl spot_law Try.underlying142 (.d rfl) rfl rfl (spot_kv hd (by omega) hm64) rfl rfl rfl rfl trivial) fun _ => ?_
          refine d2_of_d1 ?_
          refine d1_of_d2 ?_
          refine d2_done (by kernel_rfl) ?_
          refine aend_then ?_
          refine awp_seq ?_
          refine awp_region ?_
          refine sq rfl rfl hn rfl (q_loadp rfl rfl Try.underlying4 rfl seesF0) ?_
          refine sq rfl rfl hn rfl (q_assign rfl rfl) ?_
          refine run_nil ?_
          refine aend_then ?_
          refine awp_ret ?_
          exact ret_M (.inl rfl) ⟨_, good_set hM1 (goesB_day hd9).symm⟩ (.inl rfl) ((hands_1 rfl (.tmp rfl)).eq (by rw [goesB_day (by omega)])) ⟨rfl, trivial⟩ rfl
        · try simp only [decide_eq_true_eq, decide_eq_false_iff_not, Bool.and_eq_true, Bool.or_eq_true, Bool.and_eq_false_iff, Bool.or_eq_false_iff, Bool.not_eq_true', Bool.not_eq_false', beq_iff_eq, bne_iff_ne, ne_eq, beq_eq_false_iff_ne, bne_eq_false_iff_eq, Int.not_lt, Int.not_le] at hb3
          have hnl : n < r.entries.length := by simp only [List.length_map] at hb3; omega
          obtain ⟨e, he⟩ := ex_get hnl
          refine awp_seq ?_
          refine d_start (W := fun b => True) fmo ?_
          refine d1q (i := 0) rfl (by kernel_rfl) (fun _ _ _ _ h => h) rfl rfl hn rfl (q_loadp rfl rfl Try.underlying115 rfl seesFA) ?_
          refine d1q (i := 1) rfl (by kernel_rfl) (fun _ _ _ _ h => h) rfl rfl hn rfl (q_nilCheckp rfl rfl) ?_
          refine d1q (i := 2) rfl (by kernel_rfl) (fun _ _ _ _ h => h) rfl rfl hn rfl (q_fieldAddrp rfl rfl Try.underlying144 rfl sz35 rfl) ?_
          refine d1q (i := 3) rfl (by kernel_rfl) (fun _ _ _ _ h => h) rfl rfl hn rfl (q_loadpA rfl rfl Try.underlying35 rfl sz35 rfl rfl seesFA) ?_
          refine d1q (i := 4) rfl (by kernel_rfl) (fun _ _ _ _ h => h) rfl rfl hn rfl (q_loadpA rfl rfl Try.underlying119 rfl sz119 rfl rfl seesFA) ?_
          refine d1_of_d2 ?_
          refine d2_one (i := 5) (by kernel_rfl) rfl (s_call [] (fun _ => next_ok _ _ _ _) rfl (guard_none rfl) rfl (nb hn rfl) (fun _ => trivial) rfl rfl (.refl _)) fun _ => ?_
          refine d2_of_d1 ?_
          refine d1_of_d2 ?_
          refine d2_done (by kernel_rfl) ?_
          refine aend_then ?_
          refine awp_block ?_
          refine awp_rangeFunc (ι := {x : Bool × (D → D → Prop) // Good r x.2}) (fun x => [(5, .box b5 4 [.d (.bool x.1.1)]), (1000, mapRes KS b x.1.2)]) (fun j x => x.1.1 = ((nextL r d n m).take j).any fun s => goesB r s.1 s.2.1 s.2.2) (fun _ _ => False) ⟨(false, M), hM⟩ ((next1_ok r d n m e he v hd9 (by omega) hm64)) rfl (nextXs_len r d n m) (by rw [hn]; rfl) (.inl rfl) ⟨rfl, rfl, trivial⟩ rfl (fun _ => rfl) (fun _ => rfl) rfl rfl ?_ ?_ ?_
          · rintro l0 r0 Γr j0 x0 ⟨⟨is1, M1⟩, hM1⟩ hnr hrd hx0 hA0
            dsimp only at hA0
            obtain ⟨s, hs, rfl⟩ := nextXs_get hx0
            have hsm := nextL_mem (List.mem_of_getElem? hs)
            obtain ⟨s1, s2, s3⟩ := s
            obtain rfl : d = s1 := hsm.1.symm
            obtain rfl : n + 1 = s2 := hsm.2.1.symm
            have hs3 := hsm.2.2.1
            dsimp only at hs3
            have hs3b : s3 < 2 ^ r.entries.length := next_lt hm hnl hs3
            refine awi_region ?_
            refine stepWI ((s_alloc 9 rfl rfl rfl (nb (hnr.trans hn) rfl) zr119 rfl rfl).i rfl) fun b9 => ?_
            refine stepWI ((s_store rfl rfl rfl rfl rfl rfl (id := 9) rfl sz119 rfl (Nat.le_of_ble_eq_true rfl) rfl trivial).i rfl) fun _ => ?_
            refine run_nilI ?_
            refine aend_begin hrd rfl ?_
            refine awi_block ?_
            refine awi_region ?_
            refine sqI rfl rfl (hnr.trans hn) rfl (q_load rfl rfl (id := 5) rfl Try.underlying4 rfl rfl sees0) rfl ?_
            refine sqI rfl rfl (hnr.trans hn) rfl (q_move rfl rfl) rfl ?_
            refine stepGI [] (guard_some rfl rfl rfl) rfl (nb (hnr.trans hn) rfl) (fun hc => trivial) (fun hc => q_loadp rfl rfl Try.underlying115 rfl seesF0) rfl ?_
            refine stepGI [] (guard_some rfl rfl rfl) rfl (nb (hnr.trans hn) rfl) (fun hc => trivial) (fun hc => q_loadAd rfl rfl (id := 9) rfl Try.underlying119 rfl sz119 rfl rfl sees0) rfl ?_
            refine stepWI ((s_callEg [(54, _), (55, _)] ⟨M1, hM1⟩ (fun hc => ih d (n + 1) s3 M1 hd (by omega) hs3b (by have := muS_next (r := r) hd9 hnl; omega) hM1) rfl (guard_some rfl rfl rfl) rfl (nb (hnr.trans hn) rfl) (fun hc => ⟨⟨_, rfl, hc⟩, ⟨_, rfl, hc⟩, trivial⟩) (.d rfl) rfl (.refl _) ⟨rfl, trivial⟩ (fun _ => rfl) (fun _ _ => trivial) ⟨rfl, trivial⟩).i rfl) fun ⟨⟨M2, hM2⟩, hc2⟩ => ?_
            refine sqI rfl rfl (hnr.trans hn) rfl (q_or rfl rfl rfl (by simp_all)) rfl ?_
            refine stepWI ((s_store1 rfl rfl rfl rfl rfl rfl (id := 5) rfl sz4 (Nat.le_of_ble_eq_true rfl) rfl trivial).i rfl) fun _ => ?_
            refine run_nilI ?_
            refine aend_block ?_
            exact aend_round_go ⟨(is1 || goesB r d (n + 1) s3, M2), hM2⟩ (by show _ = _; rw [any_take hs, ← hA0]) ⟨rfl, rfl, rfl, trivial⟩
          · rintro ⟨⟨is1, M1⟩, hM1⟩ D0 hA0
            rw [show (nextXs r d n m).length = (nextL r d n m).length by simp [nextXs], List.take_length, ← goesB_next hd9 hnl] at hA0
            dsimp only at hA0
            subst hA0
            refine aend_block ?_
            refine aend_then ?_
            refine awp_seq ?_
            refine gh_awp (g_freeze (t := 5) 5 rfl (nb hn rfl) rfl rfl trivial) ?_
            refine d_start (W := fun b => True) fmo ?_
            refine d1q (i := 0) rfl (by kernel_rfl) (fun _ _ _ _ h => h) rfl rfl hn rfl (q_loadp rfl rfl Try.underlying115 rfl seesFA) ?_
            refine d1q (i := 1) rfl (by kernel_rfl) (fun _ _ _ _ h => h) rfl rfl hn rfl (q_nilCheckp rfl rfl) ?_
            refine d1q (i := 2) rfl (by kernel_rfl) (fun _ _ _ _ h => h) rfl rfl hn rfl (q_fieldAddrp rfl rfl Try.underlying144 rfl sz142 rfl) ?_
            refine d1q (i := 3) rfl (by kernel_rfl) (fun _ _ _ _ h => h) rfl rfl hn rfl (q_loadp rfl rfl Try.underlying142 rfl seesFA) ?_
            refine d1q (i := 4) rfl (by kernel_rfl) (fun _ _ _ _ h => h) rfl rfl hn rfl (q_loadpA rfl rfl Try.underlying119 rfl sz119 rfl rfl seesFA) ?_
            refine d1q (i := 5) rfl (by kernel_rfl) (fun _ _ _ _ h => h) rfl rfl hn rfl (q_loadp rfl rfl Try.underlying4 rfl seesFA) ?_
            refine d1_of_d2 ?_
            refine d2_one (i := 6) (by kernel_rfl) rfl (s_mapUpdate (id := 1000) rfl rfl rfl spot_law Try.underlying142 (.d rfl) rfl rfl (spot_kv hd (by omega) hm64) rfl rfl rfl rfl trivial) fun _ => ?_
            refine d2_of_d1 ?_
            refine d1_of_d2 ?_
            refine d2_done (by kernel_rfl) ?_
            refine aend_then ?_
            refine awp_seq ?_
            refine awp_region ?_
            refine sq rfl rfl hn rfl (q_loadp rfl rfl Try.underlying4 rfl seesF0) ?_
            refine sq rfl rfl hn rfl (q_assign rfl rfl) ?_
            refine run_nil ?_
            refine aend_then ?_
            refine awp_ret ?_
            exact ret_M (.inl rfl) ⟨_, good_set hM1 rfl⟩ (.inr rfl) ((hands_1 rfl (.tmp rfl)).eq rfl) ⟨rfl, trivial⟩ rfl
          · exact fun _ _ _ h => h.elim
end Go.Proofs.Ytnbmmopjkkofoaa
namespace Go.Proofs.Ytnbmmopjkkofoaa
open Go.RowKit
set_option maxRecDepth 20000
set_option linter.all false
theorem goes_all (r : Reg) (v : Valid r) (b : Nat) : ∀ k, GoesOK r b k := by
  intro k
  induction k with
  | zero => intro d n m M _ _ _ h; omega
  | succ k ih => intro d n m M h1 h2 h3 h4 h5; exact goes_step r v b k ih d n m M h1 h2 h3 h4 h5
theorem goes_ok (r : Reg) (v : Valid r) (b d n m : Nat) (M : D → D → Prop) (hd : d ≤ 10) (hn : n ≤ r.entries.length) (hm : m < 2 ^ r.entries.length) (hM : Good r M) :
    EffAt Try.prog 68 [.d (.ptr (workC r b)), .d (spotD d n m)] [(1000, mapRes KS b M)] (X := {M // Good r M}) (fun _ => .d (.bool (goesB r d n m))) (fun M => [(1000, mapRes KS b M.1)]) :=
  goes_all r v b _ d n m M hd hn hm (Nat.lt_succ_self _) hM
abbrev Spots := Nat → Nat → Nat → Prop
/-- Where the walk goes on from a spot: it ends with the evening N. -/
def succL (r : Reg) (N d n m : Nat) : List (Nat × Nat × Nat) := if n < r.entries.length then nextL r d n m else if d = N then [] else [(d + 1, 0, m)]
/-- What can be reached, all that is left being possible. -/
inductive Rch (r : Reg) (N : Nat) : Spots
  | start (h : goesB r 0 0 0 = true) : Rch r N 0 0 0
  | step {d n m : Nat} {s : Nat × Nat × Nat} (h : Rch r N d n m) (hs : s ∈ succL r N d n m) (hg : goesB r s.1 s.2.1 s.2.2 = true) : Rch r N s.1 s.2.1 s.2.2
theorem Rch.bd {r : Reg} {N d n m : Nat} (h : Rch r N d n m) (hN : N ≤ 9) : d ≤ N ∧ n ≤ r.entries.length ∧ m < 2 ^ r.entries.length := by
  induction h with
  | start => exact ⟨by omega, by omega, Nat.two_pow_pos _⟩
  | step _ hs _ ih =>
    unfold succL at hs
    split at hs
    · obtain ⟨e1, e2, e3, e4⟩ := nextL_mem hs
      exact ⟨by omega, by omega, next_lt ih.2.2 e4 e3⟩
    · split at hs
      · cases hs
      · rw [List.mem_singleton] at hs
        subst hs
        exact ⟨by dsimp only; omega, by dsimp only; omega, ih.2.2⟩
theorem nodup_le : ∀ (n : Nat) (l : List Nat), l.Nodup → (∀ x ∈ l, x < n) → l.length ≤ n
  | 0, l, _, h => by cases l with
    | nil => simp
    | cons x l => exact absurd (h x (by simp)) (by omega)
  | n + 1, l, hn, h => by
    have h1 := nodup_le n (l.filter (fun x => x != n)) (hn.filter _) (fun x hx => by
      rw [List.mem_filter] at hx
      have := h x hx.1
      have h2 : x ≠ n := by simpa using hx.2
      omega)
    have h2 : l.length ≤ (l.filter (fun x => x != n)).length + 1 := by
      clear h1 h
      induction l with
      | nil => simp
      | cons y l ih =>
        have hn' := List.nodup_cons.1 hn
        by_cases e : y = n
        · subst e
          have : l.filter (fun x => x != y) = l := List.filter_eq_self.2 fun x hx => by
            have : x ≠ y := fun e => hn'.1 (e ▸ hx)
            simpa using this
          simp [this]
        · have hy : (y != n) = true := by simpa using e
          rw [List.filter_cons, hy]
          simp only [if_true, List.length_cons]
          have := ih hn'.2
          omega
    omega
def VOK (r : Reg) (N : Nat) (Vis : Spots) (out : List Nat) : Prop := (∀ d n m, Vis d n m → Rch r N d n m) ∧ (∀ m, m ∈ out ↔ Vis N r.entries.length m) ∧ out.Nodup
def ClosedUp (r : Reg) (N : Nat) (Vis Vis' : Spots) : Prop := ∀ a b c, Vis' a b c → ¬ Vis a b c → ∀ s ∈ succL r N a b c, goesB r s.1 s.2.1 s.2.2 = true → Vis' s.1 s.2.1 s.2.2
/-- What a walk from a spot leaves. -/
def WPost (r : Reg) (N : Nat) (Vis : Spots) (d n m : Nat) (Vis' : Spots) (out' : List Nat) : Prop :=
  VOK r N Vis' out' ∧ (∀ a b c, Vis a b c → Vis' a b c) ∧ (goesB r d n m = true → Vis' d n m) ∧ ClosedUp r N Vis Vis'
def addV (Vis : Spots) (d n m : Nat) : Spots := fun a b c => Vis a b c ∨ (a = d ∧ b = n ∧ c = m)
/-- The same in the midst of it, some of the next ones being done. -/
def WMid (r : Reg) (N : Nat) (Vis1 : Spots) (ss : List (Nat × Nat × Nat)) (Vis' : Spots) (out' : List Nat) : Prop :=
  VOK r N Vis' out' ∧ (∀ a b c, Vis1 a b c → Vis' a b c) ∧ (∀ s ∈ ss, goesB r s.1 s.2.1 s.2.2 = true → Vis' s.1 s.2.1 s.2.2) ∧ ClosedUp r N Vis1 Vis'
theorem mid_step {r : Reg} {N : Nat} {Vis1 Vis' Vis'' : Spots} {ss : List (Nat × Nat × Nat)} {out' out'' : List Nat} {d n m : Nat} (h : WMid r N Vis1 ss Vis' out') (k : WPost r N Vis' d n m Vis'' out'') : WMid r N Vis1 (ss ++ [(d, n, m)]) Vis'' out'' := by
  obtain ⟨h1, h2, h3, h4⟩ := h
  obtain ⟨k1, k2, k3, k4⟩ := k
  refine ⟨k1, fun a b c ha => k2 a b c (h2 a b c ha), fun s hs hg => ?_, fun a b c ha hna s hs hg => ?_⟩
  · rcases List.mem_append.1 hs with hs | hs
    · exact k2 _ _ _ (h3 s hs hg)
    · rw [List.mem_singleton] at hs
      subst hs
      exact k3 hg
  · by_cases hv : Vis' a b c
    · exact k2 _ _ _ (h4 a b c hv hna s hs hg)
    · exact k4 a b c ha hv s hs hg
theorem mid_end {r : Reg} {N : Nat} {Vis Vis' : Spots} {out' : List Nat} {d n m : Nat} (h : WMid r N (addV Vis d n m) (succL r N d n m) Vis' out') : WPost r N Vis d n m Vis' out' := by
  obtain ⟨h1, h2, h3, h4⟩ := h
  refine ⟨h1, fun a b c ha => h2 a b c (.inl ha), fun _ => h2 d n m (.inr ⟨rfl, rfl, rfl⟩), fun a b c ha hna s hs hg => ?_⟩
  by_cases he : a = d ∧ b = n ∧ c = m
  · obtain ⟨rfl, rfl, rfl⟩ := he
    exact h3 s hs hg
  · exact h4 a b c ha (fun hv => hv.elim hna he) s hs hg
theorem mid_start {r : Reg} {N : Nat} {Vis : Spots} {out : List Nat} {d n m : Nat} (h : VOK r N Vis out) (hr : Rch r N d n m) (hne : ¬ (d = N ∧ n = r.entries.length)) : WMid r N (addV Vis d n m) [] (addV Vis d n m) out :=
  ⟨⟨fun a b c ha => ha.elim (h.1 a b c) (fun ⟨e1, e2, e3⟩ => by rw [e1, e2, e3]; exact hr), fun x => (h.2.1 x).trans ⟨.inl, fun hx => hx.resolve_right fun ⟨e1, e2, _⟩ => hne ⟨e1.symm, e2.symm⟩⟩, h.2.2⟩, fun _ _ _ h => h, fun s hs => (by cases hs), fun a b c ha hna => (hna ha).elim⟩
theorem post_seen {r : Reg} {N : Nat} {Vis : Spots} {out : List Nat} {d n m : Nat} (h : VOK r N Vis out) (hs : goesB r d n m = true → Vis d n m) : WPost r N Vis d n m Vis out :=
  ⟨h, fun _ _ _ h => h, hs, fun a b c ha hna => (hna ha).elim⟩
theorem post_end {r : Reg} {N : Nat} {Vis : Spots} {out : List Nat} {m : Nat} (h : VOK r N Vis out) (hr : Rch r N N r.entries.length m) (hnv : ¬ Vis N r.entries.length m) : WPost r N Vis N r.entries.length m (addV Vis N r.entries.length m) (out ++ [m]) := by
  refine ⟨⟨fun a b c ha => ha.elim (h.1 a b c) (fun ⟨e1, e2, e3⟩ => by rw [e1, e2, e3]; exact hr), fun x => ?_, ?_⟩, fun _ _ _ => .inl, fun _ => .inr ⟨rfl, rfl, rfl⟩, fun a b c ha hna s hs _ => ?_⟩
  · rw [List.mem_append, h.2.1 x, List.mem_singleton]
    exact ⟨fun hx => hx.imp id (fun e => ⟨rfl, rfl, e⟩), fun hx => hx.imp id (fun e => e.2.2)⟩
  · rw [List.nodup_append]
    refine ⟨h.2.2, by simp, fun x hx y hy => ?_⟩
    rw [List.mem_singleton] at hy
    subst hy
    intro e
    subst e
    exact hnv ((h.2.1 x).1 hx)
  · obtain ⟨rfl, rfl, rfl⟩ := ha.resolve_left hna
    simp [succL] at hs
/-- The spots where the walk has been, as a map. -/
def visM (Vis : Spots) (x y : D) : Prop := ∃ d n m, Vis d n m ∧ x = spotD d n m ∧ y = .bool true
theorem spotD_inj {d n m d' n' m' : Nat} (h : spotD d n m = spotD d' n' m') : d = d' ∧ n = n' ∧ m = m' := by
  have e3 := D.agg.inj h
  simpa only [spotC, List.cons.injEq, D.int.injEq, true_and, and_true, Int.natCast_inj] using e3
theorem vis_set (Vis : Spots) (d n m : Nat) : setM (visM Vis) (spotD d n m) (.bool true) = visM (addV Vis d n m) := by
  funext x y
  refine propext ⟨fun h => ?_, fun ⟨a, b, c, h, e1, e2⟩ => ?_⟩
  · rcases h with ⟨e1, e2⟩ | ⟨_, a, b, c, h, e1, e2⟩
    · exact ⟨d, n, m, .inr ⟨rfl, rfl, rfl⟩, e1, e2⟩
    · exact ⟨a, b, c, .inl h, e1, e2⟩
  · by_cases he : x = spotD d n m
    · exact .inl ⟨he, e2⟩
    · rcases h with h | ⟨rfl, rfl, rfl⟩
      · exact .inr ⟨he, a, b, c, h, e1, e2⟩
      · exact (he e1).elim
theorem vis_none : visM (fun _ _ _ => False) = fun _ _ => False := by
  funext x y
  exact propext ⟨fun ⟨_, _, _, h, _⟩ => h, fun h => h.elim⟩
theorem vis_look {Vis : Spots} {d n m : Nat} (lr : {q : Option D // (∀ x, q = some x → visM Vis (spotD d n m) x) ∧ (q = none → ∀ x, ¬ visM Vis (spotD d n m) x)}) : ∃ xb : Bool, lr.1.getD (.bool false) = .bool xb ∧ (xb = true → Vis d n m) ∧ (xb = false → ¬ Vis d n m) := by
  obtain ⟨q, h1, h2⟩ := lr
  cases q with
  | none => exact ⟨false, rfl, fun h => (by cases h), fun _ hv => h2 rfl _ ⟨d, n, m, hv, rfl, rfl⟩⟩
  | some x =>
    obtain ⟨a, b, c, hv, e1, e2⟩ := h1 x rfl
    obtain ⟨rfl, rfl, rfl⟩ := spotD_inj e1
    exact ⟨true, e2, fun _ => hv, fun h => (by cases h)⟩
@[reducible] def walkCa (r : Reg) (b b2 b3 b5 N : Nat) : List TV := [.d (.ptr [.raw (.map (some b2))]), .d (.ptr [.ptr (workC r b)]), .val (.pointer (some ⟨b3, 0, none⟩)), .d (.ptr [.int .i64 (N : Nat)]), .val (.pointer (some ⟨b5, 0, none⟩))]
@[reducible] def walkRs (r : Reg) (b b2 b3 b5 N : Nat) (M : D → D → Prop) (Vis : Spots) (out : List Nat) (v : Value) : List (Nat × Res) :=
  [(1000, mapRes KS b M), (1001, mapRes KS b2 (visM Vis)), (1002, .box b3 147 [.fn (.func 102) [] (walkCa r b b2 b3 b5 N)]), (1003, .box b5 98 [.val v]), (1004, .row v 102 1 (out.map doneE))]
def WX (r : Reg) (N : Nat) (Vis : Spots) (d n m : Nat) : Type := {x : (D → D → Prop) × Spots × List Nat × Value // Good r x.1 ∧ WPost r N Vis d n m x.2.1 x.2.2.1}
def WalksOK (r : Reg) (b b2 b3 b5 N k : Nat) : Prop := ∀ (d n m : Nat) (M : D → D → Prop) (Vis : Spots) (out : List Nat) (v : Value), d ≤ N → n ≤ r.entries.length → m < 2 ^ r.entries.length → muS r d n < k → Good r M → VOK r N Vis out → (goesB r d n m = true → Rch r N d n m) →
  EffAt Try.prog 102 (.d (spotD d n m) :: walkCa r b b2 b3 b5 N) (walkRs r b b2 b3 b5 N M Vis out v) (X := WX r N Vis d n m) (fun _ => .d (.tup [])) (fun x => walkRs r b b2 b3 b5 N x.1.1 x.1.2.1 x.1.2.2.1 x.1.2.2.2)
theorem voK_len {r : Reg} {N : Nat} {Vis : Spots} {out : List Nat} (v : Valid r) (hN : N ≤ 9) (h : VOK r N Vis out) : out.length ≤ 64 := by
  refine nodup_le 64 out h.2.2 fun x hx => ?_
  have h1 := ((h.1 _ _ _ ((h.2.1 x).1 hx)).bd hN).2.2
  have h2 : 2 ^ r.entries.length ≤ 2 ^ 6 := Nat.pow_le_pow_right (by omega) v.e6
  omega
theorem sz98 : Sz Try.prog 98 1 := (by kernel_rfl : (Try.prog.info? 98).map (·.size) = some 1)
theorem zr102 : (Try.prog.info? 102).map (·.zero) = some (some (.int .u64 0)) := by kernel_rfl
theorem elt98 : ElT Try.prog 98 102 1 8 := elt_of Try.underlying98 (z := (.int .u64 0)) (by kernel_rfl) rfl (by decide)
theorem nextXs_len36 (r : Reg) (d n m : Nat) : ∀ x ∈ nextXs r d n m, x.length = (#[36] : Array Tmp).size := fun x hx => by
  obtain ⟨s, _, rfl⟩ := List.mem_map.1 hx
  rfl
theorem fill_nat64 {x : Nat} {zs : List TV} (hz : zs.length = 1) : fillTV (fun i => some (i * 1, 1)) zs [(0, .d (.int .u64 (x : Nat)))] = some [.d (.int .u64 (x : Nat))] := fill_d hz rfl rfl rfl
theorem walk_step (r : Reg) (v : Valid r) (b b2 b3 b5 N k : Nat) (hN : N ≤ 9) (ih : WalksOK r b b2 b3 b5 N k) (d n m : Nat) (M : D → D → Prop) (Vis : Spots) (out : List Nat) (vo : Value) (hd : d ≤ N) (hn6 : n ≤ r.entries.length) (hm : m < 2 ^ r.entries.length) (hk : muS r d n < k + 1) (hM : Good r M) (hV : VOK r N Vis out) (hRT : goesB r d n m = true → Rch r N d n m) : EffAt Try.prog 102 (.d (spotD d n m) :: walkCa r b b2 b3 b5 N) (walkRs r b b2 b3 b5 N M Vis out vo) (X := WX r N Vis d n m) (fun _ => .d (.tup [])) (fun x => walkRs r b b2 b3 b5 N x.1.1 x.1.2.1 x.1.2.2.1 x.1.2.2.2) := by
  have he6 := v.e6
  have hm64 := lt64 he6 hm
  have ho64 := voK_len v hN hV
  refine EffAt.of_awpM Try.func102 rfl (by kernel_rfl) rfl fun Γ hn => ?_
  refine awp_seq ?_
  refine awp_region ?_
  refine stepW (s_box 6 rfl rfl rfl (nb hn rfl) rfl rfl) fun b6 => ?_
  refine run_nil ?_
  refine aend_then ?_
  refine awp_seq ?_
  refine awp_seq ?_
  refine gh_awp (g_freeze (t := 6) 6 rfl (nb hn rfl) rfl rfl trivial) ?_
  refine awp_region ?_
  refine sq rfl rfl hn rfl (q_loadp rfl rfl Try.underlying142 rfl seesF0) ?_
  refine sq rfl rfl hn rfl (q_loadpA rfl rfl Try.underlying119 rfl sz119 rfl rfl seesF0) ?_
  refine stepW (s_lookup (id := 1001) (zd := (.bool false)) rfl rfl rfl (nb hn rfl) spot_law Try.underlying142 zr4 rfl (.d rfl) rfl rfl (spot_kv (by omega) (by omega) hm64) rfl) fun lr => ?_
  obtain ⟨xb, hx1, hx2, hx3⟩ := vis_look lr
  rw [hx1]
  refine sq rfl rfl hn rfl (q_move rfl rfl) ?_
  refine stepG [] (guard_some rfl rfl rfl) rfl (nb hn rfl) (fun hc => trivial) (fun hc => q_loadp rfl rfl Try.underlying115 rfl seesF0) ?_
  refine stepG [] (guard_some rfl rfl rfl) rfl (nb hn rfl) (fun hc => trivial) (fun hc => q_loadpA rfl rfl Try.underlying119 rfl sz119 rfl rfl seesF0) ?_
  refine stepW (s_callEg [(14, _), (15, _)] ⟨M, hM⟩ (fun hc => goes_ok r v b d n m M (by omega) hn6 hm hM) rfl (guard_some rfl rfl rfl) rfl (nb hn rfl) (fun hc => ⟨⟨_, rfl, hc⟩, ⟨_, rfl, hc⟩, trivial⟩) (.d rfl) rfl (.refl _) ⟨rfl, trivial⟩ (fun _ => rfl) (fun _ _ => trivial) ⟨rfl, trivial⟩) fun ⟨⟨M1, hM1⟩, hc1⟩ => ?_
  refine stepG [(16, _)] (guard_some rfl rfl rfl) rfl (nb hn rfl) (fun hc => ⟨⟨_, rfl, hc⟩, trivial⟩) (fun hc => q_not rfl rfl) ?_
  refine sq rfl rfl hn rfl (q_or rfl rfl rfl (by simp_all)) ?_
  refine run_nil ?_
  refine aend_then ?_
  refine awp_cond rfl (fun hb0 => ?_) (fun hb0 => ?_)
  · skip
    have hpo : WPost r N Vis d n m Vis out := post_seen hV fun hg => by cases xb with
      | true => exact hx2 rfl
      | false => rw [hg] at hb0; simp at hb0
    refine awp_ret ?_
    refine aend_then_ret ?_
    exact ret_M (.inl rfl) ⟨(M1, Vis, out, vo), hM1, hpo⟩ (.inl rfl) (hands_0 rfl) ⟨rfl, rfl, rfl, rfl, rfl, trivial⟩ rfl
  · skip
    obtain ⟨rfl, hg⟩ : xb = false ∧ goesB r d n m = true := by cases xb <;> simp at hb0 ⊢; exact hb0
    have hnv := hx3 rfl
    have hrt := hRT hg
    refine awp_skip ?_
    refine aend_then ?_
    refine awp_seq ?_
    refine awp_region ?_
    refine sq rfl rfl hn rfl (q_loadp rfl rfl Try.underlying142 rfl seesF0) ?_
    refine sq rfl rfl hn rfl (q_loadpA rfl rfl Try.underlying119 rfl sz119 rfl rfl seesF0) ?_
    refine stepW (s_mapUpdate (id := 1001) rfl rfl rfl spot_law Try.underlying142 (.d rfl) rfl rfl (spot_kv (by omega) (by omega) hm64) rfl rfl rfl (vis_set Vis d n m) trivial) fun _ => ?_
    refine run_nil ?_
    refine aend_then ?_
    refine awp_seq ?_
    refine awp_seq ?_
    refine d_start (W := fun b => True) fmo ?_
    refine d1q (i := 0) rfl (by kernel_rfl) (fun _ _ _ _ h => h) rfl rfl hn rfl (q_fieldAddrp rfl rfl Try.underlying119 rfl sz3 rfl) ?_
    refine d1q (i := 1) rfl (by kernel_rfl) (fun _ _ _ _ h => h) rfl rfl hn rfl (q_loadp rfl rfl Try.underlying3 rfl seesFA) ?_
    refine d1q (i := 2) rfl (by kernel_rfl) (fun _ _ _ _ h => h) rfl rfl hn rfl (q_loadp rfl rfl Try.underlying115 rfl seesFA) ?_
    refine d1q (i := 3) rfl (by kernel_rfl) (fun _ _ _ _ h => h) rfl rfl hn rfl (q_nilCheckp rfl rfl) ?_
    refine d1q (i := 4) rfl (by kernel_rfl) (fun _ _ _ _ h => h) rfl rfl hn rfl (q_fieldAddrp rfl rfl Try.underlying144 rfl sz35 rfl) ?_
    refine d1q (i := 5) rfl (by kernel_rfl) (fun _ _ _ _ h => h) rfl rfl hn rfl (q_fieldAddrp rfl rfl Try.underlying35 rfl sz32 rfl) ?_
    refine d1q (i := 6) rfl (by kernel_rfl) (fun _ _ _ _ h => h) rfl rfl hn rfl (q_loadp rfl rfl Try.underlying32 rfl seesFA) ?_
    refine d1q (i := 7) rfl (by kernel_rfl) (fun _ _ _ _ h => h) rfl rfl hn rfl (q_len rfl rfl Try.underlying32) ?_
    refine d1q (i := 8) rfl (by kernel_rfl) (fun _ _ _ _ h => h) rfl rfl hn rfl (q_lss rfl rfl rfl) ?_
    refine d1_of_d2 ?_
    refine d2_done (by kernel_rfl) ?_
    refine aend_then ?_
    refine awp_cond rfl (fun hb1 => ?_) (fun hb1 => ?_)
    · try simp only [decide_eq_true_eq, decide_eq_false_iff_not, Bool.and_eq_true, Bool.or_eq_true, Bool.and_eq_false_iff, Bool.or_eq_false_iff, Bool.not_eq_true', Bool.not_eq_false', beq_iff_eq, bne_iff_ne, ne_eq, beq_eq_false_iff_ne, bne_eq_false_iff_eq, Int.not_lt, Int.not_le] at hb1
      have hnl : n < r.entries.length := by simp only [List.length_map] at hb1; omega
      obtain ⟨e, he⟩ := ex_get hnl
      have hne : ¬ (d = N ∧ n = r.entries.length) := by omega
      refine awp_seq ?_
      refine awp_seq ?_
      refine d_start (W := fun b => True) fmo ?_
      refine d1q (i := 0) rfl (by kernel_rfl) (fun _ _ _ _ h => h) rfl rfl hn rfl (q_loadp rfl rfl Try.underlying115 rfl seesFA) ?_
      refine d1q (i := 1) rfl (by kernel_rfl) (fun _ _ _ _ h => h) rfl rfl hn rfl (q_nilCheckp rfl rfl) ?_
      refine d1q (i := 2) rfl (by kernel_rfl) (fun _ _ _ _ h => h) rfl rfl hn rfl (q_fieldAddrp rfl rfl Try.underlying144 rfl sz35 rfl) ?_
      refine d1q (i := 3) rfl (by kernel_rfl) (fun _ _ _ _ h => h) rfl rfl hn rfl (q_loadpA rfl rfl Try.underlying35 rfl sz35 rfl rfl seesFA) ?_
      refine d1q (i := 4) rfl (by kernel_rfl) (fun _ _ _ _ h => h) rfl rfl hn rfl (q_loadpA rfl rfl Try.underlying119 rfl sz119 rfl rfl seesFA) ?_
      refine d1_of_d2 ?_
      refine d2_one (i := 5) (by kernel_rfl) rfl (s_call [] (fun _ => next_ok _ _ _ _) rfl (guard_none rfl) rfl (nb hn rfl) (fun _ => trivial) rfl rfl (.refl _)) fun _ => ?_
      refine d2_of_d1 ?_
      refine d1_of_d2 ?_
      refine d2_done (by kernel_rfl) ?_
      refine aend_then ?_
      refine awp_block ?_
      refine awp_rangeFunc (ι := {x : (D → D → Prop) × Spots × List Nat × Value // Good r x.1}) (fun x => [(1000, mapRes KS b x.1.1), (1001, mapRes KS b2 (visM x.1.2.1)), (1002, .box b3 147 [.fn (.func 102) [] (walkCa r b b2 b3 b5 N)]), (1003, .box b5 98 [.val x.1.2.2.2]), (1004, .row x.1.2.2.2 102 1 (x.1.2.2.1.map doneE))]) (fun j x => WMid r N (addV Vis d n m) ((nextL r d n m).take j) x.1.2.1 x.1.2.2.1) (fun _ _ => False) ⟨(M1, addV Vis d n m, out, vo), hM1⟩ ((next1_ok r d n m e he v (by omega) (by omega) hm64)) rfl (nextXs_len36 r d n m) (by rw [hn]; rfl) (.inl rfl) ⟨rfl, rfl, rfl, rfl, rfl, trivial⟩ (mid_start hV hrt hne) (fun _ => rfl) (fun _ => rfl) rfl rfl ?_ ?_ ?_
      · rintro l0 r0 Γr j0 x0 ⟨⟨M2, Vis2, out2, vo2⟩, hM2⟩ hnr hrd hx0 hA0
        dsimp only at hA0 hM2
        obtain ⟨s, hs, rfl⟩ := nextXs_get hx0
        have hsm := nextL_mem (List.mem_of_getElem? hs)
        have hsin : s ∈ succL r N d n m := by rw [succL, if_pos hnl]; exact List.mem_of_getElem? hs
        obtain ⟨s1, s2, s3⟩ := s
        obtain rfl : d = s1 := hsm.1.symm
        obtain rfl : n + 1 = s2 := hsm.2.1.symm
        have hs3 := hsm.2.2.1
        dsimp only at hs3
        have hs3b : s3 < 2 ^ r.entries.length := next_lt hm hnl hs3
        refine awi_region ?_
        refine stepWI ((s_alloc 7 rfl rfl rfl (nb (hnr.trans hn) rfl) zr119 rfl rfl).i rfl) fun b7 => ?_
        refine stepWI ((s_store rfl rfl rfl rfl rfl rfl (id := 7) rfl sz119 rfl (Nat.le_of_ble_eq_true rfl) rfl trivial).i rfl) fun _ => ?_
        refine run_nilI ?_
        refine aend_begin hrd rfl ?_
        refine awi_block ?_
        refine awi_region ?_
        refine sqI rfl rfl (hnr.trans hn) rfl (q_load rfl rfl (id := 1002) rfl Try.underlying147 rfl rfl sees0) rfl ?_
        refine sqI rfl rfl (hnr.trans hn) rfl (q_loadAd rfl rfl (id := 7) rfl Try.underlying119 rfl sz119 rfl rfl sees0) rfl ?_
        refine stepWI ((s_callE (ih d (n + 1) s3 M2 Vis2 out2 vo2 hd (by omega) hs3b (by have := muS_next (r := r) (by omega : d ≤ 9) hnl; omega) hM2 hA0.1 (fun hg3 => Rch.step hrt hsin hg3)) rfl rfl rfl (nb (hnr.trans hn) rfl) (.t rfl) rfl (.refl _) ⟨rfl, rfl, rfl, rfl, rfl, trivial⟩ (fun _ => rfl) (fun _ _ => trivial)).i rfl) fun ⟨⟨M3, Vis3, out3, vo3⟩, hM3, hpo3⟩ => ?_
        refine run_nilI ?_
        refine aend_block ?_
        exact aend_round_go ⟨(M3, Vis3, out3, vo3), hM3⟩ (by have := mid_step hA0 hpo3; show WMid _ _ _ _ _ _; rw [List.take_add_one, hs]; exact this) ⟨rfl, rfl, rfl, rfl, rfl, rfl, trivial⟩
      · rintro ⟨⟨M2, Vis2, out2, vo2⟩, hM2⟩ D0 hA0
        rw [show (nextXs r d n m).length = (nextL r d n m).length by simp [nextXs], List.take_length] at hA0
        dsimp only at hA0 hM2
        have hpo : WPost r N Vis d n m Vis2 out2 := mid_end (by rw [succL, if_pos hnl]; exact hA0)
        refine aend_block ?_
        refine aend_then ?_
        refine awp_ret ?_
        refine aend_then_ret ?_
        exact ret_M (.inl rfl) ⟨(M2, Vis2, out2, vo2), hM2, hpo⟩ (.inr rfl) (hands_0 rfl) ⟨rfl, rfl, rfl, rfl, rfl, trivial⟩ rfl
      · exact fun _ _ _ h => h.elim
    · try simp only [decide_eq_true_eq, decide_eq_false_iff_not, Bool.and_eq_true, Bool.or_eq_true, Bool.and_eq_false_iff, Bool.or_eq_false_iff, Bool.not_eq_true', Bool.not_eq_false', beq_iff_eq, bne_iff_ne, ne_eq, beq_eq_false_iff_ne, bne_eq_false_iff_eq, Int.not_lt, Int.not_le] at hb1
      obtain rfl : r.entries.length = n := by simp only [List.length_map] at hb1; omega
      refine awp_skip ?_
      refine aend_then ?_
      refine awp_seq ?_
      refine awp_seq ?_
      refine awp_region ?_
      refine sq rfl rfl hn rfl (q_fieldAddrp rfl rfl Try.underlying119 rfl sz3 rfl) ?_
      refine sq rfl rfl hn rfl (q_loadp rfl rfl Try.underlying3 rfl seesF0) ?_
      refine sq rfl rfl hn rfl (q_loadp rfl rfl Try.underlying3 rfl seesF0) ?_
      refine sq rfl rfl hn rfl (q_eql rfl rfl rfl) ?_
      refine run_nil ?_
      refine aend_then ?_
      refine awp_cond rfl (fun hb2 => ?_) (fun hb2 => ?_)
      · try simp only [decide_eq_true_eq, decide_eq_false_iff_not, Bool.and_eq_true, Bool.or_eq_true, Bool.and_eq_false_iff, Bool.or_eq_false_iff, Bool.not_eq_true', Bool.not_eq_false', beq_iff_eq, bne_iff_ne, ne_eq, beq_eq_false_iff_ne, bne_eq_false_iff_eq, Int.not_lt, Int.not_le] at hb2
        obtain rfl : d = N := by omega
        have hpo := post_end hV hrt hnv
        refine awp_seq ?_
        refine awp_region ?_
        refine sq rfl rfl hn rfl (q_load rfl rfl (id := 1003) rfl Try.underlying98 rfl rfl sees0) ?_
        refine sq rfl rfl hn rfl (q_fieldAddrp rfl rfl Try.underlying119 rfl sz102 rfl) ?_
        refine sq rfl rfl hn rfl (q_loadp rfl rfl Try.underlying102 rfl seesF0) ?_
        refine stepW (s_buildSlice rfl rfl rfl (nb hn rfl) Try.underlying98 sz102 zr102 rfl rfl rfl (show _ = [.d (.int .u64 0)] from by kernel_rfl) (by kernel_rfl) rfl (fill_nat64 rfl) rfl rfl rfl) fun _ => ?_
        refine stepW (s_append (id := 1004) rfl rfl rfl (nb hn rfl) elt98 trivial rfl rfl rfl (by simp [chunk]; omega) (by simp [chunk]; omega) (fun b hb => trivial)) fun v48 => ?_
        refine stepW (s_storeRow rfl rfl rfl rfl rfl (rid := 1004) rfl (id := 1003) rfl sz98 (Nat.le_of_ble_eq_true rfl) rfl trivial) fun _ => ?_
        refine run_nil ?_
        refine aend_then ?_
        refine awp_ret ?_
        refine aend_then_ret ?_
        exact ret_M (.inl rfl) ⟨(M1, addV Vis d r.entries.length m, out ++ [m], v48), hM1, hpo⟩ (.inl rfl) (hands_0 rfl) ⟨rfl, rfl, rfl, rfl, (by rw [List.map_append]; rfl), trivial⟩ rfl
      · try simp only [decide_eq_true_eq, decide_eq_false_iff_not, Bool.and_eq_true, Bool.or_eq_true, Bool.and_eq_false_iff, Bool.or_eq_false_iff, Bool.not_eq_true', Bool.not_eq_false', beq_iff_eq, bne_iff_ne, ne_eq, beq_eq_false_iff_ne, bne_eq_false_iff_eq, Int.not_lt, Int.not_le] at hb2
        have hdN : d ≠ N := by omega
        refine awp_skip ?_
        refine aend_then ?_
        refine awp_seq ?_
        refine awp_region ?_
        refine sq rfl rfl hn rfl (q_loadp rfl rfl Try.underlying115 rfl seesF0) ?_
        refine sq rfl rfl hn rfl (q_loadpA rfl rfl Try.underlying119 rfl sz119 rfl rfl seesF0) ?_
        refine stepW (s_call [] (fun _ => closed_ok r b d r.entries.length m v (by omega) hm64) rfl (guard_none rfl) rfl (nb hn rfl) (fun _ => trivial) rfl rfl (.refl _)) fun _ => ?_
        refine sq rfl rfl hn rfl (q_move rfl rfl) ?_
        refine sq rfl rfl hn rfl (q_extractd rfl rfl rfl) ?_
        refine sq rfl rfl hn rfl (q_extractd rfl rfl rfl) ?_
        refine stepW (s_alloc 8 rfl rfl rfl (nb hn rfl) zr119 rfl rfl) fun b8 => ?_
        refine stepW (s_store rfl rfl rfl rfl rfl rfl (id := 8) rfl sz119 rfl (Nat.le_of_ble_eq_true rfl) rfl trivial) fun _ => ?_
        refine sq rfl rfl hn rfl (q_assign rfl rfl) ?_
        refine run_nil ?_
        refine aend_then ?_
        refine awp_region ?_
        refine sq rfl rfl hn rfl (q_load rfl rfl (id := 1002) rfl Try.underlying147 rfl rfl sees0) ?_
        refine sq rfl rfl hn rfl (q_loadAd rfl rfl (id := 8) rfl Try.underlying119 rfl sz119 rfl rfl sees0) ?_
        refine stepW (s_callE (ih (d + 1) 0 m M1 (addV Vis d r.entries.length m) out vo (by omega) (by omega) hm (by have := muS_day (r := r) (n := r.entries.length) (by omega : d ≤ 9); omega) hM1 (mid_start hV hrt (fun h => hdN h.1)).1 (fun hg3 => Rch.step (s := (d + 1, 0, m)) hrt (by simp [succL, hdN]) hg3)) rfl rfl rfl (nb hn rfl) (.t rfl) rfl (.refl _) ⟨rfl, rfl, rfl, rfl, rfl, trivial⟩ (fun _ => rfl) (fun _ _ => trivial)) fun ⟨⟨M3, Vis3, out3, vo3⟩, hM3, hpo3⟩ => ?_
        refine run_nil ?_
        exact ret_M (.inr rfl) ⟨(M3, Vis3, out3, vo3), hM3, mid_end (by have := mid_step (mid_start hV hrt (fun h => hdN h.1)) hpo3; rw [succL, if_neg (by omega), if_neg hdN]; exact this)⟩ (.inl rfl) (hands_0 rfl) ⟨rfl, rfl, rfl, rfl, rfl, trivial⟩ rfl
end Go.Proofs.Ytnbmmopjkkofoaa
namespace Go.Proofs.Ytnbmmopjkkofoaa
open Go.RowKit
set_option maxRecDepth 20000
set_option linter.all false
theorem walks_all (r : Reg) (v : Valid r) (b b2 b3 b5 N : Nat) (hN : N ≤ 9) : ∀ k, WalksOK r b b2 b3 b5 N k := by
  intro k
  induction k with
  | zero => intro d n m M Vis out vo _ _ _ h; omega
  | succ k ih => intro d n m M Vis out vo h1 h2 h3 h4 h5 h6 h7; exact walk_step r v b b2 b3 b5 N k hN ih d n m M Vis out vo h1 h2 h3 h4 h5 h6 h7
def noSpots : Spots := fun _ _ _ => False
theorem vok_none (r : Reg) (N : Nat) : VOK r N noSpots [] := ⟨fun _ _ _ h => h.elim, fun m => ⟨fun h => (by cases h), fun h => h.elim⟩, List.nodup_nil⟩
theorem walk_ok (r : Reg) (v : Valid r) (b b2 b3 b5 N : Nat) (hN : N ≤ 9) (M : D → D → Prop) (vo : Value) (hM : Good r M) :
    EffAt Try.prog 102 (.d (spotD 0 0 0) :: walkCa r b b2 b3 b5 N) (walkRs r b b2 b3 b5 N M noSpots [] vo) (X := WX r N noSpots 0 0 0) (fun _ => .d (.tup [])) (fun x => walkRs r b b2 b3 b5 N x.1.1 x.1.2.1 x.1.2.2.1 x.1.2.2.2) :=
  walks_all r v b b2 b3 b5 N hN _ 0 0 0 M noSpots [] vo (Nat.zero_le _) (Nat.zero_le _) (Nat.two_pow_pos _) (Nat.lt_succ_self _) hM (vok_none r N) .start
/-- What can have happened at the end of a day: all of it, each once. -/
def EvOK (r : Reg) (N : Nat) (out : List Nat) : Prop := (∀ m, m ∈ out ↔ Rch r N N r.entries.length m) ∧ out.length ≤ 64 ∧ out.Nodup
theorem ev_of {r : Reg} {N : Nat} {Vis : Spots} {out : List Nat} (v : Valid r) (hN : N ≤ 9) (h : WPost r N noSpots 0 0 0 Vis out) : EvOK r N out := by
  obtain ⟨h1, _, h3, h4⟩ := h
  have key : ∀ d n m, Rch r N d n m → Vis d n m := fun d n m hr => by
    induction hr with
    | start hg => exact h3 hg
    | step _ hs hg ih => exact h4 _ _ _ ih (fun h => h) _ hs hg
  exact ⟨fun m => (h1.2.1 m).trans ⟨h1.1 _ _ _, key _ _ _⟩, voK_len v hN h1, h1.2.2⟩
theorem good_none (r : Reg) : Good r fun _ _ => False := fun _ _ h => h.elim
theorem ev_bd {r : Reg} {N : Nat} {out : List Nat} (v : Valid r) (hN : N ≤ 9) (h : EvOK r N out) : ∀ m ∈ out, m < 18446744073709551616 := fun m hm => lt64 v.e6 (((h.1 m).1 hm).bd hN).2.2
/-- What is returned where evenings are asked for. -/
def AskP (r : Reg) (is : Bool) (N : Int) (out : List Nat) (e : Int) : Prop :=
  (checkE r ≠ 0 ∧ out = [] ∧ e = checkE r) ∨ (checkE r = 0 ∧ (is && dayB N) = false ∧ out = [] ∧ e = 2) ∨ (checkE r = 0 ∧ is = true ∧ ∃ n : Nat, N = n ∧ n ≤ 9 ∧ EvOK r n out ∧ e = bif out.isEmpty then 9 else 0)
def AskX (r : Reg) (is : Bool) (N : Int) : Type := {x : List Nat × Int // AskP r is N x.1 x.2}
theorem sz147 : Sz Try.prog 147 1 := (by kernel_rfl : (Try.prog.info? 147).map (·.size) = some 1)
theorem zr98 : (Try.prog.info? 98).map (·.zero) = some (some (.slice none 0 0)) := by kernel_rfl
theorem zr142 : (Try.prog.info? 142).map (·.zero) = some (some (.map none)) := by kernel_rfl
theorem zr147 : (Try.prog.info? 147).map (·.zero) = some (some .nilFunc) := by kernel_rfl
theorem evenings_ok (r : Reg) (v : Valid r) (b N : Nat) (hN : N ≤ 9) (M : D → D → Prop) (hM : Good r M) : EffAt Try.prog 83 [.d (.ptr (workC r b)), .d (.int .i64 (N : Nat))] [(1000, mapRes KS b M)] (X := {x : (D → D → Prop) × List Nat // Good r x.1 ∧ EvOK r N x.2}) (fun x => .d (donesD x.1.2)) (fun x => [(1000, mapRes KS b x.1.1)]) := by
  refine EffAt.of_awp Try.func83 rfl (by kernel_rfl) rfl fun Γ hn => ?_
  refine awp_seq ?_
  refine awp_region ?_
  refine stepW (s_box 2 rfl rfl rfl (nb hn rfl) rfl rfl) fun b2 => ?_
  refine stepW (s_box 3 rfl rfl rfl (nb hn rfl) rfl rfl) fun b3 => ?_
  refine stepW (s_alloc 1003 rfl rfl rfl (nb hn rfl) zr98 rfl rfl) fun b4 => ?_
  refine run_nil ?_
  refine aend_then ?_
  refine awp_seq ?_
  refine awp_region ?_
  refine stepW (s_makeMap (KS) 1001 rfl rfl rfl (nb hn rfl)) fun b7 => ?_
  refine stepW (s_alloc 5 rfl rfl rfl (nb hn rfl) zr142 rfl rfl) fun b5 => ?_
  refine stepW (s_store1 rfl rfl rfl rfl rfl rfl (id := 5) rfl sz142 (Nat.le_of_ble_eq_true rfl) rfl trivial) fun _ => ?_
  refine run_nil ?_
  refine aend_then ?_
  refine awp_seq ?_
  refine awp_region ?_
  refine stepW (s_alloc 1002 rfl rfl rfl (nb hn rfl) zr147 rfl rfl) fun b6 => ?_
  refine run_nil ?_
  refine aend_then ?_
  refine awp_seq ?_
  refine gh_awp (g_freeze (t := 5) 5 rfl (nb hn rfl) rfl rfl trivial) ?_
  refine gh_awp (g_freeze (t := 2) 2 rfl (nb hn rfl) rfl rfl trivial) ?_
  refine gh_awp (g_freeze (t := 3) 3 rfl (nb hn rfl) rfl rfl trivial) ?_
  refine gh_awp (gh_nilcell (id := 1003) (k := 0) 1004 102 1 rfl rfl) ?_
  refine awp_region ?_
  refine sq rfl rfl hn rfl (q_makeFunc rfl rfl rfl) ?_
  refine stepW (s_store1 rfl rfl rfl rfl rfl rfl (id := 1002) rfl sz147 (Nat.le_of_ble_eq_true rfl) rfl trivial) fun _ => ?_
  refine run_nil ?_
  refine aend_then ?_
  refine awp_seq ?_
  refine gh_awp (gh_req (id := 1001) rfl (congrArg (mapRes KS b7) vis_none.symm)) ?_
  refine awp_region ?_
  refine sq rfl rfl hn rfl (q_load rfl rfl (id := 1002) rfl Try.underlying147 rfl rfl sees0) ?_
  refine sq rfl rfl hn rfl (q_buildd rfl bt119 rfl rfl rfl rfl rfl) ?_
  refine stepW (s_callE (walk_ok r v b b7 b6 b4 N hN M (.slice none 0 0) hM) rfl rfl rfl (nb hn rfl) (.t rfl) rfl (.refl _) ⟨rfl, rfl, rfl, rfl, rfl, trivial⟩ (fun _ => rfl) (fun _ _ => trivial)) fun ⟨⟨M1, Vis1, out1, vo1⟩, hM1, hpo1⟩ => ?_
  refine run_nil ?_
  refine aend_then ?_
  refine awp_seq ?_
  refine awp_region ?_
  refine sq rfl rfl hn rfl (q_load rfl rfl (id := 1003) rfl Try.underlying98 rfl rfl sees0) ?_
  refine stepW (s_storeRow rfl rfl rfl rfl rfl (rid := 1004) rfl (id := 1003) rfl sz98 (Nat.le_of_ble_eq_true rfl) rfl trivial) fun _ => ?_
  refine run_nil ?_
  refine aend_then ?_
  refine awp_ret ?_
  refine gh_end (gh_rowcell (id := 1003) (k := 0) (rid := 1004) rfl rfl rfl) ?_
  exact ret_E (.inl rfl) ⟨(M1, out1), hM1, ev_of v hN hpo1⟩ (hands_1 rfl (.cell rfl (id := 1003) rfl Try.underlying98 rfl rfl)) ⟨rfl, trivial⟩
theorem asked_ok (r : Reg) (is : Bool) (N : Int) : EffAt Try.prog 53 [.d (regD r), .d (.bool is), .d (.int .i64 N)] [] (X := AskX r is N) (fun x => .d (.tup [donesD x.1.1, .int .i64 x.1.2])) (fun _ => []) := by
  refine EffAt.of_awp Try.func53 rfl (by kernel_rfl) rfl fun Γ hn => ?_
  refine awp_seq ?_
  refine awp_region ?_
  refine stepW (s_box 3 rfl rfl rfl (nb hn rfl) rfl rfl) fun b3 => ?_
  refine sq rfl rfl hn rfl (q_assign rfl rfl) ?_
  refine sq rfl rfl hn rfl (q_assign rfl rfl) ?_
  refine run_nil ?_
  refine aend_then ?_
  refine awp_seq ?_
  refine awp_seq ?_
  refine awp_region ?_
  refine sq rfl rfl hn rfl (q_loadAd rfl rfl (id := 3) rfl Try.underlying35 rfl sz35 rfl rfl sees0) ?_
  refine stepW (s_call [] (fun _ => CheckRegister_ok _) rfl (guard_none rfl) rfl (nb hn rfl) (fun _ => trivial) rfl rfl (.refl _)) fun _ => ?_
  refine sq rfl rfl hn rfl (q_assign rfl rfl) ?_
  refine run_nil ?_
  refine aend_then ?_
  refine awp_seq ?_
  refine awp_region ?_
  refine sq rfl rfl hn rfl (q_move rfl rfl) ?_
  refine sq rfl rfl hn rfl (q_neq rfl rfl rfl) ?_
  refine run_nil ?_
  refine aend_then ?_
  refine awp_cond rfl (fun hb0 => ?_) (fun hb0 => ?_)
  · simp only [bne_iff_ne, ne_eq] at hb0
    have hc0 : checkE r ≠ 0 := hb0
    refine awp_seq ?_
    refine awp_region ?_
    refine sq rfl rfl hn rfl (q_move rfl rfl) ?_
    refine sq rfl rfl hn rfl (q_assign rfl rfl) ?_
    refine sq rfl rfl hn rfl (q_assign rfl rfl) ?_
    refine run_nil ?_
    refine aend_then ?_
    refine awp_ret ?_
    refine aend_then_ret ?_
    exact ret_E (.inl rfl) ⟨([], checkE r), .inl ⟨hc0, rfl, rfl⟩⟩ ((hands_2d rfl (.tmp rfl) (.tmp rfl)).le (.tup (.cons (.nil 1) (.refl _)))) trivial
  · skip
    have hc0 : checkE r = 0 := by simpa using hb0
    have v := valid_of hc0
    refine awp_skip ?_
    refine aend_then ?_
    refine awp_seq ?_
    refine awp_seq ?_
    refine awp_region ?_
    refine sq rfl rfl hn rfl (q_move rfl rfl) ?_
    refine sq rfl rfl hn rfl (q_not rfl rfl) ?_
    refine sq rfl rfl hn rfl (q_move rfl rfl) ?_
    refine stepG [] (guard_some rfl rfl rfl) rfl (nb hn rfl) (fun hc => trivial) (fun hc => q_move rfl rfl) ?_
    refine stepW (s_call [(18, _)] (fun hc => day_ok _) rfl (guard_some rfl rfl rfl) rfl (nb hn rfl) (fun hc => ⟨⟨_, rfl, hc⟩, trivial⟩) rfl rfl (.refl _)) fun _ => ?_
    refine stepG [(19, _)] (guard_some rfl rfl rfl) rfl (nb hn rfl) (fun hc => ⟨⟨_, rfl, hc⟩, trivial⟩) (fun hc => q_not rfl rfl) ?_
    refine sq rfl rfl hn rfl (q_or rfl rfl rfl (by simp_all)) ?_
    refine run_nil ?_
    refine aend_then ?_
    refine awp_cond rfl (fun hb1 => ?_) (fun hb1 => ?_)
    · skip
      have his : (is && dayB N) = false := by cases is <;> simp at hb1 ⊢; exact hb1
      refine awp_seq ?_
      refine awp_region ?_
      refine sq rfl rfl hn rfl (q_assign rfl rfl) ?_
      refine sq rfl rfl hn rfl (q_assign rfl rfl) ?_
      refine run_nil ?_
      refine aend_then ?_
      refine awp_ret ?_
      refine aend_then_ret ?_
      exact ret_E (.inl rfl) ⟨([], 2), .inr (.inl ⟨hc0, his, rfl, rfl⟩)⟩ ((hands_2d rfl (.tmp rfl) (.tmp rfl)).le (.tup (.cons (.nil 1) (.refl _)))) trivial
    · skip
      have his : is = true ∧ dayB N = true := by cases is <;> simp at hb1 ⊢; exact hb1
      obtain ⟨n, rfl⟩ : ∃ n : Nat, N = n := ⟨N.toNat, by have := his.2; simp [dayB] at this; omega⟩
      have hN : n ≤ 9 := by have := his.2; simp [dayB] at this; omega
      refine awp_skip ?_
      refine aend_then ?_
      refine awp_seq ?_
      refine awp_region ?_
      refine sq rfl rfl hn rfl (q_loadAd rfl rfl (id := 3) rfl Try.underlying35 rfl sz35 rfl rfl sees0) ?_
      refine stepW (s_callE (work_ok r) rfl rfl rfl (nb hn rfl) (.d rfl) rfl (.refl _) trivial (fun _ => rfl) (fun _ _ => trivial)) fun b1 => ?_
      refine sq rfl rfl hn rfl (q_move rfl rfl) ?_
      refine stepW (s_callE (evenings_ok r v b1 n hN _ (good_none r)) rfl rfl rfl (nb hn rfl) (.d rfl) rfl (.refl _) ⟨rfl, trivial⟩ (fun _ => rfl) (fun _ _ => trivial)) fun ⟨⟨M1, out⟩, hM1, hev⟩ => ?_
      refine sq rfl rfl hn rfl (q_assign rfl rfl) ?_
      refine run_nil ?_
      refine aend_then ?_
      refine awp_seq ?_
      refine awp_seq ?_
      refine awp_region ?_
      refine sq rfl rfl hn rfl (q_move rfl rfl) ?_
      refine sq rfl rfl hn rfl (q_len rfl rfl Try.underlying98) ?_
      refine sq rfl rfl hn rfl (q_eql rfl rfl rfl) ?_
      refine run_nil ?_
      refine aend_then ?_
      refine awp_cond rfl (fun hb2 => ?_) (fun hb2 => ?_)
      · skip
        obtain rfl : out = [] := by simp at hb2; exact hb2
        refine awp_seq ?_
        refine awp_region ?_
        refine sq rfl rfl hn rfl (q_assign rfl rfl) ?_
        refine sq rfl rfl hn rfl (q_assign rfl rfl) ?_
        refine run_nil ?_
        refine aend_then ?_
        refine awp_ret ?_
        refine aend_then_ret ?_
        exact ret_E (.inl rfl) ⟨([], 9), .inr (.inr ⟨hc0, his.1, n, rfl, hN, hev, rfl⟩)⟩ ((hands_2d rfl (.tmp rfl) (.tmp rfl)).le (.tup (.cons (.nil 1) (.refl _)))) trivial
      · skip
        have hne : out.isEmpty = false := by cases out <;> simp at hb2 ⊢
        refine awp_skip ?_
        refine aend_then ?_
        refine awp_seq ?_
        refine awp_region ?_
        refine sq rfl rfl hn rfl (q_move rfl rfl) ?_
        refine sq rfl rfl hn rfl (q_assign rfl rfl) ?_
        refine sq rfl rfl hn rfl (q_assign rfl rfl) ?_
        refine run_nil ?_
        refine aend_then ?_
        refine awp_ret ?_
        exact ret_E (.inl rfl) ⟨(out, 0), .inr (.inr ⟨hc0, his.1, n, rfl, hN, hev, by rw [hne]; rfl⟩)⟩ (hands_2d rfl (.tmp rfl) (.tmp rfl)) trivial
end Go.Proofs.Ytnbmmopjkkofoaa
namespace Go.Proofs
open Go.Shelf
def Try.lays189_ren : Go.Shelf.Ren := ⟨fun | 189 => 56 | 125 => 88 | 257 => 87 | 128 => 112 | 129 => 113 | 294 => 103 | 295 => 104 | 296 => 105 | 297 => 106 | 298 => 107 | 299 => 108 | 216 => 109 | 300 => 110 | 301 => 111 | 328 => 119 | 329 => 120 | 330 => 121 | 331 => 122 | 332 => 123 | 215 => 124 | 343 => 125 | n => n, fun | 28 => 22 | 3 => 3 | 46 => 72 | 0 => 0 | 51 => 157 | 53 => 159 | 4 => 4 | 183 => 150 | 182 => 149 | 131 => 154 | 5 => 5 | 9 => 9 | 218 => 165 | 222 => 169 | 228 => 171 | 229 => 172 | n => n, fun | n => n⟩
theorem Try.lays189 : Go.Proofs.Lays.n189 Try.prog Try.lays189_ren := {
  mixed := by kernel_rfl
  f125 := Try.func88.trans (congrArg some (by kernel_rfl))
  f128 := Try.func112.trans (congrArg some (by kernel_rfl))
  f129 := Try.func113.trans (congrArg some (by kernel_rfl))
  f189 := Try.func56.trans (congrArg some (by kernel_rfl))
  f215 := Try.func124.trans (congrArg some (by kernel_rfl))
  f216 := Try.func109.trans (congrArg some (by kernel_rfl))
  f257 := Try.func87.trans (congrArg some (by kernel_rfl))
  f294 := Try.func103.trans (congrArg some (by kernel_rfl))
  f295 := Try.func104.trans (congrArg some (by kernel_rfl))
  f296 := Try.func105.trans (congrArg some (by kernel_rfl))
  f297 := Try.func106.trans (congrArg some (by kernel_rfl))
  f298 := Try.func107.trans (congrArg some (by kernel_rfl))
  f299 := Try.func108.trans (congrArg some (by kernel_rfl))
  f300 := Try.func110.trans (congrArg some (by kernel_rfl))
  f301 := Try.func111.trans (congrArg some (by kernel_rfl))
  f328 := Try.func119.trans (congrArg some (by kernel_rfl))
  f329 := Try.func120.trans (congrArg some (by kernel_rfl))
  f330 := Try.func121.trans (congrArg some (by kernel_rfl))
  f331 := Try.func122.trans (congrArg some (by kernel_rfl))
  f332 := Try.func123.trans (congrArg some (by kernel_rfl))
  f343 := Try.func125.trans (congrArg some (by kernel_rfl))
  t0 := Try.underlying0
  a0 := Try.isAgg0
  z0 := Try.sizeOf0
  v0 := Try.zeroValue0
  t3 := Try.underlying3
  a3 := Try.isAgg3
  z3 := Try.sizeOf3
  v3 := Try.zeroValue3
  t4 := Try.underlying4
  a4 := Try.isAgg4
  z4 := Try.sizeOf4
  v4 := Try.zeroValue4
  t5 := Try.underlying5
  a5 := Try.isAgg5
  z5 := Try.sizeOf5
  v5 := Try.zeroValue5
  t9 := Try.underlying9
  a9 := Try.isAgg9
  z9 := Try.sizeOf9
  v9 := Try.zeroValue9
  t28 := Try.underlying22
  a28 := Try.isAgg22
  z28 := Try.sizeOf22
  v28 := Try.zeroValue22
  t46 := Try.underlying72
  a46 := Try.isAgg72
  z46 := Try.sizeOf72
  v46 := Try.zeroValue72
  t51 := Try.underlying157
  a51 := Try.isAgg157
  z51 := Try.sizeOf157
  v51 := Try.zeroValue157
  t53 := Try.underlying159
  a53 := Try.isAgg159
  z53 := Try.sizeOf159
  v53 := Try.zeroValue159
  t131 := Try.underlying154
  a131 := Try.isAgg154
  z131 := Try.sizeOf154
  v131 := Try.zeroValue154
  t182 := Try.underlying149
  a182 := Try.isAgg149
  z182 := Try.sizeOf149
  v182 := Try.zeroValue149
  t183 := Try.underlying150
  a183 := Try.isAgg150
  z183 := Try.sizeOf150
  v183 := Try.zeroValue150
  t218 := Try.underlying165
  a218 := Try.isAgg165
  z218 := Try.sizeOf165
  v218 := Try.zeroValue165
  t222 := Try.underlying169
  a222 := Try.isAgg169
  z222 := Try.sizeOf169
  v222 := Try.zeroValue169
  t228 := Try.underlying171
  a228 := Try.isAgg171
  z228 := Try.sizeOf171
  v228 := Try.zeroValue171
  t229 := Try.underlying172
  a229 := Try.isAgg172
  z229 := Try.sizeOf172
  v229 := Try.zeroValue172 }
open Go.Sort Go.RowKit in
theorem Try.slices_Sort_int (blk off cap : Nat) (zs : List Int) (w : World) (hH : Holds (Value.int .i64) w blk off zs.toArray) (hblk : blk < w.heap.size) (hsz : zs.length < 4611686018427387904) :
    Calls Try.prog 56 #[.slice (some ⟨blk, off, none⟩) zs.length cap] w fun e w' =>
      e = .returned (.tuple #[]) ∧ ∃ n os, w' = grow (putRow (Value.int .i64) (Sort.ahead w n) blk off (zs.mergeSort fun x y => decide (x ≤ y)).toArray) os := Any.slices_Sort_int Try.lays189 blk off cap zs w hH hblk hsz
def Try.laysNm220_ren : Go.Shelf.Ren := ⟨fun | 20 => 57 | n => n, fun | 22 => 22 | 3 => 3 | 4 => 4 | 0 => 0 | n => n, fun | n => n⟩
theorem Try.laysNm220 : Go.Proofs.Lays2.n20 Try.prog Try.laysNm220_ren := {
  mixed := by kernel_rfl
  f20 := Try.func57.trans (congrArg some (by kernel_rfl))
  t0 := Try.underlying0
  a0 := Try.isAgg0
  z0 := Try.sizeOf0
  v0 := Try.zeroValue0
  t3 := Try.underlying3
  a3 := Try.isAgg3
  z3 := Try.sizeOf3
  v3 := Try.zeroValue3
  t4 := Try.underlying4
  a4 := Try.isAgg4
  z4 := Try.sizeOf4
  v4 := Try.zeroValue4
  t22 := Try.underlying22
  a22 := Try.isAgg22
  z22 := Try.sizeOf22
  v22 := Try.zeroValue22
  i3 := by kernel_rfl }
open Go.RowKit Go.Lib Go.Sort in
open Go.RowKit Go.Lib Go.Sort in
theorem Try.slices_Compact_int (blk off cap : Nat) (zs : List Int) (w : World) (hH : Holds (Value.int .i64) w blk off zs.toArray) (hsz : zs.length ≤ 9223372036854775807) (hcap : zs.length ≤ cap) :
    Calls Try.prog 57 #[.slice (some ⟨blk, off, none⟩) zs.length cap] w fun e w' => e = .returned (.slice (some ⟨blk, off, none⟩) (Lib.compact zs).length cap) ∧ ∃ q, w' = putRow (Value.int .i64) (Sort.ahead w q) blk off (Lib.compact zs ++ List.replicate (zs.length - (Lib.compact zs).length) 0).toArray := Any.slices_Compact_int Try.laysNm220 blk off cap zs w hH hsz hcap
open Go.RowKit Go.Lib Go.Sort in
end Go.Proofs
namespace Go.Proofs.Ytnbmmopjkkofoaa
open Go.RowKit Go.Sort
set_option linter.all false
theorem ints_vals {F : Nat → Nat → Prop} {w : World} : ∀ {l : List Int} {xs : List Value}, TReps F w (l.map fun n => TV.d (.int .i64 n)) xs ↔ xs = l.map (Value.int .i64)
  | [], xs => Iff.rfl
  | n :: l, xs => by
    constructor
    · rintro ⟨u, us, rfl, h1, h2⟩
      simp only [TRep, Rep] at h1
      rw [h1, ints_vals.1 h2]; rfl
    · rintro rfl
      exact ⟨.int .i64 n, _, rfl, rfl, ints_vals.2 rfl⟩
theorem put_list (l l' : List Int) (ys : List Value) (h : l'.length = l.length) : (putCells (Value.int .i64) 0 l'.toArray (l.map (Value.int .i64) ++ ys).toArray).toList = l'.map (Value.int .i64) ++ ys := by
  apply List.ext_getElem?
  intro k
  rw [Array.getElem?_toList]
  unfold putCells
  rw [Array.getElem?_mapIdx]
  by_cases hk : k < l.length
  · have e : (l.map (Value.int .i64) ++ ys).toArray[k]? = some (.int .i64 l[k]) := by simp [List.getElem?_append_left, hk]
    rw [e, List.getElem?_append_left (by simpa [h] using hk)]
    have hk' : k < l'.length := by omega
    simp [hk', h, hk]
  · rw [List.getElem?_append_right (by simp [h]; omega)]
    have e : (l.map (Value.int .i64) ++ ys).toArray[k]? = ys[k - l.length]? := by
      rw [List.getElem?_toArray, List.getElem?_append_right (by simp; omega)]; simp
    rw [e]
    cases hy : ys[k - l.length]? with
    | none => simp [hy, h]
    | some y =>
      have : ¬ k < l'.length := by omega
      simp [hy, h, this, hk]
theorem eff_putRow {P : Program} {f : FuncId} {b cap : Nat} {l l' : List Int} {rest : List TV} {ty : TypeId} {v : Value} (he : Ent P f) (hl : l'.length = l.length)
    (hc : ∀ w, Holds (Value.int .i64) w b 0 l.toArray → b < w.heap.size → Calls P f #[.slice (some ⟨b, 0, none⟩) l.length cap] w fun e w' => e = .returned v ∧ ∃ n os, w' = Go.Sort.grow (putRow (Value.int .i64) (Go.Sort.ahead w n) b 0 l'.toArray) os) :
    EffAt P f [.val (.slice (some ⟨b, 0, none⟩) l.length cap)] [(1005, .box b ty (l.map (fun n => TV.d (.int .i64 n)) ++ rest))] (X := Unit) (fun _ => .val v) (fun _ => [(1005, .box b ty (l'.map (fun n => TV.d (.int .i64 n)) ++ rest))]) := by
  refine ⟨he, fun w F vs hr hh => ?_⟩
  obtain ⟨u, us, rfl, hu, hus⟩ := hr
  cases hus
  simp only [TRep] at hu
  subst hu
  obtain ⟨hown, hF, cs, hb, hcs, hone⟩ := hh.res 1005 _ (lk_cons_same _ _ _)
  obtain ⟨xs, ys, rfl, hxs, hys⟩ := hcs.puts
  obtain rfl := ints_vals.1 hxs
  have hlt := heap_lt hb
  have hH : Holds (Value.int .i64) w b 0 l.toArray := fun j hj => by
    have hj' : j < l.length := by simpa using hj
    rw [Nat.zero_add]
    constructor
    · rw [cell_box hb, List.getElem?_append_left (by simpa using hj')]
      simp [hj']
    · simp [World.frozen?, hb]
  refine (hc w hH hlt).mono fun e w' hw => ?_
  obtain ⟨rfl, n, os, rfl⟩ := hw
  have hblk : ∀ k, k < w.heap.size → k ≠ b → (Go.Sort.grow (putRow (Value.int .i64) (Go.Sort.ahead w n) b 0 l'.toArray) os).heap[k]? = w.heap[k]? := fun k hk hkb => by
    simp only [Go.Sort.grow, putRow, mapBlock, Go.Sort.ahead]
    rw [Array.getElem?_append_left (by simpa using hk), Array.getElem?_modify, if_neg (Ne.symm hkb)]
  have hbb : (Go.Sort.grow (putRow (Value.int .i64) (Go.Sort.ahead w n) b 0 l'.toArray) os).heap[b]? = some (.cells (l'.map (Value.int .i64) ++ ys).toArray ty (0, 0)) := by
    simp only [Go.Sort.grow, putRow, mapBlock, Go.Sort.ahead]
    rw [Array.getElem?_append_left (by simpa using hlt), Array.getElem?_modify, if_pos rfl, hb]
    simp only [Option.map_some, onCells, Option.some.injEq, Obj.cells.injEq, and_self, and_true]
    apply Array.ext'
    rw [put_list l l' ys hl]
  have hcell : ∀ c o, F c o → (Go.Sort.grow (putRow (Value.int .i64) (Go.Sort.ahead w n) b 0 l'.toArray) os).cell? ⟨c, o, none⟩ = w.cell? ⟨c, o, none⟩ := fun c o hf => by
    have hcb : c ≠ b := fun e => by subst e; exact hF o hf
    obtain ⟨u, hu⟩ := hh.fcell c o hf
    have := hblk c (World.block_lt_of_cell? w ⟨c, o, none⟩ hu) hcb
    simp [World.cell?, this]
  have hsz : w.heap.size ≤ (Go.Sort.grow (putRow (Value.int .i64) (Go.Sort.ahead w n) b 0 l'.toArray) os).heap.size := by simp [Go.Sort.grow, putRow, mapBlock, Go.Sort.ahead]
  refine ⟨(), v, F, rfl, rfl, {
    os := rfl
    tape := rfl
    output := rfl
    hsize := hsz
    old := fun k hk hkl => hblk k hk (fun e => hkl ⟨1005, _, lk_cons_same _ _ _, e.symm⟩)
    fcell := fun c o hf => by obtain ⟨u, hu⟩ := hh.fcell c o hf; exact ⟨u, (hcell c o hf).trans hu⟩
    keep := hcell
    f0 := fun _ _ h => h
    fnew := fun _ _ h _ _ => h
    res := fun i r hr => ?_
    sep := fun i i' r r' c k1 k2 _ _ => ?_ }⟩
  · rw [lk_cons] at hr
    split at hr
    · cases hr
      refine ⟨.inr ⟨1005, _, lk_cons_same _ _ _, rfl⟩, hF, _, hbb, ?_, ?_⟩
      · exact (ints_vals.2 rfl).append (hys.ext' fun c o hf => ⟨hf, hcell c o hf⟩)
      · intro u hu
        rcases List.mem_append.1 hu with hu | hu
        · obtain ⟨m, _, rfl⟩ := List.mem_map.1 hu; rfl
        · exact hone u (by simp [hu])
    · simp [lk] at hr
  · rw [lk_cons] at k1 k2
    split at k1 <;> split at k2
    · omega
    · simp [lk] at k2
    · simp [lk] at k1
    · simp [lk] at k1
def sortL (l : List Int) : List Int := l.mergeSort fun x y => decide (x ≤ y)
def compL (l : List Int) : List Int := Lib.compact l
theorem sort_eff (b cap : Nat) (l : List Int) (rest : List TV) (ty : TypeId) (h : l.length < 4611686018427387904) :
    EffAt Try.prog 56 [.val (.slice (some ⟨b, 0, none⟩) l.length cap)] [(1005, .box b ty (l.map (fun n => TV.d (.int .i64 n)) ++ rest))] (X := Unit) (fun _ => .val (.tuple #[])) (fun _ => [(1005, .box b ty ((sortL l).map (fun n => TV.d (.int .i64 n)) ++ rest))]) :=
  eff_putRow (ent_of (fn := Try.f56) (by kernel_rfl) rfl rfl) (List.length_mergeSort _) fun w hH hlt => Try.slices_Sort_int b 0 cap l w hH hlt h
theorem comp_le (l : List Int) : (Lib.compact l).length ≤ l.length := by
  unfold Lib.compact Lib.compactUpTo
  rw [List.length_map]
  exact Nat.le_trans (List.length_filter_le _ _) (by simp)
theorem compact_eff (b cap n : Nat) (l : List Int) (rest : List TV) (ty : TypeId) (hn : l.length = n) (h : n ≤ 9223372036854775807) (hcap : n ≤ cap) :
    EffAt Try.prog 57 [.val (.slice (some ⟨b, 0, none⟩) n cap)] [(1005, .box b ty (l.map (fun n => TV.d (.int .i64 n)) ++ rest))] (X := Unit) (fun _ => .val (.slice (some ⟨b, 0, none⟩) (compL l).length cap))
      (fun _ => [(1005, .box b ty ((compL l ++ List.replicate (n - (compL l).length) 0).map (fun n => TV.d (.int .i64 n)) ++ rest))]) := by
  subst hn
  exact eff_putRow (ent_of (fn := Try.f57) (by kernel_rfl) rfl rfl) (by have := comp_le l; simp only [List.length_append, List.length_replicate, compL]; omega) fun w hH hlt =>
    (Try.slices_Compact_int b 0 cap l w hH h hcap).mono fun e w' ⟨he, q, hw⟩ => ⟨he, q, #[], by rw [hw, Go.Sort.grow_empty]; rfl⟩
end Go.Proofs.Ytnbmmopjkkofoaa
namespace Go.Proofs.Ytnbmmopjkkofoaa
open Go.RowKit
set_option maxRecDepth 20000
set_option linter.all false
theorem ask_bad {r : Reg} {is : Bool} {N e : Int} {out : List Nat} (h : AskP r is N out e) (he : e ≠ 0) : out = [] := by
  rcases h with ⟨_, h, _⟩ | ⟨_, _, h, _⟩ | ⟨_, _, n, _, _, _, h⟩
  · exact h
  · exact h
  · cases out with
    | nil => rfl
    | cons d l => exact (he h).elim
theorem ask_good {r : Reg} {is : Bool} {N : Int} {out : List Nat} (h : AskP r is N out 0) : Valid r ∧ is = true ∧ ∃ n : Nat, N = n ∧ n ≤ 9 ∧ EvOK r n out ∧ out ≠ [] := by
  rcases h with ⟨h0, _, h⟩ | ⟨_, _, _, h⟩ | ⟨h0, hi, n, hN, h9, hev, h⟩
  · exact (h0 h.symm).elim
  · cases h
  · refine ⟨valid_of h0, hi, n, hN, h9, hev, fun e => ?_⟩
    subst e
    cases h
def holdL (r : Reg) (out : List Nat) (s : Nat) : List Int := out.map fun d => (placesA r d).getD s 0
def holdR (r : Reg) (s : Int) (out : List Nat) : List Int := compL (sortL (holdL r out s.toNat))
theorem hold_nil (r : Reg) (s : Int) : holdR r s [] = [] := by
  unfold holdR holdL compL sortL
  rw [List.map_nil, List.mergeSort_nil]
  rfl
theorem sheetB_bd {r : Reg} {s : Int} (v : Valid r) (h : sheetB r s = true) : 0 ≤ s ∧ s < r.start.length ∧ s.toNat < 4 := by
  have := v.s4
  simp [sheetB] at h
  omega
theorem vec_take {l : List Int} {i : Nat} {x : Int} (h : l[i]? = some x) : (l.take i).map (fun n => TV.d (.int .i64 n)) ++ ([[D.int .i64 x]].flatten.map TV.d) = (l.take (i + 1)).map fun n => TV.d (.int .i64 n) := by
  rw [List.take_add_one, h]; simp
theorem comp_split (l : List Int) (k : Nat) (rest : List TV) : ((compL l ++ List.replicate k 0).map (fun n => TV.d (.int .i64 n)) ++ rest) = ((compL l).map intD).map .d ++ ((List.replicate k 0).map (fun n => TV.d (.int .i64 n)) ++ rest) := by
  simp [intD]
def heldR (r : Reg) (a : Int) (out : List Nat) : Int × Int := match out with
  | [] => (0, 0)
  | d0 :: l => (minL (heldN r d0 a : Nat) (l.map fun d => (heldN r d a : Int)), maxL (heldN r d0 a : Nat) (l.map fun d => (heldN r d a : Int)))
def owedR (r : Reg) (a c : Int) (out : List Nat) : Int × Int := match out with
  | [] => (0, 0)
  | d0 :: l => (minL (openN r d0 a c) (l.map fun d => openN r d a c), maxL (openN r d0 a c) (l.map fun d => openN r d a c))
theorem heldN_bd (r : Reg) (v : Valid r) (d : Nat) (a : Int) : -1000 ≤ (heldN r d a : Int) ∧ (heldN r d a : Int) ≤ 1000 := by
  have h1 : heldN r d a ≤ ((placesA r d).take r.start.length).length := List.countP_le_length
  have h2 := v.s4
  rw [List.length_take] at h1
  omega
theorem openF_bd {d : Nat} {a c : Int} : ∀ {k : Nat} {es : List Ent5} {x m : Int}, -m ≤ x → x ≤ m → -(m + es.length) ≤ openF d a c k es x ∧ openF d a c k es x ≤ m + es.length
  | k, [], x, m, h1, h2 => by simp [openF]; omega
  | k, e :: es, x, m, h1, h2 => by
    have key : ∀ y, -(m + 1) ≤ y → y ≤ m + 1 → -(m + (e :: es).length) ≤ openF d a c (k + 1) es y ∧ openF d a c (k + 1) es y ≤ m + (e :: es).length := fun y k1 k2 => by
      have := openF_bd (d := d) (a := a) (c := c) (k := k + 1) (es := es) k1 k2
      simp only [List.length_cons, Int.natCast_add, Int.natCast_one]
      omega
    unfold openF
    simp only [Bool.cond_eq_ite]
    refine key _ ?_ ?_ <;> (repeat split) <;> omega
theorem openN_bd (r : Reg) (v : Valid r) (d : Nat) (a c : Int) : -1000 ≤ openN r d a c ∧ openN r d a c ≤ 1000 := by
  have := openF_bd (d := d) (a := a) (c := c) (k := 0) (es := r.entries) (x := 0) (m := 0) (by omega) (by omega)
  have h6 := v.e6
  unfold openN
  omega
def surelyR (r : Reg) (a : Int) (out : List Nat) : List Int := bif out.isEmpty then [] else ((List.range r.start.length).filter fun s => out.all fun d => (placesA r d).getD s 0 == a).map Int.ofNat
theorem zr112 : (Try.prog.info? 112).map (·.zero) = some (some (.agg #[.nilFunc, (.int .i64 0), (.int .i64 0)])) := by kernel_rfl
theorem bt112 : BT Try.prog 112 (.agg #[.nilFunc, (.int .i64 0), (.int .i64 0)]) (fun i => ([(0, 1), (1, 1), (2, 1)] : List (Nat × Nat))[i]?) := bt_struct Try.underlying112 zr112 (by kernel_rfl)
theorem Holders_eff (r : Reg) (s day : Int) : EffAt Try.prog 16 [.d (regD r), .d (.int .i64 s), .d (.int .i64 day)] [] (X := AskX r (sheetB r s) day) (fun x => .d (.tup [ints (holdR r s x.1.1), .int .i64 x.1.2])) (fun _ => []) := by
  refine EffAt.of_awp Try.func16 rfl (by kernel_rfl) rfl fun Γ hn => ?_
  refine awp_seq ?_
  refine awp_region ?_
  refine stepW (s_box 3 rfl rfl rfl (nb hn rfl) rfl rfl) fun b3 => ?_
  refine sq rfl rfl hn rfl (q_assign rfl rfl) ?_
  refine sq rfl rfl hn rfl (q_assign rfl rfl) ?_
  refine run_nil ?_
  refine aend_then ?_
  refine awp_seq ?_
  refine gh_awp (g_freeze (t := 3) 3 rfl (nb hn rfl) rfl rfl trivial) ?_
  refine d_start (W := fun b => True) fmo ?_
  refine d1q (i := 0) rfl (by kernel_rfl) (fun _ _ _ _ h => h) rfl rfl hn rfl (q_loadpA rfl rfl Try.underlying35 rfl sz35 rfl rfl seesFA) ?_
  refine d1q (i := 1) rfl (by kernel_rfl) (fun _ _ _ _ h => h) rfl rfl hn rfl (q_loadpA rfl rfl Try.underlying35 rfl sz35 rfl rfl seesFA) ?_
  refine d1q (i := 2) rfl (by kernel_rfl) (fun _ _ _ _ h => h) rfl rfl hn rfl (q_move rfl rfl) ?_
  refine d1q (i := 4) rfl (by kernel_rfl) (fun _ _ _ _ h => h) rfl rfl hn rfl (q_move rfl rfl) ?_
  refine d1_of_d2 ?_
  refine d2_one (i := 3) (by kernel_rfl) rfl (s_call [] (fun _ => sheet_ok r s) rfl (guard_none rfl) rfl (nb hn rfl) (fun _ => trivial) rfl rfl (.refl _)) fun _ => ?_
  refine d2_of_d1 ?_
  refine d1_of_d2 ?_
  refine d2_one (i := 5) (by kernel_rfl) rfl (s_callE (asked_ok r (sheetB r s) day) rfl rfl rfl (nb hn rfl) (.d rfl) rfl (.refl _) trivial (fun _ => rfl) (fun _ _ => trivial)) fun ⟨⟨out, e⟩, hx⟩ => ?_
  refine d2_of_d1 ?_
  refine d1q (i := 6) rfl (by kernel_rfl) (fun _ _ _ _ h => h) rfl rfl hn rfl (q_move rfl rfl) ?_
  refine d1q (i := 7) rfl (by kernel_rfl) (fun _ _ _ _ h => h) rfl rfl hn rfl (q_extractd rfl rfl rfl) ?_
  refine d1q (i := 8) rfl (by kernel_rfl) (fun _ _ _ _ h => h) rfl rfl hn rfl (q_extractd rfl rfl rfl) ?_
  refine d1q (i := 9) rfl (by kernel_rfl) (fun _ _ _ _ h => h) rfl rfl hn rfl (q_assign rfl rfl) ?_
  refine d1q (i := 10) rfl (by kernel_rfl) (fun _ _ _ _ h => h) rfl rfl hn rfl (q_assign rfl rfl) ?_
  refine d1_of_d2 ?_
  refine d2_done (by kernel_rfl) ?_
  refine aend_then ?_
  refine awp_seq ?_
  refine awp_seq ?_
  refine awp_region ?_
  refine sq rfl rfl hn rfl (q_move rfl rfl) ?_
  refine sq rfl rfl hn rfl (q_neq rfl rfl rfl) ?_
  refine run_nil ?_
  refine aend_then ?_
  refine awp_cond rfl (fun hb0 => ?_) (fun hb0 => ?_)
  · skip
    have hee : e ≠ 0 := by simpa using hb0
    obtain rfl := ask_bad hx hee
    refine awp_seq ?_
    refine awp_region ?_
    refine sq rfl rfl hn rfl (q_move rfl rfl) ?_
    refine sq rfl rfl hn rfl (q_assign rfl rfl) ?_
    refine sq rfl rfl hn rfl (q_assign rfl rfl) ?_
    refine run_nil ?_
    refine aend_then ?_
    refine awp_ret ?_
    refine aend_then_ret ?_
    exact ret_E (.inl rfl) ⟨([], e), hx⟩ ((hands_2d rfl (.tmp rfl) (.tmp rfl)).le (by rw [hold_nil]; exact .tup (.cons (.nil 1) (.refl _)))) trivial
  · skip
    have he0 : e = 0 := by simpa using hb0
    subst he0
    obtain ⟨v, his, n, rfl, hN, hev, hne⟩ := ask_good hx
    have hd64 := ev_bd v hN hev
    have ho64 : out.length ≤ 64 := hev.2.1
    obtain ⟨hs0, hs1, hs4⟩ := sheetB_bd v his
    obtain ⟨hl, hhl⟩ : ∃ hl, hl = holdL r out s.toNat := ⟨_, rfl⟩
    have hll : hl.length = out.length := by rw [hhl, holdL, List.length_map]
    refine awp_skip ?_
    refine aend_then ?_
    refine awp_seq ?_
    refine awp_region ?_
    refine sq rfl rfl hn rfl (q_assign rfl rfl) ?_
    refine run_nil ?_
    refine aend_then ?_
    refine awp_seq ?_
    refine awp_seq ?_
    refine gh_awp (g_nilV (t := 10) 1005 rfl) ?_
    refine awp_region ?_
    refine sq rfl rfl hn rfl (q_move rfl rfl) ?_
    refine sq rfl rfl hn rfl (q_len rfl rfl Try.underlying98) ?_
    refine sq rfl rfl hn rfl (q_move rfl rfl) ?_
    refine run_nil ?_
    refine aend_then ?_
    refine awp_block ?_
    refine awp_loop_on (ι := {x : Nat × Value // x.1 ≤ out.length ∧ VecV x.2 1 ((hl.take x.1).map fun n => TV.d (.int .i64 n))}) (fun x => (27, true, .d (.int .i64 (x.1.1 : Nat))) :: (10, true, .val x.1.2) :: anys [28, 29, 30, 12, 31, 32, 33, 34, 35, 36, 37, 38, 39]) (fun x => [(1005, vecRes 3 x.1.2 1 ((hl.take x.1.1).map fun n => TV.d (.int .i64 n)))]) (fun x => out.length - x.1.1) ⟨(0, .slice none 0 0), by simp, VecV.nil 1⟩ ⟨.inl rfl, .inl rfl, holdT_anys _⟩ ⟨.inl rfl, trivial⟩ ?_
    rintro ⟨⟨i, vv⟩, hi, hV⟩
    dsimp only
    dsimp only at hi hV
    refine awp_seq ?_
    refine awp_region ?_
    refine sq rfl rfl hn rfl (q_lss rfl rfl rfl) ?_
    refine run_nil ?_
    refine aend_then ?_
    refine awp_seq ?_
    refine awp_cond rfl (fun hb1 => ?_) (fun hb1 => ?_)
    · try simp only [decide_eq_true_eq, decide_eq_false_iff_not, Bool.and_eq_true, Bool.or_eq_true, Bool.and_eq_false_iff, Bool.or_eq_false_iff, Bool.not_eq_true', Bool.not_eq_false', beq_iff_eq, bne_iff_ne, ne_eq, beq_eq_false_iff_ne, bne_eq_false_iff_eq, Int.not_lt, Int.not_le] at hb1
      have hlt : i < out.length := by simp only [List.length_map] at hb1; omega
      obtain ⟨d, hd⟩ := ex_get hlt
      have hxl : hl[i]? = some ((placesA r d).getD s.toNat 0) := by rw [hhl]; exact mget hd
      have hpl := placesA_len r d
      refine awp_skip ?_
      refine aend_then ?_
      refine awp_seq ?_
      refine awp_block ?_
      refine awp_seq ?_
      refine awp_region ?_
      refine sq rfl rfl hn rfl (q_index rfl rfl rfl Try.underlying98 sz102 rfl (mget hd)) ?_
      refine sq rfl rfl hn rfl (q_loadp rfl rfl Try.underlying102 rfl seesF0) ?_
      refine sq rfl rfl hn rfl (q_assign rfl rfl) ?_
      refine run_nil ?_
      refine aend_then ?_
      refine awp_region ?_
      refine sq rfl rfl hn rfl (q_move rfl rfl) ?_
      refine sq rfl rfl hn rfl (q_loadpA rfl rfl Try.underlying35 rfl sz35 rfl rfl seesF0) ?_
      refine sq rfl rfl hn rfl (q_move rfl rfl) ?_
      refine stepW (s_call [] (fun _ => places_ok r d v (hd64 d (List.mem_of_getElem? hd))) rfl (guard_none rfl) rfl (nb hn rfl) (fun _ => trivial) rfl rfl (.refl _)) fun _ => ?_
      refine sq rfl rfl hn rfl (q_move rfl rfl) ?_
      refine sq rfl rfl hn rfl (q_indexAgg (i := s.toNat) rfl rfl rfl Try.underlying103 Try.underlying3 rfl sz3 (by omega) (by omega) (mget (getD_some (by omega)))) ?_
      refine stepW (s_buildSlice rfl rfl rfl (nb hn rfl) Try.underlying22 sz3 zr3 rfl rfl rfl (show _ = [.d (.int .i64 0)] from by kernel_rfl) (by kernel_rfl) rfl (fill_int rfl) rfl rfl rfl) fun _ => ?_
      refine stepW (s_appendV (id := 1005) rfl rfl rfl (nb hn rfl) elt22 zr3 rfl hV rfl rfl rfl (by simp [chunk, List.length_take]; omega) (by simp [chunk, List.length_take]; omega) (fun _ _ => trivial)) fun ⟨v38, hV38⟩ => ?_
      refine sq rfl rfl hn rfl (q_assign rfl rfl) ?_
      refine run_nil ?_
      refine aend_block ?_
      refine aend_then ?_
      refine awp_region ?_
      refine sq rfl rfl hn rfl (q_add rfl rfl rfl (r := ((i + 1 : Nat) : Int)) (i64w (by omega) (by omega))) ?_
      refine sq rfl rfl hn rfl (q_move rfl rfl) ?_
      refine run_nil ?_
      exact aend_round_on ⟨(i + 1, v38), by simp only; omega, by rw [← vec_take hxl]; exact hV38⟩ ⟨.inl rfl, .inl rfl, holdT_anys _⟩ ⟨.inl (congrArg (fun z => some (vecRes 3 v38 1 z)) (vec_take hxl)), trivial⟩ (by simp only; omega) (by repeat (first | exact kr _ | refine kc rfl ?_)) (by repeat (first | exact kr _ | refine kc rfl ?_))
    · try simp only [decide_eq_true_eq, decide_eq_false_iff_not, Bool.and_eq_true, Bool.or_eq_true, Bool.and_eq_false_iff, Bool.or_eq_false_iff, Bool.not_eq_true', Bool.not_eq_false', beq_iff_eq, bne_iff_ne, ne_eq, beq_eq_false_iff_ne, bne_eq_false_iff_eq, Int.not_lt, Int.not_le] at hb1
      have hio : i = out.length := by simp only [List.length_map] at hb1; omega
      subst hio
      rw [← hll, List.take_length] at hV
      rw [← hll, List.take_length]
      rcases hV with ⟨_, hnil⟩ | ⟨bb, nn, cap, rfl, hc1, hc2, hc3⟩
      · exact absurd (List.length_eq_zero_iff.1 (by rw [← hll]; simpa using hnil)) hne
      obtain rfl : nn = hl.length := by simpa using hc3.symm
      have hcm : hl.length ≤ 64 := by omega
      refine awp_exit ?_
      refine aend_then_exit ?_
      refine aend_then_exit ?_
      refine aend_block_exit ?_
      refine aend_then ?_
      refine awp_seq ?_
      refine awp_region ?_
      refine sq rfl rfl hn rfl (q_move rfl rfl) ?_
      refine stepW (s_callE (sort_eff bb cap hl _ 3 (by omega)) rfl rfl rfl (nb hn rfl) (.d rfl) rfl (.refl _) ⟨rfl, trivial⟩ (fun _ => rfl) (fun _ _ => trivial)) fun _ => ?_
      refine run_nil ?_
      refine aend_then ?_
      refine awp_seq ?_
      refine awp_region ?_
      refine sq rfl rfl hn rfl (q_move rfl rfl) ?_
      refine stepW (s_callE (compact_eff bb cap hl.length (sortL hl) _ 3 (List.length_mergeSort _) (by omega) hc1) rfl rfl rfl (nb hn rfl) (.d rfl) rfl (.refl _) ⟨rfl, trivial⟩ (fun _ => rfl) (fun _ _ => trivial)) fun _ => ?_
      refine sq rfl rfl hn rfl (q_assign rfl rfl) ?_
      refine sq rfl rfl hn rfl (q_assign rfl rfl) ?_
      refine run_nil ?_
      refine aend_then ?_
      refine awp_ret ?_
      refine gh_end (g_freezeVK (t := 6) (n := (compL (sortL hl)).length) (sz := 1) 1005 rfl rfl (comp_split _ _ _) (by simp) (chunk_int _) (by have := comp_le (sortL hl); have h2 : (sortL hl).length = hl.length := List.length_mergeSort _; simp only [compL]; omega) hc2) ?_
      exact ret_E (.inl rfl) ⟨(out, 0), hx⟩ ((hands_2d rfl (.tmp rfl) (.tmp rfl)).eq (by rw [hhl]; rfl)) trivial
theorem InHand_eff (r : Reg) (a day : Int) : EffAt Try.prog 25 [.d (regD r), .d (.int .i64 a), .d (.int .i64 day)] [] (X := AskX r (houseB r a) day) (fun x => .d (.tup [.agg [.int .i64 (heldR r a x.1.1).1, .int .i64 (heldR r a x.1.1).2], .int .i64 x.1.2])) (fun _ => []) := by
  refine EffAt.of_awp Try.func25 rfl (by kernel_rfl) rfl fun Γ hn => ?_
  refine awp_seq ?_
  refine awp_region ?_
  refine stepW (s_box 3 rfl rfl rfl (nb hn rfl) rfl rfl) fun b3 => ?_
  refine stepW (s_alloc 6 rfl rfl rfl (nb hn rfl) zr45 rfl rfl) fun b6 => ?_
  refine sq rfl rfl hn rfl (q_assign rfl rfl) ?_
  refine run_nil ?_
  refine aend_then ?_
  refine awp_seq ?_
  refine gh_awp (g_freeze (t := 3) 3 rfl (nb hn rfl) rfl rfl trivial) ?_
  refine d_start (W := fun b => True) fmo ?_
  refine d1q (i := 0) rfl (by kernel_rfl) (fun _ _ _ _ h => h) rfl rfl hn rfl (q_loadpA rfl rfl Try.underlying35 rfl sz35 rfl rfl seesFA) ?_
  refine d1q (i := 1) rfl (by kernel_rfl) (fun _ _ _ _ h => h) rfl rfl hn rfl (q_loadpA rfl rfl Try.underlying35 rfl sz35 rfl rfl seesFA) ?_
  refine d1q (i := 2) rfl (by kernel_rfl) (fun _ _ _ _ h => h) rfl rfl hn rfl (q_move rfl rfl) ?_
  refine d1q (i := 4) rfl (by kernel_rfl) (fun _ _ _ _ h => h) rfl rfl hn rfl (q_move rfl rfl) ?_
  refine d1_of_d2 ?_
  refine d2_one (i := 3) (by kernel_rfl) rfl (s_call [] (fun _ => house_ok r a) rfl (guard_none rfl) rfl (nb hn rfl) (fun _ => trivial) rfl rfl (.refl _)) fun _ => ?_
  refine d2_of_d1 ?_
  refine d1_of_d2 ?_
  refine d2_one (i := 5) (by kernel_rfl) rfl (s_callE (asked_ok r (houseB r a) day) rfl rfl rfl (nb hn rfl) (.d rfl) rfl (.refl _) trivial (fun _ => rfl) (fun _ _ => trivial)) fun ⟨⟨out, e⟩, hx⟩ => ?_
  refine d2_of_d1 ?_
  refine d1q (i := 6) rfl (by kernel_rfl) (fun _ _ _ _ h => h) rfl rfl hn rfl (q_move rfl rfl) ?_
  refine d1q (i := 7) rfl (by kernel_rfl) (fun _ _ _ _ h => h) rfl rfl hn rfl (q_extractd rfl rfl rfl) ?_
  refine d1q (i := 8) rfl (by kernel_rfl) (fun _ _ _ _ h => h) rfl rfl hn rfl (q_extractd rfl rfl rfl) ?_
  refine d1q (i := 9) rfl (by kernel_rfl) (fun _ _ _ _ h => h) rfl rfl hn rfl (q_assign rfl rfl) ?_
  refine d1q (i := 10) rfl (by kernel_rfl) (fun _ _ _ _ h => h) rfl rfl hn rfl (q_assign rfl rfl) ?_
  refine d1_of_d2 ?_
  refine d2_done (by kernel_rfl) ?_
  refine aend_then ?_
  refine awp_seq ?_
  refine awp_seq ?_
  refine awp_region ?_
  refine sq rfl rfl hn rfl (q_move rfl rfl) ?_
  refine sq rfl rfl hn rfl (q_neq rfl rfl rfl) ?_
  refine run_nil ?_
  refine aend_then ?_
  refine awp_cond rfl (fun hb0 => ?_) (fun hb0 => ?_)
  · skip
    have hee : e ≠ 0 := by simpa using hb0
    obtain rfl := ask_bad hx hee
    refine awp_seq ?_
    refine awp_region ?_
    refine sq rfl rfl hn rfl (q_buildd rfl bt45 rfl rfl rfl rfl rfl) ?_
    refine sq rfl rfl hn rfl (q_move rfl rfl) ?_
    refine stepW (s_store rfl rfl rfl rfl rfl rfl (id := 6) rfl sz45 rfl (Nat.le_of_ble_eq_true rfl) rfl trivial) fun _ => ?_
    refine sq rfl rfl hn rfl (q_assign rfl rfl) ?_
    refine run_nil ?_
    refine aend_then ?_
    refine awp_ret ?_
    refine aend_then_ret ?_
    exact ret_E (.inl rfl) ⟨([], e), hx⟩ (hands_2d rfl (.d (.cellA rfl (id := 6) rfl Try.underlying45 rfl sz45 rfl rfl)) (.tmp rfl)) trivial
  · skip
    have he0 : e = 0 := by simpa using hb0
    subst he0
    obtain ⟨v, his, n, rfl, hN, hev, hne⟩ := ask_good hx
    have hd64 := ev_bd v hN hev
    have ho64 : out.length ≤ 64 := hev.2.1
    obtain ⟨d0, l, rfl⟩ : ∃ d0 l, out = d0 :: l := by cases out with
      | nil => exact absurd rfl hne
      | cons d l => exact ⟨d, l, rfl⟩
    refine awp_skip ?_
    refine aend_then ?_
    refine awp_seq ?_
    refine awp_region ?_
    refine sq rfl rfl hn rfl (q_move rfl rfl) ?_
    refine sq rfl rfl hn rfl (q_buildd rfl bt112 rfl rfl rfl rfl rfl) ?_
    refine sq rfl rfl hn rfl (q_loadpA rfl rfl Try.underlying35 rfl sz35 rfl rfl seesF0) ?_
    refine sq rfl rfl hn rfl (q_move rfl rfl) ?_
    refine stepW (s_call [] (fun _ => bounds_ok r 63 a 0 d0 l (fun d => (heldN r d a : Int)) (fun d _ => heldN_bd r v d a) (by simp only [List.length_cons] at ho64; omega) (fun d hd => held_ok r d a 0 v (hd64 d hd))) rfl (guard_none rfl) rfl (nb hn rfl) (fun _ => trivial) rfl rfl (.refl _)) fun _ => ?_
    refine stepW (s_store rfl rfl rfl rfl rfl rfl (id := 6) rfl sz45 rfl (Nat.le_of_ble_eq_true rfl) rfl trivial) fun _ => ?_
    refine sq rfl rfl hn rfl (q_assign rfl rfl) ?_
    refine run_nil ?_
    refine aend_then ?_
    refine awp_ret ?_
    exact ret_E (.inl rfl) ⟨(d0 :: l, 0), hx⟩ (hands_2d rfl (.d (.cellA rfl (id := 6) rfl Try.underlying45 rfl sz45 rfl rfl)) (.tmp rfl)) trivial
theorem Owed_eff (r : Reg) (a c day : Int) : EffAt Try.prog 26 [.d (regD r), .d (.int .i64 a), .d (.int .i64 c), .d (.int .i64 day)] [] (X := AskX r (houseB r a && houseB r c) day) (fun x => .d (.tup [.agg [.int .i64 (owedR r a c x.1.1).1, .int .i64 (owedR r a c x.1.1).2], .int .i64 x.1.2])) (fun _ => []) := by
  refine EffAt.of_awp Try.func26 rfl (by kernel_rfl) rfl fun Γ hn => ?_
  refine awp_seq ?_
  refine awp_region ?_
  refine stepW (s_box 4 rfl rfl rfl (nb hn rfl) rfl rfl) fun b4 => ?_
  refine stepW (s_alloc 8 rfl rfl rfl (nb hn rfl) zr45 rfl rfl) fun b8 => ?_
  refine sq rfl rfl hn rfl (q_assign rfl rfl) ?_
  refine run_nil ?_
  refine aend_then ?_
  refine awp_seq ?_
  refine gh_awp (g_freeze (t := 4) 4 rfl (nb hn rfl) rfl rfl trivial) ?_
  refine d_start (W := fun b => True) fmo ?_
  refine d1q (i := 0) rfl (by kernel_rfl) (fun _ _ _ _ h => h) rfl rfl hn rfl (q_loadpA rfl rfl Try.underlying35 rfl sz35 rfl rfl seesFA) ?_
  refine d1q (i := 1) rfl (by kernel_rfl) (fun _ _ _ _ h => h) rfl rfl hn rfl (q_loadpA rfl rfl Try.underlying35 rfl sz35 rfl rfl seesFA) ?_
  refine d1q (i := 2) rfl (by kernel_rfl) (fun _ _ _ _ h => h) rfl rfl hn rfl (q_move rfl rfl) ?_
  refine d1q (i := 9) rfl (by kernel_rfl) (fun _ _ _ _ h => h) rfl rfl hn rfl (q_move rfl rfl) ?_
  refine d1_of_d2 ?_
  refine d2_one (i := 3) (by kernel_rfl) rfl (s_call [] (fun _ => house_ok r a) rfl (guard_none rfl) rfl (nb hn rfl) (fun _ => trivial) rfl rfl (.refl _)) fun _ => ?_
  refine d2_of_d1 ?_
  refine d1q (i := 4) rfl (by kernel_rfl) (fun _ _ _ _ h => h) rfl rfl hn rfl (q_move rfl rfl) ?_
  refine d1g (i := 5) [] rfl (by kernel_rfl) (fun _ _ _ _ h => h) (guard_some rfl rfl rfl) rfl hn rfl (fun hc => trivial) (fun hc => q_loadpA rfl rfl Try.underlying35 rfl sz35 rfl rfl seesFA) ?_
  refine d1g (i := 6) [] rfl (by kernel_rfl) (fun _ _ _ _ h => h) (guard_some rfl rfl rfl) rfl hn rfl (fun hc => trivial) (fun hc => q_move rfl rfl) ?_
  refine d1_of_d2 ?_
  refine d2_one (i := 7) (by kernel_rfl) rfl (s_call [(18, _), (19, _)] (fun hc => house_ok r c) rfl (guard_some rfl rfl rfl) rfl (nb hn rfl) (fun hc => ⟨⟨_, rfl, hc⟩, ⟨_, rfl, hc⟩, trivial⟩) rfl rfl (.refl _)) fun _ => ?_
  refine d2_of_d1 ?_
  refine d1q (i := 8) rfl (by kernel_rfl) (fun _ _ _ _ h => h) rfl rfl hn rfl (q_and rfl rfl rfl (by simp_all)) ?_
  refine d1_of_d2 ?_
  refine d2_one (i := 10) (by kernel_rfl) rfl (s_callE (asked_ok r (houseB r a && houseB r c) day) rfl rfl rfl (nb hn rfl) (.d rfl) rfl (.refl _) trivial (fun _ => rfl) (fun _ _ => trivial)) fun ⟨⟨out, e⟩, hx⟩ => ?_
  refine d2_of_d1 ?_
  refine d1q (i := 11) rfl (by kernel_rfl) (fun _ _ _ _ h => h) rfl rfl hn rfl (q_move rfl rfl) ?_
  refine d1q (i := 12) rfl (by kernel_rfl) (fun _ _ _ _ h => h) rfl rfl hn rfl (q_extractd rfl rfl rfl) ?_
  refine d1q (i := 13) rfl (by kernel_rfl) (fun _ _ _ _ h => h) rfl rfl hn rfl (q_extractd rfl rfl rfl) ?_
  refine d1q (i := 14) rfl (by kernel_rfl) (fun _ _ _ _ h => h) rfl rfl hn rfl (q_assign rfl rfl) ?_
  refine d1q (i := 15) rfl (by kernel_rfl) (fun _ _ _ _ h => h) rfl rfl hn rfl (q_assign rfl rfl) ?_
  refine d1_of_d2 ?_
  refine d2_done (by kernel_rfl) ?_
  refine aend_then ?_
  refine awp_seq ?_
  refine awp_seq ?_
  refine awp_region ?_
  refine sq rfl rfl hn rfl (q_move rfl rfl) ?_
  refine sq rfl rfl hn rfl (q_neq rfl rfl rfl) ?_
  refine run_nil ?_
  refine aend_then ?_
  refine awp_cond rfl (fun hb0 => ?_) (fun hb0 => ?_)
  · skip
    have hee : e ≠ 0 := by simpa using hb0
    obtain rfl := ask_bad hx hee
    refine awp_seq ?_
    refine awp_region ?_
    refine sq rfl rfl hn rfl (q_buildd rfl bt45 rfl rfl rfl rfl rfl) ?_
    refine sq rfl rfl hn rfl (q_move rfl rfl) ?_
    refine stepW (s_store rfl rfl rfl rfl rfl rfl (id := 8) rfl sz45 rfl (Nat.le_of_ble_eq_true rfl) rfl trivial) fun _ => ?_
    refine sq rfl rfl hn rfl (q_assign rfl rfl) ?_
    refine run_nil ?_
    refine aend_then ?_
    refine awp_ret ?_
    refine aend_then_ret ?_
    exact ret_E (.inl rfl) ⟨([], e), hx⟩ (hands_2d rfl (.d (.cellA rfl (id := 8) rfl Try.underlying45 rfl sz45 rfl rfl)) (.tmp rfl)) trivial
  · skip
    have he0 : e = 0 := by simpa using hb0
    subst he0
    obtain ⟨v, his, n, rfl, hN, hev, hne⟩ := ask_good hx
    have hd64 := ev_bd v hN hev
    have ho64 : out.length ≤ 64 := hev.2.1
    obtain ⟨d0, l, rfl⟩ : ∃ d0 l, out = d0 :: l := by cases out with
      | nil => exact absurd rfl hne
      | cons d l => exact ⟨d, l, rfl⟩
    refine awp_skip ?_
    refine aend_then ?_
    refine awp_seq ?_
    refine awp_region ?_
    refine sq rfl rfl hn rfl (q_move rfl rfl) ?_
    refine sq rfl rfl hn rfl (q_move rfl rfl) ?_
    refine sq rfl rfl hn rfl (q_buildd rfl bt112 rfl rfl rfl rfl rfl) ?_
    refine sq rfl rfl hn rfl (q_loadpA rfl rfl Try.underlying35 rfl sz35 rfl rfl seesF0) ?_
    refine sq rfl rfl hn rfl (q_move rfl rfl) ?_
    refine stepW (s_call [] (fun _ => bounds_ok r 65 a c d0 l (fun d => openN r d a c) (fun d _ => openN_bd r v d a c) (by simp only [List.length_cons] at ho64; omega) (fun d hd => open_ok r d a c v (hd64 d hd))) rfl (guard_none rfl) rfl (nb hn rfl) (fun _ => trivial) rfl rfl (.refl _)) fun _ => ?_
    refine stepW (s_store rfl rfl rfl rfl rfl rfl (id := 8) rfl sz45 rfl (Nat.le_of_ble_eq_true rfl) rfl trivial) fun _ => ?_
    refine sq rfl rfl hn rfl (q_assign rfl rfl) ?_
    refine run_nil ?_
    refine aend_then ?_
    refine awp_ret ?_
    exact ret_E (.inl rfl) ⟨(d0 :: l, 0), hx⟩ (hands_2d rfl (.d (.cellA rfl (id := 8) rfl Try.underlying45 rfl sz45 rfl rfl)) (.tmp rfl)) trivial
theorem Surely1_ok (r : Reg) (v : Valid r) (d s : Nat) (a : Int) (hd : d < 18446744073709551616) (hs : s < 4) : PureAt Try.prog 60 [.int .u64 (d : Nat), .ptr (regC r), .ptr [.int .i64 (s : Nat)], .ptr [.int .i64 a]] (.bool ((placesA r d).getD s 0 == a)) := by
  refine PureAt.of_awp Try.func60 rfl (by kernel_rfl) (Nat.le_of_ble_eq_true rfl) fun Γ hn hl => ?_
  have hpl := placesA_len r d
  refine awp_seq ?_
  refine awp_region ?_
  refine sq rfl rfl hn rfl (q_assign rfl rfl) ?_
  refine run_nil ?_
  refine aend_then ?_
  refine awp_seq ?_
  refine d_start (W := fun b => True) fmo ?_
  refine d1q (i := 0) rfl (by kernel_rfl) (fun _ _ _ _ h => h) rfl rfl hn rfl (q_loadpA rfl rfl Try.underlying35 rfl sz35 rfl rfl seesFA) ?_
  refine d1q (i := 1) rfl (by kernel_rfl) (fun _ _ _ _ h => h) rfl rfl hn rfl (q_move rfl rfl) ?_
  refine d1q (i := 3) rfl (by kernel_rfl) (fun _ _ _ _ h => h) rfl rfl hn rfl (q_loadp rfl rfl Try.underlying3 rfl seesFA) ?_
  refine d1q (i := 5) rfl (by kernel_rfl) (fun _ _ _ _ h => h) rfl rfl hn rfl (q_loadp rfl rfl Try.underlying3 rfl seesFA) ?_
  refine d1_of_d2 ?_
  refine d2_one (i := 2) (by kernel_rfl) rfl (s_call [] (fun _ => places_ok r d v hd) rfl (guard_none rfl) rfl (nb hn rfl) (fun _ => trivial) rfl rfl (.refl _)) fun _ => ?_
  refine d2_of_d1 ?_
  refine d1q (i := 4) rfl (by kernel_rfl) (fun _ _ _ _ h => h) rfl rfl hn rfl (q_indexAgg (i := s) rfl rfl rfl Try.underlying103 Try.underlying3 rfl sz3 rfl (by omega) (mget (getD_some (by omega)))) ?_
  refine d1q (i := 6) rfl (by kernel_rfl) (fun _ _ _ _ h => h) rfl rfl hn rfl (q_eql rfl rfl rfl) ?_
  refine d1q (i := 7) rfl (by kernel_rfl) (fun _ _ _ _ h => h) rfl rfl hn rfl (q_assign rfl rfl) ?_
  refine d1_of_d2 ?_
  refine d2_done (by kernel_rfl) ?_
  refine aend_then ?_
  refine awp_ret ?_
  exact ret_1 (.inl rfl) hl rfl (.tmp rfl)
theorem Surely_eff (r : Reg) (a day : Int) : EffAt Try.prog 18 [.d (regD r), .d (.int .i64 a), .d (.int .i64 day)] [] (X := AskX r (houseB r a) day) (fun x => .d (.tup [ints (surelyR r a x.1.1), .int .i64 x.1.2])) (fun _ => []) := by
  refine EffAt.of_awp Try.func18 rfl (by kernel_rfl) rfl fun Γ hn => ?_
  refine awp_seq ?_
  refine awp_region ?_
  refine stepW (s_box 3 rfl rfl rfl (nb hn rfl) rfl rfl) fun b3 => ?_
  refine stepW (s_box 4 rfl rfl rfl (nb hn rfl) rfl rfl) fun b4 => ?_
  refine sq rfl rfl hn rfl (q_assign rfl rfl) ?_
  refine sq rfl rfl hn rfl (q_assign rfl rfl) ?_
  refine run_nil ?_
  refine aend_then ?_
  refine awp_seq ?_
  refine gh_awp (g_freeze (t := 3) 3 rfl (nb hn rfl) rfl rfl trivial) ?_
  refine gh_awp (g_freeze (t := 4) 4 rfl (nb hn rfl) rfl rfl trivial) ?_
  refine d_start (W := fun b => True) fmo ?_
  refine d1q (i := 0) rfl (by kernel_rfl) (fun _ _ _ _ h => h) rfl rfl hn rfl (q_loadpA rfl rfl Try.underlying35 rfl sz35 rfl rfl seesFA) ?_
  refine d1q (i := 1) rfl (by kernel_rfl) (fun _ _ _ _ h => h) rfl rfl hn rfl (q_loadpA rfl rfl Try.underlying35 rfl sz35 rfl rfl seesFA) ?_
  refine d1q (i := 2) rfl (by kernel_rfl) (fun _ _ _ _ h => h) rfl rfl hn rfl (q_loadp rfl rfl Try.underlying3 rfl seesFA) ?_
  refine d1q (i := 4) rfl (by kernel_rfl) (fun _ _ _ _ h => h) rfl rfl hn rfl (q_move rfl rfl) ?_
  refine d1_of_d2 ?_
  refine d2_one (i := 3) (by kernel_rfl) rfl (s_call [] (fun _ => house_ok r a) rfl (guard_none rfl) rfl (nb hn rfl) (fun _ => trivial) rfl rfl (.refl _)) fun _ => ?_
  refine d2_of_d1 ?_
  refine d1_of_d2 ?_
  refine d2_one (i := 5) (by kernel_rfl) rfl (s_callE (asked_ok r (houseB r a) day) rfl rfl rfl (nb hn rfl) (.d rfl) rfl (.refl _) trivial (fun _ => rfl) (fun _ _ => trivial)) fun ⟨⟨out, e⟩, hx⟩ => ?_
  refine d2_of_d1 ?_
  refine d1q (i := 6) rfl (by kernel_rfl) (fun _ _ _ _ h => h) rfl rfl hn rfl (q_move rfl rfl) ?_
  refine d1q (i := 7) rfl (by kernel_rfl) (fun _ _ _ _ h => h) rfl rfl hn rfl (q_extractd rfl rfl rfl) ?_
  refine d1q (i := 8) rfl (by kernel_rfl) (fun _ _ _ _ h => h) rfl rfl hn rfl (q_extractd rfl rfl rfl) ?_
  refine d1q (i := 9) rfl (by kernel_rfl) (fun _ _ _ _ h => h) rfl rfl hn rfl (q_assign rfl rfl) ?_
  refine d1q (i := 10) rfl (by kernel_rfl) (fun _ _ _ _ h => h) rfl rfl hn rfl (q_assign rfl rfl) ?_
  refine d1_of_d2 ?_
  refine d2_done (by kernel_rfl) ?_
  refine aend_then ?_
  refine awp_seq ?_
  refine awp_seq ?_
  refine awp_region ?_
  refine sq rfl rfl hn rfl (q_move rfl rfl) ?_
  refine sq rfl rfl hn rfl (q_neq rfl rfl rfl) ?_
  refine run_nil ?_
  refine aend_then ?_
  refine awp_cond rfl (fun hb0 => ?_) (fun hb0 => ?_)
  · skip
    have hee : e ≠ 0 := by simpa using hb0
    obtain rfl := ask_bad hx hee
    refine awp_seq ?_
    refine awp_region ?_
    refine sq rfl rfl hn rfl (q_move rfl rfl) ?_
    refine sq rfl rfl hn rfl (q_assign rfl rfl) ?_
    refine sq rfl rfl hn rfl (q_assign rfl rfl) ?_
    refine run_nil ?_
    refine aend_then ?_
    refine awp_ret ?_
    refine aend_then_ret ?_
    exact ret_E (.inl rfl) ⟨([], e), hx⟩ ((hands_2d rfl (.tmp rfl) (.tmp rfl)).le (.tup (.cons (.nil 1) (.refl _)))) trivial
  · skip
    have he0 : e = 0 := by simpa using hb0
    subst he0
    obtain ⟨v, his, n, rfl, hN, hev, hne⟩ := ask_good hx
    have hd64 := ev_bd v hN hev
    have ho64 : out.length ≤ 64 := hev.2.1
    have hs4 := v.s4
    refine awp_skip ?_
    refine aend_then ?_
    refine awp_seq ?_
    refine awp_region ?_
    refine sq rfl rfl hn rfl (q_assign rfl rfl) ?_
    refine run_nil ?_
    refine aend_then ?_
    refine awp_seq ?_
    refine awp_seq ?_
    refine gh_awp (g_nil (t := 10) (id := 10) 3 1 rfl (nb hn rfl)) ?_
    refine awp_region ?_
    refine sq rfl rfl hn rfl (q_fieldAddrp rfl rfl Try.underlying35 rfl sz22 rfl) ?_
    refine sq rfl rfl hn rfl (q_loadp rfl rfl Try.underlying22 rfl seesF0) ?_
    refine sq rfl rfl hn rfl (q_len rfl rfl Try.underlying22) ?_
    refine sq rfl rfl hn rfl (q_move rfl rfl) ?_
    refine run_nil ?_
    refine aend_then ?_
    refine awp_block ?_
    refine awp_loop_on (ι := {x : Nat × Value // x.1 ≤ r.start.length}) (fun x => (27, true, .d (.int .i64 (x.1.1 : Nat))) :: (10, true, .val x.1.2) :: anys [28, 29, 11, 30, 31, 32, 33, 34, 35, 36, 37]) (fun x => (10, .row x.1.2 3 1 ((((List.range x.1.1).filter fun s => out.all fun d => (placesA r d).getD s 0 == a).map Int.ofNat).map intE)) :: gones [11]) (fun x => r.start.length - x.1.1) ⟨(0, .slice none 0 0), by simp⟩ ⟨.inl rfl, .inl rfl, holdT_anys _⟩ ⟨.inl rfl, holdR_gones _⟩ ?_
    rintro ⟨⟨i, vv⟩, hi⟩
    dsimp only
    dsimp only at hi
    refine awp_seq ?_
    refine awp_region ?_
    refine sq rfl rfl hn rfl (q_lss rfl rfl rfl) ?_
    refine run_nil ?_
    refine aend_then ?_
    refine awp_seq ?_
    refine awp_cond rfl (fun hb1 => ?_) (fun hb1 => ?_)
    · try simp only [decide_eq_true_eq, decide_eq_false_iff_not, Bool.and_eq_true, Bool.or_eq_true, Bool.and_eq_false_iff, Bool.or_eq_false_iff, Bool.not_eq_true', Bool.not_eq_false', beq_iff_eq, bne_iff_ne, ne_eq, beq_eq_false_iff_ne, bne_eq_false_iff_eq, Int.not_lt, Int.not_le] at hb1
      have hlt : i < r.start.length := by simp only [List.length_map] at hb1; omega
      refine awp_skip ?_
      refine aend_then ?_
      refine awp_seq ?_
      refine awp_block ?_
      refine awp_seq ?_
      refine awp_region ?_
      refine sq rfl rfl hn rfl (q_move rfl rfl) ?_
      refine stepW (s_alloc 11 rfl rfl rfl (nb hn rfl) zr3 rfl rfl) fun b11 => ?_
      refine stepW (s_store1 rfl rfl rfl rfl rfl rfl (id := 11) rfl sz3 (Nat.le_of_ble_eq_true rfl) rfl trivial) fun _ => ?_
      refine run_nil ?_
      refine aend_then ?_
      refine awp_seq ?_
      refine gh_awp (g_freeze (t := 11) 11 rfl (nb hn rfl) rfl rfl trivial) ?_
      refine awp_region ?_
      refine sq rfl rfl hn rfl (q_move rfl rfl) ?_
      refine sq rfl rfl hn rfl (q_makeFuncd rfl rfl rfl) ?_
      refine stepW (s_call [] (fun _ => all_done out (fun d => (placesA r d).getD i 0 == a) 60 [] [.ptr (regC r), .ptr [.int .i64 (i : Nat)], .ptr [.int .i64 a]] (fun d hd => Surely1_ok r v d i a (hd64 d hd) (by omega))) rfl (guard_none rfl) rfl (nb hn rfl) (fun _ => trivial) rfl rfl (.refl _)) fun _ => ?_
      refine run_nil ?_
      refine aend_then ?_
      refine awp_cond rfl (fun hb2 => ?_) (fun hb2 => ?_)
      · skip
        refine awp_region ?_
        refine sq rfl rfl hn rfl (q_move rfl rfl) ?_
        refine sq rfl rfl hn rfl (q_loadp rfl rfl Try.underlying3 rfl seesF0) ?_
        refine stepW (s_buildSlice rfl rfl rfl (nb hn rfl) Try.underlying22 sz3 zr3 rfl rfl rfl (show _ = [.d (.int .i64 0)] from by kernel_rfl) (by kernel_rfl) rfl (fill_nat rfl) rfl rfl rfl) fun _ => ?_
        refine stepW (s_append (id := 10) rfl rfl rfl (nb hn rfl) elt22 trivial rfl rfl rfl (by have := filter_len (p := fun s => out.all fun d => (placesA r d).getD s 0 == a) (n := i); simp [chunk] at this ⊢; omega) (by have := filter_len (p := fun s => out.all fun d => (placesA r d).getD s 0 == a) (n := i); simp [chunk] at this ⊢; omega) (fun b hb => trivial)) fun v36 => ?_
        refine sq rfl rfl hn rfl (q_assign rfl rfl) ?_
        refine run_nil ?_
        refine aend_block ?_
        refine aend_then ?_
        refine awp_region ?_
        refine sq rfl rfl hn rfl (q_add rfl rfl rfl (r := ((i + 1 : Nat) : Int)) (i64w (by omega) (by omega))) ?_
        refine sq rfl rfl hn rfl (q_move rfl rfl) ?_
        refine run_nil ?_
        exact aend_round_on ⟨(i + 1, v36), by simp only; omega⟩ ⟨.inl rfl, .inl rfl, holdT_anys _⟩ ⟨.inl (congrArg (fun z => some (Res.row v36 3 1 z)) (by rw [filter_t hb2, List.map_append]; rfl)), holdR_gones _⟩ (by simp only; omega) (by repeat (first | exact kr _ | refine kc rfl ?_)) (by repeat (first | exact kr _ | refine kc rfl ?_))
      · skip
        refine awp_skip ?_
        refine aend_block ?_
        refine aend_then ?_
        refine awp_region ?_
        refine sq rfl rfl hn rfl (q_add rfl rfl rfl (r := ((i + 1 : Nat) : Int)) (i64w (by omega) (by omega))) ?_
        refine sq rfl rfl hn rfl (q_move rfl rfl) ?_
        refine run_nil ?_
        exact aend_round_on ⟨(i + 1, vv), by simp only; omega⟩ ⟨.inl rfl, .inl rfl, holdT_anys _⟩ ⟨.inl (congrArg (fun z => some (Res.row vv 3 1 z)) (by rw [filter_f hb2])), holdR_gones _⟩ (by simp only; omega) (by repeat (first | exact kr _ | refine kc rfl ?_)) (by repeat (first | exact kr _ | refine kc rfl ?_))
    · try simp only [decide_eq_true_eq, decide_eq_false_iff_not, Bool.and_eq_true, Bool.or_eq_true, Bool.and_eq_false_iff, Bool.or_eq_false_iff, Bool.not_eq_true', Bool.not_eq_false', beq_iff_eq, bne_iff_ne, ne_eq, beq_eq_false_iff_ne, bne_eq_false_iff_eq, Int.not_lt, Int.not_le] at hb1
      refine awp_exit ?_
      refine aend_then_exit ?_
      refine aend_then_exit ?_
      refine aend_block_exit ?_
      refine aend_then ?_
      refine awp_seq ?_
      refine awp_region ?_
      refine sq rfl rfl hn rfl (q_move rfl rfl) ?_
      refine sq rfl rfl hn rfl (q_assign rfl rfl) ?_
      refine sq rfl rfl hn rfl (q_assign rfl rfl) ?_
      refine run_nil ?_
      refine aend_then ?_
      refine awp_ret ?_
      refine gh_end (g_row (t := 6) (id := 10) rfl rfl) ?_
      exact ret_E (.inl rfl) ⟨(out, 0), hx⟩ ((hands_2d rfl (.tmp rfl) (.tmp rfl)).eq (by have hie : i = r.start.length := by { simp only [List.length_map] at hb1; omega }; subst hie; simp only [surelyR, show out.isEmpty = false by cases out <;> simp at hne ⊢, cond_false])) trivial
end Go.Proofs.Ytnbmmopjkkofoaa
namespace Go.Proofs.Ytnbmmopjkkofoaa
open Go.RowKit
set_option maxRecDepth 20000
set_option linter.all false
/-- The register of the first entries, without sights. -/
def prefR (r : Reg) (k : Nat) : Reg := ⟨r.houses, r.start, r.entries.take k, []⟩
theorem valid_pref {r : Reg} (v : Valid r) (k : Nat) : Valid (prefR r k) :=
  ⟨v.h1, v.h4, v.s1, v.s4, by have := v.e6; simp only [prefR, List.length_take]; omega, Nat.zero_le _, v.st, fun e he => v.en e (List.mem_of_mem_take he), fun _ h => (by cases h)⟩
def firstGo (r : Reg) : Nat → Nat → Int × Int
  | 0, _ => (0, 7)
  | k + 1, i => bif goesB (prefR r (i + 1)) 0 0 0 then firstGo r k (i + 1) else ((i : Nat), 0)
def firstR (r : Reg) : Int × Int := if checkE r ≠ 0 then (0, checkE r) else firstGo r r.entries.length 0
theorem dropF_sub {α : Type} {out : List Int} {x : α} : ∀ {k : Nat} {l : List α}, x ∈ dropF out k l → x ∈ l
  | _, [], h => h
  | k, y :: l, h => by
    unfold dropF at h
    cases hb : (out.any fun n => (k : Int) == n) <;> rw [hb] at h
    · rcases List.mem_cons.1 h with rfl | h
      · exact List.mem_cons_self
      · exact List.mem_cons_of_mem _ (dropF_sub h)
    · exact List.mem_cons_of_mem _ (dropF_sub h)
theorem valid_drop {r : Reg} (v : Valid r) (out : List Int) : Valid (dropR r out) :=
  ⟨v.h1, v.h4, v.s1, v.s4, Nat.le_trans dropF_len v.e6, Nat.le_trans dropF_len v.g4, v.st, fun e he => v.en e (dropF_sub he), fun s hs => v.si s (dropF_sub hs)⟩
/-- The first list of many, from a number on, without which there is a truth. -/
def leaveS (r : Reg) (S : Nat) : Nat → List Int → Nat → Option (List Int)
  | 0, out, _ => bif goesB (dropR r out) 0 0 0 then some out else none
  | k + 1, out, f => (List.range' f (S - f)).findSome? fun (i : Nat) => leaveS r S k (out ++ [(i : Int)]) (i + 1)
def leaveN (r : Reg) (S k : Nat) (out : List Int) (i : Nat) : Option (List Int) := (List.range' i (S - i)).findSome? fun (i : Nat) => leaveS r S k (out ++ [(i : Int)]) (i + 1)
theorem leaveN_step {r : Reg} {S k : Nat} {out : List Int} {i : Nat} (h : i < S) : leaveN r S k out i = (leaveS r S k (out ++ [(i : Int)]) (i + 1)).or (leaveN r S k out (i + 1)) := by
  unfold leaveN
  rw [show S - i = (S - (i + 1)) + 1 by omega, List.range'_succ, List.findSome?_cons]
  cases leaveS r S k (out ++ [(i : Int)]) (i + 1) <;> rfl
theorem leaveN_end {r : Reg} {S k : Nat} {out : List Int} {i : Nat} (h : S ≤ i) : leaveN r S k out i = none := by
  unfold leaveN
  rw [show S - i = 0 by omega]
  rfl
@[reducible] def leaveCa (r : Reg) (b2 b3 S : Nat) : List TV := [.val (.pointer (some ⟨b3, 0, none⟩)), .d (.ptr (regC r)), .d (.ptr [.int .i64 (S : Nat)]), .val (.pointer (some ⟨b2, 0, none⟩))]
@[reducible] def leaveRs (r : Reg) (b2 b3 S : Nat) (x : D) : List (Nat × Res) := [(1002, .box b2 125 [.fn (.func 71) [] (leaveCa r b2 b3 S)]), (1003, .box b3 22 [.d x])]
def LeaveX (r : Reg) (S k : Nat) (out : List Int) (f : Nat) : Type := {x : D // ∀ l, leaveS r S k out f = some l → x = ints l}
def LeaveOK (r : Reg) (b2 b3 S k : Nat) : Prop := ∀ (out : List Int) (f : Nat) (x : D), f ≤ 100 → out.length + k ≤ 100 →
  EffAt Try.prog 71 (.d (ints out) :: .d (.int .i64 (f : Nat)) :: .d (.int .i64 (k : Nat)) :: leaveCa r b2 b3 S) (leaveRs r b2 b3 S x) (X := LeaveX r S k out f) (fun _ => .d (.bool (leaveS r S k out f).isSome)) (fun x => leaveRs r b2 b3 S x.1)
theorem clone_ok (l : List Int) (hl : l.length ≤ 1000) : EffAt Try.prog 73 [.d (ints l)] [] (X := Value) (fun v => .val v) (fun v => [(1010, .row v 3 1 (l.map intE))]) := by
  refine EffAt.of_awp Try.func73 rfl (by kernel_rfl) rfl fun Γ hn => ?_
  refine awp_seq ?_
  refine awp_region ?_
  refine sq rfl rfl hn rfl (q_assign rfl rfl) ?_
  refine run_nil ?_
  refine aend_then ?_
  refine awp_seq ?_
  refine awp_seq ?_
  refine awp_region ?_
  refine sq rfl rfl hn rfl (q_move rfl rfl) ?_
  refine stepW (s_eqlNil rfl rfl rfl (nb hn rfl) Try.underlying22 rfl) fun ⟨nil4, hnil4⟩ => ?_
  refine run_nil ?_
  refine aend_then ?_
  refine awp_cond rfl (fun hb0 => ?_) (fun hb0 => ?_)
  · skip
    obtain rfl : l = [] := by have h0 := hnil4 hb0; simpa using h0
    refine awp_seq ?_
    refine awp_region ?_
    refine sq rfl rfl hn rfl (q_assign rfl rfl) ?_
    refine run_nil ?_
    refine aend_then ?_
    refine awp_ret ?_
    refine aend_then_ret ?_
    refine gh_end (g_nil (t := 2) (id := 1010) 3 1 rfl (nb hn rfl)) ?_
    exact ret_E (.inl rfl) (.slice none 0 0) (hands_1 rfl (.tmp rfl)) ⟨rfl, trivial⟩
  · skip
    refine awp_skip ?_
    refine aend_then ?_
    refine awp_seq ?_
    refine awp_region ?_
    refine stepW (s_buildRow 1010 rfl rfl rfl (nb hn rfl) Try.underlying22 sz3 zr3 rfl rfl rfl (show _ = [] from by kernel_rfl) (by kernel_rfl) rfl rfl rfl rfl rfl) fun v5 => ?_
    refine sq rfl rfl hn rfl (q_move rfl rfl) ?_
    refine stepW (s_append (id := 1010) rfl rfl rfl (nb hn rfl) elt22 trivial rfl rfl rfl (by simp [chunk]; omega) (by simp [chunk]; omega) (fun b hb => trivial)) fun v7 => ?_
    refine sq rfl rfl hn rfl (q_assign rfl rfl) ?_
    refine run_nil ?_
    refine aend_then ?_
    refine awp_ret ?_
    exact ret_E (.inl rfl) v7 (hands_1 rfl (.tmp rfl)) ⟨rfl, trivial⟩
theorem pref_take {α β : Type} {l : List α} {f : α → β} {i : Nat} {x : α} (h : l[i]? = some x) : (l.take i).map f ++ [f x] = (l.take (i + 1)).map f := by
  rw [List.take_add_one, h]; simp
theorem first_eff (r : Reg) : EffAt Try.prog 38 [.d (regD r)] [] (X := Unit) (fun _ => .d (.tup [.int .i64 (firstR r).1, .int .i64 (firstR r).2])) (fun _ => []) := by
  refine EffAt.of_awp Try.func38 rfl (by kernel_rfl) rfl fun Γ hn => ?_
  refine awp_seq ?_
  refine awp_region ?_
  refine stepW (s_box 1 rfl rfl rfl (nb hn rfl) rfl rfl) fun b1 => ?_
  refine sq rfl rfl hn rfl (q_assign rfl rfl) ?_
  refine sq rfl rfl hn rfl (q_assign rfl rfl) ?_
  refine run_nil ?_
  refine aend_then ?_
  refine awp_seq ?_
  refine awp_seq ?_
  refine awp_region ?_
  refine sq rfl rfl hn rfl (q_loadAd rfl rfl (id := 1) rfl Try.underlying35 rfl sz35 rfl rfl sees0) ?_
  refine stepW (s_call [] (fun _ => CheckRegister_ok _) rfl (guard_none rfl) rfl (nb hn rfl) (fun _ => trivial) rfl rfl (.refl _)) fun _ => ?_
  refine sq rfl rfl hn rfl (q_assign rfl rfl) ?_
  refine run_nil ?_
  refine aend_then ?_
  refine awp_seq ?_
  refine awp_region ?_
  refine sq rfl rfl hn rfl (q_move rfl rfl) ?_
  refine sq rfl rfl hn rfl (q_neq rfl rfl rfl) ?_
  refine run_nil ?_
  refine aend_then ?_
  refine awp_cond rfl (fun hb0 => ?_) (fun hb0 => ?_)
  · simp only [bne_iff_ne, ne_eq] at hb0
    have hc0 : checkE r ≠ 0 := hb0
    refine awp_seq ?_
    refine awp_region ?_
    refine sq rfl rfl hn rfl (q_move rfl rfl) ?_
    refine sq rfl rfl hn rfl (q_assign rfl rfl) ?_
    refine sq rfl rfl hn rfl (q_assign rfl rfl) ?_
    refine run_nil ?_
    refine aend_then ?_
    refine awp_ret ?_
    refine aend_then_ret ?_
    exact ret_E (.inl rfl) () ((hands_2d rfl (.tmp rfl) (.tmp rfl)).eq (by rw [firstR, if_pos hc0])) trivial
  · skip
    have hc0 : checkE r = 0 := by simpa using hb0
    have v := valid_of hc0
    have he6 := v.e6
    refine awp_skip ?_
    refine aend_then ?_
    refine awp_seq ?_
    refine awp_region ?_
    refine sq rfl rfl hn rfl (q_fieldAddr rfl rfl Try.underlying35 rfl sz3) ?_
    refine sq rfl rfl hn rfl (q_load rfl rfl (id := 1) rfl Try.underlying3 rfl rfl sees0) ?_
    refine sq rfl rfl hn rfl (q_fieldAddr rfl rfl Try.underlying35 rfl sz22) ?_
    refine sq rfl rfl hn rfl (q_load rfl rfl (id := 1) rfl Try.underlying22 rfl rfl sees0) ?_
    refine sq rfl rfl hn rfl (q_buildd rfl bt35 rfl rfl rfl rfl rfl) ?_
    refine stepW (s_alloc 5 rfl rfl rfl (nb hn rfl) zr35 rfl rfl) fun b5 => ?_
    refine stepW (s_store rfl rfl rfl rfl rfl rfl (id := 5) rfl sz35 rfl (Nat.le_of_ble_eq_true rfl) rfl trivial) fun _ => ?_
    refine run_nil ?_
    refine aend_then ?_
    refine awp_seq ?_
    refine awp_seq ?_
    refine gh_awp (gh_nilcell (id := 5) (k := 2) 502 95 6 rfl rfl) ?_
    refine awp_region ?_
    refine sq rfl rfl hn rfl (q_fieldAddr rfl rfl Try.underlying35 rfl sz32) ?_
    refine sq rfl rfl hn rfl (q_load rfl rfl (id := 1) rfl Try.underlying32 rfl rfl sees0) ?_
    refine sq rfl rfl hn rfl (q_len rfl rfl Try.underlying32) ?_
    refine sq rfl rfl hn rfl (q_move rfl rfl) ?_
    refine run_nil ?_
    refine aend_then ?_
    refine awp_block ?_
    refine awp_loop_on (ι := { x : Nat × Value // x.1 ≤ r.entries.length ∧ firstGo r (r.entries.length - x.1) x.1 = firstGo r r.entries.length 0 }) (fun x => (21, true, .d (.int .i64 (x.1.1 : Nat))) :: anys [22, 23, 24, 25, 7, 6, 26, 27, 28, 29, 30, 31, 32, 33, 34, 35, 36, 38]) (fun x => (5, .box b5 35 [.d (.int .i64 r.houses), .d (ints r.start), .val x.1.2, .d .nil]) :: (502, .row x.1.2 95 6 ((r.entries.take x.1.1).map entE)) :: gones [7, 1000]) (fun x => r.entries.length - x.1.1) ⟨(0, .slice none 0 0), by simp, by simp⟩ ⟨.inl rfl, holdT_anys _⟩ ⟨.inl rfl, .inl rfl, holdR_gones _⟩ ?_
    rintro ⟨⟨i, vv⟩, hi, hgo⟩
    dsimp only
    dsimp only at hi hgo
    refine awp_seq ?_
    refine awp_region ?_
    refine sq rfl rfl hn rfl (q_lss rfl rfl rfl) ?_
    refine run_nil ?_
    refine aend_then ?_
    refine awp_seq ?_
    refine awp_cond rfl (fun hb1 => ?_) (fun hb1 => ?_)
    · try simp only [decide_eq_true_eq, decide_eq_false_iff_not, Bool.and_eq_true, Bool.or_eq_true, Bool.and_eq_false_iff, Bool.or_eq_false_iff, Bool.not_eq_true', Bool.not_eq_false', beq_iff_eq, bne_iff_ne, ne_eq, beq_eq_false_iff_ne, bne_eq_false_iff_eq, Int.not_lt, Int.not_le] at hb1
      have hlt : i < r.entries.length := by simpa using hb1
      obtain ⟨x, hx⟩ := ex_get hlt
      refine awp_skip ?_
      refine aend_then ?_
      refine awp_seq ?_
      refine awp_block ?_
      refine awp_seq ?_
      refine awp_region ?_
      refine sq rfl rfl hn rfl (q_move rfl rfl) ?_
      refine sq rfl rfl hn rfl (q_index rfl rfl rfl Try.underlying32 sz95 rfl (mget hx)) ?_
      refine sq rfl rfl hn rfl (q_loadpA rfl rfl Try.underlying95 rfl sz95 rfl rfl seesF0) ?_
      refine stepW (s_alloc 7 rfl rfl rfl (nb hn rfl) zr95 rfl rfl) fun b7 => ?_
      refine sq rfl rfl hn rfl (q_assign rfl rfl) ?_
      refine stepW (s_store rfl rfl rfl rfl rfl rfl (id := 7) rfl sz95 rfl (Nat.le_of_ble_eq_true rfl) rfl trivial) fun _ => ?_
      refine run_nil ?_
      refine aend_then ?_
      refine awp_seq ?_
      refine awp_region ?_
      refine sq rfl rfl hn rfl (q_fieldAddr rfl rfl Try.underlying35 rfl sz32) ?_
      refine sq rfl rfl hn rfl (q_load rfl rfl (id := 5) rfl Try.underlying32 rfl rfl sees0) ?_
      refine sq rfl rfl hn rfl (q_loadAd rfl rfl (id := 7) rfl Try.underlying95 rfl sz95 rfl rfl sees0) ?_
      refine stepW (s_buildSlice rfl rfl rfl (nb hn rfl) Try.underlying32 sz95 zr95 rfl rfl rfl (show _ = [.d (.int .i64 0), .d (.int .i64 0), .d (.int .i64 0), .d (.int .i64 0), .d (.int .i64 0), .d (.int .i64 0)] from by kernel_rfl) (by kernel_rfl) rfl (fill_agg rfl rfl) (allD_d _) (beq_len rfl) (chunk_one rfl)) fun _ => ?_
      refine stepW (s_append (id := 502) rfl rfl rfl (nb hn rfl) elt32 trivial rfl rfl rfl (by simp; omega) (by simp; omega) (fun b hb => trivial)) fun v30 => ?_
      refine sq rfl rfl hn rfl (q_fieldAddr rfl rfl Try.underlying35 rfl sz32) ?_
      refine stepW (s_storeRow rfl rfl rfl rfl rfl (rid := 502) rfl (id := 5) rfl sz32 (Nat.le_of_ble_eq_true rfl) rfl trivial) fun _ => ?_
      refine run_nil ?_
      refine aend_then ?_
      refine awp_seq ?_
      rw [show (r.entries.take i).map entE ++ [entE x] = (r.entries.take (i + 1)).map entE from pref_take hx]
      refine awp_region ?_
      refine sq rfl rfl hn rfl (q_loadA rfl rfl (id := 5) rfl Try.underlying35 rfl sz35 rfl rfl sees0) ?_
      refine gh_run (g_aggrow (t := 32) (k := 2) (rid := 502) rfl rfl rfl rfl) ?_
      refine stepW (s_callE (work_ok (prefR r (i + 1))) rfl rfl rfl (nb hn rfl) (.d rfl) rfl (by first | exact .refl _ | (repeat (first | exact .refl _ | exact .d (.nil _) | exact .nil _ | refine .cons ?_ ?_ | refine .d ?_ | refine .agg ?_ | refine .tup ?_))) trivial (fun _ => rfl) (fun _ _ => trivial)) fun bw => ?_
      refine sq rfl rfl hn rfl (q_buildd rfl bt119 rfl rfl rfl rfl rfl) ?_
      refine stepW (s_callE (goes_ok (prefR r (i + 1)) (valid_pref v _) bw 0 0 0 _ (by omega) (Nat.zero_le _) (Nat.two_pow_pos _) (good_none _)) rfl rfl rfl (nb hn rfl) (.d rfl) rfl (.refl _) ⟨rfl, trivial⟩ (fun _ => rfl) (fun _ _ => trivial)) fun ⟨M1, hM1⟩ => ?_
      refine sq rfl rfl hn rfl (q_not rfl rfl) ?_
      refine run_nil ?_
      refine aend_then ?_
      refine awp_cond rfl (fun hb2 => ?_) (fun hb2 => ?_)
      · skip
        have hgt : goesB (prefR r (i + 1)) 0 0 0 = false := by simpa using hb2
        have hfr : firstR r = (((i : Nat) : Int), 0) := by rw [firstR, if_neg (by simp [hc0]), ← hgo, show r.entries.length - i = (r.entries.length - (i + 1)) + 1 by omega, firstGo, hgt]; rfl
        refine awp_seq ?_
        refine awp_region ?_
        refine sq rfl rfl hn rfl (q_move rfl rfl) ?_
        refine sq rfl rfl hn rfl (q_assign rfl rfl) ?_
        refine sq rfl rfl hn rfl (q_assign rfl rfl) ?_
        refine run_nil ?_
        refine aend_then ?_
        refine awp_ret ?_
        refine aend_block_ret ?_
        refine aend_then_ret ?_
        refine aend_then_ret ?_
        refine aend_block_ret ?_
        refine aend_then_ret ?_
        exact ret_E (.inl rfl) () ((hands_2d rfl (.tmp rfl) (.tmp rfl)).eq (by rw [hfr])) trivial
      · skip
        have hgt : goesB (prefR r (i + 1)) 0 0 0 = true := by simpa using hb2
        refine awp_skip ?_
        refine aend_block ?_
        refine aend_then ?_
        refine awp_region ?_
        refine sq rfl rfl hn rfl (q_add rfl rfl rfl (r := ((i + 1 : Nat) : Int)) (i64w (by omega) (by omega))) ?_
        refine sq rfl rfl hn rfl (q_move rfl rfl) ?_
        refine run_nil ?_
        exact aend_round_on ⟨(i + 1, v30), by simp only; omega, by simp only; rw [← hgo, show r.entries.length - i = (r.entries.length - (i + 1)) + 1 by omega, firstGo, hgt]; rfl⟩ ⟨.inl rfl, holdT_anys _⟩ ⟨.inl rfl, .inl rfl, holdR_gones _⟩ (by simp only; omega) (by repeat (first | exact kr _ | refine kc rfl ?_)) (by repeat (first | exact kr _ | refine kc rfl ?_))
    · try simp only [decide_eq_true_eq, decide_eq_false_iff_not, Bool.and_eq_true, Bool.or_eq_true, Bool.and_eq_false_iff, Bool.or_eq_false_iff, Bool.not_eq_true', Bool.not_eq_false', beq_iff_eq, bne_iff_ne, ne_eq, beq_eq_false_iff_ne, bne_eq_false_iff_eq, Int.not_lt, Int.not_le] at hb1
      have hie : i = r.entries.length := by simp only [List.length_map] at hb1; omega
      have hfr : firstR r = (0, 7) := by rw [firstR, if_neg (by simp [hc0]), ← hgo, hie, Nat.sub_self]; rfl
      refine awp_exit ?_
      refine aend_then_exit ?_
      refine aend_then_exit ?_
      refine aend_block_exit ?_
      refine aend_then ?_
      refine awp_seq ?_
      refine awp_region ?_
      refine sq rfl rfl hn rfl (q_assign rfl rfl) ?_
      refine sq rfl rfl hn rfl (q_assign rfl rfl) ?_
      refine run_nil ?_
      refine aend_then ?_
      refine awp_ret ?_
      exact ret_E (.inl rfl) () ((hands_2d rfl (.tmp rfl) (.tmp rfl)).eq (by rw [hfr])) trivial
theorem leave_step (r : Reg) (v : Valid r) (b2 b3 S k : Nat) (hS : S ≤ 50) (ih : ∀ k1, k = k1 + 1 → LeaveOK r b2 b3 S k1) (out : List Int) (f : Nat) (x : D) (hf : f ≤ 100) (hk : out.length + k ≤ 100) : EffAt Try.prog 71 (.d (ints out) :: .d (.int .i64 (f : Nat)) :: .d (.int .i64 (k : Nat)) :: leaveCa r b2 b3 S) (leaveRs r b2 b3 S x) (X := LeaveX r S k out f) (fun _ => .d (.bool (leaveS r S k out f).isSome)) (fun x => leaveRs r b2 b3 S x.1) := by
  have he6 := v.e6
  have hg4 := v.g4
  refine EffAt.of_awp Try.func71 rfl (by kernel_rfl) rfl fun Γ hn => ?_
  refine awp_seq ?_
  refine awp_region ?_
  refine sq rfl rfl hn rfl (q_assign rfl rfl) ?_
  refine run_nil ?_
  refine aend_then ?_
  refine awp_seq ?_
  refine awp_seq ?_
  refine awp_region ?_
  refine sq rfl rfl hn rfl (q_move rfl rfl) ?_
  refine sq rfl rfl hn rfl (q_eql rfl rfl rfl) ?_
  refine run_nil ?_
  refine aend_then ?_
  refine awp_cond rfl (fun hb0 => ?_) (fun hb0 => ?_)
  · try simp only [decide_eq_true_eq, decide_eq_false_iff_not, Bool.and_eq_true, Bool.or_eq_true, Bool.and_eq_false_iff, Bool.or_eq_false_iff, Bool.not_eq_true', Bool.not_eq_false', beq_iff_eq, bne_iff_ne, ne_eq, beq_eq_false_iff_ne, bne_eq_false_iff_eq, Int.not_lt, Int.not_le] at hb0
    obtain rfl : k = 0 := by omega
    refine awp_seq ?_
    refine awp_region ?_
    refine sq rfl rfl hn rfl (q_move rfl rfl) ?_
    refine stepW (s_store1 rfl rfl rfl rfl rfl rfl (id := 1003) rfl sz22 (Nat.le_of_ble_eq_true rfl) rfl trivial) fun _ => ?_
    refine run_nil ?_
    refine aend_then ?_
    refine awp_seq ?_
    refine awp_region ?_
    refine sq rfl rfl hn rfl (q_loadpA rfl rfl Try.underlying35 rfl sz35 rfl rfl seesF0) ?_
    refine sq rfl rfl hn rfl (q_move rfl rfl) ?_
    refine stepW (s_call [] (fun _ => without_ok r out (by omega) (by omega)) rfl (guard_none rfl) rfl (nb hn rfl) (fun _ => trivial) rfl rfl (.refl _)) fun _ => ?_
    refine stepW (s_callE (work_ok (dropR r out)) rfl rfl rfl (nb hn rfl) (.d rfl) rfl (.refl _) trivial (fun _ => rfl) (fun _ _ => trivial)) fun bw => ?_
    refine sq rfl rfl hn rfl (q_buildd rfl bt119 rfl rfl rfl rfl rfl) ?_
    refine stepW (s_callE (goes_ok (dropR r out) (valid_drop v out) bw 0 0 0 _ (by omega) (Nat.zero_le _) (Nat.two_pow_pos _) (good_none _)) rfl rfl rfl (nb hn rfl) (.d rfl) rfl (.refl _) ⟨rfl, trivial⟩ (fun _ => rfl) (fun _ _ => trivial)) fun ⟨M1, hM1⟩ => ?_
    refine sq rfl rfl hn rfl (q_assign rfl rfl) ?_
    refine run_nil ?_
    refine aend_then ?_
    refine awp_ret ?_
    refine aend_then_ret ?_
    exact ret_E (.inl rfl) ⟨ints out, fun l h => by cases hg : goesB (dropR r out) 0 0 0 <;> simp [leaveS, hg] at h; rw [h]⟩ ((hands_1 rfl (.tmp rfl)).eq (by cases hg : goesB (dropR r out) 0 0 0 <;> simp [leaveS, hg])) ⟨rfl, rfl, trivial⟩
  · try simp only [decide_eq_true_eq, decide_eq_false_iff_not, Bool.and_eq_true, Bool.or_eq_true, Bool.and_eq_false_iff, Bool.or_eq_false_iff, Bool.not_eq_true', Bool.not_eq_false', beq_iff_eq, bne_iff_ne, ne_eq, beq_eq_false_iff_ne, bne_eq_false_iff_eq, Int.not_lt, Int.not_le] at hb0
    obtain ⟨k, rfl⟩ : ∃ k1, k = k1 + 1 := ⟨k - 1, by omega⟩
    replace ih := ih k rfl
    refine awp_skip ?_
    refine aend_then ?_
    refine awp_seq ?_
    refine awp_seq ?_
    refine awp_region ?_
    refine sq rfl rfl hn rfl (q_move rfl rfl) ?_
    refine sq rfl rfl hn rfl (q_assign rfl rfl) ?_
    refine run_nil ?_
    refine aend_then ?_
    refine awp_block ?_
    refine awp_loop_on (ι := {x : Nat × D // f ≤ x.1 ∧ x.1 ≤ 150 ∧ leaveN r S k out f = leaveN r S k out x.1}) (fun x => (11, true, .d (.int .i64 (x.1.1 : Nat))) :: anys [22, 23, 24, 27, 28, 29, 30, 31, 32, 33, 34, 35, 36, 37, 25, 26]) (fun x => (1002, .box b2 125 [.fn (.func 71) [] (leaveCa r b2 b3 S)]) :: (1003, .box b3 22 [.d x.1.2]) :: gones [1010]) (fun x => S - x.1.1) ⟨(f, x), by simp, by simp only; omega, rfl⟩ ⟨.inl rfl, holdT_anys _⟩ ⟨.inl rfl, .inl rfl, holdR_gones _⟩ ?_
    rintro ⟨⟨i, x1⟩, hfi, hi, hle⟩
    dsimp only
    dsimp only at hfi hi hle
    refine awp_seq ?_
    refine awp_seq ?_
    refine awp_region ?_
    refine sq rfl rfl hn rfl (q_move rfl rfl) ?_
    refine sq rfl rfl hn rfl (q_loadp rfl rfl Try.underlying3 rfl seesF0) ?_
    refine sq rfl rfl hn rfl (q_lss rfl rfl rfl) ?_
    refine run_nil ?_
    refine aend_then ?_
    refine awp_cond rfl (fun hb1 => ?_) (fun hb1 => ?_)
    · try simp only [decide_eq_true_eq, decide_eq_false_iff_not, Bool.and_eq_true, Bool.or_eq_true, Bool.and_eq_false_iff, Bool.or_eq_false_iff, Bool.not_eq_true', Bool.not_eq_false', beq_iff_eq, bne_iff_ne, ne_eq, beq_eq_false_iff_ne, bne_eq_false_iff_eq, Int.not_lt, Int.not_le] at hb1
      have hlt : i < S := by omega
      have ih2 := ih (out ++ [(i : Int)]) (i + 1) x1 (by omega) (by simp; omega)
      rw [show ints (out ++ [(i : Int)]) = .slice 1 (out.map intE ++ [[.int .i64 (i : Int)]]) by simp] at ih2
      refine awp_skip ?_
      refine aend_then ?_
      refine awp_seq ?_
      refine awp_block ?_
      refine awp_seq ?_
      refine awp_join_on (e := .normal) (ι := LeaveX r S k (out ++ [(i : Int)]) (i + 1)) (fun x => (37, true, .d (.bool (leaveS r S k (out ++ [(i : Int)]) (i + 1)).isSome)) :: anys [27, 28, 29, 30, 31, 32, 33, 34, 35, 36]) (fun x => (1002, .box b2 125 [.fn (.func 71) [] (leaveCa r b2 b3 S)]) :: (1003, .box b3 22 [.d x.1]) :: gones [1010]) (fun hJ2 => ?_) ?_
      · skip
        refine d_start (W := fun b => True) fmo ?_
        refine d1q (i := 1) rfl (by kernel_rfl) (fun _ _ _ _ h => h) rfl rfl hn rfl (q_move rfl rfl) ?_
        refine d1q (i := 3) rfl (by kernel_rfl) (fun _ _ _ _ h => h) rfl rfl hn rfl (q_move rfl rfl) ?_
        refine d1q (i := 6) rfl (by kernel_rfl) (fun _ _ _ _ h => h) rfl rfl hn rfl (q_move rfl rfl) ?_
        refine d1q (i := 7) rfl (by kernel_rfl) (fun _ _ _ _ h => h) rfl rfl hn rfl (q_add rfl rfl rfl (r := ((i + 1 : Nat) : Int)) (i64w (by omega) rfl)) ?_
        refine d1q (i := 8) rfl (by kernel_rfl) (fun _ _ _ _ h => h) rfl rfl hn rfl (q_move rfl rfl) ?_
        refine d1q (i := 9) rfl (by kernel_rfl) (fun _ _ _ _ h => h) rfl rfl hn rfl (q_sub rfl rfl rfl (r := (k : Nat)) (i64w (by omega) (by omega))) ?_
        refine d1_of_d2 ?_
        refine d2_all 0 [2, 4] (by kernel_rfl) ⟨?_, ?_, ?_, trivial⟩
        · skip
          refine br rfl (quiet_wg _ [] (guard_none rfl) rfl (nb hn rfl) (fun _ => trivial) (fun _ => q_load rfl rfl (id := 1002) rfl Try.underlying125 rfl rfl sees0)) fun _ => ?_
          refine d2_of_d1 ?_
          refine d1_of_d2 ?_
          refine d2_all 2 [4] (by kernel_rfl) ⟨?_, ?_, trivial⟩
          · skip
            refine br rfl (s_callE (clone_ok out (by omega)) rfl rfl rfl (nb hn rfl) (.d rfl) rfl (.refl _) trivial (fun _ => rfl) (fun _ _ => trivial)) fun vc => ?_
            refine d2_of_d1 ?_
            refine d1_of_d2 ?_
            refine d2_one (i := 4) (by kernel_rfl) rfl (s_buildSlice rfl rfl rfl (nb hn rfl) Try.underlying22 sz3 zr3 rfl rfl rfl (show _ = [.d (.int .i64 0)] from by kernel_rfl) (by kernel_rfl) rfl rfl rfl rfl rfl) fun _ => ?_
            refine d2_of_d1 ?_
            refine d1_of_d2 ?_
            refine d2_one (i := 5) (by kernel_rfl) rfl (s_append (id := 1010) rfl rfl rfl (nb hn rfl) elt22 trivial rfl rfl rfl (by simp [chunk]; omega) (by simp [chunk]; omega) (fun b hb => trivial)) fun v32 => ?_
            refine d2_of_d1 ?_
            refine d1_of_d2 ?_
            refine gh_d2 (g_row (t := 32) (id := 1010) rfl rfl) ?_
            refine d2_one (i := 10) (by kernel_rfl) rfl (s_callE (ih2) rfl rfl rfl (nb hn rfl) (.t rfl) rfl (.refl _) ⟨rfl, rfl, trivial⟩ (fun _ => rfl) (fun _ _ => trivial)) fun ⟨x2, hx2⟩ => ?_
            refine d2_of_d1 ?_
            refine d1_of_d2 ?_
            refine d2_done (by kernel_rfl) ?_
            exact aend_join_on hJ2 ⟨x2, hx2⟩ ⟨.inl rfl, holdT_anys _⟩ ⟨.inl rfl, .inl rfl, holdR_gones _⟩ (by repeat (first | exact kr _ | refine kc rfl ?_)) (by repeat (first | exact kr _ | refine kc rfl ?_))
          · skip
            refine br rfl (s_buildSlice rfl rfl rfl (nb hn rfl) Try.underlying22 sz3 zr3 rfl rfl rfl (show _ = [.d (.int .i64 0)] from by kernel_rfl) (by kernel_rfl) rfl rfl rfl rfl rfl) fun _ => ?_
            refine d2_of_d1 ?_
            refine d1_of_d2 ?_
            refine d2_one (i := 2) (by kernel_rfl) rfl (s_callE (clone_ok out (by omega)) rfl rfl rfl (nb hn rfl) (.d rfl) rfl (.refl _) trivial (fun _ => rfl) (fun _ _ => trivial)) fun vc => ?_
            refine d2_of_d1 ?_
            refine d1_of_d2 ?_
            refine d2_one (i := 5) (by kernel_rfl) rfl (s_append (id := 1010) rfl rfl rfl (nb hn rfl) elt22 trivial rfl rfl rfl (by simp [chunk]; omega) (by simp [chunk]; omega) (fun b hb => trivial)) fun v32 => ?_
            refine d2_of_d1 ?_
            refine d1_of_d2 ?_
            refine gh_d2 (g_row (t := 32) (id := 1010) rfl rfl) ?_
            refine d2_one (i := 10) (by kernel_rfl) rfl (s_callE (ih2) rfl rfl rfl (nb hn rfl) (.t rfl) rfl (.refl _) ⟨rfl, rfl, trivial⟩ (fun _ => rfl) (fun _ _ => trivial)) fun ⟨x2, hx2⟩ => ?_
            refine d2_of_d1 ?_
            refine d1_of_d2 ?_
            refine d2_done (by kernel_rfl) ?_
            exact aend_join_on hJ2 ⟨x2, hx2⟩ ⟨.inl rfl, holdT_anys _⟩ ⟨.inl rfl, .inl rfl, holdR_gones _⟩ (by repeat (first | exact kr _ | refine kc rfl ?_)) (by repeat (first | exact kr _ | refine kc rfl ?_))
        · skip
          refine br rfl (s_callE (clone_ok out (by omega)) rfl rfl rfl (nb hn rfl) (.d rfl) rfl (.refl _) trivial (fun _ => rfl) (fun _ _ => trivial)) fun vc => ?_
          refine d2_of_d1 ?_
          refine d1_of_d2 ?_
          refine d2_all 0 [4] (by kernel_rfl) ⟨?_, ?_, trivial⟩
          · skip
            refine br rfl (quiet_wg _ [] (guard_none rfl) rfl (nb hn rfl) (fun _ => trivial) (fun _ => q_load rfl rfl (id := 1002) rfl Try.underlying125 rfl rfl sees0)) fun _ => ?_
            refine d2_of_d1 ?_
            refine d1_of_d2 ?_
            refine d2_one (i := 4) (by kernel_rfl) rfl (s_buildSlice rfl rfl rfl (nb hn rfl) Try.underlying22 sz3 zr3 rfl rfl rfl (show _ = [.d (.int .i64 0)] from by kernel_rfl) (by kernel_rfl) rfl rfl rfl rfl rfl) fun _ => ?_
            refine d2_of_d1 ?_
            refine d1_of_d2 ?_
            refine d2_one (i := 5) (by kernel_rfl) rfl (s_append (id := 1010) rfl rfl rfl (nb hn rfl) elt22 trivial rfl rfl rfl (by simp [chunk]; omega) (by simp [chunk]; omega) (fun b hb => trivial)) fun v32 => ?_
            refine d2_of_d1 ?_
            refine d1_of_d2 ?_
            refine gh_d2 (g_row (t := 32) (id := 1010) rfl rfl) ?_
            refine d2_one (i := 10) (by kernel_rfl) rfl (s_callE (ih2) rfl rfl rfl (nb hn rfl) (.t rfl) rfl (.refl _) ⟨rfl, rfl, trivial⟩ (fun _ => rfl) (fun _ _ => trivial)) fun ⟨x2, hx2⟩ => ?_
            refine d2_of_d1 ?_
            refine d1_of_d2 ?_
            refine d2_done (by kernel_rfl) ?_
            exact aend_join_on hJ2 ⟨x2, hx2⟩ ⟨.inl rfl, holdT_anys _⟩ ⟨.inl rfl, .inl rfl, holdR_gones _⟩ (by repeat (first | exact kr _ | refine kc rfl ?_)) (by repeat (first | exact kr _ | refine kc rfl ?_))
          · skip
            refine br rfl (s_buildSlice rfl rfl rfl (nb hn rfl) Try.underlying22 sz3 zr3 rfl rfl rfl (show _ = [.d (.int .i64 0)] from by kernel_rfl) (by kernel_rfl) rfl rfl rfl rfl rfl) fun _ => ?_
            refine d2_of_d1 ?_
            refine d1_of_d2 ?_
            refine d2_all 0 [5] (by kernel_rfl) ⟨?_, ?_, trivial⟩
            · skip
              refine br rfl (quiet_wg _ [] (guard_none rfl) rfl (nb hn rfl) (fun _ => trivial) (fun _ => q_load rfl rfl (id := 1002) rfl Try.underlying125 rfl rfl sees0)) fun _ => ?_
              refine d2_of_d1 ?_
              refine d1_of_d2 ?_
              refine d2_one (i := 5) (by kernel_rfl) rfl (s_append (id := 1010) rfl rfl rfl (nb hn rfl) elt22 trivial rfl rfl rfl (by simp [chunk]; omega) (by simp [chunk]; omega) (fun b hb => trivial)) fun v32 => ?_
              refine d2_of_d1 ?_
              refine d1_of_d2 ?_
              refine gh_d2 (g_row (t := 32) (id := 1010) rfl rfl) ?_
              refine d2_one (i := 10) (by kernel_rfl) rfl (s_callE (ih2) rfl rfl rfl (nb hn rfl) (.t rfl) rfl (.refl _) ⟨rfl, rfl, trivial⟩ (fun _ => rfl) (fun _ _ => trivial)) fun ⟨x2, hx2⟩ => ?_
              refine d2_of_d1 ?_
              refine d1_of_d2 ?_
              refine d2_done (by kernel_rfl) ?_
              exact aend_join_on hJ2 ⟨x2, hx2⟩ ⟨.inl rfl, holdT_anys _⟩ ⟨.inl rfl, .inl rfl, holdR_gones _⟩ (by repeat (first | exact kr _ | refine kc rfl ?_)) (by repeat (first | exact kr _ | refine kc rfl ?_))
            · skip
              refine br rfl (s_append (id := 1010) rfl rfl rfl (nb hn rfl) elt22 trivial rfl rfl rfl (by simp [chunk]; omega) (by simp [chunk]; omega) (fun b hb => trivial)) fun v32 => ?_
              refine d2_of_d1 ?_
              refine d1_of_d2 ?_
              refine d2_one (i := 0) (by kernel_rfl) rfl (quiet_wg _ [] (guard_none rfl) rfl (nb hn rfl) (fun _ => trivial) (fun _ => q_load rfl rfl (id := 1002) rfl Try.underlying125 rfl rfl sees0)) fun _ => ?_
              refine d2_of_d1 ?_
              refine d1_of_d2 ?_
              refine gh_d2 (g_row (t := 32) (id := 1010) rfl rfl) ?_
              refine d2_one (i := 10) (by kernel_rfl) rfl (s_callE (ih2) rfl rfl rfl (nb hn rfl) (.t rfl) rfl (.refl _) ⟨rfl, rfl, trivial⟩ (fun _ => rfl) (fun _ _ => trivial)) fun ⟨x2, hx2⟩ => ?_
              refine d2_of_d1 ?_
              refine d1_of_d2 ?_
              refine d2_done (by kernel_rfl) ?_
              exact aend_join_on hJ2 ⟨x2, hx2⟩ ⟨.inl rfl, holdT_anys _⟩ ⟨.inl rfl, .inl rfl, holdR_gones _⟩ (by repeat (first | exact kr _ | refine kc rfl ?_)) (by repeat (first | exact kr _ | refine kc rfl ?_))
        · skip
          refine br rfl (s_buildSlice rfl rfl rfl (nb hn rfl) Try.underlying22 sz3 zr3 rfl rfl rfl (show _ = [.d (.int .i64 0)] from by kernel_rfl) (by kernel_rfl) rfl rfl rfl rfl rfl) fun _ => ?_
          refine d2_of_d1 ?_
          refine d1_of_d2 ?_
          refine d2_all 0 [2] (by kernel_rfl) ⟨?_, ?_, trivial⟩
          · skip
            refine br rfl (quiet_wg _ [] (guard_none rfl) rfl (nb hn rfl) (fun _ => trivial) (fun _ => q_load rfl rfl (id := 1002) rfl Try.underlying125 rfl rfl sees0)) fun _ => ?_
            refine d2_of_d1 ?_
            refine d1_of_d2 ?_
            refine d2_one (i := 2) (by kernel_rfl) rfl (s_callE (clone_ok out (by omega)) rfl rfl rfl (nb hn rfl) (.d rfl) rfl (.refl _) trivial (fun _ => rfl) (fun _ _ => trivial)) fun vc => ?_
            refine d2_of_d1 ?_
            refine d1_of_d2 ?_
            refine d2_one (i := 5) (by kernel_rfl) rfl (s_append (id := 1010) rfl rfl rfl (nb hn rfl) elt22 trivial rfl rfl rfl (by simp [chunk]; omega) (by simp [chunk]; omega) (fun b hb => trivial)) fun v32 => ?_
            refine d2_of_d1 ?_
            refine d1_of_d2 ?_
            refine gh_d2 (g_row (t := 32) (id := 1010) rfl rfl) ?_
            refine d2_one (i := 10) (by kernel_rfl) rfl (s_callE (ih2) rfl rfl rfl (nb hn rfl) (.t rfl) rfl (.refl _) ⟨rfl, rfl, trivial⟩ (fun _ => rfl) (fun _ _ => trivial)) fun ⟨x2, hx2⟩ => ?_
            refine d2_of_d1 ?_
            refine d1_of_d2 ?_
            refine d2_done (by kernel_rfl) ?_
            exact aend_join_on hJ2 ⟨x2, hx2⟩ ⟨.inl rfl, holdT_anys _⟩ ⟨.inl rfl, .inl rfl, holdR_gones _⟩ (by repeat (first | exact kr _ | refine kc rfl ?_)) (by repeat (first | exact kr _ | refine kc rfl ?_))
          · skip
            refine br rfl (s_callE (clone_ok out (by omega)) rfl rfl rfl (nb hn rfl) (.d rfl) rfl (.refl _) trivial (fun _ => rfl) (fun _ _ => trivial)) fun vc => ?_
            refine d2_of_d1 ?_
            refine d1_of_d2 ?_
            refine d2_all 0 [5] (by kernel_rfl) ⟨?_, ?_, trivial⟩
            · skip
              refine br rfl (quiet_wg _ [] (guard_none rfl) rfl (nb hn rfl) (fun _ => trivial) (fun _ => q_load rfl rfl (id := 1002) rfl Try.underlying125 rfl rfl sees0)) fun _ => ?_
              refine d2_of_d1 ?_
              refine d1_of_d2 ?_
              refine d2_one (i := 5) (by kernel_rfl) rfl (s_append (id := 1010) rfl rfl rfl (nb hn rfl) elt22 trivial rfl rfl rfl (by simp [chunk]; omega) (by simp [chunk]; omega) (fun b hb => trivial)) fun v32 => ?_
              refine d2_of_d1 ?_
              refine d1_of_d2 ?_
              refine gh_d2 (g_row (t := 32) (id := 1010) rfl rfl) ?_
              refine d2_one (i := 10) (by kernel_rfl) rfl (s_callE (ih2) rfl rfl rfl (nb hn rfl) (.t rfl) rfl (.refl _) ⟨rfl, rfl, trivial⟩ (fun _ => rfl) (fun _ _ => trivial)) fun ⟨x2, hx2⟩ => ?_
              refine d2_of_d1 ?_
              refine d1_of_d2 ?_
              refine d2_done (by kernel_rfl) ?_
              exact aend_join_on hJ2 ⟨x2, hx2⟩ ⟨.inl rfl, holdT_anys _⟩ ⟨.inl rfl, .inl rfl, holdR_gones _⟩ (by repeat (first | exact kr _ | refine kc rfl ?_)) (by repeat (first | exact kr _ | refine kc rfl ?_))
            · skip
              refine br rfl (s_append (id := 1010) rfl rfl rfl (nb hn rfl) elt22 trivial rfl rfl rfl (by simp [chunk]; omega) (by simp [chunk]; omega) (fun b hb => trivial)) fun v32 => ?_
              refine d2_of_d1 ?_
              refine d1_of_d2 ?_
              refine d2_one (i := 0) (by kernel_rfl) rfl (quiet_wg _ [] (guard_none rfl) rfl (nb hn rfl) (fun _ => trivial) (fun _ => q_load rfl rfl (id := 1002) rfl Try.underlying125 rfl rfl sees0)) fun _ => ?_
              refine d2_of_d1 ?_
              refine d1_of_d2 ?_
              refine gh_d2 (g_row (t := 32) (id := 1010) rfl rfl) ?_
              refine d2_one (i := 10) (by kernel_rfl) rfl (s_callE (ih2) rfl rfl rfl (nb hn rfl) (.t rfl) rfl (.refl _) ⟨rfl, rfl, trivial⟩ (fun _ => rfl) (fun _ _ => trivial)) fun ⟨x2, hx2⟩ => ?_
              refine d2_of_d1 ?_
              refine d1_of_d2 ?_
              refine d2_done (by kernel_rfl) ?_
              exact aend_join_on hJ2 ⟨x2, hx2⟩ ⟨.inl rfl, holdT_anys _⟩ ⟨.inl rfl, .inl rfl, holdR_gones _⟩ (by repeat (first | exact kr _ | refine kc rfl ?_)) (by repeat (first | exact kr _ | refine kc rfl ?_))
      · rintro ⟨x2, hx2⟩
        dsimp only
        refine aend_then ?_
        refine awp_cond rfl (fun hb3 => ?_) (fun hb3 => ?_)
        · skip
          obtain ⟨l2, hl2⟩ := Option.isSome_iff_exists.1 hb3
          have hyes : leaveS r S (k + 1) out f = some l2 := by show leaveN r S k out f = some l2; rw [hle, leaveN_step hlt, hl2]; rfl
          refine awp_seq ?_
          refine awp_region ?_
          refine sq rfl rfl hn rfl (q_assign rfl rfl) ?_
          refine run_nil ?_
          refine aend_then ?_
          refine awp_ret ?_
          refine aend_block_ret ?_
          refine aend_then_ret ?_
          refine aend_then_ret ?_
          refine aend_block_ret ?_
          refine aend_then_ret ?_
          exact ret_E (.inl rfl) ⟨x2, fun l h => by rw [hyes] at h; cases h; exact hx2 _ hl2⟩ ((hands_1 rfl (.tmp rfl)).eq (by rw [hyes]; rfl)) ⟨rfl, rfl, trivial⟩
        · skip
          have hno : leaveS r S k (out ++ [(i : Int)]) (i + 1) = none := by cases h : leaveS r S k (out ++ [(i : Int)]) (i + 1) <;> simp_all
          refine awp_skip ?_
          refine aend_block ?_
          refine aend_then ?_
          refine awp_region ?_
          refine sq rfl rfl hn rfl (q_move rfl rfl) ?_
          refine sq rfl rfl hn rfl (q_add rfl rfl rfl (r := ((i + 1 : Nat) : Int)) (i64w (by omega) rfl)) ?_
          refine sq rfl rfl hn rfl (q_assign rfl rfl) ?_
          refine run_nil ?_
          exact aend_round_on ⟨(i + 1, x2), by simp only; omega, by simp only; omega, by simp only; rw [hle, leaveN_step hlt, hno]; rfl⟩ ⟨.inl rfl, holdT_anys _⟩ ⟨.inl rfl, .inl rfl, holdR_gones _⟩ (by simp only; omega) (by repeat (first | exact kr _ | refine kc rfl ?_)) (by repeat (first | exact kr _ | refine kc rfl ?_))
    · try simp only [decide_eq_true_eq, decide_eq_false_iff_not, Bool.and_eq_true, Bool.or_eq_true, Bool.and_eq_false_iff, Bool.or_eq_false_iff, Bool.not_eq_true', Bool.not_eq_false', beq_iff_eq, bne_iff_ne, ne_eq, beq_eq_false_iff_ne, bne_eq_false_iff_eq, Int.not_lt, Int.not_le] at hb1
      have hno : leaveS r S (k + 1) out f = none := by show leaveN r S k out f = none; rw [hle]; exact leaveN_end (by omega)
      refine awp_exit ?_
      refine aend_then_exit ?_
      refine aend_then_exit ?_
      refine aend_block_exit ?_
      refine aend_then ?_
      refine awp_seq ?_
      refine awp_region ?_
      refine sq rfl rfl hn rfl (q_assign rfl rfl) ?_
      refine run_nil ?_
      refine aend_then ?_
      refine awp_ret ?_
      exact ret_E (.inl rfl) ⟨x1, fun l h => by rw [hno] at h; cases h⟩ ((hands_1 rfl (.tmp rfl)).eq (by rw [hno]; rfl)) ⟨rfl, rfl, trivial⟩
end Go.Proofs.Ytnbmmopjkkofoaa
