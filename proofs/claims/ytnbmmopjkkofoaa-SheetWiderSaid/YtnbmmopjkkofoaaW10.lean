/-
  Walks by the rules of Base, printed by gen.py: what is asked of the evenings. No condition: no statement of the seat is proved here.
-/
import Derived.Test.YtnbmmopjkkofoaaW9
import Derived.Test.YtnbmmopjkkofoaaSorts
namespace Go.Proofs.Ytnbmmopjkkofoaa
open Go.RowKit
set_option maxRecDepth 20000
set_option linter.all false

theorem ask_bad {r : Reg} {is : Bool} {N e : Int} {out : List Nat} (h : AskP r is N out e) (he : e ≠ 0) : out = [] := by
  rcases h with ⟨_, h, _⟩ | ⟨_, _, h, _⟩ | ⟨_, _, n, _, _, _, h⟩
  · exact h
  · exact h
  · cases out with
    | nil => rfl
    | cons d l => exact (he h).elim
theorem ask_good {r : Reg} {is : Bool} {N : Int} {out : List Nat} (h : AskP r is N out 0) : Valid r ∧ is = true ∧ ∃ n : Nat, N = n ∧ n ≤ 9 ∧ EvOK r n out ∧ out ≠ [] := by
  rcases h with ⟨h0, _, h⟩ | ⟨_, _, _, h⟩ | ⟨h0, hi, n, hN, h9, hev, h⟩
  · exact (h0 h.symm).elim
  · cases h
  · refine ⟨valid_of h0, hi, n, hN, h9, hev, fun e => ?_⟩
    subst e
    cases h
def holdL (r : Reg) (out : List Nat) (s : Nat) : List Int := out.map fun d => (placesA r d).getD s 0
def holdR (r : Reg) (s : Int) (out : List Nat) : List Int := compL (sortL (holdL r out s.toNat))
theorem hold_nil (r : Reg) (s : Int) : holdR r s [] = [] := by
  unfold holdR holdL compL sortL
  rw [List.map_nil, List.mergeSort_nil]
  rfl
theorem sheetB_bd {r : Reg} {s : Int} (v : Valid r) (h : sheetB r s = true) : 0 ≤ s ∧ s < r.start.length ∧ s.toNat < 4 := by
  have := v.s4
  simp [sheetB] at h
  omega
theorem vec_take {l : List Int} {i : Nat} {x : Int} (h : l[i]? = some x) : (l.take i).map (fun n => TV.d (.int .i64 n)) ++ ([[D.int .i64 x]].flatten.map TV.d) = (l.take (i + 1)).map fun n => TV.d (.int .i64 n) := by
  rw [List.take_add_one, h]; simp
theorem comp_split (l : List Int) (k : Nat) (rest : List TV) : ((compL l ++ List.replicate k 0).map (fun n => TV.d (.int .i64 n)) ++ rest) = ((compL l).map intD).map .d ++ ((List.replicate k 0).map (fun n => TV.d (.int .i64 n)) ++ rest) := by
  simp [intD]
def heldR (r : Reg) (a : Int) (out : List Nat) : Int × Int := match out with
  | [] => (0, 0)
  | d0 :: l => (minL (heldN r d0 a : Nat) (l.map fun d => (heldN r d a : Int)), maxL (heldN r d0 a : Nat) (l.map fun d => (heldN r d a : Int)))
def owedR (r : Reg) (a c : Int) (out : List Nat) : Int × Int := match out with
  | [] => (0, 0)
  | d0 :: l => (minL (openN r d0 a c) (l.map fun d => openN r d a c), maxL (openN r d0 a c) (l.map fun d => openN r d a c))
theorem heldN_bd (r : Reg) (v : Valid r) (d : Nat) (a : Int) : -1000 ≤ (heldN r d a : Int) ∧ (heldN r d a : Int) ≤ 1000 := by
  have h1 : heldN r d a ≤ ((placesA r d).take r.start.length).length := List.countP_le_length
  have h2 := v.s4
  rw [List.length_take] at h1
  omega
theorem openF_bd {d : Nat} {a c : Int} : ∀ {k : Nat} {es : List Ent5} {x m : Int}, -m ≤ x → x ≤ m → -(m + es.length) ≤ openF d a c k es x ∧ openF d a c k es x ≤ m + es.length
  | k, [], x, m, h1, h2 => by simp [openF]; omega
  | k, e :: es, x, m, h1, h2 => by
    have key : ∀ y, -(m + 1) ≤ y → y ≤ m + 1 → -(m + (e :: es).length) ≤ openF d a c (k + 1) es y ∧ openF d a c (k + 1) es y ≤ m + (e :: es).length := fun y k1 k2 => by
      have := openF_bd (d := d) (a := a) (c := c) (k := k + 1) (es := es) k1 k2
      simp only [List.length_cons, Int.natCast_add, Int.natCast_one]
      omega
    unfold openF
    simp only [Bool.cond_eq_ite]
    refine key _ ?_ ?_ <;> (repeat split) <;> omega
theorem openN_bd (r : Reg) (v : Valid r) (d : Nat) (a c : Int) : -1000 ≤ openN r d a c ∧ openN r d a c ≤ 1000 := by
  have := openF_bd (d := d) (a := a) (c := c) (k := 0) (es := r.entries) (x := 0) (m := 0) (by omega) (by omega)
  have h6 := v.e6
  unfold openN
  omega
def surelyR (r : Reg) (a : Int) (out : List Nat) : List Int := bif out.isEmpty then [] else ((List.range r.start.length).filter fun s => out.all fun d => (placesA r d).getD s 0 == a).map Int.ofNat
theorem zr112 : (Try.prog.info? 112).map (·.zero) = some (some (.agg #[.nilFunc, (.int .i64 0), (.int .i64 0)])) := by kernel_rfl
theorem bt112 : BT Try.prog 112 (.agg #[.nilFunc, (.int .i64 0), (.int .i64 0)]) (fun i => ([(0, 1), (1, 1), (2, 1)] : List (Nat × Nat))[i]?) := bt_struct Try.underlying112 zr112 (by kernel_rfl)

theorem Holders_eff (r : Reg) (s day : Int) : EffAt Try.prog 16 [.d (regD r), .d (.int .i64 s), .d (.int .i64 day)] [] (X := AskX r (sheetB r s) day) (fun x => .d (.tup [ints (holdR r s x.1.1), .int .i64 x.1.2])) (fun _ => []) := by
  refine EffAt.of_awp Try.func16 rfl (by kernel_rfl) rfl fun Γ hn => ?_
  refine awp_seq ?_
  refine awp_region ?_
  refine stepW (s_box 3 rfl rfl rfl (nb hn rfl) rfl rfl) fun b3 => ?_
  refine sq rfl rfl hn rfl (q_assign rfl rfl) ?_
  refine sq rfl rfl hn rfl (q_assign rfl rfl) ?_
  refine run_nil ?_
  refine aend_then ?_
  refine awp_seq ?_
  refine gh_awp (g_freeze (t := 3) 3 rfl (nb hn rfl) rfl rfl trivial) ?_
  refine d_start (W := fun b => True) fmo ?_
  refine d1q (i := 0) rfl (by kernel_rfl) (fun _ _ _ _ h => h) rfl rfl hn rfl (q_loadpA rfl rfl Try.underlying35 rfl sz35 rfl rfl seesFA) ?_
  refine d1q (i := 1) rfl (by kernel_rfl) (fun _ _ _ _ h => h) rfl rfl hn rfl (q_loadpA rfl rfl Try.underlying35 rfl sz35 rfl rfl seesFA) ?_
  refine d1q (i := 2) rfl (by kernel_rfl) (fun _ _ _ _ h => h) rfl rfl hn rfl (q_move rfl rfl) ?_
  refine d1q (i := 4) rfl (by kernel_rfl) (fun _ _ _ _ h => h) rfl rfl hn rfl (q_move rfl rfl) ?_
  refine d1_of_d2 ?_
  refine d2_one (i := 3) (by kernel_rfl) rfl (s_call [] (fun _ => sheet_ok r s) rfl (guard_none rfl) rfl (nb hn rfl) (fun _ => trivial) rfl rfl (.refl _)) fun _ => ?_
  refine d2_of_d1 ?_
  refine d1_of_d2 ?_
  refine d2_one (i := 5) (by kernel_rfl) rfl (s_callE (asked_ok r (sheetB r s) day) rfl rfl rfl (nb hn rfl) (.d rfl) rfl (.refl _) trivial (fun _ => rfl) (fun _ _ => trivial)) fun ⟨⟨out, e⟩, hx⟩ => ?_
  refine d2_of_d1 ?_
  refine d1q (i := 6) rfl (by kernel_rfl) (fun _ _ _ _ h => h) rfl rfl hn rfl (q_move rfl rfl) ?_
  refine d1q (i := 7) rfl (by kernel_rfl) (fun _ _ _ _ h => h) rfl rfl hn rfl (q_extractd rfl rfl rfl) ?_
  refine d1q (i := 8) rfl (by kernel_rfl) (fun _ _ _ _ h => h) rfl rfl hn rfl (q_extractd rfl rfl rfl) ?_
  refine d1q (i := 9) rfl (by kernel_rfl) (fun _ _ _ _ h => h) rfl rfl hn rfl (q_assign rfl rfl) ?_
  refine d1q (i := 10) rfl (by kernel_rfl) (fun _ _ _ _ h => h) rfl rfl hn rfl (q_assign rfl rfl) ?_
  refine d1_of_d2 ?_
  refine d2_done (by kernel_rfl) ?_
  refine aend_then ?_
  refine awp_seq ?_
  refine awp_seq ?_
  refine awp_region ?_
  refine sq rfl rfl hn rfl (q_move rfl rfl) ?_
  refine sq rfl rfl hn rfl (q_neq rfl rfl rfl) ?_
  refine run_nil ?_
  refine aend_then ?_
  refine awp_cond rfl (fun hb0 => ?_) (fun hb0 => ?_)
  · skip
    have hee : e ≠ 0 := by simpa using hb0
    obtain rfl := ask_bad hx hee
    refine awp_seq ?_
    refine awp_region ?_
    refine sq rfl rfl hn rfl (q_move rfl rfl) ?_
    refine sq rfl rfl hn rfl (q_assign rfl rfl) ?_
    refine sq rfl rfl hn rfl (q_assign rfl rfl) ?_
    refine run_nil ?_
    refine aend_then ?_
    refine awp_ret ?_
    refine aend_then_ret ?_
    exact ret_E (.inl rfl) ⟨([], e), hx⟩ ((hands_2d rfl (.tmp rfl) (.tmp rfl)).le (by rw [hold_nil]; exact .tup (.cons (.nil 1) (.refl _)))) trivial
  · skip
    have he0 : e = 0 := by simpa using hb0
    subst he0
    obtain ⟨v, his, n, rfl, hN, hev, hne⟩ := ask_good hx
    have hd64 := ev_bd v hN hev
    have ho64 : out.length ≤ 64 := hev.2.1
    obtain ⟨hs0, hs1, hs4⟩ := sheetB_bd v his
    obtain ⟨hl, hhl⟩ : ∃ hl, hl = holdL r out s.toNat := ⟨_, rfl⟩
    have hll : hl.length = out.length := by rw [hhl, holdL, List.length_map]
    refine awp_skip ?_
    refine aend_then ?_
    refine awp_seq ?_
    refine awp_region ?_
    refine sq rfl rfl hn rfl (q_assign rfl rfl) ?_
    refine run_nil ?_
    refine aend_then ?_
    refine awp_seq ?_
    refine awp_seq ?_
    refine gh_awp (g_nilV (t := 10) 1005 rfl) ?_
    refine awp_region ?_
    refine sq rfl rfl hn rfl (q_move rfl rfl) ?_
    refine sq rfl rfl hn rfl (q_len rfl rfl Try.underlying98) ?_
    refine sq rfl rfl hn rfl (q_move rfl rfl) ?_
    refine run_nil ?_
    refine aend_then ?_
    refine awp_block ?_
    refine awp_loop_on (ι := {x : Nat × Value // x.1 ≤ out.length ∧ VecV x.2 1 ((hl.take x.1).map fun n => TV.d (.int .i64 n))}) (fun x => (27, true, .d (.int .i64 (x.1.1 : Nat))) :: (10, true, .val x.1.2) :: anys [28, 29, 30, 12, 31, 32, 33, 34, 35, 36, 37, 38, 39]) (fun x => [(1005, vecRes 3 x.1.2 1 ((hl.take x.1.1).map fun n => TV.d (.int .i64 n)))]) (fun x => out.length - x.1.1) ⟨(0, .slice none 0 0), by simp, VecV.nil 1⟩ ⟨.inl rfl, .inl rfl, holdT_anys _⟩ ⟨.inl rfl, trivial⟩ ?_
    rintro ⟨⟨i, vv⟩, hi, hV⟩
    dsimp only
    dsimp only at hi hV
    refine awp_seq ?_
    refine awp_region ?_
    refine sq rfl rfl hn rfl (q_lss rfl rfl rfl) ?_
    refine run_nil ?_
    refine aend_then ?_
    refine awp_seq ?_
    refine awp_cond rfl (fun hb1 => ?_) (fun hb1 => ?_)
    · try simp only [decide_eq_true_eq, decide_eq_false_iff_not, Bool.and_eq_true, Bool.or_eq_true, Bool.and_eq_false_iff, Bool.or_eq_false_iff, Bool.not_eq_true', Bool.not_eq_false', beq_iff_eq, bne_iff_ne, ne_eq, beq_eq_false_iff_ne, bne_eq_false_iff_eq, Int.not_lt, Int.not_le] at hb1
      have hlt : i < out.length := by simp only [List.length_map] at hb1; omega
      obtain ⟨d, hd⟩ := ex_get hlt
      have hxl : hl[i]? = some ((placesA r d).getD s.toNat 0) := by rw [hhl]; exact mget hd
      have hpl := placesA_len r d
      refine awp_skip ?_
      refine aend_then ?_
      refine awp_seq ?_
      refine awp_block ?_
      refine awp_seq ?_
      refine awp_region ?_
      refine sq rfl rfl hn rfl (q_index rfl rfl rfl Try.underlying98 sz102 rfl (mget hd)) ?_
      refine sq rfl rfl hn rfl (q_loadp rfl rfl Try.underlying102 rfl seesF0) ?_
      refine sq rfl rfl hn rfl (q_assign rfl rfl) ?_
      refine run_nil ?_
      refine aend_then ?_
      refine awp_region ?_
      refine sq rfl rfl hn rfl (q_move rfl rfl) ?_
      refine sq rfl rfl hn rfl (q_loadpA rfl rfl Try.underlying35 rfl sz35 rfl rfl seesF0) ?_
      refine sq rfl rfl hn rfl (q_move rfl rfl) ?_
      refine stepW (s_call [] (fun _ => places_ok r d v (hd64 d (List.mem_of_getElem? hd))) rfl (guard_none rfl) rfl (nb hn rfl) (fun _ => trivial) rfl rfl (.refl _)) fun _ => ?_
      refine sq rfl rfl hn rfl (q_move rfl rfl) ?_
      refine sq rfl rfl hn rfl (q_indexAgg (i := s.toNat) rfl rfl rfl Try.underlying103 Try.underlying3 rfl sz3 (by omega) (by omega) (mget (getD_some (by omega)))) ?_
      refine stepW (s_buildSlice rfl rfl rfl (nb hn rfl) Try.underlying22 sz3 zr3 rfl rfl rfl (show _ = [.d (.int .i64 0)] from by kernel_rfl) (by kernel_rfl) rfl (fill_int rfl) rfl rfl rfl) fun _ => ?_
      refine stepW (s_appendV (id := 1005) rfl rfl rfl (nb hn rfl) elt22 zr3 rfl hV rfl rfl rfl (by simp [chunk, List.length_take]; omega) (by simp [chunk, List.length_take]; omega) (fun _ _ => trivial)) fun ⟨v38, hV38⟩ => ?_
      refine sq rfl rfl hn rfl (q_assign rfl rfl) ?_
      refine run_nil ?_
      refine aend_block ?_
      refine aend_then ?_
      refine awp_region ?_
      refine sq rfl rfl hn rfl (q_add rfl rfl rfl (r := ((i + 1 : Nat) : Int)) (i64w (by omega) (by omega))) ?_
      refine sq rfl rfl hn rfl (q_move rfl rfl) ?_
      refine run_nil ?_
      exact aend_round_on ⟨(i + 1, v38), by simp only; omega, by rw [← vec_take hxl]; exact hV38⟩ ⟨.inl rfl, .inl rfl, holdT_anys _⟩ ⟨.inl (congrArg (fun z => some (vecRes 3 v38 1 z)) (vec_take hxl)), trivial⟩ (by simp only; omega) (by repeat (first | exact kr _ | refine kc rfl ?_)) (by repeat (first | exact kr _ | refine kc rfl ?_))
    · try simp only [decide_eq_true_eq, decide_eq_false_iff_not, Bool.and_eq_true, Bool.or_eq_true, Bool.and_eq_false_iff, Bool.or_eq_false_iff, Bool.not_eq_true', Bool.not_eq_false', beq_iff_eq, bne_iff_ne, ne_eq, beq_eq_false_iff_ne, bne_eq_false_iff_eq, Int.not_lt, Int.not_le] at hb1
      have hio : i = out.length := by simp only [List.length_map] at hb1; omega
      subst hio
      rw [← hll, List.take_length] at hV
      rw [← hll, List.take_length]
      rcases hV with ⟨_, hnil⟩ | ⟨bb, nn, cap, rfl, hc1, hc2, hc3⟩
      · exact absurd (List.length_eq_zero_iff.1 (by rw [← hll]; simpa using hnil)) hne
      obtain rfl : nn = hl.length := by simpa using hc3.symm
      have hcm : hl.length ≤ 64 := by omega
      refine awp_exit ?_
      refine aend_then_exit ?_
      refine aend_then_exit ?_
      refine aend_block_exit ?_
      refine aend_then ?_
      refine awp_seq ?_
      refine awp_region ?_
      refine sq rfl rfl hn rfl (q_move rfl rfl) ?_
      refine stepW (s_callE (sort_eff bb cap hl _ 3 (by omega)) rfl rfl rfl (nb hn rfl) (.d rfl) rfl (.refl _) ⟨rfl, trivial⟩ (fun _ => rfl) (fun _ _ => trivial)) fun _ => ?_
      refine run_nil ?_
      refine aend_then ?_
      refine awp_seq ?_
      refine awp_region ?_
      refine sq rfl rfl hn rfl (q_move rfl rfl) ?_
      refine stepW (s_callE (compact_eff bb cap hl.length (sortL hl) _ 3 (List.length_mergeSort _) (by omega) hc1) rfl rfl rfl (nb hn rfl) (.d rfl) rfl (.refl _) ⟨rfl, trivial⟩ (fun _ => rfl) (fun _ _ => trivial)) fun _ => ?_
      refine sq rfl rfl hn rfl (q_assign rfl rfl) ?_
      refine sq rfl rfl hn rfl (q_assign rfl rfl) ?_
      refine run_nil ?_
      refine aend_then ?_
      refine awp_ret ?_
      refine gh_end (g_freezeVK (t := 6) (n := (compL (sortL hl)).length) (sz := 1) 1005 rfl rfl (comp_split _ _ _) (by simp) (chunk_int _) (by have := comp_le (sortL hl); have h2 : (sortL hl).length = hl.length := List.length_mergeSort _; simp only [compL]; omega) hc2) ?_
      exact ret_E (.inl rfl) ⟨(out, 0), hx⟩ ((hands_2d rfl (.tmp rfl) (.tmp rfl)).eq (by rw [hhl]; rfl)) trivial

theorem InHand_eff (r : Reg) (a day : Int) : EffAt Try.prog 25 [.d (regD r), .d (.int .i64 a), .d (.int .i64 day)] [] (X := AskX r (houseB r a) day) (fun x => .d (.tup [.agg [.int .i64 (heldR r a x.1.1).1, .int .i64 (heldR r a x.1.1).2], .int .i64 x.1.2])) (fun _ => []) := by
  refine EffAt.of_awp Try.func25 rfl (by kernel_rfl) rfl fun Γ hn => ?_
  refine awp_seq ?_
  refine awp_region ?_
  refine stepW (s_box 3 rfl rfl rfl (nb hn rfl) rfl rfl) fun b3 => ?_
  refine stepW (s_alloc 6 rfl rfl rfl (nb hn rfl) zr45 rfl rfl) fun b6 => ?_
  refine sq rfl rfl hn rfl (q_assign rfl rfl) ?_
  refine run_nil ?_
  refine aend_then ?_
  refine awp_seq ?_
  refine gh_awp (g_freeze (t := 3) 3 rfl (nb hn rfl) rfl rfl trivial) ?_
  refine d_start (W := fun b => True) fmo ?_
  refine d1q (i := 0) rfl (by kernel_rfl) (fun _ _ _ _ h => h) rfl rfl hn rfl (q_loadpA rfl rfl Try.underlying35 rfl sz35 rfl rfl seesFA) ?_
  refine d1q (i := 1) rfl (by kernel_rfl) (fun _ _ _ _ h => h) rfl rfl hn rfl (q_loadpA rfl rfl Try.underlying35 rfl sz35 rfl rfl seesFA) ?_
  refine d1q (i := 2) rfl (by kernel_rfl) (fun _ _ _ _ h => h) rfl rfl hn rfl (q_move rfl rfl) ?_
  refine d1q (i := 4) rfl (by kernel_rfl) (fun _ _ _ _ h => h) rfl rfl hn rfl (q_move rfl rfl) ?_
  refine d1_of_d2 ?_
  refine d2_one (i := 3) (by kernel_rfl) rfl (s_call [] (fun _ => house_ok r a) rfl (guard_none rfl) rfl (nb hn rfl) (fun _ => trivial) rfl rfl (.refl _)) fun _ => ?_
  refine d2_of_d1 ?_
  refine d1_of_d2 ?_
  refine d2_one (i := 5) (by kernel_rfl) rfl (s_callE (asked_ok r (houseB r a) day) rfl rfl rfl (nb hn rfl) (.d rfl) rfl (.refl _) trivial (fun _ => rfl) (fun _ _ => trivial)) fun ⟨⟨out, e⟩, hx⟩ => ?_
  refine d2_of_d1 ?_
  refine d1q (i := 6) rfl (by kernel_rfl) (fun _ _ _ _ h => h) rfl rfl hn rfl (q_move rfl rfl) ?_
  refine d1q (i := 7) rfl (by kernel_rfl) (fun _ _ _ _ h => h) rfl rfl hn rfl (q_extractd rfl rfl rfl) ?_
  refine d1q (i := 8) rfl (by kernel_rfl) (fun _ _ _ _ h => h) rfl rfl hn rfl (q_extractd rfl rfl rfl) ?_
  refine d1q (i := 9) rfl (by kernel_rfl) (fun _ _ _ _ h => h) rfl rfl hn rfl (q_assign rfl rfl) ?_
  refine d1q (i := 10) rfl (by kernel_rfl) (fun _ _ _ _ h => h) rfl rfl hn rfl (q_assign rfl rfl) ?_
  refine d1_of_d2 ?_
  refine d2_done (by kernel_rfl) ?_
  refine aend_then ?_
  refine awp_seq ?_
  refine awp_seq ?_
  refine awp_region ?_
  refine sq rfl rfl hn rfl (q_move rfl rfl) ?_
  refine sq rfl rfl hn rfl (q_neq rfl rfl rfl) ?_
  refine run_nil ?_
  refine aend_then ?_
  refine awp_cond rfl (fun hb0 => ?_) (fun hb0 => ?_)
  · skip
    have hee : e ≠ 0 := by simpa using hb0
    obtain rfl := ask_bad hx hee
    refine awp_seq ?_
    refine awp_region ?_
    refine sq rfl rfl hn rfl (q_buildd rfl bt45 rfl rfl rfl rfl rfl) ?_
    refine sq rfl rfl hn rfl (q_move rfl rfl) ?_
    refine stepW (s_store rfl rfl rfl rfl rfl rfl (id := 6) rfl sz45 rfl (Nat.le_of_ble_eq_true rfl) rfl trivial) fun _ => ?_
    refine sq rfl rfl hn rfl (q_assign rfl rfl) ?_
    refine run_nil ?_
    refine aend_then ?_
    refine awp_ret ?_
    refine aend_then_ret ?_
    exact ret_E (.inl rfl) ⟨([], e), hx⟩ (hands_2d rfl (.d (.cellA rfl (id := 6) rfl Try.underlying45 rfl sz45 rfl rfl)) (.tmp rfl)) trivial
  · skip
    have he0 : e = 0 := by simpa using hb0
    subst he0
    obtain ⟨v, his, n, rfl, hN, hev, hne⟩ := ask_good hx
    have hd64 := ev_bd v hN hev
    have ho64 : out.length ≤ 64 := hev.2.1
    obtain ⟨d0, l, rfl⟩ : ∃ d0 l, out = d0 :: l := by cases out with
      | nil => exact absurd rfl hne
      | cons d l => exact ⟨d, l, rfl⟩
    refine awp_skip ?_
    refine aend_then ?_
    refine awp_seq ?_
    refine awp_region ?_
    refine sq rfl rfl hn rfl (q_move rfl rfl) ?_
    refine sq rfl rfl hn rfl (q_buildd rfl bt112 rfl rfl rfl rfl rfl) ?_
    refine sq rfl rfl hn rfl (q_loadpA rfl rfl Try.underlying35 rfl sz35 rfl rfl seesF0) ?_
    refine sq rfl rfl hn rfl (q_move rfl rfl) ?_
    refine stepW (s_call [] (fun _ => bounds_ok r 63 a 0 d0 l (fun d => (heldN r d a : Int)) (fun d _ => heldN_bd r v d a) (by simp only [List.length_cons] at ho64; omega) (fun d hd => held_ok r d a 0 v (hd64 d hd))) rfl (guard_none rfl) rfl (nb hn rfl) (fun _ => trivial) rfl rfl (.refl _)) fun _ => ?_
    refine stepW (s_store rfl rfl rfl rfl rfl rfl (id := 6) rfl sz45 rfl (Nat.le_of_ble_eq_true rfl) rfl trivial) fun _ => ?_
    refine sq rfl rfl hn rfl (q_assign rfl rfl) ?_
    refine run_nil ?_
    refine aend_then ?_
    refine awp_ret ?_
    exact ret_E (.inl rfl) ⟨(d0 :: l, 0), hx⟩ (hands_2d rfl (.d (.cellA rfl (id := 6) rfl Try.underlying45 rfl sz45 rfl rfl)) (.tmp rfl)) trivial

theorem Owed_eff (r : Reg) (a c day : Int) : EffAt Try.prog 26 [.d (regD r), .d (.int .i64 a), .d (.int .i64 c), .d (.int .i64 day)] [] (X := AskX r (houseB r a && houseB r c) day) (fun x => .d (.tup [.agg [.int .i64 (owedR r a c x.1.1).1, .int .i64 (owedR r a c x.1.1).2], .int .i64 x.1.2])) (fun _ => []) := by
  refine EffAt.of_awp Try.func26 rfl (by kernel_rfl) rfl fun Γ hn => ?_
  refine awp_seq ?_
  refine awp_region ?_
  refine stepW (s_box 4 rfl rfl rfl (nb hn rfl) rfl rfl) fun b4 => ?_
  refine stepW (s_alloc 8 rfl rfl rfl (nb hn rfl) zr45 rfl rfl) fun b8 => ?_
  refine sq rfl rfl hn rfl (q_assign rfl rfl) ?_
  refine run_nil ?_
  refine aend_then ?_
  refine awp_seq ?_
  refine gh_awp (g_freeze (t := 4) 4 rfl (nb hn rfl) rfl rfl trivial) ?_
  refine d_start (W := fun b => True) fmo ?_
  refine d1q (i := 0) rfl (by kernel_rfl) (fun _ _ _ _ h => h) rfl rfl hn rfl (q_loadpA rfl rfl Try.underlying35 rfl sz35 rfl rfl seesFA) ?_
  refine d1q (i := 1) rfl (by kernel_rfl) (fun _ _ _ _ h => h) rfl rfl hn rfl (q_loadpA rfl rfl Try.underlying35 rfl sz35 rfl rfl seesFA) ?_
  refine d1q (i := 2) rfl (by kernel_rfl) (fun _ _ _ _ h => h) rfl rfl hn rfl (q_move rfl rfl) ?_
  refine d1q (i := 9) rfl (by kernel_rfl) (fun _ _ _ _ h => h) rfl rfl hn rfl (q_move rfl rfl) ?_
  refine d1_of_d2 ?_
  refine d2_one (i := 3) (by kernel_rfl) rfl (s_call [] (fun _ => house_ok r a) rfl (guard_none rfl) rfl (nb hn rfl) (fun _ => trivial) rfl rfl (.refl _)) fun _ => ?_
  refine d2_of_d1 ?_
  refine d1q (i := 4) rfl (by kernel_rfl) (fun _ _ _ _ h => h) rfl rfl hn rfl (q_move rfl rfl) ?_
  refine d1g (i := 5) [] rfl (by kernel_rfl) (fun _ _ _ _ h => h) (guard_some rfl rfl rfl) rfl hn rfl (fun hc => trivial) (fun hc => q_loadpA rfl rfl Try.underlying35 rfl sz35 rfl rfl seesFA) ?_
  refine d1g (i := 6) [] rfl (by kernel_rfl) (fun _ _ _ _ h => h) (guard_some rfl rfl rfl) rfl hn rfl (fun hc => trivial) (fun hc => q_move rfl rfl) ?_
  refine d1_of_d2 ?_
  refine d2_one (i := 7) (by kernel_rfl) rfl (s_call [(18, _), (19, _)] (fun hc => house_ok r c) rfl (guard_some rfl rfl rfl) rfl (nb hn rfl) (fun hc => ⟨⟨_, rfl, hc⟩, ⟨_, rfl, hc⟩, trivial⟩) rfl rfl (.refl _)) fun _ => ?_
  refine d2_of_d1 ?_
  refine d1q (i := 8) rfl (by kernel_rfl) (fun _ _ _ _ h => h) rfl rfl hn rfl (q_and rfl rfl rfl (by simp_all)) ?_
  refine d1_of_d2 ?_
  refine d2_one (i := 10) (by kernel_rfl) rfl (s_callE (asked_ok r (houseB r a && houseB r c) day) rfl rfl rfl (nb hn rfl) (.d rfl) rfl (.refl _) trivial (fun _ => rfl) (fun _ _ => trivial)) fun ⟨⟨out, e⟩, hx⟩ => ?_
  refine d2_of_d1 ?_
  refine d1q (i := 11) rfl (by kernel_rfl) (fun _ _ _ _ h => h) rfl rfl hn rfl (q_move rfl rfl) ?_
  refine d1q (i := 12) rfl (by kernel_rfl) (fun _ _ _ _ h => h) rfl rfl hn rfl (q_extractd rfl rfl rfl) ?_
  refine d1q (i := 13) rfl (by kernel_rfl) (fun _ _ _ _ h => h) rfl rfl hn rfl (q_extractd rfl rfl rfl) ?_
  refine d1q (i := 14) rfl (by kernel_rfl) (fun _ _ _ _ h => h) rfl rfl hn rfl (q_assign rfl rfl) ?_
  refine d1q (i := 15) rfl (by kernel_rfl) (fun _ _ _ _ h => h) rfl rfl hn rfl (q_assign rfl rfl) ?_
  refine d1_of_d2 ?_
  refine d2_done (by kernel_rfl) ?_
  refine aend_then ?_
  refine awp_seq ?_
  refine awp_seq ?_
  refine awp_region ?_
  refine sq rfl rfl hn rfl (q_move rfl rfl) ?_
  refine sq rfl rfl hn rfl (q_neq rfl rfl rfl) ?_
  refine run_nil ?_
  refine aend_then ?_
  refine awp_cond rfl (fun hb0 => ?_) (fun hb0 => ?_)
  · skip
    have hee : e ≠ 0 := by simpa using hb0
    obtain rfl := ask_bad hx hee
    refine awp_seq ?_
    refine awp_region ?_
    refine sq rfl rfl hn rfl (q_buildd rfl bt45 rfl rfl rfl rfl rfl) ?_
    refine sq rfl rfl hn rfl (q_move rfl rfl) ?_
    refine stepW (s_store rfl rfl rfl rfl rfl rfl (id := 8) rfl sz45 rfl (Nat.le_of_ble_eq_true rfl) rfl trivial) fun _ => ?_
    refine sq rfl rfl hn rfl (q_assign rfl rfl) ?_
    refine run_nil ?_
    refine aend_then ?_
    refine awp_ret ?_
    refine aend_then_ret ?_
    exact ret_E (.inl rfl) ⟨([], e), hx⟩ (hands_2d rfl (.d (.cellA rfl (id := 8) rfl Try.underlying45 rfl sz45 rfl rfl)) (.tmp rfl)) trivial
  · skip
    have he0 : e = 0 := by simpa using hb0
    subst he0
    obtain ⟨v, his, n, rfl, hN, hev, hne⟩ := ask_good hx
    have hd64 := ev_bd v hN hev
    have ho64 : out.length ≤ 64 := hev.2.1
    obtain ⟨d0, l, rfl⟩ : ∃ d0 l, out = d0 :: l := by cases out with
      | nil => exact absurd rfl hne
      | cons d l => exact ⟨d, l, rfl⟩
    refine awp_skip ?_
    refine aend_then ?_
    refine awp_seq ?_
    refine awp_region ?_
    refine sq rfl rfl hn rfl (q_move rfl rfl) ?_
    refine sq rfl rfl hn rfl (q_move rfl rfl) ?_
    refine sq rfl rfl hn rfl (q_buildd rfl bt112 rfl rfl rfl rfl rfl) ?_
    refine sq rfl rfl hn rfl (q_loadpA rfl rfl Try.underlying35 rfl sz35 rfl rfl seesF0) ?_
    refine sq rfl rfl hn rfl (q_move rfl rfl) ?_
    refine stepW (s_call [] (fun _ => bounds_ok r 65 a c d0 l (fun d => openN r d a c) (fun d _ => openN_bd r v d a c) (by simp only [List.length_cons] at ho64; omega) (fun d hd => open_ok r d a c v (hd64 d hd))) rfl (guard_none rfl) rfl (nb hn rfl) (fun _ => trivial) rfl rfl (.refl _)) fun _ => ?_
    refine stepW (s_store rfl rfl rfl rfl rfl rfl (id := 8) rfl sz45 rfl (Nat.le_of_ble_eq_true rfl) rfl trivial) fun _ => ?_
    refine sq rfl rfl hn rfl (q_assign rfl rfl) ?_
    refine run_nil ?_
    refine aend_then ?_
    refine awp_ret ?_
    exact ret_E (.inl rfl) ⟨(d0 :: l, 0), hx⟩ (hands_2d rfl (.d (.cellA rfl (id := 8) rfl Try.underlying45 rfl sz45 rfl rfl)) (.tmp rfl)) trivial

theorem Surely1_ok (r : Reg) (v : Valid r) (d s : Nat) (a : Int) (hd : d < 18446744073709551616) (hs : s < 4) : PureAt Try.prog 60 [.int .u64 (d : Nat), .ptr (regC r), .ptr [.int .i64 (s : Nat)], .ptr [.int .i64 a]] (.bool ((placesA r d).getD s 0 == a)) := by
  refine PureAt.of_awp Try.func60 rfl (by kernel_rfl) (Nat.le_of_ble_eq_true rfl) fun Γ hn hl => ?_
  have hpl := placesA_len r d
  refine awp_seq ?_
  refine awp_region ?_
  refine sq rfl rfl hn rfl (q_assign rfl rfl) ?_
  refine run_nil ?_
  refine aend_then ?_
  refine awp_seq ?_
  refine d_start (W := fun b => True) fmo ?_
  refine d1q (i := 0) rfl (by kernel_rfl) (fun _ _ _ _ h => h) rfl rfl hn rfl (q_loadpA rfl rfl Try.underlying35 rfl sz35 rfl rfl seesFA) ?_
  refine d1q (i := 1) rfl (by kernel_rfl) (fun _ _ _ _ h => h) rfl rfl hn rfl (q_move rfl rfl) ?_
  refine d1q (i := 3) rfl (by kernel_rfl) (fun _ _ _ _ h => h) rfl rfl hn rfl (q_loadp rfl rfl Try.underlying3 rfl seesFA) ?_
  refine d1q (i := 5) rfl (by kernel_rfl) (fun _ _ _ _ h => h) rfl rfl hn rfl (q_loadp rfl rfl Try.underlying3 rfl seesFA) ?_
  refine d1_of_d2 ?_
  refine d2_one (i := 2) (by kernel_rfl) rfl (s_call [] (fun _ => places_ok r d v hd) rfl (guard_none rfl) rfl (nb hn rfl) (fun _ => trivial) rfl rfl (.refl _)) fun _ => ?_
  refine d2_of_d1 ?_
  refine d1q (i := 4) rfl (by kernel_rfl) (fun _ _ _ _ h => h) rfl rfl hn rfl (q_indexAgg (i := s) rfl rfl rfl Try.underlying103 Try.underlying3 rfl sz3 rfl (by omega) (mget (getD_some (by omega)))) ?_
  refine d1q (i := 6) rfl (by kernel_rfl) (fun _ _ _ _ h => h) rfl rfl hn rfl (q_eql rfl rfl rfl) ?_
  refine d1q (i := 7) rfl (by kernel_rfl) (fun _ _ _ _ h => h) rfl rfl hn rfl (q_assign rfl rfl) ?_
  refine d1_of_d2 ?_
  refine d2_done (by kernel_rfl) ?_
  refine aend_then ?_
  refine awp_ret ?_
  exact ret_1 (.inl rfl) hl rfl (.tmp rfl)

theorem Surely_eff (r : Reg) (a day : Int) : EffAt Try.prog 18 [.d (regD r), .d (.int .i64 a), .d (.int .i64 day)] [] (X := AskX r (houseB r a) day) (fun x => .d (.tup [ints (surelyR r a x.1.1), .int .i64 x.1.2])) (fun _ => []) := by
  refine EffAt.of_awp Try.func18 rfl (by kernel_rfl) rfl fun Γ hn => ?_
  refine awp_seq ?_
  refine awp_region ?_
  refine stepW (s_box 3 rfl rfl rfl (nb hn rfl) rfl rfl) fun b3 => ?_
  refine stepW (s_box 4 rfl rfl rfl (nb hn rfl) rfl rfl) fun b4 => ?_
  refine sq rfl rfl hn rfl (q_assign rfl rfl) ?_
  refine sq rfl rfl hn rfl (q_assign rfl rfl) ?_
  refine run_nil ?_
  refine aend_then ?_
  refine awp_seq ?_
  refine gh_awp (g_freeze (t := 3) 3 rfl (nb hn rfl) rfl rfl trivial) ?_
  refine gh_awp (g_freeze (t := 4) 4 rfl (nb hn rfl) rfl rfl trivial) ?_
  refine d_start (W := fun b => True) fmo ?_
  refine d1q (i := 0) rfl (by kernel_rfl) (fun _ _ _ _ h => h) rfl rfl hn rfl (q_loadpA rfl rfl Try.underlying35 rfl sz35 rfl rfl seesFA) ?_
  refine d1q (i := 1) rfl (by kernel_rfl) (fun _ _ _ _ h => h) rfl rfl hn rfl (q_loadpA rfl rfl Try.underlying35 rfl sz35 rfl rfl seesFA) ?_
  refine d1q (i := 2) rfl (by kernel_rfl) (fun _ _ _ _ h => h) rfl rfl hn rfl (q_loadp rfl rfl Try.underlying3 rfl seesFA) ?_
  refine d1q (i := 4) rfl (by kernel_rfl) (fun _ _ _ _ h => h) rfl rfl hn rfl (q_move rfl rfl) ?_
  refine d1_of_d2 ?_
  refine d2_one (i := 3) (by kernel_rfl) rfl (s_call [] (fun _ => house_ok r a) rfl (guard_none rfl) rfl (nb hn rfl) (fun _ => trivial) rfl rfl (.refl _)) fun _ => ?_
  refine d2_of_d1 ?_
  refine d1_of_d2 ?_
  refine d2_one (i := 5) (by kernel_rfl) rfl (s_callE (asked_ok r (houseB r a) day) rfl rfl rfl (nb hn rfl) (.d rfl) rfl (.refl _) trivial (fun _ => rfl) (fun _ _ => trivial)) fun ⟨⟨out, e⟩, hx⟩ => ?_
  refine d2_of_d1 ?_
  refine d1q (i := 6) rfl (by kernel_rfl) (fun _ _ _ _ h => h) rfl rfl hn rfl (q_move rfl rfl) ?_
  refine d1q (i := 7) rfl (by kernel_rfl) (fun _ _ _ _ h => h) rfl rfl hn rfl (q_extractd rfl rfl rfl) ?_
  refine d1q (i := 8) rfl (by kernel_rfl) (fun _ _ _ _ h => h) rfl rfl hn rfl (q_extractd rfl rfl rfl) ?_
  refine d1q (i := 9) rfl (by kernel_rfl) (fun _ _ _ _ h => h) rfl rfl hn rfl (q_assign rfl rfl) ?_
  refine d1q (i := 10) rfl (by kernel_rfl) (fun _ _ _ _ h => h) rfl rfl hn rfl (q_assign rfl rfl) ?_
  refine d1_of_d2 ?_
  refine d2_done (by kernel_rfl) ?_
  refine aend_then ?_
  refine awp_seq ?_
  refine awp_seq ?_
  refine awp_region ?_
  refine sq rfl rfl hn rfl (q_move rfl rfl) ?_
  refine sq rfl rfl hn rfl (q_neq rfl rfl rfl) ?_
  refine run_nil ?_
  refine aend_then ?_
  refine awp_cond rfl (fun hb0 => ?_) (fun hb0 => ?_)
  · skip
    have hee : e ≠ 0 := by simpa using hb0
    obtain rfl := ask_bad hx hee
    refine awp_seq ?_
    refine awp_region ?_
    refine sq rfl rfl hn rfl (q_move rfl rfl) ?_
    refine sq rfl rfl hn rfl (q_assign rfl rfl) ?_
    refine sq rfl rfl hn rfl (q_assign rfl rfl) ?_
    refine run_nil ?_
    refine aend_then ?_
    refine awp_ret ?_
    refine aend_then_ret ?_
    exact ret_E (.inl rfl) ⟨([], e), hx⟩ ((hands_2d rfl (.tmp rfl) (.tmp rfl)).le (.tup (.cons (.nil 1) (.refl _)))) trivial
  · skip
    have he0 : e = 0 := by simpa using hb0
    subst he0
    obtain ⟨v, his, n, rfl, hN, hev, hne⟩ := ask_good hx
    have hd64 := ev_bd v hN hev
    have ho64 : out.length ≤ 64 := hev.2.1
    have hs4 := v.s4
    refine awp_skip ?_
    refine aend_then ?_
    refine awp_seq ?_
    refine awp_region ?_
    refine sq rfl rfl hn rfl (q_assign rfl rfl) ?_
    refine run_nil ?_
    refine aend_then ?_
    refine awp_seq ?_
    refine awp_seq ?_
    refine gh_awp (g_nil (t := 10) (id := 10) 3 1 rfl (nb hn rfl)) ?_
    refine awp_region ?_
    refine sq rfl rfl hn rfl (q_fieldAddrp rfl rfl Try.underlying35 rfl sz22 rfl) ?_
    refine sq rfl rfl hn rfl (q_loadp rfl rfl Try.underlying22 rfl seesF0) ?_
    refine sq rfl rfl hn rfl (q_len rfl rfl Try.underlying22) ?_
    refine sq rfl rfl hn rfl (q_move rfl rfl) ?_
    refine run_nil ?_
    refine aend_then ?_
    refine awp_block ?_
    refine awp_loop_on (ι := {x : Nat × Value // x.1 ≤ r.start.length}) (fun x => (27, true, .d (.int .i64 (x.1.1 : Nat))) :: (10, true, .val x.1.2) :: anys [28, 29, 11, 30, 31, 32, 33, 34, 35, 36, 37]) (fun x => (10, .row x.1.2 3 1 ((((List.range x.1.1).filter fun s => out.all fun d => (placesA r d).getD s 0 == a).map Int.ofNat).map intE)) :: gones [11]) (fun x => r.start.length - x.1.1) ⟨(0, .slice none 0 0), by simp⟩ ⟨.inl rfl, .inl rfl, holdT_anys _⟩ ⟨.inl rfl, holdR_gones _⟩ ?_
    rintro ⟨⟨i, vv⟩, hi⟩
    dsimp only
    dsimp only at hi
    refine awp_seq ?_
    refine awp_region ?_
    refine sq rfl rfl hn rfl (q_lss rfl rfl rfl) ?_
    refine run_nil ?_
    refine aend_then ?_
    refine awp_seq ?_
    refine awp_cond rfl (fun hb1 => ?_) (fun hb1 => ?_)
    · try simp only [decide_eq_true_eq, decide_eq_false_iff_not, Bool.and_eq_true, Bool.or_eq_true, Bool.and_eq_false_iff, Bool.or_eq_false_iff, Bool.not_eq_true', Bool.not_eq_false', beq_iff_eq, bne_iff_ne, ne_eq, beq_eq_false_iff_ne, bne_eq_false_iff_eq, Int.not_lt, Int.not_le] at hb1
      have hlt : i < r.start.length := by simp only [List.length_map] at hb1; omega
      refine awp_skip ?_
      refine aend_then ?_
      refine awp_seq ?_
      refine awp_block ?_
      refine awp_seq ?_
      refine awp_region ?_
      refine sq rfl rfl hn rfl (q_move rfl rfl) ?_
      refine stepW (s_alloc 11 rfl rfl rfl (nb hn rfl) zr3 rfl rfl) fun b11 => ?_
      refine stepW (s_store1 rfl rfl rfl rfl rfl rfl (id := 11) rfl sz3 (Nat.le_of_ble_eq_true rfl) rfl trivial) fun _ => ?_
      refine run_nil ?_
      refine aend_then ?_
      refine awp_seq ?_
      refine gh_awp (g_freeze (t := 11) 11 rfl (nb hn rfl) rfl rfl trivial) ?_
      refine awp_region ?_
      refine sq rfl rfl hn rfl (q_move rfl rfl) ?_
      refine sq rfl rfl hn rfl (q_makeFuncd rfl rfl rfl) ?_
      refine stepW (s_call [] (fun _ => all_done out (fun d => (placesA r d).getD i 0 == a) 60 [] [.ptr (regC r), .ptr [.int .i64 (i : Nat)], .ptr [.int .i64 a]] (fun d hd => Surely1_ok r v d i a (hd64 d hd) (by omega))) rfl (guard_none rfl) rfl (nb hn rfl) (fun _ => trivial) rfl rfl (.refl _)) fun _ => ?_
      refine run_nil ?_
      refine aend_then ?_
      refine awp_cond rfl (fun hb2 => ?_) (fun hb2 => ?_)
      · skip
        refine awp_region ?_
        refine sq rfl rfl hn rfl (q_move rfl rfl) ?_
        refine sq rfl rfl hn rfl (q_loadp rfl rfl Try.underlying3 rfl seesF0) ?_
        refine stepW (s_buildSlice rfl rfl rfl (nb hn rfl) Try.underlying22 sz3 zr3 rfl rfl rfl (show _ = [.d (.int .i64 0)] from by kernel_rfl) (by kernel_rfl) rfl (fill_nat rfl) rfl rfl rfl) fun _ => ?_
        refine stepW (s_append (id := 10) rfl rfl rfl (nb hn rfl) elt22 trivial rfl rfl rfl (by have := filter_len (p := fun s => out.all fun d => (placesA r d).getD s 0 == a) (n := i); simp [chunk] at this ⊢; omega) (by have := filter_len (p := fun s => out.all fun d => (placesA r d).getD s 0 == a) (n := i); simp [chunk] at this ⊢; omega) (fun b hb => trivial)) fun v36 => ?_
        refine sq rfl rfl hn rfl (q_assign rfl rfl) ?_
        refine run_nil ?_
        refine aend_block ?_
        refine aend_then ?_
        refine awp_region ?_
        refine sq rfl rfl hn rfl (q_add rfl rfl rfl (r := ((i + 1 : Nat) : Int)) (i64w (by omega) (by omega))) ?_
        refine sq rfl rfl hn rfl (q_move rfl rfl) ?_
        refine run_nil ?_
        exact aend_round_on ⟨(i + 1, v36), by simp only; omega⟩ ⟨.inl rfl, .inl rfl, holdT_anys _⟩ ⟨.inl (congrArg (fun z => some (Res.row v36 3 1 z)) (by rw [filter_t hb2, List.map_append]; rfl)), holdR_gones _⟩ (by simp only; omega) (by repeat (first | exact kr _ | refine kc rfl ?_)) (by repeat (first | exact kr _ | refine kc rfl ?_))
      · skip
        refine awp_skip ?_
        refine aend_block ?_
        refine aend_then ?_
        refine awp_region ?_
        refine sq rfl rfl hn rfl (q_add rfl rfl rfl (r := ((i + 1 : Nat) : Int)) (i64w (by omega) (by omega))) ?_
        refine sq rfl rfl hn rfl (q_move rfl rfl) ?_
        refine run_nil ?_
        exact aend_round_on ⟨(i + 1, vv), by simp only; omega⟩ ⟨.inl rfl, .inl rfl, holdT_anys _⟩ ⟨.inl (congrArg (fun z => some (Res.row vv 3 1 z)) (by rw [filter_f hb2])), holdR_gones _⟩ (by simp only; omega) (by repeat (first | exact kr _ | refine kc rfl ?_)) (by repeat (first | exact kr _ | refine kc rfl ?_))
    · try simp only [decide_eq_true_eq, decide_eq_false_iff_not, Bool.and_eq_true, Bool.or_eq_true, Bool.and_eq_false_iff, Bool.or_eq_false_iff, Bool.not_eq_true', Bool.not_eq_false', beq_iff_eq, bne_iff_ne, ne_eq, beq_eq_false_iff_ne, bne_eq_false_iff_eq, Int.not_lt, Int.not_le] at hb1
      refine awp_exit ?_
      refine aend_then_exit ?_
      refine aend_then_exit ?_
      refine aend_block_exit ?_
      refine aend_then ?_
      refine awp_seq ?_
      refine awp_region ?_
      refine sq rfl rfl hn rfl (q_move rfl rfl) ?_
      refine sq rfl rfl hn rfl (q_assign rfl rfl) ?_
      refine sq rfl rfl hn rfl (q_assign rfl rfl) ?_
      refine run_nil ?_
      refine aend_then ?_
      refine awp_ret ?_
      refine gh_end (g_row (t := 6) (id := 10) rfl rfl) ?_
      exact ret_E (.inl rfl) ⟨(out, 0), hx⟩ ((hands_2d rfl (.tmp rfl) (.tmp rfl)).eq (by have hie : i = r.start.length := by { simp only [List.length_map] at hb1; omega }; subst hie; simp only [surelyR, show out.isEmpty = false by cases out <;> simp at hne ⊢, cond_false])) trivial
end Go.Proofs.Ytnbmmopjkkofoaa
