/-
  Walks by the rules of Base, printed by gen.py: what is asked of the evenings. No condition: no statement of the seat is proved here.
-/
import Derived.Test.YtnbmmopjkkofoaaW10
namespace Go.Proofs.Ytnbmmopjkkofoaa
open Go.RowKit
set_option maxRecDepth 20000
set_option linter.all false

/-- The register of the first entries, without sights. -/
def prefR (r : Reg) (k : Nat) : Reg := ⟨r.houses, r.start, r.entries.take k, []⟩
theorem valid_pref {r : Reg} (v : Valid r) (k : Nat) : Valid (prefR r k) :=
  ⟨v.h1, v.h4, v.s1, v.s4, by have := v.e6; simp only [prefR, List.length_take]; omega, Nat.zero_le _, v.st, fun e he => v.en e (List.mem_of_mem_take he), fun _ h => (by cases h)⟩
def firstGo (r : Reg) : Nat → Nat → Int × Int
  | 0, _ => (0, 7)
  | k + 1, i => bif goesB (prefR r (i + 1)) 0 0 0 then firstGo r k (i + 1) else ((i : Nat), 0)
def firstR (r : Reg) : Int × Int := if checkE r ≠ 0 then (0, checkE r) else firstGo r r.entries.length 0
theorem dropF_sub {α : Type} {out : List Int} {x : α} : ∀ {k : Nat} {l : List α}, x ∈ dropF out k l → x ∈ l
  | _, [], h => h
  | k, y :: l, h => by
    unfold dropF at h
    cases hb : (out.any fun n => (k : Int) == n) <;> rw [hb] at h
    · rcases List.mem_cons.1 h with rfl | h
      · exact List.mem_cons_self
      · exact List.mem_cons_of_mem _ (dropF_sub h)
    · exact List.mem_cons_of_mem _ (dropF_sub h)
theorem valid_drop {r : Reg} (v : Valid r) (out : List Int) : Valid (dropR r out) :=
  ⟨v.h1, v.h4, v.s1, v.s4, Nat.le_trans dropF_len v.e6, Nat.le_trans dropF_len v.g4, v.st, fun e he => v.en e (dropF_sub he), fun s hs => v.si s (dropF_sub hs)⟩
/-- The first list of many, from a number on, without which there is a truth. -/
def leaveS (r : Reg) (S : Nat) : Nat → List Int → Nat → Option (List Int)
  | 0, out, _ => bif goesB (dropR r out) 0 0 0 then some out else none
  | k + 1, out, f => (List.range' f (S - f)).findSome? fun (i : Nat) => leaveS r S k (out ++ [(i : Int)]) (i + 1)
def leaveN (r : Reg) (S k : Nat) (out : List Int) (i : Nat) : Option (List Int) := (List.range' i (S - i)).findSome? fun (i : Nat) => leaveS r S k (out ++ [(i : Int)]) (i + 1)
theorem leaveN_step {r : Reg} {S k : Nat} {out : List Int} {i : Nat} (h : i < S) : leaveN r S k out i = (leaveS r S k (out ++ [(i : Int)]) (i + 1)).or (leaveN r S k out (i + 1)) := by
  unfold leaveN
  rw [show S - i = (S - (i + 1)) + 1 by omega, List.range'_succ, List.findSome?_cons]
  cases leaveS r S k (out ++ [(i : Int)]) (i + 1) <;> rfl
theorem leaveN_end {r : Reg} {S k : Nat} {out : List Int} {i : Nat} (h : S ≤ i) : leaveN r S k out i = none := by
  unfold leaveN
  rw [show S - i = 0 by omega]
  rfl
@[reducible] def leaveCa (r : Reg) (b2 b3 S : Nat) : List TV := [.val (.pointer (some ⟨b3, 0, none⟩)), .d (.ptr (regC r)), .d (.ptr [.int .i64 (S : Nat)]), .val (.pointer (some ⟨b2, 0, none⟩))]
@[reducible] def leaveRs (r : Reg) (b2 b3 S : Nat) (x : D) : List (Nat × Res) := [(1002, .box b2 125 [.fn (.func 71) [] (leaveCa r b2 b3 S)]), (1003, .box b3 22 [.d x])]
def LeaveX (r : Reg) (S k : Nat) (out : List Int) (f : Nat) : Type := {x : D // ∀ l, leaveS r S k out f = some l → x = ints l}
def LeaveOK (r : Reg) (b2 b3 S k : Nat) : Prop := ∀ (out : List Int) (f : Nat) (x : D), f ≤ 100 → out.length + k ≤ 100 →
  EffAt Try.prog 71 (.d (ints out) :: .d (.int .i64 (f : Nat)) :: .d (.int .i64 (k : Nat)) :: leaveCa r b2 b3 S) (leaveRs r b2 b3 S x) (X := LeaveX r S k out f) (fun _ => .d (.bool (leaveS r S k out f).isSome)) (fun x => leaveRs r b2 b3 S x.1)


theorem clone_ok (l : List Int) (hl : l.length ≤ 1000) : EffAt Try.prog 73 [.d (ints l)] [] (X := Value) (fun v => .val v) (fun v => [(1010, .row v 3 1 (l.map intE))]) := by
  refine EffAt.of_awp Try.func73 rfl (by kernel_rfl) rfl fun Γ hn => ?_
  refine awp_seq ?_
  refine awp_region ?_
  refine sq rfl rfl hn rfl (q_assign rfl rfl) ?_
  refine run_nil ?_
  refine aend_then ?_
  refine awp_seq ?_
  refine awp_seq ?_
  refine awp_region ?_
  refine sq rfl rfl hn rfl (q_move rfl rfl) ?_
  refine stepW (s_eqlNil rfl rfl rfl (nb hn rfl) Try.underlying22 rfl) fun ⟨nil4, hnil4⟩ => ?_
  refine run_nil ?_
  refine aend_then ?_
  refine awp_cond rfl (fun hb0 => ?_) (fun hb0 => ?_)
  · skip
    obtain rfl : l = [] := by have h0 := hnil4 hb0; simpa using h0
    refine awp_seq ?_
    refine awp_region ?_
    refine sq rfl rfl hn rfl (q_assign rfl rfl) ?_
    refine run_nil ?_
    refine aend_then ?_
    refine awp_ret ?_
    refine aend_then_ret ?_
    refine gh_end (g_nil (t := 2) (id := 1010) 3 1 rfl (nb hn rfl)) ?_
    exact ret_E (.inl rfl) (.slice none 0 0) (hands_1 rfl (.tmp rfl)) ⟨rfl, trivial⟩
  · skip
    refine awp_skip ?_
    refine aend_then ?_
    refine awp_seq ?_
    refine awp_region ?_
    refine stepW (s_buildRow 1010 rfl rfl rfl (nb hn rfl) Try.underlying22 sz3 zr3 rfl rfl rfl (show _ = [] from by kernel_rfl) (by kernel_rfl) rfl rfl rfl rfl rfl) fun v5 => ?_
    refine sq rfl rfl hn rfl (q_move rfl rfl) ?_
    refine stepW (s_append (id := 1010) rfl rfl rfl (nb hn rfl) elt22 trivial rfl rfl rfl (by simp [chunk]; omega) (by simp [chunk]; omega) (fun b hb => trivial)) fun v7 => ?_
    refine sq rfl rfl hn rfl (q_assign rfl rfl) ?_
    refine run_nil ?_
    refine aend_then ?_
    refine awp_ret ?_
    exact ret_E (.inl rfl) v7 (hands_1 rfl (.tmp rfl)) ⟨rfl, trivial⟩


theorem pref_take {α β : Type} {l : List α} {f : α → β} {i : Nat} {x : α} (h : l[i]? = some x) : (l.take i).map f ++ [f x] = (l.take (i + 1)).map f := by
  rw [List.take_add_one, h]; simp
theorem first_eff (r : Reg) : EffAt Try.prog 38 [.d (regD r)] [] (X := Unit) (fun _ => .d (.tup [.int .i64 (firstR r).1, .int .i64 (firstR r).2])) (fun _ => []) := by
  refine EffAt.of_awp Try.func38 rfl (by kernel_rfl) rfl fun Γ hn => ?_
  refine awp_seq ?_
  refine awp_region ?_
  refine stepW (s_box 1 rfl rfl rfl (nb hn rfl) rfl rfl) fun b1 => ?_
  refine sq rfl rfl hn rfl (q_assign rfl rfl) ?_
  refine sq rfl rfl hn rfl (q_assign rfl rfl) ?_
  refine run_nil ?_
  refine aend_then ?_
  refine awp_seq ?_
  refine awp_seq ?_
  refine awp_region ?_
  refine sq rfl rfl hn rfl (q_loadAd rfl rfl (id := 1) rfl Try.underlying35 rfl sz35 rfl rfl sees0) ?_
  refine stepW (s_call [] (fun _ => CheckRegister_ok _) rfl (guard_none rfl) rfl (nb hn rfl) (fun _ => trivial) rfl rfl (.refl _)) fun _ => ?_
  refine sq rfl rfl hn rfl (q_assign rfl rfl) ?_
  refine run_nil ?_
  refine aend_then ?_
  refine awp_seq ?_
  refine awp_region ?_
  refine sq rfl rfl hn rfl (q_move rfl rfl) ?_
  refine sq rfl rfl hn rfl (q_neq rfl rfl rfl) ?_
  refine run_nil ?_
  refine aend_then ?_
  refine awp_cond rfl (fun hb0 => ?_) (fun hb0 => ?_)
  · simp only [bne_iff_ne, ne_eq] at hb0
    have hc0 : checkE r ≠ 0 := hb0
    refine awp_seq ?_
    refine awp_region ?_
    refine sq rfl rfl hn rfl (q_move rfl rfl) ?_
    refine sq rfl rfl hn rfl (q_assign rfl rfl) ?_
    refine sq rfl rfl hn rfl (q_assign rfl rfl) ?_
    refine run_nil ?_
    refine aend_then ?_
    refine awp_ret ?_
    refine aend_then_ret ?_
    exact ret_E (.inl rfl) () ((hands_2d rfl (.tmp rfl) (.tmp rfl)).eq (by rw [firstR, if_pos hc0])) trivial
  · skip
    have hc0 : checkE r = 0 := by simpa using hb0
    have v := valid_of hc0
    have he6 := v.e6
    refine awp_skip ?_
    refine aend_then ?_
    refine awp_seq ?_
    refine awp_region ?_
    refine sq rfl rfl hn rfl (q_fieldAddr rfl rfl Try.underlying35 rfl sz3) ?_
    refine sq rfl rfl hn rfl (q_load rfl rfl (id := 1) rfl Try.underlying3 rfl rfl sees0) ?_
    refine sq rfl rfl hn rfl (q_fieldAddr rfl rfl Try.underlying35 rfl sz22) ?_
    refine sq rfl rfl hn rfl (q_load rfl rfl (id := 1) rfl Try.underlying22 rfl rfl sees0) ?_
    refine sq rfl rfl hn rfl (q_buildd rfl bt35 rfl rfl rfl rfl rfl) ?_
    refine stepW (s_alloc 5 rfl rfl rfl (nb hn rfl) zr35 rfl rfl) fun b5 => ?_
    refine stepW (s_store rfl rfl rfl rfl rfl rfl (id := 5) rfl sz35 rfl (Nat.le_of_ble_eq_true rfl) rfl trivial) fun _ => ?_
    refine run_nil ?_
    refine aend_then ?_
    refine awp_seq ?_
    refine awp_seq ?_
    refine gh_awp (gh_nilcell (id := 5) (k := 2) 502 95 6 rfl rfl) ?_
    refine awp_region ?_
    refine sq rfl rfl hn rfl (q_fieldAddr rfl rfl Try.underlying35 rfl sz32) ?_
    refine sq rfl rfl hn rfl (q_load rfl rfl (id := 1) rfl Try.underlying32 rfl rfl sees0) ?_
    refine sq rfl rfl hn rfl (q_len rfl rfl Try.underlying32) ?_
    refine sq rfl rfl hn rfl (q_move rfl rfl) ?_
    refine run_nil ?_
    refine aend_then ?_
    refine awp_block ?_
    refine awp_loop_on (ι := { x : Nat × Value // x.1 ≤ r.entries.length ∧ firstGo r (r.entries.length - x.1) x.1 = firstGo r r.entries.length 0 }) (fun x => (21, true, .d (.int .i64 (x.1.1 : Nat))) :: anys [22, 23, 24, 25, 7, 6, 26, 27, 28, 29, 30, 31, 32, 33, 34, 35, 36, 38]) (fun x => (5, .box b5 35 [.d (.int .i64 r.houses), .d (ints r.start), .val x.1.2, .d .nil]) :: (502, .row x.1.2 95 6 ((r.entries.take x.1.1).map entE)) :: gones [7, 1000]) (fun x => r.entries.length - x.1.1) ⟨(0, .slice none 0 0), by simp, by simp⟩ ⟨.inl rfl, holdT_anys _⟩ ⟨.inl rfl, .inl rfl, holdR_gones _⟩ ?_
    rintro ⟨⟨i, vv⟩, hi, hgo⟩
    dsimp only
    dsimp only at hi hgo
    refine awp_seq ?_
    refine awp_region ?_
    refine sq rfl rfl hn rfl (q_lss rfl rfl rfl) ?_
    refine run_nil ?_
    refine aend_then ?_
    refine awp_seq ?_
    refine awp_cond rfl (fun hb1 => ?_) (fun hb1 => ?_)
    · try simp only [decide_eq_true_eq, decide_eq_false_iff_not, Bool.and_eq_true, Bool.or_eq_true, Bool.and_eq_false_iff, Bool.or_eq_false_iff, Bool.not_eq_true', Bool.not_eq_false', beq_iff_eq, bne_iff_ne, ne_eq, beq_eq_false_iff_ne, bne_eq_false_iff_eq, Int.not_lt, Int.not_le] at hb1
      have hlt : i < r.entries.length := by simpa using hb1
      obtain ⟨x, hx⟩ := ex_get hlt
      refine awp_skip ?_
      refine aend_then ?_
      refine awp_seq ?_
      refine awp_block ?_
      refine awp_seq ?_
      refine awp_region ?_
      refine sq rfl rfl hn rfl (q_move rfl rfl) ?_
      refine sq rfl rfl hn rfl (q_index rfl rfl rfl Try.underlying32 sz95 rfl (mget hx)) ?_
      refine sq rfl rfl hn rfl (q_loadpA rfl rfl Try.underlying95 rfl sz95 rfl rfl seesF0) ?_
      refine stepW (s_alloc 7 rfl rfl rfl (nb hn rfl) zr95 rfl rfl) fun b7 => ?_
      refine sq rfl rfl hn rfl (q_assign rfl rfl) ?_
      refine stepW (s_store rfl rfl rfl rfl rfl rfl (id := 7) rfl sz95 rfl (Nat.le_of_ble_eq_true rfl) rfl trivial) fun _ => ?_
      refine run_nil ?_
      refine aend_then ?_
      refine awp_seq ?_
      refine awp_region ?_
      refine sq rfl rfl hn rfl (q_fieldAddr rfl rfl Try.underlying35 rfl sz32) ?_
      refine sq rfl rfl hn rfl (q_load rfl rfl (id := 5) rfl Try.underlying32 rfl rfl sees0) ?_
      refine sq rfl rfl hn rfl (q_loadAd rfl rfl (id := 7) rfl Try.underlying95 rfl sz95 rfl rfl sees0) ?_
      refine stepW (s_buildSlice rfl rfl rfl (nb hn rfl) Try.underlying32 sz95 zr95 rfl rfl rfl (show _ = [.d (.int .i64 0), .d (.int .i64 0), .d (.int .i64 0), .d (.int .i64 0), .d (.int .i64 0), .d (.int .i64 0)] from by kernel_rfl) (by kernel_rfl) rfl (fill_agg rfl rfl) (allD_d _) (beq_len rfl) (chunk_one rfl)) fun _ => ?_
      refine stepW (s_append (id := 502) rfl rfl rfl (nb hn rfl) elt32 trivial rfl rfl rfl (by simp; omega) (by simp; omega) (fun b hb => trivial)) fun v30 => ?_
      refine sq rfl rfl hn rfl (q_fieldAddr rfl rfl Try.underlying35 rfl sz32) ?_
      refine stepW (s_storeRow rfl rfl rfl rfl rfl (rid := 502) rfl (id := 5) rfl sz32 (Nat.le_of_ble_eq_true rfl) rfl trivial) fun _ => ?_
      refine run_nil ?_
      refine aend_then ?_
      refine awp_seq ?_
      rw [show (r.entries.take i).map entE ++ [entE x] = (r.entries.take (i + 1)).map entE from pref_take hx]
      refine awp_region ?_
      refine sq rfl rfl hn rfl (q_loadA rfl rfl (id := 5) rfl Try.underlying35 rfl sz35 rfl rfl sees0) ?_
      refine gh_run (g_aggrow (t := 32) (k := 2) (rid := 502) rfl rfl rfl rfl) ?_
      refine stepW (s_callE (work_ok (prefR r (i + 1))) rfl rfl rfl (nb hn rfl) (.d rfl) rfl (by first | exact .refl _ | (repeat (first | exact .refl _ | exact .d (.nil _) | exact .nil _ | refine .cons ?_ ?_ | refine .d ?_ | refine .agg ?_ | refine .tup ?_))) trivial (fun _ => rfl) (fun _ _ => trivial)) fun bw => ?_
      refine sq rfl rfl hn rfl (q_buildd rfl bt119 rfl rfl rfl rfl rfl) ?_
      refine stepW (s_callE (goes_ok (prefR r (i + 1)) (valid_pref v _) bw 0 0 0 _ (by omega) (Nat.zero_le _) (Nat.two_pow_pos _) (good_none _)) rfl rfl rfl (nb hn rfl) (.d rfl) rfl (.refl _) ⟨rfl, trivial⟩ (fun _ => rfl) (fun _ _ => trivial)) fun ⟨M1, hM1⟩ => ?_
      refine sq rfl rfl hn rfl (q_not rfl rfl) ?_
      refine run_nil ?_
      refine aend_then ?_
      refine awp_cond rfl (fun hb2 => ?_) (fun hb2 => ?_)
      · skip
        have hgt : goesB (prefR r (i + 1)) 0 0 0 = false := by simpa using hb2
        have hfr : firstR r = (((i : Nat) : Int), 0) := by rw [firstR, if_neg (by simp [hc0]), ← hgo, show r.entries.length - i = (r.entries.length - (i + 1)) + 1 by omega, firstGo, hgt]; rfl
        refine awp_seq ?_
        refine awp_region ?_
        refine sq rfl rfl hn rfl (q_move rfl rfl) ?_
        refine sq rfl rfl hn rfl (q_assign rfl rfl) ?_
        refine sq rfl rfl hn rfl (q_assign rfl rfl) ?_
        refine run_nil ?_
        refine aend_then ?_
        refine awp_ret ?_
        refine aend_block_ret ?_
        refine aend_then_ret ?_
        refine aend_then_ret ?_
        refine aend_block_ret ?_
        refine aend_then_ret ?_
        exact ret_E (.inl rfl) () ((hands_2d rfl (.tmp rfl) (.tmp rfl)).eq (by rw [hfr])) trivial
      · skip
        have hgt : goesB (prefR r (i + 1)) 0 0 0 = true := by simpa using hb2
        refine awp_skip ?_
        refine aend_block ?_
        refine aend_then ?_
        refine awp_region ?_
        refine sq rfl rfl hn rfl (q_add rfl rfl rfl (r := ((i + 1 : Nat) : Int)) (i64w (by omega) (by omega))) ?_
        refine sq rfl rfl hn rfl (q_move rfl rfl) ?_
        refine run_nil ?_
        exact aend_round_on ⟨(i + 1, v30), by simp only; omega, by simp only; rw [← hgo, show r.entries.length - i = (r.entries.length - (i + 1)) + 1 by omega, firstGo, hgt]; rfl⟩ ⟨.inl rfl, holdT_anys _⟩ ⟨.inl rfl, .inl rfl, holdR_gones _⟩ (by simp only; omega) (by repeat (first | exact kr _ | refine kc rfl ?_)) (by repeat (first | exact kr _ | refine kc rfl ?_))
    · try simp only [decide_eq_true_eq, decide_eq_false_iff_not, Bool.and_eq_true, Bool.or_eq_true, Bool.and_eq_false_iff, Bool.or_eq_false_iff, Bool.not_eq_true', Bool.not_eq_false', beq_iff_eq, bne_iff_ne, ne_eq, beq_eq_false_iff_ne, bne_eq_false_iff_eq, Int.not_lt, Int.not_le] at hb1
      have hie : i = r.entries.length := by simp only [List.length_map] at hb1; omega
      have hfr : firstR r = (0, 7) := by rw [firstR, if_neg (by simp [hc0]), ← hgo, hie, Nat.sub_self]; rfl
      refine awp_exit ?_
      refine aend_then_exit ?_
      refine aend_then_exit ?_
      refine aend_block_exit ?_
      refine aend_then ?_
      refine awp_seq ?_
      refine awp_region ?_
      refine sq rfl rfl hn rfl (q_assign rfl rfl) ?_
      refine sq rfl rfl hn rfl (q_assign rfl rfl) ?_
      refine run_nil ?_
      refine aend_then ?_
      refine awp_ret ?_
      exact ret_E (.inl rfl) () ((hands_2d rfl (.tmp rfl) (.tmp rfl)).eq (by rw [hfr])) trivial

theorem leave_step (r : Reg) (v : Valid r) (b2 b3 S k : Nat) (hS : S ≤ 50) (ih : ∀ k1, k = k1 + 1 → LeaveOK r b2 b3 S k1) (out : List Int) (f : Nat) (x : D) (hf : f ≤ 100) (hk : out.length + k ≤ 100) : EffAt Try.prog 71 (.d (ints out) :: .d (.int .i64 (f : Nat)) :: .d (.int .i64 (k : Nat)) :: leaveCa r b2 b3 S) (leaveRs r b2 b3 S x) (X := LeaveX r S k out f) (fun _ => .d (.bool (leaveS r S k out f).isSome)) (fun x => leaveRs r b2 b3 S x.1) := by
  have he6 := v.e6
  have hg4 := v.g4
  refine EffAt.of_awp Try.func71 rfl (by kernel_rfl) rfl fun Γ hn => ?_
  refine awp_seq ?_
  refine awp_region ?_
  refine sq rfl rfl hn rfl (q_assign rfl rfl) ?_
  refine run_nil ?_
  refine aend_then ?_
  refine awp_seq ?_
  refine awp_seq ?_
  refine awp_region ?_
  refine sq rfl rfl hn rfl (q_move rfl rfl) ?_
  refine sq rfl rfl hn rfl (q_eql rfl rfl rfl) ?_
  refine run_nil ?_
  refine aend_then ?_
  refine awp_cond rfl (fun hb0 => ?_) (fun hb0 => ?_)
  · try simp only [decide_eq_true_eq, decide_eq_false_iff_not, Bool.and_eq_true, Bool.or_eq_true, Bool.and_eq_false_iff, Bool.or_eq_false_iff, Bool.not_eq_true', Bool.not_eq_false', beq_iff_eq, bne_iff_ne, ne_eq, beq_eq_false_iff_ne, bne_eq_false_iff_eq, Int.not_lt, Int.not_le] at hb0
    obtain rfl : k = 0 := by omega
    refine awp_seq ?_
    refine awp_region ?_
    refine sq rfl rfl hn rfl (q_move rfl rfl) ?_
    refine stepW (s_store1 rfl rfl rfl rfl rfl rfl (id := 1003) rfl sz22 (Nat.le_of_ble_eq_true rfl) rfl trivial) fun _ => ?_
    refine run_nil ?_
    refine aend_then ?_
    refine awp_seq ?_
    refine awp_region ?_
    refine sq rfl rfl hn rfl (q_loadpA rfl rfl Try.underlying35 rfl sz35 rfl rfl seesF0) ?_
    refine sq rfl rfl hn rfl (q_move rfl rfl) ?_
    refine stepW (s_call [] (fun _ => without_ok r out (by omega) (by omega)) rfl (guard_none rfl) rfl (nb hn rfl) (fun _ => trivial) rfl rfl (.refl _)) fun _ => ?_
    refine stepW (s_callE (work_ok (dropR r out)) rfl rfl rfl (nb hn rfl) (.d rfl) rfl (.refl _) trivial (fun _ => rfl) (fun _ _ => trivial)) fun bw => ?_
    refine sq rfl rfl hn rfl (q_buildd rfl bt119 rfl rfl rfl rfl rfl) ?_
    refine stepW (s_callE (goes_ok (dropR r out) (valid_drop v out) bw 0 0 0 _ (by omega) (Nat.zero_le _) (Nat.two_pow_pos _) (good_none _)) rfl rfl rfl (nb hn rfl) (.d rfl) rfl (.refl _) ⟨rfl, trivial⟩ (fun _ => rfl) (fun _ _ => trivial)) fun ⟨M1, hM1⟩ => ?_
    refine sq rfl rfl hn rfl (q_assign rfl rfl) ?_
    refine run_nil ?_
    refine aend_then ?_
    refine awp_ret ?_
    refine aend_then_ret ?_
    exact ret_E (.inl rfl) ⟨ints out, fun l h => by cases hg : goesB (dropR r out) 0 0 0 <;> simp [leaveS, hg] at h; rw [h]⟩ ((hands_1 rfl (.tmp rfl)).eq (by cases hg : goesB (dropR r out) 0 0 0 <;> simp [leaveS, hg])) ⟨rfl, rfl, trivial⟩
  · try simp only [decide_eq_true_eq, decide_eq_false_iff_not, Bool.and_eq_true, Bool.or_eq_true, Bool.and_eq_false_iff, Bool.or_eq_false_iff, Bool.not_eq_true', Bool.not_eq_false', beq_iff_eq, bne_iff_ne, ne_eq, beq_eq_false_iff_ne, bne_eq_false_iff_eq, Int.not_lt, Int.not_le] at hb0
    obtain ⟨k, rfl⟩ : ∃ k1, k = k1 + 1 := ⟨k - 1, by omega⟩
    replace ih := ih k rfl
    refine awp_skip ?_
    refine aend_then ?_
    refine awp_seq ?_
    refine awp_seq ?_
    refine awp_region ?_
    refine sq rfl rfl hn rfl (q_move rfl rfl) ?_
    refine sq rfl rfl hn rfl (q_assign rfl rfl) ?_
    refine run_nil ?_
    refine aend_then ?_
    refine awp_block ?_
    refine awp_loop_on (ι := {x : Nat × D // f ≤ x.1 ∧ x.1 ≤ 150 ∧ leaveN r S k out f = leaveN r S k out x.1}) (fun x => (11, true, .d (.int .i64 (x.1.1 : Nat))) :: anys [22, 23, 24, 27, 28, 29, 30, 31, 32, 33, 34, 35, 36, 37, 25, 26]) (fun x => (1002, .box b2 125 [.fn (.func 71) [] (leaveCa r b2 b3 S)]) :: (1003, .box b3 22 [.d x.1.2]) :: gones [1010]) (fun x => S - x.1.1) ⟨(f, x), by simp, by simp only; omega, rfl⟩ ⟨.inl rfl, holdT_anys _⟩ ⟨.inl rfl, .inl rfl, holdR_gones _⟩ ?_
    rintro ⟨⟨i, x1⟩, hfi, hi, hle⟩
    dsimp only
    dsimp only at hfi hi hle
    refine awp_seq ?_
    refine awp_seq ?_
    refine awp_region ?_
    refine sq rfl rfl hn rfl (q_move rfl rfl) ?_
    refine sq rfl rfl hn rfl (q_loadp rfl rfl Try.underlying3 rfl seesF0) ?_
    refine sq rfl rfl hn rfl (q_lss rfl rfl rfl) ?_
    refine run_nil ?_
    refine aend_then ?_
    refine awp_cond rfl (fun hb1 => ?_) (fun hb1 => ?_)
    · try simp only [decide_eq_true_eq, decide_eq_false_iff_not, Bool.and_eq_true, Bool.or_eq_true, Bool.and_eq_false_iff, Bool.or_eq_false_iff, Bool.not_eq_true', Bool.not_eq_false', beq_iff_eq, bne_iff_ne, ne_eq, beq_eq_false_iff_ne, bne_eq_false_iff_eq, Int.not_lt, Int.not_le] at hb1
      have hlt : i < S := by omega
      have ih2 := ih (out ++ [(i : Int)]) (i + 1) x1 (by omega) (by simp; omega)
      rw [show ints (out ++ [(i : Int)]) = .slice 1 (out.map intE ++ [[.int .i64 (i : Int)]]) by simp] at ih2
      refine awp_skip ?_
      refine aend_then ?_
      refine awp_seq ?_
      refine awp_block ?_
      refine awp_seq ?_
      refine awp_join_on (e := .normal) (ι := LeaveX r S k (out ++ [(i : Int)]) (i + 1)) (fun x => (37, true, .d (.bool (leaveS r S k (out ++ [(i : Int)]) (i + 1)).isSome)) :: anys [27, 28, 29, 30, 31, 32, 33, 34, 35, 36]) (fun x => (1002, .box b2 125 [.fn (.func 71) [] (leaveCa r b2 b3 S)]) :: (1003, .box b3 22 [.d x.1]) :: gones [1010]) (fun hJ2 => ?_) ?_
      · skip
        refine d_start (W := fun b => True) fmo ?_
        refine d1q (i := 1) rfl (by kernel_rfl) (fun _ _ _ _ h => h) rfl rfl hn rfl (q_move rfl rfl) ?_
        refine d1q (i := 3) rfl (by kernel_rfl) (fun _ _ _ _ h => h) rfl rfl hn rfl (q_move rfl rfl) ?_
        refine d1q (i := 6) rfl (by kernel_rfl) (fun _ _ _ _ h => h) rfl rfl hn rfl (q_move rfl rfl) ?_
        refine d1q (i := 7) rfl (by kernel_rfl) (fun _ _ _ _ h => h) rfl rfl hn rfl (q_add rfl rfl rfl (r := ((i + 1 : Nat) : Int)) (i64w (by omega) rfl)) ?_
        refine d1q (i := 8) rfl (by kernel_rfl) (fun _ _ _ _ h => h) rfl rfl hn rfl (q_move rfl rfl) ?_
        refine d1q (i := 9) rfl (by kernel_rfl) (fun _ _ _ _ h => h) rfl rfl hn rfl (q_sub rfl rfl rfl (r := (k : Nat)) (i64w (by omega) (by omega))) ?_
        refine d1_of_d2 ?_
        refine d2_all 0 [2, 4] (by kernel_rfl) ⟨?_, ?_, ?_, trivial⟩
        · skip
          refine br rfl (quiet_wg _ [] (guard_none rfl) rfl (nb hn rfl) (fun _ => trivial) (fun _ => q_load rfl rfl (id := 1002) rfl Try.underlying125 rfl rfl sees0)) fun _ => ?_
          refine d2_of_d1 ?_
          refine d1_of_d2 ?_
          refine d2_all 2 [4] (by kernel_rfl) ⟨?_, ?_, trivial⟩
          · skip
            refine br rfl (s_callE (clone_ok out (by omega)) rfl rfl rfl (nb hn rfl) (.d rfl) rfl (.refl _) trivial (fun _ => rfl) (fun _ _ => trivial)) fun vc => ?_
            refine d2_of_d1 ?_
            refine d1_of_d2 ?_
            refine d2_one (i := 4) (by kernel_rfl) rfl (s_buildSlice rfl rfl rfl (nb hn rfl) Try.underlying22 sz3 zr3 rfl rfl rfl (show _ = [.d (.int .i64 0)] from by kernel_rfl) (by kernel_rfl) rfl rfl rfl rfl rfl) fun _ => ?_
            refine d2_of_d1 ?_
            refine d1_of_d2 ?_
            refine d2_one (i := 5) (by kernel_rfl) rfl (s_append (id := 1010) rfl rfl rfl (nb hn rfl) elt22 trivial rfl rfl rfl (by simp [chunk]; omega) (by simp [chunk]; omega) (fun b hb => trivial)) fun v32 => ?_
            refine d2_of_d1 ?_
            refine d1_of_d2 ?_
            refine gh_d2 (g_row (t := 32) (id := 1010) rfl rfl) ?_
            refine d2_one (i := 10) (by kernel_rfl) rfl (s_callE (ih2) rfl rfl rfl (nb hn rfl) (.t rfl) rfl (.refl _) ⟨rfl, rfl, trivial⟩ (fun _ => rfl) (fun _ _ => trivial)) fun ⟨x2, hx2⟩ => ?_
            refine d2_of_d1 ?_
            refine d1_of_d2 ?_
            refine d2_done (by kernel_rfl) ?_
            exact aend_join_on hJ2 ⟨x2, hx2⟩ ⟨.inl rfl, holdT_anys _⟩ ⟨.inl rfl, .inl rfl, holdR_gones _⟩ (by repeat (first | exact kr _ | refine kc rfl ?_)) (by repeat (first | exact kr _ | refine kc rfl ?_))
          · skip
            refine br rfl (s_buildSlice rfl rfl rfl (nb hn rfl) Try.underlying22 sz3 zr3 rfl rfl rfl (show _ = [.d (.int .i64 0)] from by kernel_rfl) (by kernel_rfl) rfl rfl rfl rfl rfl) fun _ => ?_
            refine d2_of_d1 ?_
            refine d1_of_d2 ?_
            refine d2_one (i := 2) (by kernel_rfl) rfl (s_callE (clone_ok out (by omega)) rfl rfl rfl (nb hn rfl) (.d rfl) rfl (.refl _) trivial (fun _ => rfl) (fun _ _ => trivial)) fun vc => ?_
            refine d2_of_d1 ?_
            refine d1_of_d2 ?_
            refine d2_one (i := 5) (by kernel_rfl) rfl (s_append (id := 1010) rfl rfl rfl (nb hn rfl) elt22 trivial rfl rfl rfl (by simp [chunk]; omega) (by simp [chunk]; omega) (fun b hb => trivial)) fun v32 => ?_
            refine d2_of_d1 ?_
            refine d1_of_d2 ?_
            refine gh_d2 (g_row (t := 32) (id := 1010) rfl rfl) ?_
            refine d2_one (i := 10) (by kernel_rfl) rfl (s_callE (ih2) rfl rfl rfl (nb hn rfl) (.t rfl) rfl (.refl _) ⟨rfl, rfl, trivial⟩ (fun _ => rfl) (fun _ _ => trivial)) fun ⟨x2, hx2⟩ => ?_
            refine d2_of_d1 ?_
            refine d1_of_d2 ?_
            refine d2_done (by kernel_rfl) ?_
            exact aend_join_on hJ2 ⟨x2, hx2⟩ ⟨.inl rfl, holdT_anys _⟩ ⟨.inl rfl, .inl rfl, holdR_gones _⟩ (by repeat (first | exact kr _ | refine kc rfl ?_)) (by repeat (first | exact kr _ | refine kc rfl ?_))
        · skip
          refine br rfl (s_callE (clone_ok out (by omega)) rfl rfl rfl (nb hn rfl) (.d rfl) rfl (.refl _) trivial (fun _ => rfl) (fun _ _ => trivial)) fun vc => ?_
          refine d2_of_d1 ?_
          refine d1_of_d2 ?_
          refine d2_all 0 [4] (by kernel_rfl) ⟨?_, ?_, trivial⟩
          · skip
            refine br rfl (quiet_wg _ [] (guard_none rfl) rfl (nb hn rfl) (fun _ => trivial) (fun _ => q_load rfl rfl (id := 1002) rfl Try.underlying125 rfl rfl sees0)) fun _ => ?_
            refine d2_of_d1 ?_
            refine d1_of_d2 ?_
            refine d2_one (i := 4) (by kernel_rfl) rfl (s_buildSlice rfl rfl rfl (nb hn rfl) Try.underlying22 sz3 zr3 rfl rfl rfl (show _ = [.d (.int .i64 0)] from by kernel_rfl) (by kernel_rfl) rfl rfl rfl rfl rfl) fun _ => ?_
            refine d2_of_d1 ?_
            refine d1_of_d2 ?_
            refine d2_one (i := 5) (by kernel_rfl) rfl (s_append (id := 1010) rfl rfl rfl (nb hn rfl) elt22 trivial rfl rfl rfl (by simp [chunk]; omega) (by simp [chunk]; omega) (fun b hb => trivial)) fun v32 => ?_
            refine d2_of_d1 ?_
            refine d1_of_d2 ?_
            refine gh_d2 (g_row (t := 32) (id := 1010) rfl rfl) ?_
            refine d2_one (i := 10) (by kernel_rfl) rfl (s_callE (ih2) rfl rfl rfl (nb hn rfl) (.t rfl) rfl (.refl _) ⟨rfl, rfl, trivial⟩ (fun _ => rfl) (fun _ _ => trivial)) fun ⟨x2, hx2⟩ => ?_
            refine d2_of_d1 ?_
            refine d1_of_d2 ?_
            refine d2_done (by kernel_rfl) ?_
            exact aend_join_on hJ2 ⟨x2, hx2⟩ ⟨.inl rfl, holdT_anys _⟩ ⟨.inl rfl, .inl rfl, holdR_gones _⟩ (by repeat (first | exact kr _ | refine kc rfl ?_)) (by repeat (first | exact kr _ | refine kc rfl ?_))
          · skip
            refine br rfl (s_buildSlice rfl rfl rfl (nb hn rfl) Try.underlying22 sz3 zr3 rfl rfl rfl (show _ = [.d (.int .i64 0)] from by kernel_rfl) (by kernel_rfl) rfl rfl rfl rfl rfl) fun _ => ?_
            refine d2_of_d1 ?_
            refine d1_of_d2 ?_
            refine d2_all 0 [5] (by kernel_rfl) ⟨?_, ?_, trivial⟩
            · skip
              refine br rfl (quiet_wg _ [] (guard_none rfl) rfl (nb hn rfl) (fun _ => trivial) (fun _ => q_load rfl rfl (id := 1002) rfl Try.underlying125 rfl rfl sees0)) fun _ => ?_
              refine d2_of_d1 ?_
              refine d1_of_d2 ?_
              refine d2_one (i := 5) (by kernel_rfl) rfl (s_append (id := 1010) rfl rfl rfl (nb hn rfl) elt22 trivial rfl rfl rfl (by simp [chunk]; omega) (by simp [chunk]; omega) (fun b hb => trivial)) fun v32 => ?_
              refine d2_of_d1 ?_
              refine d1_of_d2 ?_
              refine gh_d2 (g_row (t := 32) (id := 1010) rfl rfl) ?_
              refine d2_one (i := 10) (by kernel_rfl) rfl (s_callE (ih2) rfl rfl rfl (nb hn rfl) (.t rfl) rfl (.refl _) ⟨rfl, rfl, trivial⟩ (fun _ => rfl) (fun _ _ => trivial)) fun ⟨x2, hx2⟩ => ?_
              refine d2_of_d1 ?_
              refine d1_of_d2 ?_
              refine d2_done (by kernel_rfl) ?_
              exact aend_join_on hJ2 ⟨x2, hx2⟩ ⟨.inl rfl, holdT_anys _⟩ ⟨.inl rfl, .inl rfl, holdR_gones _⟩ (by repeat (first | exact kr _ | refine kc rfl ?_)) (by repeat (first | exact kr _ | refine kc rfl ?_))
            · skip
              refine br rfl (s_append (id := 1010) rfl rfl rfl (nb hn rfl) elt22 trivial rfl rfl rfl (by simp [chunk]; omega) (by simp [chunk]; omega) (fun b hb => trivial)) fun v32 => ?_
              refine d2_of_d1 ?_
              refine d1_of_d2 ?_
              refine d2_one (i := 0) (by kernel_rfl) rfl (quiet_wg _ [] (guard_none rfl) rfl (nb hn rfl) (fun _ => trivial) (fun _ => q_load rfl rfl (id := 1002) rfl Try.underlying125 rfl rfl sees0)) fun _ => ?_
              refine d2_of_d1 ?_
              refine d1_of_d2 ?_
              refine gh_d2 (g_row (t := 32) (id := 1010) rfl rfl) ?_
              refine d2_one (i := 10) (by kernel_rfl) rfl (s_callE (ih2) rfl rfl rfl (nb hn rfl) (.t rfl) rfl (.refl _) ⟨rfl, rfl, trivial⟩ (fun _ => rfl) (fun _ _ => trivial)) fun ⟨x2, hx2⟩ => ?_
              refine d2_of_d1 ?_
              refine d1_of_d2 ?_
              refine d2_done (by kernel_rfl) ?_
              exact aend_join_on hJ2 ⟨x2, hx2⟩ ⟨.inl rfl, holdT_anys _⟩ ⟨.inl rfl, .inl rfl, holdR_gones _⟩ (by repeat (first | exact kr _ | refine kc rfl ?_)) (by repeat (first | exact kr _ | refine kc rfl ?_))
        · skip
          refine br rfl (s_buildSlice rfl rfl rfl (nb hn rfl) Try.underlying22 sz3 zr3 rfl rfl rfl (show _ = [.d (.int .i64 0)] from by kernel_rfl) (by kernel_rfl) rfl rfl rfl rfl rfl) fun _ => ?_
          refine d2_of_d1 ?_
          refine d1_of_d2 ?_
          refine d2_all 0 [2] (by kernel_rfl) ⟨?_, ?_, trivial⟩
          · skip
            refine br rfl (quiet_wg _ [] (guard_none rfl) rfl (nb hn rfl) (fun _ => trivial) (fun _ => q_load rfl rfl (id := 1002) rfl Try.underlying125 rfl rfl sees0)) fun _ => ?_
            refine d2_of_d1 ?_
            refine d1_of_d2 ?_
            refine d2_one (i := 2) (by kernel_rfl) rfl (s_callE (clone_ok out (by omega)) rfl rfl rfl (nb hn rfl) (.d rfl) rfl (.refl _) trivial (fun _ => rfl) (fun _ _ => trivial)) fun vc => ?_
            refine d2_of_d1 ?_
            refine d1_of_d2 ?_
            refine d2_one (i := 5) (by kernel_rfl) rfl (s_append (id := 1010) rfl rfl rfl (nb hn rfl) elt22 trivial rfl rfl rfl (by simp [chunk]; omega) (by simp [chunk]; omega) (fun b hb => trivial)) fun v32 => ?_
            refine d2_of_d1 ?_
            refine d1_of_d2 ?_
            refine gh_d2 (g_row (t := 32) (id := 1010) rfl rfl) ?_
            refine d2_one (i := 10) (by kernel_rfl) rfl (s_callE (ih2) rfl rfl rfl (nb hn rfl) (.t rfl) rfl (.refl _) ⟨rfl, rfl, trivial⟩ (fun _ => rfl) (fun _ _ => trivial)) fun ⟨x2, hx2⟩ => ?_
            refine d2_of_d1 ?_
            refine d1_of_d2 ?_
            refine d2_done (by kernel_rfl) ?_
            exact aend_join_on hJ2 ⟨x2, hx2⟩ ⟨.inl rfl, holdT_anys _⟩ ⟨.inl rfl, .inl rfl, holdR_gones _⟩ (by repeat (first | exact kr _ | refine kc rfl ?_)) (by repeat (first | exact kr _ | refine kc rfl ?_))
          · skip
            refine br rfl (s_callE (clone_ok out (by omega)) rfl rfl rfl (nb hn rfl) (.d rfl) rfl (.refl _) trivial (fun _ => rfl) (fun _ _ => trivial)) fun vc => ?_
            refine d2_of_d1 ?_
            refine d1_of_d2 ?_
            refine d2_all 0 [5] (by kernel_rfl) ⟨?_, ?_, trivial⟩
            · skip
              refine br rfl (quiet_wg _ [] (guard_none rfl) rfl (nb hn rfl) (fun _ => trivial) (fun _ => q_load rfl rfl (id := 1002) rfl Try.underlying125 rfl rfl sees0)) fun _ => ?_
              refine d2_of_d1 ?_
              refine d1_of_d2 ?_
              refine d2_one (i := 5) (by kernel_rfl) rfl (s_append (id := 1010) rfl rfl rfl (nb hn rfl) elt22 trivial rfl rfl rfl (by simp [chunk]; omega) (by simp [chunk]; omega) (fun b hb => trivial)) fun v32 => ?_
              refine d2_of_d1 ?_
              refine d1_of_d2 ?_
              refine gh_d2 (g_row (t := 32) (id := 1010) rfl rfl) ?_
              refine d2_one (i := 10) (by kernel_rfl) rfl (s_callE (ih2) rfl rfl rfl (nb hn rfl) (.t rfl) rfl (.refl _) ⟨rfl, rfl, trivial⟩ (fun _ => rfl) (fun _ _ => trivial)) fun ⟨x2, hx2⟩ => ?_
              refine d2_of_d1 ?_
              refine d1_of_d2 ?_
              refine d2_done (by kernel_rfl) ?_
              exact aend_join_on hJ2 ⟨x2, hx2⟩ ⟨.inl rfl, holdT_anys _⟩ ⟨.inl rfl, .inl rfl, holdR_gones _⟩ (by repeat (first | exact kr _ | refine kc rfl ?_)) (by repeat (first | exact kr _ | refine kc rfl ?_))
            · skip
              refine br rfl (s_append (id := 1010) rfl rfl rfl (nb hn rfl) elt22 trivial rfl rfl rfl (by simp [chunk]; omega) (by simp [chunk]; omega) (fun b hb => trivial)) fun v32 => ?_
              refine d2_of_d1 ?_
              refine d1_of_d2 ?_
              refine d2_one (i := 0) (by kernel_rfl) rfl (quiet_wg _ [] (guard_none rfl) rfl (nb hn rfl) (fun _ => trivial) (fun _ => q_load rfl rfl (id := 1002) rfl Try.underlying125 rfl rfl sees0)) fun _ => ?_
              refine d2_of_d1 ?_
              refine d1_of_d2 ?_
              refine gh_d2 (g_row (t := 32) (id := 1010) rfl rfl) ?_
              refine d2_one (i := 10) (by kernel_rfl) rfl (s_callE (ih2) rfl rfl rfl (nb hn rfl) (.t rfl) rfl (.refl _) ⟨rfl, rfl, trivial⟩ (fun _ => rfl) (fun _ _ => trivial)) fun ⟨x2, hx2⟩ => ?_
              refine d2_of_d1 ?_
              refine d1_of_d2 ?_
              refine d2_done (by kernel_rfl) ?_
              exact aend_join_on hJ2 ⟨x2, hx2⟩ ⟨.inl rfl, holdT_anys _⟩ ⟨.inl rfl, .inl rfl, holdR_gones _⟩ (by repeat (first | exact kr _ | refine kc rfl ?_)) (by repeat (first | exact kr _ | refine kc rfl ?_))
      · rintro ⟨x2, hx2⟩
        dsimp only
        refine aend_then ?_
        refine awp_cond rfl (fun hb3 => ?_) (fun hb3 => ?_)
        · skip
          obtain ⟨l2, hl2⟩ := Option.isSome_iff_exists.1 hb3
          have hyes : leaveS r S (k + 1) out f = some l2 := by show leaveN r S k out f = some l2; rw [hle, leaveN_step hlt, hl2]; rfl
          refine awp_seq ?_
          refine awp_region ?_
          refine sq rfl rfl hn rfl (q_assign rfl rfl) ?_
          refine run_nil ?_
          refine aend_then ?_
          refine awp_ret ?_
          refine aend_block_ret ?_
          refine aend_then_ret ?_
          refine aend_then_ret ?_
          refine aend_block_ret ?_
          refine aend_then_ret ?_
          exact ret_E (.inl rfl) ⟨x2, fun l h => by rw [hyes] at h; cases h; exact hx2 _ hl2⟩ ((hands_1 rfl (.tmp rfl)).eq (by rw [hyes]; rfl)) ⟨rfl, rfl, trivial⟩
        · skip
          have hno : leaveS r S k (out ++ [(i : Int)]) (i + 1) = none := by cases h : leaveS r S k (out ++ [(i : Int)]) (i + 1) <;> simp_all
          refine awp_skip ?_
          refine aend_block ?_
          refine aend_then ?_
          refine awp_region ?_
          refine sq rfl rfl hn rfl (q_move rfl rfl) ?_
          refine sq rfl rfl hn rfl (q_add rfl rfl rfl (r := ((i + 1 : Nat) : Int)) (i64w (by omega) rfl)) ?_
          refine sq rfl rfl hn rfl (q_assign rfl rfl) ?_
          refine run_nil ?_
          exact aend_round_on ⟨(i + 1, x2), by simp only; omega, by simp only; omega, by simp only; rw [hle, leaveN_step hlt, hno]; rfl⟩ ⟨.inl rfl, holdT_anys _⟩ ⟨.inl rfl, .inl rfl, holdR_gones _⟩ (by simp only; omega) (by repeat (first | exact kr _ | refine kc rfl ?_)) (by repeat (first | exact kr _ | refine kc rfl ?_))
    · try simp only [decide_eq_true_eq, decide_eq_false_iff_not, Bool.and_eq_true, Bool.or_eq_true, Bool.and_eq_false_iff, Bool.or_eq_false_iff, Bool.not_eq_true', Bool.not_eq_false', beq_iff_eq, bne_iff_ne, ne_eq, beq_eq_false_iff_ne, bne_eq_false_iff_eq, Int.not_lt, Int.not_le] at hb1
      have hno : leaveS r S (k + 1) out f = none := by show leaveN r S k out f = none; rw [hle]; exact leaveN_end (by omega)
      refine awp_exit ?_
      refine aend_then_exit ?_
      refine aend_then_exit ?_
      refine aend_block_exit ?_
      refine aend_then ?_
      refine awp_seq ?_
      refine awp_region ?_
      refine sq rfl rfl hn rfl (q_assign rfl rfl) ?_
      refine run_nil ?_
      refine aend_then ?_
      refine awp_ret ?_
      exact ret_E (.inl rfl) ⟨x1, fun l h => by rw [hno] at h; cases h⟩ ((hands_1 rfl (.tmp rfl)).eq (by rw [hno]; rfl)) ⟨rfl, rfl, trivial⟩
end Go.Proofs.Ytnbmmopjkkofoaa
