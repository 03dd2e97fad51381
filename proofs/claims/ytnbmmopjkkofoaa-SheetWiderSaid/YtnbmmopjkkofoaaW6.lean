/-
  Walks by the rules of Base, printed by gen.py: the statements' own helpers, and more of the reference. No condition: no statement of the seat is proved here.
-/
import Derived.Test.YtnbmmopjkkofoaaW5
namespace Go.Proofs.Ytnbmmopjkkofoaa
open Go.RowKit
set_option maxRecDepth 20000
set_option linter.all false

@[reducible] def wordE (n : Nat) : List D := [.int .u16 (n : Nat)]
@[reducible] def wordsD (l : List Nat) : D := .slice 1 (l.map wordE)
/-- One of some words, or 0. -/
def wordN (l : List Nat) (i : Nat) : Nat := bif (l.length : Int) == 0 then 0 else l.getD (i % l.length) 0
/-- Those whose number is not in a list, from a number on. -/
def dropF {α : Type} (out : List Int) : Nat → List α → List α
  | _, [] => []
  | k, x :: xs => bif out.any (fun n => (k : Int) == n) then dropF out (k + 1) xs else x :: dropF out (k + 1) xs
def dropR (r : Reg) (out : List Int) : Reg := ⟨r.houses, r.start, dropF out 0 r.entries, dropF out r.entries.length r.sights⟩
theorem dropF_len {α : Type} {out : List Int} : ∀ {k : Nat} {l : List α}, (dropF out k l).length ≤ l.length
  | _, [] => Nat.le_refl _
  | k, x :: xs => by
    simp only [dropF]
    cases out.any (fun n => (k : Int) == n)
    · simpa using dropF_len
    · exact Nat.le_succ_of_le dropF_len
theorem dropF_append {α : Type} {out : List Int} {x : α} : ∀ {k : Nat} {l : List α}, dropF out k (l ++ [x]) = dropF out k l ++ (bif out.any (fun n => ((k + l.length : Nat) : Int) == n) then [] else [x])
  | k, [] => by simp only [List.nil_append, dropF, List.length_nil, Nat.add_zero]
  | k, y :: l => by
    simp only [List.cons_append, dropF, dropF_append (k := k + 1) (l := l), List.length_cons, show k + 1 + l.length = k + (l.length + 1) by omega]
    cases out.any (fun n => (k : Int) == n) <;> rfl
theorem dropF_take {α : Type} {out : List Int} {k i : Nat} {l : List α} {x : α} (h : l[i]? = some x) : dropF out k (l.take (i + 1)) = dropF out k (l.take i) ++ (bif out.any (fun n => ((k + i : Nat) : Int) == n) then [] else [x]) := by
  have hlt := (List.getElem?_eq_some_iff.1 h).1
  rw [List.take_add_one, h]
  simp only [Option.toList_some]
  rw [dropF_append, List.length_take, Nat.min_eq_left (by omega)]
theorem sz71 : Sz Try.prog 71 1 := (by kernel_rfl : (Try.prog.info? 71).map (·.size) = some 1)
theorem sz109 : Sz Try.prog 109 1 := (by kernel_rfl : (Try.prog.info? 109).map (·.size) = some 1)

theorem Contains_ok (l : List Int) (n : Int) : PureAt Try.prog 94 [ints l, .int .i64 n] (.bool (l.any fun x => n == x)) := by
  refine PureAt.of_awp Try.func94 rfl (by kernel_rfl) (Nat.le_of_ble_eq_true rfl) fun Γ hn hl => ?_
  refine awp_seq ?_
  refine awp_region ?_
  refine sq rfl rfl hn rfl (q_assign rfl rfl) ?_
  refine run_nil ?_
  refine aend_then ?_
  refine awp_seq ?_
  refine awp_region ?_
  refine sq rfl rfl hn rfl (q_move rfl rfl) ?_
  refine sq rfl rfl hn rfl (q_move rfl rfl) ?_
  refine stepW (s_call [] (fun _ => Index_ok _ _) rfl (guard_none rfl) rfl (nb hn rfl) (fun _ => trivial) rfl rfl (.refl _)) fun _ => ?_
  refine sq rfl rfl hn rfl (q_geq rfl rfl rfl) ?_
  refine sq rfl rfl hn rfl (q_assign rfl rfl) ?_
  refine run_nil ?_
  refine aend_then ?_
  refine awp_ret ?_
  refine ret_eq (ret_1 (.inl rfl) hl rfl (.tmp rfl)) ?_
  rw [idxOf_nonneg]

theorem word_ok (l : List Nat) (i : Nat) (hl6 : ∀ x ∈ l, x < 65536) : PureAt Try.prog 66 [wordsD l, .int .i64 (i : Nat)] (.int .i64 (wordN l i : Nat)) := by
  refine PureAt.of_awp Try.func66 rfl (by kernel_rfl) (Nat.le_of_ble_eq_true rfl) fun Γ hn hl => ?_
  refine awp_seq ?_
  refine awp_region ?_
  refine sq rfl rfl hn rfl (q_assign rfl rfl) ?_
  refine run_nil ?_
  refine aend_then ?_
  refine awp_seq ?_
  refine awp_seq ?_
  refine awp_region ?_
  refine sq rfl rfl hn rfl (q_move rfl rfl) ?_
  refine sq rfl rfl hn rfl (q_len rfl rfl Try.underlying52) ?_
  refine sq rfl rfl hn rfl (q_eql rfl rfl rfl) ?_
  refine run_nil ?_
  refine aend_then ?_
  refine awp_cond rfl (fun hb0 => ?_) (fun hb0 => ?_)
  · skip
    refine awp_seq ?_
    refine awp_region ?_
    refine sq rfl rfl hn rfl (q_assign rfl rfl) ?_
    refine run_nil ?_
    refine aend_then ?_
    refine awp_ret ?_
    refine aend_then_ret ?_
    refine ret_eq (ret_1 (.inl rfl) hl rfl (.tmp rfl)) ?_
    simp only [List.length_map] at hb0; rw [wordN, hb0]; rfl
  · skip
    have hpos : 0 < l.length := by simp at hb0; exact List.length_pos_iff.2 hb0
    have hlt : i % l.length < l.length := Nat.mod_lt _ hpos
    obtain ⟨x, hx⟩ := ex_get hlt
    have hx6 := hl6 x (List.mem_of_getElem? hx)
    refine awp_skip ?_
    refine aend_then ?_
    refine awp_seq ?_
    refine awp_region ?_
    refine sq rfl rfl hn rfl (q_move rfl rfl) ?_
    refine sq rfl rfl hn rfl (q_move rfl rfl) ?_
    refine sq rfl rfl hn rfl (q_move rfl rfl) ?_
    refine sq rfl rfl hn rfl (q_len rfl rfl Try.underlying52) ?_
    refine sq rfl rfl hn rfl (q_rem rfl rfl rfl (r := ((i % l.length : Nat) : Int)) (by simp only [List.length_map]; omega) (by simp only [List.length_map]; rw [Int.ofNat_tmod])) ?_
    refine sq rfl rfl hn rfl (q_index rfl rfl rfl Try.underlying52 sz71 rfl (mget hx)) ?_
    refine sq rfl rfl hn rfl (q_loadp rfl rfl Try.underlying71 rfl seesF0) ?_
    refine sq rfl rfl hn rfl (q_conv rfl rfl Try.underlying71 Try.underlying3 (i64w (by omega) rfl)) ?_
    refine sq rfl rfl hn rfl (q_assign rfl rfl) ?_
    refine run_nil ?_
    refine aend_then ?_
    refine awp_ret ?_
    refine ret_eq (ret_1 (.inl rfl) hl rfl (.tmp rfl)) ?_
    simp only [List.length_map] at hb0; rw [wordN, hb0]; simp only [cond_false]; rw [List.getD_eq_getElem?_getD, hx]; rfl


theorem dr_f {α : Type} {out : List Int} {k i : Nat} {l : List α} {x : α} {f : α → List D} (h : l[i]? = some x) (hb : (out.any fun n => ((k + i : Nat) : Int) == n) = false) : (dropF out k (l.take i)).map f ++ [f x] = (dropF out k (l.take (i + 1))).map f := by
  rw [dropF_take h, hb]; simp
theorem dr_t {α : Type} {out : List Int} {k i : Nat} {l : List α} {x : α} {f : α → List D} (h : l[i]? = some x) (hb : (out.any fun n => ((k + i : Nat) : Int) == n) = true) : (dropF out k (l.take i)).map f = (dropF out k (l.take (i + 1))).map f := by
  rw [dropF_take h, hb]; simp
theorem without_ok (r : Reg) (out : List Int) (h2 : r.entries.length ≤ 20) (h3 : r.sights.length ≤ 20) : PureAt Try.prog 72 [regD r, ints out] (regD (dropR r out)) := by
  refine PureAt.of_awp Try.func72 rfl (by kernel_rfl) (Nat.le_of_ble_eq_true rfl) fun Γ hn hl => ?_
  refine awp_seq ?_
  refine awp_region ?_
  refine stepW (s_box 2 rfl rfl rfl (nb hn rfl) rfl rfl) fun b2 => ?_
  refine stepW (s_alloc 4 rfl rfl rfl (nb hn rfl) zr35 rfl rfl) fun b4 => ?_
  refine run_nil ?_
  refine aend_then ?_
  refine awp_seq ?_
  refine awp_region ?_
  refine sq rfl rfl hn rfl (q_fieldAddr rfl rfl Try.underlying35 rfl sz3) ?_
  refine sq rfl rfl hn rfl (q_load rfl rfl (id := 2) rfl Try.underlying3 rfl rfl sees0) ?_
  refine sq rfl rfl hn rfl (q_fieldAddr rfl rfl Try.underlying35 rfl sz22) ?_
  refine sq rfl rfl hn rfl (q_load rfl rfl (id := 2) rfl Try.underlying22 rfl rfl sees0) ?_
  refine sq rfl rfl hn rfl (q_buildd rfl bt35 rfl rfl rfl rfl rfl) ?_
  refine stepW (s_alloc 5 rfl rfl rfl (nb hn rfl) zr35 rfl rfl) fun b5 => ?_
  refine stepW (s_store rfl rfl rfl rfl rfl rfl (id := 5) rfl sz35 rfl (Nat.le_of_ble_eq_true rfl) rfl trivial) fun _ => ?_
  refine run_nil ?_
  refine aend_then ?_
  refine awp_seq ?_
  refine awp_seq ?_
  refine gh_awp (gh_nilcell (id := 5) (k := 2) 502 95 6 rfl rfl) ?_
  refine gh_awp (gh_nilcell (id := 5) (k := 3) 503 92 3 rfl rfl) ?_
  refine awp_region ?_
  refine sq rfl rfl hn rfl (q_fieldAddr rfl rfl Try.underlying35 rfl sz32) ?_
  refine sq rfl rfl hn rfl (q_load rfl rfl (id := 2) rfl Try.underlying32 rfl rfl sees0) ?_
  refine sq rfl rfl hn rfl (q_len rfl rfl Try.underlying32) ?_
  refine sq rfl rfl hn rfl (q_move rfl rfl) ?_
  refine run_nil ?_
  refine aend_then ?_
  refine awp_block ?_
  refine awp_loop_on (ι := { x : Nat × Value // x.1 ≤ r.entries.length }) (fun x => (18, true, .d (.int .i64 (x.1.1 : Nat))) :: anys [19, 20, 21, 22, 7, 6, 23, 24, 25, 26, 27, 28, 29, 30, 31, 32, 33]) (fun x => (5, .box b5 35 [.d (.int .i64 r.houses), .d (ints r.start), .val x.1.2, .val (.slice none 0 0)]) :: (502, .row x.1.2 95 6 ((dropF out 0 (r.entries.take x.1.1)).map entE)) :: gones [7]) (fun x => r.entries.length - x.1.1) ⟨(0, .slice none 0 0), by simp⟩ ⟨.inl rfl, holdT_anys _⟩ ⟨.inl rfl, .inl rfl, holdR_gones _⟩ ?_
  rintro ⟨⟨i, vv⟩, hi⟩
  dsimp only
  dsimp only at hi
  have hkl := dropF_len (out := out) (k := 0) (l := r.entries.take i)
  rw [List.length_take] at hkl
  refine awp_seq ?_
  refine awp_region ?_
  refine sq rfl rfl hn rfl (q_lss rfl rfl rfl) ?_
  refine run_nil ?_
  refine aend_then ?_
  refine awp_seq ?_
  refine awp_cond rfl (fun hb0 => ?_) (fun hb0 => ?_)
  · try simp only [decide_eq_true_eq, decide_eq_false_iff_not, Bool.and_eq_true, Bool.or_eq_true, Bool.and_eq_false_iff, Bool.or_eq_false_iff, Bool.not_eq_true', Bool.not_eq_false', beq_iff_eq, bne_iff_ne, ne_eq, beq_eq_false_iff_ne, bne_eq_false_iff_eq, Int.not_lt, Int.not_le] at hb0
    have hlt : i < r.entries.length := by simpa using hb0
    obtain ⟨x, hx⟩ := ex_get hlt
    refine awp_skip ?_
    refine aend_then ?_
    refine awp_seq ?_
    refine awp_block ?_
    refine awp_seq ?_
    refine awp_region ?_
    refine sq rfl rfl hn rfl (q_move rfl rfl) ?_
    refine sq rfl rfl hn rfl (q_index rfl rfl rfl Try.underlying32 sz95 rfl (mget hx)) ?_
    refine sq rfl rfl hn rfl (q_loadpA rfl rfl Try.underlying95 rfl sz95 rfl rfl seesF0) ?_
    refine stepW (s_alloc 7 rfl rfl rfl (nb hn rfl) zr95 rfl rfl) fun b7 => ?_
    refine sq rfl rfl hn rfl (q_assign rfl rfl) ?_
    refine stepW (s_store rfl rfl rfl rfl rfl rfl (id := 7) rfl sz95 rfl (Nat.le_of_ble_eq_true rfl) rfl trivial) fun _ => ?_
    refine run_nil ?_
    refine aend_then ?_
    refine awp_seq ?_
    refine awp_region ?_
    refine sq rfl rfl hn rfl (q_move rfl rfl) ?_
    refine sq rfl rfl hn rfl (q_move rfl rfl) ?_
    refine stepW (s_call [] (fun _ => Contains_ok out (i : Int)) rfl (guard_none rfl) rfl (nb hn rfl) (fun _ => trivial) rfl rfl (.refl _)) fun _ => ?_
    refine sq rfl rfl hn rfl (q_not rfl rfl) ?_
    refine run_nil ?_
    refine aend_then ?_
    refine awp_cond rfl (fun hb1 => ?_) (fun hb1 => ?_)
    · skip
      refine awp_region ?_
      refine sq rfl rfl hn rfl (q_fieldAddr rfl rfl Try.underlying35 rfl sz32) ?_
      refine sq rfl rfl hn rfl (q_load rfl rfl (id := 5) rfl Try.underlying32 rfl rfl sees0) ?_
      refine sq rfl rfl hn rfl (q_loadAd rfl rfl (id := 7) rfl Try.underlying95 rfl sz95 rfl rfl sees0) ?_
      refine stepW (s_buildSlice rfl rfl rfl (nb hn rfl) Try.underlying32 sz95 zr95 rfl rfl rfl (show _ = [.d (.int .i64 0), .d (.int .i64 0), .d (.int .i64 0), .d (.int .i64 0), .d (.int .i64 0), .d (.int .i64 0)] from by kernel_rfl) (by kernel_rfl) rfl (fill_agg rfl rfl) (allD_d _) (beq_len rfl) (chunk_one rfl)) fun _ => ?_
      refine stepW (s_append (id := 502) rfl rfl rfl (nb hn rfl) elt32 trivial rfl rfl rfl (by simp; omega) (by simp; omega) (fun b hb => trivial)) fun v31 => ?_
      refine sq rfl rfl hn rfl (q_fieldAddr rfl rfl Try.underlying35 rfl sz32) ?_
      refine stepW (s_storeRow rfl rfl rfl rfl rfl (rid := 502) rfl (id := 5) rfl sz32 (Nat.le_of_ble_eq_true rfl) rfl trivial) fun _ => ?_
      refine run_nil ?_
      refine aend_block ?_
      refine aend_then ?_
      refine awp_region ?_
      refine sq rfl rfl hn rfl (q_add rfl rfl rfl (r := ((i + 1 : Nat) : Int)) (i64w (by omega) (by omega))) ?_
      refine sq rfl rfl hn rfl (q_move rfl rfl) ?_
      refine run_nil ?_
      exact aend_round_on ⟨(i + 1, v31), by simp only; omega⟩ ⟨.inl rfl, holdT_anys _⟩ ⟨.inl rfl, .inl (congrArg (fun z => some (Res.row v31 95 6 z)) (dr_f (f := entE) hx (by rw [Nat.zero_add]; exact notT hb1))), holdR_gones _⟩ (by simp only; omega) (by repeat (first | exact kr _ | refine kc rfl ?_)) (by repeat (first | exact kr _ | refine kc rfl ?_))
    · skip
      refine awp_skip ?_
      refine aend_block ?_
      refine aend_then ?_
      refine awp_region ?_
      refine sq rfl rfl hn rfl (q_add rfl rfl rfl (r := ((i + 1 : Nat) : Int)) (i64w (by omega) (by omega))) ?_
      refine sq rfl rfl hn rfl (q_move rfl rfl) ?_
      refine run_nil ?_
      exact aend_round_on ⟨(i + 1, vv), by simp only; omega⟩ ⟨.inl rfl, holdT_anys _⟩ ⟨.inl rfl, .inl (congrArg (fun z => some (Res.row vv 95 6 z)) (dr_t (f := entE) hx (by rw [Nat.zero_add]; exact notF hb1))), holdR_gones _⟩ (by simp only; omega) (by repeat (first | exact kr _ | refine kc rfl ?_)) (by repeat (first | exact kr _ | refine kc rfl ?_))
  · try simp only [decide_eq_true_eq, decide_eq_false_iff_not, Bool.and_eq_true, Bool.or_eq_true, Bool.and_eq_false_iff, Bool.or_eq_false_iff, Bool.not_eq_true', Bool.not_eq_false', beq_iff_eq, bne_iff_ne, ne_eq, beq_eq_false_iff_ne, bne_eq_false_iff_eq, Int.not_lt, Int.not_le] at hb0
    have hie : i = r.entries.length := by simp only [List.length_map] at hb0; omega
    subst hie; rw [List.take_length]
    refine awp_exit ?_
    refine aend_then_exit ?_
    refine aend_then_exit ?_
    refine aend_block_exit ?_
    refine aend_then ?_
    refine awp_seq ?_
    refine awp_seq ?_
    refine awp_region ?_
    refine sq rfl rfl hn rfl (q_fieldAddr rfl rfl Try.underlying35 rfl sz33) ?_
    refine sq rfl rfl hn rfl (q_load rfl rfl (id := 2) rfl Try.underlying33 rfl rfl sees0) ?_
    refine sq rfl rfl hn rfl (q_len rfl rfl Try.underlying33) ?_
    refine sq rfl rfl hn rfl (q_move rfl rfl) ?_
    refine run_nil ?_
    refine aend_then ?_
    refine awp_block ?_
    refine awp_loop_on (ι := { x : Nat × Value // x.1 ≤ r.sights.length }) (fun x => (37, true, .d (.int .i64 (x.1.1 : Nat))) :: anys [38, 39, 40, 41, 9, 8, 42, 43, 44, 45, 46, 47, 48, 49, 50, 51, 52, 53, 54, 55, 56]) (fun x => (5, .box b5 35 [.d (.int .i64 r.houses), .d (ints r.start), .val vv, .val x.1.2]) :: (503, .row x.1.2 92 3 ((dropF out r.entries.length (r.sights.take x.1.1)).map sightE)) :: gones [9]) (fun x => r.sights.length - x.1.1) ⟨(0, .slice none 0 0), by simp⟩ ⟨.inl rfl, holdT_anys _⟩ ⟨.inl rfl, .inl rfl, holdR_gones _⟩ ?_
    rintro ⟨⟨j, vw⟩, hj⟩
    dsimp only
    dsimp only at hj
    have hkl := dropF_len (out := out) (k := r.entries.length) (l := r.sights.take j)
    rw [List.length_take] at hkl
    refine awp_seq ?_
    refine awp_region ?_
    refine sq rfl rfl hn rfl (q_lss rfl rfl rfl) ?_
    refine run_nil ?_
    refine aend_then ?_
    refine awp_seq ?_
    refine awp_cond rfl (fun hb2 => ?_) (fun hb2 => ?_)
    · try simp only [decide_eq_true_eq, decide_eq_false_iff_not, Bool.and_eq_true, Bool.or_eq_true, Bool.and_eq_false_iff, Bool.or_eq_false_iff, Bool.not_eq_true', Bool.not_eq_false', beq_iff_eq, bne_iff_ne, ne_eq, beq_eq_false_iff_ne, bne_eq_false_iff_eq, Int.not_lt, Int.not_le] at hb2
      have hlt : j < r.sights.length := by simpa using hb2
      obtain ⟨x, hx⟩ := ex_get hlt
      refine awp_skip ?_
      refine aend_then ?_
      refine awp_seq ?_
      refine awp_block ?_
      refine awp_seq ?_
      refine awp_region ?_
      refine sq rfl rfl hn rfl (q_move rfl rfl) ?_
      refine sq rfl rfl hn rfl (q_index rfl rfl rfl Try.underlying33 sz92 rfl (mget hx)) ?_
      refine sq rfl rfl hn rfl (q_loadpA rfl rfl Try.underlying92 rfl sz92 rfl rfl seesF0) ?_
      refine stepW (s_alloc 9 rfl rfl rfl (nb hn rfl) zr92 rfl rfl) fun b9 => ?_
      refine sq rfl rfl hn rfl (q_assign rfl rfl) ?_
      refine stepW (s_store rfl rfl rfl rfl rfl rfl (id := 9) rfl sz92 rfl (Nat.le_of_ble_eq_true rfl) rfl trivial) fun _ => ?_
      refine run_nil ?_
      refine aend_then ?_
      refine awp_seq ?_
      refine awp_region ?_
      refine sq rfl rfl hn rfl (q_move rfl rfl) ?_
      refine sq rfl rfl hn rfl (q_fieldAddr rfl rfl Try.underlying35 rfl sz32) ?_
      refine sq rfl rfl hn rfl (q_load rfl rfl (id := 2) rfl Try.underlying32 rfl rfl sees0) ?_
      refine sq rfl rfl hn rfl (q_len rfl rfl Try.underlying32) ?_
      refine sq rfl rfl hn rfl (q_move rfl rfl) ?_
      refine sq rfl rfl hn rfl (q_add rfl rfl rfl (r := ((r.entries.length + j : Nat) : Int)) (i64w (by simp only [List.length_map]; omega) (by simp only [List.length_map]; omega))) ?_
      refine stepW (s_call [] (fun _ => Contains_ok out ((r.entries.length + j : Nat) : Int)) rfl (guard_none rfl) rfl (nb hn rfl) (fun _ => trivial) rfl rfl (.refl _)) fun _ => ?_
      refine sq rfl rfl hn rfl (q_not rfl rfl) ?_
      refine run_nil ?_
      refine aend_then ?_
      refine awp_cond rfl (fun hb3 => ?_) (fun hb3 => ?_)
      · skip
        refine awp_region ?_
        refine sq rfl rfl hn rfl (q_fieldAddr rfl rfl Try.underlying35 rfl sz33) ?_
        refine sq rfl rfl hn rfl (q_load rfl rfl (id := 5) rfl Try.underlying33 rfl rfl sees0) ?_
        refine sq rfl rfl hn rfl (q_loadAd rfl rfl (id := 9) rfl Try.underlying92 rfl sz92 rfl rfl sees0) ?_
        refine stepW (s_buildSlice rfl rfl rfl (nb hn rfl) Try.underlying33 sz92 zr92 rfl rfl rfl (show _ = [.d (.int .i64 0), .d (.int .i64 0), .d (.int .i64 0)] from by kernel_rfl) (by kernel_rfl) rfl (fill_agg rfl rfl) (allD_d _) (beq_len rfl) (chunk_one rfl)) fun _ => ?_
        refine stepW (s_append (id := 503) rfl rfl rfl (nb hn rfl) elt33 trivial rfl rfl rfl (by simp; omega) (by simp; omega) (fun b hb => trivial)) fun v54 => ?_
        refine sq rfl rfl hn rfl (q_fieldAddr rfl rfl Try.underlying35 rfl sz33) ?_
        refine stepW (s_storeRow rfl rfl rfl rfl rfl (rid := 503) rfl (id := 5) rfl sz33 (Nat.le_of_ble_eq_true rfl) rfl trivial) fun _ => ?_
        refine run_nil ?_
        refine aend_block ?_
        refine aend_then ?_
        refine awp_region ?_
        refine sq rfl rfl hn rfl (q_add rfl rfl rfl (r := ((j + 1 : Nat) : Int)) (i64w (by omega) (by omega))) ?_
        refine sq rfl rfl hn rfl (q_move rfl rfl) ?_
        refine run_nil ?_
        exact aend_round_on ⟨(j + 1, v54), by simp only; omega⟩ ⟨.inl rfl, holdT_anys _⟩ ⟨.inl rfl, .inl (congrArg (fun z => some (Res.row v54 92 3 z)) (dr_f (f := sightE) hx (notT hb3))), holdR_gones _⟩ (by simp only; omega) (by repeat (first | exact kr _ | refine kc rfl ?_)) (by repeat (first | exact kr _ | refine kc rfl ?_))
      · skip
        refine awp_skip ?_
        refine aend_block ?_
        refine aend_then ?_
        refine awp_region ?_
        refine sq rfl rfl hn rfl (q_add rfl rfl rfl (r := ((j + 1 : Nat) : Int)) (i64w (by omega) (by omega))) ?_
        refine sq rfl rfl hn rfl (q_move rfl rfl) ?_
        refine run_nil ?_
        exact aend_round_on ⟨(j + 1, vw), by simp only; omega⟩ ⟨.inl rfl, holdT_anys _⟩ ⟨.inl rfl, .inl (congrArg (fun z => some (Res.row vw 92 3 z)) (dr_t (f := sightE) hx (notF hb3))), holdR_gones _⟩ (by simp only; omega) (by repeat (first | exact kr _ | refine kc rfl ?_)) (by repeat (first | exact kr _ | refine kc rfl ?_))
    · try simp only [decide_eq_true_eq, decide_eq_false_iff_not, Bool.and_eq_true, Bool.or_eq_true, Bool.and_eq_false_iff, Bool.or_eq_false_iff, Bool.not_eq_true', Bool.not_eq_false', beq_iff_eq, bne_iff_ne, ne_eq, beq_eq_false_iff_ne, bne_eq_false_iff_eq, Int.not_lt, Int.not_le] at hb2
      have hje : j = r.sights.length := by simp only [List.length_map] at hb2; omega
      subst hje; rw [List.take_length]
      refine awp_exit ?_
      refine aend_then_exit ?_
      refine aend_then_exit ?_
      refine aend_block_exit ?_
      refine aend_then ?_
      refine awp_seq ?_
      refine gh_awp (gh_rowcell (id := 5) (k := 2) (rid := 502) rfl rfl rfl) ?_
      refine gh_awp (gh_rowcell (id := 5) (k := 3) (rid := 503) rfl rfl rfl) ?_
      refine awp_region ?_
      refine sq rfl rfl hn rfl (q_loadAd rfl rfl (id := 5) rfl Try.underlying35 rfl sz35 rfl rfl sees0) ?_
      refine stepW (s_store rfl rfl rfl rfl rfl rfl (id := 4) rfl sz35 rfl (Nat.le_of_ble_eq_true rfl) rfl trivial) fun _ => ?_
      refine run_nil ?_
      refine aend_then ?_
      refine awp_ret ?_
      exact ret_1 (.inl rfl) hl rfl (.cellA rfl (id := 4) rfl Try.underlying35 rfl sz35 rfl rfl)


theorem minL_le {x : Int} {l : List Int} : ∀ y ∈ x :: l, minL x l ≤ y := by
  unfold minL
  induction l generalizing x with
  | nil => intro y hy; simp at hy; simp [hy]
  | cons z l ih =>
    intro y hy
    simp only [List.foldl_cons]
    rcases List.mem_cons.1 hy with rfl | hy
    · exact Int.le_trans (ih _ (List.mem_cons_self)) (Int.min_le_left _ _)
    · rcases List.mem_cons.1 hy with rfl | hy
      · exact Int.le_trans (ih _ (List.mem_cons_self)) (Int.min_le_right _ _)
      · exact ih y (List.mem_cons_of_mem _ hy)
theorem minL_mem {x : Int} {l : List Int} : minL x l ∈ x :: l := by
  unfold minL
  induction l generalizing x with
  | nil => simp
  | cons z l ih =>
    simp only [List.foldl_cons]
    rcases List.mem_cons.1 (ih (x := min x z)) with h | h
    · rw [h]
      by_cases hz : x ≤ z
      · rw [Int.min_eq_left hz]; simp
      · rw [Int.min_eq_right (by omega)]; simp
    · simp [h]
def maxL (x : Int) (l : List Int) : Int := -(minL (-x) (l.map fun n => -n))
theorem maxL_ge {x : Int} {l : List Int} : ∀ y ∈ x :: l, y ≤ maxL x l := by
  intro y hy
  have := minL_le (x := -x) (l := l.map fun n => -n) (-y) (by rcases List.mem_cons.1 hy with rfl | hy; simp; exact List.mem_cons_of_mem _ (List.mem_map.2 ⟨y, hy, rfl⟩))
  unfold maxL
  omega
theorem maxL_mem {x : Int} {l : List Int} : maxL x l ∈ x :: l := by
  have := minL_mem (x := -x) (l := l.map fun n => -n)
  unfold maxL
  rcases List.mem_cons.1 this with h | h
  · rw [h]; simp
  · obtain ⟨n, hn, e⟩ := List.mem_map.1 h
    rw [← e]
    simp [hn]

theorem take_map2 {l : List Nat} {f : Nat → Int} {i : Nat} {x : Nat} (h : l[i]? = some x) : ((l.take i).map f).map intE ++ [intE (f x)] = ((l.take (i + 1)).map f).map intE := by rw [List.take_add_one, h]; simp
theorem bd_neg {d0 : Nat} {l : List Nat} {N : Nat → Int} (hN : ∀ d ∈ d0 :: l, -1000 ≤ N d ∧ N d ≤ 1000) : -9223372036854775808 ≤ 0 - minL (-(N d0)) (l.map fun d => -(N d)) ∧ 0 - minL (-(N d0)) (l.map fun d => -(N d)) ≤ 9223372036854775807 := by
  rcases List.mem_cons.1 (minL_mem (x := -(N d0)) (l := l.map fun d => -(N d))) with h | h
  · rw [h]; have := hN d0 (by simp); omega
  · obtain ⟨d, hd, e⟩ := List.mem_map.1 h
    rw [← e]
    have := hN d (List.mem_cons_of_mem _ hd)
    omega
theorem bounds_ok (r : Reg) (f : FuncId) (a b : Int) (d0 : Nat) (l : List Nat) (N : Nat → Int) (hN : ∀ d ∈ d0 :: l, -1000 ≤ N d ∧ N d ≤ 1000) (hll : l.length ≤ 1000000) (hp : ∀ d ∈ d0 :: l, PureAt Try.prog f [regD r, .int .u64 (d : Nat), .int .i64 a, .int .i64 b] (.int .i64 (N d))) : PureAt Try.prog 64 [.agg [.fn (.func f) [] [], .int .i64 a, .int .i64 b], regD r, donesD (d0 :: l)] (.agg [.int .i64 (minL (N d0) (l.map N)), .int .i64 (maxL (N d0) (l.map N))]) := by
  refine PureAt.of_awp Try.func64 rfl (by kernel_rfl) (Nat.le_of_ble_eq_true rfl) fun Γ hn hl => ?_
  refine awp_seq ?_
  refine awp_region ?_
  refine stepW (s_box 3 rfl rfl rfl (nb hn rfl) rfl rfl) fun b3 => ?_
  refine stepW (s_box 4 rfl rfl rfl (nb hn rfl) rfl rfl) fun b4 => ?_
  refine stepW (s_alloc 6 rfl rfl rfl (nb hn rfl) zr45 rfl rfl) fun b6 => ?_
  refine run_nil ?_
  refine aend_then ?_
  refine awp_seq ?_
  refine awp_region ?_
  refine sq rfl rfl hn rfl (q_assign rfl rfl) ?_
  refine sq rfl rfl hn rfl (q_assign rfl rfl) ?_
  refine run_nil ?_
  refine aend_then ?_
  refine awp_seq ?_
  refine awp_seq ?_
  refine gh_awp (g_nil (t := 7) (id := 7) 3 1 rfl (nb hn rfl)) ?_
  refine gh_awp (g_nil (t := 8) (id := 8) 3 1 rfl (nb hn rfl)) ?_
  refine awp_region ?_
  refine sq rfl rfl hn rfl (q_move rfl rfl) ?_
  refine sq rfl rfl hn rfl (q_len rfl rfl Try.underlying98) ?_
  refine sq rfl rfl hn rfl (q_move rfl rfl) ?_
  refine run_nil ?_
  refine aend_then ?_
  refine awp_block ?_
  refine awp_loop_on (ι := { x : Nat × Value × Value // x.1 ≤ (d0 :: l).length }) (fun x => (14, true, .d (.int .i64 (x.1.1 : Nat))) :: (7, true, .val x.1.2.1) :: (8, true, .val x.1.2.2) :: anys [15, 16, 17, 10, 18, 19, 20, 21, 22, 23, 24, 25, 26, 11, 27, 28, 29, 30, 31, 32, 33, 34, 35, 36]) (fun x => [(7, .row x.1.2.1 3 1 ((((d0 :: l).take x.1.1).map N).map intE)), (8, .row x.1.2.2 3 1 ((((d0 :: l).take x.1.1).map fun d => -(N d)).map intE))]) (fun x => (d0 :: l).length - x.1.1) ⟨(0, .slice none 0 0, .slice none 0 0), by simp⟩ ⟨.inl rfl, .inl rfl, .inl rfl, holdT_anys _⟩ ⟨.inl rfl, .inl rfl, trivial⟩ ?_
  rintro ⟨⟨i, v1, v2⟩, hi⟩
  dsimp only
  dsimp only at hi
  refine awp_seq ?_
  refine awp_region ?_
  refine sq rfl rfl hn rfl (q_lss rfl rfl rfl) ?_
  refine run_nil ?_
  refine aend_then ?_
  refine awp_seq ?_
  refine awp_cond rfl (fun hb0 => ?_) (fun hb0 => ?_)
  · try simp only [decide_eq_true_eq, decide_eq_false_iff_not, Bool.and_eq_true, Bool.or_eq_true, Bool.and_eq_false_iff, Bool.or_eq_false_iff, Bool.not_eq_true', Bool.not_eq_false', beq_iff_eq, bne_iff_ne, ne_eq, beq_eq_false_iff_ne, bne_eq_false_iff_eq, Int.not_lt, Int.not_le] at hb0
    have hlt : i < (d0 :: l).length := by simp only [List.length_map] at hb0; omega
    obtain ⟨d, hd⟩ := ex_get hlt
    have hdm := List.mem_of_getElem? hd
    have hNd := hN d hdm
    have hlt2 : i < l.length + 1 := hlt
    refine awp_skip ?_
    refine aend_then ?_
    refine awp_seq ?_
    refine awp_block ?_
    refine awp_seq ?_
    refine awp_region ?_
    refine sq rfl rfl hn rfl (q_index rfl rfl rfl Try.underlying98 sz102 rfl (mget hd)) ?_
    refine sq rfl rfl hn rfl (q_loadp rfl rfl Try.underlying102 rfl seesF0) ?_
    refine sq rfl rfl hn rfl (q_assign rfl rfl) ?_
    refine run_nil ?_
    refine aend_then ?_
    refine awp_seq ?_
    refine awp_region ?_
    refine sq rfl rfl hn rfl (q_fieldAddr rfl rfl Try.underlying112 rfl sz109) ?_
    refine sq rfl rfl hn rfl (q_load rfl rfl (id := 3) rfl Try.underlying109 rfl rfl sees0) ?_
    refine sq rfl rfl hn rfl (q_loadAd rfl rfl (id := 4) rfl Try.underlying35 rfl sz35 rfl rfl sees0) ?_
    refine sq rfl rfl hn rfl (q_move rfl rfl) ?_
    refine sq rfl rfl hn rfl (q_fieldAddr rfl rfl Try.underlying112 rfl sz3) ?_
    refine sq rfl rfl hn rfl (q_load rfl rfl (id := 3) rfl Try.underlying3 rfl rfl sees0) ?_
    refine sq rfl rfl hn rfl (q_fieldAddr rfl rfl Try.underlying112 rfl sz3) ?_
    refine sq rfl rfl hn rfl (q_load rfl rfl (id := 3) rfl Try.underlying3 rfl rfl sees0) ?_
    refine stepW (s_call [] (fun _ => hp d hdm) rfl (guard_none rfl) rfl (nb hn rfl) (fun _ => trivial) rfl rfl (.refl _)) fun _ => ?_
    refine sq rfl rfl hn rfl (q_assign rfl rfl) ?_
    refine run_nil ?_
    refine aend_then ?_
    refine awp_region ?_
    refine sq rfl rfl hn rfl (q_move rfl rfl) ?_
    refine sq rfl rfl hn rfl (q_move rfl rfl) ?_
    refine stepW (s_buildSlice rfl rfl rfl (nb hn rfl) Try.underlying22 sz3 zr3 rfl rfl rfl (show _ = [.d (.int .i64 0)] from by kernel_rfl) (by kernel_rfl) rfl (fill_int rfl) rfl rfl rfl) fun _ => ?_
    refine stepW (s_append (id := 7) rfl rfl rfl (nb hn rfl) elt22 trivial rfl rfl rfl (by simp [chunk]; omega) (by simp [chunk]; omega) (fun b hb => trivial)) fun v30 => ?_
    refine sq rfl rfl hn rfl (q_move rfl rfl) ?_
    refine sq rfl rfl hn rfl (q_move rfl rfl) ?_
    refine sq rfl rfl hn rfl (q_neg rfl rfl (r := -(N d)) (i64w (by omega) (by omega))) ?_
    refine stepW (s_buildSlice rfl rfl rfl (nb hn rfl) Try.underlying22 sz3 zr3 rfl rfl rfl (show _ = [.d (.int .i64 0)] from by kernel_rfl) (by kernel_rfl) rfl (fill_int rfl) rfl rfl rfl) fun _ => ?_
    refine stepW (s_append (id := 8) rfl rfl rfl (nb hn rfl) elt22 trivial rfl rfl rfl (by simp [chunk]; omega) (by simp [chunk]; omega) (fun b hb => trivial)) fun v35 => ?_
    refine sq rfl rfl hn rfl (q_assign rfl rfl) ?_
    refine sq rfl rfl hn rfl (q_assign rfl rfl) ?_
    refine run_nil ?_
    refine aend_block ?_
    refine aend_then ?_
    refine awp_region ?_
    refine sq rfl rfl hn rfl (q_add rfl rfl rfl (r := ((i + 1 : Nat) : Int)) (i64w (by simp only [List.length_cons] at hlt; omega) (by omega))) ?_
    refine sq rfl rfl hn rfl (q_move rfl rfl) ?_
    refine run_nil ?_
    exact aend_round_on ⟨(i + 1, v30, v35), by simp only; omega⟩ ⟨.inl rfl, .inl rfl, .inl rfl, holdT_anys _⟩ ⟨.inl (congrArg (fun z => some (Res.row v30 3 1 z)) (take_map2 (f := N) hd)), .inl (congrArg (fun z => some (Res.row v35 3 1 z)) (take_map2 (f := fun d => -(N d)) hd)), trivial⟩ (by simp only; omega) (by repeat (first | exact kr _ | refine kc rfl ?_)) (by repeat (first | exact kr _ | refine kc rfl ?_))
  · try simp only [decide_eq_true_eq, decide_eq_false_iff_not, Bool.and_eq_true, Bool.or_eq_true, Bool.and_eq_false_iff, Bool.or_eq_false_iff, Bool.not_eq_true', Bool.not_eq_false', beq_iff_eq, bne_iff_ne, ne_eq, beq_eq_false_iff_ne, bne_eq_false_iff_eq, Int.not_lt, Int.not_le] at hb0
    have hie : i = (d0 :: l).length := by simp only [List.length_map] at hb0; omega
    subst hie; rw [List.take_length]; simp only [List.map_cons]
    refine awp_exit ?_
    refine aend_then_exit ?_
    refine aend_then_exit ?_
    refine aend_block_exit ?_
    refine aend_then ?_
    refine awp_seq ?_
    refine awp_region ?_
    refine sq rfl rfl hn rfl (q_move rfl rfl) ?_
    refine gh_run (g_row (t := 37) (id := 7) rfl rfl) ?_
    refine stepW (s_call [] (fun _ => minimum_ok (N d0) (l.map N)) rfl (guard_none rfl) rfl (nb hn rfl) (fun _ => trivial) rfl rfl (.refl _)) fun _ => ?_
    refine sq rfl rfl hn rfl (q_move rfl rfl) ?_
    refine gh_run (g_row (t := 39) (id := 8) rfl rfl) ?_
    refine stepW (s_call [] (fun _ => minimum_ok (-(N d0)) (l.map fun d => -(N d))) rfl (guard_none rfl) rfl (nb hn rfl) (fun _ => trivial) rfl rfl (.refl _)) fun _ => ?_
    refine sq rfl rfl hn rfl (q_neg rfl rfl (r := maxL (N d0) (l.map N)) (i64w (bd_neg hN) (by simp only [maxL, List.map_map]; rw [Int.zero_sub]; rfl))) ?_
    refine sq rfl rfl hn rfl (q_buildd rfl bt45 rfl rfl rfl rfl rfl) ?_
    refine stepW (s_store rfl rfl rfl rfl rfl rfl (id := 6) rfl sz45 rfl (Nat.le_of_ble_eq_true rfl) rfl trivial) fun _ => ?_
    refine run_nil ?_
    refine aend_then ?_
    refine awp_ret ?_
    exact ret_1 (.inl rfl) hl rfl (.cellA rfl (id := 6) rfl Try.underlying45 rfl sz45 rfl rfl)
end Go.Proofs.Ytnbmmopjkkofoaa
