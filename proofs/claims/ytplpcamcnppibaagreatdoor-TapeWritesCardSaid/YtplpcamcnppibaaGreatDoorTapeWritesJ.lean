/-
  A part of the proof that contangolaw.TapeWrites returns true: what the last text needs, and no more. No condition: no statement of the seat is proved here.
-/
import Derived.Test.YtplpcamcnppibaaGreatDoorTapeWritesI
namespace Go.Proofs.YtplpcamcnppibaaGreatDoor
open Go.RowKit
set_option maxRecDepth 20000
set_option linter.all false
set_option exponentiation.threshold 2000
theorem min2_ok (a b : Int) : PureAt Tryz.prog 126 [.slice 1 [[.int .i64 a], [.int .i64 b]]] (.int .i64 (min a b)) := by
  have h := Min_ok [a, b] (by simp)
  have e : Lib.minOf [a, b] = min a b := by
    simp [Lib.minOf, List.foldl]
  rw [e] at h
  exact h
@[reducible] def intsT (l : List Int) : List TV := l.map fun n => .d (.int .i64 n)
@[reducible] def bookC (b : Brd) (sales : List Prt) (vo : Value) : List TV := [.d (stksD b.stocks), .d (.int .i64 b.jump), .d (.int .i64 b.small), .d (prtsD sales), .val vo]
@[reducible] def bookRs (bb : Nat) (b : Brd) (sales : List Prt) (vo : Value) (l : List Int) : List (Nat × Res) := [(1070, .box bb 152 (bookC b sales vo)), (1072, vecRes 3 vo 1 (intsT l))]
/-- Contains, of a list that is written. -/
theorem Contains_vec (vo : Value) (l : List Int) (x : Int) (hV : VecV vo 1 (intsT l)) : EffAt Tryz.prog 111 [.val vo, .d (.int .i64 x)] [(1072, vecRes 3 vo 1 (intsT l))] (X := Unit) (fun _ => .d (.bool (l.contains x))) (fun _ => [(1072, vecRes 3 vo 1 (intsT l))]) := by
  refine ⟨ent_of Tryz.func111 rfl rfl, fun w F vs hr hh => ?_⟩
  obtain ⟨u1, us, rfl, h1, u2, us2, rfl, h2, h3⟩ := hr
  cases h1; cases h2; cases h3
  have fin : ∀ {e w'}, e = .returned (.bool (l.contains x)) ∧ w' = w → EndsE (callCx w F [(1072, vecRes 3 vo 1 (intsT l))]) (X := Unit) (fun _ => .d (.bool (l.contains x))) (fun _ => [(1072, vecRes 3 vo 1 (intsT l))]) e w' := by
    rintro e w' ⟨rfl, rfl⟩
    exact ⟨(), _, F, rfl, rfl, hh⟩
  rcases hV with ⟨rfl, hc⟩ | ⟨b, n, cap, rfl, hn, hcap, hl⟩
  · obtain rfl : l = [] := by simpa using hc
    exact (Tryz.slices_Contains_int_empty none 0 x w).mono fun e w' h => fin h
  · have hl : l.length = n := by simpa using hl
    obtain ⟨_, _, us, hb, hus, _⟩ := hh.res 1072 _ (lk_cons_same _ _ _)
    refine (Tryz.slices_Contains_int b 0 n cap l x w (by omega) (by simp only [maxLen] at hcap; omega) fun j hj => ?_).mono fun e w' h => fin (by rw [← hl, List.take_length] at h; exact h)
    have hj' : (intsT l ++ List.replicate ((cap - n) * 1) .any)[j]? = some (.d (.int .i64 (l.getD j 0))) := by
      rw [List.getElem?_append_left (by simp; omega), List.getElem?_map, List.getElem?_eq_getElem (by omega)]
      simp [List.getD_eq_getElem?_getD, List.getElem?_eq_getElem (show j < l.length by omega)]
    obtain ⟨v, hv, hrep⟩ := hus.get hj'
    cases hrep
    simp [World.cell?, hb, hv]
/-- Whether a price can be that of a sale, by itself. -/
def fitsB (s : Prt) (i p : Int) (l : List Int) : Bool := bif l.contains i then true else bif s.full then p == s.fig else p.tmod 80 == s.fig
/-- The least and the greatest price of a level below n. -/
def bndGo (m : Nat) : Nat → Int × Int
  | 0 => (799, 0)
  | n + 1 => bif m.testBit n then (min (bndGo m n).1 (n : Nat), max (bndGo m n).2 (n : Nat)) else bndGo m n
def bndN (m : Nat) : Int × Int := bndGo m 800
def ownN (s : Prt) (i : Nat) (l : List Int) (m : Nat) : Nat := maskOf (fun p => m.testBit p && fitsB s (i : Nat) (p : Nat) l) 800
def startN (s : Stk) : Nat := maskOf (fun p => withinB (p : Nat) s.lo s.hi) 800
theorem zero800a : (Value.agg (Array.replicate 800 (Value.bool false))).cells.toList.map constTV = lvT 0 := by
  show List.map constTV (Array.replicate 800 (Value.bool false)).toList = lvT 0
  rw [Array.toList_replicate, List.map_replicate, lvT, lvE_zero, List.map_replicate]
  rfl
theorem zero800b : (Value.agg (Array.replicate 800 (Value.bool false))).cells.toList.all (·.oneCell') = true := by
  show (Array.replicate 800 (Value.bool false)).toList.all (·.oneCell') = true
  rw [Array.toList_replicate]
  exact List.all_eq_true.2 fun x hx => by rw [(List.mem_replicate.1 hx).2]; rfl
theorem lvT_set1 {m p : Nat} {b : Bool} (h : p < 800) : (lvT m).set (0 + p * 1) (.d (.bool b)) = lvT (putB m p b) := by rw [Nat.zero_add, Nat.mul_one]; exact lvT_set h
theorem take_flat {cs : List TV} (h : cs.length = 800) : (cs.drop 0).take 800 = cs := by rw [List.drop_zero, List.take_of_length_le (by omega)]
theorem allD_lv (m : Nat) : allD (((lvT m).drop 0).take 800) = some (lvE m) := by rw [take_flat (lvT_len m)]; exact allD_d _
theorem put_flat {cs : List TV} (m : Nat) (h : cs.length = 800) : cs.take 0 ++ (TV.d (.agg (lvE m))).cells ++ cs.drop (0 + 800) = lvT m := by
  rw [List.take_zero, List.nil_append, List.drop_of_length_le (by omega), List.append_nil]; rfl
theorem near_in {a q : Nat} {m1 m2 : Nat} (h0 : a ≤ q) (h : ∀ q2, q2 < 800 → (m2.testBit q2 = true ↔ m1.testBit q2 = true ∨ (a ≤ q2 ∧ q2 < q))) : ∀ q2, q2 < 800 → ((putB m2 q true).testBit q2 = true ↔ m1.testBit q2 = true ∨ (a ≤ q2 ∧ q2 < q + 1)) := by
  intro q2 hq2
  rw [putB_bit]
  by_cases e : q2 = q
  · rw [if_pos e]
    exact ⟨fun _ => .inr ⟨by omega, by omega⟩, fun _ => rfl⟩
  · rw [if_neg e, h q2 hq2]
    constructor
    · rintro (h | h)
      · exact .inl h
      · exact .inr ⟨by omega, by omega⟩
    · rintro (h | h)
      · exact .inl h
      · exact .inr ⟨by omega, by omega⟩
theorem near_up {a b q : Nat} {m1 m2 : Nat} (hq : q = max a b) (h : ∀ q2, q2 < 800 → (m2.testBit q2 = true ↔ m1.testBit q2 = true ∨ (a ≤ q2 ∧ q2 < q))) : ∀ q2, q2 < 800 → (m2.testBit q2 = true ↔ m1.testBit q2 = true ∨ (a ≤ q2 ∧ q2 < b)) := by
  intro q2 hq2
  rw [h q2 hq2]
  constructor
  · rintro (h | h)
    · exact .inl h
    · exact .inr ⟨by omega, by omega⟩
  · rintro (h | h)
    · exact .inl h
    · exact .inr ⟨by omega, by omega⟩
theorem near_step {l J p : Nat} {m m2 : Nat} (hp : p < 800) (hl : l.testBit p = true) (h : ∀ q, q < 800 → (m.testBit q = true ↔ 1 ≤ q ∧ ∃ p', p' < p ∧ l.testBit p' = true ∧ p' ≤ q + J ∧ q ≤ p' + J))
    (h2 : ∀ q, q < 800 → (m2.testBit q = true ↔ m.testBit q = true ∨ (max 1 (p - J) ≤ q ∧ q < min 799 (p + J) + 1))) : ∀ q, q < 800 → (m2.testBit q = true ↔ 1 ≤ q ∧ ∃ p', p' < p + 1 ∧ l.testBit p' = true ∧ p' ≤ q + J ∧ q ≤ p' + J) := by
  intro q hq
  rw [h2 q hq, h q hq]
  constructor
  · rintro (⟨h1, p', k1, k2, k3, k4⟩ | ⟨h1, h2⟩)
    · exact ⟨h1, p', by omega, k2, k3, k4⟩
    · exact ⟨by omega, p, by omega, hl, by omega, by omega⟩
  · rintro ⟨h1, p', k1, k2, k3, k4⟩
    by_cases e : p' = p
    · subst e; exact .inr ⟨by omega, by omega⟩
    · exact .inl ⟨h1, p', by omega, k2, k3, k4⟩
theorem near_skip {l J p : Nat} {m : Nat} (hl : l.testBit p = false) (h : ∀ q, q < 800 → (m.testBit q = true ↔ 1 ≤ q ∧ ∃ p', p' < p ∧ l.testBit p' = true ∧ p' ≤ q + J ∧ q ≤ p' + J)) :
    ∀ q, q < 800 → (m.testBit q = true ↔ 1 ≤ q ∧ ∃ p', p' < p + 1 ∧ l.testBit p' = true ∧ p' ≤ q + J ∧ q ≤ p' + J) := by
  intro q hq
  rw [h q hq]
  constructor
  · rintro ⟨h1, p', k1, k2, k3, k4⟩; exact ⟨h1, p', by omega, k2, k3, k4⟩
  · rintro ⟨h1, p', k1, k2, k3, k4⟩
    by_cases e : p' = p
    · subst e; rw [hl] at k2; cases k2
    · exact ⟨h1, p', by omega, k2, k3, k4⟩
theorem near_end {l J m : Nat} (h : ∀ q, q < 800 → (m.testBit q = true ↔ 1 ≤ q ∧ ∃ p', p' < 800 ∧ l.testBit p' = true ∧ p' ≤ q + J ∧ q ≤ p' + J)) : lvE m = lvE (nearN l J) := lv_ext fun q hq => by
  rw [Bool.eq_iff_iff, h q hq, nearN_bit]
  exact ⟨fun ⟨h1, h2⟩ => ⟨h1, hq, h2⟩, fun ⟨h1, _, h2⟩ => ⟨h1, h2⟩⟩
theorem sz57 : Sz Tryz.prog 57 1 := (by kernel_rfl : (Tryz.prog.info? 57).map (·.size) = some 1)
theorem sz148 : Sz Tryz.prog 148 800 := (by kernel_rfl : (Tryz.prog.info? 148).map (·.size) = some 800)
theorem zr3 : (Tryz.prog.info? 3).map (·.zero) = some (some (.int .i64 0)) := by kernel_rfl
theorem zr148 : (Tryz.prog.info? 148).map (·.zero) = some (some (.agg (Array.replicate 800 (.bool false)))) := by kernel_rfl
theorem zr150 : (Tryz.prog.info? 150).map (·.zero) = some (some (.agg #[(.int .i64 0), (.int .i64 0)])) := by kernel_rfl
theorem bt150 : BT Tryz.prog 150 (.agg #[(.int .i64 0), (.int .i64 0)]) (fun i => ([(0, 1), (1, 1)] : List (Nat × Nat))[i]?) := bt_struct Tryz.underlying150 zr150 (by kernel_rfl)
theorem minimum_ok (a b : Int) : PureAt Tryz.prog 101 [.slice 1 [[.int .i64 a], [.int .i64 b]]] (.int .i64 (min a b)) := by
  refine PureAt.of_awp Tryz.func101 rfl (by kernel_rfl) (Nat.le_of_ble_eq_true rfl) fun Γ hn hl => ?_
  refine awp_seq ?_
  refine awp_region ?_
  refine sq rfl rfl hn rfl (q_assign rfl rfl) ?_
  refine run_nil ?_
  refine aend_then ?_
  refine awp_seq ?_
  refine awp_region ?_
  refine sq rfl rfl hn rfl (q_move rfl rfl) ?_
  refine stepW (s_call [] (fun _ => min2_ok a b) rfl (guard_none rfl) rfl (nb hn rfl) (fun _ => trivial) rfl rfl (.refl _)) fun _ => ?_
  refine sq rfl rfl hn rfl (q_assign rfl rfl) ?_
  refine run_nil ?_
  refine aend_then ?_
  refine awp_ret ?_
  exact ret_1 (.inl rfl) hl rfl (.tmp rfl)
theorem fits_eff (bb : Nat) (b : Brd) (sales : List Prt) (vo : Value) (l : List Int) (hV : VecV vo 1 (intsT l)) (s : Prt) (i : Nat) (p : Int) (hs : sales[i]? = some s) : EffAt Tryz.prog 78 [.val (.pointer (some ⟨bb, 0, none⟩)), .d (.agg [.int .i64 (i : Nat), .int .i64 p])] (bookRs bb b sales vo l) (X := Unit) (fun _ => .d (.bool (fitsB s i p l))) (fun _ => bookRs bb b sales vo l) := by
  refine EffAt.of_awp Tryz.func78 rfl (by kernel_rfl) rfl fun Γ hn => ?_
  refine awp_seq ?_
  refine awp_region ?_
  refine stepW (s_box 3 rfl rfl rfl (nb hn rfl) rfl rfl) fun b3 => ?_
  refine sq rfl rfl hn rfl (q_assign rfl rfl) ?_
  refine run_nil ?_
  refine aend_then ?_
  refine awp_seq ?_
  refine awp_join_on (e := .normal) (ι := Nat) (fun b5 => (5, true, .val (.pointer (some ⟨b5, 0, none⟩))) :: anys [6, 7, 8, 9, 10, 11, 12, 13]) (fun b5 => [(5, .box b5 47 ((prtE s).map .d))]) (fun hJ0 => ?_) ?_
  · skip
    refine d_start (W := fun b => b ≠ b3 ∧ b ≠ bb) fmo ?_
    refine d1q (i := 0) rfl (by kernel_rfl) (fun _ _ _ _ h => h) rfl rfl hn rfl (q_move rfl rfl) ?_
    refine d1q (i := 1) rfl (by kernel_rfl) (fun _ _ _ _ h => h) rfl rfl hn rfl (q_nilCheck rfl rfl) ?_
    refine d1q (i := 2) rfl (by kernel_rfl) (fun _ _ _ _ h => h) rfl rfl hn rfl (q_fieldAddr rfl rfl Tryz.underlying152 rfl sz27) ?_
    refine d1q (i := 3) rfl (by kernel_rfl) (fun _ _ _ _ h => h) rfl rfl hn rfl (q_load rfl rfl (id := 1070) rfl Tryz.underlying27 rfl rfl (seesA (by simp))) ?_
    refine d1q (i := 4) rfl (by kernel_rfl) (fun _ _ _ _ h => h) rfl rfl hn rfl (q_fieldAddr rfl rfl Tryz.underlying150 rfl sz3) ?_
    refine d1q (i := 5) rfl (by kernel_rfl) (fun _ _ _ _ h => h) rfl rfl hn rfl (q_load rfl rfl (id := 3) rfl Tryz.underlying3 rfl rfl (seesA (by simp))) ?_
    refine d1q (i := 6) rfl (by kernel_rfl) (fun _ _ _ _ h => h) rfl rfl hn rfl (q_index (i := i) rfl rfl rfl Tryz.underlying27 sz47 rfl (mget hs)) ?_
    refine d1q (i := 7) rfl (by kernel_rfl) (fun _ _ _ _ h => h) rfl rfl hn rfl (q_loadpA rfl rfl Tryz.underlying47 rfl sz47 rfl rfl seesFA) ?_
    refine d1_of_d2 ?_
    refine d2_one (i := 8) (by kernel_rfl) rfl (s_alloc 5 rfl rfl rfl (nb hn rfl) zr47 rfl rfl) fun b5 => ?_
    refine d2_of_d1 ?_
    refine d1_of_d2 ?_
    refine g_ne_d2 (i := 5) (j := 3) rfl rfl rfl (fun hne5_3 => ?_)
    refine g_ne_d2 (i := 5) (j := 1070) rfl rfl rfl (fun hne5_1070 => ?_)
    refine d2_one (i := 9) (by kernel_rfl) rfl (s_store rfl rfl rfl rfl rfl rfl (id := 5) rfl sz47 rfl (Nat.le_of_ble_eq_true rfl) rfl ⟨fun e => hne5_3 _ rfl (congrArg some e.symm), fun e => hne5_1070 _ rfl (congrArg some e.symm)⟩) fun _ => ?_
    refine d2_of_d1 ?_
    refine d1_of_d2 ?_
    refine d2_done (by kernel_rfl) ?_
    exact aend_join_on hJ0 b5 ⟨.inl rfl, holdT_anys _⟩ ⟨.inl rfl, trivial⟩ (by repeat (first | exact kr _ | refine kc rfl ?_)) (by repeat (first | exact kr _ | refine kc rfl ?_))
  · rintro b5
    refine aend_then ?_
    refine awp_seq ?_
    refine awp_block ?_
    refine awp_seq ?_
    refine awp_join_on (e := .normal) (ι := Unit) (fun x => (14, true, .d (.bool (l.contains ((i : Nat) : Int)))) :: anys [15, 16, 17, 18, 19, 20, 21]) (fun x => [(1072, vecRes 3 vo 1 (intsT l))]) (fun hJ1 => ?_) ?_
    · skip
      refine d_start (W := fun b => True) fmo ?_
      refine d1q (i := 0) rfl (by kernel_rfl) (fun _ _ _ _ h => h) rfl rfl hn rfl (q_move rfl rfl) ?_
      refine d1q (i := 1) rfl (by kernel_rfl) (fun _ _ _ _ h => h) rfl rfl hn rfl (q_nilCheck rfl rfl) ?_
      refine d1q (i := 2) rfl (by kernel_rfl) (fun _ _ _ _ h => h) rfl rfl hn rfl (q_fieldAddr rfl rfl Tryz.underlying152 rfl sz57) ?_
      refine d1q (i := 4) rfl (by kernel_rfl) (fun _ _ _ _ h => h) rfl rfl hn rfl (q_fieldAddr rfl rfl Tryz.underlying150 rfl sz3) ?_
      refine d1_of_d2 ?_
      refine d2_all 3 [5] (by kernel_rfl) ⟨?_, ?_, trivial⟩
      · skip
        refine br rfl (quiet_wg _ [] (guard_none rfl) rfl (nb hn rfl) (fun _ => trivial) (fun _ => q_load rfl rfl (id := 1070) rfl Tryz.underlying57 rfl rfl sees0)) fun _ => ?_
        refine d2_of_d1 ?_
        refine d1_of_d2 ?_
        refine d2_one (i := 5) (by kernel_rfl) rfl (quiet_wg _ [] (guard_none rfl) rfl (nb hn rfl) (fun _ => trivial) (fun _ => q_load rfl rfl (id := 3) rfl Tryz.underlying3 rfl rfl sees0)) fun _ => ?_
        refine d2_of_d1 ?_
        refine d1_of_d2 ?_
        refine d2_one (i := 6) (by kernel_rfl) rfl (s_callE (Contains_vec vo l (i : Nat) hV) rfl rfl rfl (nb hn rfl) (.d rfl) rfl (.refl _) ⟨rfl, trivial⟩ (fun _ => rfl) (fun _ _ => trivial)) fun _ => ?_
        refine d2_of_d1 ?_
        refine d1q (i := 7) rfl (by kernel_rfl) (fun _ _ _ _ h => h) rfl rfl hn rfl (q_assign rfl rfl) ?_
        refine d1_of_d2 ?_
        refine d2_done (by kernel_rfl) ?_
        exact aend_join_on hJ1 () ⟨.inl rfl, holdT_anys _⟩ ⟨.inl rfl, trivial⟩ (by repeat (first | exact kr _ | refine kc rfl ?_)) (by repeat (first | exact kr _ | refine kc rfl ?_))
      · skip
        refine br rfl (quiet_wg _ [] (guard_none rfl) rfl (nb hn rfl) (fun _ => trivial) (fun _ => q_load rfl rfl (id := 3) rfl Tryz.underlying3 rfl rfl sees0)) fun _ => ?_
        refine d2_of_d1 ?_
        refine d1_of_d2 ?_
        refine d2_one (i := 3) (by kernel_rfl) rfl (quiet_wg _ [] (guard_none rfl) rfl (nb hn rfl) (fun _ => trivial) (fun _ => q_load rfl rfl (id := 1070) rfl Tryz.underlying57 rfl rfl sees0)) fun _ => ?_
        refine d2_of_d1 ?_
        refine d1_of_d2 ?_
        refine d2_one (i := 6) (by kernel_rfl) rfl (s_callE (Contains_vec vo l (i : Nat) hV) rfl rfl rfl (nb hn rfl) (.d rfl) rfl (.refl _) ⟨rfl, trivial⟩ (fun _ => rfl) (fun _ _ => trivial)) fun _ => ?_
        refine d2_of_d1 ?_
        refine d1q (i := 7) rfl (by kernel_rfl) (fun _ _ _ _ h => h) rfl rfl hn rfl (q_assign rfl rfl) ?_
        refine d1_of_d2 ?_
        refine d2_done (by kernel_rfl) ?_
        exact aend_join_on hJ1 () ⟨.inl rfl, holdT_anys _⟩ ⟨.inl rfl, trivial⟩ (by repeat (first | exact kr _ | refine kc rfl ?_)) (by repeat (first | exact kr _ | refine kc rfl ?_))
    · rintro _
      refine aend_then ?_
      refine awp_cond rfl (fun hb2 => ?_) (fun hb2 => ?_)
      · skip
        refine awp_seq ?_
        refine awp_region ?_
        refine sq rfl rfl hn rfl (q_assign rfl rfl) ?_
        refine run_nil ?_
        refine aend_then ?_
        refine awp_ret ?_
        refine aend_block_ret ?_
        refine aend_then_ret ?_
        exact ret_E (.inl rfl) () ((hands_1 rfl (.tmp rfl)).eq (by unfold fitsB; rw [hb2]; rfl)) ⟨rfl, rfl, trivial⟩
      · skip
        refine awp_seq ?_
        refine awp_region ?_
        refine sq rfl rfl hn rfl (q_fieldAddr rfl rfl Tryz.underlying47 rfl sz4) ?_
        refine sq rfl rfl hn rfl (q_load rfl rfl (id := 5) rfl Tryz.underlying4 rfl rfl sees0) ?_
        refine sq rfl rfl hn rfl (q_assign rfl rfl) ?_
        refine run_nil ?_
        refine aend_then ?_
        refine awp_cond rfl (fun hb3 => ?_) (fun hb3 => ?_)
        · skip
          refine awp_seq ?_
          refine awp_region ?_
          refine sq rfl rfl hn rfl (q_fieldAddr rfl rfl Tryz.underlying150 rfl sz3) ?_
          refine sq rfl rfl hn rfl (q_load rfl rfl (id := 3) rfl Tryz.underlying3 rfl rfl sees0) ?_
          refine sq rfl rfl hn rfl (q_fieldAddr rfl rfl Tryz.underlying47 rfl sz3) ?_
          refine sq rfl rfl hn rfl (q_load rfl rfl (id := 5) rfl Tryz.underlying3 rfl rfl sees0) ?_
          refine sq rfl rfl hn rfl (q_eql rfl rfl rfl) ?_
          refine sq rfl rfl hn rfl (q_assign rfl rfl) ?_
          refine run_nil ?_
          refine aend_then ?_
          refine awp_ret ?_
          refine aend_block_ret ?_
          refine aend_then_ret ?_
          exact ret_E (.inl rfl) () ((hands_1 rfl (.tmp rfl)).eq (by unfold fitsB; rw [hb2, hb3]; rfl)) ⟨rfl, rfl, trivial⟩
        · skip
          refine awp_skip ?_
          refine aend_block ?_
          refine aend_then ?_
          refine awp_seq ?_
          refine awp_region ?_
          refine sq rfl rfl hn rfl (q_fieldAddr rfl rfl Tryz.underlying150 rfl sz3) ?_
          refine sq rfl rfl hn rfl (q_load rfl rfl (id := 3) rfl Tryz.underlying3 rfl rfl sees0) ?_
          refine sq rfl rfl hn rfl (q_rem rfl rfl rfl (by omega) rfl) ?_
          refine sq rfl rfl hn rfl (q_fieldAddr rfl rfl Tryz.underlying47 rfl sz3) ?_
          refine sq rfl rfl hn rfl (q_load rfl rfl (id := 5) rfl Tryz.underlying3 rfl rfl sees0) ?_
          refine sq rfl rfl hn rfl (q_eql rfl rfl rfl) ?_
          refine sq rfl rfl hn rfl (q_assign rfl rfl) ?_
          refine run_nil ?_
          refine aend_then ?_
          refine awp_ret ?_
          exact ret_E (.inl rfl) () ((hands_1 rfl (.tmp rfl)).eq (by unfold fitsB; rw [hb2, hb3]; rfl)) ⟨rfl, rfl, trivial⟩
theorem own_eff (bb : Nat) (b : Brd) (sales : List Prt) (vo : Value) (l : List Int) (hV : VecV vo 1 (intsT l)) (s : Prt) (i : Nat) (m : Nat) (hs : sales[i]? = some s) : EffAt Tryz.prog 105 [.val (.pointer (some ⟨bb, 0, none⟩)), .d (.int .i64 (i : Nat)), .d (.agg (lvE m))] (bookRs bb b sales vo l) (X := Unit) (fun _ => .d (.agg (lvE (ownN s i l m)))) (fun _ => bookRs bb b sales vo l) := by
  refine EffAt.of_awp Tryz.func105 rfl (by kernel_rfl) rfl fun Γ hn => ?_
  refine awp_seq ?_
  refine awp_region ?_
  refine stepW (s_box 5 rfl rfl rfl (nb hn rfl) rfl rfl) fun b5 => ?_
  refine stepW (s_alloc 6 rfl rfl rfl (nb hn rfl) zr148 zero800a zero800b) fun b6 => ?_
  refine run_nil ?_
  refine aend_then ?_
  refine awp_seq ?_
  refine awp_seq ?_
  refine awp_region ?_
  refine sq rfl rfl hn rfl (q_loadAd rfl rfl (id := 5) rfl Tryz.underlying148 rfl sz148 (allD_lv m) (lvE_len m) sees0) ?_
  refine sq rfl rfl hn rfl (q_move rfl rfl) ?_
  refine run_nil ?_
  refine aend_then ?_
  refine awp_block ?_
  refine awp_loop_on (ι := {x : Nat × Nat // x.1 ≤ 800 ∧ ∀ q, q < 800 → x.2.testBit q = if q < x.1 then m.testBit q && fitsB s (i : Nat) (q : Nat) l else m.testBit q}) (fun x => (10, true, .d (.int .i64 (x.1.1 : Nat))) :: anys [11, 12, 13, 7, 8, 14, 15, 16, 17, 18, 19, 20, 21, 22, 23, 24]) (fun x => [(5, .box b5 148 (lvT x.1.2)), (1070, .box bb 152 (bookC b sales vo)), (1072, vecRes 3 vo 1 (intsT l))]) (fun x => 800 - x.1.1) ⟨(0, m), by simp, fun q _ => by simp⟩ ⟨.inl rfl, holdT_anys _⟩ ⟨.inl rfl, .inl rfl, .inl rfl, trivial⟩ ?_
  rintro ⟨⟨p, m1⟩, hp, hm1⟩
  dsimp only
  dsimp only at hp hm1
  refine awp_seq ?_
  refine awp_region ?_
  refine sq rfl rfl hn rfl (q_lss rfl rfl rfl) ?_
  refine run_nil ?_
  refine aend_then ?_
  refine awp_seq ?_
  refine awp_cond rfl (fun hb0 => ?_) (fun hb0 => ?_)
  · skip
    have hlt : p < 800 := by simp at hb0; omega
    refine awp_skip ?_
    refine aend_then ?_
    refine awp_seq ?_
    refine awp_block ?_
    refine awp_seq ?_
    refine awp_region ?_
    refine sq rfl rfl hn rfl (q_move rfl rfl) ?_
    refine sq rfl rfl hn rfl (q_indexAgg rfl rfl rfl Tryz.underlying148 Tryz.underlying4 rfl sz4 rfl hlt (lvE_get hlt)) ?_
    refine sq rfl rfl hn rfl (q_assign rfl rfl) ?_
    refine sq rfl rfl hn rfl (q_assign rfl rfl) ?_
    refine run_nil ?_
    refine aend_then ?_
    refine awp_region ?_
    refine sq rfl rfl hn rfl (q_move rfl rfl) ?_
    refine sq rfl rfl hn rfl (q_move rfl rfl) ?_
    refine sq rfl rfl hn rfl (q_move rfl rfl) ?_
    refine stepG [] (guard_some rfl rfl rfl) rfl (nb hn rfl) (fun hc => trivial) (fun hc => q_move rfl rfl) ?_
    refine stepG [] (guard_some rfl rfl rfl) rfl (nb hn rfl) (fun hc => trivial) (fun hc => q_move rfl rfl) ?_
    refine stepG [] (guard_some rfl rfl rfl) rfl (nb hn rfl) (fun hc => trivial) (fun hc => q_move rfl rfl) ?_
    refine stepG [(18, _), (19, _)] (guard_some rfl rfl rfl) rfl (nb hn rfl) (fun hc => ⟨⟨_, rfl, hc⟩, ⟨_, rfl, hc⟩, trivial⟩) (fun hc => q_buildd rfl bt150 rfl rfl rfl rfl rfl) ?_
    refine stepW (s_callEg [(17, _), (20, _)] () (fun hc => fits_eff bb b sales vo l hV s i (p : Nat) hs) rfl (guard_some rfl rfl rfl) rfl (nb hn rfl) (fun hc => ⟨⟨_, rfl, hc⟩, ⟨_, rfl, hc⟩, trivial⟩) (.d rfl) rfl (.refl _) ⟨rfl, rfl, trivial⟩ (fun _ => rfl) (fun _ _ => trivial) ⟨rfl, rfl, trivial⟩) fun _ => ?_
    refine sq rfl rfl hn rfl (q_and rfl rfl rfl (by intro hB; first | (rw [hB]; rfl) | (rw [hB, hc]; rfl) | simp_all)) ?_
    refine sq rfl rfl hn rfl (q_indexA rfl rfl rfl Tryz.underlying148 sz4 rfl (by omega)) ?_
    refine stepW (s_store1 rfl rfl rfl rfl rfl rfl (id := 5) rfl sz4 (by rw [lvT_len]; omega) (lvT_set1 hlt) trivial) fun _ => ?_
    refine run_nil ?_
    refine aend_block ?_
    refine aend_then ?_
    refine awp_region ?_
    refine sq rfl rfl hn rfl (q_add rfl rfl rfl (r := ((p + 1 : Nat) : Int)) (i64w (by omega) (by omega))) ?_
    refine sq rfl rfl hn rfl (q_move rfl rfl) ?_
    refine run_nil ?_
    exact aend_round_on ⟨(p + 1, putB m1 p (m.testBit p && fitsB s (i : Nat) (p : Nat) l)), by simp only; omega, fun q hq => by simp only; rw [putB_bit, hm1 q hq]; by_cases e : q = p; (subst e; simp); (by_cases e2 : q < p; simp [e, e2, show q < p + 1 by omega]; simp [e, e2, show ¬ q < p + 1 by omega])⟩ ⟨.inl rfl, holdT_anys _⟩ ⟨.inl rfl, .inl rfl, .inl rfl, trivial⟩ (by simp only; omega) (by repeat (first | exact kr _ | refine kc rfl ?_)) (by repeat (first | exact kr _ | refine kc rfl ?_))
  · skip
    have hpe : p = 800 := by simp at hb0; omega
    subst hpe
    have hlv : lvE m1 = lvE (ownN s i l m) := lv_ext fun q hq => by rw [hm1 q hq, if_pos hq]; unfold ownN; rw [maskOf_bit]; simp [hq]
    refine awp_exit ?_
    refine aend_then_exit ?_
    refine aend_then_exit ?_
    refine aend_block_exit ?_
    refine aend_then ?_
    refine awp_seq ?_
    refine awp_region ?_
    refine sq rfl rfl hn rfl (q_loadAd rfl rfl (id := 5) rfl Tryz.underlying148 rfl sz148 (allD_lv m1) (lvE_len m1) sees0) ?_
    refine stepW (s_store rfl rfl rfl rfl rfl rfl (id := 6) rfl sz148 (by rw [show (TV.cells (.d (.agg (lvE m1)))) = lvT m1 from rfl, lvT_len]) (by rw [lvT_len]; decide) (put_flat m1 (lvT_len 0)) trivial) fun _ => ?_
    refine run_nil ?_
    refine aend_then ?_
    refine awp_ret ?_
    exact ret_E (.inl rfl) () (hands_1 rfl (.d (.cellA rfl (id := 6) rfl Tryz.underlying148 rfl sz148 ((allD_lv m1).trans (congrArg some hlv)) (lvE_len _)))) ⟨rfl, rfl, trivial⟩
theorem near_eff (bb : Nat) (b : Brd) (sales : List Prt) (vo : Value) (l : List Int) (hV : VecV vo 1 (intsT l)) (J : Nat) (hJ : b.jump = (J : Nat)) (hJ4 : J ≤ 40) (m : Nat) : EffAt Tryz.prog 106 [.val (.pointer (some ⟨bb, 0, none⟩)), .d (.agg (lvE m))] (bookRs bb b sales vo l) (X := Unit) (fun _ => .d (.agg (lvE (nearN m J)))) (fun _ => bookRs bb b sales vo l) := by
  refine EffAt.of_awp Tryz.func106 rfl (by kernel_rfl) rfl fun Γ hn => ?_
  refine awp_seq ?_
  refine awp_region ?_
  refine stepW (s_box 3 rfl rfl rfl (nb hn rfl) rfl rfl) fun b3 => ?_
  refine stepW (s_alloc 4 rfl rfl rfl (nb hn rfl) zr148 zero800a zero800b) fun b4 => ?_
  refine run_nil ?_
  refine aend_then ?_
  refine awp_seq ?_
  refine awp_seq ?_
  refine awp_region ?_
  refine sq rfl rfl hn rfl (q_loadAd rfl rfl (id := 3) rfl Tryz.underlying148 rfl sz148 (allD_lv m) (lvE_len m) sees0) ?_
  refine sq rfl rfl hn rfl (q_move rfl rfl) ?_
  refine run_nil ?_
  refine aend_then ?_
  refine awp_block ?_
  refine awp_loop_on (ι := {x : Nat × Nat // x.1 ≤ 800 ∧ ∀ q, q < 800 → (x.2.testBit q = true ↔ 1 ≤ q ∧ ∃ p, p < x.1 ∧ m.testBit p = true ∧ p ≤ q + J ∧ q ≤ p + J)}) (fun x => (9, true, .d (.int .i64 (x.1.1 : Nat))) :: anys [10, 11, 12, 5, 6, 13, 14, 15, 16, 17, 18, 19, 20, 21, 22, 7, 23, 24, 25, 26, 27, 28, 29, 30, 31, 32, 33, 36, 37, 34, 35, 38]) (fun x => [(4, .box b4 148 (lvT x.1.2))]) (fun x => 800 - x.1.1) ⟨(0, 0), by simp, fun q _ => by simp⟩ ⟨.inl rfl, holdT_anys _⟩ ⟨.inl rfl, trivial⟩ ?_
  rintro ⟨⟨p, m1⟩, hp, hm1⟩
  dsimp only
  dsimp only at hp hm1
  refine awp_seq ?_
  refine awp_region ?_
  refine sq rfl rfl hn rfl (q_lss rfl rfl rfl) ?_
  refine run_nil ?_
  refine aend_then ?_
  refine awp_seq ?_
  refine awp_cond rfl (fun hb0 => ?_) (fun hb0 => ?_)
  · skip
    have hlt : p < 800 := by simp at hb0; omega
    refine awp_skip ?_
    refine aend_then ?_
    refine awp_seq ?_
    refine awp_block ?_
    refine awp_seq ?_
    refine awp_region ?_
    refine sq rfl rfl hn rfl (q_move rfl rfl) ?_
    refine sq rfl rfl hn rfl (q_indexAgg rfl rfl rfl Tryz.underlying148 Tryz.underlying4 rfl sz4 rfl hlt (lvE_get hlt)) ?_
    refine sq rfl rfl hn rfl (q_assign rfl rfl) ?_
    refine sq rfl rfl hn rfl (q_assign rfl rfl) ?_
    refine run_nil ?_
    refine aend_then ?_
    refine awp_seq ?_
    refine awp_seq ?_
    refine awp_region ?_
    refine sq rfl rfl hn rfl (q_move rfl rfl) ?_
    refine sq rfl rfl hn rfl (q_not rfl rfl) ?_
    refine run_nil ?_
    refine aend_then ?_
    refine awp_cond rfl (fun hb1 => ?_) (fun hb1 => ?_)
    · skip
      have hbit : m.testBit p = false := by simpa using hb1
      refine awp_exit ?_
      refine aend_then_exit ?_
      refine aend_block_exit ?_
      refine aend_then ?_
      refine awp_region ?_
      refine sq rfl rfl hn rfl (q_add rfl rfl rfl (r := ((p + 1 : Nat) : Int)) (i64w (by omega) (by omega))) ?_
      refine sq rfl rfl hn rfl (q_move rfl rfl) ?_
      refine run_nil ?_
      exact aend_round_on ⟨(p + 1, m1), by simp only; omega, near_skip hbit hm1⟩ ⟨.inl rfl, holdT_anys _⟩ ⟨.inl rfl, trivial⟩ (by simp only; omega) (by repeat (first | exact kr _ | refine kc rfl ?_)) (by repeat (first | exact kr _ | refine kc rfl ?_))
    · skip
      have hbit : m.testBit p = true := by simpa using hb1
      refine awp_skip ?_
      refine aend_then ?_
      refine awp_seq ?_
      refine awp_region ?_
      refine sq rfl rfl hn rfl (q_move rfl rfl) ?_
      refine sq rfl rfl hn rfl (q_move rfl rfl) ?_
      refine sq rfl rfl hn rfl (q_nilCheck rfl rfl) ?_
      refine sq rfl rfl hn rfl (q_fieldAddr rfl rfl Tryz.underlying152 rfl sz33) ?_
      refine sq rfl rfl hn rfl (q_fieldAddr rfl rfl Tryz.underlying33 rfl sz3) ?_
      refine sq rfl rfl hn rfl (q_load rfl rfl (id := 1070) rfl Tryz.underlying3 rfl rfl sees0) ?_
      refine sq rfl rfl hn rfl (q_sub rfl rfl rfl (r := (p : Int) - (J : Int)) (by rw [hJ]; exact i64w (by omega) rfl)) ?_
      refine sq rfl rfl hn rfl (q_max rfl rfl rfl) ?_
      refine sq rfl rfl hn rfl (q_assign rfl rfl) ?_
      refine run_nil ?_
      refine aend_then ?_
      refine awp_block ?_
      refine awp_loop_on (ι := {x : Nat × Nat // max 1 (p - J) ≤ x.1 ∧ x.1 ≤ max (max 1 (p - J)) (min 799 (p + J) + 1) ∧ ∀ q, q < 800 → (x.2.testBit q = true ↔ m1.testBit q = true ∨ (max 1 (p - J) ≤ q ∧ q < x.1))}) (fun x => (7, true, .d (.int .i64 (x.1.1 : Nat))) :: anys [23, 24, 25, 26, 27, 28, 29, 30, 31, 32, 33, 36, 37, 34, 35]) (fun x => [(4, .box b4 148 (lvT x.1.2))]) (fun x => 801 - x.1.1) ⟨(max 1 (p - J), m1), Nat.le_refl _, by simp only; omega, fun q _ => ⟨.inl, fun h => h.elim id fun h => absurd h.2 (by have := h.1; simp only at this ⊢; omega)⟩⟩ ⟨.inl (congrArg (fun z => some (true, TV.d (D.int IntKind.i64 z))) (by omega : max (1:Int) ((p:Int) - (J:Int)) = ((max 1 (p - J) : Nat) : Int))), holdT_anys _⟩ ⟨.inl rfl, trivial⟩ ?_
      rintro ⟨⟨q, m2⟩, hq0, hq1, hm2⟩
      dsimp only
      dsimp only at hq0 hq1 hm2
      refine awp_seq ?_
      refine awp_seq ?_
      refine awp_region ?_
      refine sq rfl rfl hn rfl (q_move rfl rfl) ?_
      refine sq rfl rfl hn rfl (q_move rfl rfl) ?_
      refine sq rfl rfl hn rfl (q_move rfl rfl) ?_
      refine sq rfl rfl hn rfl (q_nilCheck rfl rfl) ?_
      refine sq rfl rfl hn rfl (q_fieldAddr rfl rfl Tryz.underlying152 rfl sz33) ?_
      refine sq rfl rfl hn rfl (q_fieldAddr rfl rfl Tryz.underlying33 rfl sz3) ?_
      refine sq rfl rfl hn rfl (q_load rfl rfl (id := 1070) rfl Tryz.underlying3 rfl rfl sees0) ?_
      refine sq rfl rfl hn rfl (q_add rfl rfl rfl (r := (p : Int) + (J : Int)) (by rw [hJ]; exact i64w (by omega) rfl)) ?_
      refine stepW (s_buildSlice rfl rfl rfl (nb hn rfl) Tryz.underlying57 sz3 zr3 rfl rfl rfl (show _ = [.d (.int .i64 0), .d (.int .i64 0)] from by kernel_rfl) (by kernel_rfl) rfl rfl rfl rfl rfl) fun _ => ?_
      refine stepW (s_call [] (fun _ => minimum_ok _ _) rfl (guard_none rfl) rfl (nb hn rfl) (fun _ => trivial) rfl rfl (.refl _)) fun _ => ?_
      refine sq rfl rfl hn rfl (q_leq rfl rfl rfl) ?_
      refine run_nil ?_
      refine aend_then ?_
      refine awp_cond rfl (fun hb2 => ?_) (fun hb2 => ?_)
      · skip
        have hq : q < 800 ∧ q ≤ p + J := by simp at hb2; omega
        refine awp_skip ?_
        refine aend_then ?_
        refine awp_seq ?_
        refine awp_block ?_
        refine awp_region ?_
        refine sq rfl rfl hn rfl (q_move rfl rfl) ?_
        refine sq rfl rfl hn rfl (q_indexA (i := q) rfl rfl rfl Tryz.underlying148 sz4 rfl hq.1) ?_
        refine stepW (s_store1 rfl rfl rfl rfl rfl rfl (id := 4) rfl sz4 (by rw [lvT_len]; omega) (lvT_set1 hq.1) trivial) fun _ => ?_
        refine run_nil ?_
        refine aend_block ?_
        refine aend_then ?_
        refine awp_region ?_
        refine sq rfl rfl hn rfl (q_move rfl rfl) ?_
        refine sq rfl rfl hn rfl (q_add rfl rfl rfl (r := ((q + 1 : Nat) : Int)) (i64w (by omega) (by omega))) ?_
        refine sq rfl rfl hn rfl (q_assign rfl rfl) ?_
        refine run_nil ?_
        exact aend_round_on ⟨(q + 1, putB m2 q true), by simp only; omega, by simp only; omega, near_in hq0 hm2⟩ ⟨.inl rfl, holdT_anys _⟩ ⟨.inl rfl, trivial⟩ (by simp only; omega) (by repeat (first | exact kr _ | refine kc rfl ?_)) (by repeat (first | exact kr _ | refine kc rfl ?_))
      · skip
        have hq : q = max (max 1 (p - J)) (min 799 (p + J) + 1) := by simp at hb2; omega
        have hm3 := near_up hq hm2
        refine awp_exit ?_
        refine aend_then_exit ?_
        refine aend_then_exit ?_
        refine aend_block_exit ?_
        refine aend_block ?_
        refine aend_then ?_
        refine awp_region ?_
        refine sq rfl rfl hn rfl (q_add rfl rfl rfl (r := ((p + 1 : Nat) : Int)) (i64w (by omega) (by omega))) ?_
        refine sq rfl rfl hn rfl (q_move rfl rfl) ?_
        refine run_nil ?_
        exact aend_round_on ⟨(p + 1, m2), by simp only; omega, near_step hlt hbit hm1 hm3⟩ ⟨.inl rfl, holdT_anys _⟩ ⟨.inl rfl, trivial⟩ (by simp only; omega) (by repeat (first | exact kr _ | refine kc rfl ?_)) (by repeat (first | exact kr _ | refine kc rfl ?_))
  · skip
    have hpe : p = 800 := by simp at hb0; omega
    subst hpe
    have hlv := near_end hm1
    refine awp_exit ?_
    refine aend_then_exit ?_
    refine aend_then_exit ?_
    refine aend_block_exit ?_
    refine aend_then ?_
    refine awp_seq ?_
    refine awp_region ?_
    refine sq rfl rfl hn rfl (q_loadAd rfl rfl (id := 4) rfl Tryz.underlying148 rfl sz148 (allD_lv m1) (lvE_len m1) sees0) ?_
    refine stepW (s_store rfl rfl rfl rfl rfl rfl (id := 4) rfl sz148 (by rw [show (TV.cells (.d (.agg (lvE m1)))) = lvT m1 from rfl, lvT_len]) (by rw [lvT_len]; decide) (put_flat m1 (lvT_len m1)) trivial) fun _ => ?_
    refine run_nil ?_
    refine aend_then ?_
    refine awp_ret ?_
    exact ret_E (.inl rfl) () (hands_1 rfl (.d (.cellA rfl (id := 4) rfl Tryz.underlying148 rfl sz148 ((allD_lv m1).trans (congrArg some hlv)) (lvE_len _)))) ⟨rfl, rfl, trivial⟩
theorem start_eff (bb : Nat) (b : Brd) (sales : List Prt) (vo : Value) (l : List Int) (hV : VecV vo 1 (intsT l)) (s : Stk) (k : Nat) (hs : b.stocks[k]? = some s) : EffAt Tryz.prog 104 [.val (.pointer (some ⟨bb, 0, none⟩)), .d (.int .i64 (k : Nat))] (bookRs bb b sales vo l) (X := Unit) (fun _ => .d (.agg (lvE (startN s)))) (fun _ => bookRs bb b sales vo l) := by
  refine EffAt.of_awp Tryz.func104 rfl (by kernel_rfl) rfl fun Γ hn => ?_
  refine awp_seq ?_
  refine awp_region ?_
  refine stepW (s_alloc 4 rfl rfl rfl (nb hn rfl) zr148 zero800a zero800b) fun b4 => ?_
  refine run_nil ?_
  refine aend_then ?_
  refine awp_seq ?_
  refine awp_seq ?_
  refine awp_region ?_
  refine sq rfl rfl hn rfl (q_move rfl rfl) ?_
  refine run_nil ?_
  refine aend_then ?_
  refine awp_block ?_
  refine awp_loop_on (ι := {x : Nat × Nat // x.1 ≤ 800 ∧ ∀ q, q < 800 → x.2.testBit q = (decide (q < x.1) && withinB (q : Nat) s.lo s.hi)}) (fun x => (6, true, .d (.int .i64 (x.1.1 : Nat))) :: anys [7, 8, 5, 9, 10, 11, 12, 13, 14, 15, 16, 17, 18, 19, 20, 21, 22]) (fun x => [(4, .box b4 148 (lvT x.1.2))]) (fun x => 800 - x.1.1) ⟨(0, 0), by simp, fun q _ => by simp⟩ ⟨.inl rfl, holdT_anys _⟩ ⟨.inl rfl, trivial⟩ ?_
  rintro ⟨⟨p, m1⟩, hp, hm1⟩
  dsimp only
  dsimp only at hp hm1
  refine awp_seq ?_
  refine awp_region ?_
  refine sq rfl rfl hn rfl (q_lss rfl rfl rfl) ?_
  refine run_nil ?_
  refine aend_then ?_
  refine awp_seq ?_
  refine awp_cond rfl (fun hb0 => ?_) (fun hb0 => ?_)
  · skip
    have hlt : p < 800 := by simp at hb0; omega
    refine awp_skip ?_
    refine aend_then ?_
    refine awp_seq ?_
    refine awp_block ?_
    refine awp_seq ?_
    refine awp_region ?_
    refine sq rfl rfl hn rfl (q_move rfl rfl) ?_
    refine sq rfl rfl hn rfl (q_assign rfl rfl) ?_
    refine run_nil ?_
    refine aend_then ?_
    refine awp_region ?_
    refine sq rfl rfl hn rfl (q_move rfl rfl) ?_
    refine sq rfl rfl hn rfl (q_move rfl rfl) ?_
    refine sq rfl rfl hn rfl (q_nilCheck rfl rfl) ?_
    refine sq rfl rfl hn rfl (q_fieldAddr rfl rfl Tryz.underlying152 rfl sz33) ?_
    refine sq rfl rfl hn rfl (q_fieldAddr rfl rfl Tryz.underlying33 rfl sz31) ?_
    refine sq rfl rfl hn rfl (q_load rfl rfl (id := 1070) rfl Tryz.underlying31 rfl rfl sees0) ?_
    refine sq rfl rfl hn rfl (q_move rfl rfl) ?_
    refine sq rfl rfl hn rfl (q_index (i := k) rfl rfl rfl Tryz.underlying31 sz117 rfl (mget hs)) ?_
    refine sq rfl rfl hn rfl (q_fieldAddrp rfl rfl Tryz.underlying117 rfl sz45 rfl) ?_
    refine sq rfl rfl hn rfl (q_loadpA rfl rfl Tryz.underlying45 rfl sz45 rfl rfl seesF0) ?_
    refine sq rfl rfl hn rfl (q_move rfl rfl) ?_
    refine stepW (s_call [] (fun _ => rhas_ok (s.lo, s.hi) (p : Nat)) rfl (guard_none rfl) rfl (nb hn rfl) (fun _ => trivial) rfl rfl (.refl _)) fun _ => ?_
    refine sq rfl rfl hn rfl (q_indexA (i := p) rfl rfl rfl Tryz.underlying148 sz4 rfl hlt) ?_
    refine stepW (s_store1 rfl rfl rfl rfl rfl rfl (id := 4) rfl sz4 (by rw [lvT_len]; omega) (lvT_set1 hlt) trivial) fun _ => ?_
    refine run_nil ?_
    refine aend_block ?_
    refine aend_then ?_
    refine awp_region ?_
    refine sq rfl rfl hn rfl (q_add rfl rfl rfl (r := ((p + 1 : Nat) : Int)) (i64w (by omega) (by omega))) ?_
    refine sq rfl rfl hn rfl (q_move rfl rfl) ?_
    refine run_nil ?_
    exact aend_round_on ⟨(p + 1, putB m1 p (withinB (p : Nat) s.lo s.hi)), by simp only; omega, fun q hq => by simp only; rw [putB_bit]; by_cases e : q = p; (subst e; simp); (rw [if_neg e, hm1 q hq, show decide (q < p + 1) = decide (q < p) by simp only [decide_eq_decide]; omega])⟩ ⟨.inl rfl, holdT_anys _⟩ ⟨.inl rfl, trivial⟩ (by simp only; omega) (by repeat (first | exact kr _ | refine kc rfl ?_)) (by repeat (first | exact kr _ | refine kc rfl ?_))
  · skip
    have hpe : p = 800 := by simp at hb0; omega
    subst hpe
    have hlv : lvE m1 = lvE (startN s) := lv_ext fun q hq => by rw [hm1 q hq]; unfold startN; rw [maskOf_bit]
    refine awp_exit ?_
    refine aend_then_exit ?_
    refine aend_then_exit ?_
    refine aend_block_exit ?_
    refine aend_then ?_
    refine awp_seq ?_
    refine awp_region ?_
    refine sq rfl rfl hn rfl (q_loadAd rfl rfl (id := 4) rfl Tryz.underlying148 rfl sz148 (allD_lv m1) (lvE_len m1) sees0) ?_
    refine stepW (s_store rfl rfl rfl rfl rfl rfl (id := 4) rfl sz148 (by rw [show (TV.cells (.d (.agg (lvE m1)))) = lvT m1 from rfl, lvT_len]) (by rw [lvT_len]; decide) (put_flat m1 (lvT_len m1)) trivial) fun _ => ?_
    refine run_nil ?_
    refine aend_then ?_
    refine awp_ret ?_
    exact ret_E (.inl rfl) () (hands_1 rfl (.d (.cellA rfl (id := 4) rfl Tryz.underlying148 rfl sz148 ((allD_lv m1).trans (congrArg some hlv)) (lvE_len _)))) ⟨rfl, rfl, trivial⟩
theorem bounds_ok (m : Nat) : PureAt Tryz.prog 80 [.agg (lvE m)] (rngD (bndN m)) := by
  refine PureAt.of_awp Tryz.func80 rfl (by kernel_rfl) (Nat.le_of_ble_eq_true rfl) fun Γ hn hl => ?_
  refine awp_seq ?_
  refine awp_region ?_
  refine stepW (s_box 1 rfl rfl rfl (nb hn rfl) rfl rfl) fun b1 => ?_
  refine stepW (s_alloc 2 rfl rfl rfl (nb hn rfl) zr45 rfl rfl) fun b2 => ?_
  refine run_nil ?_
  refine aend_then ?_
  refine awp_seq ?_
  refine awp_region ?_
  refine sq rfl rfl hn rfl (q_buildd rfl bt45 rfl rfl rfl rfl rfl) ?_
  refine stepW (s_alloc 3 rfl rfl rfl (nb hn rfl) zr45 rfl rfl) fun b3 => ?_
  refine stepW (s_store rfl rfl rfl rfl rfl rfl (id := 3) rfl sz45 rfl (Nat.le_of_ble_eq_true rfl) rfl trivial) fun _ => ?_
  refine run_nil ?_
  refine aend_then ?_
  refine awp_seq ?_
  refine awp_seq ?_
  refine awp_region ?_
  refine sq rfl rfl hn rfl (q_loadAd rfl rfl (id := 1) rfl Tryz.underlying148 rfl sz148 (allD_lv m) (lvE_len m) sees0) ?_
  refine sq rfl rfl hn rfl (q_move rfl rfl) ?_
  refine run_nil ?_
  refine aend_then ?_
  refine awp_block ?_
  refine awp_loop_on (ι := {x : Nat // x ≤ 800}) (fun x => (8, true, .d (.int .i64 (x.1 : Nat))) :: anys [9, 10, 11, 4, 5, 12, 13, 14, 15, 16, 17, 18, 19, 20, 21, 22, 23]) (fun x => [(3, .box b3 45 [.d (.int .i64 (bndGo m x.1).1), .d (.int .i64 (bndGo m x.1).2)])]) (fun x => 800 - x.1) ⟨0, by simp⟩ ⟨.inl rfl, holdT_anys _⟩ ⟨.inl rfl, trivial⟩ ?_
  rintro ⟨p, hp⟩
  dsimp only
  refine awp_seq ?_
  refine awp_region ?_
  refine sq rfl rfl hn rfl (q_lss rfl rfl rfl) ?_
  refine run_nil ?_
  refine aend_then ?_
  refine awp_seq ?_
  refine awp_cond rfl (fun hb0 => ?_) (fun hb0 => ?_)
  · skip
    have hlt : p < 800 := by simp at hb0; omega
    refine awp_skip ?_
    refine aend_then ?_
    refine awp_seq ?_
    refine awp_block ?_
    refine awp_seq ?_
    refine awp_region ?_
    refine sq rfl rfl hn rfl (q_move rfl rfl) ?_
    refine sq rfl rfl hn rfl (q_indexAgg rfl rfl rfl Tryz.underlying148 Tryz.underlying4 rfl sz4 rfl hlt (lvE_get hlt)) ?_
    refine sq rfl rfl hn rfl (q_assign rfl rfl) ?_
    refine sq rfl rfl hn rfl (q_assign rfl rfl) ?_
    refine run_nil ?_
    refine aend_then ?_
    refine awp_seq ?_
    refine awp_region ?_
    refine sq rfl rfl hn rfl (q_move rfl rfl) ?_
    refine run_nil ?_
    refine aend_then ?_
    refine awp_cond rfl (fun hb1 => ?_) (fun hb1 => ?_)
    · skip
      have hbg : bndGo m (p + 1) = (min (bndGo m p).1 (p : Nat), max (bndGo m p).2 (p : Nat)) := by rw [bndGo, hb1]; rfl
      refine awp_join_on (e := .normal) (ι := Unit) (fun x => anys [13, 14, 15, 16, 17, 18, 19, 20, 21, 22]) (fun x => [(3, .box b3 45 [.d (.int .i64 (bndGo m (p + 1)).1), .d (.int .i64 (bndGo m (p + 1)).2)])]) (fun hJ2 => ?_) ?_
      · skip
        refine d_start (W := fun b => True) fmo ?_
        refine d1q (i := 0) rfl (by kernel_rfl) (fun _ _ _ _ h => h) rfl rfl hn rfl (q_fieldAddr rfl rfl Tryz.underlying45 rfl sz3) ?_
        refine d1q (i := 2) rfl (by kernel_rfl) (fun _ _ _ _ h => h) rfl rfl hn rfl (q_move rfl rfl) ?_
        refine d1q (i := 5) rfl (by kernel_rfl) (fun _ _ _ _ h => h) rfl rfl hn rfl (q_fieldAddr rfl rfl Tryz.underlying45 rfl sz3) ?_
        refine d1q (i := 7) rfl (by kernel_rfl) (fun _ _ _ _ h => h) rfl rfl hn rfl (q_move rfl rfl) ?_
        refine d1_of_d2 ?_
        refine d2_all 1 [6] (by kernel_rfl) ⟨?_, ?_, trivial⟩
        · skip
          refine br rfl (quiet_wg _ [] (guard_none rfl) rfl (nb hn rfl) (fun _ => trivial) (fun _ => q_load rfl rfl (id := 3) rfl Tryz.underlying3 rfl rfl sees0)) fun _ => ?_
          refine d2_of_d1 ?_
          refine d1_of_d2 ?_
          refine d2_all 3 [6] (by kernel_rfl) ⟨?_, ?_, trivial⟩
          · skip
            refine br rfl (s_buildSlice rfl rfl rfl (nb hn rfl) Tryz.underlying57 sz3 zr3 rfl rfl rfl (show _ = [.d (.int .i64 0), .d (.int .i64 0)] from by kernel_rfl) (by kernel_rfl) rfl rfl rfl rfl rfl) fun _ => ?_
            refine d2_of_d1 ?_
            refine d1_of_d2 ?_
            refine d2_all 4 [6] (by kernel_rfl) ⟨?_, ?_, trivial⟩
            · skip
              refine br rfl (s_call [] (fun _ => minimum_ok _ _) rfl (guard_none rfl) rfl (nb hn rfl) (fun _ => trivial) rfl rfl (.refl _)) fun _ => ?_
              refine d2_of_d1 ?_
              refine d1_of_d2 ?_
              refine d2_one (i := 6) (by kernel_rfl) rfl (quiet_wg _ [] (guard_none rfl) rfl (nb hn rfl) (fun _ => trivial) (fun _ => q_load rfl rfl (id := 3) rfl Tryz.underlying3 rfl rfl sees0)) fun _ => ?_
              refine d2_of_d1 ?_
              refine d1q (i := 8) rfl (by kernel_rfl) (fun _ _ _ _ h => h) rfl rfl hn rfl (q_max rfl rfl rfl) ?_
              refine d1q (i := 9) rfl (by kernel_rfl) (fun _ _ _ _ h => h) rfl rfl hn rfl (q_buildd rfl bt45 rfl rfl rfl rfl rfl) ?_
              refine d1_of_d2 ?_
              refine d2_one (i := 10) (by kernel_rfl) rfl (s_store rfl rfl rfl rfl rfl rfl (id := 3) rfl sz45 rfl (Nat.le_of_ble_eq_true rfl) rfl trivial) fun _ => ?_
              refine d2_of_d1 ?_
              refine d1_of_d2 ?_
              refine d2_done (by kernel_rfl) ?_
              exact aend_join_on hJ2 () (holdT_anys _) ⟨.inl (by rw [hbg]; rfl), trivial⟩ (by repeat (first | exact kr _ | refine kc rfl ?_)) (by repeat (first | exact kr _ | refine kc rfl ?_))
            · skip
              refine br rfl (quiet_wg _ [] (guard_none rfl) rfl (nb hn rfl) (fun _ => trivial) (fun _ => q_load rfl rfl (id := 3) rfl Tryz.underlying3 rfl rfl sees0)) fun _ => ?_
              refine d2_of_d1 ?_
              refine d1q (i := 8) rfl (by kernel_rfl) (fun _ _ _ _ h => h) rfl rfl hn rfl (q_max rfl rfl rfl) ?_
              refine d1_of_d2 ?_
              refine d2_one (i := 4) (by kernel_rfl) rfl (s_call [] (fun _ => minimum_ok _ _) rfl (guard_none rfl) rfl (nb hn rfl) (fun _ => trivial) rfl rfl (.refl _)) fun _ => ?_
              refine d2_of_d1 ?_
              refine d1q (i := 9) rfl (by kernel_rfl) (fun _ _ _ _ h => h) rfl rfl hn rfl (q_buildd rfl bt45 rfl rfl rfl rfl rfl) ?_
              refine d1_of_d2 ?_
              refine d2_one (i := 10) (by kernel_rfl) rfl (s_store rfl rfl rfl rfl rfl rfl (id := 3) rfl sz45 rfl (Nat.le_of_ble_eq_true rfl) rfl trivial) fun _ => ?_
              refine d2_of_d1 ?_
              refine d1_of_d2 ?_
              refine d2_done (by kernel_rfl) ?_
              exact aend_join_on hJ2 () (holdT_anys _) ⟨.inl (by rw [hbg]; rfl), trivial⟩ (by repeat (first | exact kr _ | refine kc rfl ?_)) (by repeat (first | exact kr _ | refine kc rfl ?_))
          · skip
            refine br rfl (quiet_wg _ [] (guard_none rfl) rfl (nb hn rfl) (fun _ => trivial) (fun _ => q_load rfl rfl (id := 3) rfl Tryz.underlying3 rfl rfl sees0)) fun _ => ?_
            refine d2_of_d1 ?_
            refine d1q (i := 8) rfl (by kernel_rfl) (fun _ _ _ _ h => h) rfl rfl hn rfl (q_max rfl rfl rfl) ?_
            refine d1_of_d2 ?_
            refine d2_one (i := 3) (by kernel_rfl) rfl (s_buildSlice rfl rfl rfl (nb hn rfl) Tryz.underlying57 sz3 zr3 rfl rfl rfl (show _ = [.d (.int .i64 0), .d (.int .i64 0)] from by kernel_rfl) (by kernel_rfl) rfl rfl rfl rfl rfl) fun _ => ?_
            refine d2_of_d1 ?_
            refine d1_of_d2 ?_
            refine d2_one (i := 4) (by kernel_rfl) rfl (s_call [] (fun _ => minimum_ok _ _) rfl (guard_none rfl) rfl (nb hn rfl) (fun _ => trivial) rfl rfl (.refl _)) fun _ => ?_
            refine d2_of_d1 ?_
            refine d1q (i := 9) rfl (by kernel_rfl) (fun _ _ _ _ h => h) rfl rfl hn rfl (q_buildd rfl bt45 rfl rfl rfl rfl rfl) ?_
            refine d1_of_d2 ?_
            refine d2_one (i := 10) (by kernel_rfl) rfl (s_store rfl rfl rfl rfl rfl rfl (id := 3) rfl sz45 rfl (Nat.le_of_ble_eq_true rfl) rfl trivial) fun _ => ?_
            refine d2_of_d1 ?_
            refine d1_of_d2 ?_
            refine d2_done (by kernel_rfl) ?_
            exact aend_join_on hJ2 () (holdT_anys _) ⟨.inl (by rw [hbg]; rfl), trivial⟩ (by repeat (first | exact kr _ | refine kc rfl ?_)) (by repeat (first | exact kr _ | refine kc rfl ?_))
        · skip
          refine br rfl (quiet_wg _ [] (guard_none rfl) rfl (nb hn rfl) (fun _ => trivial) (fun _ => q_load rfl rfl (id := 3) rfl Tryz.underlying3 rfl rfl sees0)) fun _ => ?_
          refine d2_of_d1 ?_
          refine d1q (i := 8) rfl (by kernel_rfl) (fun _ _ _ _ h => h) rfl rfl hn rfl (q_max rfl rfl rfl) ?_
          refine d1_of_d2 ?_
          refine d2_one (i := 1) (by kernel_rfl) rfl (quiet_wg _ [] (guard_none rfl) rfl (nb hn rfl) (fun _ => trivial) (fun _ => q_load rfl rfl (id := 3) rfl Tryz.underlying3 rfl rfl sees0)) fun _ => ?_
          refine d2_of_d1 ?_
          refine d1_of_d2 ?_
          refine d2_one (i := 3) (by kernel_rfl) rfl (s_buildSlice rfl rfl rfl (nb hn rfl) Tryz.underlying57 sz3 zr3 rfl rfl rfl (show _ = [.d (.int .i64 0), .d (.int .i64 0)] from by kernel_rfl) (by kernel_rfl) rfl rfl rfl rfl rfl) fun _ => ?_
          refine d2_of_d1 ?_
          refine d1_of_d2 ?_
          refine d2_one (i := 4) (by kernel_rfl) rfl (s_call [] (fun _ => minimum_ok _ _) rfl (guard_none rfl) rfl (nb hn rfl) (fun _ => trivial) rfl rfl (.refl _)) fun _ => ?_
          refine d2_of_d1 ?_
          refine d1q (i := 9) rfl (by kernel_rfl) (fun _ _ _ _ h => h) rfl rfl hn rfl (q_buildd rfl bt45 rfl rfl rfl rfl rfl) ?_
          refine d1_of_d2 ?_
          refine d2_one (i := 10) (by kernel_rfl) rfl (s_store rfl rfl rfl rfl rfl rfl (id := 3) rfl sz45 rfl (Nat.le_of_ble_eq_true rfl) rfl trivial) fun _ => ?_
          refine d2_of_d1 ?_
          refine d1_of_d2 ?_
          refine d2_done (by kernel_rfl) ?_
          exact aend_join_on hJ2 () (holdT_anys _) ⟨.inl (by rw [hbg]; rfl), trivial⟩ (by repeat (first | exact kr _ | refine kc rfl ?_)) (by repeat (first | exact kr _ | refine kc rfl ?_))
      · rintro _
        refine aend_block ?_
        refine aend_then ?_
        refine awp_region ?_
        refine sq rfl rfl hn rfl (q_add rfl rfl rfl (r := ((p + 1 : Nat) : Int)) (i64w (by omega) (by omega))) ?_
        refine sq rfl rfl hn rfl (q_move rfl rfl) ?_
        refine run_nil ?_
        exact aend_round_on ⟨p + 1, by omega⟩ ⟨.inl rfl, holdT_anys _⟩ ⟨.inl rfl, trivial⟩ (by simp only; omega) (by repeat (first | exact kr _ | refine kc rfl ?_)) (by repeat (first | exact kr _ | refine kc rfl ?_))
    · skip
      have hbg : bndGo m (p + 1) = bndGo m p := by rw [bndGo, hb1]; rfl
      refine awp_skip ?_
      refine aend_block ?_
      refine aend_then ?_
      refine awp_region ?_
      refine sq rfl rfl hn rfl (q_add rfl rfl rfl (r := ((p + 1 : Nat) : Int)) (i64w (by omega) (by omega))) ?_
      refine sq rfl rfl hn rfl (q_move rfl rfl) ?_
      refine run_nil ?_
      exact aend_round_on ⟨p + 1, by omega⟩ ⟨.inl rfl, holdT_anys _⟩ ⟨.inl (by rw [hbg]; rfl), trivial⟩ (by simp only; omega) (by repeat (first | exact kr _ | refine kc rfl ?_)) (by repeat (first | exact kr _ | refine kc rfl ?_))
  · skip
    have hpe : p = 800 := by simp at hb0; omega
    subst hpe
    refine awp_exit ?_
    refine aend_then_exit ?_
    refine aend_then_exit ?_
    refine aend_block_exit ?_
    refine aend_then ?_
    refine awp_seq ?_
    refine awp_region ?_
    refine sq rfl rfl hn rfl (q_loadAd rfl rfl (id := 3) rfl Tryz.underlying45 rfl sz45 rfl rfl sees0) ?_
    refine stepW (s_store rfl rfl rfl rfl rfl rfl (id := 2) rfl sz45 rfl (Nat.le_of_ble_eq_true rfl) rfl trivial) fun _ => ?_
    refine run_nil ?_
    refine aend_then ?_
    refine awp_ret ?_
    exact ret_1 (.inl rfl) hl rfl (.cellA rfl (id := 2) rfl Tryz.underlying45 rfl sz45 rfl rfl)
end Go.Proofs.YtplpcamcnppibaaGreatDoor
