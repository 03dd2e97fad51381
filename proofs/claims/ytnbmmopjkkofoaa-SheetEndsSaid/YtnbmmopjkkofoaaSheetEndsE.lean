/-
  A part of the proof that contangolaw.SheetEnds returns true: what the last text needs, and no more. No condition: no statement of the seat is proved here.
-/
import Derived.Laws.StructEq
import Derived.Test.YtnbmmopjkkofoaaSheetEndsD
namespace Go.Proofs.Ytnbmmopjkkofoaa
open Go.RowKit
set_option maxRecDepth 20000
set_option linter.all false
theorem first_ok (r : Reg) : PureAt Try.prog 38 [regD r] (.tup [.int .i64 (firstR r).1, .int .i64 (firstR r).2]) := PureAt.of_eff (ds := [regD r]) (first_eff r)
theorem leave_all (r : Reg) (v : Valid r) (b2 b3 S : Nat) (hS : S ≤ 50) : ∀ k, LeaveOK r b2 b3 S k := by
  intro k
  induction k with
  | zero => intro out f x hf hk; exact leave_step r v b2 b3 S 0 hS (fun k1 h => by omega) out f x hf hk
  | succ k ih => intro out f x hf hk; exact leave_step r v b2 b3 S (k + 1) hS (fun k1 h => by cases h; exact ih) out f x hf hk
def sumR (r : Reg) : Nat := r.entries.length + r.sights.length
def leaveK (r : Reg) (k : Nat) : Option (List Int) := leaveS r (sumR r) k [] 0
def leaveGo (r : Reg) : Nat → Nat → List Int
  | 0, _ => []
  | c + 1, k => match leaveK r k with
    | some l => l
    | none => leaveGo r c (k + 1)
/-- What is left out, and the error. -/
def leaveR (r : Reg) : List Int × Int := if checkE r ≠ 0 then ([], checkE r) else (leaveGo r (sumR r + 1) 0, 0)
theorem goes_empty {r : Reg} (he : r.entries = []) (hs : r.sights = []) : ∀ (k d m : Nat), 10 - d ≤ k → goesB r d 0 m = true
  | 0, d, m, h => goesB_end (by omega)
  | k + 1, d, m, h => by
    by_cases hd : 9 < d
    · exact goesB_end hd
    · have := goesB_day (r := r) (d := d) (m := m) (by omega)
      rw [he] at this
      rw [show (0 : Nat) = ([] : List Ent5).length from rfl, this, goes_empty he hs k (d + 1) m (by omega)]
      simp [seenN, hs]
theorem dropF_all {α : Type} {out : List Int} : ∀ {k : Nat} {l : List α}, (∀ j, k ≤ j → j < k + l.length → (j : Int) ∈ out) → dropF out k l = []
  | _, [], _ => rfl
  | k, x :: l, h => by
    have h1 : (out.any fun n => (k : Int) == n) = true := List.any_eq_true.2 ⟨_, h k (Nat.le_refl _) (by simp), by simp⟩
    rw [dropF, h1]
    exact dropF_all fun j h2 h3 => h j (by omega) (by simp only [List.length_cons]; omega)
theorem leave_full (r : Reg) (S : Nat) (hS : S = sumR r) : ∀ (k f : Nat) (out : List Int), f + k = S → (∀ j : Nat, j < f → (j : Int) ∈ out) → ∃ l, leaveS r S k out f = some l
  | 0, f, out, h, ho => by
    have he : dropF out 0 r.entries = [] := dropF_all fun j _ h2 => ho j (by rw [sumR] at hS; omega)
    have hs : dropF out r.entries.length r.sights = [] := dropF_all fun j _ h2 => ho j (by rw [sumR] at hS; omega)
    refine ⟨out, ?_⟩
    rw [leaveS, goes_empty (r := dropR r out) he hs 10 0 0 (by omega)]
    rfl
  | k + 1, f, out, h, ho => by
    obtain ⟨l, hl⟩ := leave_full r S hS k (f + 1) (out ++ [(f : Int)]) (by omega) fun j hj => by
      by_cases e : j = f
      · subst e; simp
      · exact List.mem_append_left _ (ho j (by omega))
    refine ⟨l, ?_⟩
    show leaveN r S k out f = some l
    rw [leaveN_step (by omega), hl]
    rfl
theorem leaveGo_step {r : Reg} {k : Nat} {l : List Int} (hk : k ≤ sumR r) (h : leaveK r k = some l) : leaveGo r (sumR r + 1 - k) k = l := by
  rw [show sumR r + 1 - k = (sumR r - k) + 1 by omega, leaveGo, h]
theorem leaveGo_next {r : Reg} {k : Nat} (hk : k ≤ sumR r) (h : leaveK r k = none) : leaveGo r (sumR r + 1 - k) k = leaveGo r (sumR r + 1 - (k + 1)) (k + 1) := by
  rw [show sumR r + 1 - k = (sumR r + 1 - (k + 1)) + 1 by omega, leaveGo, h]
theorem leaveK_some (r : Reg) : ∃ l, leaveK r (sumR r) = some l := leave_full r (sumR r) rfl (sumR r) 0 [] (by omega) fun j hj => by omega
/-- A way of the walk: a spot, and the days on which what has happened happened. -/
inductive PathTo (r : Reg) : Nat → Nat → Nat → List Int → Prop
  | start : PathTo r 0 0 0 (List.replicate r.entries.length 0)
  | day {d m ts} (h : PathTo r d r.entries.length m ts) (hd : d ≤ 9) (hs : seenN r d m = true) : PathTo r (d + 1) 0 m ts
  | next {d n m ts s} (h : PathTo r d n m ts) (hd : d ≤ 9) (hs : s ∈ nextL r d n m) : PathTo r s.1 s.2.1 s.2.2 (if s.2.2 = m then ts else ts.set n (d : Int))
def ExplP (r : Reg) (x : List Int × Int) : Prop :=
  (checkE r ≠ 0 ∧ x = ([], checkE r)) ∨ (checkE r = 0 ∧ goesB r 0 0 0 = false ∧ x = ([], 9)) ∨ (checkE r = 0 ∧ goesB r 0 0 0 = true ∧ x.2 = 0 ∧ x.1.length = r.entries.length ∧ ∃ n m, PathTo r 10 n m x.1)
abbrev ES := (Nat × Nat × Nat) × List Int × (D → D → Prop) × Nat × List Nat
def ExplI (r : Reg) (x : ES) : Prop := x.1.1 ≤ 10 ∧ x.1.2.1 ≤ r.entries.length ∧ x.1.2.2 < 2 ^ r.entries.length ∧ x.2.1.length = r.entries.length ∧ Good r x.2.2.1 ∧ goesB r x.1.1 x.1.2.1 x.1.2.2 = true ∧ PathTo r x.1.1 x.1.2.1 x.1.2.2 x.2.1
def ExplX (r : Reg) : Type := {x : List Int × Int // ExplP r x}
theorem rep_int (n : Nat) : (List.replicate n [TV.d (.int .i64 0)]).flatten = (List.replicate n (0 : Int)).map fun n => TV.d (.int .i64 n) := by
  induction n with
  | zero => rfl
  | succ n ih => rw [List.replicate_succ, List.flatten_cons, ih]; rfl
theorem set_int (l : List Int) (i : Nat) (x : Int) : (l.map fun n => TV.d (.int .i64 n)).set (0 + i * 1) (.d (.int .i64 x)) = (l.set i x).map fun n => TV.d (.int .i64 n) := by
  rw [List.map_set, Nat.zero_add, Nat.mul_one]
theorem allD_ints (l : List Int) : allD (l.map fun n => TV.d (.int .i64 n)) = some (l.map intD) := by
  rw [show (l.map fun n => TV.d (.int .i64 n)) = (l.map intD).map .d by simp [intD]]
  exact allD_d _
theorem sz115 : Sz Try.prog 115 1 := (by kernel_rfl : (Try.prog.info? 115).map (·.size) = some 1)
theorem sz125 : Sz Try.prog 125 1 := (by kernel_rfl : (Try.prog.info? 125).map (·.size) = some 1)
theorem zr115 : (Try.prog.info? 115).map (·.zero) = some (some (.pointer none)) := by kernel_rfl
theorem zr125 : (Try.prog.info? 125).map (·.zero) = some (some .nilFunc) := by kernel_rfl
theorem leave_eff (r : Reg) : EffAt Try.prog 35 [.d (regD r)] [] (X := Unit) (fun _ => .d (.tup [ints (leaveR r).1, .int .i64 (leaveR r).2])) (fun _ => []) := by
  refine EffAt.of_awp Try.func35 rfl (by kernel_rfl) rfl fun Γ hn => ?_
  refine awp_seq ?_
  refine awp_region ?_
  refine stepW (s_box 1 rfl rfl rfl (nb hn rfl) rfl rfl) fun b1 => ?_
  refine sq rfl rfl hn rfl (q_assign rfl rfl) ?_
  refine sq rfl rfl hn rfl (q_assign rfl rfl) ?_
  refine run_nil ?_
  refine aend_then ?_
  refine awp_scope ?_
  refine awp_seq ?_
  refine awp_seq ?_
  refine awp_region ?_
  refine sq rfl rfl hn rfl (q_loadAd rfl rfl (id := 1) rfl Try.underlying35 rfl sz35 rfl rfl sees0) ?_
  refine stepW (s_call [] (fun _ => CheckRegister_ok _) rfl (guard_none rfl) rfl (nb hn rfl) (fun _ => trivial) rfl rfl (.refl _)) fun _ => ?_
  refine sq rfl rfl hn rfl (q_assign rfl rfl) ?_
  refine run_nil ?_
  refine aend_then ?_
  refine awp_seq ?_
  refine awp_region ?_
  refine sq rfl rfl hn rfl (q_move rfl rfl) ?_
  refine sq rfl rfl hn rfl (q_neq rfl rfl rfl) ?_
  refine run_nil ?_
  refine aend_then ?_
  refine awp_cond rfl (fun hb0 => ?_) (fun hb0 => ?_)
  · simp only [bne_iff_ne, ne_eq] at hb0
    have hc0 : checkE r ≠ 0 := hb0
    refine awp_seq ?_
    refine awp_region ?_
    refine sq rfl rfl hn rfl (q_move rfl rfl) ?_
    refine sq rfl rfl hn rfl (q_assign rfl rfl) ?_
    refine sq rfl rfl hn rfl (q_assign rfl rfl) ?_
    refine run_nil ?_
    refine aend_then ?_
    refine awp_ret ?_
    refine aend_then_ret ?_
    refine aend_scope ?_ (fun _ e => by cases e)
    exact ret_E (.inl rfl) () ((hands_2d rfl (.tmp rfl) (.tmp rfl)).le (by rw [leaveR, if_pos hc0]; exact .tup (.cons (.nil 1) (.refl _)))) trivial
  · skip
    have hc0 : checkE r = 0 := by simpa using hb0
    have v := valid_of hc0
    have he6 := v.e6
    have hg4 := v.g4
    have hS : sumR r ≤ 50 := by unfold sumR; omega
    refine awp_skip ?_
    refine aend_then ?_
    refine awp_seq ?_
    refine awp_region ?_
    refine sq rfl rfl hn rfl (q_fieldAddr rfl rfl Try.underlying35 rfl sz32) ?_
    refine sq rfl rfl hn rfl (q_load rfl rfl (id := 1) rfl Try.underlying32 rfl rfl sees0) ?_
    refine sq rfl rfl hn rfl (q_len rfl rfl Try.underlying32) ?_
    refine sq rfl rfl hn rfl (q_fieldAddr rfl rfl Try.underlying35 rfl sz33) ?_
    refine sq rfl rfl hn rfl (q_load rfl rfl (id := 1) rfl Try.underlying33 rfl rfl sees0) ?_
    refine sq rfl rfl hn rfl (q_len rfl rfl Try.underlying33) ?_
    refine sq rfl rfl hn rfl (q_add rfl rfl rfl (r := (sumR r : Nat)) (i64w (by simp only [List.length_map]; omega) (by simp only [List.length_map, sumR]; omega))) ?_
    refine stepW (s_alloc 5 rfl rfl rfl (nb hn rfl) zr3 rfl rfl) fun b5 => ?_
    refine stepW (s_store1 rfl rfl rfl rfl rfl rfl (id := 5) rfl sz3 (Nat.le_of_ble_eq_true rfl) rfl trivial) fun _ => ?_
    refine run_nil ?_
    refine aend_then ?_
    refine awp_seq ?_
    refine awp_region ?_
    refine stepW (s_alloc 1003 rfl rfl rfl (nb hn rfl) zr22 rfl rfl) fun b6 => ?_
    refine run_nil ?_
    refine aend_then ?_
    refine awp_seq ?_
    refine awp_region ?_
    refine stepW (s_alloc 1002 rfl rfl rfl (nb hn rfl) zr125 rfl rfl) fun b7 => ?_
    refine run_nil ?_
    refine aend_then ?_
    refine awp_seq ?_
    refine gh_awp (g_freeze (t := 1) 1 rfl (nb hn rfl) rfl rfl trivial) ?_
    refine gh_awp (g_freeze (t := 5) 5 rfl (nb hn rfl) rfl rfl trivial) ?_
    refine awp_region ?_
    refine sq rfl rfl hn rfl (q_makeFunc rfl rfl rfl) ?_
    refine stepW (s_store1 rfl rfl rfl rfl rfl rfl (id := 1002) rfl sz125 (Nat.le_of_ble_eq_true rfl) rfl trivial) fun _ => ?_
    refine run_nil ?_
    refine aend_then ?_
    refine awp_seq ?_
    refine awp_label ?_
    refine aend_then ?_
    refine awp_seq ?_
    refine awp_seq ?_
    refine awp_region ?_
    refine sq rfl rfl hn rfl (q_loadp rfl rfl Try.underlying3 rfl seesF0) ?_
    refine sq rfl rfl hn rfl (q_add rfl rfl rfl (r := ((sumR r + 1 : Nat) : Int)) (i64w (by omega) rfl)) ?_
    refine sq rfl rfl hn rfl (q_move rfl rfl) ?_
    refine run_nil ?_
    refine aend_then ?_
    refine awp_block ?_
    refine awp_loop_on (ι := {x : Nat × D // x.1 ≤ sumR r + 1 ∧ leaveGo r (sumR r + 1) 0 = leaveGo r (sumR r + 1 - x.1) x.1 ∧ (x.1 = sumR r + 1 → leaveK r (sumR r) = none)}) (fun x => (24, true, .d (.int .i64 (x.1.1 : Nat))) :: anys [25, 26, 8, 27, 28, 29, 30]) (fun x => [(1002, .box b7 125 [.fn (.func 71) [] (leaveCa r b7 b6 (sumR r))]), (1003, .box b6 22 [.d x.1.2])]) (fun x => sumR r + 1 - x.1.1) ⟨(0, .nil), by simp, rfl, fun h => by simp at h⟩ ⟨.inl rfl, holdT_anys _⟩ ⟨.inl rfl, .inl rfl, trivial⟩ ?_
    rintro ⟨⟨k, x1⟩, hk, hgo, hlast⟩
    dsimp only
    dsimp only at hk hgo hlast
    refine awp_seq ?_
    refine awp_region ?_
    refine sq rfl rfl hn rfl (q_lss rfl rfl rfl) ?_
    refine run_nil ?_
    refine aend_then ?_
    refine awp_seq ?_
    refine awp_cond rfl (fun hb1 => ?_) (fun hb1 => ?_)
    · try simp only [decide_eq_true_eq, decide_eq_false_iff_not, Bool.and_eq_true, Bool.or_eq_true, Bool.and_eq_false_iff, Bool.or_eq_false_iff, Bool.not_eq_true', Bool.not_eq_false', beq_iff_eq, bne_iff_ne, ne_eq, beq_eq_false_iff_ne, bne_eq_false_iff_eq, Int.not_lt, Int.not_le] at hb1
      have hlt : k ≤ sumR r := by omega
      refine awp_skip ?_
      refine aend_then ?_
      refine awp_seq ?_
      refine awp_block ?_
      refine awp_seq ?_
      refine awp_region ?_
      refine sq rfl rfl hn rfl (q_move rfl rfl) ?_
      refine sq rfl rfl hn rfl (q_assign rfl rfl) ?_
      refine run_nil ?_
      refine aend_then ?_
      refine awp_seq ?_
      refine awp_region ?_
      refine sq rfl rfl hn rfl (q_load rfl rfl (id := 1002) rfl Try.underlying125 rfl rfl sees0) ?_
      refine sq rfl rfl hn rfl (q_move rfl rfl) ?_
      refine stepW (s_callE (leave_all r v b7 b6 (sumR r) hS k [] 0 x1 (by omega) (by simp; omega)) rfl rfl rfl (nb hn rfl) (.t rfl) rfl (by first | exact .refl _ | (repeat (first | exact .refl _ | exact .d (.nil _) | exact .nil _ | refine .cons ?_ ?_ | refine .d ?_ | refine .agg ?_ | refine .tup ?_))) ⟨rfl, rfl, trivial⟩ (fun _ => rfl) (fun _ _ => trivial)) fun ⟨x2, hx2⟩ => ?_
      refine run_nil ?_
      refine aend_then ?_
      refine awp_cond rfl (fun hb2 => ?_) (fun hb2 => ?_)
      · skip
        obtain ⟨l2, hl2⟩ := Option.isSome_iff_exists.1 hb2
        obtain rfl := hx2 _ hl2
        have hyes : leaveR r = (l2, 0) := by rw [leaveR, if_neg (by simp [hc0]), hgo, leaveGo_step hlt hl2]
        refine awp_exit ?_
        refine aend_block_exit_ne rfl ?_
        refine aend_then_exit ?_
        refine aend_then_exit ?_
        refine aend_block_exit ?_
        refine aend_then ?_
        refine awp_seq ?_
        refine awp_region ?_
        refine sq rfl rfl hn rfl (q_load rfl rfl (id := 1003) rfl Try.underlying22 rfl rfl sees0) ?_
        refine sq rfl rfl hn rfl (q_assign rfl rfl) ?_
        refine sq rfl rfl hn rfl (q_assign rfl rfl) ?_
        refine run_nil ?_
        refine aend_then ?_
        refine awp_ret ?_
        refine aend_scope ?_ (fun _ e => by cases e)
        exact ret_E (.inl rfl) () ((hands_2d rfl (.tmp rfl) (.tmp rfl)).eq (by rw [hyes])) trivial
      · skip
        have hno : leaveK r k = none := by cases h : leaveK r k; rfl; simp [leaveK] at h hb2; rw [h] at hb2; cases hb2
        refine awp_skip ?_
        refine aend_block ?_
        refine aend_then ?_
        refine awp_region ?_
        refine sq rfl rfl hn rfl (q_add rfl rfl rfl (r := ((k + 1 : Nat) : Int)) (i64w (by omega) (by omega))) ?_
        refine sq rfl rfl hn rfl (q_move rfl rfl) ?_
        refine run_nil ?_
        exact aend_round_on ⟨(k + 1, x2), by simp only; omega, by simp only; rw [hgo]; exact leaveGo_next (by omega) hno, fun h => by simp only at h; rw [show sumR r = k by omega]; exact hno⟩ ⟨.inl rfl, holdT_anys _⟩ ⟨.inl rfl, .inl rfl, trivial⟩ (by simp only; omega) (by repeat (first | exact kr _ | refine kc rfl ?_)) (by repeat (first | exact kr _ | refine kc rfl ?_))
    · try simp only [decide_eq_true_eq, decide_eq_false_iff_not, Bool.and_eq_true, Bool.or_eq_true, Bool.and_eq_false_iff, Bool.or_eq_false_iff, Bool.not_eq_true', Bool.not_eq_false', beq_iff_eq, bne_iff_ne, ne_eq, beq_eq_false_iff_ne, bne_eq_false_iff_eq, Int.not_lt, Int.not_le] at hb1
      exact absurd (leaveK_some r) (by rw [hlast (by omega)]; rintro ⟨l, hl⟩; cases hl)
theorem leave_ok (r : Reg) : PureAt Try.prog 35 [regD r] (.tup [ints (leaveR r).1, .int .i64 (leaveR r).2]) := PureAt.of_eff (ds := [regD r]) (leave_eff r)
theorem nextXs_len43 (r : Reg) (d n m : Nat) : ∀ x ∈ nextXs r d n m, x.length = (#[43] : Array Tmp).size := fun x hx => by
  obtain ⟨s, _, rfl⟩ := List.mem_map.1 hx
  rfl
theorem explain_ok (r : Reg) : EffAt Try.prog 33 [.d (regD r)] [] (X := ExplX r) (fun x => .d (.tup [ints x.1.1, .int .i64 x.1.2])) (fun _ => []) := by
  refine EffAt.of_awpM Try.func33 rfl (by kernel_rfl) rfl fun Γ hn => ?_
  refine awp_seq ?_
  refine awp_region ?_
  refine stepW (s_box 1 rfl rfl rfl (nb hn rfl) rfl rfl) fun b1 => ?_
  refine sq rfl rfl hn rfl (q_assign rfl rfl) ?_
  refine sq rfl rfl hn rfl (q_assign rfl rfl) ?_
  refine run_nil ?_
  refine aend_then ?_
  refine awp_seq ?_
  refine awp_seq ?_
  refine awp_region ?_
  refine sq rfl rfl hn rfl (q_loadAd rfl rfl (id := 1) rfl Try.underlying35 rfl sz35 rfl rfl sees0) ?_
  refine stepW (s_call [] (fun _ => CheckRegister_ok _) rfl (guard_none rfl) rfl (nb hn rfl) (fun _ => trivial) rfl rfl (.refl _)) fun _ => ?_
  refine sq rfl rfl hn rfl (q_assign rfl rfl) ?_
  refine run_nil ?_
  refine aend_then ?_
  refine awp_seq ?_
  refine awp_region ?_
  refine sq rfl rfl hn rfl (q_move rfl rfl) ?_
  refine sq rfl rfl hn rfl (q_neq rfl rfl rfl) ?_
  refine run_nil ?_
  refine aend_then ?_
  refine awp_cond rfl (fun hb0 => ?_) (fun hb0 => ?_)
  · simp only [bne_iff_ne, ne_eq] at hb0
    have hc0 : checkE r ≠ 0 := hb0
    refine awp_seq ?_
    refine awp_region ?_
    refine sq rfl rfl hn rfl (q_move rfl rfl) ?_
    refine sq rfl rfl hn rfl (q_assign rfl rfl) ?_
    refine sq rfl rfl hn rfl (q_assign rfl rfl) ?_
    refine run_nil ?_
    refine aend_then ?_
    refine awp_ret ?_
    refine aend_then_ret ?_
    exact ret_M (.inl rfl) ⟨([], checkE r), .inl ⟨hc0, rfl⟩⟩ (.inl rfl) ((hands_2d rfl (.tmp rfl) (.tmp rfl)).le (.tup (.cons (.nil 1) (.refl _)))) trivial rfl
  · skip
    have hc0 : checkE r = 0 := by simpa using hb0
    have v := valid_of hc0
    have he6 := v.e6
    refine awp_skip ?_
    refine aend_then ?_
    refine awp_seq ?_
    refine awp_region ?_
    refine sq rfl rfl hn rfl (q_loadAd rfl rfl (id := 1) rfl Try.underlying35 rfl sz35 rfl rfl sees0) ?_
    refine stepW (s_callE (work_ok r) rfl rfl rfl (nb hn rfl) (.d rfl) rfl (.refl _) trivial (fun _ => rfl) (fun _ _ => trivial)) fun bw => ?_
    refine stepW (s_alloc 5 rfl rfl rfl (nb hn rfl) zr115 rfl rfl) fun b5 => ?_
    refine stepW (s_store1 rfl rfl rfl rfl rfl rfl (id := 5) rfl sz115 (Nat.le_of_ble_eq_true rfl) rfl trivial) fun _ => ?_
    refine run_nil ?_
    refine aend_then ?_
    refine awp_seq ?_
    refine awp_seq ?_
    refine gh_awp (g_freeze (t := 5) 5 rfl (nb hn rfl) rfl rfl trivial) ?_
    refine gh_awp (g_freeze (t := 1) 1 rfl (nb hn rfl) rfl rfl trivial) ?_
    refine awp_region ?_
    refine sq rfl rfl hn rfl (q_loadp rfl rfl Try.underlying115 rfl seesF0) ?_
    refine sq rfl rfl hn rfl (q_buildd rfl bt119 rfl rfl rfl rfl rfl) ?_
    refine stepW (s_callE (goes_ok r v bw 0 0 0 _ (by omega) (Nat.zero_le _) (Nat.two_pow_pos _) (good_none _)) rfl rfl rfl (nb hn rfl) (.d rfl) rfl (.refl _) ⟨rfl, trivial⟩ (fun _ => rfl) (fun _ _ => trivial)) fun ⟨M0, hM0⟩ => ?_
    refine sq rfl rfl hn rfl (q_not rfl rfl) ?_
    refine run_nil ?_
    refine aend_then ?_
    refine awp_cond rfl (fun hb1 => ?_) (fun hb1 => ?_)
    · skip
      have hg0 : goesB r 0 0 0 = false := by simpa using hb1
      refine awp_seq ?_
      refine awp_region ?_
      refine sq rfl rfl hn rfl (q_assign rfl rfl) ?_
      refine sq rfl rfl hn rfl (q_assign rfl rfl) ?_
      refine run_nil ?_
      refine aend_then ?_
      refine awp_ret ?_
      refine aend_then_ret ?_
      exact ret_M (.inl rfl) ⟨([], 9), .inr (.inl ⟨hc0, hg0, rfl⟩)⟩ (.inl rfl) ((hands_2d rfl (.tmp rfl) (.tmp rfl)).le (.tup (.cons (.nil 1) (.refl _)))) trivial rfl
    · skip
      have hg0 : goesB r 0 0 0 = true := by simpa using hb1
      refine awp_skip ?_
      refine aend_then ?_
      refine awp_seq ?_
      refine awp_region ?_
      refine sq rfl rfl hn rfl (q_fieldAddrp rfl rfl Try.underlying35 rfl sz32 rfl) ?_
      refine sq rfl rfl hn rfl (q_loadp rfl rfl Try.underlying32 rfl seesF0) ?_
      refine sq rfl rfl hn rfl (q_len rfl rfl Try.underlying32) ?_
      refine stepW (s_makeSlice (n := r.entries.length) 23 rfl rfl rfl (nb hn rfl) Try.underlying22 (show _ = some (some (.int .i64 0), 1, 8) from by kernel_rfl) rfl rfl rfl (by decide) rfl rfl (by simp) (by simp) (by omega) (by omega) (by omega)) fun b23 => ?_
      refine stepW (s_alloc 6 rfl rfl rfl (nb hn rfl) zr22 rfl rfl) fun b6 => ?_
      refine stepW (s_store1 rfl rfl rfl rfl rfl rfl (id := 6) rfl sz22 (Nat.le_of_ble_eq_true rfl) rfl trivial) fun _ => ?_
      refine run_nil ?_
      refine aend_then ?_
      refine awp_seq ?_
      refine awp_seq ?_
      refine awp_region ?_
      refine sq rfl rfl hn rfl (q_buildd rfl bt119 rfl rfl rfl rfl rfl) ?_
      refine stepW (s_alloc 7 rfl rfl rfl (nb hn rfl) zr119 rfl rfl) fun b7 => ?_
      refine stepW (s_store rfl rfl rfl rfl rfl rfl (id := 7) rfl sz119 rfl (Nat.le_of_ble_eq_true rfl) rfl trivial) fun _ => ?_
      refine run_nil ?_
      refine aend_then ?_
      refine awp_block ?_
      refine gh_awp (gh_marks rfl rfl) ?_
      refine awp_loop_onM (ι := {x : ES // ExplI r x}) (fun x => (7, true, .val (.pointer (some ⟨x.1.2.2.2.1, 0, none⟩))) :: anys [25, 26, 27, 28, 29, 30, 31, 32, 33, 35, 36, 37, 34, 38, 39, 40, 41, 42, 60]) (fun x => [(7, .box x.1.2.2.2.1 119 [.d (.int .i64 (x.1.1.1 : Nat)), .d (.int .i64 (x.1.1.2.1 : Nat)), .d (.int .u64 (x.1.1.2.2 : Nat))]), (6, .box b6 22 [.val (.slice (some ⟨b23, 0, none⟩) r.entries.length r.entries.length)]), (23, .box b23 3 (x.1.2.1.map fun n => TV.d (.int .i64 n))), (1000, mapRes KS bw x.1.2.2.1), (9000, marksRes x.1.2.2.2.2)]) (fun x => x.1.2.2.2.2) (fun x => muS r x.1.1.1 x.1.1.2.1) ⟨((0, 0, 0), List.replicate r.entries.length 0, M0, b7, []), Nat.zero_le _, Nat.zero_le _, Nat.two_pow_pos _, by simp, hM0, hg0, .start⟩ ⟨.inl rfl, holdT_anys _⟩ ⟨.inl rfl, .inl rfl, .inl (congrArg (fun z => some (Res.box b23 3 z)) (rep_int _)), .inl rfl, .inl rfl, trivial⟩ rfl ?_
      rintro ⟨⟨⟨d, n, m⟩, ts, M, b7, dm⟩, hI⟩
      dsimp only
      obtain ⟨hd, hn6, hm, hts, hM, hg, hpt⟩ := hI
      dsimp only at hd hn6 hm hts hM hg hpt
      have hm64 := lt64 he6 hm
      refine awp_seq ?_
      refine awp_seq ?_
      refine awp_region ?_
      refine sq rfl rfl hn rfl (q_fieldAddr rfl rfl Try.underlying119 rfl sz3) ?_
      refine sq rfl rfl hn rfl (q_load rfl rfl (id := 7) rfl Try.underlying3 rfl rfl sees0) ?_
      refine sq rfl rfl hn rfl (q_leq rfl rfl rfl) ?_
      refine run_nil ?_
      refine aend_then ?_
      refine awp_cond rfl (fun hb2 => ?_) (fun hb2 => ?_)
      · try simp only [decide_eq_true_eq, decide_eq_false_iff_not, Bool.and_eq_true, Bool.or_eq_true, Bool.and_eq_false_iff, Bool.or_eq_false_iff, Bool.not_eq_true', Bool.not_eq_false', beq_iff_eq, bne_iff_ne, ne_eq, beq_eq_false_iff_ne, bne_eq_false_iff_eq, Int.not_lt, Int.not_le] at hb2
        have hd9 : d ≤ 9 := by omega
        refine awp_skip ?_
        refine aend_then ?_
        refine awp_seq ?_
        refine awp_block ?_
        refine awp_seq ?_
        refine awp_seq ?_
        refine awp_region ?_
        refine sq rfl rfl hn rfl (q_fieldAddr rfl rfl Try.underlying119 rfl sz3) ?_
        refine sq rfl rfl hn rfl (q_load rfl rfl (id := 7) rfl Try.underlying3 rfl rfl sees0) ?_
        refine sq rfl rfl hn rfl (q_fieldAddrp rfl rfl Try.underlying35 rfl sz32 rfl) ?_
        refine sq rfl rfl hn rfl (q_loadp rfl rfl Try.underlying32 rfl seesF0) ?_
        refine sq rfl rfl hn rfl (q_len rfl rfl Try.underlying32) ?_
        refine sq rfl rfl hn rfl (q_eql rfl rfl rfl) ?_
        refine run_nil ?_
        refine aend_then ?_
        refine awp_cond rfl (fun hb3 => ?_) (fun hb3 => ?_)
        · try simp only [decide_eq_true_eq, decide_eq_false_iff_not, Bool.and_eq_true, Bool.or_eq_true, Bool.and_eq_false_iff, Bool.or_eq_false_iff, Bool.not_eq_true', Bool.not_eq_false', beq_iff_eq, bne_iff_ne, ne_eq, beq_eq_false_iff_ne, bne_eq_false_iff_eq, Int.not_lt, Int.not_le] at hb3
          have hnl : n = r.entries.length := by simp only [List.length_map] at hb3; omega
          subst hnl
          have hgd := goesB_day (r := r) (d := d) (m := m) hd9
          rw [hg] at hgd
          have hgs : seenN r d m = true ∧ goesB r (d + 1) 0 m = true := by simpa using hgd.symm
          refine awp_seq ?_
          refine awp_region ?_
          refine sq rfl rfl hn rfl (q_loadp rfl rfl Try.underlying115 rfl seesF0) ?_
          refine sq rfl rfl hn rfl (q_loadAd rfl rfl (id := 7) rfl Try.underlying119 rfl sz119 rfl rfl sees0) ?_
          refine stepW (s_call [] (fun _ => closed_ok r bw d _ m v hd9 hm64) rfl (guard_none rfl) rfl (nb hn rfl) (fun _ => trivial) rfl rfl (.refl _)) fun _ => ?_
          refine sq rfl rfl hn rfl (q_move rfl rfl) ?_
          refine sq rfl rfl hn rfl (q_extractd rfl rfl rfl) ?_
          refine sq rfl rfl hn rfl (q_extractd rfl rfl rfl) ?_
          refine stepW (s_store rfl rfl rfl rfl rfl rfl (id := 7) rfl sz119 rfl (Nat.le_of_ble_eq_true rfl) rfl trivial) fun _ => ?_
          refine run_nil ?_
          refine aend_then ?_
          refine awp_exit ?_
          refine aend_then_exit ?_
          refine aend_block_exit ?_
          refine aend_then ?_
          refine awp_seq ?_
          refine awp_region ?_
          refine sq rfl rfl hn rfl (q_loadAd rfl rfl (id := 7) rfl Try.underlying119 rfl sz119 rfl rfl sees0) ?_
          refine run_nil ?_
          refine aend_then ?_
          refine awp_region ?_
          refine stepW (s_alloc 7 rfl rfl rfl (nb hn rfl) zr119 rfl rfl) fun b7 => ?_
          refine stepW (s_store rfl rfl rfl rfl rfl rfl (id := 7) rfl sz119 rfl (Nat.le_of_ble_eq_true rfl) rfl trivial) fun _ => ?_
          refine run_nil ?_
          exact aend_round_onM ⟨((d + 1, 0, m), ts, M, b7, dm), by simp only; omega, Nat.zero_le _, hm, hts, hM, hgs.2, .day hpt hd9 hgs.1⟩ ⟨.inl rfl, holdT_anys _⟩ ⟨.inl rfl, .inl rfl, .inl rfl, .inl rfl, .inl rfl, trivial⟩ (muS_day hd9) (by repeat (first | exact kr _ | refine kc rfl ?_)) (by repeat (first | exact kr _ | refine kc rfl ?_)) rfl
        · try simp only [decide_eq_true_eq, decide_eq_false_iff_not, Bool.and_eq_true, Bool.or_eq_true, Bool.and_eq_false_iff, Bool.or_eq_false_iff, Bool.not_eq_true', Bool.not_eq_false', beq_iff_eq, bne_iff_ne, ne_eq, beq_eq_false_iff_ne, bne_eq_false_iff_eq, Int.not_lt, Int.not_le] at hb3
          have hnl : n < r.entries.length := by simp only [List.length_map] at hb3; omega
          obtain ⟨e, he⟩ := ex_get hnl
          refine awp_skip ?_
          refine aend_then ?_
          refine awp_seq ?_
          refine awp_region ?_
          refine sq rfl rfl hn rfl (q_loadpA rfl rfl Try.underlying35 rfl sz35 rfl rfl seesF0) ?_
          refine sq rfl rfl hn rfl (q_loadAd rfl rfl (id := 7) rfl Try.underlying119 rfl sz119 rfl rfl sees0) ?_
          refine stepW (s_call [] (fun _ => next_ok _ _ _ _) rfl (guard_none rfl) rfl (nb hn rfl) (fun _ => trivial) rfl rfl (.refl _)) fun _ => ?_
          refine run_nil ?_
          refine aend_then ?_
          refine awp_block ?_
          refine awp_rangeFunc (ι := {x : (Nat × Nat × Nat) × List Int × (D → D → Prop) // Good r x.2.2}) (fun x => [(7, .box b7 119 [.d (.int .i64 (x.1.1.1 : Nat)), .d (.int .i64 (x.1.1.2.1 : Nat)), .d (.int .u64 (x.1.1.2.2 : Nat))]), (6, .box b6 22 [.val (.slice (some ⟨b23, 0, none⟩) r.entries.length r.entries.length)]), (23, .box b23 3 (x.1.2.1.map fun n => TV.d (.int .i64 n))), (1000, mapRes KS bw x.1.2.2)]) (fun j x => x.1.1 = (d, n, m) ∧ x.1.2.1 = ts ∧ ∀ s ∈ (nextL r d n m).take j, goesB r s.1 s.2.1 s.2.2 = false) ((fun c x => c = .exit 2 ∧ x.1.1 ∈ nextL r d n m ∧ goesB r x.1.1.1 x.1.1.2.1 x.1.1.2.2 = true ∧ x.1.2.1 = if x.1.1.2.2 = m then ts else ts.set n (d : Int))) ⟨((d, n, m), ts, M), hM⟩ ((next1_ok r d n m e he v hd9 (by omega) hm64)) rfl (nextXs_len43 r d n m) (by rw [hn]; rfl) (.inr rfl) ⟨rfl, rfl, rfl, rfl, trivial⟩ ⟨rfl, rfl, fun s hs => (by cases hs)⟩ (fun _ => rfl) (fun _ => rfl) rfl rfl ?_ ?_ ?_
          · rintro l0 r0 Γr j0 x0 ⟨⟨s0, ts1, M1⟩, hM1⟩ hnr hrd hx0 hA0
            dsimp only at hA0 hM1
            obtain ⟨rfl, rfl, hno⟩ := hA0
            obtain ⟨s, hs, rfl⟩ := nextXs_get hx0
            have hsin := List.mem_of_getElem? hs
            have hsm := nextL_mem hsin
            obtain ⟨s1, s2, s3⟩ := s
            obtain rfl : d = s1 := hsm.1.symm
            obtain rfl : n + 1 = s2 := hsm.2.1.symm
            have hs3 := hsm.2.2.1
            dsimp only at hs3
            have hs3b : s3 < 2 ^ r.entries.length := next_lt hm hnl hs3
            refine awi_region ?_
            refine stepWI ((s_alloc 8 rfl rfl rfl (nb (hnr.trans hn) rfl) zr119 rfl rfl).i rfl) fun b8 => ?_
            refine stepWI ((s_store rfl rfl rfl rfl rfl rfl (id := 8) rfl sz119 rfl (Nat.le_of_ble_eq_true rfl) rfl trivial).i rfl) fun _ => ?_
            refine run_nilI ?_
            refine aend_begin hrd rfl ?_
            refine awi_block ?_
            refine awi_seq ?_
            refine awi_seq ?_
            refine awi_region ?_
            refine sqI rfl rfl (hnr.trans hn) rfl (q_loadp rfl rfl Try.underlying115 rfl seesF0) rfl ?_
            refine sqI rfl rfl (hnr.trans hn) rfl (q_loadAd rfl rfl (id := 8) rfl Try.underlying119 rfl sz119 rfl rfl sees0) rfl ?_
            refine stepWI ((s_callE (goes_ok r v bw d (n + 1) s3 M1 hd (by omega) hs3b hM1) rfl rfl rfl (nb (hnr.trans hn) rfl) (.d rfl) rfl (.refl _) ⟨rfl, trivial⟩ (fun _ => rfl) (fun _ _ => trivial)).i rfl) fun ⟨M3, hM3⟩ => ?_
            refine sqI rfl rfl (hnr.trans hn) rfl (q_not rfl rfl) rfl ?_
            refine run_nilI ?_
            refine aend_thenI ?_
            refine awi_cond rfl (fun hb4 => ?_) (fun hb4 => ?_)
            · skip
              have hgf : goesB r d (n + 1) s3 = false := by simpa using hb4
              refine awi_exit ?_
              refine aend_then_exit ?_
              refine aend_block_exit ?_
              exact aend_round_go ⟨((d, n, m), ts1, M3), hM3⟩ ⟨rfl, rfl, fun s hs2 => by rw [List.take_add_one, hs] at hs2; rcases List.mem_append.1 hs2 with h | h; exact hno s h; simp at h; subst h; exact hgf⟩ ⟨rfl, rfl, rfl, rfl, rfl, trivial⟩
            · skip
              have hgt : goesB r d (n + 1) s3 = true := by simpa using hb4
              refine awi_skip ?_
              refine aend_thenI ?_
              refine awi_seq ?_
              refine awi_seq ?_
              refine awi_region ?_
              refine sqI rfl rfl (hnr.trans hn) rfl (q_fieldAddr rfl rfl Try.underlying119 rfl sz102) rfl ?_
              refine sqI rfl rfl (hnr.trans hn) rfl (q_load rfl rfl (id := 8) rfl Try.underlying102 rfl rfl sees0) rfl ?_
              refine sqI rfl rfl (hnr.trans hn) rfl (q_fieldAddr rfl rfl Try.underlying119 rfl sz102) rfl ?_
              refine sqI rfl rfl (hnr.trans hn) rfl (q_load rfl rfl (id := 7) rfl Try.underlying102 rfl rfl sees0) rfl ?_
              refine sqI rfl rfl (hnr.trans hn) rfl (q_neq rfl rfl rfl) rfl ?_
              refine run_nilI ?_
              refine aend_thenI ?_
              refine awi_cond rfl (fun hb5 => ?_) (fun hb5 => ?_)
              · skip
                have hne : s3 ≠ m := by simp at hb5; omega
                refine awi_region ?_
                refine sqI rfl rfl (hnr.trans hn) rfl (q_load rfl rfl (id := 6) rfl Try.underlying22 rfl rfl sees0) rfl ?_
                refine sqI rfl rfl (hnr.trans hn) rfl (q_fieldAddr rfl rfl Try.underlying119 rfl sz3) rfl ?_
                refine sqI rfl rfl (hnr.trans hn) rfl (q_load rfl rfl (id := 7) rfl Try.underlying3 rfl rfl sees0) rfl ?_
                refine sqI rfl rfl (hnr.trans hn) rfl (q_fieldAddr rfl rfl Try.underlying119 rfl sz3) rfl ?_
                refine sqI rfl rfl (hnr.trans hn) rfl (q_load rfl rfl (id := 7) rfl Try.underlying3 rfl rfl sees0) rfl ?_
                refine sqI rfl rfl (hnr.trans hn) rfl (q_indexV (i := n) rfl rfl rfl Try.underlying22 sz3 rfl (by omega)) rfl ?_
                refine stepWI ((s_store1 rfl rfl rfl rfl rfl rfl (id := 23) rfl sz3 (by simp; omega) (set_int _ _ _) trivial).i rfl) fun _ => ?_
                refine run_nilI ?_
                refine aend_thenI ?_
                refine awi_seq ?_
                refine awi_region ?_
                refine sqI rfl rfl (hnr.trans hn) rfl (q_loadAd rfl rfl (id := 8) rfl Try.underlying119 rfl sz119 rfl rfl sees0) rfl ?_
                refine stepWI ((s_store rfl rfl rfl rfl rfl rfl (id := 7) rfl sz119 rfl (Nat.le_of_ble_eq_true rfl) rfl trivial).i rfl) fun _ => ?_
                refine run_nilI ?_
                refine aend_thenI ?_
                refine awi_exit ?_
                refine aend_block_exit_ne rfl ?_
                exact aend_round_exit ⟨((d, n + 1, s3), ts1.set n (d : Int), M3), hM3⟩ ⟨rfl, hsin, hgt, by rw [if_neg hne]⟩ ⟨rfl, rfl, rfl, rfl, rfl, trivial⟩
              · skip
                have heq : s3 = m := by simp at hb5; omega
                refine awi_skip ?_
                refine aend_thenI ?_
                refine awi_seq ?_
                refine awi_region ?_
                refine sqI rfl rfl (hnr.trans hn) rfl (q_loadAd rfl rfl (id := 8) rfl Try.underlying119 rfl sz119 rfl rfl sees0) rfl ?_
                refine stepWI ((s_store rfl rfl rfl rfl rfl rfl (id := 7) rfl sz119 rfl (Nat.le_of_ble_eq_true rfl) rfl trivial).i rfl) fun _ => ?_
                refine run_nilI ?_
                refine aend_thenI ?_
                refine awi_exit ?_
                refine aend_block_exit_ne rfl ?_
                exact aend_round_exit ⟨((d, n + 1, s3), ts1, M3), hM3⟩ ⟨rfl, hsin, hgt, by rw [if_pos heq]⟩ ⟨rfl, rfl, rfl, rfl, rfl, trivial⟩
          · rintro ⟨⟨s0, ts1, M1⟩, hM1⟩ D0 hA0
            dsimp only at hA0
            obtain ⟨_, _, hno⟩ := hA0
            rw [show (nextXs r d n m).length = (nextL r d n m).length by simp [nextXs], List.take_length] at hno
            rw [goesB_next hd9 hnl] at hg
            obtain ⟨s, hs, hs2⟩ := List.any_eq_true.1 hg
            rw [hno s hs] at hs2
            cases hs2
          · rintro c0 ⟨⟨s0, ts1, M1⟩, hM1⟩ D0 hB0
            dsimp only at hB0 hM1
            obtain ⟨rfl, hsin, hsg, hts1⟩ := hB0
            obtain ⟨s1, s2, s3⟩ := s0
            have hsm := nextL_mem hsin
            obtain rfl : d = s1 := hsm.1.symm
            obtain rfl : n + 1 = s2 := hsm.2.1.symm
            have hs3 := hsm.2.2.1
            dsimp only at hs3 hsg
            have hs3b : s3 < 2 ^ r.entries.length := next_lt hm hnl hs3
            · skip
              refine awp_exit ?_
              refine aend_block_exit ?_
              refine aend_block ?_
              refine aend_then ?_
              refine awp_seq ?_
              refine awp_region ?_
              refine sq rfl rfl hn rfl (q_loadAd rfl rfl (id := 7) rfl Try.underlying119 rfl sz119 rfl rfl sees0) ?_
              refine run_nil ?_
              refine aend_then ?_
              refine awp_region ?_
              refine stepW (s_alloc 7 rfl rfl rfl (nb hn rfl) zr119 rfl rfl) fun b7 => ?_
              refine stepW (s_store rfl rfl rfl rfl rfl rfl (id := 7) rfl sz119 rfl (Nat.le_of_ble_eq_true rfl) rfl trivial) fun _ => ?_
              refine run_nil ?_
              exact aend_round_onM ⟨((d, n + 1, s3), ts1, M1, b7, D0 :: dm), hd, by simp only; omega, hs3b, by simp only; rw [hts1]; split <;> simp [hts], hM1, hsg, by simp only; rw [hts1]; exact .next (s := (d, n + 1, s3)) hpt hd9 hsin⟩ ⟨.inl rfl, holdT_anys _⟩ ⟨.inl rfl, .inl rfl, .inl rfl, .inl rfl, .inl rfl, trivial⟩ (muS_next hd9 hnl) (by repeat (first | exact kr _ | refine kc rfl ?_)) (by repeat (first | exact kr _ | refine kc rfl ?_)) rfl
      · try simp only [decide_eq_true_eq, decide_eq_false_iff_not, Bool.and_eq_true, Bool.or_eq_true, Bool.and_eq_false_iff, Bool.or_eq_false_iff, Bool.not_eq_true', Bool.not_eq_false', beq_iff_eq, bne_iff_ne, ne_eq, beq_eq_false_iff_ne, bne_eq_false_iff_eq, Int.not_lt, Int.not_le] at hb2
        obtain rfl : d = 10 := by omega
        refine awp_exit ?_
        refine aend_then_exit ?_
        refine aend_then_exit ?_
        refine aend_block_exit ?_
        refine aend_then ?_
        refine awp_seq ?_
        refine awp_region ?_
        refine sq rfl rfl hn rfl (q_load rfl rfl (id := 6) rfl Try.underlying22 rfl rfl sees0) ?_
        refine sq rfl rfl hn rfl (q_assign rfl rfl) ?_
        refine sq rfl rfl hn rfl (q_assign rfl rfl) ?_
        refine run_nil ?_
        refine aend_then ?_
        refine awp_ret ?_
        refine gh_end (g_freezeV (t := 2) (sz := 1) (n := r.entries.length) (es := ts.map intE) 23 rfl rfl (allD_ints ts) (by simp [hts]) (by rw [← hts]; exact chunk_int ts) (Nat.le_refl _) (by simp only [maxLen]; omega)) ?_
        exact ret_M (.inl rfl) ⟨(ts, 0), .inr (.inr ⟨hc0, hg0, rfl, hts, n, m, hpt⟩)⟩ (.inr rfl) (hands_2d rfl (.tmp rfl) (.tmp rfl)) trivial rfl
end Go.Proofs.Ytnbmmopjkkofoaa
namespace Go.Proofs.Ytnbmmopjkkofoaa
set_option linter.all false
theorem ext_getD {a b : List Int} (h : a.length = b.length) (k : ∀ j, j < a.length → a.getD j 0 = b.getD j 0) : a = b := by
  apply List.ext_getElem h
  intro i h1 h2
  have := k i h1
  simpa [List.getD_eq_getElem?_getD, h1, h2] using this
theorem getD_set (l : List Int) (i j : Nat) (x : Int) : (l.set i x).getD j 0 = if i = j ∧ j < l.length then x else l.getD j 0 := by
  simp only [List.getD_eq_getElem?_getD, List.getElem?_set]
  by_cases h : i = j
  · subst h
    by_cases hl : i < l.length <;> simp [hl]
  · simp [h]
theorem getD_bump (c : List Int) (h x : Int) (j : Nat) : (bump c h x).getD j 0 = c.getD j 0 + if h.toNat = j ∧ j < c.length then x else 0 := by
  unfold bump
  rw [getD_set]
  split
  · rename_i hh; rw [hh.1]
  · omega
theorem bump_comm (c : List Int) (a x b y : Int) : bump (bump c a x) b y = bump (bump c b y) a x := by
  apply ext_getD (by simp [bump_len])
  intro j hj
  simp only [getD_bump, bump_len]
  omega
theorem comeF_bump {d : Nat} {s : Int} : ∀ {k : Nat} {es : List Ent5} {c : List Int} {h x : Int}, comeF d s k es (bump c h x) = bump (comeF d s k es c) h x
  | _, [], _, _, _ => rfl
  | k, e :: es, c, h, x => by
    simp only [comeF]
    cases d.testBit k && (e.sheet == s)
    · simp only [cond_false]; exact comeF_bump
    · simp only [cond_true]
      rw [bump_comm c h x, bump_comm _ h x, comeF_bump]
theorem or_bit (d j i : Nat) : (d ||| 2 ^ j).testBit i = (d.testBit i || decide (j = i)) := by
  rw [Nat.testBit_or, Nat.testBit_two_pow]
theorem comeF_or_lt {d j : Nat} {s : Int} : ∀ {k : Nat} {es : List Ent5} {c : List Int}, j < k → comeF (d ||| 2 ^ j) s k es c = comeF d s k es c
  | _, [], _, _ => rfl
  | k, e :: es, c, h => by
    simp only [comeF, or_bit]
    rw [show decide (j = k) = false by simp; omega, Bool.or_false]
    exact comeF_or_lt (by omega)
theorem comeF_or {d j : Nat} {s : Int} {e : Ent5} (hb : d.testBit j = false) : ∀ {k : Nat} {es : List Ent5} {c : List Int}, k ≤ j → es[j - k]? = some e →
    comeF (d ||| 2 ^ j) s k es c = bif e.sheet == s then bump (bump (comeF d s k es c) e.frm (-1)) e.to 1 else comeF d s k es c
  | _, [], _, _, h => by simp at h
  | k, x :: es, c, hk, he => by
    by_cases hkj : k = j
    · subst hkj
      simp only [Nat.sub_self, List.getElem?_cons_zero, Option.some.injEq] at he
      subst he
      simp only [comeF, or_bit, hb, decide_true, Bool.or_true, Bool.true_and, Bool.false_and, cond_false]
      rw [comeF_or_lt (by omega)]
      cases x.sheet == s
      · rfl
      · simp only [cond_true]; rw [comeF_bump, comeF_bump]
    · simp only [comeF, or_bit]
      rw [show decide (j = k) = false by simp; omega, Bool.or_false]
      refine comeF_or hb (by omega) ?_
      rw [show j - k = (j - (k + 1)) + 1 by omega] at he
      simpa using he
theorem comeF_zero {s : Int} : ∀ {k : Nat} {es : List Ent5} {c : List Int}, comeF 0 s k es c = c
  | _, [], _ => rfl
  | k, e :: es, c => by simp only [comeF, Nat.zero_testBit, Bool.false_and, cond_false]; exact comeF_zero
def openD (a b : Int) (e : Ent5) : Int := bif (e.kind == 1) && (e.frm == a) && (e.to == b) then 1 else bif (e.kind == 2) && (e.frm == b) && (e.to == a) then -1 else 0
theorem openF_def {d : Nat} {a b : Int} {k : Nat} {e : Ent5} {es : List Ent5} {n : Int} : openF d a b k (e :: es) n = openF d a b (k + 1) es (n + bif d.testBit k then openD a b e else 0) := by
  simp only [openF, openD]
  cases d.testBit k <;> cases ((e.kind == 1) && (e.frm == a) && (e.to == b)) <;> cases ((e.kind == 2) && (e.frm == b) && (e.to == a)) <;> simp <;> rfl
theorem openF_add {d : Nat} {a b : Int} : ∀ {k : Nat} {es : List Ent5} {n x : Int}, openF d a b k es (n + x) = openF d a b k es n + x
  | _, [], _, _ => rfl
  | k, e :: es, n, x => by
    rw [openF_def, openF_def, Int.add_right_comm, openF_add]
theorem openF_or_lt {d j : Nat} {a b : Int} : ∀ {k : Nat} {es : List Ent5} {n : Int}, j < k → openF (d ||| 2 ^ j) a b k es n = openF d a b k es n
  | _, [], _, _ => rfl
  | k, e :: es, n, h => by
    rw [openF_def, openF_def, or_bit, show decide (j = k) = false by simp; omega, Bool.or_false]
    exact openF_or_lt (by omega)
theorem openF_or {d j : Nat} {a b : Int} {e : Ent5} (hb : d.testBit j = false) : ∀ {k : Nat} {es : List Ent5} {n : Int}, k ≤ j → es[j - k]? = some e → openF (d ||| 2 ^ j) a b k es n = openF d a b k es n + openD a b e
  | _, [], _, _, h => by simp at h
  | k, x :: es, n, hk, he => by
    rw [openF_def, openF_def, or_bit]
    by_cases hkj : k = j
    · subst hkj
      simp only [Nat.sub_self, List.getElem?_cons_zero, Option.some.injEq] at he
      subst he
      simp only [hb, decide_true, Bool.or_true, cond_true, cond_false]
      rw [openF_or_lt (by omega), openF_add, Int.add_zero]
    · rw [show decide (j = k) = false by simp; omega, Bool.or_false]
      refine openF_or hb (by omega) ?_
      rw [show j - k = (j - (k + 1)) + 1 by omega] at he
      simpa using he
theorem openF_zero {a b : Int} : ∀ {k : Nat} {es : List Ent5} {n : Int}, openF 0 a b k es n = n
  | _, [], _ => rfl
  | k, e :: es, n => by rw [openF_def, Nat.zero_testBit, cond_false, Int.add_zero]; exact openF_zero
theorem getD_upd (l : List Int) (k j : Nat) (x : Int) : (upd l k x).getD j 0 = l.getD j 0 + if k = j ∧ j < l.length then x else 0 := by
  unfold upd
  rw [getD_set]
  split
  · rename_i hh; rw [hh.1]
  · omega
theorem getD_come0 {h : Int} (j : Nat) (hj : j < 4) : (come0 h).getD j 0 = if h.toNat = j then 1 else 0 := by
  unfold come0
  rw [getD_bump]
  have : ([0, 0, 0, 0] : List Int).getD j 0 = 0 := by rcases j with _ | _ | _ | _ | j <;> rfl
  rw [this]
  by_cases e : h.toNat = j <;> simp [e, hj]
theorem come0_move {f t : Int} : bump (bump (come0 f) f (-1)) t 1 = come0 t := by
  apply ext_getD (by simp [bump_len, come0_len])
  intro j hj
  simp only [bump_len, come0_len] at hj
  simp only [getD_bump, bump_len, come0_len, getD_come0 j hj, hj, and_true]
  omega
theorem come0_idx {h : Int} (h0 : 0 ≤ h) (h4 : h < 4) : idxOf (fun x => (1 : Int) == x) (come0 h) = h := by
  obtain ⟨k, rfl⟩ : ∃ k : Nat, h = k := ⟨h.toNat, by omega⟩
  have hk : k < 4 := by omega
  rcases k with _ | _ | _ | _ | k
  · rfl
  · rfl
  · rfl
  · rfl
  · omega
/-- The set of what has happened, and the state of the reference. -/
structure OkS (r : Reg) (m : Nat) (st : RSt) : Prop where
  l1 : st.1.length = 4
  l2 : st.2.length = 16
  pl : ∀ s : Nat, s < r.start.length → comeF m (s : Int) 0 r.entries (come0 (r.start.getD s 0)) = come0 (st.1.getD s 0) ∧ 0 ≤ st.1.getD s 0 ∧ st.1.getD s 0 < r.houses
  rest : ∀ s : Nat, r.start.length ≤ s → st.1.getD s 0 = 0
  op : ∀ a b : Nat, a < 4 → b < 4 → openN r m (a : Int) (b : Int) = st.2.getD (a * 4 + b) 0
  nn : ∀ j, 0 ≤ st.2.getD j 0
theorem getD_ge {l : List Int} {j : Nat} (h : l.length ≤ j) : l.getD j 0 = 0 := by simp [List.getD_eq_getElem?_getD, List.getElem?_eq_none h]
theorem OkS.places {r : Reg} {m : Nat} {st : RSt} (v : Valid r) (h : OkS r m st) : placesA r m = st.1 := by
  apply ext_getD (by rw [placesA_len, h.l1])
  intro j hj
  rw [placesA_len] at hj
  have : (placesA r m).getD j 0 = placeN r m r.start.length j := getD_of (placesL_get hj)
  rw [this]
  unfold placeN
  split
  · rename_i hlt
    obtain ⟨k1, k2, k3⟩ := h.pl j hlt
    unfold placeOf
    rw [k1, come0_idx k2 (by have := v.h4; omega)]
  · rename_i hge
    rw [getD_ge (by omega), h.rest j (by omega)]
theorem OkS.start (r : Reg) (v : Valid r) : OkS r 0 (startA r r.start.length, List.replicate 16 0) := by
  have h4 := v.s4
  have hlen := startA_len (r := r) (Nat.le_refl _) h4
  have hget : ∀ s, s < r.start.length → (startA r r.start.length).getD s 0 = r.start.getD s 0 := fun s hs => by
    simp only [startA, List.getD_eq_getElem?_getD, List.take_length]
    rw [List.getElem?_append_left hs]
  refine ⟨hlen, by simp, fun s hs => ?_, fun s hs => ?_, fun a b ha hb => ?_, fun j => ?_⟩
  · rw [comeF_zero, hget s hs]
    have := v.st (r.start.getD s 0) (getD_mem hs)
    have := v.h4
    exact ⟨rfl, by omega, by omega⟩
  · simp only [startA, List.getD_eq_getElem?_getD, List.take_length]
    rw [List.getElem?_append_right hs, List.getElem?_replicate]
    split <;> rfl
  · unfold openN
    rw [openF_zero, List.getD_eq_getElem?_getD, List.getElem?_replicate]
    split <;> rfl
  · simp only [List.getD_eq_getElem?_getD, List.getElem?_replicate]
    split <;> simp
theorem OkS.can {r : Reg} {m k : Nat} {st : RSt} {e : Ent5} (v : Valid r) (h : OkS r m st) (he : r.entries[k]? = some e) (hb : m.testBit k = false) : canE r k e m = (refStep e st).isSome := by
  have hen := v.en e (List.mem_of_getElem? he)
  have h4 := v.h4
  have hop := h.op e.to.toNat e.frm.toNat (by omega) (by omega)
  rw [show ((e.to.toNat : Nat) : Int) = e.to by omega, show ((e.frm.toNat : Nat) : Int) = e.frm by omega] at hop
  unfold canE refStep
  rw [h.places v, hb, hop, Bool.eq_iff_iff]
  simp only [Bool.not_false, Bool.true_and, Bool.and_eq_true, beq_iff_eq, Bool.or_eq_true, bne_iff_ne, ne_eq, decide_eq_true_eq]
  cases hc : ((st.1.getD e.sheet.toNat 0 != e.frm) || ((e.kind == 2) && decide (st.2.getD (e.to.toNat * 4 + e.frm.toNat) 0 < 1)))
  · simp only [cond_false, Option.isSome_some]
    simp at hc
    simp only [iff_true]
    refine ⟨hc.1, ?_⟩
    by_cases hk : e.kind = 2
    · right; have := hc.2 hk; simp only [List.getD_eq_getElem?_getD]; omega
    · exact .inl hk
  · simp only [cond_true, Option.isSome_none]
    simp at hc
    simp only [List.getD_eq_getElem?_getD]
    constructor
    · rintro ⟨h1, h2⟩
      rcases hc with hc | hc
      · exact absurd h1 hc
      · omega
    · intro h; cases h
theorem OkS.step {r : Reg} {m k : Nat} {st st' : RSt} {e : Ent5} (v : Valid r) (h : OkS r m st) (he : r.entries[k]? = some e) (hb : m.testBit k = false) (hs : refStep e st = some st') : OkS r (m ||| 2 ^ k) st' := by
  have hen := v.en e (List.mem_of_getElem? he)
  have h4 := v.h4; have hs4 := v.s4
  unfold refStep at hs
  cases hc : ((st.1.getD e.sheet.toNat 0 != e.frm) || ((e.kind == 2) && decide (st.2.getD (e.to.toNat * 4 + e.frm.toNat) 0 < 1))) with
  | true => rw [hc] at hs; cases hs
  | false =>
    rw [hc] at hs
    simp only [cond_false, Option.some.injEq] at hs
    have hat : st.1.getD e.sheet.toNat 0 = e.frm := by
      simp only [Bool.or_eq_false_iff, bne_eq_false_iff_eq] at hc
      exact hc.1
    subst hs
    refine ⟨by simp [h.l1], ?_, fun s hlt => ?_, fun s hge => ?_, fun a b ha hb2 => ?_, fun j => ?_⟩
    · have := h.l2
      cases e.kind == 2 <;> cases e.kind == 1 <;> simp [upd_len, this]
    · obtain ⟨k1, k2, k3⟩ := h.pl s hlt
      simp only [getD_set]
      rw [comeF_or hb (Nat.zero_le _) (by simpa using he), k1]
      by_cases hes : e.sheet = (s : Int)
      · have e1 : e.sheet.toNat = s := by omega
        rw [show (e.sheet == (s : Int)) = true by simpa using hes]
        simp only [cond_true]
        rw [if_pos ⟨e1, by rw [h.l1]; omega⟩, ← e1, hat, come0_move]
        exact ⟨rfl, by omega, by omega⟩
      · rw [show (e.sheet == (s : Int)) = false by simpa using hes]
        simp only [cond_false]
        rw [if_neg (by omega)]
        exact ⟨rfl, k2, k3⟩
    · simp only [getD_set]
      rw [if_neg (by omega)]
      exact h.rest s hge
    · have hop := h.op a b ha hb2
      unfold openN at hop ⊢
      rw [openF_or hb (Nat.zero_le _) (by simpa using he), hop]
      have hl2 := h.l2
      have hfa : (e.frm == (a : Int)) = decide (e.frm.toNat = a) := by rw [Bool.eq_iff_iff]; simp; omega
      have htb : (e.to == (b : Int)) = decide (e.to.toNat = b) := by rw [Bool.eq_iff_iff]; simp; omega
      have hfb : (e.frm == (b : Int)) = decide (e.frm.toNat = b) := by rw [Bool.eq_iff_iff]; simp; omega
      have hta : (e.to == (a : Int)) = decide (e.to.toNat = a) := by rw [Bool.eq_iff_iff]; simp; omega
      simp only [openD, hfa, htb, hfb, hta]
      by_cases hk1 : e.kind = 1
      · have hk2 : (e.kind == 2) = false := by simp [hk1]
        have hk1' : (e.kind == 1) = true := by simp [hk1]
        simp only [hk1', hk2, cond_true, cond_false, Bool.true_and, Bool.false_and, getD_upd]
        congr 1
        by_cases hh : e.frm.toNat = a ∧ e.to.toNat = b
        · rw [if_pos (by omega)]; simp [hh.1, hh.2]
        · rw [if_neg (by omega)]
          have : (decide (e.frm.toNat = a) && decide (e.to.toNat = b)) = false := by simp; omega
          rw [this]; rfl
      · have hk1' : (e.kind == 1) = false := by simp [hk1]
        by_cases hk2 : e.kind = 2
        · have hk2' : (e.kind == 2) = true := by simp [hk2]
          simp only [hk1', hk2', cond_true, cond_false, Bool.true_and, Bool.false_and, getD_upd]
          congr 1
          by_cases hh : e.frm.toNat = b ∧ e.to.toNat = a
          · rw [if_pos (by omega)]; simp [hh.1, hh.2]
          · rw [if_neg (by omega)]
            have : (decide (e.frm.toNat = b) && decide (e.to.toNat = a)) = false := by simp; omega
            rw [this]; rfl
        · have hk2' : (e.kind == 2) = false := by simp [hk2]
          simp [hk1', hk2']
    · have hnn := h.nn
      by_cases hk2 : e.kind = 2
      · have hk1 : (e.kind == 1) = false := by simp [hk2]
        have hk2' : (e.kind == 2) = true := by simp [hk2]
        simp only [hk1, hk2', cond_true, cond_false, getD_upd]
        have := hnn j
        split
        · rename_i hj
          rw [hk2', Bool.true_and, Bool.or_eq_false_iff, decide_eq_false_iff_not, hj.1] at hc
          omega
        · omega
      · have hk2' : (e.kind == 2) = false := by simp [hk2]
        simp only [hk2', cond_false]
        cases e.kind == 1
        · exact hnn j
        · simp only [cond_true, getD_upd]
          have := hnn j
          split <;> omega
theorem day_ref {r : Reg} (v : Valid r) {day : Int} : ∀ (ts : List Int) (k : Nat) (es : List Ent5) (m : Nat) (st : RSt), r.entries.drop k = es → ts.length = es.length → OkS r m st → (∀ i : Nat, ts[i]? = some day → m.testBit (k + i) = false) →
    (dayF r day k ts m = none ∧ refDayF day es ts st = none) ∨ ∃ m' st', dayF r day k ts m = some m' ∧ refDayF day es ts st = some st' ∧ OkS r m' st' ∧ ∀ i, m'.testBit i = true ↔ (m.testBit i = true ∨ (k ≤ i ∧ ts[i - k]? = some day))
  | [], k, es, m, st, _, hl, ho, _ => by
    obtain rfl : es = [] := List.eq_nil_of_length_eq_zero (by simpa using hl.symm)
    exact .inr ⟨m, st, rfl, rfl, ho, fun i => by simp⟩
  | t :: ts, k, [], m, st, _, hl, ho, _ => by simp at hl
  | t :: ts, k, e :: es, m, st, hd, hl, ho, hf => by
    have he : r.entries[k]? = some e := by
      have h1 : (r.entries.drop k)[0]? = some e := by rw [hd]; rfl
      simpa using h1
    have hd' : r.entries.drop (k + 1) = es := by
      have h1 : (r.entries.drop k).drop 1 = es := by rw [hd]; rfl
      rw [List.drop_drop] at h1
      exact h1
    have hl' : ts.length = es.length := by simpa using hl
    simp only [dayF, refDayF]
    by_cases ht : t = day
    · subst ht
      have hfree := hf 0 rfl
      simp only [bne_self_eq_false, cond_false]
      have hcb : canB r k m = (refStep e st).isSome := by
        have : canB r k m = canE r k e m := by unfold canB; rw [he]
        rw [this]
        exact ho.can v he hfree
      rw [hcb]
      cases hs : refStep e st with
      | none => left; simp
      | some st' =>
        simp only [Option.isSome_some, Bool.not_true, cond_false]
        have hk := ho.step v he hfree hs
        rcases day_ref v ts (k + 1) es (m ||| 2 ^ k) st' hd' hl' hk (fun i hi => by
          rw [or_bit]
          have := hf (i + 1) (by simpa using hi)
          rw [show k + 1 + i = k + (i + 1) by omega, this]
          simp) with h | ⟨m', st'', h1, h2, h3, h4⟩
        · exact .inl h
        · refine .inr ⟨m', st'', h1, h2, h3, fun i => ?_⟩
          rw [h4, or_bit]
          simp only [Bool.or_eq_true, decide_eq_true_eq]
          by_cases e1 : k = i
          · subst e1; simp
          · by_cases e2 : k + 1 ≤ i
            · rw [show i - k = (i - (k + 1)) + 1 by omega]
              have e3 : k ≤ i := by omega
              simp [e1, e2, e3]
            · have e3 : ¬ k ≤ i := by omega
              simp [e1, e2, e3]
    · have hb : (t != day) = true := by simpa using ht
      simp only [hb, cond_true]
      rcases day_ref v ts (k + 1) es m st hd' hl' ho (fun i hi => by
          rw [show k + 1 + i = k + (i + 1) by omega]
          exact hf (i + 1) (by simpa using hi)) with h | ⟨m', st'', h1, h2, h3, h4⟩
      · exact .inl h
      · refine .inr ⟨m', st'', h1, h2, h3, fun i => ?_⟩
        rw [h4]
        by_cases e1 : k = i
        · subst e1
          have e3 : ¬ k + 1 ≤ k := by omega
          simp [ht, e3]
        · by_cases e2 : k + 1 ≤ i
          · rw [show i - k = (i - (k + 1)) + 1 by omega]
            have e3 : k ≤ i := by omega
            simp [e2, e3]
          · have e3 : ¬ k ≤ i := by omega
            simp [e2, e3]
theorem getD_splice {o l : List Int} {k n j : Nat} (hl : l.length = n) (hk : k + n ≤ o.length) : (splice o k n l).getD j 0 = if k ≤ j ∧ j < k + n then l.getD (j - k) 0 else o.getD j 0 := by
  unfold splice
  simp only [List.getD_eq_getElem?_getD]
  rw [← apply_ite (fun q : Option Int => q.getD 0)]
  congr 1
  rw [List.append_assoc, List.getElem?_append]
  have h1 : (o.take k).length = k := by rw [List.length_take]; omega
  rw [h1]
  by_cases h : j < k
  · rw [if_pos h, if_neg (by omega), List.getElem?_take, if_pos h]
  · rw [if_neg h, List.getElem?_append, hl]
    by_cases h2 : j - k < n
    · rw [if_pos h2, if_pos (by omega)]
    · rw [if_neg h2, if_neg (by omega), List.getElem?_drop]
      congr 1
      omega
theorem putDay_house {out : List Int} {day : Nat} {st : RSt} (hd : day < 10) (ho : out.length = 200) (h1 : st.1.length = 4) (h2 : st.2.length = 16) {j s : Nat} (hj : j < 10) (hs : s < 4) : houseAt (putDay out day st) j s = if j = day then st.1.getD s 0 else houseAt out j s := by
  unfold houseAt putDay
  rw [getD_splice h2 (by rw [splice_len (by omega) h1]; omega), if_neg (by omega), getD_splice h1 (by omega)]
  by_cases e : j = day
  · subst e
    rw [if_pos (by omega), if_pos rfl]
    congr 1
    omega
  · rw [if_neg (by omega), if_neg e]
theorem putDay_open {out : List Int} {day : Nat} {st : RSt} (hd : day < 10) (ho : out.length = 200) (h1 : st.1.length = 4) (h2 : st.2.length = 16) {j a b : Nat} (hj : j < 10) (ha : a < 4) (hb : b < 4) : openAt (putDay out day st) j a b = if j = day then st.2.getD (a * 4 + b) 0 else openAt out j a b := by
  unfold openAt putDay
  rw [getD_splice h2 (by rw [splice_len (by omega) h1]; omega)]
  by_cases e : j = day
  · subst e
    rw [if_pos (by omega), if_pos rfl]
    congr 1
    omega
  · rw [if_neg (by omega), if_neg e, getD_splice h1 (by omega), if_neg (by omega)]
/-- What a list of what has happened, and a record of the days, have to do with each other. -/
def Agrees (r : Reg) (t : List Int) (o : List Int) (n : Nat) (m : Nat) : Prop :=
  (∀ s, s < 4 → houseAt o n s = (placesA r m).getD s 0) ∧ (∀ a b : Nat, a < 4 → b < 4 → openAt o n a b = openN r m (a : Int) (b : Int) ∧ 0 ≤ openAt o n a b) ∧ (∀ s, s < r.start.length → 0 ≤ (placesA r m).getD s 0 ∧ (placesA r m).getD s 0 < r.houses) ∧ ∀ i, m.testBit i = true ↔ ∃ x, t[i]? = some x ∧ x ≤ (n : Int)
theorem playF_ref {r : Reg} (v : Valid r) {t : List Int} (hl : t.length = r.entries.length) : ∀ (cnt n d : Nat) (out : List Int) (st : RSt), n + cnt = 10 → OkS r d st → (∀ i, d.testBit i = true ↔ ∃ x, t[i]? = some x ∧ x < (n : Int)) → out.length = 200 →
    (playF r t cnt n d = none ∧ (refPlayF r t cnt n out st).2 = false) ∨ ∃ ds, playF r t cnt n d = some ds ∧ ds.length = cnt ∧ (refPlayF r t cnt n out st).2 = true ∧
      (∀ j, j < n → (∀ s, s < 4 → houseAt (refPlayF r t cnt n out st).1 j s = houseAt out j s) ∧ ∀ a b, a < 4 → b < 4 → openAt (refPlayF r t cnt n out st).1 j a b = openAt out j a b) ∧
      ∀ j, j < cnt → Agrees r t (refPlayF r t cnt n out st).1 (n + j) (ds.getD j 0)
  | 0, n, d, out, st, hn, ho, hb, hlen => .inr ⟨[], rfl, rfl, rfl, fun j _ => ⟨fun _ _ => rfl, fun _ _ _ _ => rfl⟩, fun j hj => by omega⟩
  | cnt + 1, n, d, out, st, hn, ho, hb, hlen => by
    have hday := day_ref v (day := (n : Int)) t 0 r.entries d st rfl hl ho (fun i hi => by
      rw [Nat.zero_add]
      cases hq : d.testBit i with
      | false => rfl
      | true =>
        obtain ⟨x, h1, h2⟩ := (hb i).1 hq
        rw [hi] at h1
        cases h1
        omega)
    simp only [playF, refPlayF]
    rcases hday with ⟨h1, h2⟩ | ⟨m', st', h1, h2, h3, h4⟩
    · rw [h1, h2]
      exact .inl ⟨rfl, rfl⟩
    · rw [h1, h2]
      simp only
      have hbits : ∀ i, m'.testBit i = true ↔ ∃ x, t[i]? = some x ∧ x < ((n + 1 : Nat) : Int) := fun i => by
        rw [h4, hb]
        simp only [Nat.zero_le, true_and, Nat.sub_zero]
        constructor
        · rintro (⟨x, k1, k2⟩ | h)
          · exact ⟨x, k1, by omega⟩
          · exact ⟨_, h, by omega⟩
        · rintro ⟨x, k1, k2⟩
          by_cases e : x = (n : Int)
          · subst e; exact .inr k1
          · exact .inl ⟨x, k1, by omega⟩
      have hlen' := putDay_len (out := out) (day := n) (st := st') (by omega) hlen h3.l1 h3.l2
      rcases playF_ref v hl cnt (n + 1) m' (putDay out n st') st' (by omega) h3 hbits hlen' with ⟨k1, k2⟩ | ⟨ds, k1, k2, k3, k4, k5⟩
      · rw [k1]; exact .inl ⟨rfl, k2⟩
      · rw [k1]
        refine .inr ⟨m' :: ds, rfl, by simp [k2], k3, fun j hj => ⟨fun s hs => ?_, fun a b ha hb2 => ?_⟩, fun j hj => ?_⟩
        · rw [(k4 j (by omega)).1 s hs, putDay_house (by omega) hlen h3.l1 h3.l2 (by omega) hs, if_neg (by omega)]
        · rw [(k4 j (by omega)).2 a b ha hb2, putDay_open (by omega) hlen h3.l1 h3.l2 (by omega) ha hb2, if_neg (by omega)]
        · cases j with
          | zero =>
            refine ⟨fun s hs => ?_, fun a b ha hb2 => ?_, fun s hs => ?_, fun i => ?_⟩
            · show houseAt _ n s = _
              rw [(k4 n (by omega)).1 s hs, putDay_house (by omega) hlen h3.l1 h3.l2 (by omega) hs, if_pos rfl]
              show _ = (placesA r m').getD s 0
              rw [h3.places v]
            · show openAt _ n a b = _ ∧ 0 ≤ openAt _ n a b
              rw [(k4 n (by omega)).2 a b ha hb2, putDay_open (by omega) hlen h3.l1 h3.l2 (by omega) ha hb2, if_pos rfl]
              exact ⟨(h3.op a b ha hb2).symm, h3.nn _⟩
            · show 0 ≤ (placesA r m').getD s 0 ∧ (placesA r m').getD s 0 < r.houses
              rw [h3.places v]
              exact (h3.pl s hs).2
            · show m'.testBit i = true ↔ _
              rw [hbits]
              exact ⟨fun ⟨x, h1, h2⟩ => ⟨x, h1, by omega⟩, fun ⟨x, h1, h2⟩ => ⟨x, h1, by omega⟩⟩
          | succ j =>
            have := k5 j (by omega)
            rw [show n + 1 + j = n + (j + 1) by omega] at this
            exact this
theorem datedF_get : ∀ {es : List Ent5} {ts : List Int} {i : Nat} {e : Ent5}, datedF es ts = true → es[i]? = some e → ∃ x, ts[i]? = some x ∧ e.lo ≤ x ∧ x ≤ e.hi
  | [], _, _, _, _, h => by simp at h
  | e :: es, [], _, _, h, _ => by simp [datedF] at h
  | e :: es, t :: ts, 0, e', h, he => by
    simp only [List.getElem?_cons_zero, Option.some.injEq] at he
    subst he
    simp only [datedF, Bool.and_eq_true, decide_eq_true_eq] at h
    exact ⟨t, rfl, h.1.1, h.1.2⟩
  | e :: es, t :: ts, i + 1, e', h, he => by
    simp only [datedF, Bool.and_eq_true] at h
    obtain ⟨x, h1, h2⟩ := datedF_get (es := es) (ts := ts) (i := i) h.2 (by simpa using he)
    exact ⟨x, by simpa using h1, h2⟩
theorem dated_day {r : Reg} (v : Valid r) {t : List Int} (h : datedF r.entries t = true) {i : Nat} {x : Int} (hx : t[i]? = some x) : 0 ≤ x ∧ x ≤ 9 := by
  have hlen := datedF_len h
  have hi := (List.getElem?_eq_some_iff.1 hx).1
  obtain ⟨e, he⟩ := ex_get (l := r.entries) (i := i) (by omega)
  obtain ⟨y, h1, h2, h3⟩ := datedF_get h he
  rw [hx] at h1
  cases h1
  have := v.en e (List.mem_of_getElem? he)
  omega
/-- The program's play and the reference's. -/
theorem play_ref {r : Reg} (v : Valid r) {t : List Int} (h : datedF r.entries t = true) :
    (playDays r t = none ∧ (refPlay r t).2 = false) ∨ ∃ ds, playDays r t = some ds ∧ ds.length = 10 ∧ (refPlay r t).2 = true ∧ ∀ n, n < 10 → Agrees r t (refPlay r t).1 n (ds.getD n 0) := by
  rcases playF_ref v (datedF_len h) 10 0 0 (List.replicate 200 0) (startA r r.start.length, List.replicate 16 0) rfl (OkS.start r v) (fun i => by
    simp only [Nat.zero_testBit, Bool.false_eq_true, false_iff]
    rintro ⟨x, h1, h2⟩
    have := dated_day v h h1
    omega) (List.length_replicate) with ⟨k1, k2⟩ | ⟨ds, k1, k2, k3, _, k5⟩
  · exact .inl ⟨k1, k2⟩
  · exact .inr ⟨ds, k1, k2, k3, fun n hn => by have := k5 n hn; rw [Nat.zero_add] at this; exact this⟩
end Go.Proofs.Ytnbmmopjkkofoaa
namespace Go.Proofs.Ytnbmmopjkkofoaa
set_option linter.all false
theorem canB_bit {r : Reg} {n m : Nat} (h : canB r n m = true) : m.testBit n = false := by
  unfold canB at h
  split at h
  · cases h
  · unfold canE at h
    simp only [Bool.and_eq_true, Bool.not_eq_true'] at h
    exact h.1.1
theorem nextL_cases {r : Reg} {d n m : Nat} {s : Nat × Nat × Nat} (h : s ∈ nextL r d n m) : ∃ e, r.entries[n]? = some e ∧ ((inE e d = true ∧ canB r n m = true ∧ s = (d, n + 1, m ||| 2 ^ n)) ∨ ((m.testBit n = true ∨ (d : Int) < e.hi) ∧ s = (d, n + 1, m))) := by
  unfold nextL at h
  split at h
  · rename_i e he
    refine ⟨e, he, ?_⟩
    unfold nextE at h
    rcases List.mem_append.1 h with h | h
    · cases hc : (inE e d && canB r n m) <;> rw [hc] at h <;> simp at h
      simp only [Bool.and_eq_true] at hc
      exact .inl ⟨hc.1, hc.2, h⟩
    · cases hc : (m.testBit n || decide ((d : Int) < e.hi)) <;> rw [hc] at h <;> simp at h
      simp only [Bool.or_eq_true, decide_eq_true_eq] at hc
      exact .inr ⟨hc, h⟩
  · cases h
theorem nextL_take {r : Reg} {d n m : Nat} {e : Ent5} (he : r.entries[n]? = some e) (h1 : inE e d = true) (h2 : canB r n m = true) : (d, n + 1, m ||| 2 ^ n) ∈ nextL r d n m := by
  simp [nextL, he, nextE, h1, h2]
theorem nextL_skip {r : Reg} {d n m : Nat} {e : Ent5} (he : r.entries[n]? = some e) (h : m.testBit n = true ∨ (d : Int) < e.hi) : (d, n + 1, m) ∈ nextL r d n m := by
  have : (m.testBit n || decide ((d : Int) < e.hi)) = true := by simpa using h
  simp only [nextL, he, nextE, this, cond_true]
  simp
theorem or_ne {m n : Nat} (h : m.testBit n = false) : m ||| 2 ^ n ≠ m := fun e => by
  have := congrArg (fun x => x.testBit n) e
  simp only [or_bit, h, decide_true, Bool.or_true] at this
  cases this
def PInv (r : Reg) (d n m : Nat) (ts : List Int) : Prop := d ≤ 10 ∧ n ≤ r.entries.length ∧ ts.length = r.entries.length ∧ m < 2 ^ r.entries.length ∧ ∀ i e, r.entries[i]? = some e →
  (m.testBit i = true → ∃ x : Nat, ts[i]? = some (x : Int) ∧ inE e x = true ∧ (x < d ∨ x = d ∧ i < n)) ∧ (m.testBit i = false → (d : Int) < e.hi ∨ ((d : Int) = e.hi ∧ n ≤ i))
def Fits (r : Reg) (t : List Int) (d n m : Nat) (ts : List Int) : Prop := ∀ i, i < r.entries.length → (m.testBit i = true → t[i]? = ts[i]?) ∧ (m.testBit i = false → ∃ x, t[i]? = some x ∧ ((d : Int) < x ∨ (x = d ∧ n ≤ i)))
inductive Way (r : Reg) (t : List Int) : Nat → Nat → Nat → Prop
  | start : Way r t 0 0 0
  | day {d m} (h : Way r t d r.entries.length m) (hd : d ≤ 9) (hs : seenN r d m = true) : Way r t (d + 1) 0 m
  | take {d n m e} (h : Way r t d n m) (hd : d ≤ 9) (he : r.entries[n]? = some e) (ht : t[n]? = some (d : Int)) (hi : inE e d = true) (hc : canB r n m = true) : Way r t d (n + 1) (m ||| 2 ^ n)
  | skip {d n m e x} (h : Way r t d n m) (hd : d ≤ 9) (he : r.entries[n]? = some e) (ht : t[n]? = some x) (hx : x ≠ (d : Int)) (hq : m.testBit n = true ∨ (d : Int) < e.hi) : Way r t d (n + 1) m
theorem path_way {r : Reg} (v : Valid r) {d n m : Nat} {ts : List Int} (h : PathTo r d n m ts) : PInv r d n m ts ∧ ∀ t : List Int, t.length = r.entries.length → Fits r t d n m ts → Way r t d n m := by
  induction h with
  | start =>
    refine ⟨⟨Nat.zero_le _, Nat.zero_le _, by simp, Nat.two_pow_pos _, fun i e he => ⟨fun hb => by simp at hb, fun _ => ?_⟩⟩, fun t _ _ => .start⟩
    have := v.en e (List.mem_of_getElem? he)
    omega
  | @day d m ts h hd hs ih =>
    obtain ⟨⟨i1, i2, i3, i4, i5⟩, ihw⟩ := ih
    refine ⟨⟨by omega, Nat.zero_le _, i3, i4, fun i e he => ⟨fun hb => ?_, fun hb => ?_⟩⟩, fun t ht hf => ?_⟩
    · obtain ⟨x, k1, k2, k3⟩ := (i5 i e he).1 hb
      exact ⟨x, k1, k2, .inl (by omega)⟩
    · have := (i5 i e he).2 hb
      have hlt := (List.getElem?_eq_some_iff.1 he).1
      omega
    · refine .day (ihw t ht fun i hi => ⟨(hf i hi).1, fun hb => ?_⟩) hd hs
      obtain ⟨x, k1, k2⟩ := (hf i hi).2 hb
      exact ⟨x, k1, .inl (by omega)⟩
  | @next d n m ts s h hd hs ih =>
    obtain ⟨⟨i1, i2, i3, i4, i5⟩, ihw⟩ := ih
    obtain ⟨e, he, hcase⟩ := nextL_cases hs
    have hn := (List.getElem?_eq_some_iff.1 he).1
    rcases hcase with ⟨hin, hcan, rfl⟩ | ⟨hq, rfl⟩
    · have hb0 := canB_bit hcan
      rw [if_neg (or_ne hb0)]
      dsimp only
      refine ⟨⟨i1, hn, by simpa using i3, Nat.or_lt_two_pow i4 (Nat.pow_lt_pow_right (by omega) hn), fun i e' he' => ⟨fun hb => ?_, fun hb => ?_⟩⟩, fun t ht hf => ?_⟩
      · rw [or_bit] at hb
        by_cases e1 : n = i
        · subst e1
          rw [he] at he'
          cases he'
          exact ⟨d, by simp [i3, hn], hin, .inr ⟨rfl, by omega⟩⟩
        · simp only [e1, decide_false, Bool.or_false] at hb
          obtain ⟨x, k1, k2, k3⟩ := (i5 i e' he').1 hb
          exact ⟨x, by rw [List.getElem?_set_ne e1]; exact k1, k2, by omega⟩
      · rw [or_bit] at hb
        simp only [Bool.or_eq_false_iff, decide_eq_false_iff_not] at hb
        have := (i5 i e' he').2 hb.1
        omega
      · have htn : t[n]? = some (d : Int) := by
          rw [(hf n hn).1 (by rw [or_bit]; simp)]
          simp [i3, hn]
        refine .take (ihw t ht fun i hi => ⟨fun hb => ?_, fun hb => ?_⟩) hd he htn hin hcan
        · have e1 : n ≠ i := fun e1 => by subst e1; rw [hb0] at hb; cases hb
          rw [(hf i hi).1 (by rw [or_bit, hb]; rfl), List.getElem?_set_ne e1]
        · by_cases e1 : n = i
          · subst e1; exact ⟨d, htn, .inr ⟨rfl, Nat.le_refl _⟩⟩
          · obtain ⟨x, k1, k2⟩ := (hf i hi).2 (by rw [or_bit, hb]; simpa using e1)
            exact ⟨x, k1, by omega⟩
    · rw [if_pos rfl]
      dsimp only
      refine ⟨⟨i1, hn, i3, i4, fun i e' he' => ⟨fun hb => ?_, fun hb => ?_⟩⟩, fun t ht hf => ?_⟩
      · obtain ⟨x, k1, k2, k3⟩ := (i5 i e' he').1 hb
        exact ⟨x, k1, k2, by omega⟩
      · by_cases e1 : n = i
        · subst e1
          rw [he] at he'
          cases he'
          exact .inl (hq.resolve_left (by rw [hb]; simp))
        · have := (i5 i e' he').2 hb
          omega
      · obtain ⟨x, hx⟩ := ex_get (l := t) (i := n) (by omega)
        refine .skip (x := x) (ihw t ht fun i hi => ⟨(hf i hi).1, fun hb => ?_⟩) hd he hx (fun e1 => ?_) hq
        · obtain ⟨y, k1, k2⟩ := (hf i hi).2 hb
          exact ⟨y, k1, by omega⟩
        · subst e1
          cases hb : m.testBit n with
          | true =>
            obtain ⟨y, k1, k2, k3⟩ := (i5 n e he).1 hb
            have := (hf n hn).1 hb
            rw [hx, k1] at this
            have := Option.some.inj this
            omega
          | false =>
            obtain ⟨y, k1, k2⟩ := (hf n hn).2 hb
            rw [hx] at k1
            have := Option.some.inj k1
            omega
theorem playF_snoc {r : Reg} {t : List Int} : ∀ {k n m0 : Nat} {ds : List Nat} {m' : Nat}, playF r t k n m0 = some ds → dayF r ((n + k : Nat) : Int) 0 t (ds.getLastD m0) = some m' → playF r t (k + 1) n m0 = some (ds ++ [m'])
  | 0, n, m0, ds, m', h, hd => by
    simp only [playF, Option.some.injEq] at h
    subst h
    simp only [List.getLastD_nil, Nat.add_zero] at hd
    simp [playF, hd]
  | k + 1, n, m0, ds, m', h, hd => by
    rw [playF] at h
    split at h
    · cases h
    · rename_i d1 h1
      split at h
      · cases h
      · rename_i ds1 h2
        cases h
        rw [List.getLastD_cons] at hd
        have := playF_snoc (n := n + 1) h2 (by rw [show n + 1 + k = n + (k + 1) by omega]; exact hd)
        rw [playF, h1]
        simp only
        rw [this]
        rfl
theorem playF_get {r : Reg} {t : List Int} : ∀ {cnt n m0 : Nat} {ds : List Nat}, playF r t cnt n m0 = some ds → ∀ j, j < cnt → ∃ x, ds[j]? = some x ∧ playF r t j n m0 = some (ds.take j) ∧ dayF r ((n + j : Nat) : Int) 0 t ((ds.take j).getLastD m0) = some x
  | 0, _, _, _, _, j, hj => by omega
  | cnt + 1, n, m0, ds, h, j, hj => by
    rw [playF] at h
    split at h
    · cases h
    · rename_i d1 h1
      split at h
      · cases h
      · rename_i ds1 h2
        cases h
        cases j with
        | zero => exact ⟨d1, rfl, rfl, h1⟩
        | succ j =>
          obtain ⟨x, k1, k2, k3⟩ := playF_get h2 j (by omega)
          refine ⟨x, by simpa using k1, ?_, ?_⟩
          · rw [playF, h1]
            simp only
            rw [k2]
            rfl
          · rw [List.take_succ_cons, List.getLastD_cons, show n + (j + 1) = n + 1 + j by omega]
            exact k3
theorem playF_lenx {r : Reg} {t : List Int} : ∀ {cnt n m0 : Nat} {ds : List Nat}, playF r t cnt n m0 = some ds → ds.length = cnt
  | 0, _, _, _, h => by simp only [playF, Option.some.injEq] at h; subst h; rfl
  | cnt + 1, n, m0, ds, h => by
    rw [playF] at h
    split at h
    · cases h
    · split at h
      · cases h
      · rename_i ds1 h2
        cases h
        simp [playF_lenx h2]
theorem seenAll_snoc {r : Reg} {m : Nat} : ∀ {n : Nat} {ds : List Nat}, seenAll r n (ds ++ [m]) = (seenAll r n ds && seenN r (n + ds.length) m)
  | n, [] => by simp [seenAll, seenN]
  | n, d :: ds => by
    simp only [List.cons_append, seenAll, seenAll_snoc, List.length_cons, Bool.and_assoc]
    rw [show n + 1 + ds.length = n + (ds.length + 1) by omega]
theorem seenAll_get {r : Reg} : ∀ {n : Nat} {ds : List Nat}, seenAll r n ds = true → ∀ {j x : Nat}, ds[j]? = some x → seenN r (n + j) x = true
  | _, [], _, _, _, h => by simp at h
  | n, d :: ds, hs, 0, x, h => by
    simp only [List.getElem?_cons_zero, Option.some.injEq] at h
    subst h
    simp only [seenAll, Bool.and_eq_true] at hs
    exact hs.1
  | n, d :: ds, hs, j + 1, x, h => by
    simp only [seenAll, Bool.and_eq_true] at hs
    have := seenAll_get hs.2 (j := j) (x := x) (by simpa using h)
    rwa [show n + 1 + j = n + (j + 1) by omega] at this
theorem way_play {r : Reg} {t : List Int} (hl : t.length = r.entries.length) {d n m : Nat} (h : Way r t d n m) : n ≤ r.entries.length ∧ ∃ ds, playF r t d 0 0 = some ds ∧ seenAll r 0 ds = true ∧ dayF r (d : Int) 0 t (ds.getLastD 0) = dayF r (d : Int) n (t.drop n) m := by
  induction h with
  | start => exact ⟨Nat.zero_le _, [], rfl, rfl, rfl⟩
  | @day d m h hd hs ih =>
    obtain ⟨_, ds, k1, k2, k3⟩ := ih
    have hday : dayF r (d : Int) 0 t (ds.getLastD 0) = some m := by
      rw [k3, List.drop_of_length_le (by omega)]
      rfl
    have := playF_snoc k1 (by rw [Nat.zero_add]; exact hday)
    refine ⟨Nat.zero_le _, _, this, ?_, ?_⟩
    · rw [seenAll_snoc, k2, playF_lenx k1, Nat.zero_add, hs]
      rfl
    · rw [List.getLastD_concat]
      rfl
  | @take d n m e h hd he ht hi hc ih =>
    obtain ⟨_, ds, k1, k2, k3⟩ := ih
    refine ⟨(List.getElem?_eq_some_iff.1 he).1, ds, k1, k2, ?_⟩
    rw [k3, drop_of ht]
    simp only [dayF, bne_self_eq_false, cond_false, hc, Bool.not_true]
  | @skip d n m e x h hd he ht hx hq ih =>
    obtain ⟨_, ds, k1, k2, k3⟩ := ih
    refine ⟨(List.getElem?_eq_some_iff.1 he).1, ds, k1, k2, ?_⟩
    rw [k3, drop_of ht]
    have : (x != (d : Int)) = true := by simpa using hx
    simp only [dayF, this, cond_true]
/-- A truth, and what has happened at the end of each day. -/
structure Truth (r : Reg) (t : List Int) (ds : List Nat) : Prop where
  dated : datedF r.entries t = true
  play : playDays r t = some ds
  seen : seenAll r 0 ds = true
theorem datedF_of : ∀ {es : List Ent5} {ts : List Int}, ts.length = es.length → (∀ (i : Nat) (e : Ent5), es[i]? = some e → ∃ x, ts[i]? = some x ∧ e.lo ≤ x ∧ x ≤ e.hi) → datedF es ts = true
  | [], [], _, _ => rfl
  | [], _ :: _, h, _ => by simp at h
  | _ :: _, [], h, _ => by simp at h
  | e :: es, t :: ts, h, k => by
    obtain ⟨x, h1, h2⟩ := k 0 e rfl
    simp only [List.getElem?_cons_zero, Option.some.injEq] at h1
    subst h1
    simp only [datedF, Bool.and_eq_true, decide_eq_true_eq]
    exact ⟨h2, datedF_of (by simpa using h) fun i e' he => by simpa using k (i + 1) e' (by simpa using he)⟩
theorem path_full {r : Reg} (v : Valid r) {n m : Nat} {ts : List Int} (h : PInv r 10 n m ts) : ∀ i, i < r.entries.length → m.testBit i = true := fun i hi => by
  obtain ⟨e, he⟩ := ex_get hi
  have := v.en e (List.mem_of_getElem? he)
  cases hb : m.testBit i with
  | true => rfl
  | false => have := (h.2.2.2.2 i e he).2 hb; omega
theorem truth_of_path {r : Reg} (v : Valid r) {n m : Nat} {ts : List Int} (h : PathTo r 10 n m ts) : ∃ ds, Truth r ts ds := by
  obtain ⟨hi, hw⟩ := path_way v h
  have hall := path_full v hi
  have hl := hi.2.2.1
  have way := hw ts hl fun i hlt => ⟨fun _ => rfl, fun hb => by rw [hall i hlt] at hb; cases hb⟩
  obtain ⟨_, ds, k1, k2, _⟩ := way_play hl way
  refine ⟨ds, datedF_of hl fun i e he => ?_, k1, k2⟩
  obtain ⟨x, h1, h2, _⟩ := (hi.2.2.2.2 i e he).1 (hall i (List.getElem?_eq_some_iff.1 he).1)
  simp only [inE, Bool.and_eq_true, decide_eq_true_eq] at h2
  exact ⟨x, h1, h2⟩
theorem path_go {r : Reg} (v : Valid r) : ∀ (k d n m : Nat) (ts : List Int), muS r d n < k → PathTo r d n m ts → goesB r d n m = true → ∃ n' m' ts', PathTo r 10 n' m' ts' ∧ Fits r ts' d n m ts
  | 0, _, _, _, _, h, _, _ => by omega
  | k + 1, d, n, m, ts, hk, hp, hg => by
    have hi := (path_way v hp).1
    by_cases hd : d = 10
    · subst hd
      exact ⟨n, m, ts, hp, fun i hlt => ⟨fun _ => rfl, fun hb => by rw [path_full v hi i hlt] at hb; cases hb⟩⟩
    have hd9 : d ≤ 9 := by have := hi.1; omega
    by_cases hn : n < r.entries.length
    · rw [goesB_next hd9 hn] at hg
      obtain ⟨s, hs, hgs⟩ := List.any_eq_true.1 hg
      have hnx := PathTo.next hp hd9 hs
      have hmu := muS_next (r := r) hd9 hn
      obtain ⟨e, he, hcase⟩ := nextL_cases hs
      rcases hcase with ⟨hin, hcan, rfl⟩ | ⟨hq, rfl⟩
      · have hb0 := canB_bit hcan
        rw [if_neg (or_ne hb0)] at hnx
        obtain ⟨n', m', ts', k1, k2⟩ := path_go v k _ _ _ _ (by dsimp only; omega) hnx hgs
        refine ⟨n', m', ts', k1, fun i hlt => ⟨fun hb => ?_, fun hb => ?_⟩⟩
        · have e1 : n ≠ i := fun e1 => by subst e1; rw [hb0] at hb; cases hb
          rw [(k2 i hlt).1 (by rw [or_bit, hb]; rfl), List.getElem?_set_ne e1]
        · by_cases e1 : n = i
          · subst e1
            refine ⟨d, ?_, .inr ⟨rfl, Nat.le_refl _⟩⟩
            rw [(k2 n hlt).1 (by rw [or_bit]; simp)]
            simp [hi.2.2.1, hn]
          · obtain ⟨x, q1, q2⟩ := (k2 i hlt).2 (by rw [or_bit, hb]; simpa using e1)
            dsimp only at q2
            exact ⟨x, q1, by omega⟩
      · rw [if_pos rfl] at hnx
        obtain ⟨n', m', ts', k1, k2⟩ := path_go v k _ _ _ _ (by dsimp only; omega) hnx hgs
        refine ⟨n', m', ts', k1, fun i hlt => ⟨(k2 i hlt).1, fun hb => ?_⟩⟩
        obtain ⟨x, q1, q2⟩ := (k2 i hlt).2 hb
        dsimp only at q2
        exact ⟨x, q1, by omega⟩
    · obtain rfl : n = r.entries.length := by have := hi.2.1; omega
      rw [goesB_day hd9] at hg
      simp only [Bool.and_eq_true] at hg
      have hmu := muS_day (r := r) (n := r.entries.length) hd9
      obtain ⟨n', m', ts', k1, k2⟩ := path_go v k _ _ _ _ (by omega) (.day hp hd9 hg.1) hg.2
      refine ⟨n', m', ts', k1, fun i hlt => ⟨(k2 i hlt).1, fun hb => ?_⟩⟩
      obtain ⟨x, q1, q2⟩ := (k2 i hlt).2 hb
      exact ⟨x, q1, .inl (by omega)⟩
theorem way_bits {r : Reg} {t : List Int} (v : Valid r) (hd : datedF r.entries t = true) {d n m : Nat} (h : Way r t d n m) : ∀ i, i < r.entries.length → (m.testBit i = true ↔ ∃ x, t[i]? = some x ∧ (x < (d : Int) ∨ x = d ∧ i < n)) := by
  induction h with
  | start =>
    intro i hi
    simp only [Nat.zero_testBit, Bool.false_eq_true, false_iff]
    rintro ⟨x, h1, h2⟩
    have := dated_day v hd h1
    omega
  | @day d m h hd9 hs ih =>
    intro i hi
    rw [ih i hi]
    exact ⟨fun ⟨x, h1, h2⟩ => ⟨x, h1, by omega⟩, fun ⟨x, h1, h2⟩ => ⟨x, h1, by omega⟩⟩
  | @take d n m e h hd9 he ht hin hc ih =>
    intro i hi
    rw [or_bit, Bool.or_eq_true, ih i hi, decide_eq_true_eq]
    constructor
    · rintro (⟨x, h1, h2⟩ | rfl)
      · exact ⟨x, h1, by omega⟩
      · exact ⟨_, ht, .inr ⟨rfl, by omega⟩⟩
    · rintro ⟨x, h1, h2⟩
      by_cases e1 : n = i
      · exact .inr e1
      · exact .inl ⟨x, h1, by omega⟩
  | @skip d n m e x h hd9 he ht hx hq ih =>
    intro i hi
    rw [ih i hi]
    constructor
    · rintro ⟨y, h1, h2⟩; exact ⟨y, h1, by omega⟩
    · rintro ⟨y, h1, h2⟩
      refine ⟨y, h1, ?_⟩
      by_cases e1 : n = i
      · subst e1
        rw [ht] at h1
        cases h1
        omega
      · omega
/-- The step of the way from a spot within a day. -/
theorem way_step {r : Reg} {t : List Int} {ds : List Nat} (v : Valid r) (T : Truth r t ds) {d n m : Nat} (h : Way r t d n m) (hd : d ≤ 9) (hn : n < r.entries.length) : ∃ m', (d, n + 1, m') ∈ nextL r d n m ∧ Way r t d (n + 1) m' := by
  have hl := datedF_len T.dated
  obtain ⟨_, ds', k1, k2, k3⟩ := way_play hl h
  obtain ⟨x, q1, q2, q3⟩ := playF_get T.play d (by omega)
  rw [k1] at q2
  cases q2
  rw [Nat.zero_add, k3] at q3
  obtain ⟨e, he⟩ := ex_get hn
  obtain ⟨y, y1, y2, y3⟩ := datedF_get T.dated he
  rw [drop_of y1] at q3
  by_cases hy : y = (d : Int)
  · subst hy
    simp only [dayF, bne_self_eq_false, cond_false] at q3
    have hc : canB r n m = true := by
      cases hc : canB r n m with
      | true => rfl
      | false => rw [hc] at q3; cases q3
    have hin : inE e d = true := by simp only [inE, Bool.and_eq_true, decide_eq_true_eq]; exact ⟨y2, y3⟩
    exact ⟨_, nextL_take he hin hc, .take h hd he y1 hin hc⟩
  · have hq : m.testBit n = true ∨ (d : Int) < e.hi := by
      by_cases hlt : y < (d : Int)
      · exact .inl ((way_bits v T.dated h n hn).2 ⟨y, y1, .inl hlt⟩)
      · exact .inr (by omega)
    exact ⟨_, nextL_skip he hq, .skip h hd he y1 hy hq⟩
/-- At the end of a day. -/
theorem way_end {r : Reg} {t : List Int} {ds : List Nat} (T : Truth r t ds) {d m : Nat} (h : Way r t d r.entries.length m) (hd : d ≤ 9) : ds[d]? = some m ∧ seenN r d m = true := by
  have hl := datedF_len T.dated
  obtain ⟨_, ds', k1, k2, k3⟩ := way_play hl h
  obtain ⟨x, q1, q2, q3⟩ := playF_get T.play d (by omega)
  rw [k1] at q2
  cases q2
  rw [Nat.zero_add, k3, List.drop_of_length_le (by omega)] at q3
  simp only [dayF, Option.some.injEq] at q3
  subst q3
  refine ⟨q1, ?_⟩
  have := seenAll_get T.seen q1
  rwa [Nat.zero_add] at this
theorem way_goes {r : Reg} {t : List Int} {ds : List Nat} (v : Valid r) (T : Truth r t ds) : ∀ (k d n m : Nat), muS r d n < k → Way r t d n m → goesB r d n m = true
  | 0, _, _, _, h, _ => by omega
  | k + 1, d, n, m, hk, h => by
    by_cases hd : 9 < d
    · exact goesB_end hd
    have hd9 : d ≤ 9 := by omega
    have hn := (way_play (datedF_len T.dated) h).1
    by_cases hlt : n < r.entries.length
    · obtain ⟨m', k1, k2⟩ := way_step v T h hd9 hlt
      have := muS_next (r := r) hd9 hlt
      rw [goesB_next hd9 hlt]
      exact List.any_eq_true.2 ⟨_, k1, way_goes v T k d (n + 1) m' (by omega) k2⟩
    · obtain rfl : n = r.entries.length := by omega
      have := muS_day (r := r) (n := r.entries.length) hd9
      have hs := (way_end T h hd9).2
      rw [goesB_day hd9, hs, way_goes v T k (d + 1) 0 m (by omega) (.day h hd9 hs)]
      rfl
theorem way_rch {r : Reg} {t : List Int} {ds : List Nat} (v : Valid r) (T : Truth r t ds) {N : Nat} {d n m : Nat} (h : Way r t d n m) (hd : d ≤ N) : Rch r N d n m := by
  have hg := way_goes v T _ _ _ _ (Nat.lt_succ_self _) h
  induction h with
  | start => exact .start hg
  | @day d m h hd9 hs ih =>
    refine .step (s := (d + 1, 0, m)) (ih (by omega) (way_goes v T _ _ _ _ (Nat.lt_succ_self _) h)) ?_ hg
    simp only [succL]
    rw [if_neg (by omega), if_neg (by omega)]
    simp
  | @take d n m e h hd9 he ht hin hc ih =>
    refine .step (s := (d, n + 1, m ||| 2 ^ n)) (ih hd (way_goes v T _ _ _ _ (Nat.lt_succ_self _) h)) ?_ hg
    simp only [succL]
    rw [if_pos (List.getElem?_eq_some_iff.1 he).1]
    exact nextL_take he hin hc
  | @skip d n m e x h hd9 he ht hx hq ih =>
    refine .step (s := (d, n + 1, m)) (ih hd (way_goes v T _ _ _ _ (Nat.lt_succ_self _) h)) ?_ hg
    simp only [succL]
    rw [if_pos (List.getElem?_eq_some_iff.1 he).1]
    exact nextL_skip he hq
/-- A truth's way. -/
theorem way_day {r : Reg} {t : List Int} {ds : List Nat} (v : Valid r) (T : Truth r t ds) : ∀ (k d n m : Nat), r.entries.length - n = k → n ≤ r.entries.length → Way r t d n m → d ≤ 9 → ∃ m', Way r t d r.entries.length m'
  | 0, d, n, m, hk, hn, h, hd => by
    obtain rfl : n = r.entries.length := by omega
    exact ⟨m, h⟩
  | k + 1, d, n, m, hk, hn, h, hd => by
    obtain ⟨m', _, k2⟩ := way_step v T h hd (by omega)
    exact way_day v T k d (n + 1) m' (by omega) (by omega) k2 hd
theorem way_all {r : Reg} {t : List Int} {ds : List Nat} (v : Valid r) (T : Truth r t ds) : ∀ d, d ≤ 9 → ∃ m, Way r t d r.entries.length m
  | 0, _ => way_day v T _ 0 0 0 rfl (Nat.zero_le _) .start (by omega)
  | d + 1, hd => by
    obtain ⟨m, h⟩ := way_all v T d (by omega)
    exact way_day v T _ (d + 1) 0 m rfl (Nat.zero_le _) (.day h (by omega) (way_end T h (by omega)).2) hd
theorem rch_goes {r : Reg} {N d n m : Nat} (h : Rch r N d n m) : goesB r d n m = true := by
  cases h with
  | start h => exact h
  | step _ _ hg => exact hg
theorem rch_path {r : Reg} {N d n m : Nat} (hN : N ≤ 9) (h : Rch r N d n m) : ∃ ts, PathTo r d n m ts := by
  induction h with
  | start => exact ⟨_, .start⟩
  | @step d n m s h hs hg ih =>
    obtain ⟨ts, hp⟩ := ih
    have hb := h.bd hN
    unfold succL at hs
    split at hs
    · exact ⟨_, .next hp (by omega) hs⟩
    · split at hs
      · cases hs
      · rw [List.mem_singleton] at hs
        subst hs
        obtain rfl : n = r.entries.length := by omega
        have := rch_goes h
        rw [goesB_day (by omega)] at this
        simp only [Bool.and_eq_true] at this
        exact ⟨_, .day hp (by omega) this.1⟩
/-- There is a truth. -/
theorem goes_truth {r : Reg} (v : Valid r) : goesB r 0 0 0 = true ↔ ∃ t ds, Truth r t ds := by
  constructor
  · intro h
    obtain ⟨n', m', ts', k1, _⟩ := path_go v _ 0 0 0 _ (Nat.lt_succ_self _) .start h
    obtain ⟨ds, T⟩ := truth_of_path v k1
    exact ⟨ts', ds, T⟩
  · rintro ⟨t, ds, T⟩
    exact way_goes v T _ 0 0 0 (Nat.lt_succ_self _) .start
/-- What can have happened at the end of a day. -/
theorem rch_truth {r : Reg} (v : Valid r) {N m : Nat} (hN : N ≤ 9) : Rch r N N r.entries.length m ↔ ∃ t ds, Truth r t ds ∧ ds[N]? = some m := by
  constructor
  · intro h
    obtain ⟨ts, hp⟩ := rch_path hN h
    obtain ⟨n', m', ts', k1, k2⟩ := path_go v _ _ _ _ _ (Nat.lt_succ_self _) hp (rch_goes h)
    obtain ⟨ds, T⟩ := truth_of_path v k1
    have way := (path_way v hp).2 ts' (datedF_len T.dated) k2
    exact ⟨ts', ds, T, (way_end T way hN).1⟩
  · rintro ⟨t, ds, T, hm⟩
    obtain ⟨m', h⟩ := way_all v T N hN
    have := (way_end T h hN).1
    rw [hm] at this
    cases this
    exact way_rch v T h (Nat.le_refl _)
end Go.Proofs.Ytnbmmopjkkofoaa
namespace Go.Proofs.Ytnbmmopjkkofoaa
set_option linter.all false
theorem nth_surj : ∀ {es : List Ent5} {ts : List Int}, datedF es ts = true → ∃ n, n < manyN es ∧ nthL es n = ts
  | [], [], _ => ⟨0, by simp [manyN], rfl⟩
  | [], _ :: _, h => by simp [datedF] at h
  | _ :: _, [], h => by simp [datedF] at h
  | e :: es, t :: ts, h => by
    simp only [datedF, Bool.and_eq_true, decide_eq_true_eq] at h
    obtain ⟨n, h1, h2⟩ := nth_surj h.2
    have hsp : ((span e : Nat) : Int) = e.hi - e.lo + 1 := by unfold span; omega
    have hk : (t - e.lo).toNat < span e := by omega
    have hpos : 0 < span e := by omega
    refine ⟨(t - e.lo).toNat + span e * n, ?_, ?_⟩
    · have : span e * (n + 1) ≤ span e * manyN es := Nat.mul_le_mul_left _ h1
      rw [Nat.mul_add, Nat.mul_one] at this
      simp only [manyN]
      omega
    · simp only [nthL]
      rw [Nat.add_mul_mod_self_left, Nat.mod_eq_of_lt hk, Nat.add_mul_div_left _ _ hpos, Nat.div_eq_of_lt hk, Nat.zero_add, h2]
      congr 1
      omega
theorem truth_iff {r : Reg} (v : Valid r) {t : List Int} : isTruthB r t = true ↔ ∃ ds, Truth r t ds := by
  unfold isTruthB
  constructor
  · intro h
    simp only [Bool.and_eq_true] at h
    obtain ⟨hd, hp, hs⟩ := h
    rcases play_ref v hd with ⟨_, k2⟩ | ⟨ds, k1, k2, k3, k4⟩
    · rw [k2] at hp; cases hp
    · refine ⟨ds, hd, k1, ?_⟩
      have key : ∀ (n : Nat) (es : List Nat), es = ds.drop n → seenAll r n es = true := by
        intro n es
        induction es generalizing n with
        | nil => intro _; rfl
        | cons d es ih =>
          intro he
          have hdn : ds[n]? = some d := by
            have : (ds.drop n)[0]? = some d := by rw [← he]; rfl
            simpa using this
          have hlt := (List.getElem?_eq_some_iff.1 hdn).1
          have htl : es = ds.drop (n + 1) := by
            have : (ds.drop n).drop 1 = es := by rw [← he]; rfl
            rw [List.drop_drop] at this
            exact this.symm
          simp only [seenAll, ih (n + 1) htl, Bool.and_true, List.all_eq_true]
          intro s hsm
          have hsi := v.si s hsm
          have hs4 := v.s4
          have h1 := List.all_eq_true.1 hs s hsm
          simp only [sightOK, beq_iff_eq] at h1
          simp only [seenB, Bool.or_eq_true, bne_iff_ne, ne_eq, beq_iff_eq]
          by_cases hday : s.day = (n : Int)
          · right
            have h2 := (k4 n (by omega)).1 s.sheet.toNat (by omega)
            rw [show s.day.toNat = n by omega, h2] at h1
            rw [show ds.getD n 0 = d by simp [List.getD_eq_getElem?_getD, hdn]] at h1
            exact h1
          · exact .inl hday
      exact key 0 ds rfl
  · rintro ⟨ds, T⟩
    rcases play_ref v T.dated with ⟨k1, _⟩ | ⟨ds', k1, k2, k3, k4⟩
    · rw [T.play] at k1; cases k1
    · rw [T.play] at k1
      cases k1
      simp only [Bool.and_eq_true]
      refine ⟨T.dated, k3, List.all_eq_true.2 fun s hsm => ?_⟩
      have hsi := v.si s hsm
      have hs4 := v.s4
      have hlt : s.day.toNat < 10 := by omega
      have hg : ds[s.day.toNat]? = some (ds.getD s.day.toNat 0) := by
        rw [List.getD_eq_getElem?_getD, List.getElem?_eq_getElem (by omega)]; rfl
      have h1 := seenAll_get T.seen hg
      rw [Nat.zero_add] at h1
      have h2 := List.all_eq_true.1 h1 s hsm
      simp only [seenB, Bool.or_eq_true, bne_iff_ne, ne_eq, beq_iff_eq] at h2
      simp only [sightOK, beq_iff_eq]
      rw [(k4 _ hlt).1 s.sheet.toNat (by omega)]
      exact h2.resolve_left (by omega)
theorem truths_mem {r : Reg} (v : Valid r) {t : List Int} : t ∈ truths r ↔ ∃ ds, Truth r t ds := by
  rw [← truth_iff v]
  unfold truths truthsF
  rw [List.mem_filter]
  constructor
  · exact fun h => h.2
  · intro h
    refine ⟨?_, h⟩
    unfold isTruthB at h
    simp only [Bool.and_eq_true] at h
    obtain ⟨n, h1, h2⟩ := nth_surj h.1
    exact List.mem_map.2 ⟨n, List.mem_range.2 h1, h2⟩
theorem goes_all_iff {r : Reg} (v : Valid r) : goesB r 0 0 0 = true ↔ allDays r ≠ [] := by
  rw [goes_truth v]
  unfold allDays
  constructor
  · rintro ⟨t, ds, T⟩ h
    have := (truths_mem v).2 ⟨ds, T⟩
    rw [List.map_eq_nil_iff] at h
    rw [h] at this
    cases this
  · intro h
    cases hq : truths r with
    | nil => rw [hq] at h; exact (h rfl).elim
    | cons t l =>
      obtain ⟨ds, T⟩ := (truths_mem v (t := t)).1 (by rw [hq]; exact List.mem_cons_self)
      exact ⟨t, ds, T⟩
/-- What has happened at the end of a day, and the reference's record of it. -/
def Pair (r : Reg) (N : Nat) (m : Nat) (o : List Int) : Prop :=
  (∀ s, s < 4 → houseAt o N s = (placesA r m).getD s 0) ∧ (∀ a b : Nat, a < 4 → b < 4 → openAt o N a b = openN r m (a : Int) (b : Int) ∧ 0 ≤ openAt o N a b) ∧ (∀ s, s < r.start.length → 0 ≤ (placesA r m).getD s 0 ∧ (placesA r m).getD s 0 < r.houses)
theorem truth_pair {r : Reg} (v : Valid r) {t : List Int} {ds : List Nat} (T : Truth r t ds) {N : Nat} (hN : N ≤ 9) : ∃ m, ds[N]? = some m ∧ Pair r N m (daysOf r t) := by
  rcases play_ref v T.dated with ⟨k1, _⟩ | ⟨ds', k1, k2, k3, k4⟩
  · rw [T.play] at k1; cases k1
  · rw [T.play] at k1
    cases k1
    refine ⟨ds.getD N 0, by rw [List.getD_eq_getElem?_getD, List.getElem?_eq_getElem (by omega)]; rfl, ?_⟩
    obtain ⟨h1, h2, h3, _⟩ := k4 N (by omega)
    exact ⟨h1, h2, h3⟩
/-- The evenings and all truths. -/
theorem ev_pairs {r : Reg} (v : Valid r) {N : Nat} {out : List Nat} (hN : N ≤ 9) (h : EvOK r N out) : (∀ m ∈ out, ∃ o ∈ allDays r, Pair r N m o) ∧ (∀ o ∈ allDays r, ∃ m ∈ out, Pair r N m o) := by
  constructor
  · intro m hm
    obtain ⟨t, ds, T, hd⟩ := (rch_truth v hN).1 ((h.1 m).1 hm)
    obtain ⟨m', h1, h2⟩ := truth_pair v T hN
    rw [hd] at h1
    cases h1
    exact ⟨_, List.mem_map.2 ⟨t, (truths_mem v).2 ⟨ds, T⟩, rfl⟩, h2⟩
  · intro o ho
    obtain ⟨t, ht, rfl⟩ := List.mem_map.1 ho
    obtain ⟨ds, T⟩ := (truths_mem v).1 ht
    obtain ⟨m, h1, h2⟩ := truth_pair v T hN
    exact ⟨m, (h.1 m).2 ((rch_truth v hN).2 ⟨t, ds, T, h1⟩), h2⟩
theorem ev_nil {r : Reg} (v : Valid r) {N : Nat} {out : List Nat} (hN : N ≤ 9) (h : EvOK r N out) : out = [] ↔ allDays r = [] := by
  obtain ⟨h1, h2⟩ := ev_pairs v hN h
  constructor
  · rintro rfl
    cases hq : allDays r with
    | nil => rfl
    | cons o l => obtain ⟨m, hm, _⟩ := h2 o (by rw [hq]; exact List.mem_cons_self); cases hm
  · intro e
    cases out with
    | nil => rfl
    | cons m l => obtain ⟨o, ho, _⟩ := h1 m List.mem_cons_self; rw [e] at ho; cases ho
theorem strict_eq : ∀ {a b : List Int}, a.Pairwise (· < ·) → b.Pairwise (· < ·) → (∀ x, x ∈ a ↔ x ∈ b) → a = b
  | [], [], _, _, _ => rfl
  | [], y :: b, _, _, h => by have := (h y).2 List.mem_cons_self; cases this
  | x :: a, [], _, _, h => by have := (h x).1 List.mem_cons_self; cases this
  | x :: a, y :: b, ha, hb, h => by
    rw [List.pairwise_cons] at ha hb
    have hxy : x = y := by
      rcases List.mem_cons.1 ((h x).1 List.mem_cons_self) with e | e
      · exact e
      · rcases List.mem_cons.1 ((h y).2 List.mem_cons_self) with f | f
        · exact f.symm
        · have := hb.1 x e; have := ha.1 y f; omega
    subst hxy
    congr 1
    refine strict_eq ha.2 hb.2 fun z => ⟨fun hz => ?_, fun hz => ?_⟩
    · rcases List.mem_cons.1 ((h z).1 (List.mem_cons_of_mem _ hz)) with e | e
      · have := ha.1 z hz; omega
      · exact e
    · rcases List.mem_cons.1 ((h z).2 (List.mem_cons_of_mem _ hz)) with e | e
      · have := hb.1 z hz; omega
      · exact e
theorem compUp {d : Array Int} (hs : ∀ i j, i ≤ j → j < d.size → d[i]! ≤ d[j]!) : ∀ m, m ≤ d.size → (Lib.compactUpTo d m).Pairwise (· < ·) ∧ (∀ x, x ∈ Lib.compactUpTo d m ↔ ∃ j, j < m ∧ d[j]! = x)
  | 0, _ => by simp [Lib.compactUpTo]
  | m + 1, hm => by
    obtain ⟨h1, h2⟩ := compUp hs m (by omega)
    have hsucc : Lib.compactUpTo d (m + 1) = Lib.compactUpTo d m ++ (if Lib.keeps d m then [d[m]!] else []) := by
      unfold Lib.compactUpTo
      rw [List.range_succ, List.filter_append, List.map_append]
      congr 1
      by_cases hk : Lib.keeps d m = true <;> simp [hk]
    rw [hsucc]
    by_cases hk : Lib.keeps d m = true
    · rw [if_pos hk]
      constructor
      · rw [List.pairwise_append]
        refine ⟨h1, by simp, fun a ha b hb => ?_⟩
        rw [List.mem_singleton] at hb
        subst hb
        obtain ⟨j, hj, rfl⟩ := (h2 a).1 ha
        have k1 := hs j (m - 1) (by omega) (by omega)
        have k2 := hs (m - 1) m (by omega) (by omega)
        have : d[m - 1]! ≠ d[m]! := by
          intro e
          unfold Lib.keeps at hk
          simp at hk
          rcases hk with hk | hk
          · omega
          · exact hk (by simpa using e.symm)
        omega
      · intro x
        rw [List.mem_append, h2, List.mem_singleton]
        constructor
        · rintro (⟨j, hj, e⟩ | rfl)
          · exact ⟨j, by omega, e⟩
          · exact ⟨m, by omega, rfl⟩
        · rintro ⟨j, hj, e⟩
          by_cases hjm : j = m
          · subst hjm; exact .inr e.symm
          · exact .inl ⟨j, by omega, e⟩
    · rw [if_neg hk, List.append_nil]
      refine ⟨h1, fun x => ?_⟩
      rw [h2]
      have hm0 : m ≠ 0 ∧ d[m]! = d[m - 1]! := by
        unfold Lib.keeps at hk
        simp at hk
        exact ⟨hk.1, by simpa using hk.2⟩
      constructor
      · rintro ⟨j, hj, e⟩; exact ⟨j, by omega, e⟩
      · rintro ⟨j, hj, e⟩
        by_cases hjm : j = m
        · subst hjm; exact ⟨j - 1, by omega, by rw [← hm0.2]; exact e⟩
        · exact ⟨j, by omega, e⟩
theorem comp_sorted {l : List Int} (h : l.Pairwise (· ≤ ·)) : (compL l).Pairwise (· < ·) ∧ ∀ x, x ∈ compL l ↔ x ∈ l := by
  unfold compL Lib.compact
  have hs : ∀ i j, i ≤ j → j < l.toArray.size → l.toArray[i]! ≤ l.toArray[j]! := fun i j hij hj => by
    have hj' : j < l.length := by simpa using hj
    rw [getElem!_pos l.toArray i (by simp; omega), getElem!_pos l.toArray j (by simpa using hj)]
    simp only [List.getElem_toArray]
    by_cases e : i = j
    · subst e; exact Int.le_refl _
    · exact List.pairwise_iff_getElem.1 h i j (by omega) hj' (by omega)
  obtain ⟨h1, h2⟩ := compUp hs l.length (by simp)
  refine ⟨h1, fun x => ?_⟩
  rw [h2, List.mem_iff_getElem]
  constructor
  · rintro ⟨j, hj, e⟩
    rw [getElem!_pos l.toArray j (by simpa using hj)] at e
    exact ⟨j, hj, by simpa using e⟩
  · rintro ⟨j, hj, e⟩
    refine ⟨j, hj, ?_⟩
    rw [getElem!_pos l.toArray j (by simpa using hj)]
    simpa using e
theorem sort_sorted (l : List Int) : (sortL l).Pairwise (· ≤ ·) ∧ ∀ x, x ∈ sortL l ↔ x ∈ l := by
  unfold sortL
  refine ⟨?_, fun x => List.mem_mergeSort⟩
  have := List.pairwise_mergeSort (le := fun x y : Int => decide (x ≤ y)) (fun a b c h1 h2 => by simp at *; omega) (fun a b => by simp; omega) l
  exact this.imp fun h => by simpa using h
theorem range_strict (n : Nat) (p : Nat → Bool) : (((List.range n).filter p).map Int.ofNat).Pairwise (· < ·) := by
  rw [List.pairwise_map]
  refine List.Pairwise.imp (R := (· < ·)) (fun h => by simpa using h) ?_
  exact List.Pairwise.filter _ List.pairwise_lt_range
theorem holders_eq {r : Reg} (v : Valid r) {N s : Nat} {out : List Nat} (hN : N ≤ 9) (hs : s < r.start.length) (h : EvOK r N out) : holdR r (s : Nat) out = refHolders r (allDays r) s N r.houses.toNat := by
  obtain ⟨h1, h2⟩ := ev_pairs v hN h
  have hs4 := v.s4
  unfold holdR
  obtain ⟨k1, k2⟩ := sort_sorted (holdL r out (s : Int).toNat)
  obtain ⟨q1, q2⟩ := comp_sorted k1
  refine strict_eq q1 (range_strict _ _) fun x => ?_
  rw [q2, k2]
  unfold holdL refHolders
  simp only [List.mem_map, List.mem_filter, List.mem_range, List.any_eq_true, beq_iff_eq, Int.toNat_natCast]
  constructor
  · rintro ⟨m, hm, rfl⟩
    obtain ⟨o, ho, p1, _, p3⟩ := h1 m hm
    have := p3 s hs
    refine ⟨((placesA r m).getD s 0).toNat, ⟨by omega, o, ho, ?_⟩, ?_⟩
    · rw [p1 s (by omega)]; omega
    · show ((_ : Nat) : Int) = _
      omega
  · rintro ⟨x, ⟨_, o, ho, e⟩, rfl⟩
    obtain ⟨m, hm, p1, _⟩ := h2 o ho
    exact ⟨m, hm, by rw [← p1 s (by omega), e]; rfl⟩
theorem surely_eq {r : Reg} (v : Valid r) {N : Nat} {a : Int} {out : List Nat} (hN : N ≤ 9) (hne : out ≠ []) (h : EvOK r N out) : surelyR r a out = refSurely (allDays r) a N r.start.length := by
  obtain ⟨h1, h2⟩ := ev_pairs v hN h
  have hs4 := v.s4
  unfold surelyR refSurely
  have hie : out.isEmpty = false := by cases out with
    | nil => exact (hne rfl).elim
    | cons _ _ => rfl
  rw [hie, cond_false]
  congr 1
  apply List.filter_congr
  intro s hs
  rw [List.mem_range] at hs
  rw [Bool.eq_iff_iff, List.all_eq_true, List.all_eq_true]
  constructor
  · intro k o ho
    obtain ⟨m, hm, p1, _⟩ := h2 o ho
    rw [p1 s (by omega)]
    exact k m hm
  · intro k m hm
    obtain ⟨o, ho, p1, _⟩ := h1 m hm
    rw [← p1 s (by omega)]
    exact k o ho
/-- The bounds of numbers from 0 to 9. -/
theorem rangeF_ok : ∀ (l : List Int) (p : Int × Int), (∀ x ∈ l, 0 ≤ x ∧ x ≤ 9) → (l.foldl (fun p n => (min p.1 n, max p.2 n)) p).1 = l.foldl min p.1 ∧ (l.foldl (fun p n => (min p.1 n, max p.2 n)) p).2 = l.foldl max p.2
  | [], p, _ => ⟨rfl, rfl⟩
  | x :: l, p, h => by
    simp only [List.foldl_cons]
    exact rangeF_ok l _ fun y hy => h y (List.mem_cons_of_mem _ hy)
theorem foldmin : ∀ (l : List Int) (x : Int), (l.foldl min x = x ∨ l.foldl min x ∈ l) ∧ l.foldl min x ≤ x ∧ ∀ y ∈ l, l.foldl min x ≤ y
  | [], x => ⟨.inl rfl, Int.le_refl _, fun y hy => by cases hy⟩
  | z :: l, x => by
    obtain ⟨h1, h2, h3⟩ := foldmin l (min x z)
    simp only [List.foldl_cons]
    refine ⟨?_, by omega, fun y hy => ?_⟩
    · rcases h1 with h1 | h1
      · rw [h1]
        by_cases hx : x ≤ z
        · left; omega
        · right; rw [show min x z = z by omega]; exact List.mem_cons_self
      · exact .inr (List.mem_cons_of_mem _ h1)
    · rcases List.mem_cons.1 hy with rfl | hy
      · omega
      · exact h3 y hy
theorem foldmax : ∀ (l : List Int) (x : Int), (l.foldl max x = x ∨ l.foldl max x ∈ l) ∧ x ≤ l.foldl max x ∧ ∀ y ∈ l, y ≤ l.foldl max x
  | [], x => ⟨.inl rfl, Int.le_refl _, fun y hy => by cases hy⟩
  | z :: l, x => by
    obtain ⟨h1, h2, h3⟩ := foldmax l (max x z)
    simp only [List.foldl_cons]
    refine ⟨?_, by omega, fun y hy => ?_⟩
    · rcases h1 with h1 | h1
      · rw [h1]
        by_cases hx : z ≤ x
        · left; omega
        · right; rw [show max x z = z by omega]; exact List.mem_cons_self
      · exact .inr (List.mem_cons_of_mem _ h1)
    · rcases List.mem_cons.1 hy with rfl | hy
      · omega
      · exact h3 y hy
theorem range_same {l : List Int} {x : Int} {l' : List Int} (hm : ∀ y, y ∈ x :: l' ↔ y ∈ l) (hb : ∀ y ∈ l, 0 ≤ y ∧ y ≤ 9) : rangeF l = (minL x l', maxL x l') := by
  unfold rangeF
  obtain ⟨e1, e2⟩ := rangeF_ok l (9, 0) hb
  have hx : x ∈ l := (hm x).1 List.mem_cons_self
  have bx := hb x hx
  refine Prod.ext ?_ ?_
  · rw [e1]
    dsimp only
    obtain ⟨h1, h2, h3⟩ := foldmin l 9
    have k1 := minL_mem (x := x) (l := l')
    have k2 := minL_le (x := x) (l := l')
    have k3 := h3 _ ((hm _).1 k1)
    have k4 := hb _ ((hm _).1 k1)
    rcases h1 with h1 | h1
    · have := h3 x hx; have := k2 x List.mem_cons_self; omega
    · have := k2 _ ((hm _).2 h1); omega
  · rw [e2]
    dsimp only
    obtain ⟨h1, h2, h3⟩ := foldmax l 0
    have k1 := maxL_mem (x := x) (l := l')
    have k2 := maxL_ge (x := x) (l := l')
    have k3 := h3 _ ((hm _).1 k1)
    have k4 := hb _ ((hm _).1 k1)
    rcases h1 with h1 | h1
    · have := h3 x hx; have := k2 x List.mem_cons_self; omega
    · have := k2 _ ((hm _).2 h1); omega
theorem pairs_mem {r : Reg} {N : Nat} {out : List Nat} {all : List (List Int)} {f : Nat → Int} {g : List Int → Int} (h1 : ∀ m ∈ out, ∃ o ∈ all, Pair r N m o) (h2 : ∀ o ∈ all, ∃ m ∈ out, Pair r N m o) (hfg : ∀ m o, Pair r N m o → g o = f m) :
    ∀ y, y ∈ out.map f ↔ y ∈ all.map g := fun y => by
  simp only [List.mem_map]
  constructor
  · rintro ⟨m, hm, rfl⟩
    obtain ⟨o, ho, p⟩ := h1 m hm
    exact ⟨o, ho, hfg m o p⟩
  · rintro ⟨o, ho, rfl⟩
    obtain ⟨m, hm, p⟩ := h2 o ho
    exact ⟨m, hm, (hfg m o p).symm⟩
theorem count_eq {r : Reg} (v : Valid r) {N m : Nat} {o : List Int} {a : Int} (p : Pair r N m o) : (countAt o N r.start.length a : Int) = (heldN r m a : Nat) := by
  have hs4 := v.s4
  unfold countAt heldN
  have : (placesA r m).take r.start.length = (List.range r.start.length).map fun s => houseAt o N s := by
    apply List.ext_getElem?
    intro i
    rw [List.getElem?_take, List.getElem?_map]
    split
    · rename_i hi
      rw [List.getElem?_range hi, getD_some (l := placesA r m) (by rw [placesA_len]; omega), ← p.1 i (by omega)]
      rfl
    · rename_i hi
      rw [List.getElem?_eq_none (by simpa using hi)]
      rfl
  rw [this, List.countP_map]
  rfl
theorem held_eq {r : Reg} (v : Valid r) {N : Nat} {a : Int} {out : List Nat} (hN : N ≤ 9) (hne : out ≠ []) (h : EvOK r N out) : heldR r a out = refInHand r (allDays r) a N := by
  obtain ⟨h1, h2⟩ := ev_pairs v hN h
  have hs4 := v.s4
  cases out with
  | nil => exact (hne rfl).elim
  | cons d0 l =>
    unfold heldR refInHand
    refine (range_same (fun y => ?_) fun y hy => ?_).symm
    · exact pairs_mem (f := fun d => (heldN r d a : Int)) h1 h2 (fun m o p => count_eq v p) y
    · obtain ⟨o, ho, rfl⟩ := List.mem_map.1 hy
      have : countAt o N r.start.length a ≤ (List.range r.start.length).length := List.countP_le_length
      rw [List.length_range] at this
      omega
theorem owed_eq {r : Reg} (v : Valid r) {N a b : Nat} {out : List Nat} (ha : a < 4) (hb : b < 4) (hN : N ≤ 9) (hne : out ≠ []) (h : EvOK r N out) : owedR r (a : Nat) (b : Nat) out = refOwed (allDays r) a b N := by
  obtain ⟨h1, h2⟩ := ev_pairs v hN h
  have he6 := v.e6
  cases out with
  | nil => exact (hne rfl).elim
  | cons d0 l =>
    unfold owedR refOwed
    refine (range_same (fun y => ?_) fun y hy => ?_).symm
    · exact pairs_mem (f := fun d => openN r d (a : Nat) (b : Nat)) h1 h2 (fun m o p => (p.2.1 a b ha hb).1) y
    · obtain ⟨o, ho, rfl⟩ := List.mem_map.1 hy
      obtain ⟨m, _, p⟩ := h2 o ho
      have := p.2.1 a b ha hb
      have hbd := openF_bd (d := m) (a := a) (c := b) (k := 0) (es := r.entries) (x := 0) (m := 0) (by omega) (by omega)
      unfold openN at this
      omega
theorem sameB_self (a : List Int) : sameB a a = true := by
  have : beforeB a a = false := by
    induction a with
    | nil => rfl
    | cons x a ih => simp [beforeB, ih]
  simp [sameB, this]
end Go.Proofs.Ytnbmmopjkkofoaa
namespace Go.Proofs.Ytnbmmopjkkofoaa
open Go.RowKit
set_option maxRecDepth 20000
set_option linter.all false
theorem eq45 (a b c d : Int) (w : World) : (binOp .eql 45 (.agg #[.int .i64 a, .int .i64 b]) (.agg #[.int .i64 c, .int .i64 d])).run Try.prog w = .ok (.bool (a == c && b == d)) w := by
  have u3 := Try.underlying3
  have a3 := Try.isAgg3
  have z3 := Try.sizeOf3
  have hS : Try.prog.underlying 45 = some (.struct (Try.prog.fieldsOf 45)) := by kernel_rfl
  have hp : Try.prog.stoodInHeld 45 = false := by kernel_rfl
  rw [run_eql_struct, show (10000 : Nat) = 9999 + 1 from rfl, run_equalIn_agg w 9999 45 _ _ hS hp]
  simp only [Program.fieldsOf, Try.underlying45]
  go_simp
  by_cases h1 : a = c <;> by_cases h2 : b = d <;> simp [h1, h2]
theorem guard45 (op : BinOp) (x y : Operand) (xs ys : Array Value) (w : World) : (eqGuard op 45 x y (.agg xs) (.agg ys)).run Try.prog w = .ok () w := run_eqGuard_agg w op 45 x y xs ys (by kernel_rfl)
theorem q_eql45 {Γ : Cx} {σ : St} {o : Oper} {R : Rel} {x y : Operand} {t' : TypeId} {a b c d : Int} (h : o.op = .binOp .eql 45 x y t') (hx : σ.ev x = some (true, .d (.agg [.int .i64 a, .int .i64 b]))) (hy : σ.ev y = some (true, .d (.agg [.int .i64 c, .int .i64 d]))) :
    QV Γ Try.prog σ o R (.d (.bool (a == c && b == d))) := fun A w F hs => by
  obtain ⟨vs, e1, h1, _⟩ := hs.ev hx
  obtain ⟨us, e2, h2, _⟩ := hs.ev hy
  obtain ⟨v1, vs1, rfl, q1, v2, vs2, rfl, q2, q3⟩ := h1
  obtain ⟨u1, us1, rfl, p1, u2, us2, rfl, p2, p3⟩ := h2
  simp only [Rep, RepVals] at q1 q2 q3 p1 p2 p3
  subst q1 q2 q3 p1 p2 p3
  exact ⟨.bool (a == c && b == d), rfl, fun w' _ => by
    simp only [execOp, h, e1, e2, Sem.run_bind, guard45, Result.andThen_ok, eq45, Sem.run_pure]⟩
abbrev L0 : Reg := loanR [] []
theorem L0_check : checkE L0 = 0 := by kernel_rfl
theorem L0_hold : refHolders L0 (allDays L0) 0 2 3 = [0, 1, 2] := by kernel_rfl
theorem L0_sure : refSurely (allDays L0) 2 4 2 = [0] := by kernel_rfl
theorem L0_inhand : refInHand L0 (allDays L0) 1 3 = (0, 2) := by kernel_rfl
theorem L0_owed : refOwed (allDays L0) 0 1 3 = (0, 1) := by kernel_rfl
theorem L0_ne : (allDays L0).isEmpty = false := by kernel_rfl
theorem L1_first : firstR (loanR astrayL []) = (3, 0) := by kernel_rfl
theorem L1_leave : leaveR (loanR astrayL []) = ([3], 0) := by kernel_rfl
theorem ask_ok {r : Reg} {is : Bool} {N : Nat} {out : List Nat} {e : Int} (v : Valid r) (his : is = true) (hN : N ≤ 9) (h : AskP r is (N : Nat) out e) : EvOK r N out ∧ e = if allDays r = [] then 9 else 0 := by
  have h0 := checkE_of v
  rcases h with ⟨k, _, _⟩ | ⟨_, k, _⟩ | ⟨_, _, n, hn, h9, hev, he⟩
  · exact (k h0).elim
  · rw [his] at k; simp [dayB] at k; omega
  · obtain rfl : N = n := by omega
    refine ⟨hev, he.trans ?_⟩
    by_cases ho : out = []
    · rw [if_pos ((ev_nil v hN hev).1 ho), ho]; rfl
    · rw [if_neg (fun e => ho ((ev_nil v hN hev).2 e))]
      cases out with
      | nil => exact (ho rfl).elim
      | cons _ _ => rfl
theorem L0_valid : Valid L0 := valid_of L0_check
theorem L0_all : allDays L0 ≠ [] := fun e => by have := L0_ne; rw [e] at this; cases this
theorem L0_ask {is : Bool} {N : Nat} {out : List Nat} {e : Int} (his : is = true) (hN : N ≤ 9) (h : AskP L0 is (N : Nat) out e) : EvOK L0 N out ∧ e = 0 ∧ out ≠ [] := by
  obtain ⟨h1, h2⟩ := ask_ok L0_valid his hN h
  rw [if_neg L0_all] at h2
  exact ⟨h1, h2, fun e => L0_all ((ev_nil L0_valid hN h1).1 e)⟩
theorem aw_hold (x : AskX L0 (sheetB L0 0) 2) : x.1.2 = 0 ∧ holdR L0 0 x.1.1 = [0, 1, 2] := by
  obtain ⟨h1, h2, h3⟩ := L0_ask (N := 2) rfl (by omega) x.2
  exact ⟨h2, (holders_eq (N := 2) (s := 0) L0_valid (by omega) (by decide) h1).trans L0_hold⟩
theorem aw_sure (x : AskX L0 (houseB L0 2) 4) : x.1.2 = 0 ∧ surelyR L0 2 x.1.1 = [0] := by
  obtain ⟨h1, h2, h3⟩ := L0_ask (N := 4) rfl (by omega) x.2
  exact ⟨h2, (surely_eq L0_valid (by omega) h3 h1).trans L0_sure⟩
theorem aw_held (x : AskX L0 (houseB L0 1) 3) : x.1.2 = 0 ∧ heldR L0 1 x.1.1 = (0, 2) := by
  obtain ⟨h1, h2, h3⟩ := L0_ask (N := 3) rfl (by omega) x.2
  exact ⟨h2, (held_eq L0_valid (by omega) h3 h1).trans L0_inhand⟩
theorem aw_owed (x : AskX L0 (houseB L0 0 && houseB L0 1) 3) : x.1.2 = 0 ∧ owedR L0 0 1 x.1.1 = (0, 1) := by
  obtain ⟨h1, h2, h3⟩ := L0_ask (N := 3) rfl (by omega) x.2
  exact ⟨h2, (owed_eq (a := 0) (b := 1) L0_valid (by omega) (by omega) (by omega) h3 h1).trans L0_owed⟩
theorem prove_of {r : Reg} {t : List Int} {ds : List Nat} (v : Valid r) (T : Truth r t ds) : proveB r t = true := by
  unfold proveB
  rw [checkE_of v, T.dated, T.play]
  simp [T.seen]
theorem aw_expl (x : ExplX L0) : x.1.2 = 0 ∧ proveB L0 x.1.1 = true := by
  have h0 := L0_check
  rcases x.2 with ⟨k, _⟩ | ⟨_, k, _⟩ | ⟨_, _, h, _, n, m, hp⟩
  · exact (k h0).elim
  · rw [(goes_all_iff L0_valid).2 L0_all] at k; cases k
  · obtain ⟨ds, T⟩ := truth_of_path L0_valid hp
    exact ⟨h, prove_of L0_valid T⟩
theorem awake_eff  : EffAt Try.prog 15 [] [] (X := Unit) (fun _ => .d (.bool true)) (fun _ => []) := by
  refine EffAt.of_awp Try.func15 rfl (by kernel_rfl) rfl fun Γ hn => ?_
  refine awp_seq ?_
  refine awp_region ?_
  refine sq rfl rfl hn rfl (q_assign rfl rfl) ?_
  refine run_nil ?_
  refine aend_then ?_
  refine awp_seq ?_
  refine awp_region ?_
  refine stepW (s_call [] (fun _ => loan_ok [] [] (by simp)) rfl (guard_none rfl) rfl (nb hn rfl) (fun _ => trivial) rfl rfl (by first | exact .refl _ | (repeat (first | exact .refl _ | exact .nil _ | refine .cons ?_ ?_ | refine .agg ?_ | refine .tup ?_)))) fun _ => ?_
  refine stepW (s_callE (Holders_eff L0 0 2) rfl rfl rfl (nb hn rfl) (.d rfl) rfl (.refl _) trivial (fun _ => rfl) (fun _ _ => trivial)) fun x1 => ?_
  obtain ⟨he1, hh1⟩ := aw_hold x1
  rw [he1, hh1]
  refine sq rfl rfl hn rfl (q_move rfl rfl) ?_
  refine sq rfl rfl hn rfl (q_extractd rfl rfl rfl) ?_
  refine sq rfl rfl hn rfl (q_extractd rfl rfl rfl) ?_
  refine sq rfl rfl hn rfl (q_assign rfl rfl) ?_
  refine sq rfl rfl hn rfl (q_assign rfl rfl) ?_
  refine run_nil ?_
  refine aend_then ?_
  refine awp_seq ?_
  refine awp_region ?_
  refine stepW (s_call [] (fun _ => loan_ok [] [] (by simp)) rfl (guard_none rfl) rfl (nb hn rfl) (fun _ => trivial) rfl rfl (by first | exact .refl _ | (repeat (first | exact .refl _ | exact .nil _ | refine .cons ?_ ?_ | refine .agg ?_ | refine .tup ?_)))) fun _ => ?_
  refine stepW (s_callE (InHand_eff L0 1 3) rfl rfl rfl (nb hn rfl) (.d rfl) rfl (.refl _) trivial (fun _ => rfl) (fun _ _ => trivial)) fun x2 => ?_
  obtain ⟨he2, hh2⟩ := aw_held x2
  rw [he2, hh2]
  refine sq rfl rfl hn rfl (q_move rfl rfl) ?_
  refine sq rfl rfl hn rfl (q_extractd rfl rfl rfl) ?_
  refine sq rfl rfl hn rfl (q_extractd rfl rfl rfl) ?_
  refine stepW (s_alloc 3 rfl rfl rfl (nb hn rfl) zr45 rfl rfl) fun b3 => ?_
  refine stepW (s_store rfl rfl rfl rfl rfl rfl (id := 3) rfl sz45 rfl (Nat.le_of_ble_eq_true rfl) rfl trivial) fun _ => ?_
  refine sq rfl rfl hn rfl (q_assign rfl rfl) ?_
  refine run_nil ?_
  refine aend_then ?_
  refine awp_seq ?_
  refine awp_region ?_
  refine stepW (s_call [] (fun _ => loan_ok [] [] (by simp)) rfl (guard_none rfl) rfl (nb hn rfl) (fun _ => trivial) rfl rfl (by first | exact .refl _ | (repeat (first | exact .refl _ | exact .nil _ | refine .cons ?_ ?_ | refine .agg ?_ | refine .tup ?_)))) fun _ => ?_
  refine stepW (s_callE (Owed_eff L0 0 1 3) rfl rfl rfl (nb hn rfl) (.d rfl) rfl (.refl _) trivial (fun _ => rfl) (fun _ _ => trivial)) fun x3 => ?_
  obtain ⟨he3, hh3⟩ := aw_owed x3
  rw [he3, hh3]
  refine sq rfl rfl hn rfl (q_move rfl rfl) ?_
  refine sq rfl rfl hn rfl (q_extractd rfl rfl rfl) ?_
  refine sq rfl rfl hn rfl (q_extractd rfl rfl rfl) ?_
  refine stepW (s_alloc 5 rfl rfl rfl (nb hn rfl) zr45 rfl rfl) fun b5 => ?_
  refine stepW (s_store rfl rfl rfl rfl rfl rfl (id := 5) rfl sz45 rfl (Nat.le_of_ble_eq_true rfl) rfl trivial) fun _ => ?_
  refine sq rfl rfl hn rfl (q_assign rfl rfl) ?_
  refine run_nil ?_
  refine aend_then ?_
  refine awp_seq ?_
  refine awp_region ?_
  refine stepW (s_call [] (fun _ => loan_ok [] [] (by simp)) rfl (guard_none rfl) rfl (nb hn rfl) (fun _ => trivial) rfl rfl (by first | exact .refl _ | (repeat (first | exact .refl _ | exact .nil _ | refine .cons ?_ ?_ | refine .agg ?_ | refine .tup ?_)))) fun _ => ?_
  refine stepW (s_callE (Surely_eff L0 2 4) rfl rfl rfl (nb hn rfl) (.d rfl) rfl (.refl _) trivial (fun _ => rfl) (fun _ _ => trivial)) fun x4 => ?_
  obtain ⟨he4, hh4⟩ := aw_sure x4
  rw [he4, hh4]
  refine sq rfl rfl hn rfl (q_move rfl rfl) ?_
  refine sq rfl rfl hn rfl (q_extractd rfl rfl rfl) ?_
  refine sq rfl rfl hn rfl (q_extractd rfl rfl rfl) ?_
  refine sq rfl rfl hn rfl (q_assign rfl rfl) ?_
  refine sq rfl rfl hn rfl (q_assign rfl rfl) ?_
  refine run_nil ?_
  refine aend_then ?_
  refine awp_seq ?_
  refine awp_region ?_
  refine stepW (s_call [] (fun _ => astray_ok) rfl (guard_none rfl) rfl (nb hn rfl) (fun _ => trivial) rfl rfl (.refl _)) fun _ => ?_
  refine stepW (s_call [] (fun _ => loan_ok astrayL [] (by decide)) rfl (guard_none rfl) rfl (nb hn rfl) (fun _ => trivial) rfl rfl (by first | exact .refl _ | (repeat (first | exact .refl _ | exact .nil _ | refine .cons ?_ ?_ | refine .agg ?_ | refine .tup ?_)))) fun _ => ?_
  refine stepW (s_call [] (fun _ => (by have := leave_ok (loanR astrayL []); rw [L1_leave] at this; exact this)) rfl (guard_none rfl) rfl (nb hn rfl) (fun _ => trivial) rfl rfl (.refl _)) fun _ => ?_
  refine sq rfl rfl hn rfl (q_move rfl rfl) ?_
  refine sq rfl rfl hn rfl (q_extractd rfl rfl rfl) ?_
  refine sq rfl rfl hn rfl (q_extractd rfl rfl rfl) ?_
  refine sq rfl rfl hn rfl (q_assign rfl rfl) ?_
  refine sq rfl rfl hn rfl (q_assign rfl rfl) ?_
  refine run_nil ?_
  refine aend_then ?_
  refine awp_seq ?_
  refine awp_region ?_
  refine stepW (s_call [] (fun _ => astray_ok) rfl (guard_none rfl) rfl (nb hn rfl) (fun _ => trivial) rfl rfl (.refl _)) fun _ => ?_
  refine stepW (s_call [] (fun _ => loan_ok astrayL [] (by decide)) rfl (guard_none rfl) rfl (nb hn rfl) (fun _ => trivial) rfl rfl (by first | exact .refl _ | (repeat (first | exact .refl _ | exact .nil _ | refine .cons ?_ ?_ | refine .agg ?_ | refine .tup ?_)))) fun _ => ?_
  refine stepW (s_call [] (fun _ => (by have := first_ok (loanR astrayL []); rw [L1_first] at this; exact this)) rfl (guard_none rfl) rfl (nb hn rfl) (fun _ => trivial) rfl rfl (.refl _)) fun _ => ?_
  refine sq rfl rfl hn rfl (q_move rfl rfl) ?_
  refine sq rfl rfl hn rfl (q_extractd rfl rfl rfl) ?_
  refine sq rfl rfl hn rfl (q_extractd rfl rfl rfl) ?_
  refine sq rfl rfl hn rfl (q_assign rfl rfl) ?_
  refine sq rfl rfl hn rfl (q_assign rfl rfl) ?_
  refine run_nil ?_
  refine aend_then ?_
  refine awp_seq ?_
  refine awp_region ?_
  refine stepW (s_call [] (fun _ => loan_ok [] [] (by simp)) rfl (guard_none rfl) rfl (nb hn rfl) (fun _ => trivial) rfl rfl (by first | exact .refl _ | (repeat (first | exact .refl _ | exact .nil _ | refine .cons ?_ ?_ | refine .agg ?_ | refine .tup ?_)))) fun _ => ?_
  refine stepW (s_callE (explain_ok L0) rfl rfl rfl (nb hn rfl) (.d rfl) rfl (.refl _) trivial (fun _ => rfl) (fun _ _ => trivial)) fun x7 => ?_
  obtain ⟨he7, hh7⟩ := aw_expl x7
  rw [he7]
  refine sq rfl rfl hn rfl (q_move rfl rfl) ?_
  refine sq rfl rfl hn rfl (q_extractd rfl rfl rfl) ?_
  refine sq rfl rfl hn rfl (q_extractd rfl rfl rfl) ?_
  refine sq rfl rfl hn rfl (q_assign rfl rfl) ?_
  refine sq rfl rfl hn rfl (q_assign rfl rfl) ?_
  refine run_nil ?_
  refine aend_then ?_
  refine awp_seq ?_
  refine awp_region ?_
  refine sq rfl rfl hn rfl (q_move rfl rfl) ?_
  refine sq rfl rfl hn rfl (q_eql rfl rfl rfl) ?_
  refine sq rfl rfl hn rfl (q_move rfl rfl) ?_
  refine stepG [] (guard_some rfl rfl rfl) rfl (nb hn rfl) (fun hc => trivial) (fun hc => q_move rfl rfl) ?_
  refine stepW (s_guard (guard_some rfl rfl rfl) rfl (nb hn rfl) (s_buildSlice rfl rfl rfl (nb hn rfl) Try.underlying22 sz3 zr3 rfl rfl rfl (show _ = [.d (.int .i64 0), .d (.int .i64 0), .d (.int .i64 0)] from by kernel_rfl) (by kernel_rfl) rfl rfl rfl rfl rfl)) fun _ => ?_
  refine stepW (s_call [(55, _), (56, _)] (fun hc => Same_ok [0, 1, 2] [0, 1, 2]) rfl (guard_some rfl rfl rfl) rfl (nb hn rfl) (fun hc => ⟨⟨_, rfl, hc⟩, ⟨_, rfl, hc⟩, trivial⟩) rfl rfl (.refl _)) fun _ => ?_
  refine sq rfl rfl hn rfl (q_and rfl rfl rfl (by simp_all)) ?_
  refine sq rfl rfl hn rfl (q_move rfl rfl) ?_
  refine stepG [] (guard_some rfl rfl rfl) rfl (nb hn rfl) (fun hc => trivial) (fun hc => q_move rfl rfl) ?_
  refine stepG [(60, _)] (guard_some rfl rfl rfl) rfl (nb hn rfl) (fun hc => ⟨⟨_, rfl, hc⟩, trivial⟩) (fun hc => q_eql rfl rfl rfl) ?_
  refine sq rfl rfl hn rfl (q_and rfl rfl rfl (by simp_all)) ?_
  refine sq rfl rfl hn rfl (q_move rfl rfl) ?_
  refine stepG [] (guard_some rfl rfl rfl) rfl (nb hn rfl) (fun hc => trivial) (fun hc => q_loadAd rfl rfl (id := 3) rfl Try.underlying45 rfl sz45 rfl rfl sees0) ?_
  refine stepG [] (guard_some rfl rfl rfl) rfl (nb hn rfl) (fun hc => trivial) (fun hc => q_buildd rfl bt45 rfl rfl rfl rfl rfl) ?_
  refine stepG [(64, _), (65, _)] (guard_some rfl rfl rfl) rfl (nb hn rfl) (fun hc => ⟨⟨_, rfl, hc⟩, ⟨_, rfl, hc⟩, trivial⟩) (fun hc => q_eql45 rfl rfl rfl) ?_
  refine sq rfl rfl hn rfl (q_and rfl rfl rfl (by simp_all)) ?_
  refine sq rfl rfl hn rfl (q_move rfl rfl) ?_
  refine stepG [] (guard_some rfl rfl rfl) rfl (nb hn rfl) (fun hc => trivial) (fun hc => q_move rfl rfl) ?_
  refine stepG [(69, _)] (guard_some rfl rfl rfl) rfl (nb hn rfl) (fun hc => ⟨⟨_, rfl, hc⟩, trivial⟩) (fun hc => q_eql rfl rfl rfl) ?_
  refine sq rfl rfl hn rfl (q_and rfl rfl rfl (by simp_all)) ?_
  refine sq rfl rfl hn rfl (q_move rfl rfl) ?_
  refine stepG [] (guard_some rfl rfl rfl) rfl (nb hn rfl) (fun hc => trivial) (fun hc => q_loadAd rfl rfl (id := 5) rfl Try.underlying45 rfl sz45 rfl rfl sees0) ?_
  refine stepG [] (guard_some rfl rfl rfl) rfl (nb hn rfl) (fun hc => trivial) (fun hc => q_buildd rfl bt45 rfl rfl rfl rfl rfl) ?_
  refine stepG [(73, _), (74, _)] (guard_some rfl rfl rfl) rfl (nb hn rfl) (fun hc => ⟨⟨_, rfl, hc⟩, ⟨_, rfl, hc⟩, trivial⟩) (fun hc => q_eql45 rfl rfl rfl) ?_
  refine sq rfl rfl hn rfl (q_and rfl rfl rfl (by simp_all)) ?_
  refine sq rfl rfl hn rfl (q_move rfl rfl) ?_
  refine stepG [] (guard_some rfl rfl rfl) rfl (nb hn rfl) (fun hc => trivial) (fun hc => q_move rfl rfl) ?_
  refine stepG [(78, _)] (guard_some rfl rfl rfl) rfl (nb hn rfl) (fun hc => ⟨⟨_, rfl, hc⟩, trivial⟩) (fun hc => q_eql rfl rfl rfl) ?_
  refine sq rfl rfl hn rfl (q_and rfl rfl rfl (by simp_all)) ?_
  refine sq rfl rfl hn rfl (q_move rfl rfl) ?_
  refine stepG [] (guard_some rfl rfl rfl) rfl (nb hn rfl) (fun hc => trivial) (fun hc => q_move rfl rfl) ?_
  refine stepW (s_guard (guard_some rfl rfl rfl) rfl (nb hn rfl) (s_buildSlice rfl rfl rfl (nb hn rfl) Try.underlying22 sz3 zr3 rfl rfl rfl (show _ = [.d (.int .i64 0)] from by kernel_rfl) (by kernel_rfl) rfl rfl rfl rfl rfl)) fun _ => ?_
  refine stepW (s_call [(82, _), (83, _)] (fun hc => Same_ok [0] [0]) rfl (guard_some rfl rfl rfl) rfl (nb hn rfl) (fun hc => ⟨⟨_, rfl, hc⟩, ⟨_, rfl, hc⟩, trivial⟩) rfl rfl (.refl _)) fun _ => ?_
  refine sq rfl rfl hn rfl (q_and rfl rfl rfl (by simp_all)) ?_
  refine sq rfl rfl hn rfl (q_move rfl rfl) ?_
  refine stepG [] (guard_some rfl rfl rfl) rfl (nb hn rfl) (fun hc => trivial) (fun hc => q_move rfl rfl) ?_
  refine stepG [(87, _)] (guard_some rfl rfl rfl) rfl (nb hn rfl) (fun hc => ⟨⟨_, rfl, hc⟩, trivial⟩) (fun hc => q_eql rfl rfl rfl) ?_
  refine sq rfl rfl hn rfl (q_and rfl rfl rfl (by simp_all)) ?_
  refine sq rfl rfl hn rfl (q_move rfl rfl) ?_
  refine stepG [] (guard_some rfl rfl rfl) rfl (nb hn rfl) (fun hc => trivial) (fun hc => q_move rfl rfl) ?_
  refine stepW (s_guard (guard_some rfl rfl rfl) rfl (nb hn rfl) (s_buildSlice rfl rfl rfl (nb hn rfl) Try.underlying22 sz3 zr3 rfl rfl rfl (show _ = [.d (.int .i64 0)] from by kernel_rfl) (by kernel_rfl) rfl rfl rfl rfl rfl)) fun _ => ?_
  refine stepW (s_call [(91, _), (92, _)] (fun hc => Same_ok [3] [3]) rfl (guard_some rfl rfl rfl) rfl (nb hn rfl) (fun hc => ⟨⟨_, rfl, hc⟩, ⟨_, rfl, hc⟩, trivial⟩) rfl rfl (.refl _)) fun _ => ?_
  refine sq rfl rfl hn rfl (q_and rfl rfl rfl (by simp_all)) ?_
  refine sq rfl rfl hn rfl (q_move rfl rfl) ?_
  refine stepG [] (guard_some rfl rfl rfl) rfl (nb hn rfl) (fun hc => trivial) (fun hc => q_move rfl rfl) ?_
  refine stepG [(96, _)] (guard_some rfl rfl rfl) rfl (nb hn rfl) (fun hc => ⟨⟨_, rfl, hc⟩, trivial⟩) (fun hc => q_eql rfl rfl rfl) ?_
  refine sq rfl rfl hn rfl (q_and rfl rfl rfl (by simp_all)) ?_
  refine sq rfl rfl hn rfl (q_move rfl rfl) ?_
  refine stepG [] (guard_some rfl rfl rfl) rfl (nb hn rfl) (fun hc => trivial) (fun hc => q_move rfl rfl) ?_
  refine stepG [(100, _)] (guard_some rfl rfl rfl) rfl (nb hn rfl) (fun hc => ⟨⟨_, rfl, hc⟩, trivial⟩) (fun hc => q_eql rfl rfl rfl) ?_
  refine sq rfl rfl hn rfl (q_and rfl rfl rfl (by simp_all)) ?_
  refine sq rfl rfl hn rfl (q_move rfl rfl) ?_
  refine stepG [] (guard_some rfl rfl rfl) rfl (nb hn rfl) (fun hc => trivial) (fun hc => q_move rfl rfl) ?_
  refine stepG [(104, _)] (guard_some rfl rfl rfl) rfl (nb hn rfl) (fun hc => ⟨⟨_, rfl, hc⟩, trivial⟩) (fun hc => q_eql rfl rfl rfl) ?_
  refine sq rfl rfl hn rfl (q_and rfl rfl rfl (by simp_all)) ?_
  refine sq rfl rfl hn rfl (q_move rfl rfl) ?_
  refine stepW (s_call [] (fun hc => loan_ok [] [] (by simp)) rfl (guard_some rfl rfl rfl) rfl (nb hn rfl) (fun hc => trivial) rfl rfl (by first | exact .refl _ | (repeat (first | exact .refl _ | exact .nil _ | refine .cons ?_ ?_ | refine .agg ?_ | refine .tup ?_)))) fun _ => ?_
  refine stepG [] (guard_some rfl rfl rfl) rfl (nb hn rfl) (fun hc => trivial) (fun hc => q_move rfl rfl) ?_
  refine stepW (s_call [(108, _), (109, _)] (fun hc => ProveTruth_ok L0 x7.1.1) rfl (guard_some rfl rfl rfl) rfl (nb hn rfl) (fun hc => ⟨⟨_, rfl, hc⟩, ⟨_, rfl, hc⟩, trivial⟩) rfl rfl (.refl _)) fun _ => ?_
  refine sq rfl rfl hn rfl (q_and rfl rfl rfl (by simp_all)) ?_
  refine sq rfl rfl hn rfl (q_assign rfl rfl) ?_
  refine run_nil ?_
  refine aend_then ?_
  refine awp_ret ?_
  exact ret_E (.inl rfl) () ((hands_1 rfl (.tmp rfl)).eq (by simp [hh7, sameB_self])) trivial
end Go.Proofs.Ytnbmmopjkkofoaa
namespace Go.Proofs.Ytnbmmopjkkofoaa
open Go.RowKit
set_option maxRecDepth 20000
set_option linter.all false
theorem awake_ok : PureAt Try.prog 15 [] (.bool true) := PureAt.of_eff (ds := []) awake_eff
end Go.Proofs.Ytnbmmopjkkofoaa
namespace Go.Proofs.Ytnbmmopjkkofoaa
set_option linter.all false
/-- There is a truth. -/
def hasT (r : Reg) : Prop := goesB r 0 0 0 = true
theorem expl_full {r : Reg} (v : Valid r) (x : ExplX r) : (hasT r ∧ x.1.2 = 0 ∧ ∃ ds, Truth r x.1.1 ds) ∨ (¬ hasT r ∧ x.1.2 = 9 ∧ x.1.1 = []) := by
  have h0 := checkE_of v
  rcases x.2 with ⟨k, _⟩ | ⟨_, k, e⟩ | ⟨_, k, h, _, n, m, hp⟩
  · exact (k h0).elim
  · right
    rw [e]
    refine ⟨fun h => ?_, rfl, rfl⟩
    have h' : goesB r 0 0 0 = true := h
    rw [k] at h'
    cases h'
  · exact .inl ⟨k, h, truth_of_path v hp⟩
theorem expl_err {r : Reg} (v : Valid r) (x : ExplX r) : (x.1.2 = 0 ↔ hasT r) ∧ (x.1.2 = 9 ↔ ¬ hasT r) ∧ (x.1.2 = 0 ∨ x.1.2 = 9) := by
  rcases expl_full v x with ⟨h, e, _⟩ | ⟨h, e, _⟩
  · exact ⟨⟨fun _ => h, fun _ => e⟩, ⟨fun k => (by rw [e] at k; cases k), fun k => (k h).elim⟩, .inl e⟩
  · exact ⟨⟨fun k => (by rw [e] at k; cases k), fun k => (h k).elim⟩, ⟨fun _ => h, fun _ => e⟩, .inr e⟩
/-- An increasing list of numbers below S, from f on. -/
def Inc (f S : Nat) (m : List Int) : Prop := m.Pairwise (· < ·) ∧ ∀ x ∈ m, (f : Int) ≤ x ∧ x < (S : Int)
theorem Inc.tail {f S : Nat} {x : Int} {m : List Int} (h : Inc f S (x :: m)) : Inc (x.toNat + 1) S m := by
  obtain ⟨h1, h2⟩ := h
  rw [List.pairwise_cons] at h1
  refine ⟨h1.2, fun y hy => ?_⟩
  have k1 := h1.1 y hy
  have k2 := h2 y (List.mem_cons_of_mem _ hy)
  have k3 := h2 x List.mem_cons_self
  omega
theorem Inc.mono {f g S : Nat} {m : List Int} (h : Inc f S m) (hg : g ≤ f) : Inc g S m := ⟨h.1, fun x hx => by have := h.2 x hx; omega⟩
theorem Inc.nil (f S : Nat) : Inc f S [] := ⟨List.Pairwise.nil, fun _ h => by cases h⟩
end Go.Proofs.Ytnbmmopjkkofoaa
namespace Go.Proofs.Ytnbmmopjkkofoaa
open Go.RowKit
set_option linter.all false
section
variable {Γ : Cx} {P : Program} {σ : St} {o : Oper} {R : Rel}
end
section
variable {Γ : Cx} {P : Program} {σ : St} {o : Oper} {R : Rel}
theorem q_neqB {x y : Operand} {t t' : TypeId} {a b : Bool} (h : o.op = .binOp .neq t x y t') (hx : σ.ev x = some (true, .d (.bool a))) (hy : σ.ev y = some (true, .d (.bool b))) (ht : P.underlying t = some .bool) : QV Γ P σ o R (.d (.bool (a != b))) := fun A w F hs => by
  have h1 := hs.ev hx
  have h2 := hs.ev hy
  simp only [TRep, Rep] at h1 h2
  exact ⟨.bool (a != b), rfl, fun w' _ => by simp [execOp, h, h1, h2, run_neq_bool _ t a b ht, bne, eqGuard_at_bool]⟩
theorem q_eqlB {x y : Operand} {t t' : TypeId} {a b : Bool} (h : o.op = .binOp .eql t x y t') (hx : σ.ev x = some (true, .d (.bool a))) (hy : σ.ev y = some (true, .d (.bool b))) (ht : P.underlying t = some .bool) : QV Γ P σ o R (.d (.bool (a == b))) := fun A w F hs => by
  have h1 := hs.ev hx
  have h2 := hs.ev hy
  simp only [TRep, Rep] at h1 h2
  exact ⟨.bool (a == b), rfl, fun w' _ => by simp [execOp, h, h1, h2, run_eql_bool _ t a b ht, eqGuard_at_bool]⟩
end
section
variable {Γ : Cx} {P : Program} {σ : St} {ops : Array Oper} {o : Oper} {Q : Exit → Act → World → Prop} {W : Nat → Prop}
theorem s_buildVec {t e : TypeId} {len sz dt : Nat} {parts : Array (Nat × Operand)} {z : Value} {zc : Array Value} {zs cs : List TV} {ps : List (Nat × TV)} (id : Nat) (h : o.op = .buildSlice t len parts)
    (hg : o.guard = none) (hd : o.dst = some dt) (hn : Nat.blt dt Γ.n = true) (ht : P.underlying t = some (.slice e)) (hsz : Sz P e sz) (hzero : (P.info? e).map (·.zero) = some (some z))
    (hsmall : Nat.ble (len * sz) 16777216 = true) (hzc : ((Array.range (len * sz)).map ((if len * sz = 0 then #[] else z.cells)[· % (if len * sz = 0 then #[] else z.cells).size]!)) = zc)
    (hz : zc.toList.map constTV = zs) (h1 : zc.toList.all (·.oneCell') = true) (hp : pevs σ parts.toList = some ps) (hf : fillTV (fun i => some (i * sz, sz)) zs ps = some cs) :
    StepW Γ P ops σ o W fun b : Nat => (σ.put dt true (.val (.slice (some ⟨b, 0, none⟩) len len))).rput id (.box b e cs) := fun a w F hs K Q hK => by
  rw [if_pos (plain_wanted hg a)]
  have h24 : (2 : Nat) ^ 24 = 16777216 := by decide
  have hsm := Nat.le_of_ble_eq_true hsmall
  obtain ⟨k1, k2⟩ := hs.pevs hp
  obtain ⟨vs', g1, g2, g3⟩ := fill_ok (w := w) (F := F) (place := fun i => some (i * sz, sz)) (vs := zc) k1 k2 (by rw [← hz]; exact treps_const _) (List.all_eq_true.1 h1) hf
  have hrun := run_buildSlice' (parts := parts.map fun (i, x) => (i, a.eval x)) (cells := vs') w ht hsz hzero (by rw [h24]; exact hsm) hzc (by rw [← g1]; simp)
  have hex : (execOp a.eval o).run P w = .ok (.value (.slice (some ⟨w.heap.size, 0, none⟩) len len)) (w.alloc (.cells vs' e)) := by
    simp only [execOp, h, Sem.run_bind, hrun, Result.andThen_ok, Sem.run_pure]
  unfold Oper.wp
  rw [hex]
  show K (a.put o.dst _) _
  rw [hd]
  exact hK w.heap.size _ _ F ((hs.newBox (ty := e) id g2 g3).put (blt_lt hn) (fun _ => rfl) (fun h => by cases h)) (fun _ _ h => h) (by simp) ((Grow.alloc hs.fcell _).agree (fun _ e => by cases e))
end
end Go.Proofs.Ytnbmmopjkkofoaa
namespace Go.Proofs.Ytnbmmopjkkofoaa
open Go.RowKit
set_option maxRecDepth 20000
set_option linter.all false
theorem map_take {α β : Type} {l : List α} {f : α → β} {n : Nat} : (l.map f).take n = (l.take n).map f := by simp
end Go.Proofs.Ytnbmmopjkkofoaa
namespace Go.Proofs.Ytnbmmopjkkofoaa
set_option linter.all false
/-- Two lists, element by element. -/
def Pt {α β : Type} (R : α → β → Prop) : List α → List β → Prop
  | [], [] => True
  | a :: as', b :: bs => R a b ∧ Pt R as' bs
  | _, _ => False
theorem Pt.refl {α : Type} {R : α → α → Prop} (h : ∀ a, R a a) : ∀ l : List α, Pt R l l
  | [] => trivial
  | a :: l => ⟨h a, Pt.refl h l⟩
theorem Pt.imp {α β : Type} {R S : α → β → Prop} (h : ∀ a b, R a b → S a b) : ∀ {l : List α} {l' : List β}, Pt R l l' → Pt S l l'
  | [], [], _ => trivial
  | _ :: _, _ :: _, ⟨h1, h2⟩ => ⟨h _ _ h1, Pt.imp h h2⟩
  | [], _ :: _, h => h.elim
  | _ :: _, [], h => h.elim
theorem Pt.len {α β : Type} {R : α → β → Prop} : ∀ {l : List α} {l' : List β}, Pt R l l' → l'.length = l.length
  | [], [], _ => rfl
  | _ :: _, _ :: _, ⟨_, h⟩ => by simp [Pt.len h]
  | [], _ :: _, h => h.elim
  | _ :: _, [], h => h.elim
theorem Pt.get {α β : Type} {R : α → β → Prop} : ∀ {l : List α} {l' : List β} {i : Nat} {a : α}, Pt R l l' → l[i]? = some a → ∃ b, l'[i]? = some b ∧ R a b
  | [], [], _, _, _, h => by simp at h
  | a :: l, b :: l', 0, x, ⟨h1, _⟩, h => by
    simp only [List.getElem?_cons_zero, Option.some.injEq] at h
    subst h
    exact ⟨b, rfl, h1⟩
  | a :: l, b :: l', i + 1, x, ⟨_, h2⟩, h => Pt.get (i := i) h2 (by simpa using h)
  | [], _ :: _, _, _, h, _ => h.elim
  | _ :: _, [], _, _, h, _ => h.elim
theorem Pt.drop {α β : Type} {R : α → β → Prop} {out : List Int} : ∀ {k : Nat} {l : List α} {l' : List β}, Pt R l l' → Pt R (dropF out k l) (dropF out k l')
  | _, [], [], _ => trivial
  | k, a :: l, b :: l', ⟨h1, h2⟩ => by
    simp only [dropF]
    cases out.any (fun n => (k : Int) == n)
    · exact ⟨h1, Pt.drop h2⟩
    · exact Pt.drop h2
  | _, [], _ :: _, h => h.elim
  | _, _ :: _, [], h => h.elim
theorem Pt.map {α β γ : Type} {R : α → β → Prop} {f : γ → α} {g : γ → β} (h : ∀ c, R (f c) (g c)) : ∀ l : List γ, Pt R (l.map f) (l.map g)
  | [] => trivial
  | c :: l => ⟨h c, Pt.map h l⟩
theorem Pt.and {α β : Type} {R S : α → β → Prop} : ∀ {l : List α} {l' : List β}, Pt R l l' → Pt S l l' → Pt (fun a b => R a b ∧ S a b) l l'
  | [], [], _, _ => trivial
  | _ :: _, _ :: _, ⟨h1, h2⟩, ⟨k1, k2⟩ => ⟨⟨h1, k1⟩, Pt.and h2 k2⟩
  | [], _ :: _, h, _ => h.elim
  | _ :: _, [], h, _ => h.elim
def SameWay (e e' : Ent5) : Prop := e'.sheet = e.sheet ∧ e'.frm = e.frm ∧ e'.to = e.to
def Wide (e e' : Ent5) : Prop := e'.lo ≤ e.lo ∧ e.hi ≤ e'.hi
def SameKind (e e' : Ent5) : Prop := e'.kind = e.kind
/-- What is a truth of the first register is one of the second. -/
structure Loose (r x : Reg) : Prop where
  st : x.start = r.start
  way : Pt SameWay r.entries x.entries
  wide : Pt Wide r.entries x.entries
  kind : Pt SameKind r.entries x.entries ∨ ∀ e ∈ x.entries, e.kind ≠ 2
  si : ∀ s ∈ x.sights, s ∈ r.sights
theorem comeF_same {d : Nat} {s : Int} : ∀ {k : Nat} {es es' : List Ent5} {c : List Int}, Pt SameWay es es' → comeF d s k es' c = comeF d s k es c
  | _, [], [], _, _ => rfl
  | k, e :: es, e' :: es', c, ⟨⟨h1, h2, h3⟩, h⟩ => by
    simp only [comeF, h1, h2, h3]
    exact comeF_same h
  | _, [], _ :: _, _, h => h.elim
  | _, _ :: _, [], _, h => h.elim
theorem places_same {r x : Reg} (hs : x.start = r.start) (h : Pt SameWay r.entries x.entries) (m : Nat) : placesA x m = placesA r m := by
  unfold placesA placesL
  rw [hs]
  congr 1
  funext j
  unfold placeN placeOf
  rw [hs, comeF_same h]
theorem openF_same {d : Nat} {a b : Int} : ∀ {k : Nat} {es es' : List Ent5} {n : Int}, Pt SameWay es es' → Pt SameKind es es' → openF d a b k es' n = openF d a b k es n
  | _, [], [], _, _, _ => rfl
  | k, e :: es, e' :: es', c, ⟨⟨h1, h2, h3⟩, h⟩, ⟨q, hq⟩ => by
    have q' : e'.kind = e.kind := q
    simp only [openF, h2, h3, q']
    exact openF_same h hq
  | _, [], _ :: _, _, h, _ => h.elim
  | _, _ :: _, [], _, h, _ => h.elim
theorem open_same {r x : Reg} (h : Pt SameWay r.entries x.entries) (q : Pt SameKind r.entries x.entries) (m : Nat) (a b : Int) : openN x m a b = openN r m a b := openF_same h q
theorem Loose.can {r x : Reg} (h : Loose r x) {k m : Nat} (hc : canB r k m = true) : canB x k m = true := by
  unfold canB at hc ⊢
  cases he : r.entries[k]? with
  | none => rw [he] at hc; cases hc
  | some e =>
    rw [he] at hc
    obtain ⟨e', he', h1, h2, h3⟩ := h.way.get he
    rw [he']
    dsimp only at hc ⊢
    unfold canE at hc ⊢
    rw [places_same h.st h.way, h1, h2]
    simp only [Bool.and_eq_true, Bool.or_eq_true] at hc ⊢
    refine ⟨hc.1, ?_⟩
    rcases h.kind with q | q
    · obtain ⟨e2, he2, q2⟩ := q.get he
      rw [he'] at he2
      cases he2
      have q3 : e'.kind = e.kind := q2
      rw [q3, open_same h.way q, h3]
      exact hc.2
    · exact .inl (by simpa using q e' (List.mem_of_getElem? he'))
theorem Loose.day {r x : Reg} (h : Loose r x) {n : Int} : ∀ {ts : List Int} {k m m' : Nat}, dayF r n k ts m = some m' → dayF x n k ts m = some m'
  | [], _, _, _, hd => hd
  | t :: ts, k, m, m', hd => by
    simp only [dayF] at hd ⊢
    cases hb : t != n with
    | true => rw [hb] at hd; exact h.day hd
    | false =>
      rw [hb] at hd
      simp only [cond_false] at hd ⊢
      cases hc : canB r k m with
      | false => rw [hc] at hd; cases hd
      | true =>
        rw [hc] at hd
        rw [h.can hc]
        exact h.day hd
theorem Loose.play {r x : Reg} (h : Loose r x) {t : List Int} : ∀ {c n m : Nat} {ds : List Nat}, playF r t c n m = some ds → playF x t c n m = some ds
  | 0, _, _, _, hp => hp
  | c + 1, n, m, ds, hp => by
    rw [playF] at hp ⊢
    split at hp
    · cases hp
    · rename_i d1 h1
      split at hp
      · cases hp
      · rename_i ds1 h2
        cases hp
        rw [h.day h1]
        simp only
        rw [h.play h2]
theorem dated_wide : ∀ {es es' : List Ent5} {ts : List Int}, Pt Wide es es' → datedF es ts = true → datedF es' ts = true
  | [], [], ts, _, h => h
  | e :: es, e' :: es', [], _, h => by simp [datedF] at h
  | e :: es, e' :: es', t :: ts, ⟨⟨h1, h2⟩, h3⟩, h => by
    simp only [datedF, Bool.and_eq_true, decide_eq_true_eq] at h ⊢
    exact ⟨by omega, dated_wide h3 h.2⟩
  | [], _ :: _, _, h, _ => h.elim
  | _ :: _, [], _, h, _ => h.elim
theorem Loose.seen {r x : Reg} (h : Loose r x) : ∀ {n : Nat} {ds : List Nat}, seenAll r n ds = true → seenAll x n ds = true
  | _, [], _ => rfl
  | n, d :: ds, hs => by
    simp only [seenAll, Bool.and_eq_true] at hs ⊢
    rw [places_same h.st h.way]
    refine ⟨List.all_eq_true.2 fun s hs' => List.all_eq_true.1 hs.1 s (h.si s hs'), h.seen hs.2⟩
theorem Loose.truth {r x : Reg} (h : Loose r x) {t : List Int} {ds : List Nat} (T : Truth r t ds) : Truth x t ds :=
  ⟨dated_wide h.wide T.dated, h.play T.play, h.seen T.seen⟩
theorem Loose.has {r x : Reg} (h : Loose r x) (v : Valid r) (vx : Valid x) (H : hasT r) : hasT x := by
  obtain ⟨t, ds, T⟩ := (goes_truth v).1 H
  exact (goes_truth vx).2 ⟨t, ds, h.truth T⟩
/-- What can have happened at the end of a day. -/
def Eve (r : Reg) (N m : Nat) : Prop := Rch r N N r.entries.length m
theorem Loose.eve {r x : Reg} (h : Loose r x) (v : Valid r) (vx : Valid x) {N m : Nat} (hN : N ≤ 9) (H : Eve r N m) : Eve x N m := by
  obtain ⟨t, ds, T, hd⟩ := (rch_truth v hN).1 H
  exact (rch_truth vx hN).2 ⟨t, ds, h.truth T, hd⟩
theorem Loose.drop {r x : Reg} (h : Loose r x) (hs : x.sights = r.sights) (out : List Int) : Loose (dropR r out) (dropR x out) where
  st := h.st
  way := h.way.drop
  wide := h.wide.drop
  kind := by
    rcases h.kind with q | q
    · exact .inl q.drop
    · exact .inr fun e he => q e (dropF_sub he)
  si := fun s hs' => by
    show s ∈ dropF out r.entries.length r.sights
    have : s ∈ dropF out x.entries.length x.sights := hs'
    rw [h.way.len, hs] at this
    exact this
theorem Inc.filter {f S S' : Nat} {m : List Int} {p : Int → Bool} (h : Inc f S m) (hp : ∀ x ∈ m, p x = true → x < (S' : Int)) : Inc f S' (m.filter p) :=
  ⟨h.1.filter p, fun x hx => by
    rw [List.mem_filter] at hx
    exact ⟨(h.2 x hx.1).1, hp x hx.1 hx.2⟩⟩
theorem hold_mem {r : Reg} {N s : Nat} {out : List Nat} (h : EvOK r N out) {x : Int} : x ∈ holdR r (s : Nat) out ↔ ∃ m, Eve r N m ∧ (placesA r m).getD s 0 = x := by
  unfold holdR
  obtain ⟨k1, k2⟩ := sort_sorted (holdL r out (s : Int).toNat)
  obtain ⟨_, q2⟩ := comp_sorted k1
  rw [q2, k2]
  unfold holdL
  rw [List.mem_map]
  constructor
  · rintro ⟨m, hm, e⟩
    exact ⟨m, (h.1 m).1 hm, e⟩
  · rintro ⟨m, hm, e⟩
    exact ⟨m, (h.1 m).2 hm, e⟩
/-- The first register allows no more on a day than the second. -/
structure Nar (x r : Reg) (N : Nat) : Prop where
  vx : Valid x
  v : Valid r
  hx : hasT x
  h : hasT r
  eve : ∀ m, Eve x N m → Eve r N m
  pl : ∀ m, placesA x m = placesA r m
  op : ∀ m a b, openN x m a b = openN r m a b
  st : x.start = r.start
  ho : x.houses = r.houses
theorem all_of {r : Reg} (v : Valid r) (h : hasT r) : allDays r ≠ [] := (goes_all_iff v).1 h
theorem wantE_0 {r : Reg} {is : Bool} {N : Int} (v : Valid r) (h : hasT r) (hi : is = true) (hN : 0 ≤ N ∧ N ≤ 9) : ∀ {out : List Nat} {e : Int}, AskP r is N out e → e = 0 ∧ EvOK r N.toNat out ∧ out ≠ [] := fun {out e} hk => by
  obtain ⟨n, rfl⟩ : ∃ n : Nat, N = n := ⟨N.toNat, by omega⟩
  obtain ⟨h1, h2⟩ := ask_ok v hi (by omega) hk
  rw [if_neg (all_of v h)] at h2
  exact ⟨h2, by simpa using h1, fun e0 => all_of v h ((ev_nil v (by omega) h1).1 e0)⟩
end Go.Proofs.Ytnbmmopjkkofoaa
namespace Go.Proofs.Ytnbmmopjkkofoaa
open Go.RowKit
set_option maxRecDepth 20000
set_option linter.all false
theorem modN {a b : Nat} (hb : 0 < b) : ((a : Int).tmod (b : Int)) = ((a % b : Nat) : Int) := by
  rw [Int.tmod_eq_emod_of_nonneg (by omega)]; rfl
theorem sheetB_of {r : Reg} {s : Int} (h0 : 0 ≤ s) (h : s < r.start.length) : sheetB r s = true := by
  simp [sheetB]; omega
theorem houseB_of {r : Reg} {a : Int} (v : Valid r) (h0 : 0 ≤ a) (h : a < r.houses) : houseB r a = true := by
  rw [houseB_eq v.h1 v.h4]
  simp
  omega
theorem len0 {l : List Int} : (((l.map intE).length : Int) == 0) = decide (l = []) := by
  cases l with
  | nil => rfl
  | cons x l => simp; omega
theorem seeing_big (r : Reg) (s : Sight5) (h5 : r.sights.length * 24 ≤ 140737488351232) : PureAt Try.prog 32 [regD r, .agg (sightE s)] (regD (seeingR r s)) := by
  refine PureAt.of_awp Try.func32 rfl (by kernel_rfl) (Nat.le_of_ble_eq_true rfl) fun Γ hn hl => ?_
  refine awp_seq ?_
  refine awp_region ?_
  refine stepW (s_box 2 rfl rfl rfl (nb hn rfl) rfl rfl) fun b2 => ?_
  refine stepW (s_box 3 rfl rfl rfl (nb hn rfl) rfl rfl) fun b3 => ?_
  refine stepW (s_alloc 4 rfl rfl rfl (nb hn rfl) zr26 rfl rfl) fun b4 => ?_
  refine run_nil ?_
  refine aend_then ?_
  refine awp_seq ?_
  refine d_start (W := fun b => b ≠ b3) fmo ?_
  refine d1q (i := 1) rfl (by kernel_rfl) (fun _ _ _ _ h => h) rfl rfl hn rfl (q_fieldAddr rfl rfl Try.underlying26 rfl sz24) ?_
  refine d1q (i := 4) rfl (by kernel_rfl) (fun _ _ _ _ h => h) rfl rfl hn rfl (q_loadAd rfl rfl (id := 3) rfl Try.underlying59 rfl sz59 rfl rfl (seesA (by simp))) ?_
  refine d1_of_d2 ?_
  refine d2_all 0 [2, 5] (by kernel_rfl) ⟨?_, ?_, ?_, trivial⟩
  · skip
    refine br rfl (s_buildRow 5 rfl rfl rfl (nb hn rfl) Try.underlying24 sz59 zr59 rfl rfl rfl (show _ = [] from by kernel_rfl) (by kernel_rfl) rfl rfl (show allD _ = some [] from by kernel_rfl) rfl rfl) fun v5 => ?_
    refine d2_of_d1 ?_
    refine d1_of_d2 ?_
    refine d2_all 2 [5] (by kernel_rfl) ⟨?_, ?_, trivial⟩
    · skip
      refine br rfl (quiet_wg _ [] (guard_none rfl) rfl (nb hn rfl) (fun _ => trivial) (fun _ => q_load rfl rfl (id := 2) rfl Try.underlying24 rfl rfl sees0)) fun _ => ?_
      refine d2_of_d1 ?_
      refine d1_of_d2 ?_
      refine g_ne_d2 (i := 5) (j := 3) rfl rfl rfl (fun hne5_3 => ?_)
      refine d2_all 3 [5] (by kernel_rfl) ⟨?_, ?_, trivial⟩
      · skip
        refine br rfl (s_append (id := 5) rfl rfl rfl (nb hn rfl) elt24 trivial rfl rfl rfl (by simp [chunk]; omega) (by simp [chunk]; omega) (fun b hb => (fun e => hne5_3 _ hb (congrArg some e.symm)))) fun v8 => ?_
        refine d2_of_d1 ?_
        refine d1_of_d2 ?_
        refine d2_one (i := 5) (by kernel_rfl) rfl (s_buildSlice rfl rfl rfl (nb hn rfl) Try.underlying24 sz59 zr59 rfl rfl rfl (show _ = [.d (.int .i64 0), .d (.int .i64 0), .d (.int .i64 0)] from by kernel_rfl) (by kernel_rfl) rfl (fill_agg (by kernel_rfl) rfl) (allD_d _) (beq_len rfl) (chunk_one rfl)) fun _ => ?_
        refine d2_of_d1 ?_
        refine d1_of_d2 ?_
        refine g_ne_d2 (i := 5) (j := 3) rfl rfl rfl (fun hne5_3 => ?_)
        refine d2_one (i := 6) (by kernel_rfl) rfl (s_append (id := 5) rfl rfl rfl (nb hn rfl) elt24 trivial rfl rfl rfl (by simp [chunk]; omega) (by simp [chunk]; omega) (fun b hb => (fun e => hne5_3 _ hb (congrArg some e.symm)))) fun v11 => ?_
        refine d2_of_d1 ?_
        refine d1q (i := 7) rfl (by kernel_rfl) (fun _ _ _ _ h => h) rfl rfl hn rfl (q_fieldAddr rfl rfl Try.underlying26 rfl sz24) ?_
        refine d1_of_d2 ?_
        refine gh_d2 (g_row (t := 11) (id := 5) rfl rfl) ?_
        refine g_ne_d2 (i := 2) (j := 3) rfl rfl rfl (fun hne2_3 => ?_)
        refine d2_one (i := 8) (by kernel_rfl) rfl (s_store1 rfl rfl rfl rfl rfl rfl (id := 2) rfl sz24 (Nat.le_of_ble_eq_true rfl) rfl (fun e => hne2_3 _ rfl (congrArg some e.symm))) fun _ => ?_
        refine d2_of_d1 ?_
        refine d1_of_d2 ?_
        refine d2_done (by kernel_rfl) ?_
        refine aend_then ?_
        refine awp_seq ?_
        refine awp_region ?_
        refine sq rfl rfl hn rfl (q_loadAd rfl rfl (id := 2) rfl Try.underlying26 rfl sz26 rfl rfl sees0) ?_
        refine stepW (s_store rfl rfl rfl rfl rfl rfl (id := 4) rfl sz26 rfl (Nat.le_of_ble_eq_true rfl) rfl trivial) fun _ => ?_
        refine run_nil ?_
        refine aend_then ?_
        refine awp_ret ?_
        refine ret_eq (ret_1 (.inl rfl) hl rfl (.cellA rfl (id := 4) rfl Try.underlying26 rfl sz26 rfl rfl)) ?_
        simp [seeingR, chunk]
      · skip
        refine br rfl (s_buildSlice rfl rfl rfl (nb hn rfl) Try.underlying24 sz59 zr59 rfl rfl rfl (show _ = [.d (.int .i64 0), .d (.int .i64 0), .d (.int .i64 0)] from by kernel_rfl) (by kernel_rfl) rfl (fill_agg (by kernel_rfl) rfl) (allD_d _) (beq_len rfl) (chunk_one rfl)) fun _ => ?_
        refine d2_of_d1 ?_
        refine d1_of_d2 ?_
        refine g_ne_d2 (i := 5) (j := 3) rfl rfl rfl (fun hne5_3 => ?_)
        refine d2_one (i := 3) (by kernel_rfl) rfl (s_append (id := 5) rfl rfl rfl (nb hn rfl) elt24 trivial rfl rfl rfl (by simp [chunk]; omega) (by simp [chunk]; omega) (fun b hb => (fun e => hne5_3 _ hb (congrArg some e.symm)))) fun v8 => ?_
        refine d2_of_d1 ?_
        refine d1_of_d2 ?_
        refine g_ne_d2 (i := 5) (j := 3) rfl rfl rfl (fun hne5_3 => ?_)
        refine d2_one (i := 6) (by kernel_rfl) rfl (s_append (id := 5) rfl rfl rfl (nb hn rfl) elt24 trivial rfl rfl rfl (by simp [chunk]; omega) (by simp [chunk]; omega) (fun b hb => (fun e => hne5_3 _ hb (congrArg some e.symm)))) fun v11 => ?_
        refine d2_of_d1 ?_
        refine d1q (i := 7) rfl (by kernel_rfl) (fun _ _ _ _ h => h) rfl rfl hn rfl (q_fieldAddr rfl rfl Try.underlying26 rfl sz24) ?_
        refine d1_of_d2 ?_
        refine gh_d2 (g_row (t := 11) (id := 5) rfl rfl) ?_
        refine g_ne_d2 (i := 2) (j := 3) rfl rfl rfl (fun hne2_3 => ?_)
        refine d2_one (i := 8) (by kernel_rfl) rfl (s_store1 rfl rfl rfl rfl rfl rfl (id := 2) rfl sz24 (Nat.le_of_ble_eq_true rfl) rfl (fun e => hne2_3 _ rfl (congrArg some e.symm))) fun _ => ?_
        refine d2_of_d1 ?_
        refine d1_of_d2 ?_
        refine d2_done (by kernel_rfl) ?_
        refine aend_then ?_
        refine awp_seq ?_
        refine awp_region ?_
        refine sq rfl rfl hn rfl (q_loadAd rfl rfl (id := 2) rfl Try.underlying26 rfl sz26 rfl rfl sees0) ?_
        refine stepW (s_store rfl rfl rfl rfl rfl rfl (id := 4) rfl sz26 rfl (Nat.le_of_ble_eq_true rfl) rfl trivial) fun _ => ?_
        refine run_nil ?_
        refine aend_then ?_
        refine awp_ret ?_
        refine ret_eq (ret_1 (.inl rfl) hl rfl (.cellA rfl (id := 4) rfl Try.underlying26 rfl sz26 rfl rfl)) ?_
        simp [seeingR, chunk]
    · skip
      refine br rfl (s_buildSlice rfl rfl rfl (nb hn rfl) Try.underlying24 sz59 zr59 rfl rfl rfl (show _ = [.d (.int .i64 0), .d (.int .i64 0), .d (.int .i64 0)] from by kernel_rfl) (by kernel_rfl) rfl (fill_agg (by kernel_rfl) rfl) (allD_d _) (beq_len rfl) (chunk_one rfl)) fun _ => ?_
      refine d2_of_d1 ?_
      refine d1_of_d2 ?_
      refine d2_one (i := 2) (by kernel_rfl) rfl (quiet_wg _ [] (guard_none rfl) rfl (nb hn rfl) (fun _ => trivial) (fun _ => q_load rfl rfl (id := 2) rfl Try.underlying24 rfl rfl sees0)) fun _ => ?_
      refine d2_of_d1 ?_
      refine d1_of_d2 ?_
      refine g_ne_d2 (i := 5) (j := 3) rfl rfl rfl (fun hne5_3 => ?_)
      refine d2_one (i := 3) (by kernel_rfl) rfl (s_append (id := 5) rfl rfl rfl (nb hn rfl) elt24 trivial rfl rfl rfl (by simp [chunk]; omega) (by simp [chunk]; omega) (fun b hb => (fun e => hne5_3 _ hb (congrArg some e.symm)))) fun v8 => ?_
      refine d2_of_d1 ?_
      refine d1_of_d2 ?_
      refine g_ne_d2 (i := 5) (j := 3) rfl rfl rfl (fun hne5_3 => ?_)
      refine d2_one (i := 6) (by kernel_rfl) rfl (s_append (id := 5) rfl rfl rfl (nb hn rfl) elt24 trivial rfl rfl rfl (by simp [chunk]; omega) (by simp [chunk]; omega) (fun b hb => (fun e => hne5_3 _ hb (congrArg some e.symm)))) fun v11 => ?_
      refine d2_of_d1 ?_
      refine d1q (i := 7) rfl (by kernel_rfl) (fun _ _ _ _ h => h) rfl rfl hn rfl (q_fieldAddr rfl rfl Try.underlying26 rfl sz24) ?_
      refine d1_of_d2 ?_
      refine gh_d2 (g_row (t := 11) (id := 5) rfl rfl) ?_
      refine g_ne_d2 (i := 2) (j := 3) rfl rfl rfl (fun hne2_3 => ?_)
      refine d2_one (i := 8) (by kernel_rfl) rfl (s_store1 rfl rfl rfl rfl rfl rfl (id := 2) rfl sz24 (Nat.le_of_ble_eq_true rfl) rfl (fun e => hne2_3 _ rfl (congrArg some e.symm))) fun _ => ?_
      refine d2_of_d1 ?_
      refine d1_of_d2 ?_
      refine d2_done (by kernel_rfl) ?_
      refine aend_then ?_
      refine awp_seq ?_
      refine awp_region ?_
      refine sq rfl rfl hn rfl (q_loadAd rfl rfl (id := 2) rfl Try.underlying26 rfl sz26 rfl rfl sees0) ?_
      refine stepW (s_store rfl rfl rfl rfl rfl rfl (id := 4) rfl sz26 rfl (Nat.le_of_ble_eq_true rfl) rfl trivial) fun _ => ?_
      refine run_nil ?_
      refine aend_then ?_
      refine awp_ret ?_
      refine ret_eq (ret_1 (.inl rfl) hl rfl (.cellA rfl (id := 4) rfl Try.underlying26 rfl sz26 rfl rfl)) ?_
      simp [seeingR, chunk]
  · skip
    refine br rfl (quiet_wg _ [] (guard_none rfl) rfl (nb hn rfl) (fun _ => trivial) (fun _ => q_load rfl rfl (id := 2) rfl Try.underlying24 rfl rfl sees0)) fun _ => ?_
    refine d2_of_d1 ?_
    refine d1_of_d2 ?_
    refine d2_all 0 [5] (by kernel_rfl) ⟨?_, ?_, trivial⟩
    · skip
      refine br rfl (s_buildRow 5 rfl rfl rfl (nb hn rfl) Try.underlying24 sz59 zr59 rfl rfl rfl (show _ = [] from by kernel_rfl) (by kernel_rfl) rfl rfl (show allD _ = some [] from by kernel_rfl) rfl rfl) fun v5 => ?_
      refine d2_of_d1 ?_
      refine d1_of_d2 ?_
      refine g_ne_d2 (i := 5) (j := 3) rfl rfl rfl (fun hne5_3 => ?_)
      refine d2_all 3 [5] (by kernel_rfl) ⟨?_, ?_, trivial⟩
      · skip
        refine br rfl (s_append (id := 5) rfl rfl rfl (nb hn rfl) elt24 trivial rfl rfl rfl (by simp [chunk]; omega) (by simp [chunk]; omega) (fun b hb => (fun e => hne5_3 _ hb (congrArg some e.symm)))) fun v8 => ?_
        refine d2_of_d1 ?_
        refine d1_of_d2 ?_
        refine d2_one (i := 5) (by kernel_rfl) rfl (s_buildSlice rfl rfl rfl (nb hn rfl) Try.underlying24 sz59 zr59 rfl rfl rfl (show _ = [.d (.int .i64 0), .d (.int .i64 0), .d (.int .i64 0)] from by kernel_rfl) (by kernel_rfl) rfl (fill_agg (by kernel_rfl) rfl) (allD_d _) (beq_len rfl) (chunk_one rfl)) fun _ => ?_
        refine d2_of_d1 ?_
        refine d1_of_d2 ?_
        refine g_ne_d2 (i := 5) (j := 3) rfl rfl rfl (fun hne5_3 => ?_)
        refine d2_one (i := 6) (by kernel_rfl) rfl (s_append (id := 5) rfl rfl rfl (nb hn rfl) elt24 trivial rfl rfl rfl (by simp [chunk]; omega) (by simp [chunk]; omega) (fun b hb => (fun e => hne5_3 _ hb (congrArg some e.symm)))) fun v11 => ?_
        refine d2_of_d1 ?_
        refine d1q (i := 7) rfl (by kernel_rfl) (fun _ _ _ _ h => h) rfl rfl hn rfl (q_fieldAddr rfl rfl Try.underlying26 rfl sz24) ?_
        refine d1_of_d2 ?_
        refine gh_d2 (g_row (t := 11) (id := 5) rfl rfl) ?_
        refine g_ne_d2 (i := 2) (j := 3) rfl rfl rfl (fun hne2_3 => ?_)
        refine d2_one (i := 8) (by kernel_rfl) rfl (s_store1 rfl rfl rfl rfl rfl rfl (id := 2) rfl sz24 (Nat.le_of_ble_eq_true rfl) rfl (fun e => hne2_3 _ rfl (congrArg some e.symm))) fun _ => ?_
        refine d2_of_d1 ?_
        refine d1_of_d2 ?_
        refine d2_done (by kernel_rfl) ?_
        refine aend_then ?_
        refine awp_seq ?_
        refine awp_region ?_
        refine sq rfl rfl hn rfl (q_loadAd rfl rfl (id := 2) rfl Try.underlying26 rfl sz26 rfl rfl sees0) ?_
        refine stepW (s_store rfl rfl rfl rfl rfl rfl (id := 4) rfl sz26 rfl (Nat.le_of_ble_eq_true rfl) rfl trivial) fun _ => ?_
        refine run_nil ?_
        refine aend_then ?_
        refine awp_ret ?_
        refine ret_eq (ret_1 (.inl rfl) hl rfl (.cellA rfl (id := 4) rfl Try.underlying26 rfl sz26 rfl rfl)) ?_
        simp [seeingR, chunk]
      · skip
        refine br rfl (s_buildSlice rfl rfl rfl (nb hn rfl) Try.underlying24 sz59 zr59 rfl rfl rfl (show _ = [.d (.int .i64 0), .d (.int .i64 0), .d (.int .i64 0)] from by kernel_rfl) (by kernel_rfl) rfl (fill_agg (by kernel_rfl) rfl) (allD_d _) (beq_len rfl) (chunk_one rfl)) fun _ => ?_
        refine d2_of_d1 ?_
        refine d1_of_d2 ?_
        refine g_ne_d2 (i := 5) (j := 3) rfl rfl rfl (fun hne5_3 => ?_)
        refine d2_one (i := 3) (by kernel_rfl) rfl (s_append (id := 5) rfl rfl rfl (nb hn rfl) elt24 trivial rfl rfl rfl (by simp [chunk]; omega) (by simp [chunk]; omega) (fun b hb => (fun e => hne5_3 _ hb (congrArg some e.symm)))) fun v8 => ?_
        refine d2_of_d1 ?_
        refine d1_of_d2 ?_
        refine g_ne_d2 (i := 5) (j := 3) rfl rfl rfl (fun hne5_3 => ?_)
        refine d2_one (i := 6) (by kernel_rfl) rfl (s_append (id := 5) rfl rfl rfl (nb hn rfl) elt24 trivial rfl rfl rfl (by simp [chunk]; omega) (by simp [chunk]; omega) (fun b hb => (fun e => hne5_3 _ hb (congrArg some e.symm)))) fun v11 => ?_
        refine d2_of_d1 ?_
        refine d1q (i := 7) rfl (by kernel_rfl) (fun _ _ _ _ h => h) rfl rfl hn rfl (q_fieldAddr rfl rfl Try.underlying26 rfl sz24) ?_
        refine d1_of_d2 ?_
        refine gh_d2 (g_row (t := 11) (id := 5) rfl rfl) ?_
        refine g_ne_d2 (i := 2) (j := 3) rfl rfl rfl (fun hne2_3 => ?_)
        refine d2_one (i := 8) (by kernel_rfl) rfl (s_store1 rfl rfl rfl rfl rfl rfl (id := 2) rfl sz24 (Nat.le_of_ble_eq_true rfl) rfl (fun e => hne2_3 _ rfl (congrArg some e.symm))) fun _ => ?_
        refine d2_of_d1 ?_
        refine d1_of_d2 ?_
        refine d2_done (by kernel_rfl) ?_
        refine aend_then ?_
        refine awp_seq ?_
        refine awp_region ?_
        refine sq rfl rfl hn rfl (q_loadAd rfl rfl (id := 2) rfl Try.underlying26 rfl sz26 rfl rfl sees0) ?_
        refine stepW (s_store rfl rfl rfl rfl rfl rfl (id := 4) rfl sz26 rfl (Nat.le_of_ble_eq_true rfl) rfl trivial) fun _ => ?_
        refine run_nil ?_
        refine aend_then ?_
        refine awp_ret ?_
        refine ret_eq (ret_1 (.inl rfl) hl rfl (.cellA rfl (id := 4) rfl Try.underlying26 rfl sz26 rfl rfl)) ?_
        simp [seeingR, chunk]
    · skip
      refine br rfl (s_buildSlice rfl rfl rfl (nb hn rfl) Try.underlying24 sz59 zr59 rfl rfl rfl (show _ = [.d (.int .i64 0), .d (.int .i64 0), .d (.int .i64 0)] from by kernel_rfl) (by kernel_rfl) rfl (fill_agg (by kernel_rfl) rfl) (allD_d _) (beq_len rfl) (chunk_one rfl)) fun _ => ?_
      refine d2_of_d1 ?_
      refine d1_of_d2 ?_
      refine d2_one (i := 0) (by kernel_rfl) rfl (s_buildRow 5 rfl rfl rfl (nb hn rfl) Try.underlying24 sz59 zr59 rfl rfl rfl (show _ = [] from by kernel_rfl) (by kernel_rfl) rfl rfl (show allD _ = some [] from by kernel_rfl) rfl rfl) fun v5 => ?_
      refine d2_of_d1 ?_
      refine d1_of_d2 ?_
      refine g_ne_d2 (i := 5) (j := 3) rfl rfl rfl (fun hne5_3 => ?_)
      refine d2_one (i := 3) (by kernel_rfl) rfl (s_append (id := 5) rfl rfl rfl (nb hn rfl) elt24 trivial rfl rfl rfl (by simp [chunk]; omega) (by simp [chunk]; omega) (fun b hb => (fun e => hne5_3 _ hb (congrArg some e.symm)))) fun v8 => ?_
      refine d2_of_d1 ?_
      refine d1_of_d2 ?_
      refine g_ne_d2 (i := 5) (j := 3) rfl rfl rfl (fun hne5_3 => ?_)
      refine d2_one (i := 6) (by kernel_rfl) rfl (s_append (id := 5) rfl rfl rfl (nb hn rfl) elt24 trivial rfl rfl rfl (by simp [chunk]; omega) (by simp [chunk]; omega) (fun b hb => (fun e => hne5_3 _ hb (congrArg some e.symm)))) fun v11 => ?_
      refine d2_of_d1 ?_
      refine d1q (i := 7) rfl (by kernel_rfl) (fun _ _ _ _ h => h) rfl rfl hn rfl (q_fieldAddr rfl rfl Try.underlying26 rfl sz24) ?_
      refine d1_of_d2 ?_
      refine gh_d2 (g_row (t := 11) (id := 5) rfl rfl) ?_
      refine g_ne_d2 (i := 2) (j := 3) rfl rfl rfl (fun hne2_3 => ?_)
      refine d2_one (i := 8) (by kernel_rfl) rfl (s_store1 rfl rfl rfl rfl rfl rfl (id := 2) rfl sz24 (Nat.le_of_ble_eq_true rfl) rfl (fun e => hne2_3 _ rfl (congrArg some e.symm))) fun _ => ?_
      refine d2_of_d1 ?_
      refine d1_of_d2 ?_
      refine d2_done (by kernel_rfl) ?_
      refine aend_then ?_
      refine awp_seq ?_
      refine awp_region ?_
      refine sq rfl rfl hn rfl (q_loadAd rfl rfl (id := 2) rfl Try.underlying26 rfl sz26 rfl rfl sees0) ?_
      refine stepW (s_store rfl rfl rfl rfl rfl rfl (id := 4) rfl sz26 rfl (Nat.le_of_ble_eq_true rfl) rfl trivial) fun _ => ?_
      refine run_nil ?_
      refine aend_then ?_
      refine awp_ret ?_
      refine ret_eq (ret_1 (.inl rfl) hl rfl (.cellA rfl (id := 4) rfl Try.underlying26 rfl sz26 rfl rfl)) ?_
      simp [seeingR, chunk]
  · skip
    refine br rfl (s_buildSlice rfl rfl rfl (nb hn rfl) Try.underlying24 sz59 zr59 rfl rfl rfl (show _ = [.d (.int .i64 0), .d (.int .i64 0), .d (.int .i64 0)] from by kernel_rfl) (by kernel_rfl) rfl (fill_agg (by kernel_rfl) rfl) (allD_d _) (beq_len rfl) (chunk_one rfl)) fun _ => ?_
    refine d2_of_d1 ?_
    refine d1_of_d2 ?_
    refine d2_all 0 [2] (by kernel_rfl) ⟨?_, ?_, trivial⟩
    · skip
      refine br rfl (s_buildRow 5 rfl rfl rfl (nb hn rfl) Try.underlying24 sz59 zr59 rfl rfl rfl (show _ = [] from by kernel_rfl) (by kernel_rfl) rfl rfl (show allD _ = some [] from by kernel_rfl) rfl rfl) fun v5 => ?_
      refine d2_of_d1 ?_
      refine d1_of_d2 ?_
      refine d2_one (i := 2) (by kernel_rfl) rfl (quiet_wg _ [] (guard_none rfl) rfl (nb hn rfl) (fun _ => trivial) (fun _ => q_load rfl rfl (id := 2) rfl Try.underlying24 rfl rfl sees0)) fun _ => ?_
      refine d2_of_d1 ?_
      refine d1_of_d2 ?_
      refine g_ne_d2 (i := 5) (j := 3) rfl rfl rfl (fun hne5_3 => ?_)
      refine d2_one (i := 3) (by kernel_rfl) rfl (s_append (id := 5) rfl rfl rfl (nb hn rfl) elt24 trivial rfl rfl rfl (by simp [chunk]; omega) (by simp [chunk]; omega) (fun b hb => (fun e => hne5_3 _ hb (congrArg some e.symm)))) fun v8 => ?_
      refine d2_of_d1 ?_
      refine d1_of_d2 ?_
      refine g_ne_d2 (i := 5) (j := 3) rfl rfl rfl (fun hne5_3 => ?_)
      refine d2_one (i := 6) (by kernel_rfl) rfl (s_append (id := 5) rfl rfl rfl (nb hn rfl) elt24 trivial rfl rfl rfl (by simp [chunk]; omega) (by simp [chunk]; omega) (fun b hb => (fun e => hne5_3 _ hb (congrArg some e.symm)))) fun v11 => ?_
      refine d2_of_d1 ?_
      refine d1q (i := 7) rfl (by kernel_rfl) (fun _ _ _ _ h => h) rfl rfl hn rfl (q_fieldAddr rfl rfl Try.underlying26 rfl sz24) ?_
      refine d1_of_d2 ?_
      refine gh_d2 (g_row (t := 11) (id := 5) rfl rfl) ?_
      refine g_ne_d2 (i := 2) (j := 3) rfl rfl rfl (fun hne2_3 => ?_)
      refine d2_one (i := 8) (by kernel_rfl) rfl (s_store1 rfl rfl rfl rfl rfl rfl (id := 2) rfl sz24 (Nat.le_of_ble_eq_true rfl) rfl (fun e => hne2_3 _ rfl (congrArg some e.symm))) fun _ => ?_
      refine d2_of_d1 ?_
      refine d1_of_d2 ?_
      refine d2_done (by kernel_rfl) ?_
      refine aend_then ?_
      refine awp_seq ?_
      refine awp_region ?_
      refine sq rfl rfl hn rfl (q_loadAd rfl rfl (id := 2) rfl Try.underlying26 rfl sz26 rfl rfl sees0) ?_
      refine stepW (s_store rfl rfl rfl rfl rfl rfl (id := 4) rfl sz26 rfl (Nat.le_of_ble_eq_true rfl) rfl trivial) fun _ => ?_
      refine run_nil ?_
      refine aend_then ?_
      refine awp_ret ?_
      refine ret_eq (ret_1 (.inl rfl) hl rfl (.cellA rfl (id := 4) rfl Try.underlying26 rfl sz26 rfl rfl)) ?_
      simp [seeingR, chunk]
    · skip
      refine br rfl (quiet_wg _ [] (guard_none rfl) rfl (nb hn rfl) (fun _ => trivial) (fun _ => q_load rfl rfl (id := 2) rfl Try.underlying24 rfl rfl sees0)) fun _ => ?_
      refine d2_of_d1 ?_
      refine d1_of_d2 ?_
      refine d2_one (i := 0) (by kernel_rfl) rfl (s_buildRow 5 rfl rfl rfl (nb hn rfl) Try.underlying24 sz59 zr59 rfl rfl rfl (show _ = [] from by kernel_rfl) (by kernel_rfl) rfl rfl (show allD _ = some [] from by kernel_rfl) rfl rfl) fun v5 => ?_
      refine d2_of_d1 ?_
      refine d1_of_d2 ?_
      refine g_ne_d2 (i := 5) (j := 3) rfl rfl rfl (fun hne5_3 => ?_)
      refine d2_one (i := 3) (by kernel_rfl) rfl (s_append (id := 5) rfl rfl rfl (nb hn rfl) elt24 trivial rfl rfl rfl (by simp [chunk]; omega) (by simp [chunk]; omega) (fun b hb => (fun e => hne5_3 _ hb (congrArg some e.symm)))) fun v8 => ?_
      refine d2_of_d1 ?_
      refine d1_of_d2 ?_
      refine g_ne_d2 (i := 5) (j := 3) rfl rfl rfl (fun hne5_3 => ?_)
      refine d2_one (i := 6) (by kernel_rfl) rfl (s_append (id := 5) rfl rfl rfl (nb hn rfl) elt24 trivial rfl rfl rfl (by simp [chunk]; omega) (by simp [chunk]; omega) (fun b hb => (fun e => hne5_3 _ hb (congrArg some e.symm)))) fun v11 => ?_
      refine d2_of_d1 ?_
      refine d1q (i := 7) rfl (by kernel_rfl) (fun _ _ _ _ h => h) rfl rfl hn rfl (q_fieldAddr rfl rfl Try.underlying26 rfl sz24) ?_
      refine d1_of_d2 ?_
      refine gh_d2 (g_row (t := 11) (id := 5) rfl rfl) ?_
      refine g_ne_d2 (i := 2) (j := 3) rfl rfl rfl (fun hne2_3 => ?_)
      refine d2_one (i := 8) (by kernel_rfl) rfl (s_store1 rfl rfl rfl rfl rfl rfl (id := 2) rfl sz24 (Nat.le_of_ble_eq_true rfl) rfl (fun e => hne2_3 _ rfl (congrArg some e.symm))) fun _ => ?_
      refine d2_of_d1 ?_
      refine d1_of_d2 ?_
      refine d2_done (by kernel_rfl) ?_
      refine aend_then ?_
      refine awp_seq ?_
      refine awp_region ?_
      refine sq rfl rfl hn rfl (q_loadAd rfl rfl (id := 2) rfl Try.underlying26 rfl sz26 rfl rfl sees0) ?_
      refine stepW (s_store rfl rfl rfl rfl rfl rfl (id := 4) rfl sz26 rfl (Nat.le_of_ble_eq_true rfl) rfl trivial) fun _ => ?_
      refine run_nil ?_
      refine aend_then ?_
      refine awp_ret ?_
      refine ret_eq (ret_1 (.inl rfl) hl rfl (.cellA rfl (id := 4) rfl Try.underlying26 rfl sz26 rfl rfl)) ?_
      simp [seeingR, chunk]
end Go.Proofs.Ytnbmmopjkkofoaa
namespace Go.Proofs.Ytnbmmopjkkofoaa
open Go.RowKit
set_option maxRecDepth 20000
set_option linter.all false
theorem Pt.set {α : Type} {R : α → α → Prop} (hr : ∀ a, R a a) : ∀ {l : List α} {i : Nat} {a b : α}, l[i]? = some a → R a b → Pt R l (l.set i b)
  | [], _, _, _, h, _ => by simp at h
  | x :: l, 0, a, b, h, hab => by
    simp only [List.getElem?_cons_zero, Option.some.injEq] at h
    subst h
    exact ⟨hab, Pt.refl hr l⟩
  | x :: l, i + 1, a, b, h, hab => ⟨hr x, Pt.set hr (i := i) (by simpa using h) hab⟩
theorem vec0 (b sz : Nat) : VecV (.slice (some ⟨b, 0, none⟩) 0 0) sz [] := .inr ⟨b, 0, 0, rfl, Nat.le_refl _, Nat.zero_le _, by simp⟩
theorem quoN {a b : Nat} (ha : a ≤ 9223372036854775807) (hb : 0 < b) : IntKind.i64.wrap ((a : Int).tdiv (b : Int)) = ((a / b : Nat) : Int) := by
  rw [Int.tdiv_eq_ediv_of_nonneg (by omega)]
  have : ((a : Int) / (b : Int)) = ((a / b : Nat) : Int) := by simp
  rw [this]
  have h := Nat.div_le_self a b
  generalize a / b = c at *
  exact i64w (by omega) rfl
end Go.Proofs.Ytnbmmopjkkofoaa
namespace Go.Proofs.Ytnbmmopjkkofoaa
set_option linter.all false
/-- Entries happen one after the other. -/
def seqStep : List Ent5 → RSt → Option RSt
  | [], st => some st
  | e :: es, st => match refStep e st with
    | none => none
    | some st' => seqStep es st'
theorem seqStep_append : ∀ {a b : List Ent5} {st : RSt}, seqStep (a ++ b) st = (seqStep a st).bind (seqStep b)
  | [], b, st => rfl
  | e :: a, b, st => by
    simp only [List.cons_append, seqStep]
    cases refStep e st with
    | none => rfl
    | some st' => exact seqStep_append
def geF (n : Int) : List Ent5 → List Int → List Ent5
  | e :: es, t :: ts => if n ≤ t then e :: geF n es ts else geF n es ts
  | _, _ => []
def eqF (n : Int) : List Ent5 → List Int → List Ent5
  | e :: es, t :: ts => if t = n then e :: eqF n es ts else eqF n es ts
  | _, _ => []
theorem refDay_eq {day : Int} : ∀ {es : List Ent5} {ts : List Int} {st : RSt}, ts.length = es.length → refDayF day es ts st = seqStep (eqF day es ts) st
  | [], _, _, _ => rfl
  | _ :: _, [], _, h => by simp at h
  | e :: es, t :: ts, st, h => by
    simp only [refDayF, eqF]
    by_cases ht : t = day
    · have : (t != day) = false := by simpa using ht
      rw [this, if_pos ht]
      simp only [cond_false, seqStep]
      cases refStep e st with
      | none => rfl
      | some st' => exact refDay_eq (by simpa using h)
    · have : (t != day) = true := by simpa using ht
      rw [this, if_neg ht]
      exact refDay_eq (by simpa using h)
theorem geF_all {n : Int} : ∀ {es : List Ent5} {ts : List Int}, ts.length = es.length → (∀ t ∈ ts, n ≤ t) → geF n es ts = es
  | [], ts, _, _ => by cases ts <;> rfl
  | _ :: _, [], h, _ => by simp at h
  | e :: es, t :: ts, hl, h => by
    simp only [geF]
    rw [if_pos (h t List.mem_cons_self), geF_all (by simpa using hl) fun x hx => h x (List.mem_cons_of_mem _ hx)]
theorem eqF_none {n : Int} : ∀ {es : List Ent5} {ts : List Int}, (∀ t ∈ ts, n < t) → eqF n es ts = []
  | [], ts, _ => by cases ts <;> rfl
  | _ :: _, [], _ => rfl
  | e :: es, t :: ts, h => by
    have := h t List.mem_cons_self
    simp only [eqF]
    rw [if_neg (by omega)]
    exact eqF_none fun x hx => h x (List.mem_cons_of_mem _ hx)
theorem geF_split {n : Int} : ∀ {es : List Ent5} {ts : List Int}, ts.Pairwise (· ≤ ·) → geF n es ts = eqF n es ts ++ geF (n + 1) es ts
  | [], ts, _ => by cases ts <;> rfl
  | _ :: _, [], _ => rfl
  | e :: es, t :: ts, h => by
    rw [List.pairwise_cons] at h
    have ih := geF_split (n := n) (es := es) h.2
    simp only [geF, eqF]
    by_cases h1 : t = n
    · rw [if_pos (by omega), if_pos h1, if_neg (by omega), ih]; rfl
    · by_cases h2 : n ≤ t
      · rw [if_pos h2, if_neg h1, if_pos (by omega), ih, eqF_none fun x hx => by have := h.1 x hx; omega]; rfl
      · rw [if_neg h2, if_neg h1, if_neg (by omega), ih]
theorem seq_play {r : Reg} {t : List Int} (hl : t.length = r.entries.length) (hs : t.Pairwise (· ≤ ·)) : ∀ (cnt n : Nat) (out : List Int) (st : RSt), (∃ st', seqStep (geF (n : Int) r.entries t) st = some st') → (refPlayF r t cnt n out st).2 = true
  | 0, _, _, _, _ => rfl
  | cnt + 1, n, out, st, ⟨st', h⟩ => by
    rw [geF_split hs, seqStep_append, ← refDay_eq hl] at h
    simp only [refPlayF]
    cases hd : refDayF (n : Int) r.entries t st with
    | none => rw [hd] at h; cases h
    | some st1 =>
      rw [hd] at h
      exact seq_play hl hs cnt (n + 1) _ _ ⟨st', by rw [show ((n + 1 : Nat) : Int) = (n : Int) + 1 by omega]; exact h⟩
/-- What has truly happened so far. -/
structure Hap (houses : Int) (start : List Int) (k day : Nat) (now open_ : List Int) (es : List Ent5) (ts : List Int) : Prop where
  nl : now.length = start.length
  ol : open_.length = 16
  el : es.length ≤ k
  tl : ts.length = es.length
  so : ts.Pairwise (· ≤ ·)
  td : ∀ t ∈ ts, 0 ≤ t ∧ t ≤ (day : Int) ∧ t ≤ 9
  da : datedF es ts = true
  en : ∀ e ∈ es, 0 ≤ e.kind ∧ e.kind ≤ 2 ∧ 0 ≤ e.sheet ∧ e.sheet ≤ (start.length : Int) - 1 ∧ 0 ≤ e.frm ∧ e.frm ≤ houses - 1 ∧ 0 ≤ e.to ∧ e.to ≤ houses - 1 ∧ e.frm ≠ e.to ∧ 0 ≤ e.lo ∧ e.lo ≤ e.hi ∧ e.hi ≤ 9
  nb : ∀ h ∈ now, 0 ≤ h ∧ h ≤ houses - 1
  ob : ∀ z ∈ open_, -(k : Int) ≤ z ∧ z ≤ (k : Int)
  st : seqStep es (start ++ List.replicate (4 - start.length) 0, List.replicate 16 0) = some (now ++ List.replicate (4 - start.length) 0, open_)
theorem dated_append : ∀ {es : List Ent5} {ts : List Int} {e : Ent5} {t : Int}, datedF es ts = true → e.lo ≤ t → t ≤ e.hi → datedF (es ++ [e]) (ts ++ [t]) = true
  | [], [], e, t, _, h1, h2 => by simp [datedF, h1, h2]
  | [], _ :: _, _, _, h, _, _ => by simp [datedF] at h
  | _ :: _, [], _, _, h, _, _ => by simp [datedF] at h
  | e :: es, t :: ts, e', t', h, h1, h2 => by
    simp only [datedF, Bool.and_eq_true, List.cons_append] at h ⊢
    exact ⟨h.1, dated_append h.2 h1 h2⟩
theorem Hap.start {houses : Int} {st : List Int} (h : ∀ x ∈ st, 0 ≤ x ∧ x ≤ houses - 1) : Hap houses st 0 0 st (List.replicate 16 0) [] [] :=
  ⟨rfl, by simp, Nat.le_refl _, rfl, List.Pairwise.nil, fun _ h => (by cases h), rfl, fun _ h => (by cases h), h, fun z hz => (by rw [List.eq_of_mem_replicate hz]; simp), rfl⟩
theorem Hap.idle {houses : Int} {st now open_ : List Int} {k day day' : Nat} {es : List Ent5} {ts : List Int} (h : Hap houses st k day now open_ es ts) (hd : day ≤ day') : Hap houses st k day' now open_ es ts :=
  { h with td := fun t ht => by have := h.td t ht; omega }
theorem Hap.more {houses : Int} {st now open_ : List Int} {k k' day : Nat} {es : List Ent5} {ts : List Int} (h : Hap houses st k day now open_ es ts) (hk : k ≤ k') : Hap houses st k' day now open_ es ts :=
  { h with el := Nat.le_trans h.el hk, ob := fun z hz => by have := h.ob z hz; omega }
theorem mem_upd {l : List Int} {i : Nat} {x z : Int} (h : z ∈ upd l i x) : z ∈ l ∨ ∃ y, (y ∈ l ∨ y = 0) ∧ z = y + x := by
  unfold upd at h
  rcases List.mem_or_eq_of_mem_set h with h | h
  · exact .inl h
  · refine .inr ⟨l.getD i 0, ?_, h⟩
    by_cases hi : i < l.length
    · left
      rw [List.getD_eq_getElem?_getD, List.getElem?_eq_getElem hi]
      exact List.getElem_mem hi
    · right
      exact getD_ge (by omega)
theorem Hap.step {houses : Int} {st now open_ open2 : List Int} {k day : Nat} {es : List Ent5} {ts : List Int} {kind to lo hi : Int} {s : Nat} (h : Hap houses st k day now open_ es ts) (hd : day ≤ 9) (hs : s < st.length) (h4 : st.length ≤ 4)
    (hto : 0 ≤ to ∧ to ≤ houses - 1) (hne : now.getD s 0 ≠ to) (hlo : 0 ≤ lo ∧ lo ≤ (day : Int)) (hhi : (day : Int) ≤ hi ∧ hi ≤ 9)
    (hk : (kind = 2 ∧ 0 < open_.getD (to.toNat * 4 + (now.getD s 0).toNat) 0 ∧ open2 = upd open_ (to.toNat * 4 + (now.getD s 0).toNat) (-1)) ∨ (kind = 1 ∧ open2 = upd open_ ((now.getD s 0).toNat * 4 + to.toNat) 1) ∨ (kind = 0 ∧ open2 = open_)) :
    Hap houses st (k + 1) day (now.set s to) open2 (es ++ [⟨kind, (s : Int), now.getD s 0, to, lo, hi⟩]) (ts ++ [(day : Int)]) := by
  have hfr : 0 ≤ now.getD s 0 ∧ now.getD s 0 ≤ houses - 1 := h.nb _ (getD_mem (by rw [h.nl]; exact hs))
  obtain ⟨h1, h2, h3, h4', h5, h6, h7, h8, h9, h10, h11⟩ := h
  have hn0 : (now ++ List.replicate (4 - st.length) 0).getD s 0 = now.getD s 0 := by
    simp only [List.getD_eq_getElem?_getD]
    rw [List.getElem?_append_left (by omega)]
  have hnd : ∀ z, (now.set s to ++ List.replicate (4 - st.length) z) = (now ++ List.replicate (4 - st.length) z).set s to := fun z => by
    rw [List.set_append_left _ _ (by omega)]
  refine ⟨by simp [h1], ?_, by simp; omega, by simp [h4'], List.pairwise_append.2 ⟨h5, by simp, fun x hx y hy => ?_⟩, fun t ht => ?_, dated_append h7 hlo.2 hhi.1, fun e he => ?_, fun x hx => ?_, fun z hz => ?_, ?_⟩
  · rcases hk with ⟨_, _, rfl⟩ | ⟨_, rfl⟩ | ⟨_, rfl⟩
    · rw [upd_len]; exact h2
    · rw [upd_len]; exact h2
    · exact h2
  · rw [List.mem_singleton] at hy
    subst hy
    exact (h6 x hx).2.1
  · rcases List.mem_append.1 ht with ht | ht
    · exact h6 t ht
    · rw [List.mem_singleton] at ht; omega
  · rcases List.mem_append.1 he with he | he
    · exact h8 e he
    · rw [List.mem_singleton] at he
      subst he
      have hkk : 0 ≤ kind ∧ kind ≤ 2 := by rcases hk with ⟨h, _⟩ | ⟨h, _⟩ | ⟨h, _⟩ <;> omega
      exact ⟨hkk.1, hkk.2, by show (0 : Int) ≤ (s : Int); omega, by show (s : Int) ≤ _; omega, hfr.1, hfr.2, hto.1, hto.2, hne, hlo.1, by show lo ≤ hi; omega, hhi.2⟩
  · rcases List.mem_or_eq_of_mem_set hx with hx | hx
    · exact h9 x hx
    · omega
  · rcases hk with ⟨_, _, rfl⟩ | ⟨_, rfl⟩ | ⟨_, rfl⟩
    · rcases mem_upd hz with hz | ⟨y, hy | hy, rfl⟩
      · have := h10 z hz; omega
      · have := h10 y hy; omega
      · omega
    · rcases mem_upd hz with hz | ⟨y, hy | hy, rfl⟩
      · have := h10 z hz; omega
      · have := h10 y hy; omega
      · omega
    · have := h10 z hz; omega
  · rw [seqStep_append, h11]
    simp only [Option.bind_some, seqStep, refStep, Int.toNat_natCast, hn0, bne_self_eq_false, Bool.false_or]
    rcases hk with ⟨rfl, hp, rfl⟩ | ⟨rfl, rfl⟩ | ⟨rfl, rfl⟩
    · have : decide (open_.getD (to.toNat * 4 + (now.getD s 0).toNat) 0 < 1) = false := by simp only [decide_eq_false_iff_not]; omega
      simp only [this, beq_self_eq_true, Bool.and_false, cond_false, cond_true]
      simp [hnd]
    · simp [hnd]
    · simp [hnd]
def hapReg (houses : Int) (start : List Int) (es : List Ent5) (si : List Sight5) : Reg := ⟨houses, start, es, si⟩
theorem Hap.reg {houses : Int} {st now open_ : List Int} {k day : Nat} {es : List Ent5} {ts : List Int} (h : Hap houses st k day now open_ es ts) (v : Valid ⟨houses, st, [], []⟩) (hk : k ≤ 6) : Valid (hapReg houses st es []) ∧ ∃ ds, Truth (hapReg houses st es []) ts ds ∧ ds.length = 10 ∧ ∀ n, n < 10 → Agrees (hapReg houses st es []) ts (refPlay (hapReg houses st es []) ts).1 n (ds.getD n 0) := by
  have v' : Valid (hapReg houses st es []) := ⟨v.h1, v.h4, v.s1, v.s4, Nat.le_trans h.el hk, Nat.zero_le _, v.st, h.en, fun _ h => by cases h⟩
  refine ⟨v', ?_⟩
  have hp : (refPlay (hapReg houses st es []) ts).2 = true := by
    unfold refPlay
    refine seq_play (r := hapReg houses st es []) h.tl h.so 10 0 _ _ ⟨(now ++ List.replicate (4 - st.length) 0, open_), ?_⟩
    rw [show (hapReg houses st es []).entries = es from rfl, geF_all (es := es) h.tl fun t ht => by have := h.td t ht; omega]
    have hs : startA (hapReg houses st es []) (hapReg houses st es []).start.length = st ++ List.replicate (4 - st.length) 0 := by
      show st.take st.length ++ _ = _
      rw [List.take_length]
      rfl
    rw [hs]
    exact h.st
  rcases play_ref v' h.da with ⟨_, k2⟩ | ⟨ds, k1, k2, _, k4⟩
  · rw [hp] at k2; cases k2
  · refine ⟨ds, ⟨h.da, k1, ?_⟩, k2, k4⟩
    clear k1 k2 k4
    have : ∀ (n : Nat) (ds : List Nat), seenAll (hapReg houses st es []) n ds = true := fun n ds => by
      induction ds generalizing n with
      | nil => rfl
      | cons d ds ih => simp only [seenAll, Bool.and_eq_true]; exact ⟨rfl, ih _⟩
    exact this 0 ds
theorem truth_play {r : Reg} (v : Valid r) {t : List Int} {ds : List Nat} (T : Truth r t ds) : (refPlay r t).2 = true := by
  rcases play_ref v T.dated with ⟨k1, _⟩ | ⟨_, _, _, k3, _⟩
  · rw [T.play] at k1; cases k1
  · exact k3
theorem Hap.stepN {houses : Int} {st now open_ open2 : List Int} {k day f to : Nat} {es : List Ent5} {ts : List Int} {kind lo hi : Int} {s : Nat} (h : Hap houses st k day now open_ es ts) (hd : day ≤ 9) (hs : s < st.length) (h4 : st.length ≤ 4) (hf : now.getD s 0 = (f : Int))
    (hto : (to : Int) ≤ houses - 1) (hne : f ≠ to) (hlo : 0 ≤ lo ∧ lo ≤ (day : Int)) (hhi : (day : Int) ≤ hi ∧ hi ≤ 9)
    (hk : (kind = 2 ∧ 0 < open_.getD (to * 4 + f) 0 ∧ open2 = upd open_ (to * 4 + f) (-1)) ∨ (kind = 1 ∧ open2 = upd open_ (f * 4 + to) 1) ∨ (kind = 0 ∧ open2 = open_)) :
    Hap houses st (k + 1) day (now.set s (to : Int)) open2 (es ++ [⟨kind, (s : Int), (f : Int), (to : Int), lo, hi⟩]) (ts ++ [(day : Int)]) := by
  have := h.step (kind := kind) (to := (to : Int)) (lo := lo) (hi := hi) (open2 := open2) hd hs h4 ⟨by omega, hto⟩ (by rw [hf]; omega) hlo hhi (by rw [hf]; simpa using hk)
  rw [hf] at this
  exact this
theorem rot_ne {f a H : Nat} (hf : f < H) (h2 : 2 ≤ H) : f ≠ (f + 1 + a % (H - 1)) % H ∧ (f + 1 + a % (H - 1)) % H < H := by
  have h1 := Nat.mod_lt a (show 0 < H - 1 by omega)
  generalize a % (H - 1) = q at *
  refine ⟨?_, Nat.mod_lt _ (by omega)⟩
  by_cases h : f + 1 + q < H
  · rw [Nat.mod_eq_of_lt h]; omega
  · rw [Nat.mod_eq_sub_mod (by omega), Nat.mod_eq_of_lt (by omega)]; omega
/-- Sights of what was so. -/
theorem sights_truth {r : Reg} {t : List Int} {ds : List Nat} {si : List Sight5} (v : Valid r) (hr : r.sights = []) (T : Truth r t ds) (hd : ds.length = 10) (ha : ∀ n, n < 10 → Agrees r t (refPlay r t).1 n (ds.getD n 0)) (h4 : si.length ≤ 4)
    (hs : ∀ s ∈ si, (0 ≤ s.sheet ∧ s.sheet ≤ (r.start.length : Int) - 1) ∧ (0 ≤ s.day ∧ s.day ≤ 9) ∧ s.house = houseAt (refPlay r t).1 s.day.toNat s.sheet.toNat) : Valid ⟨r.houses, r.start, r.entries, si⟩ ∧ Truth ⟨r.houses, r.start, r.entries, si⟩ t ds := by
  have hs4 := v.s4
  have hpl : ∀ m, placesA ⟨r.houses, r.start, r.entries, si⟩ m = placesA r m := fun m => rfl
  refine ⟨⟨v.h1, v.h4, v.s1, v.s4, v.e6, h4, v.st, v.en, fun s hs' => ?_⟩, T.dated, ?_, ?_⟩
  · obtain ⟨h1, h2, h3⟩ := hs s hs'
    obtain ⟨q1, _, q3, _⟩ := ha s.day.toNat (by omega)
    have := q3 s.sheet.toNat (by omega)
    rw [← q1 s.sheet.toNat (by omega), ← h3] at this
    exact ⟨h1.1, h1.2, this.1, by show s.house ≤ r.houses - 1; omega, h2.1, h2.2⟩
  · have L : Loose r ⟨r.houses, r.start, r.entries, []⟩ := ⟨rfl, Pt.refl (fun _ => ⟨rfl, rfl, rfl⟩) _, Pt.refl (fun _ => ⟨Int.le_refl _, Int.le_refl _⟩) _, .inl (Pt.refl (R := SameKind) (fun _ => rfl) _), fun _ h => by cases h⟩
    have L2 : Loose ⟨r.houses, r.start, r.entries, si⟩ ⟨r.houses, r.start, r.entries, []⟩ := ⟨rfl, Pt.refl (fun _ => ⟨rfl, rfl, rfl⟩) _, Pt.refl (fun _ => ⟨Int.le_refl _, Int.le_refl _⟩) _, .inl (Pt.refl (R := SameKind) (fun _ => rfl) _), fun _ h => by cases h⟩
    have L3 : Pt SameWay r.entries r.entries := Pt.refl (fun _ => ⟨rfl, rfl, rfl⟩) _
    have key : ∀ (cnt n m : Nat) (ds : List Nat), playF r t cnt n m = some ds → playF ⟨r.houses, r.start, r.entries, si⟩ t cnt n m = some ds := by
      have hd : ∀ (n : Int) (ts : List Int) (k m : Nat), dayF ⟨r.houses, r.start, r.entries, si⟩ n k ts m = dayF r n k ts m := fun n ts => by
        induction ts with
        | nil => intro k m; rfl
        | cons t ts ih =>
          intro k m
          simp only [dayF]
          rw [ih, ih]
          rfl
      intro cnt
      induction cnt with
      | zero => exact fun n m ds h => h
      | succ cnt ih =>
        intro n m ds h
        rw [playF] at h ⊢
        rw [hd]
        split at h
        · cases h
        · rename_i d1 h1
          split at h
          · cases h
          · rename_i ds1 h2
            cases h
            rw [ih _ _ _ h2]
    exact key 10 0 0 ds T.play
  · have key : ∀ (l : List Nat) (n : Nat), (∀ j x, l[j]? = some x → ds[n + j]? = some x) → seenAll ⟨r.houses, r.start, r.entries, si⟩ n l = true := fun l => by
      induction l with
      | nil => intro n _; rfl
      | cons d l ih =>
        intro n h
        simp only [seenAll, Bool.and_eq_true]
        refine ⟨List.all_eq_true.2 fun s hs' => ?_, ih (n + 1) fun j x hj => by rw [show n + 1 + j = n + (j + 1) by omega]; exact h (j + 1) x (by simpa using hj)⟩
        obtain ⟨h1, h2, h3⟩ := hs s hs'
        unfold seenB
        rw [hpl]
        by_cases e : s.day = (n : Int)
        · have hd0 := h 0 d rfl
          rw [Nat.add_zero] at hd0
          obtain ⟨q1, _, q3, _⟩ := ha n (by omega)
          have hg : ds.getD n 0 = d := by rw [List.getD_eq_getElem?_getD, hd0]; rfl
          rw [hg] at q1
          have h5 : (placesA r d).getD s.sheet.toNat 0 = s.house := by
            rw [← q1 s.sheet.toNat (by omega), h3, show s.day.toNat = n by omega]
          show ((s.day != (n : Int)) || ((placesA r d).getD s.sheet.toNat 0 == s.house)) = true
          rw [h5, beq_self_eq_true, Bool.or_true]
        · have : (s.day != (n : Int)) = true := by simpa using e
          rw [this]
          rfl
    exact key ds 0 fun j x hj => by rw [Nat.zero_add]; exact hj
end Go.Proofs.Ytnbmmopjkkofoaa
namespace Go.Proofs.Ytnbmmopjkkofoaa
set_option linter.all false
theorem dated_take : ∀ {es : List Ent5} {ts : List Int} {k : Nat}, datedF es ts = true → datedF (es.take k) (ts.take k) = true
  | _, _, 0, _ => by simp [datedF]
  | [], [], k + 1, _ => rfl
  | [], _ :: _, _ + 1, h => by simp [datedF] at h
  | _ :: _, [], _ + 1, h => by simp [datedF] at h
  | e :: es, t :: ts, k + 1, h => by
    simp only [datedF, Bool.and_eq_true, List.take_succ_cons] at h ⊢
    exact ⟨h.1, dated_take h.2⟩
theorem hap_pref {houses : Int} {st now open_ : List Int} {k day : Nat} {es : List Ent5} {ts : List Int} (h : Hap houses st k day now open_ es ts) (v : Valid ⟨houses, st, [], []⟩) (hk : k ≤ 6) (si : List Sight5) (j : Nat) : hasT (prefR ⟨houses, st, es, si⟩ j) := by
  have v' : Valid (prefR ⟨houses, st, es, si⟩ j) := ⟨v.h1, v.h4, v.s1, v.s4, by show (es.take j).length ≤ 6; have := h.el; rw [List.length_take]; omega, Nat.zero_le _, v.st, fun e he => h.en e (List.mem_of_mem_take he), fun _ h => by cases h⟩
  have htl : (ts.take j).length = (es.take j).length := by rw [List.length_take, List.length_take, h.tl]
  have hseq : ∃ st', seqStep (es.take j) (st ++ List.replicate (4 - st.length) 0, List.replicate 16 0) = some st' := by
    have := h.st
    rw [← List.take_append_drop j es, seqStep_append] at this
    cases hq : seqStep (es.take j) (st ++ List.replicate (4 - st.length) 0, List.replicate 16 0) with
    | none => rw [hq] at this; cases this
    | some st' => exact ⟨st', rfl⟩
  have hp : (refPlay (prefR ⟨houses, st, es, si⟩ j) (ts.take j)).2 = true := by
    unfold refPlay
    refine seq_play (r := prefR ⟨houses, st, es, si⟩ j) htl (h.so.sublist (List.take_sublist _ _)) 10 0 _ _ ?_
    rw [show (prefR ⟨houses, st, es, si⟩ j).entries = es.take j from rfl, geF_all htl fun t ht => by have := h.td t (List.mem_of_mem_take ht); omega]
    have hs : startA (prefR ⟨houses, st, es, si⟩ j) (prefR ⟨houses, st, es, si⟩ j).start.length = st ++ List.replicate (4 - st.length) 0 := by
      show st.take st.length ++ _ = _
      rw [List.take_length]
      rfl
    rw [hs]
    exact hseq
  have hd : datedF (prefR ⟨houses, st, es, si⟩ j).entries (ts.take j) = true := dated_take h.da
  rcases play_ref v' hd with ⟨_, k2⟩ | ⟨ds, k1, k2, _, k4⟩
  · rw [hp] at k2; cases k2
  · refine (goes_truth v').2 ⟨ts.take j, ds, hd, k1, ?_⟩
    have : ∀ (n : Nat) (ds : List Nat), seenAll (prefR ⟨houses, st, es, si⟩ j) n ds = true := fun n ds => by
      induction ds generalizing n with
      | nil => rfl
      | cons d ds ih => simp only [seenAll, Bool.and_eq_true]; exact ⟨rfl, ih _⟩
    exact this 0 ds
theorem day_si {r : Reg} {si : List Sight5} {n : Int} : ∀ {ts : List Int} {k m : Nat}, dayF ⟨r.houses, r.start, r.entries, si⟩ n k ts m = dayF r n k ts m
  | [], _, _ => rfl
  | t :: ts, k, m => by
    simp only [dayF]
    rw [day_si, day_si (m := m ||| 2 ^ k)]
    rfl
theorem play_si {r : Reg} {si : List Sight5} {t : List Int} : ∀ {c n m : Nat}, playF ⟨r.houses, r.start, r.entries, si⟩ t c n m = playF r t c n m
  | 0, _, _ => rfl
  | c + 1, n, m => by
    rw [playF, playF, day_si]
    cases dayF r (n : Int) 0 t m with
    | none => rfl
    | some d => simp only; rw [play_si]
theorem see_all {r : Reg} {s : Sight5} : ∀ {l : List Nat} {n : Nat}, seenAll (seeingR r s) n l = true ↔ seenAll r n l = true ∧ ∀ j x, l[j]? = some x → seenB ((n + j : Nat) : Int) (placesA r x) s = true
  | [], n => by simp [seenAll]
  | d :: l, n => by
    simp only [seenAll, Bool.and_eq_true, see_all (l := l) (n := n + 1)]
    have hp : placesA (seeingR r s) d = placesA r d := rfl
    rw [hp, show (seeingR r s).sights = r.sights ++ [s] from rfl, List.all_append, Bool.and_eq_true]
    simp only [List.all_cons, List.all_nil, Bool.and_true]
    constructor
    · rintro ⟨⟨h1, h2⟩, h3, h4⟩
      refine ⟨⟨h1, h3⟩, fun j x hj => ?_⟩
      cases j with
      | zero => simp only [List.getElem?_cons_zero, Option.some.injEq] at hj; subst hj; exact h2
      | succ j => have := h4 j x (by simpa using hj); rwa [show n + 1 + j = n + (j + 1) by omega] at this
    · rintro ⟨⟨h1, h3⟩, h4⟩
      refine ⟨⟨h1, h4 0 d rfl⟩, h3, fun j x hj => ?_⟩
      have := h4 (j + 1) x (by simpa using hj)
      rwa [show n + (j + 1) = n + 1 + j by omega] at this
theorem see_truth {r : Reg} {s : Sight5} {t : List Int} {ds : List Nat} : Truth (seeingR r s) t ds ↔ Truth r t ds ∧ ∀ (j x : Nat), ds[j]? = some x → seenB ((j : Nat) : Int) (placesA r x) s = true := by
  constructor
  · intro T
    obtain ⟨h1, h2⟩ := see_all.1 T.seen
    refine ⟨⟨T.dated, by have := T.play; unfold playDays at this ⊢; rwa [show seeingR r s = ⟨r.houses, r.start, r.entries, r.sights ++ [s]⟩ from rfl, play_si] at this, h1⟩, fun j x hj => by have := h2 j x hj; rwa [Nat.zero_add] at this⟩
  · rintro ⟨T, h⟩
    refine ⟨T.dated, by have := T.play; unfold playDays at this ⊢; rw [show seeingR r s = ⟨r.houses, r.start, r.entries, r.sights ++ [s]⟩ from rfl, play_si]; exact this, see_all.2 ⟨T.seen, fun j x hj => by rw [Nat.zero_add]; exact h j x hj⟩⟩
theorem see_hasT {r : Reg} {s N : Nat} {h : Int} (v : Valid r) (vx : Valid (seeingR r ⟨(s : Int), h, (N : Int)⟩)) (hN : N ≤ 9) : hasT (seeingR r ⟨(s : Int), h, (N : Int)⟩) ↔ ∃ m, Eve r N m ∧ (placesA r m).getD s 0 = h := by
  unfold hasT
  rw [goes_truth vx]
  constructor
  · rintro ⟨t, ds, T⟩
    obtain ⟨T1, h1⟩ := see_truth.1 T
    obtain ⟨m, hm, _⟩ := truth_pair v T1 hN
    have := h1 N m hm
    unfold seenB at this
    simp at this
    exact ⟨m, (rch_truth v hN).2 ⟨t, ds, T1, hm⟩, by simpa [List.getD_eq_getElem?_getD] using this⟩
  · rintro ⟨m, hm, hp⟩
    obtain ⟨t, ds, T, hd⟩ := (rch_truth v hN).1 hm
    refine ⟨t, ds, see_truth.2 ⟨T, fun j x hj => ?_⟩⟩
    unfold seenB
    by_cases e : j = N
    · subst e
      rw [hd] at hj
      cases hj
      rw [Bool.or_eq_true]
      right
      show ((placesA r m).getD ((s : Int)).toNat 0 == h) = true
      rw [Int.toNat_natCast, hp, beq_self_eq_true]
    · have : (((N : Nat) : Int) != (j : Int)) = true := by simp; omega
      show (((N : Nat) : Int) != (j : Int) || _) = true
      rw [this]; rfl
theorem hasB_mem {l : List Int} {x : Int} : hasB l x = true ↔ x ∈ l := by
  unfold hasB
  rw [List.any_eq_true]
  exact ⟨fun ⟨y, h1, h2⟩ => by have : y = x := by simpa using h2
                               exact this ▸ h1, fun h => ⟨x, h, by simp⟩⟩
theorem sure_mem {r : Reg} {N s : Nat} {a : Int} {out : List Nat} (h : EvOK r N out) (hne : out ≠ []) (hs : s < r.start.length) : hasB (surelyR r a out) (s : Int) = true ↔ ∀ m, Eve r N m → (placesA r m).getD s 0 = a := by
  rw [hasB_mem]
  unfold surelyR
  have hie : out.isEmpty = false := by cases out with
    | nil => exact (hne rfl).elim
    | cons _ _ => rfl
  rw [hie, cond_false, List.mem_map]
  constructor
  · rintro ⟨x, hx, e⟩ m hm
    have hxs : x = s := by have : (x : Int) = (s : Int) := e; omega
    subst hxs
    rw [List.mem_filter, List.all_eq_true] at hx
    simpa using hx.2 m ((h.1 m).2 hm)
  · intro hk
    refine ⟨s, ?_, rfl⟩
    rw [List.mem_filter, List.all_eq_true]
    exact ⟨List.mem_range.2 hs, fun m hm => by simpa using hk m ((h.1 m).1 hm)⟩
theorem hold_inc {r : Reg} {s : Int} {out : List Nat} : (holdR r s out).Pairwise (· < ·) := (comp_sorted (sort_sorted _).1).1
theorem hold_ne {r : Reg} {N s : Nat} {out : List Nat} (h : EvOK r N out) (hne : out ≠ []) : holdR r (s : Nat) out ≠ [] := by
  cases out with
  | nil => exact (hne rfl).elim
  | cons m l =>
    intro e
    have := (hold_mem (s := s) h).2 ⟨m, (h.1 m).1 List.mem_cons_self, rfl⟩
    rw [e] at this
    cases this
theorem ends_law {r : Reg} {N s : Nat} {a y : Int} {o1 o2 : List Nat} (h1 : EvOK r N o1) (h2 : EvOK r N o2) (hne1 : o1 ≠ []) (hne2 : o2 ≠ []) (hs : s < r.start.length) (hy : (holdR r (s : Nat) o1)[0]? = some y) : hasB (surelyR r a o2) (s : Int) = (((holdR r (s : Nat) o1).length : Int) == 1 && y == a) := by
  rw [Bool.eq_iff_iff, sure_mem h2 hne2 hs, Bool.and_eq_true]
  have hym : y ∈ holdR r (s : Nat) o1 := List.mem_of_getElem? hy
  constructor
  · intro hk
    have hall : ∀ x ∈ holdR r (s : Nat) o1, x = a := fun x hx => by
      obtain ⟨m, q1, q2⟩ := (hold_mem h1).1 hx
      rw [← q2]; exact hk m q1
    have hya := hall y hym
    have hinc := hold_inc (r := r) (s := (s : Nat)) (out := o1)
    cases hl : holdR r (s : Nat) o1 with
    | nil => rw [hl] at hym; cases hym
    | cons z l =>
      rw [hl] at hall hinc
      cases l with
      | nil => exact ⟨by simp, by simpa using hya⟩
      | cons z2 l =>
        rw [List.pairwise_cons] at hinc
        have q1 := hall z List.mem_cons_self
        have q2 := hall z2 (List.mem_cons_of_mem _ List.mem_cons_self)
        have q3 := hinc.1 z2 List.mem_cons_self
        omega
  · rintro ⟨hl, hya⟩ m hm
    have hl1 : (holdR r (s : Nat) o1).length = 1 := by simp at hl; omega
    have hya' : y = a := by simpa using hya
    have hx := (hold_mem (s := s) h1).2 ⟨m, hm, rfl⟩
    generalize (placesA r m).getD s 0 = x at *
    match hq : holdR r (s : Nat) o1, hl1 with
    | [z], _ =>
      rw [hq] at hx hy
      simp at hx hy
      omega
end Go.Proofs.Ytnbmmopjkkofoaa
namespace Go.Proofs.Ytnbmmopjkkofoaa
open Go.RowKit
set_option maxRecDepth 20000
set_option linter.all false
def cells1 (l : List Int) : List TV := ((l.map intE).flatten).map .d
theorem cells1_eq (l : List Int) : cells1 l = l.map fun n => TV.d (.int .i64 n) := by
  unfold cells1
  induction l with
  | nil => rfl
  | cons x l ih => simp only [List.map_cons, List.flatten_cons, List.map_append, ih]; rfl
theorem c1_get {l : List Int} {rest : List TV} {i k : Nat} {x : Int} (h : l[i]? = some x) (hk : k = i) : (cells1 l ++ rest)[k]? = some (.d (.int .i64 x)) := by
  have hlt := (List.getElem?_eq_some_iff.1 h).1
  rw [cells1_eq, hk, List.getElem?_append_left (by simpa using hlt), List.getElem?_map, h]
  rfl
theorem c1_set {l : List Int} {rest : List TV} {i k : Nat} {x : Int} (h : i < l.length) (hk : k = i) : (cells1 l ++ rest).set k (.d (.int .i64 x)) = cells1 (l.set i x) ++ rest := by
  rw [cells1_eq, cells1_eq, hk, List.set_append_left _ _ (by simpa using h), List.map_set]
theorem c1_len (l : List Int) : (cells1 l).length = l.length := by rw [cells1_eq]; simp
theorem vec1 {l : List Int} {v : Value} (h : VecV v 1 (cells1 l)) (h0 : 0 < l.length) : ∃ b c, v = .slice (some ⟨b, 0, none⟩) l.length c ∧ l.length ≤ c ∧ c ≤ maxLen := by
  have hl := c1_len l
  rcases h with ⟨_, h⟩ | ⟨b, n, c, rfl, h1, h2, h3⟩
  · rw [h] at hl; simp at hl; omega
  · have : n = l.length := by omega
    subst this
    exact ⟨b, c, rfl, h1, h2⟩
theorem wordN_lt {l : List Nat} {i : Nat} (h : ∀ x ∈ l, x < 65536) : wordN l i < 65536 := by
  unfold wordN
  cases hb : (l.length : Int) == 0 with
  | true => simp
  | false =>
    have h0 : 0 < l.length := by simp at hb; cases l with | nil => exact (hb rfl).elim | cons _ _ => simp
    have hm := Nat.mod_lt i h0
    show l.getD (i % l.length) 0 < 65536
    rw [List.getD_eq_getElem?_getD, List.getElem?_eq_getElem hm]
    exact h _ (List.getElem_mem hm)
theorem ents_add {es : List Ent5} {e : Ent5} : es.map entE ++ [entE e] = (es ++ [e]).map entE := by simp
theorem ints_add {l : List Int} {x : Int} : l.map intE ++ [intE x] = (l ++ [x]).map intE := by simp
theorem sights_add {l : List Sight5} {x : Sight5} : l.map sightE ++ [sightE x] = (l ++ [x]).map sightE := by simp
def HapX (H : Nat) (start : List Int) : Type := {x : Reg × List Int // x.1.houses = (H : Int) ∧ x.1.start = start ∧ Valid x.1 ∧ (∃ ds, Truth x.1 x.2 ds) ∧ ∀ j, hasT (prefR x.1 j)}
theorem bt59 : BT Try.prog 59 (.agg #[(.int .i64 0), (.int .i64 0), (.int .i64 0)]) (fun i => ([(0, 1), (1, 1), (2, 1)] : List (Nat × Nat))[i]?) := bt_struct Try.underlying59 zr59 (by kernel_rfl)
theorem bt67 : BT Try.prog 67 (.agg #[(.int .i64 0), (.int .i64 0), (.int .i64 0), (.int .i64 0), (.int .i64 0), (.int .i64 0)]) (fun i => ([(0, 1), (1, 1), (2, 1), (3, 1), (4, 2)] : List (Nat × Nat))[i]?) := bt_struct Try.underlying67 zr67 (by kernel_rfl)
theorem list_vec (l : List Int) (h5 : l.length ≤ 1000000) : EffAt Try.prog 44 [.d (ints l)] [] (X := {v : Value // VecV v 1 (cells1 l)}) (fun v => .val v.1) (fun v => [(1010, vecRes 3 v.1 1 (cells1 l))]) := by
  refine EffAt.of_awp Try.func44 rfl (by kernel_rfl) rfl fun Γ hn => ?_
  refine awp_seq ?_
  refine awp_region ?_
  refine sq rfl rfl hn rfl (q_assign rfl rfl) ?_
  refine run_nil ?_
  refine aend_then ?_
  refine awp_seq ?_
  refine awp_region ?_
  refine stepW (s_buildVec 1010 rfl rfl rfl (nb hn rfl) Try.underlying22 sz3 zr3 rfl rfl (show _ = [] from by kernel_rfl) (by kernel_rfl) rfl rfl) fun b3 => ?_
  refine sq rfl rfl hn rfl (q_move rfl rfl) ?_
  refine stepW (s_appendV (id := 1010) rfl rfl rfl (nb hn rfl) elt22 zr3 rfl (vec0 b3 1) rfl rfl rfl (by simp; omega) (by simp; omega) (fun _ _ => trivial)) fun ⟨v5, hv5⟩ => ?_
  refine sq rfl rfl hn rfl (q_assign rfl rfl) ?_
  refine run_nil ?_
  refine aend_then ?_
  refine awp_ret ?_
  exact ret_E (.inl rfl) ⟨v5, hv5⟩ (hands_1 rfl (.tmp rfl)) ⟨rfl, trivial⟩
theorem Happened_eff (H : Nat) (start : List Int) (words : List Nat) (many : Nat) (v : Valid ⟨(H : Int), start, [], []⟩) (hw5 : ∀ x ∈ words, x < 65536) (hm5 : many < 256) : EffAt Try.prog 30 [.d (.int .i64 (H : Nat)), .d (ints start), .d (wordsD words), .d (.int .u8 (many : Nat))] [] (X := HapX H start) (fun x => .d (.tup [regD x.1.1, ints x.1.2])) (fun _ => []) := by
  refine EffAt.of_awp Try.func30 rfl (by kernel_rfl) rfl fun Γ hn => ?_
  have hs4 : start.length ≤ 4 := v.s4
  have hs1 : 1 ≤ start.length := v.s1
  have hH4 : (H : Int) ≤ 4 := v.h4
  have hH1 : 1 ≤ (H : Int) := v.h1
  refine awp_seq ?_
  refine awp_region ?_
  refine stepW (s_alloc 8 rfl rfl rfl (nb hn rfl) zr26 rfl rfl) fun b8 => ?_
  refine sq rfl rfl hn rfl (q_assign rfl rfl) ?_
  refine run_nil ?_
  refine aend_then ?_
  refine awp_seq ?_
  refine awp_region ?_
  refine sq rfl rfl hn rfl (q_move rfl rfl) ?_
  refine sq rfl rfl hn rfl (q_move rfl rfl) ?_
  refine stepW (s_call [] (fun _ => list_ok start (by omega)) rfl (guard_none rfl) rfl (nb hn rfl) (fun _ => trivial) rfl rfl (.refl _)) fun _ => ?_
  refine sq rfl rfl hn rfl (q_buildd rfl bt26 rfl rfl rfl rfl rfl) ?_
  refine stepW (s_alloc 10 rfl rfl rfl (nb hn rfl) zr26 rfl rfl) fun b10 => ?_
  refine stepW (s_store rfl rfl rfl rfl rfl rfl (id := 10) rfl sz26 rfl (Nat.le_of_ble_eq_true rfl) rfl trivial) fun _ => ?_
  refine run_nil ?_
  refine aend_then ?_
  refine awp_seq ?_
  refine awp_region ?_
  refine sq rfl rfl hn rfl (q_move rfl rfl) ?_
  refine stepW (s_callE (list_vec start (by omega)) rfl rfl rfl (nb hn rfl) (.d rfl) rfl (.refl _) trivial (fun _ => rfl) (fun _ _ => trivial)) fun ⟨vn, hvn⟩ => ?_
  obtain ⟨bn, cn, rfl, hcn, hcm⟩ := vec1 hvn hs1
  refine sq rfl rfl hn rfl (q_assign rfl rfl) ?_
  refine run_nil ?_
  refine aend_then ?_
  refine awp_seq ?_
  refine awp_region ?_
  refine sq rfl rfl hn rfl (q_assign rfl rfl) ?_
  refine run_nil ?_
  refine aend_then ?_
  refine awp_seq ?_
  refine awp_region ?_
  refine stepW (s_alloc 13 rfl rfl rfl (nb hn rfl) zr85 (zerosT 16) (by kernel_rfl)) fun b13 => ?_
  refine run_nil ?_
  refine aend_then ?_
  refine awp_seq ?_
  refine awp_region ?_
  refine sq rfl rfl hn rfl (q_assign rfl rfl) ?_
  refine run_nil ?_
  refine aend_then ?_
  refine awp_seq ?_
  refine awp_seq ?_
  refine gh_awp (g_nil (t := 12) (id := 12) 3 1 rfl (nb hn rfl)) ?_
  refine gh_awp (gh_nilcell (id := 10) (k := 2) 1020 67 6 rfl rfl) ?_
  refine awp_region ?_
  refine sq rfl rfl hn rfl (q_assign rfl rfl) ?_
  refine run_nil ?_
  refine aend_then ?_
  refine awp_block ?_
  refine awp_loop_on (ι := {x : (Nat × Nat) × (List Int × List Int) × (List Ent5 × List Int) × (Value × Value) // x.1.1 ≤ many % 7 ∧ x.1.2 ≤ 9 ∧ Hap (H : Int) start x.1.1 x.1.2 x.2.1.1 x.2.1.2 x.2.2.1.1 x.2.2.1.2}) (fun x => (12, true, .val x.1.2.2.2.2) :: (14, true, .d (.int .i64 (x.1.1.2 : Nat))) :: (15, true, .d (.int .i64 (x.1.1.1 : Nat))) :: anys [30, 31, 32, 33, 34, 37, 38, 39, 40, 41, 42, 43, 44, 45, 16, 17, 46, 47, 48, 49, 50, 51, 52, 53, 54, 55, 56, 57, 58, 59, 60, 61, 18, 62, 63, 64, 65, 66, 67, 68, 69, 70, 71, 72, 73, 74, 75, 76, 77, 78, 79, 81, 82, 83, 84, 85, 86, 87, 88, 89, 90, 91, 92, 93, 80, 94, 95, 96, 97, 98, 99, 100, 101, 102, 103, 104, 106, 107, 108, 105, 109, 110, 111, 112, 113, 114, 115, 116, 117, 118, 119, 120, 121, 122, 123, 124, 125, 126, 127, 128, 129, 130, 131, 132, 133, 134, 135, 136, 137, 138, 139, 140, 141, 142, 143, 144, 145, 146, 147, 148, 149, 35, 36]) (fun x => (10, .box b10 26 [.d (.int .i64 (H : Nat)), .d (ints start), .val x.1.2.2.2.1, .d .nil]) :: (1020, .row x.1.2.2.2.1 67 6 (x.1.2.2.1.1.map entE)) :: (12, .row x.1.2.2.2.2 3 1 (x.1.2.2.1.2.map intE)) :: (1010, .box bn 3 (cells1 x.1.2.1.1 ++ List.replicate ((cn - start.length) * 1) .any)) :: (13, .box b13 85 (x.1.2.1.2.map intT)) :: gones [18]) (fun x => many % 7 - x.1.1.1) ⟨((0, 0), (start, List.replicate 16 0), ([], []), .slice none 0 0, .slice none 0 0), Nat.zero_le _, by simp, Hap.start v.st⟩ ⟨.inl rfl, .inl rfl, .inl rfl, holdT_anys _⟩ ⟨.inl rfl, .inl rfl, .inl rfl, .inl rfl, .inl rfl, holdR_gones _⟩ ?_
  rintro ⟨⟨⟨i, day⟩, ⟨now, op⟩, ⟨es, ts⟩, vE, vT⟩, hi, hd9, hap⟩
  dsimp only
  dsimp only at hi hd9 hap
  refine awp_seq ?_
  refine awp_seq ?_
  refine awp_region ?_
  refine sq rfl rfl hn rfl (q_move rfl rfl) ?_
  refine sq rfl rfl hn rfl (q_move rfl rfl) ?_
  refine sq rfl rfl hn rfl (q_conv rfl rfl Try.underlying5 Try.underlying3 (r := (many : Int)) (i64w (by omega) rfl)) ?_
  refine sq rfl rfl hn rfl (q_rem rfl rfl rfl (r := ((many % 7 : Nat) : Int)) (by omega) (modN (b := 7) (by omega))) ?_
  refine sq rfl rfl hn rfl (q_lss rfl rfl rfl) ?_
  refine run_nil ?_
  refine aend_then ?_
  refine awp_cond rfl (fun hb0 => ?_) (fun hb0 => ?_)
  · skip
    have hil : i < many % 7 := by simp only [decide_eq_true_eq] at hb0; omega
    have hm7 : many % 7 ≤ 6 := by omega
    have hel := hap.el
    have htl := hap.tl
    refine awp_skip ?_
    refine aend_then ?_
    refine awp_seq ?_
    refine awp_block ?_
    refine awp_seq ?_
    refine awp_region ?_
    refine sq rfl rfl hn rfl (q_move rfl rfl) ?_
    refine sq rfl rfl hn rfl (q_move rfl rfl) ?_
    refine sq rfl rfl hn rfl (q_mul rfl rfl rfl (r := ((3 * i : Nat) : Int)) (i64w (by omega) (by omega))) ?_
    refine stepW (s_call [] (fun _ => word_ok words (3 * i) hw5) rfl (guard_none rfl) rfl (nb hn rfl) (fun _ => trivial) rfl rfl (.refl _)) fun _ => ?_
    refine sq rfl rfl hn rfl (q_move rfl rfl) ?_
    refine sq rfl rfl hn rfl (q_move rfl rfl) ?_
    refine sq rfl rfl hn rfl (q_mul rfl rfl rfl (r := ((3 * i : Nat) : Int)) (i64w (by omega) (by omega))) ?_
    refine sq rfl rfl hn rfl (q_add rfl rfl rfl (r := ((3 * i + 1 : Nat) : Int)) (i64w (by omega) (by omega))) ?_
    refine stepW (s_call [] (fun _ => word_ok words (3 * i + 1) hw5) rfl (guard_none rfl) rfl (nb hn rfl) (fun _ => trivial) rfl rfl (.refl _)) fun _ => ?_
    refine sq rfl rfl hn rfl (q_assign rfl rfl) ?_
    refine sq rfl rfl hn rfl (q_assign rfl rfl) ?_
    refine run_nil ?_
    refine aend_then ?_
    refine awp_seq ?_
    obtain ⟨w, hw⟩ : ∃ w, wordN words (3 * i) = w := ⟨_, rfl⟩
    obtain ⟨u, hu⟩ : ∃ u, wordN words (3 * i + 1) = u := ⟨_, rfl⟩
    have hwl : w < 65536 := hw ▸ wordN_lt hw5
    have hul : u < 65536 := hu ▸ wordN_lt hw5
    rw [hw, hu]
    refine awp_region ?_
    refine sq rfl rfl hn rfl (q_move rfl rfl) ?_
    refine sq rfl rfl hn rfl (q_move rfl rfl) ?_
    refine sq rfl rfl hn rfl (q_rem rfl rfl rfl (r := ((w % 3 : Nat) : Int)) (by omega) (modN (b := 3) (by omega))) ?_
    refine sq rfl rfl hn rfl (q_add rfl rfl rfl (r := ((day + w % 3 : Nat) : Int)) (i64w (by omega) (by omega))) ?_
    refine sq rfl rfl hn rfl (q_assign rfl rfl) ?_
    refine run_nil ?_
    refine aend_then ?_
    refine awp_seq ?_
    refine awp_seq ?_
    refine awp_region ?_
    refine sq rfl rfl hn rfl (q_move rfl rfl) ?_
    refine sq rfl rfl hn rfl (q_gtr rfl rfl rfl) ?_
    refine sq rfl rfl hn rfl (q_move rfl rfl) ?_
    refine stepG [] (guard_some rfl rfl rfl) rfl (nb hn rfl) (fun hc => trivial) (fun hc => q_move rfl rfl) ?_
    refine stepG [(53, _)] (guard_some rfl rfl rfl) rfl (nb hn rfl) (fun hc => ⟨⟨_, rfl, hc⟩, trivial⟩) (fun hc => q_lss rfl rfl rfl) ?_
    refine sq rfl rfl hn rfl (q_or rfl rfl rfl (by intro hB; first | (rw [hB]; rfl) | (rw [hB, hc]; rfl) | simp_all)) ?_
    refine run_nil ?_
    refine aend_then ?_
    refine awp_cond rfl (fun hb1 => ?_) (fun hb1 => ?_)
    · skip
      refine awp_exit ?_
      refine aend_then_exit ?_
      refine aend_block_exit_ne rfl ?_
      refine aend_then_exit ?_
      refine aend_then_exit ?_
      refine aend_block_exit ?_
      refine aend_then ?_
      refine awp_seq ?_
      refine awp_seq ?_
      have hi7 : i ≤ 6 := by omega
      obtain ⟨v0, ds, T, hdl, hag⟩ := hap.reg v hi7
      have hrp := truth_play v0 T
      have hout := refPlay_len v0 ts
      obtain ⟨o, ho⟩ : ∃ o, (refPlay (hapReg (H : Int) start es []) ts).1 = o := ⟨_, rfl⟩
      rw [ho] at hout hag
      refine gh_awp (gh_rowcell (id := 10) (k := 2) (rid := 1020) rfl rfl rfl) ?_
      refine awp_region ?_
      refine sq rfl rfl hn rfl (q_loadAd rfl rfl (id := 10) rfl Try.underlying26 rfl sz26 rfl rfl sees0) ?_
      refine sq rfl rfl hn rfl (q_move rfl rfl) ?_
      refine gh_run (g_row (t := 151) (id := 12) rfl rfl) ?_
      refine stepW (s_call [] (fun _ => IsDated_ok (hapReg (H : Int) start es []) ts) rfl (guard_none rfl) rfl (nb hn rfl) (fun _ => trivial) rfl rfl (by first | exact .refl _ | (repeat (first | exact .refl _ | exact .nil _ | refine .cons ?_ ?_ | refine .agg ?_ | refine .tup ?_)))) fun _ => ?_
      refine sq rfl rfl hn rfl (q_not rfl rfl) ?_
      refine run_nil ?_
      refine aend_then ?_
      refine awp_cond rfl (fun hb2 => ?_) (fun hb2 => ?_)
      · skip
        exact absurd hb2 (by rw [show datedF (hapReg (H : Int) start es []).entries ts = true from hap.da]; simp)
      · skip
        refine awp_skip ?_
        refine aend_then ?_
        refine awp_seq ?_
        refine awp_region ?_
        refine sq rfl rfl hn rfl (q_loadAd rfl rfl (id := 10) rfl Try.underlying26 rfl sz26 rfl rfl sees0) ?_
        refine sq rfl rfl hn rfl (q_move rfl rfl) ?_
        refine gh_run (g_row (t := 158) (id := 12) rfl rfl) ?_
        refine stepW (s_call [] (fun _ => (by have h6 := refPlay_ok (hapReg (H : Int) start es []) ts v0 hap.tl; rw [hrp, ho] at h6; exact h6)) rfl (guard_none rfl) rfl (nb hn rfl) (fun _ => trivial) rfl rfl (by first | exact .refl _ | (repeat (first | exact .refl _ | exact .nil _ | refine .cons ?_ ?_ | refine .agg ?_ | refine .tup ?_)))) fun _ => ?_
        refine sq rfl rfl hn rfl (q_move rfl rfl) ?_
        refine sq rfl rfl hn rfl (q_extractd rfl rfl rfl) ?_
        refine sq rfl rfl hn rfl (q_extractd rfl rfl rfl) ?_
        refine stepW (s_alloc 19 rfl rfl rfl (nb hn rfl) zr88 (zerosT 200) (by kernel_rfl)) fun b19 => ?_
        refine stepW (s_store rfl rfl rfl rfl rfl rfl (id := 19) rfl sz88 (cells_len hout) (Nat.le_of_ble_eq_true rfl) (store_all (by simp)) trivial) fun _ => ?_
        refine sq rfl rfl hn rfl (q_assign rfl rfl) ?_
        refine run_nil ?_
        refine aend_then ?_
        refine awp_seq ?_
        refine awp_seq ?_
        refine gh_awp (gh_nilcell (id := 10) (k := 3) 1021 59 3 rfl rfl) ?_
        refine awp_region ?_
        refine sq rfl rfl hn rfl (q_assign rfl rfl) ?_
        refine run_nil ?_
        refine aend_then ?_
        refine awp_block ?_
        refine awp_loop_on (ι := {x : Nat × List Sight5 × Value // x.1 ≤ wordN words 5 % 5 ∧ x.2.1.length ≤ x.1 ∧ ∀ s ∈ x.2.1, (0 ≤ s.sheet ∧ s.sheet ≤ (start.length : Int) - 1) ∧ (0 ≤ s.day ∧ s.day ≤ 9) ∧ s.house = houseAt o s.day.toNat s.sheet.toNat}) (fun x => (21, true, .d (.int .i64 (x.1.1 : Nat))) :: anys [162, 163, 164, 165, 166, 167, 168, 169, 172, 173, 174, 175, 176, 22, 177, 178, 179, 180, 181, 182, 183, 184, 23, 185, 186, 187, 188, 189, 190, 191, 192, 193, 194, 195, 196, 197, 198, 199, 170, 171]) (fun x => (10, .box b10 26 [.d (.int .i64 (H : Nat)), .d (ints start), .d (entsD es), .val x.1.2.2]) :: (1021, .row x.1.2.2 59 3 (x.1.2.1.map sightE)) :: gones [23]) (fun x => wordN words 5 % 5 - x.1.1) ⟨(0, [], .slice none 0 0), Nat.zero_le _, Nat.le_refl _, fun _ h => (by cases h)⟩ ⟨.inl rfl, holdT_anys _⟩ ⟨.inl rfl, .inl rfl, holdR_gones _⟩ ?_
        rintro ⟨⟨k, si, vS⟩, hk5, hsi, hsp⟩
        dsimp only
        dsimp only at hk5 hsi hsp
        refine awp_seq ?_
        refine awp_seq ?_
        refine awp_region ?_
        refine sq rfl rfl hn rfl (q_move rfl rfl) ?_
        refine sq rfl rfl hn rfl (q_move rfl rfl) ?_
        refine stepW (s_call [] (fun _ => word_ok words 5 hw5) rfl (guard_none rfl) rfl (nb hn rfl) (fun _ => trivial) rfl rfl (.refl _)) fun _ => ?_
        refine sq rfl rfl hn rfl (q_rem rfl rfl rfl (r := ((wordN words 5 % 5 : Nat) : Int)) (by omega) (modN (b := 5) (by omega))) ?_
        refine sq rfl rfl hn rfl (q_lss rfl rfl rfl) ?_
        refine sq rfl rfl hn rfl (q_move rfl rfl) ?_
        refine stepG [] (guard_some rfl rfl rfl) rfl (nb hn rfl) (fun hc => trivial) (fun hc => q_move rfl rfl) ?_
        refine sq rfl rfl hn rfl (q_and rfl rfl rfl (by intro hB; first | (rw [hB]; rfl) | (rw [hB, hc]; rfl) | simp_all)) ?_
        refine run_nil ?_
        refine aend_then ?_
        refine awp_cond rfl (fun hb3 => ?_) (fun hb3 => ?_)
        · skip
          have hkl : k < wordN words 5 % 5 := by simp at hb3; omega
          refine awp_skip ?_
          refine aend_then ?_
          refine awp_seq ?_
          refine awp_block ?_
          refine awp_seq ?_
          refine awp_region ?_
          refine sq rfl rfl hn rfl (q_move rfl rfl) ?_
          refine sq rfl rfl hn rfl (q_move rfl rfl) ?_
          refine sq rfl rfl hn rfl (q_mul rfl rfl rfl (r := ((3 * k : Nat) : Int)) (i64w (by omega) (by omega))) ?_
          refine sq rfl rfl hn rfl (q_add rfl rfl rfl (r := ((3 * k + 2 : Nat) : Int)) (i64w (by omega) (by omega))) ?_
          refine stepW (s_call [] (fun _ => word_ok words (3 * k + 2) hw5) rfl (guard_none rfl) rfl (nb hn rfl) (fun _ => trivial) rfl rfl (.refl _)) fun _ => ?_
          refine sq rfl rfl hn rfl (q_assign rfl rfl) ?_
          refine run_nil ?_
          refine aend_then ?_
          refine awp_seq ?_
          obtain ⟨q, hq⟩ : ∃ q, wordN words (3 * k + 2) = q := ⟨_, rfl⟩
          have hql : q < 65536 := hq ▸ wordN_lt hw5
          rw [hq]
          have hqm := Nat.mod_lt q (show 0 < start.length by omega)
          refine awp_region ?_
          refine sq rfl rfl hn rfl (q_move rfl rfl) ?_
          refine sq rfl rfl hn rfl (q_move rfl rfl) ?_
          refine sq rfl rfl hn rfl (q_len rfl rfl Try.underlying22) ?_
          refine sq rfl rfl hn rfl (q_rem rfl rfl rfl (r := ((q % start.length : Nat) : Int)) (by simp only [List.length_map]; omega) (by simp only [List.length_map]; exact modN (by omega))) ?_
          refine sq rfl rfl hn rfl (q_move rfl rfl) ?_
          refine sq rfl rfl hn rfl (q_quo rfl rfl rfl (r := ((q / 8 : Nat) : Int)) (by omega) (quoN (b := 8) (by omega) (by omega))) ?_
          refine sq rfl rfl hn rfl (q_rem rfl rfl rfl (r := ((q / 8 % 10 : Nat) : Int)) (by omega) (modN (b := 10) (by omega))) ?_
          refine sq rfl rfl hn rfl (q_buildd rfl bt59 rfl rfl rfl rfl rfl) ?_
          refine stepW (s_alloc 23 rfl rfl rfl (nb hn rfl) zr59 rfl rfl) fun b23 => ?_
          refine stepW (s_store rfl rfl rfl rfl rfl rfl (id := 23) rfl sz59 rfl (Nat.le_of_ble_eq_true rfl) rfl trivial) fun _ => ?_
          refine run_nil ?_
          refine aend_then ?_
          refine awp_seq ?_
          refine awp_join_on (e := .normal) (ι := Unit) (fun x => anys [185, 186, 187, 188, 189, 190, 191, 192, 193]) (fun x => [(23, .box b23 59 [.d (.int .i64 ((q % start.length : Nat) : Int)), .d (.int .i64 (houseAt o (q / 8 % 10) (q % start.length))), .d (.int .i64 ((q / 8 % 10 : Nat) : Int))])]) (fun hJ4 => ?_) ?_
          · skip
            refine d_start (W := fun b => b ≠ b19) fmo ?_
            refine d1q (i := 0) rfl (by kernel_rfl) (fun _ _ _ _ h => h) rfl rfl hn rfl (q_fieldAddr rfl rfl Try.underlying59 rfl sz3) ?_
            refine d1q (i := 2) rfl (by kernel_rfl) (fun _ _ _ _ h => h) rfl rfl hn rfl (q_fieldAddr rfl rfl Try.underlying59 rfl sz3) ?_
            refine d1q (i := 4) rfl (by kernel_rfl) (fun _ _ _ _ h => h) rfl rfl hn rfl (q_fieldAddr rfl rfl Try.underlying88 rfl sz84) ?_
            refine d1_of_d2 ?_
            refine d2_all 1 [3] (by kernel_rfl) ⟨?_, ?_, trivial⟩
            · skip
              refine br rfl (quiet_wg _ [] (guard_none rfl) rfl (nb hn rfl) (fun _ => trivial) (fun _ => q_load rfl rfl (id := 23) rfl Try.underlying3 rfl rfl sees0)) fun _ => ?_
              refine d2_of_d1 ?_
              refine d1q (i := 5) rfl (by kernel_rfl) (fun _ _ _ _ h => h) rfl rfl hn rfl (q_indexA (i := q / 8 % 10) rfl rfl rfl Try.underlying84 sz83 rfl (by omega)) ?_
              refine d1_of_d2 ?_
              refine d2_one (i := 3) (by kernel_rfl) rfl (quiet_wg _ [] (guard_none rfl) rfl (nb hn rfl) (fun _ => trivial) (fun _ => q_load rfl rfl (id := 23) rfl Try.underlying3 rfl rfl sees0)) fun _ => ?_
              refine d2_of_d1 ?_
              refine d1q (i := 6) rfl (by kernel_rfl) (fun _ _ _ _ h => h) rfl rfl hn rfl (q_indexA (i := q % start.length) rfl rfl rfl Try.underlying83 sz3 rfl (by omega)) ?_
              refine d1q (i := 7) rfl (by kernel_rfl) (fun _ _ _ _ h => h) rfl rfl hn rfl (q_load rfl rfl (id := 19) rfl Try.underlying3 rfl (at0 (by show 0 + 0 + (q / 8 % 10) * 4 + (q % start.length) * 1 = (q / 8 % 10) * 4 + (q % start.length); omega) (getD_some (by omega))) (seesA (by simp))) ?_
              refine d1q (i := 8) rfl (by kernel_rfl) (fun _ _ _ _ h => h) rfl rfl hn rfl (q_fieldAddr rfl rfl Try.underlying59 rfl sz3) ?_
              refine d1_of_d2 ?_
              refine g_ne_d2 (i := 23) (j := 19) rfl rfl rfl (fun hne23_19 => ?_)
              refine d2_one (i := 9) (by kernel_rfl) rfl (s_store1 rfl rfl rfl rfl rfl rfl (id := 23) rfl sz3 (Nat.le_of_ble_eq_true rfl) rfl (fun e => hne23_19 _ rfl (congrArg some e.symm))) fun _ => ?_
              refine d2_of_d1 ?_
              refine d1_of_d2 ?_
              refine d2_done (by kernel_rfl) ?_
              exact aend_join_on hJ4 () (holdT_anys _) ⟨.inl rfl, trivial⟩ (by repeat (first | exact kr _ | refine kc rfl ?_)) (by repeat (first | exact kr _ | refine kc rfl ?_))
            · skip
              refine br rfl (quiet_wg _ [] (guard_none rfl) rfl (nb hn rfl) (fun _ => trivial) (fun _ => q_load rfl rfl (id := 23) rfl Try.underlying3 rfl rfl sees0)) fun _ => ?_
              refine d2_of_d1 ?_
              refine d1_of_d2 ?_
              refine d2_one (i := 1) (by kernel_rfl) rfl (quiet_wg _ [] (guard_none rfl) rfl (nb hn rfl) (fun _ => trivial) (fun _ => q_load rfl rfl (id := 23) rfl Try.underlying3 rfl rfl sees0)) fun _ => ?_
              refine d2_of_d1 ?_
              refine d1q (i := 5) rfl (by kernel_rfl) (fun _ _ _ _ h => h) rfl rfl hn rfl (q_indexA (i := q / 8 % 10) rfl rfl rfl Try.underlying84 sz83 rfl (by omega)) ?_
              refine d1q (i := 6) rfl (by kernel_rfl) (fun _ _ _ _ h => h) rfl rfl hn rfl (q_indexA (i := q % start.length) rfl rfl rfl Try.underlying83 sz3 rfl (by omega)) ?_
              refine d1q (i := 7) rfl (by kernel_rfl) (fun _ _ _ _ h => h) rfl rfl hn rfl (q_load rfl rfl (id := 19) rfl Try.underlying3 rfl (at0 (by show 0 + 0 + (q / 8 % 10) * 4 + (q % start.length) * 1 = (q / 8 % 10) * 4 + (q % start.length); omega) (getD_some (by omega))) (seesA (by simp))) ?_
              refine d1q (i := 8) rfl (by kernel_rfl) (fun _ _ _ _ h => h) rfl rfl hn rfl (q_fieldAddr rfl rfl Try.underlying59 rfl sz3) ?_
              refine d1_of_d2 ?_
              refine g_ne_d2 (i := 23) (j := 19) rfl rfl rfl (fun hne23_19 => ?_)
              refine d2_one (i := 9) (by kernel_rfl) rfl (s_store1 rfl rfl rfl rfl rfl rfl (id := 23) rfl sz3 (Nat.le_of_ble_eq_true rfl) rfl (fun e => hne23_19 _ rfl (congrArg some e.symm))) fun _ => ?_
              refine d2_of_d1 ?_
              refine d1_of_d2 ?_
              refine d2_done (by kernel_rfl) ?_
              exact aend_join_on hJ4 () (holdT_anys _) ⟨.inl rfl, trivial⟩ (by repeat (first | exact kr _ | refine kc rfl ?_)) (by repeat (first | exact kr _ | refine kc rfl ?_))
          · rintro _
            refine aend_then ?_
            refine awp_region ?_
            refine sq rfl rfl hn rfl (q_fieldAddr rfl rfl Try.underlying26 rfl sz24) ?_
            refine sq rfl rfl hn rfl (q_load rfl rfl (id := 10) rfl Try.underlying24 rfl rfl sees0) ?_
            refine sq rfl rfl hn rfl (q_loadAd rfl rfl (id := 23) rfl Try.underlying59 rfl sz59 rfl rfl sees0) ?_
            refine stepW (s_buildSlice rfl rfl rfl (nb hn rfl) Try.underlying24 sz59 zr59 rfl rfl rfl (show _ = [.d (.int .i64 0), .d (.int .i64 0), .d (.int .i64 0)] from by kernel_rfl) (by kernel_rfl) rfl (fill_agg (by kernel_rfl) rfl) (allD_d _) (beq_len rfl) (chunk_one rfl)) fun _ => ?_
            refine stepW (s_append (id := 1021) rfl rfl rfl (nb hn rfl) elt24 trivial rfl rfl rfl (by simp; omega) (by simp; omega) (fun b hb => trivial)) fun v198 => ?_
            refine sq rfl rfl hn rfl (q_fieldAddr rfl rfl Try.underlying26 rfl sz24) ?_
            refine stepW (s_storeRow rfl rfl rfl rfl rfl (rid := 1021) rfl (id := 10) rfl sz24 (Nat.le_of_ble_eq_true rfl) rfl trivial) fun _ => ?_
            refine run_nil ?_
            refine aend_block ?_
            refine aend_then ?_
            refine awp_region ?_
            refine sq rfl rfl hn rfl (q_move rfl rfl) ?_
            refine sq rfl rfl hn rfl (q_add rfl rfl rfl (r := ((k + 1 : Nat) : Int)) (i64w (by omega) (by omega))) ?_
            refine sq rfl rfl hn rfl (q_assign rfl rfl) ?_
            refine run_nil ?_
            exact aend_round_on ⟨(k + 1, si ++ [⟨(q % start.length : Nat), houseAt o (q / 8 % 10) (q % start.length), (q / 8 % 10 : Nat)⟩], v198), by simp only; omega, by simp; omega, fun s hs => by rcases List.mem_append.1 hs with hs | hs; exact hsp s hs; rw [List.mem_singleton] at hs; subst hs; exact ⟨⟨by show (0 : Int) ≤ ((q % start.length : Nat) : Int); omega, by show ((q % start.length : Nat) : Int) ≤ _; omega⟩, ⟨by show (0 : Int) ≤ ((q / 8 % 10 : Nat) : Int); omega, by show ((q / 8 % 10 : Nat) : Int) ≤ _; omega⟩, rfl⟩⟩ ⟨.inl rfl, holdT_anys _⟩ ⟨.inl rfl, .inl (congrArg (fun z => some (Res.row v198 59 3 z)) (sights_add (x := ⟨((q % start.length : Nat) : Int), houseAt o (q / 8 % 10) (q % start.length), ((q / 8 % 10 : Nat) : Int)⟩))), holdR_gones _⟩ (by simp only; omega) (by repeat (first | exact kr _ | refine kc rfl ?_)) (by repeat (first | exact kr _ | refine kc rfl ?_))
        · skip
          refine awp_exit ?_
          refine aend_then_exit ?_
          refine aend_then_exit ?_
          refine aend_block_exit ?_
          refine aend_then ?_
          refine awp_seq ?_
          have hst5 := sights_truth v0 rfl T hdl (by rw [ho]; exact hag) (show si.length ≤ 4 by omega) (fun s hs => by rw [ho]; exact hsp s hs)
          refine gh_awp (gh_rowcell (id := 10) (k := 3) (rid := 1021) rfl rfl rfl) ?_
          refine awp_region ?_
          refine sq rfl rfl hn rfl (q_loadAd rfl rfl (id := 10) rfl Try.underlying26 rfl sz26 rfl rfl sees0) ?_
          refine sq rfl rfl hn rfl (q_move rfl rfl) ?_
          refine stepW (s_store rfl rfl rfl rfl rfl rfl (id := 8) rfl sz26 rfl (Nat.le_of_ble_eq_true rfl) rfl trivial) fun _ => ?_
          refine sq rfl rfl hn rfl (q_assign rfl rfl) ?_
          refine run_nil ?_
          refine aend_then ?_
          refine awp_ret ?_
          refine gh_end (g_row (t := 9) (id := 12) rfl rfl) ?_
          exact ret_E (.inl rfl) ⟨(⟨(H : Int), start, es, si⟩, ts), rfl, rfl, hst5.1, ⟨ds, hst5.2⟩, hap_pref hap v hi7 si⟩ (hands_2d rfl (.d (.cellA rfl (id := 8) rfl Try.underlying26 rfl sz26 rfl rfl)) (.tmp rfl)) trivial
    · skip
      have hdh : day + w % 3 ≤ 9 ∧ 2 ≤ H := by simp at hb1; omega
      refine awp_skip ?_
      refine aend_then ?_
      refine awp_seq ?_
      refine awp_region ?_
      refine sq rfl rfl hn rfl (q_move rfl rfl) ?_
      refine sq rfl rfl hn rfl (q_quo rfl rfl rfl (r := ((w / 4 : Nat) : Int)) (by omega) (quoN (b := 4) (by omega) (by omega))) ?_
      refine sq rfl rfl hn rfl (q_move rfl rfl) ?_
      refine sq rfl rfl hn rfl (q_len rfl rfl Try.underlying22) ?_
      refine sq rfl rfl hn rfl (q_rem rfl rfl rfl (r := ((w / 4 % start.length : Nat) : Int)) (by simp only [List.length_map]; omega) (by simp only [List.length_map]; exact modN (by omega))) ?_
      refine sq rfl rfl hn rfl (q_buildd rfl bt67 rfl rfl rfl rfl rfl) ?_
      refine stepW (s_alloc 18 rfl rfl rfl (nb hn rfl) zr67 rfl rfl) fun b18 => ?_
      refine stepW (s_store rfl rfl rfl rfl rfl rfl (id := 18) rfl sz67 rfl (Nat.le_of_ble_eq_true rfl) rfl trivial) fun _ => ?_
      refine run_nil ?_
      refine aend_then ?_
      refine awp_seq ?_
      obtain ⟨s, hs⟩ : ∃ s, w / 4 % start.length = s := ⟨_, rfl⟩
      rw [hs]
      have hsl : s < start.length := hs ▸ Nat.mod_lt _ (by omega)
      have hnl := hap.nl
      have hfb := hap.nb _ (getD_mem (show s < now.length by omega))
      obtain ⟨f, hf⟩ : ∃ f : Nat, now.getD s 0 = f := ⟨(now.getD s 0).toNat, by omega⟩
      have hget : now[s]? = some (f : Int) := by rw [← hf]; exact getD_some (by omega)
      have hfH : f < H := by omega
      refine awp_region ?_
      refine sq rfl rfl hn rfl (q_move rfl rfl) ?_
      refine sq rfl rfl hn rfl (q_fieldAddr rfl rfl Try.underlying67 rfl sz3) ?_
      refine sq rfl rfl hn rfl (q_load rfl rfl (id := 18) rfl Try.underlying3 rfl rfl sees0) ?_
      refine sq rfl rfl hn rfl (q_indexV (i := s) rfl rfl rfl Try.underlying22 sz3 rfl hsl) ?_
      refine sq rfl rfl hn rfl (q_load rfl rfl (id := 1010) rfl Try.underlying3 rfl (c1_get hget (by show 0 + s * 1 = s; omega)) sees0) ?_
      refine sq rfl rfl hn rfl (q_fieldAddr rfl rfl Try.underlying67 rfl sz3) ?_
      refine stepW (s_store1 rfl rfl rfl rfl rfl rfl (id := 18) rfl sz3 (Nat.le_of_ble_eq_true rfl) rfl trivial) fun _ => ?_
      refine run_nil ?_
      refine aend_then ?_
      refine awp_seq ?_
      refine d_start (W := fun b => True) fmo ?_
      refine d1q (i := 0) rfl (by kernel_rfl) (fun _ _ _ _ h => h) rfl rfl hn rfl (q_fieldAddr rfl rfl Try.underlying67 rfl sz3) ?_
      refine d1q (i := 3) rfl (by kernel_rfl) (fun _ _ _ _ h => h) rfl rfl hn rfl (q_move rfl rfl) ?_
      refine d1q (i := 4) rfl (by kernel_rfl) (fun _ _ _ _ h => h) rfl rfl hn rfl (q_quo rfl rfl rfl (r := ((w / 16 : Nat) : Int)) (by omega) (quoN (b := 16) (by omega) (by omega))) ?_
      refine d1q (i := 5) rfl (by kernel_rfl) (fun _ _ _ _ h => h) rfl rfl hn rfl (q_move rfl rfl) ?_
      refine d1q (i := 6) rfl (by kernel_rfl) (fun _ _ _ _ h => h) rfl rfl hn rfl (q_sub rfl rfl rfl (r := ((H - 1 : Nat) : Int)) (i64w (by omega) (by omega))) ?_
      refine d1q (i := 7) rfl (by kernel_rfl) (fun _ _ _ _ h => h) rfl rfl hn rfl (q_rem rfl rfl rfl (r := ((w / 16 % (H - 1) : Nat) : Int)) (by omega) (modN (by omega))) ?_
      refine d1q (i := 9) rfl (by kernel_rfl) (fun _ _ _ _ h => h) rfl rfl hn rfl (q_move rfl rfl) ?_
      refine d1_of_d2 ?_
      refine d2_one (i := 1) (by kernel_rfl) rfl (quiet_wg _ [] (guard_none rfl) rfl (nb hn rfl) (fun _ => trivial) (fun _ => q_load rfl rfl (id := 18) rfl Try.underlying3 rfl rfl sees0)) fun _ => ?_
      refine d2_of_d1 ?_
      refine d1q (i := 2) rfl (by kernel_rfl) (fun _ _ _ _ h => h) rfl rfl hn rfl (q_add rfl rfl rfl (r := ((f + 1 : Nat) : Int)) (i64w (by omega) (by omega))) ?_
      refine d1q (i := 8) rfl (by kernel_rfl) (fun _ _ _ _ h => h) rfl rfl hn rfl (q_add rfl rfl rfl (r := ((f + 1 + w / 16 % (H - 1) : Nat) : Int)) (i64w (by have := Nat.mod_lt (w / 16) (show 0 < H - 1 by omega); omega) (by omega))) ?_
      refine d1q (i := 10) rfl (by kernel_rfl) (fun _ _ _ _ h => h) rfl rfl hn rfl (q_rem rfl rfl rfl (r := (((f + 1 + w / 16 % (H - 1)) % H : Nat) : Int)) (by omega) (modN (by omega))) ?_
      refine d1q (i := 11) rfl (by kernel_rfl) (fun _ _ _ _ h => h) rfl rfl hn rfl (q_fieldAddr rfl rfl Try.underlying67 rfl sz3) ?_
      refine d1_of_d2 ?_
      refine d2_one (i := 12) (by kernel_rfl) rfl (s_store1 rfl rfl rfl rfl rfl rfl (id := 18) rfl sz3 (Nat.le_of_ble_eq_true rfl) rfl trivial) fun _ => ?_
      refine d2_of_d1 ?_
      refine d1_of_d2 ?_
      refine d2_done (by kernel_rfl) ?_
      refine aend_then ?_
      refine awp_seq ?_
      refine awp_block ?_
      refine awp_seq ?_
      obtain ⟨hft, htH⟩ := rot_ne (a := w / 16) hfH hdh.2
      obtain ⟨to, hto⟩ : ∃ to, (f + 1 + w / 16 % (H - 1)) % H = to := ⟨_, rfl⟩
      rw [hto] at hft htH
      rw [hto]
      have hol := hap.ol
      have hob := hap.ob
      refine d_start (W := fun b => b ≠ b13 ∧ b ≠ b18) fmo ?_
      refine d1q (i := 0) rfl (by kernel_rfl) (fun _ _ _ _ h => h) rfl rfl hn rfl (q_fieldAddr rfl rfl Try.underlying67 rfl sz3) ?_
      refine d1q (i := 1) rfl (by kernel_rfl) (fun _ _ _ _ h => h) rfl rfl hn rfl (q_load rfl rfl (id := 18) rfl Try.underlying3 rfl rfl (seesA (by simp))) ?_
      refine d1q (i := 2) rfl (by kernel_rfl) (fun _ _ _ _ h => h) rfl rfl hn rfl (q_fieldAddr rfl rfl Try.underlying67 rfl sz3) ?_
      refine d1q (i := 3) rfl (by kernel_rfl) (fun _ _ _ _ h => h) rfl rfl hn rfl (q_load rfl rfl (id := 18) rfl Try.underlying3 rfl rfl (seesA (by simp))) ?_
      refine d1q (i := 4) rfl (by kernel_rfl) (fun _ _ _ _ h => h) rfl rfl hn rfl (q_indexA (i := to) rfl rfl rfl Try.underlying85 sz83 rfl (by omega)) ?_
      refine d1q (i := 5) rfl (by kernel_rfl) (fun _ _ _ _ h => h) rfl rfl hn rfl (q_indexA (i := f) rfl rfl rfl Try.underlying83 sz3 rfl (by omega)) ?_
      refine d1q (i := 6) rfl (by kernel_rfl) (fun _ _ _ _ h => h) rfl rfl hn rfl (q_load rfl rfl (id := 13) rfl Try.underlying3 rfl (at2 (getD_some (by omega))) (seesA (by simp))) ?_
      refine d1q (i := 7) rfl (by kernel_rfl) (fun _ _ _ _ h => h) rfl rfl hn rfl (q_gtr rfl rfl rfl) ?_
      refine d1q (i := 8) rfl (by kernel_rfl) (fun _ _ _ _ h => h) rfl rfl hn rfl (q_move rfl rfl) ?_
      refine d1g (i := 9) [] rfl (by kernel_rfl) (fun _ _ _ _ h => h) (guard_some rfl rfl rfl) rfl hn rfl (fun hc => trivial) (fun hc => q_move rfl rfl) ?_
      refine d1g (i := 10) [(90, _)] rfl (by kernel_rfl) (fun _ _ _ _ h => h) (guard_some rfl rfl rfl) rfl hn rfl (fun hc => ⟨⟨_, rfl, hc⟩, trivial⟩) (fun hc => q_rem rfl rfl rfl (r := ((u % 2 : Nat) : Int)) (by omega) (modN (b := 2) (by omega))) ?_
      refine d1g (i := 11) [(91, _)] rfl (by kernel_rfl) (fun _ _ _ _ h => h) (guard_some rfl rfl rfl) rfl hn rfl (fun hc => ⟨⟨_, rfl, hc⟩, trivial⟩) (fun hc => q_eql rfl rfl rfl) ?_
      refine d1q (i := 12) rfl (by kernel_rfl) (fun _ _ _ _ h => h) rfl rfl hn rfl (q_and rfl rfl rfl (by intro hB; first | (rw [hB]; rfl) | (rw [hB, hc]; rfl) | simp_all)) ?_
      refine d1q (i := 13) rfl (by kernel_rfl) (fun _ _ _ _ h => h) rfl rfl hn rfl (q_assign rfl rfl) ?_
      refine d1_of_d2 ?_
      refine d2_done (by kernel_rfl) ?_
      refine aend_then ?_
      refine awp_join_on (e := .normal) (ι := {p : Int × List Int // (p.1 = 2 ∧ 0 < op.getD (to * 4 + f) 0 ∧ p.2 = upd op (to * 4 + f) (-1)) ∨ (p.1 = 1 ∧ p.2 = upd op (f * 4 + to) 1) ∨ (p.1 = 0 ∧ p.2 = op)}) (fun x => anys [94, 95, 96, 97, 98, 99, 100, 101, 102, 103, 104, 106, 107, 108, 105, 109, 110, 111, 112, 113, 114, 115, 116, 117, 118, 119]) (fun x => [(18, .box b18 67 [.d (.int .i64 x.1.1), .d (.int .i64 (s : Nat)), .d (.int .i64 (f : Nat)), .d (.int .i64 (to : Nat)), .d (.int .i64 0), .d (.int .i64 0)]), (13, .box b13 85 (x.1.2.map intT))]) (fun hJ5 => ?_) ?_
      · skip
        refine awp_cond rfl (fun hb5 => ?_) (fun hb5 => ?_)
        · skip
          have hpos : 0 < op.getD (to * 4 + f) 0 := by simp only [Bool.and_eq_true, decide_eq_true_eq] at hb5; exact hb5.1
          have hog := hob _ (getD_mem (show to * 4 + f < op.length by omega))
          refine awp_seq ?_
          refine awp_region ?_
          refine sq rfl rfl hn rfl (q_fieldAddr rfl rfl Try.underlying67 rfl sz3) ?_
          refine stepW (s_store1 rfl rfl rfl rfl rfl rfl (id := 18) rfl sz3 (Nat.le_of_ble_eq_true rfl) rfl trivial) fun _ => ?_
          refine run_nil ?_
          refine aend_then ?_
          refine d_start (W := fun b => b ≠ b18) fmo ?_
          refine d1q (i := 0) rfl (by kernel_rfl) (fun _ _ _ _ h => h) rfl rfl hn rfl (q_fieldAddr rfl rfl Try.underlying67 rfl sz3) ?_
          refine d1q (i := 1) rfl (by kernel_rfl) (fun _ _ _ _ h => h) rfl rfl hn rfl (q_load rfl rfl (id := 18) rfl Try.underlying3 rfl rfl (seesA (by simp))) ?_
          refine d1q (i := 2) rfl (by kernel_rfl) (fun _ _ _ _ h => h) rfl rfl hn rfl (q_fieldAddr rfl rfl Try.underlying67 rfl sz3) ?_
          refine d1q (i := 3) rfl (by kernel_rfl) (fun _ _ _ _ h => h) rfl rfl hn rfl (q_load rfl rfl (id := 18) rfl Try.underlying3 rfl rfl (seesA (by simp))) ?_
          refine d1q (i := 4) rfl (by kernel_rfl) (fun _ _ _ _ h => h) rfl rfl hn rfl (q_indexA (i := to) rfl rfl rfl Try.underlying85 sz83 rfl (by omega)) ?_
          refine d1q (i := 5) rfl (by kernel_rfl) (fun _ _ _ _ h => h) rfl rfl hn rfl (q_indexA (i := f) rfl rfl rfl Try.underlying83 sz3 rfl (by omega)) ?_
          refine d1q (i := 8) rfl (by kernel_rfl) (fun _ _ _ _ h => h) rfl rfl hn rfl (q_indexA (i := to) rfl rfl rfl Try.underlying85 sz83 rfl (by omega)) ?_
          refine d1_of_d2 ?_
          refine d2_one (i := 6) (by kernel_rfl) rfl (quiet_wg _ [] (guard_none rfl) rfl (nb hn rfl) (fun _ => trivial) (fun _ => q_load rfl rfl (id := 13) rfl Try.underlying3 rfl (at2 (getD_some (by omega))) sees0)) fun _ => ?_
          refine d2_of_d1 ?_
          refine d1q (i := 7) rfl (by kernel_rfl) (fun _ _ _ _ h => h) rfl rfl hn rfl (q_sub rfl rfl rfl (r := op.getD (to * 4 + f) 0 + (-1)) (i64w (by omega) (by omega))) ?_
          refine d1q (i := 9) rfl (by kernel_rfl) (fun _ _ _ _ h => h) rfl rfl hn rfl (q_indexA (i := f) rfl rfl rfl Try.underlying83 sz3 rfl (by omega)) ?_
          refine d1_of_d2 ?_
          refine g_ne_d2 (i := 13) (j := 18) rfl rfl rfl (fun hne13_18 => ?_)
          refine d2_one (i := 10) (by kernel_rfl) rfl (s_store1 rfl rfl rfl rfl rfl rfl (id := 13) rfl sz3 (by simp; omega) (show _ = (upd op (to * 4 + f) (-1)).map intT from set2) (fun e => hne13_18 _ rfl (congrArg some e.symm))) fun _ => ?_
          refine d2_of_d1 ?_
          refine d1_of_d2 ?_
          refine d2_done (by kernel_rfl) ?_
          exact aend_join_on hJ5 ⟨(2, upd op (to * 4 + f) (-1)), .inl ⟨rfl, hpos, rfl⟩⟩ (holdT_anys _) ⟨.inl rfl, .inl rfl, trivial⟩ (by repeat (first | exact kr _ | refine kc rfl ?_)) (by repeat (first | exact kr _ | refine kc rfl ?_))
        · skip
          refine awp_seq ?_
          refine awp_region ?_
          refine sq rfl rfl hn rfl (q_move rfl rfl) ?_
          refine sq rfl rfl hn rfl (q_rem rfl rfl rfl (r := ((u % 3 : Nat) : Int)) (by omega) (modN (b := 3) (by omega))) ?_
          refine sq rfl rfl hn rfl (q_eql rfl rfl rfl) ?_
          refine sq rfl rfl hn rfl (q_assign rfl rfl) ?_
          refine run_nil ?_
          refine aend_then ?_
          refine awp_cond rfl (fun hb6 => ?_) (fun hb6 => ?_)
          · skip
            have hog := hob _ (getD_mem (show f * 4 + to < op.length by omega))
            refine awp_seq ?_
            refine awp_region ?_
            refine sq rfl rfl hn rfl (q_fieldAddr rfl rfl Try.underlying67 rfl sz3) ?_
            refine stepW (s_store1 rfl rfl rfl rfl rfl rfl (id := 18) rfl sz3 (Nat.le_of_ble_eq_true rfl) rfl trivial) fun _ => ?_
            refine run_nil ?_
            refine aend_then ?_
            refine d_start (W := fun b => b ≠ b18) fmo ?_
            refine d1q (i := 0) rfl (by kernel_rfl) (fun _ _ _ _ h => h) rfl rfl hn rfl (q_fieldAddr rfl rfl Try.underlying67 rfl sz3) ?_
            refine d1q (i := 1) rfl (by kernel_rfl) (fun _ _ _ _ h => h) rfl rfl hn rfl (q_load rfl rfl (id := 18) rfl Try.underlying3 rfl rfl (seesA (by simp))) ?_
            refine d1q (i := 2) rfl (by kernel_rfl) (fun _ _ _ _ h => h) rfl rfl hn rfl (q_fieldAddr rfl rfl Try.underlying67 rfl sz3) ?_
            refine d1q (i := 3) rfl (by kernel_rfl) (fun _ _ _ _ h => h) rfl rfl hn rfl (q_load rfl rfl (id := 18) rfl Try.underlying3 rfl rfl (seesA (by simp))) ?_
            refine d1q (i := 4) rfl (by kernel_rfl) (fun _ _ _ _ h => h) rfl rfl hn rfl (q_indexA (i := f) rfl rfl rfl Try.underlying85 sz83 rfl (by omega)) ?_
            refine d1q (i := 5) rfl (by kernel_rfl) (fun _ _ _ _ h => h) rfl rfl hn rfl (q_indexA (i := to) rfl rfl rfl Try.underlying83 sz3 rfl (by omega)) ?_
            refine d1q (i := 8) rfl (by kernel_rfl) (fun _ _ _ _ h => h) rfl rfl hn rfl (q_indexA (i := f) rfl rfl rfl Try.underlying85 sz83 rfl (by omega)) ?_
            refine d1_of_d2 ?_
            refine d2_one (i := 6) (by kernel_rfl) rfl (quiet_wg _ [] (guard_none rfl) rfl (nb hn rfl) (fun _ => trivial) (fun _ => q_load rfl rfl (id := 13) rfl Try.underlying3 rfl (at2 (getD_some (by omega))) sees0)) fun _ => ?_
            refine d2_of_d1 ?_
            refine d1q (i := 7) rfl (by kernel_rfl) (fun _ _ _ _ h => h) rfl rfl hn rfl (q_add rfl rfl rfl (r := op.getD (f * 4 + to) 0 + 1) (i64w (by omega) rfl)) ?_
            refine d1q (i := 9) rfl (by kernel_rfl) (fun _ _ _ _ h => h) rfl rfl hn rfl (q_indexA (i := to) rfl rfl rfl Try.underlying83 sz3 rfl (by omega)) ?_
            refine d1_of_d2 ?_
            refine g_ne_d2 (i := 13) (j := 18) rfl rfl rfl (fun hne13_18 => ?_)
            refine d2_one (i := 10) (by kernel_rfl) rfl (s_store1 rfl rfl rfl rfl rfl rfl (id := 13) rfl sz3 (by simp; omega) (show _ = (upd op (f * 4 + to) 1).map intT from set2) (fun e => hne13_18 _ rfl (congrArg some e.symm))) fun _ => ?_
            refine d2_of_d1 ?_
            refine d1_of_d2 ?_
            refine d2_done (by kernel_rfl) ?_
            exact aend_join_on hJ5 ⟨(1, upd op (f * 4 + to) 1), .inr (.inl ⟨rfl, rfl⟩)⟩ (holdT_anys _) ⟨.inl rfl, .inl rfl, trivial⟩ (by repeat (first | exact kr _ | refine kc rfl ?_)) (by repeat (first | exact kr _ | refine kc rfl ?_))
          · skip
            refine awp_skip ?_
            exact aend_join_on hJ5 ⟨(0, op), .inr (.inr ⟨rfl, rfl⟩)⟩ (holdT_anys _) ⟨.inl rfl, .inl rfl, trivial⟩ (by repeat (first | exact kr _ | refine kc rfl ?_)) (by repeat (first | exact kr _ | refine kc rfl ?_))
      · rintro ⟨⟨kd, op2⟩, hkd⟩
        dsimp only
        dsimp only at hkd
        refine aend_block ?_
        refine aend_then ?_
        refine awp_seq ?_
        refine awp_region ?_
        refine sq rfl rfl hn rfl (q_move rfl rfl) ?_
        refine sq rfl rfl hn rfl (q_fieldAddr rfl rfl Try.underlying67 rfl sz3) ?_
        refine sq rfl rfl hn rfl (q_load rfl rfl (id := 18) rfl Try.underlying3 rfl rfl sees0) ?_
        refine sq rfl rfl hn rfl (q_fieldAddr rfl rfl Try.underlying67 rfl sz3) ?_
        refine sq rfl rfl hn rfl (q_load rfl rfl (id := 18) rfl Try.underlying3 rfl rfl sees0) ?_
        refine sq rfl rfl hn rfl (q_indexV (i := s) rfl rfl rfl Try.underlying22 sz3 rfl hsl) ?_
        refine stepW (s_store1 rfl rfl rfl rfl rfl rfl (id := 1010) rfl sz3 (by show 0 + s * 1 < _; rw [List.length_append, c1_len]; omega) (c1_set (show s < now.length by omega) (by show 0 + s * 1 = s; omega)) trivial) fun _ => ?_
        refine run_nil ?_
        refine aend_then ?_
        refine awp_seq ?_
        refine awp_region ?_
        refine sq rfl rfl hn rfl (q_move rfl rfl) ?_
        refine sq rfl rfl hn rfl (q_move rfl rfl) ?_
        refine sq rfl rfl hn rfl (q_quo rfl rfl rfl (r := ((u / 8 : Nat) : Int)) (by omega) (quoN (b := 8) (by omega) (by omega))) ?_
        refine sq rfl rfl hn rfl (q_rem rfl rfl rfl (r := ((u / 8 % 3 : Nat) : Int)) (by omega) (modN (b := 3) (by omega))) ?_
        refine sq rfl rfl hn rfl (q_sub rfl rfl rfl (r := ((day + w % 3 : Nat) : Int) - ((u / 8 % 3 : Nat) : Int)) (i64w (by omega) rfl)) ?_
        refine sq rfl rfl hn rfl (q_max rfl rfl rfl) ?_
        refine sq rfl rfl hn rfl (q_move rfl rfl) ?_
        refine sq rfl rfl hn rfl (q_move rfl rfl) ?_
        refine sq rfl rfl hn rfl (q_quo rfl rfl rfl (r := ((u / 32 : Nat) : Int)) (by omega) (quoN (b := 32) (by omega) (by omega))) ?_
        refine sq rfl rfl hn rfl (q_rem rfl rfl rfl (r := ((u / 32 % 3 : Nat) : Int)) (by omega) (modN (b := 3) (by omega))) ?_
        refine sq rfl rfl hn rfl (q_add rfl rfl rfl (r := ((day + w % 3 : Nat) : Int) + ((u / 32 % 3 : Nat) : Int)) (i64w (by omega) rfl)) ?_
        refine sq rfl rfl hn rfl (q_min rfl rfl rfl) ?_
        refine sq rfl rfl hn rfl (q_buildd rfl bt49 rfl rfl rfl rfl rfl) ?_
        refine sq rfl rfl hn rfl (q_fieldAddr rfl rfl Try.underlying67 rfl sz49) ?_
        refine stepW (s_store rfl rfl rfl rfl rfl rfl (id := 18) rfl sz49 rfl (Nat.le_of_ble_eq_true rfl) rfl trivial) fun _ => ?_
        refine run_nil ?_
        refine aend_then ?_
        refine awp_region ?_
        refine sq rfl rfl hn rfl (q_fieldAddr rfl rfl Try.underlying26 rfl sz23) ?_
        refine sq rfl rfl hn rfl (q_load rfl rfl (id := 10) rfl Try.underlying23 rfl rfl sees0) ?_
        refine sq rfl rfl hn rfl (q_loadAd rfl rfl (id := 18) rfl Try.underlying67 rfl sz67 rfl rfl sees0) ?_
        refine stepW (s_buildSlice rfl rfl rfl (nb hn rfl) Try.underlying23 sz67 zr67 rfl rfl rfl (show _ = [.d (.int .i64 0), .d (.int .i64 0), .d (.int .i64 0), .d (.int .i64 0), .d (.int .i64 0), .d (.int .i64 0)] from by kernel_rfl) (by kernel_rfl) rfl (fill_agg (by kernel_rfl) rfl) (allD_d _) (beq_len rfl) (chunk_one rfl)) fun _ => ?_
        refine stepW (s_append (id := 1020) rfl rfl rfl (nb hn rfl) elt23 trivial rfl rfl rfl (by simp; omega) (by simp; omega) (fun b hb => trivial)) fun v144 => ?_
        refine sq rfl rfl hn rfl (q_move rfl rfl) ?_
        refine sq rfl rfl hn rfl (q_move rfl rfl) ?_
        refine stepW (s_buildSlice rfl rfl rfl (nb hn rfl) Try.underlying22 sz3 zr3 rfl rfl rfl (show _ = [.d (.int .i64 0)] from by kernel_rfl) (by kernel_rfl) rfl rfl rfl rfl rfl) fun _ => ?_
        refine stepW (s_append (id := 12) rfl rfl rfl (nb hn rfl) elt22 trivial rfl rfl rfl (by simp [chunk]; omega) (by simp [chunk]; omega) (fun b hb => trivial)) fun v148 => ?_
        refine sq rfl rfl hn rfl (q_fieldAddr rfl rfl Try.underlying26 rfl sz23) ?_
        refine stepW (s_storeRow rfl rfl rfl rfl rfl (rid := 1020) rfl (id := 10) rfl sz23 (Nat.le_of_ble_eq_true rfl) rfl trivial) fun _ => ?_
        refine sq rfl rfl hn rfl (q_assign rfl rfl) ?_
        refine run_nil ?_
        refine aend_block ?_
        refine aend_then ?_
        refine awp_region ?_
        refine sq rfl rfl hn rfl (q_move rfl rfl) ?_
        refine sq rfl rfl hn rfl (q_add rfl rfl rfl (r := ((i + 1 : Nat) : Int)) (i64w (by omega) (by omega))) ?_
        refine sq rfl rfl hn rfl (q_assign rfl rfl) ?_
        refine run_nil ?_
        exact aend_round_on ⟨((i + 1, day + w % 3), (now.set s (to : Nat), op2), (es ++ [⟨kd, (s : Nat), (f : Nat), (to : Nat), max 0 (((day + w % 3 : Nat) : Int) - ((u / 8 % 3 : Nat) : Int)), min 9 (((day + w % 3 : Nat) : Int) + ((u / 32 % 3 : Nat) : Int))⟩], ts ++ [((day + w % 3 : Nat) : Int)]), v144, v148), by simp only; omega, by simp only; omega, (hap.idle (day' := day + w % 3) (by omega)).stepN (by omega) hsl hs4 hf (by omega) hft (by omega) (by omega) hkd⟩ ⟨.inl rfl, .inl rfl, .inl rfl, holdT_anys _⟩ ⟨.inl rfl, .inl (congrArg (fun z => some (Res.row v144 67 6 z)) (ents_add (e := ⟨kd, (s : Nat), (f : Nat), (to : Nat), max 0 (((day + w % 3 : Nat) : Int) - ((u / 8 % 3 : Nat) : Int)), min 9 (((day + w % 3 : Nat) : Int) + ((u / 32 % 3 : Nat) : Int))⟩))), .inl (congrArg (fun z => some (Res.row v148 3 1 z)) (ints_add (x := ((day + w % 3 : Nat) : Int)))), .inl rfl, .inl rfl, holdR_gones _⟩ (by simp only; omega) (by repeat (first | exact kr _ | refine kc rfl ?_)) (by repeat (first | exact kr _ | refine kc rfl ?_))
  · skip
    refine awp_exit ?_
    refine aend_then_exit ?_
    refine aend_then_exit ?_
    refine aend_block_exit ?_
    refine aend_then ?_
    refine awp_seq ?_
    refine awp_seq ?_
    have hi7 : i ≤ 6 := by omega
    obtain ⟨v0, ds, T, hdl, hag⟩ := hap.reg v hi7
    have hrp := truth_play v0 T
    have hout := refPlay_len v0 ts
    obtain ⟨o, ho⟩ : ∃ o, (refPlay (hapReg (H : Int) start es []) ts).1 = o := ⟨_, rfl⟩
    rw [ho] at hout hag
    refine gh_awp (gh_rowcell (id := 10) (k := 2) (rid := 1020) rfl rfl rfl) ?_
    refine awp_region ?_
    refine sq rfl rfl hn rfl (q_loadAd rfl rfl (id := 10) rfl Try.underlying26 rfl sz26 rfl rfl sees0) ?_
    refine sq rfl rfl hn rfl (q_move rfl rfl) ?_
    refine gh_run (g_row (t := 151) (id := 12) rfl rfl) ?_
    refine stepW (s_call [] (fun _ => IsDated_ok (hapReg (H : Int) start es []) ts) rfl (guard_none rfl) rfl (nb hn rfl) (fun _ => trivial) rfl rfl (by first | exact .refl _ | (repeat (first | exact .refl _ | exact .nil _ | refine .cons ?_ ?_ | refine .agg ?_ | refine .tup ?_)))) fun _ => ?_
    refine sq rfl rfl hn rfl (q_not rfl rfl) ?_
    refine run_nil ?_
    refine aend_then ?_
    refine awp_cond rfl (fun hb7 => ?_) (fun hb7 => ?_)
    · skip
      exact absurd hb7 (by rw [show datedF (hapReg (H : Int) start es []).entries ts = true from hap.da]; simp)
    · skip
      refine awp_skip ?_
      refine aend_then ?_
      refine awp_seq ?_
      refine awp_region ?_
      refine sq rfl rfl hn rfl (q_loadAd rfl rfl (id := 10) rfl Try.underlying26 rfl sz26 rfl rfl sees0) ?_
      refine sq rfl rfl hn rfl (q_move rfl rfl) ?_
      refine gh_run (g_row (t := 158) (id := 12) rfl rfl) ?_
      refine stepW (s_call [] (fun _ => (by have h6 := refPlay_ok (hapReg (H : Int) start es []) ts v0 hap.tl; rw [hrp, ho] at h6; exact h6)) rfl (guard_none rfl) rfl (nb hn rfl) (fun _ => trivial) rfl rfl (by first | exact .refl _ | (repeat (first | exact .refl _ | exact .nil _ | refine .cons ?_ ?_ | refine .agg ?_ | refine .tup ?_)))) fun _ => ?_
      refine sq rfl rfl hn rfl (q_move rfl rfl) ?_
      refine sq rfl rfl hn rfl (q_extractd rfl rfl rfl) ?_
      refine sq rfl rfl hn rfl (q_extractd rfl rfl rfl) ?_
      refine stepW (s_alloc 19 rfl rfl rfl (nb hn rfl) zr88 (zerosT 200) (by kernel_rfl)) fun b19 => ?_
      refine stepW (s_store rfl rfl rfl rfl rfl rfl (id := 19) rfl sz88 (cells_len hout) (Nat.le_of_ble_eq_true rfl) (store_all (by simp)) trivial) fun _ => ?_
      refine sq rfl rfl hn rfl (q_assign rfl rfl) ?_
      refine run_nil ?_
      refine aend_then ?_
      refine awp_seq ?_
      refine awp_seq ?_
      refine gh_awp (gh_nilcell (id := 10) (k := 3) 1021 59 3 rfl rfl) ?_
      refine awp_region ?_
      refine sq rfl rfl hn rfl (q_assign rfl rfl) ?_
      refine run_nil ?_
      refine aend_then ?_
      refine awp_block ?_
      refine awp_loop_on (ι := {x : Nat × List Sight5 × Value // x.1 ≤ wordN words 5 % 5 ∧ x.2.1.length ≤ x.1 ∧ ∀ s ∈ x.2.1, (0 ≤ s.sheet ∧ s.sheet ≤ (start.length : Int) - 1) ∧ (0 ≤ s.day ∧ s.day ≤ 9) ∧ s.house = houseAt o s.day.toNat s.sheet.toNat}) (fun x => (21, true, .d (.int .i64 (x.1.1 : Nat))) :: anys [162, 163, 164, 165, 166, 167, 168, 169, 172, 173, 174, 175, 176, 22, 177, 178, 179, 180, 181, 182, 183, 184, 23, 185, 186, 187, 188, 189, 190, 191, 192, 193, 194, 195, 196, 197, 198, 199, 170, 171]) (fun x => (10, .box b10 26 [.d (.int .i64 (H : Nat)), .d (ints start), .d (entsD es), .val x.1.2.2]) :: (1021, .row x.1.2.2 59 3 (x.1.2.1.map sightE)) :: gones [23]) (fun x => wordN words 5 % 5 - x.1.1) ⟨(0, [], .slice none 0 0), Nat.zero_le _, Nat.le_refl _, fun _ h => (by cases h)⟩ ⟨.inl rfl, holdT_anys _⟩ ⟨.inl rfl, .inl rfl, holdR_gones _⟩ ?_
      rintro ⟨⟨k, si, vS⟩, hk5, hsi, hsp⟩
      dsimp only
      dsimp only at hk5 hsi hsp
      refine awp_seq ?_
      refine awp_seq ?_
      refine awp_region ?_
      refine sq rfl rfl hn rfl (q_move rfl rfl) ?_
      refine sq rfl rfl hn rfl (q_move rfl rfl) ?_
      refine stepW (s_call [] (fun _ => word_ok words 5 hw5) rfl (guard_none rfl) rfl (nb hn rfl) (fun _ => trivial) rfl rfl (.refl _)) fun _ => ?_
      refine sq rfl rfl hn rfl (q_rem rfl rfl rfl (r := ((wordN words 5 % 5 : Nat) : Int)) (by omega) (modN (b := 5) (by omega))) ?_
      refine sq rfl rfl hn rfl (q_lss rfl rfl rfl) ?_
      refine sq rfl rfl hn rfl (q_move rfl rfl) ?_
      refine stepG [] (guard_some rfl rfl rfl) rfl (nb hn rfl) (fun hc => trivial) (fun hc => q_move rfl rfl) ?_
      refine sq rfl rfl hn rfl (q_and rfl rfl rfl (by intro hB; first | (rw [hB]; rfl) | (rw [hB, hc]; rfl) | simp_all)) ?_
      refine run_nil ?_
      refine aend_then ?_
      refine awp_cond rfl (fun hb8 => ?_) (fun hb8 => ?_)
      · skip
        have hkl : k < wordN words 5 % 5 := by simp at hb8; omega
        refine awp_skip ?_
        refine aend_then ?_
        refine awp_seq ?_
        refine awp_block ?_
        refine awp_seq ?_
        refine awp_region ?_
        refine sq rfl rfl hn rfl (q_move rfl rfl) ?_
        refine sq rfl rfl hn rfl (q_move rfl rfl) ?_
        refine sq rfl rfl hn rfl (q_mul rfl rfl rfl (r := ((3 * k : Nat) : Int)) (i64w (by omega) (by omega))) ?_
        refine sq rfl rfl hn rfl (q_add rfl rfl rfl (r := ((3 * k + 2 : Nat) : Int)) (i64w (by omega) (by omega))) ?_
        refine stepW (s_call [] (fun _ => word_ok words (3 * k + 2) hw5) rfl (guard_none rfl) rfl (nb hn rfl) (fun _ => trivial) rfl rfl (.refl _)) fun _ => ?_
        refine sq rfl rfl hn rfl (q_assign rfl rfl) ?_
        refine run_nil ?_
        refine aend_then ?_
        refine awp_seq ?_
        obtain ⟨q, hq⟩ : ∃ q, wordN words (3 * k + 2) = q := ⟨_, rfl⟩
        have hql : q < 65536 := hq ▸ wordN_lt hw5
        rw [hq]
        have hqm := Nat.mod_lt q (show 0 < start.length by omega)
        refine awp_region ?_
        refine sq rfl rfl hn rfl (q_move rfl rfl) ?_
        refine sq rfl rfl hn rfl (q_move rfl rfl) ?_
        refine sq rfl rfl hn rfl (q_len rfl rfl Try.underlying22) ?_
        refine sq rfl rfl hn rfl (q_rem rfl rfl rfl (r := ((q % start.length : Nat) : Int)) (by simp only [List.length_map]; omega) (by simp only [List.length_map]; exact modN (by omega))) ?_
        refine sq rfl rfl hn rfl (q_move rfl rfl) ?_
        refine sq rfl rfl hn rfl (q_quo rfl rfl rfl (r := ((q / 8 : Nat) : Int)) (by omega) (quoN (b := 8) (by omega) (by omega))) ?_
        refine sq rfl rfl hn rfl (q_rem rfl rfl rfl (r := ((q / 8 % 10 : Nat) : Int)) (by omega) (modN (b := 10) (by omega))) ?_
        refine sq rfl rfl hn rfl (q_buildd rfl bt59 rfl rfl rfl rfl rfl) ?_
        refine stepW (s_alloc 23 rfl rfl rfl (nb hn rfl) zr59 rfl rfl) fun b23 => ?_
        refine stepW (s_store rfl rfl rfl rfl rfl rfl (id := 23) rfl sz59 rfl (Nat.le_of_ble_eq_true rfl) rfl trivial) fun _ => ?_
        refine run_nil ?_
        refine aend_then ?_
        refine awp_seq ?_
        refine awp_join_on (e := .normal) (ι := Unit) (fun x => anys [185, 186, 187, 188, 189, 190, 191, 192, 193]) (fun x => [(23, .box b23 59 [.d (.int .i64 ((q % start.length : Nat) : Int)), .d (.int .i64 (houseAt o (q / 8 % 10) (q % start.length))), .d (.int .i64 ((q / 8 % 10 : Nat) : Int))])]) (fun hJ9 => ?_) ?_
        · skip
          refine d_start (W := fun b => b ≠ b19) fmo ?_
          refine d1q (i := 0) rfl (by kernel_rfl) (fun _ _ _ _ h => h) rfl rfl hn rfl (q_fieldAddr rfl rfl Try.underlying59 rfl sz3) ?_
          refine d1q (i := 2) rfl (by kernel_rfl) (fun _ _ _ _ h => h) rfl rfl hn rfl (q_fieldAddr rfl rfl Try.underlying59 rfl sz3) ?_
          refine d1q (i := 4) rfl (by kernel_rfl) (fun _ _ _ _ h => h) rfl rfl hn rfl (q_fieldAddr rfl rfl Try.underlying88 rfl sz84) ?_
          refine d1_of_d2 ?_
          refine d2_all 1 [3] (by kernel_rfl) ⟨?_, ?_, trivial⟩
          · skip
            refine br rfl (quiet_wg _ [] (guard_none rfl) rfl (nb hn rfl) (fun _ => trivial) (fun _ => q_load rfl rfl (id := 23) rfl Try.underlying3 rfl rfl sees0)) fun _ => ?_
            refine d2_of_d1 ?_
            refine d1q (i := 5) rfl (by kernel_rfl) (fun _ _ _ _ h => h) rfl rfl hn rfl (q_indexA (i := q / 8 % 10) rfl rfl rfl Try.underlying84 sz83 rfl (by omega)) ?_
            refine d1_of_d2 ?_
            refine d2_one (i := 3) (by kernel_rfl) rfl (quiet_wg _ [] (guard_none rfl) rfl (nb hn rfl) (fun _ => trivial) (fun _ => q_load rfl rfl (id := 23) rfl Try.underlying3 rfl rfl sees0)) fun _ => ?_
            refine d2_of_d1 ?_
            refine d1q (i := 6) rfl (by kernel_rfl) (fun _ _ _ _ h => h) rfl rfl hn rfl (q_indexA (i := q % start.length) rfl rfl rfl Try.underlying83 sz3 rfl (by omega)) ?_
            refine d1q (i := 7) rfl (by kernel_rfl) (fun _ _ _ _ h => h) rfl rfl hn rfl (q_load rfl rfl (id := 19) rfl Try.underlying3 rfl (at0 (by show 0 + 0 + (q / 8 % 10) * 4 + (q % start.length) * 1 = (q / 8 % 10) * 4 + (q % start.length); omega) (getD_some (by omega))) (seesA (by simp))) ?_
            refine d1q (i := 8) rfl (by kernel_rfl) (fun _ _ _ _ h => h) rfl rfl hn rfl (q_fieldAddr rfl rfl Try.underlying59 rfl sz3) ?_
            refine d1_of_d2 ?_
            refine g_ne_d2 (i := 23) (j := 19) rfl rfl rfl (fun hne23_19 => ?_)
            refine d2_one (i := 9) (by kernel_rfl) rfl (s_store1 rfl rfl rfl rfl rfl rfl (id := 23) rfl sz3 (Nat.le_of_ble_eq_true rfl) rfl (fun e => hne23_19 _ rfl (congrArg some e.symm))) fun _ => ?_
            refine d2_of_d1 ?_
            refine d1_of_d2 ?_
            refine d2_done (by kernel_rfl) ?_
            exact aend_join_on hJ9 () (holdT_anys _) ⟨.inl rfl, trivial⟩ (by repeat (first | exact kr _ | refine kc rfl ?_)) (by repeat (first | exact kr _ | refine kc rfl ?_))
          · skip
            refine br rfl (quiet_wg _ [] (guard_none rfl) rfl (nb hn rfl) (fun _ => trivial) (fun _ => q_load rfl rfl (id := 23) rfl Try.underlying3 rfl rfl sees0)) fun _ => ?_
            refine d2_of_d1 ?_
            refine d1_of_d2 ?_
            refine d2_one (i := 1) (by kernel_rfl) rfl (quiet_wg _ [] (guard_none rfl) rfl (nb hn rfl) (fun _ => trivial) (fun _ => q_load rfl rfl (id := 23) rfl Try.underlying3 rfl rfl sees0)) fun _ => ?_
            refine d2_of_d1 ?_
            refine d1q (i := 5) rfl (by kernel_rfl) (fun _ _ _ _ h => h) rfl rfl hn rfl (q_indexA (i := q / 8 % 10) rfl rfl rfl Try.underlying84 sz83 rfl (by omega)) ?_
            refine d1q (i := 6) rfl (by kernel_rfl) (fun _ _ _ _ h => h) rfl rfl hn rfl (q_indexA (i := q % start.length) rfl rfl rfl Try.underlying83 sz3 rfl (by omega)) ?_
            refine d1q (i := 7) rfl (by kernel_rfl) (fun _ _ _ _ h => h) rfl rfl hn rfl (q_load rfl rfl (id := 19) rfl Try.underlying3 rfl (at0 (by show 0 + 0 + (q / 8 % 10) * 4 + (q % start.length) * 1 = (q / 8 % 10) * 4 + (q % start.length); omega) (getD_some (by omega))) (seesA (by simp))) ?_
            refine d1q (i := 8) rfl (by kernel_rfl) (fun _ _ _ _ h => h) rfl rfl hn rfl (q_fieldAddr rfl rfl Try.underlying59 rfl sz3) ?_
            refine d1_of_d2 ?_
            refine g_ne_d2 (i := 23) (j := 19) rfl rfl rfl (fun hne23_19 => ?_)
            refine d2_one (i := 9) (by kernel_rfl) rfl (s_store1 rfl rfl rfl rfl rfl rfl (id := 23) rfl sz3 (Nat.le_of_ble_eq_true rfl) rfl (fun e => hne23_19 _ rfl (congrArg some e.symm))) fun _ => ?_
            refine d2_of_d1 ?_
            refine d1_of_d2 ?_
            refine d2_done (by kernel_rfl) ?_
            exact aend_join_on hJ9 () (holdT_anys _) ⟨.inl rfl, trivial⟩ (by repeat (first | exact kr _ | refine kc rfl ?_)) (by repeat (first | exact kr _ | refine kc rfl ?_))
        · rintro _
          refine aend_then ?_
          refine awp_region ?_
          refine sq rfl rfl hn rfl (q_fieldAddr rfl rfl Try.underlying26 rfl sz24) ?_
          refine sq rfl rfl hn rfl (q_load rfl rfl (id := 10) rfl Try.underlying24 rfl rfl sees0) ?_
          refine sq rfl rfl hn rfl (q_loadAd rfl rfl (id := 23) rfl Try.underlying59 rfl sz59 rfl rfl sees0) ?_
          refine stepW (s_buildSlice rfl rfl rfl (nb hn rfl) Try.underlying24 sz59 zr59 rfl rfl rfl (show _ = [.d (.int .i64 0), .d (.int .i64 0), .d (.int .i64 0)] from by kernel_rfl) (by kernel_rfl) rfl (fill_agg (by kernel_rfl) rfl) (allD_d _) (beq_len rfl) (chunk_one rfl)) fun _ => ?_
          refine stepW (s_append (id := 1021) rfl rfl rfl (nb hn rfl) elt24 trivial rfl rfl rfl (by simp; omega) (by simp; omega) (fun b hb => trivial)) fun v198 => ?_
          refine sq rfl rfl hn rfl (q_fieldAddr rfl rfl Try.underlying26 rfl sz24) ?_
          refine stepW (s_storeRow rfl rfl rfl rfl rfl (rid := 1021) rfl (id := 10) rfl sz24 (Nat.le_of_ble_eq_true rfl) rfl trivial) fun _ => ?_
          refine run_nil ?_
          refine aend_block ?_
          refine aend_then ?_
          refine awp_region ?_
          refine sq rfl rfl hn rfl (q_move rfl rfl) ?_
          refine sq rfl rfl hn rfl (q_add rfl rfl rfl (r := ((k + 1 : Nat) : Int)) (i64w (by omega) (by omega))) ?_
          refine sq rfl rfl hn rfl (q_assign rfl rfl) ?_
          refine run_nil ?_
          exact aend_round_on ⟨(k + 1, si ++ [⟨(q % start.length : Nat), houseAt o (q / 8 % 10) (q % start.length), (q / 8 % 10 : Nat)⟩], v198), by simp only; omega, by simp; omega, fun s hs => by rcases List.mem_append.1 hs with hs | hs; exact hsp s hs; rw [List.mem_singleton] at hs; subst hs; exact ⟨⟨by show (0 : Int) ≤ ((q % start.length : Nat) : Int); omega, by show ((q % start.length : Nat) : Int) ≤ _; omega⟩, ⟨by show (0 : Int) ≤ ((q / 8 % 10 : Nat) : Int); omega, by show ((q / 8 % 10 : Nat) : Int) ≤ _; omega⟩, rfl⟩⟩ ⟨.inl rfl, holdT_anys _⟩ ⟨.inl rfl, .inl (congrArg (fun z => some (Res.row v198 59 3 z)) (sights_add (x := ⟨((q % start.length : Nat) : Int), houseAt o (q / 8 % 10) (q % start.length), ((q / 8 % 10 : Nat) : Int)⟩))), holdR_gones _⟩ (by simp only; omega) (by repeat (first | exact kr _ | refine kc rfl ?_)) (by repeat (first | exact kr _ | refine kc rfl ?_))
      · skip
        refine awp_exit ?_
        refine aend_then_exit ?_
        refine aend_then_exit ?_
        refine aend_block_exit ?_
        refine aend_then ?_
        refine awp_seq ?_
        have hst5 := sights_truth v0 rfl T hdl (by rw [ho]; exact hag) (show si.length ≤ 4 by omega) (fun s hs => by rw [ho]; exact hsp s hs)
        refine gh_awp (gh_rowcell (id := 10) (k := 3) (rid := 1021) rfl rfl rfl) ?_
        refine awp_region ?_
        refine sq rfl rfl hn rfl (q_loadAd rfl rfl (id := 10) rfl Try.underlying26 rfl sz26 rfl rfl sees0) ?_
        refine sq rfl rfl hn rfl (q_move rfl rfl) ?_
        refine stepW (s_store rfl rfl rfl rfl rfl rfl (id := 8) rfl sz26 rfl (Nat.le_of_ble_eq_true rfl) rfl trivial) fun _ => ?_
        refine sq rfl rfl hn rfl (q_assign rfl rfl) ?_
        refine run_nil ?_
        refine aend_then ?_
        refine awp_ret ?_
        refine gh_end (g_row (t := 9) (id := 12) rfl rfl) ?_
        exact ret_E (.inl rfl) ⟨(⟨(H : Int), start, es, si⟩, ts), rfl, rfl, hst5.1, ⟨ds, hst5.2⟩, hap_pref hap v hi7 si⟩ (hands_2d rfl (.d (.cellA rfl (id := 8) rfl Try.underlying26 rfl sz26 rfl rfl)) (.tmp rfl)) trivial
end Go.Proofs.Ytnbmmopjkkofoaa
