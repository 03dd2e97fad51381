/-
  Walks by the rules of Base, printed by gen.py: what is asked of the evenings. No condition: no statement of the seat is proved here.
-/
import Derived.Test.YtnbmmopjkkofoaaW11
namespace Go.Proofs.Ytnbmmopjkkofoaa
open Go.RowKit
set_option maxRecDepth 20000
set_option linter.all false

theorem first_ok (r : Reg) : PureAt Try.prog 38 [regD r] (.tup [.int .i64 (firstR r).1, .int .i64 (firstR r).2]) := PureAt.of_eff (ds := [regD r]) (first_eff r)
theorem leave_all (r : Reg) (v : Valid r) (b2 b3 S : Nat) (hS : S ≤ 50) : ∀ k, LeaveOK r b2 b3 S k := by
  intro k
  induction k with
  | zero => intro out f x hf hk; exact leave_step r v b2 b3 S 0 hS (fun k1 h => by omega) out f x hf hk
  | succ k ih => intro out f x hf hk; exact leave_step r v b2 b3 S (k + 1) hS (fun k1 h => by cases h; exact ih) out f x hf hk
def sumR (r : Reg) : Nat := r.entries.length + r.sights.length
def leaveK (r : Reg) (k : Nat) : Option (List Int) := leaveS r (sumR r) k [] 0
def leaveGo (r : Reg) : Nat → Nat → List Int
  | 0, _ => []
  | c + 1, k => match leaveK r k with
    | some l => l
    | none => leaveGo r c (k + 1)
/-- What is left out, and the error. -/
def leaveR (r : Reg) : List Int × Int := if checkE r ≠ 0 then ([], checkE r) else (leaveGo r (sumR r + 1) 0, 0)
theorem goes_empty {r : Reg} (he : r.entries = []) (hs : r.sights = []) : ∀ (k d m : Nat), 10 - d ≤ k → goesB r d 0 m = true
  | 0, d, m, h => goesB_end (by omega)
  | k + 1, d, m, h => by
    by_cases hd : 9 < d
    · exact goesB_end hd
    · have := goesB_day (r := r) (d := d) (m := m) (by omega)
      rw [he] at this
      rw [show (0 : Nat) = ([] : List Ent5).length from rfl, this, goes_empty he hs k (d + 1) m (by omega)]
      simp [seenN, hs]
theorem dropF_all {α : Type} {out : List Int} : ∀ {k : Nat} {l : List α}, (∀ j, k ≤ j → j < k + l.length → (j : Int) ∈ out) → dropF out k l = []
  | _, [], _ => rfl
  | k, x :: l, h => by
    have h1 : (out.any fun n => (k : Int) == n) = true := List.any_eq_true.2 ⟨_, h k (Nat.le_refl _) (by simp), by simp⟩
    rw [dropF, h1]
    exact dropF_all fun j h2 h3 => h j (by omega) (by simp only [List.length_cons]; omega)
theorem leave_full (r : Reg) (S : Nat) (hS : S = sumR r) : ∀ (k f : Nat) (out : List Int), f + k = S → (∀ j : Nat, j < f → (j : Int) ∈ out) → ∃ l, leaveS r S k out f = some l
  | 0, f, out, h, ho => by
    have he : dropF out 0 r.entries = [] := dropF_all fun j _ h2 => ho j (by rw [sumR] at hS; omega)
    have hs : dropF out r.entries.length r.sights = [] := dropF_all fun j _ h2 => ho j (by rw [sumR] at hS; omega)
    refine ⟨out, ?_⟩
    rw [leaveS, goes_empty (r := dropR r out) he hs 10 0 0 (by omega)]
    rfl
  | k + 1, f, out, h, ho => by
    obtain ⟨l, hl⟩ := leave_full r S hS k (f + 1) (out ++ [(f : Int)]) (by omega) fun j hj => by
      by_cases e : j = f
      · subst e; simp
      · exact List.mem_append_left _ (ho j (by omega))
    refine ⟨l, ?_⟩
    show leaveN r S k out f = some l
    rw [leaveN_step (by omega), hl]
    rfl
theorem leaveGo_step {r : Reg} {k : Nat} {l : List Int} (hk : k ≤ sumR r) (h : leaveK r k = some l) : leaveGo r (sumR r + 1 - k) k = l := by
  rw [show sumR r + 1 - k = (sumR r - k) + 1 by omega, leaveGo, h]
theorem leaveGo_next {r : Reg} {k : Nat} (hk : k ≤ sumR r) (h : leaveK r k = none) : leaveGo r (sumR r + 1 - k) k = leaveGo r (sumR r + 1 - (k + 1)) (k + 1) := by
  rw [show sumR r + 1 - k = (sumR r + 1 - (k + 1)) + 1 by omega, leaveGo, h]
theorem leaveK_some (r : Reg) : ∃ l, leaveK r (sumR r) = some l := leave_full r (sumR r) rfl (sumR r) 0 [] (by omega) fun j hj => by omega
/-- A way of the walk: a spot, and the days on which what has happened happened. -/
inductive PathTo (r : Reg) : Nat → Nat → Nat → List Int → Prop
  | start : PathTo r 0 0 0 (List.replicate r.entries.length 0)
  | day {d m ts} (h : PathTo r d r.entries.length m ts) (hd : d ≤ 9) (hs : seenN r d m = true) : PathTo r (d + 1) 0 m ts
  | next {d n m ts s} (h : PathTo r d n m ts) (hd : d ≤ 9) (hs : s ∈ nextL r d n m) : PathTo r s.1 s.2.1 s.2.2 (if s.2.2 = m then ts else ts.set n (d : Int))
def ExplP (r : Reg) (x : List Int × Int) : Prop :=
  (checkE r ≠ 0 ∧ x = ([], checkE r)) ∨ (checkE r = 0 ∧ goesB r 0 0 0 = false ∧ x = ([], 9)) ∨ (checkE r = 0 ∧ goesB r 0 0 0 = true ∧ x.2 = 0 ∧ x.1.length = r.entries.length ∧ ∃ n m, PathTo r 10 n m x.1)
abbrev ES := (Nat × Nat × Nat) × List Int × (D → D → Prop) × Nat × List Nat
def ExplI (r : Reg) (x : ES) : Prop := x.1.1 ≤ 10 ∧ x.1.2.1 ≤ r.entries.length ∧ x.1.2.2 < 2 ^ r.entries.length ∧ x.2.1.length = r.entries.length ∧ Good r x.2.2.1 ∧ goesB r x.1.1 x.1.2.1 x.1.2.2 = true ∧ PathTo r x.1.1 x.1.2.1 x.1.2.2 x.2.1
def ExplX (r : Reg) : Type := {x : List Int × Int // ExplP r x}
theorem rep_int (n : Nat) : (List.replicate n [TV.d (.int .i64 0)]).flatten = (List.replicate n (0 : Int)).map fun n => TV.d (.int .i64 n) := by
  induction n with
  | zero => rfl
  | succ n ih => rw [List.replicate_succ, List.flatten_cons, ih]; rfl
theorem set_int (l : List Int) (i : Nat) (x : Int) : (l.map fun n => TV.d (.int .i64 n)).set (0 + i * 1) (.d (.int .i64 x)) = (l.set i x).map fun n => TV.d (.int .i64 n) := by
  rw [List.map_set, Nat.zero_add, Nat.mul_one]
theorem allD_ints (l : List Int) : allD (l.map fun n => TV.d (.int .i64 n)) = some (l.map intD) := by
  rw [show (l.map fun n => TV.d (.int .i64 n)) = (l.map intD).map .d by simp [intD]]
  exact allD_d _
theorem sz115 : Sz Try.prog 115 1 := (by kernel_rfl : (Try.prog.info? 115).map (·.size) = some 1)
theorem sz125 : Sz Try.prog 125 1 := (by kernel_rfl : (Try.prog.info? 125).map (·.size) = some 1)
theorem zr115 : (Try.prog.info? 115).map (·.zero) = some (some (.pointer none)) := by kernel_rfl
theorem zr125 : (Try.prog.info? 125).map (·.zero) = some (some .nilFunc) := by kernel_rfl

theorem leave_eff (r : Reg) : EffAt Try.prog 35 [.d (regD r)] [] (X := Unit) (fun _ => .d (.tup [ints (leaveR r).1, .int .i64 (leaveR r).2])) (fun _ => []) := by
  refine EffAt.of_awp Try.func35 rfl (by kernel_rfl) rfl fun Γ hn => ?_
  refine awp_seq ?_
  refine awp_region ?_
  refine stepW (s_box 1 rfl rfl rfl (nb hn rfl) rfl rfl) fun b1 => ?_
  refine sq rfl rfl hn rfl (q_assign rfl rfl) ?_
  refine sq rfl rfl hn rfl (q_assign rfl rfl) ?_
  refine run_nil ?_
  refine aend_then ?_
  refine awp_scope ?_
  refine awp_seq ?_
  refine awp_seq ?_
  refine awp_region ?_
  refine sq rfl rfl hn rfl (q_loadAd rfl rfl (id := 1) rfl Try.underlying35 rfl sz35 rfl rfl sees0) ?_
  refine stepW (s_call [] (fun _ => CheckRegister_ok _) rfl (guard_none rfl) rfl (nb hn rfl) (fun _ => trivial) rfl rfl (.refl _)) fun _ => ?_
  refine sq rfl rfl hn rfl (q_assign rfl rfl) ?_
  refine run_nil ?_
  refine aend_then ?_
  refine awp_seq ?_
  refine awp_region ?_
  refine sq rfl rfl hn rfl (q_move rfl rfl) ?_
  refine sq rfl rfl hn rfl (q_neq rfl rfl rfl) ?_
  refine run_nil ?_
  refine aend_then ?_
  refine awp_cond rfl (fun hb0 => ?_) (fun hb0 => ?_)
  · simp only [bne_iff_ne, ne_eq] at hb0
    have hc0 : checkE r ≠ 0 := hb0
    refine awp_seq ?_
    refine awp_region ?_
    refine sq rfl rfl hn rfl (q_move rfl rfl) ?_
    refine sq rfl rfl hn rfl (q_assign rfl rfl) ?_
    refine sq rfl rfl hn rfl (q_assign rfl rfl) ?_
    refine run_nil ?_
    refine aend_then ?_
    refine awp_ret ?_
    refine aend_then_ret ?_
    refine aend_scope ?_ (fun _ e => by cases e)
    exact ret_E (.inl rfl) () ((hands_2d rfl (.tmp rfl) (.tmp rfl)).le (by rw [leaveR, if_pos hc0]; exact .tup (.cons (.nil 1) (.refl _)))) trivial
  · skip
    have hc0 : checkE r = 0 := by simpa using hb0
    have v := valid_of hc0
    have he6 := v.e6
    have hg4 := v.g4
    have hS : sumR r ≤ 50 := by unfold sumR; omega
    refine awp_skip ?_
    refine aend_then ?_
    refine awp_seq ?_
    refine awp_region ?_
    refine sq rfl rfl hn rfl (q_fieldAddr rfl rfl Try.underlying35 rfl sz32) ?_
    refine sq rfl rfl hn rfl (q_load rfl rfl (id := 1) rfl Try.underlying32 rfl rfl sees0) ?_
    refine sq rfl rfl hn rfl (q_len rfl rfl Try.underlying32) ?_
    refine sq rfl rfl hn rfl (q_fieldAddr rfl rfl Try.underlying35 rfl sz33) ?_
    refine sq rfl rfl hn rfl (q_load rfl rfl (id := 1) rfl Try.underlying33 rfl rfl sees0) ?_
    refine sq rfl rfl hn rfl (q_len rfl rfl Try.underlying33) ?_
    refine sq rfl rfl hn rfl (q_add rfl rfl rfl (r := (sumR r : Nat)) (i64w (by simp only [List.length_map]; omega) (by simp only [List.length_map, sumR]; omega))) ?_
    refine stepW (s_alloc 5 rfl rfl rfl (nb hn rfl) zr3 rfl rfl) fun b5 => ?_
    refine stepW (s_store1 rfl rfl rfl rfl rfl rfl (id := 5) rfl sz3 (Nat.le_of_ble_eq_true rfl) rfl trivial) fun _ => ?_
    refine run_nil ?_
    refine aend_then ?_
    refine awp_seq ?_
    refine awp_region ?_
    refine stepW (s_alloc 1003 rfl rfl rfl (nb hn rfl) zr22 rfl rfl) fun b6 => ?_
    refine run_nil ?_
    refine aend_then ?_
    refine awp_seq ?_
    refine awp_region ?_
    refine stepW (s_alloc 1002 rfl rfl rfl (nb hn rfl) zr125 rfl rfl) fun b7 => ?_
    refine run_nil ?_
    refine aend_then ?_
    refine awp_seq ?_
    refine gh_awp (g_freeze (t := 1) 1 rfl (nb hn rfl) rfl rfl trivial) ?_
    refine gh_awp (g_freeze (t := 5) 5 rfl (nb hn rfl) rfl rfl trivial) ?_
    refine awp_region ?_
    refine sq rfl rfl hn rfl (q_makeFunc rfl rfl rfl) ?_
    refine stepW (s_store1 rfl rfl rfl rfl rfl rfl (id := 1002) rfl sz125 (Nat.le_of_ble_eq_true rfl) rfl trivial) fun _ => ?_
    refine run_nil ?_
    refine aend_then ?_
    refine awp_seq ?_
    refine awp_label ?_
    refine aend_then ?_
    refine awp_seq ?_
    refine awp_seq ?_
    refine awp_region ?_
    refine sq rfl rfl hn rfl (q_loadp rfl rfl Try.underlying3 rfl seesF0) ?_
    refine sq rfl rfl hn rfl (q_add rfl rfl rfl (r := ((sumR r + 1 : Nat) : Int)) (i64w (by omega) rfl)) ?_
    refine sq rfl rfl hn rfl (q_move rfl rfl) ?_
    refine run_nil ?_
    refine aend_then ?_
    refine awp_block ?_
    refine awp_loop_on (ι := {x : Nat × D // x.1 ≤ sumR r + 1 ∧ leaveGo r (sumR r + 1) 0 = leaveGo r (sumR r + 1 - x.1) x.1 ∧ (x.1 = sumR r + 1 → leaveK r (sumR r) = none)}) (fun x => (24, true, .d (.int .i64 (x.1.1 : Nat))) :: anys [25, 26, 8, 27, 28, 29, 30]) (fun x => [(1002, .box b7 125 [.fn (.func 71) [] (leaveCa r b7 b6 (sumR r))]), (1003, .box b6 22 [.d x.1.2])]) (fun x => sumR r + 1 - x.1.1) ⟨(0, .nil), by simp, rfl, fun h => by simp at h⟩ ⟨.inl rfl, holdT_anys _⟩ ⟨.inl rfl, .inl rfl, trivial⟩ ?_
    rintro ⟨⟨k, x1⟩, hk, hgo, hlast⟩
    dsimp only
    dsimp only at hk hgo hlast
    refine awp_seq ?_
    refine awp_region ?_
    refine sq rfl rfl hn rfl (q_lss rfl rfl rfl) ?_
    refine run_nil ?_
    refine aend_then ?_
    refine awp_seq ?_
    refine awp_cond rfl (fun hb1 => ?_) (fun hb1 => ?_)
    · try simp only [decide_eq_true_eq, decide_eq_false_iff_not, Bool.and_eq_true, Bool.or_eq_true, Bool.and_eq_false_iff, Bool.or_eq_false_iff, Bool.not_eq_true', Bool.not_eq_false', beq_iff_eq, bne_iff_ne, ne_eq, beq_eq_false_iff_ne, bne_eq_false_iff_eq, Int.not_lt, Int.not_le] at hb1
      have hlt : k ≤ sumR r := by omega
      refine awp_skip ?_
      refine aend_then ?_
      refine awp_seq ?_
      refine awp_block ?_
      refine awp_seq ?_
      refine awp_region ?_
      refine sq rfl rfl hn rfl (q_move rfl rfl) ?_
      refine sq rfl rfl hn rfl (q_assign rfl rfl) ?_
      refine run_nil ?_
      refine aend_then ?_
      refine awp_seq ?_
      refine awp_region ?_
      refine sq rfl rfl hn rfl (q_load rfl rfl (id := 1002) rfl Try.underlying125 rfl rfl sees0) ?_
      refine sq rfl rfl hn rfl (q_move rfl rfl) ?_
      refine stepW (s_callE (leave_all r v b7 b6 (sumR r) hS k [] 0 x1 (by omega) (by simp; omega)) rfl rfl rfl (nb hn rfl) (.t rfl) rfl (by first | exact .refl _ | (repeat (first | exact .refl _ | exact .d (.nil _) | exact .nil _ | refine .cons ?_ ?_ | refine .d ?_ | refine .agg ?_ | refine .tup ?_))) ⟨rfl, rfl, trivial⟩ (fun _ => rfl) (fun _ _ => trivial)) fun ⟨x2, hx2⟩ => ?_
      refine run_nil ?_
      refine aend_then ?_
      refine awp_cond rfl (fun hb2 => ?_) (fun hb2 => ?_)
      · skip
        obtain ⟨l2, hl2⟩ := Option.isSome_iff_exists.1 hb2
        obtain rfl := hx2 _ hl2
        have hyes : leaveR r = (l2, 0) := by rw [leaveR, if_neg (by simp [hc0]), hgo, leaveGo_step hlt hl2]
        refine awp_exit ?_
        refine aend_block_exit_ne rfl ?_
        refine aend_then_exit ?_
        refine aend_then_exit ?_
        refine aend_block_exit ?_
        refine aend_then ?_
        refine awp_seq ?_
        refine awp_region ?_
        refine sq rfl rfl hn rfl (q_load rfl rfl (id := 1003) rfl Try.underlying22 rfl rfl sees0) ?_
        refine sq rfl rfl hn rfl (q_assign rfl rfl) ?_
        refine sq rfl rfl hn rfl (q_assign rfl rfl) ?_
        refine run_nil ?_
        refine aend_then ?_
        refine awp_ret ?_
        refine aend_scope ?_ (fun _ e => by cases e)
        exact ret_E (.inl rfl) () ((hands_2d rfl (.tmp rfl) (.tmp rfl)).eq (by rw [hyes])) trivial
      · skip
        have hno : leaveK r k = none := by cases h : leaveK r k; rfl; simp [leaveK] at h hb2; rw [h] at hb2; cases hb2
        refine awp_skip ?_
        refine aend_block ?_
        refine aend_then ?_
        refine awp_region ?_
        refine sq rfl rfl hn rfl (q_add rfl rfl rfl (r := ((k + 1 : Nat) : Int)) (i64w (by omega) (by omega))) ?_
        refine sq rfl rfl hn rfl (q_move rfl rfl) ?_
        refine run_nil ?_
        exact aend_round_on ⟨(k + 1, x2), by simp only; omega, by simp only; rw [hgo]; exact leaveGo_next (by omega) hno, fun h => by simp only at h; rw [show sumR r = k by omega]; exact hno⟩ ⟨.inl rfl, holdT_anys _⟩ ⟨.inl rfl, .inl rfl, trivial⟩ (by simp only; omega) (by repeat (first | exact kr _ | refine kc rfl ?_)) (by repeat (first | exact kr _ | refine kc rfl ?_))
    · try simp only [decide_eq_true_eq, decide_eq_false_iff_not, Bool.and_eq_true, Bool.or_eq_true, Bool.and_eq_false_iff, Bool.or_eq_false_iff, Bool.not_eq_true', Bool.not_eq_false', beq_iff_eq, bne_iff_ne, ne_eq, beq_eq_false_iff_ne, bne_eq_false_iff_eq, Int.not_lt, Int.not_le] at hb1
      exact absurd (leaveK_some r) (by rw [hlast (by omega)]; rintro ⟨l, hl⟩; cases hl)


theorem leave_ok (r : Reg) : PureAt Try.prog 35 [regD r] (.tup [ints (leaveR r).1, .int .i64 (leaveR r).2]) := PureAt.of_eff (ds := [regD r]) (leave_eff r)
theorem nextXs_len43 (r : Reg) (d n m : Nat) : ∀ x ∈ nextXs r d n m, x.length = (#[43] : Array Tmp).size := fun x hx => by
  obtain ⟨s, _, rfl⟩ := List.mem_map.1 hx
  rfl
theorem explain_ok (r : Reg) : EffAt Try.prog 33 [.d (regD r)] [] (X := ExplX r) (fun x => .d (.tup [ints x.1.1, .int .i64 x.1.2])) (fun _ => []) := by
  refine EffAt.of_awpM Try.func33 rfl (by kernel_rfl) rfl fun Γ hn => ?_
  refine awp_seq ?_
  refine awp_region ?_
  refine stepW (s_box 1 rfl rfl rfl (nb hn rfl) rfl rfl) fun b1 => ?_
  refine sq rfl rfl hn rfl (q_assign rfl rfl) ?_
  refine sq rfl rfl hn rfl (q_assign rfl rfl) ?_
  refine run_nil ?_
  refine aend_then ?_
  refine awp_seq ?_
  refine awp_seq ?_
  refine awp_region ?_
  refine sq rfl rfl hn rfl (q_loadAd rfl rfl (id := 1) rfl Try.underlying35 rfl sz35 rfl rfl sees0) ?_
  refine stepW (s_call [] (fun _ => CheckRegister_ok _) rfl (guard_none rfl) rfl (nb hn rfl) (fun _ => trivial) rfl rfl (.refl _)) fun _ => ?_
  refine sq rfl rfl hn rfl (q_assign rfl rfl) ?_
  refine run_nil ?_
  refine aend_then ?_
  refine awp_seq ?_
  refine awp_region ?_
  refine sq rfl rfl hn rfl (q_move rfl rfl) ?_
  refine sq rfl rfl hn rfl (q_neq rfl rfl rfl) ?_
  refine run_nil ?_
  refine aend_then ?_
  refine awp_cond rfl (fun hb0 => ?_) (fun hb0 => ?_)
  · simp only [bne_iff_ne, ne_eq] at hb0
    have hc0 : checkE r ≠ 0 := hb0
    refine awp_seq ?_
    refine awp_region ?_
    refine sq rfl rfl hn rfl (q_move rfl rfl) ?_
    refine sq rfl rfl hn rfl (q_assign rfl rfl) ?_
    refine sq rfl rfl hn rfl (q_assign rfl rfl) ?_
    refine run_nil ?_
    refine aend_then ?_
    refine awp_ret ?_
    refine aend_then_ret ?_
    exact ret_M (.inl rfl) ⟨([], checkE r), .inl ⟨hc0, rfl⟩⟩ (.inl rfl) ((hands_2d rfl (.tmp rfl) (.tmp rfl)).le (.tup (.cons (.nil 1) (.refl _)))) trivial rfl
  · skip
    have hc0 : checkE r = 0 := by simpa using hb0
    have v := valid_of hc0
    have he6 := v.e6
    refine awp_skip ?_
    refine aend_then ?_
    refine awp_seq ?_
    refine awp_region ?_
    refine sq rfl rfl hn rfl (q_loadAd rfl rfl (id := 1) rfl Try.underlying35 rfl sz35 rfl rfl sees0) ?_
    refine stepW (s_callE (work_ok r) rfl rfl rfl (nb hn rfl) (.d rfl) rfl (.refl _) trivial (fun _ => rfl) (fun _ _ => trivial)) fun bw => ?_
    refine stepW (s_alloc 5 rfl rfl rfl (nb hn rfl) zr115 rfl rfl) fun b5 => ?_
    refine stepW (s_store1 rfl rfl rfl rfl rfl rfl (id := 5) rfl sz115 (Nat.le_of_ble_eq_true rfl) rfl trivial) fun _ => ?_
    refine run_nil ?_
    refine aend_then ?_
    refine awp_seq ?_
    refine awp_seq ?_
    refine gh_awp (g_freeze (t := 5) 5 rfl (nb hn rfl) rfl rfl trivial) ?_
    refine gh_awp (g_freeze (t := 1) 1 rfl (nb hn rfl) rfl rfl trivial) ?_
    refine awp_region ?_
    refine sq rfl rfl hn rfl (q_loadp rfl rfl Try.underlying115 rfl seesF0) ?_
    refine sq rfl rfl hn rfl (q_buildd rfl bt119 rfl rfl rfl rfl rfl) ?_
    refine stepW (s_callE (goes_ok r v bw 0 0 0 _ (by omega) (Nat.zero_le _) (Nat.two_pow_pos _) (good_none _)) rfl rfl rfl (nb hn rfl) (.d rfl) rfl (.refl _) ⟨rfl, trivial⟩ (fun _ => rfl) (fun _ _ => trivial)) fun ⟨M0, hM0⟩ => ?_
    refine sq rfl rfl hn rfl (q_not rfl rfl) ?_
    refine run_nil ?_
    refine aend_then ?_
    refine awp_cond rfl (fun hb1 => ?_) (fun hb1 => ?_)
    · skip
      have hg0 : goesB r 0 0 0 = false := by simpa using hb1
      refine awp_seq ?_
      refine awp_region ?_
      refine sq rfl rfl hn rfl (q_assign rfl rfl) ?_
      refine sq rfl rfl hn rfl (q_assign rfl rfl) ?_
      refine run_nil ?_
      refine aend_then ?_
      refine awp_ret ?_
      refine aend_then_ret ?_
      exact ret_M (.inl rfl) ⟨([], 9), .inr (.inl ⟨hc0, hg0, rfl⟩)⟩ (.inl rfl) ((hands_2d rfl (.tmp rfl) (.tmp rfl)).le (.tup (.cons (.nil 1) (.refl _)))) trivial rfl
    · skip
      have hg0 : goesB r 0 0 0 = true := by simpa using hb1
      refine awp_skip ?_
      refine aend_then ?_
      refine awp_seq ?_
      refine awp_region ?_
      refine sq rfl rfl hn rfl (q_fieldAddrp rfl rfl Try.underlying35 rfl sz32 rfl) ?_
      refine sq rfl rfl hn rfl (q_loadp rfl rfl Try.underlying32 rfl seesF0) ?_
      refine sq rfl rfl hn rfl (q_len rfl rfl Try.underlying32) ?_
      refine stepW (s_makeSlice (n := r.entries.length) 23 rfl rfl rfl (nb hn rfl) Try.underlying22 (show _ = some (some (.int .i64 0), 1, 8) from by kernel_rfl) rfl rfl rfl (by decide) rfl rfl (by simp) (by simp) (by omega) (by omega) (by omega)) fun b23 => ?_
      refine stepW (s_alloc 6 rfl rfl rfl (nb hn rfl) zr22 rfl rfl) fun b6 => ?_
      refine stepW (s_store1 rfl rfl rfl rfl rfl rfl (id := 6) rfl sz22 (Nat.le_of_ble_eq_true rfl) rfl trivial) fun _ => ?_
      refine run_nil ?_
      refine aend_then ?_
      refine awp_seq ?_
      refine awp_seq ?_
      refine awp_region ?_
      refine sq rfl rfl hn rfl (q_buildd rfl bt119 rfl rfl rfl rfl rfl) ?_
      refine stepW (s_alloc 7 rfl rfl rfl (nb hn rfl) zr119 rfl rfl) fun b7 => ?_
      refine stepW (s_store rfl rfl rfl rfl rfl rfl (id := 7) rfl sz119 rfl (Nat.le_of_ble_eq_true rfl) rfl trivial) fun _ => ?_
      refine run_nil ?_
      refine aend_then ?_
      refine awp_block ?_
      refine gh_awp (gh_marks rfl rfl) ?_
      refine awp_loop_onM (ι := {x : ES // ExplI r x}) (fun x => (7, true, .val (.pointer (some ⟨x.1.2.2.2.1, 0, none⟩))) :: anys [25, 26, 27, 28, 29, 30, 31, 32, 33, 35, 36, 37, 34, 38, 39, 40, 41, 42, 60]) (fun x => [(7, .box x.1.2.2.2.1 119 [.d (.int .i64 (x.1.1.1 : Nat)), .d (.int .i64 (x.1.1.2.1 : Nat)), .d (.int .u64 (x.1.1.2.2 : Nat))]), (6, .box b6 22 [.val (.slice (some ⟨b23, 0, none⟩) r.entries.length r.entries.length)]), (23, .box b23 3 (x.1.2.1.map fun n => TV.d (.int .i64 n))), (1000, mapRes KS bw x.1.2.2.1), (9000, marksRes x.1.2.2.2.2)]) (fun x => x.1.2.2.2.2) (fun x => muS r x.1.1.1 x.1.1.2.1) ⟨((0, 0, 0), List.replicate r.entries.length 0, M0, b7, []), Nat.zero_le _, Nat.zero_le _, Nat.two_pow_pos _, by simp, hM0, hg0, .start⟩ ⟨.inl rfl, holdT_anys _⟩ ⟨.inl rfl, .inl rfl, .inl (congrArg (fun z => some (Res.box b23 3 z)) (rep_int _)), .inl rfl, .inl rfl, trivial⟩ rfl ?_
      rintro ⟨⟨⟨d, n, m⟩, ts, M, b7, dm⟩, hI⟩
      dsimp only
      obtain ⟨hd, hn6, hm, hts, hM, hg, hpt⟩ := hI
      dsimp only at hd hn6 hm hts hM hg hpt
      have hm64 := lt64 he6 hm
      refine awp_seq ?_
      refine awp_seq ?_
      refine awp_region ?_
      refine sq rfl rfl hn rfl (q_fieldAddr rfl rfl Try.underlying119 rfl sz3) ?_
      refine sq rfl rfl hn rfl (q_load rfl rfl (id := 7) rfl Try.underlying3 rfl rfl sees0) ?_
      refine sq rfl rfl hn rfl (q_leq rfl rfl rfl) ?_
      refine run_nil ?_
      refine aend_then ?_
      refine awp_cond rfl (fun hb2 => ?_) (fun hb2 => ?_)
      · try simp only [decide_eq_true_eq, decide_eq_false_iff_not, Bool.and_eq_true, Bool.or_eq_true, Bool.and_eq_false_iff, Bool.or_eq_false_iff, Bool.not_eq_true', Bool.not_eq_false', beq_iff_eq, bne_iff_ne, ne_eq, beq_eq_false_iff_ne, bne_eq_false_iff_eq, Int.not_lt, Int.not_le] at hb2
        have hd9 : d ≤ 9 := by omega
        refine awp_skip ?_
        refine aend_then ?_
        refine awp_seq ?_
        refine awp_block ?_
        refine awp_seq ?_
        refine awp_seq ?_
        refine awp_region ?_
        refine sq rfl rfl hn rfl (q_fieldAddr rfl rfl Try.underlying119 rfl sz3) ?_
        refine sq rfl rfl hn rfl (q_load rfl rfl (id := 7) rfl Try.underlying3 rfl rfl sees0) ?_
        refine sq rfl rfl hn rfl (q_fieldAddrp rfl rfl Try.underlying35 rfl sz32 rfl) ?_
        refine sq rfl rfl hn rfl (q_loadp rfl rfl Try.underlying32 rfl seesF0) ?_
        refine sq rfl rfl hn rfl (q_len rfl rfl Try.underlying32) ?_
        refine sq rfl rfl hn rfl (q_eql rfl rfl rfl) ?_
        refine run_nil ?_
        refine aend_then ?_
        refine awp_cond rfl (fun hb3 => ?_) (fun hb3 => ?_)
        · try simp only [decide_eq_true_eq, decide_eq_false_iff_not, Bool.and_eq_true, Bool.or_eq_true, Bool.and_eq_false_iff, Bool.or_eq_false_iff, Bool.not_eq_true', Bool.not_eq_false', beq_iff_eq, bne_iff_ne, ne_eq, beq_eq_false_iff_ne, bne_eq_false_iff_eq, Int.not_lt, Int.not_le] at hb3
          have hnl : n = r.entries.length := by simp only [List.length_map] at hb3; omega
          subst hnl
          have hgd := goesB_day (r := r) (d := d) (m := m) hd9
          rw [hg] at hgd
          have hgs : seenN r d m = true ∧ goesB r (d + 1) 0 m = true := by simpa using hgd.symm
          refine awp_seq ?_
          refine awp_region ?_
          refine sq rfl rfl hn rfl (q_loadp rfl rfl Try.underlying115 rfl seesF0) ?_
          refine sq rfl rfl hn rfl (q_loadAd rfl rfl (id := 7) rfl Try.underlying119 rfl sz119 rfl rfl sees0) ?_
          refine stepW (s_call [] (fun _ => closed_ok r bw d _ m v hd9 hm64) rfl (guard_none rfl) rfl (nb hn rfl) (fun _ => trivial) rfl rfl (.refl _)) fun _ => ?_
          refine sq rfl rfl hn rfl (q_move rfl rfl) ?_
          refine sq rfl rfl hn rfl (q_extractd rfl rfl rfl) ?_
          refine sq rfl rfl hn rfl (q_extractd rfl rfl rfl) ?_
          refine stepW (s_store rfl rfl rfl rfl rfl rfl (id := 7) rfl sz119 rfl (Nat.le_of_ble_eq_true rfl) rfl trivial) fun _ => ?_
          refine run_nil ?_
          refine aend_then ?_
          refine awp_exit ?_
          refine aend_then_exit ?_
          refine aend_block_exit ?_
          refine aend_then ?_
          refine awp_seq ?_
          refine awp_region ?_
          refine sq rfl rfl hn rfl (q_loadAd rfl rfl (id := 7) rfl Try.underlying119 rfl sz119 rfl rfl sees0) ?_
          refine run_nil ?_
          refine aend_then ?_
          refine awp_region ?_
          refine stepW (s_alloc 7 rfl rfl rfl (nb hn rfl) zr119 rfl rfl) fun b7 => ?_
          refine stepW (s_store rfl rfl rfl rfl rfl rfl (id := 7) rfl sz119 rfl (Nat.le_of_ble_eq_true rfl) rfl trivial) fun _ => ?_
          refine run_nil ?_
          exact aend_round_onM ⟨((d + 1, 0, m), ts, M, b7, dm), by simp only; omega, Nat.zero_le _, hm, hts, hM, hgs.2, .day hpt hd9 hgs.1⟩ ⟨.inl rfl, holdT_anys _⟩ ⟨.inl rfl, .inl rfl, .inl rfl, .inl rfl, .inl rfl, trivial⟩ (muS_day hd9) (by repeat (first | exact kr _ | refine kc rfl ?_)) (by repeat (first | exact kr _ | refine kc rfl ?_)) rfl
        · try simp only [decide_eq_true_eq, decide_eq_false_iff_not, Bool.and_eq_true, Bool.or_eq_true, Bool.and_eq_false_iff, Bool.or_eq_false_iff, Bool.not_eq_true', Bool.not_eq_false', beq_iff_eq, bne_iff_ne, ne_eq, beq_eq_false_iff_ne, bne_eq_false_iff_eq, Int.not_lt, Int.not_le] at hb3
          have hnl : n < r.entries.length := by simp only [List.length_map] at hb3; omega
          obtain ⟨e, he⟩ := ex_get hnl
          refine awp_skip ?_
          refine aend_then ?_
          refine awp_seq ?_
          refine awp_region ?_
          refine sq rfl rfl hn rfl (q_loadpA rfl rfl Try.underlying35 rfl sz35 rfl rfl seesF0) ?_
          refine sq rfl rfl hn rfl (q_loadAd rfl rfl (id := 7) rfl Try.underlying119 rfl sz119 rfl rfl sees0) ?_
          refine stepW (s_call [] (fun _ => next_ok _ _ _ _) rfl (guard_none rfl) rfl (nb hn rfl) (fun _ => trivial) rfl rfl (.refl _)) fun _ => ?_
          refine run_nil ?_
          refine aend_then ?_
          refine awp_block ?_
          refine awp_rangeFunc (ι := {x : (Nat × Nat × Nat) × List Int × (D → D → Prop) // Good r x.2.2}) (fun x => [(7, .box b7 119 [.d (.int .i64 (x.1.1.1 : Nat)), .d (.int .i64 (x.1.1.2.1 : Nat)), .d (.int .u64 (x.1.1.2.2 : Nat))]), (6, .box b6 22 [.val (.slice (some ⟨b23, 0, none⟩) r.entries.length r.entries.length)]), (23, .box b23 3 (x.1.2.1.map fun n => TV.d (.int .i64 n))), (1000, mapRes KS bw x.1.2.2)]) (fun j x => x.1.1 = (d, n, m) ∧ x.1.2.1 = ts ∧ ∀ s ∈ (nextL r d n m).take j, goesB r s.1 s.2.1 s.2.2 = false) ((fun c x => c = .exit 2 ∧ x.1.1 ∈ nextL r d n m ∧ goesB r x.1.1.1 x.1.1.2.1 x.1.1.2.2 = true ∧ x.1.2.1 = if x.1.1.2.2 = m then ts else ts.set n (d : Int))) ⟨((d, n, m), ts, M), hM⟩ ((next1_ok r d n m e he v hd9 (by omega) hm64)) rfl (nextXs_len43 r d n m) (by rw [hn]; rfl) (.inr rfl) ⟨rfl, rfl, rfl, rfl, trivial⟩ ⟨rfl, rfl, fun s hs => (by cases hs)⟩ (fun _ => rfl) (fun _ => rfl) rfl rfl ?_ ?_ ?_
          · rintro l0 r0 Γr j0 x0 ⟨⟨s0, ts1, M1⟩, hM1⟩ hnr hrd hx0 hA0
            dsimp only at hA0 hM1
            obtain ⟨rfl, rfl, hno⟩ := hA0
            obtain ⟨s, hs, rfl⟩ := nextXs_get hx0
            have hsin := List.mem_of_getElem? hs
            have hsm := nextL_mem hsin
            obtain ⟨s1, s2, s3⟩ := s
            obtain rfl : d = s1 := hsm.1.symm
            obtain rfl : n + 1 = s2 := hsm.2.1.symm
            have hs3 := hsm.2.2.1
            dsimp only at hs3
            have hs3b : s3 < 2 ^ r.entries.length := next_lt hm hnl hs3
            refine awi_region ?_
            refine stepWI ((s_alloc 8 rfl rfl rfl (nb (hnr.trans hn) rfl) zr119 rfl rfl).i rfl) fun b8 => ?_
            refine stepWI ((s_store rfl rfl rfl rfl rfl rfl (id := 8) rfl sz119 rfl (Nat.le_of_ble_eq_true rfl) rfl trivial).i rfl) fun _ => ?_
            refine run_nilI ?_
            refine aend_begin hrd rfl ?_
            refine awi_block ?_
            refine awi_seq ?_
            refine awi_seq ?_
            refine awi_region ?_
            refine sqI rfl rfl (hnr.trans hn) rfl (q_loadp rfl rfl Try.underlying115 rfl seesF0) rfl ?_
            refine sqI rfl rfl (hnr.trans hn) rfl (q_loadAd rfl rfl (id := 8) rfl Try.underlying119 rfl sz119 rfl rfl sees0) rfl ?_
            refine stepWI ((s_callE (goes_ok r v bw d (n + 1) s3 M1 hd (by omega) hs3b hM1) rfl rfl rfl (nb (hnr.trans hn) rfl) (.d rfl) rfl (.refl _) ⟨rfl, trivial⟩ (fun _ => rfl) (fun _ _ => trivial)).i rfl) fun ⟨M3, hM3⟩ => ?_
            refine sqI rfl rfl (hnr.trans hn) rfl (q_not rfl rfl) rfl ?_
            refine run_nilI ?_
            refine aend_thenI ?_
            refine awi_cond rfl (fun hb4 => ?_) (fun hb4 => ?_)
            · skip
              have hgf : goesB r d (n + 1) s3 = false := by simpa using hb4
              refine awi_exit ?_
              refine aend_then_exit ?_
              refine aend_block_exit ?_
              exact aend_round_go ⟨((d, n, m), ts1, M3), hM3⟩ ⟨rfl, rfl, fun s hs2 => by rw [List.take_add_one, hs] at hs2; rcases List.mem_append.1 hs2 with h | h; exact hno s h; simp at h; subst h; exact hgf⟩ ⟨rfl, rfl, rfl, rfl, rfl, trivial⟩
            · skip
              have hgt : goesB r d (n + 1) s3 = true := by simpa using hb4
              refine awi_skip ?_
              refine aend_thenI ?_
              refine awi_seq ?_
              refine awi_seq ?_
              refine awi_region ?_
              refine sqI rfl rfl (hnr.trans hn) rfl (q_fieldAddr rfl rfl Try.underlying119 rfl sz102) rfl ?_
              refine sqI rfl rfl (hnr.trans hn) rfl (q_load rfl rfl (id := 8) rfl Try.underlying102 rfl rfl sees0) rfl ?_
              refine sqI rfl rfl (hnr.trans hn) rfl (q_fieldAddr rfl rfl Try.underlying119 rfl sz102) rfl ?_
              refine sqI rfl rfl (hnr.trans hn) rfl (q_load rfl rfl (id := 7) rfl Try.underlying102 rfl rfl sees0) rfl ?_
              refine sqI rfl rfl (hnr.trans hn) rfl (q_neq rfl rfl rfl) rfl ?_
              refine run_nilI ?_
              refine aend_thenI ?_
              refine awi_cond rfl (fun hb5 => ?_) (fun hb5 => ?_)
              · skip
                have hne : s3 ≠ m := by simp at hb5; omega
                refine awi_region ?_
                refine sqI rfl rfl (hnr.trans hn) rfl (q_load rfl rfl (id := 6) rfl Try.underlying22 rfl rfl sees0) rfl ?_
                refine sqI rfl rfl (hnr.trans hn) rfl (q_fieldAddr rfl rfl Try.underlying119 rfl sz3) rfl ?_
                refine sqI rfl rfl (hnr.trans hn) rfl (q_load rfl rfl (id := 7) rfl Try.underlying3 rfl rfl sees0) rfl ?_
                refine sqI rfl rfl (hnr.trans hn) rfl (q_fieldAddr rfl rfl Try.underlying119 rfl sz3) rfl ?_
                refine sqI rfl rfl (hnr.trans hn) rfl (q_load rfl rfl (id := 7) rfl Try.underlying3 rfl rfl sees0) rfl ?_
                refine sqI rfl rfl (hnr.trans hn) rfl (q_indexV (i := n) rfl rfl rfl Try.underlying22 sz3 rfl (by omega)) rfl ?_
                refine stepWI ((s_store1 rfl rfl rfl rfl rfl rfl (id := 23) rfl sz3 (by simp; omega) (set_int _ _ _) trivial).i rfl) fun _ => ?_
                refine run_nilI ?_
                refine aend_thenI ?_
                refine awi_seq ?_
                refine awi_region ?_
                refine sqI rfl rfl (hnr.trans hn) rfl (q_loadAd rfl rfl (id := 8) rfl Try.underlying119 rfl sz119 rfl rfl sees0) rfl ?_
                refine stepWI ((s_store rfl rfl rfl rfl rfl rfl (id := 7) rfl sz119 rfl (Nat.le_of_ble_eq_true rfl) rfl trivial).i rfl) fun _ => ?_
                refine run_nilI ?_
                refine aend_thenI ?_
                refine awi_exit ?_
                refine aend_block_exit_ne rfl ?_
                exact aend_round_exit ⟨((d, n + 1, s3), ts1.set n (d : Int), M3), hM3⟩ ⟨rfl, hsin, hgt, by rw [if_neg hne]⟩ ⟨rfl, rfl, rfl, rfl, rfl, trivial⟩
              · skip
                have heq : s3 = m := by simp at hb5; omega
                refine awi_skip ?_
                refine aend_thenI ?_
                refine awi_seq ?_
                refine awi_region ?_
                refine sqI rfl rfl (hnr.trans hn) rfl (q_loadAd rfl rfl (id := 8) rfl Try.underlying119 rfl sz119 rfl rfl sees0) rfl ?_
                refine stepWI ((s_store rfl rfl rfl rfl rfl rfl (id := 7) rfl sz119 rfl (Nat.le_of_ble_eq_true rfl) rfl trivial).i rfl) fun _ => ?_
                refine run_nilI ?_
                refine aend_thenI ?_
                refine awi_exit ?_
                refine aend_block_exit_ne rfl ?_
                exact aend_round_exit ⟨((d, n + 1, s3), ts1, M3), hM3⟩ ⟨rfl, hsin, hgt, by rw [if_pos heq]⟩ ⟨rfl, rfl, rfl, rfl, rfl, trivial⟩
          · rintro ⟨⟨s0, ts1, M1⟩, hM1⟩ D0 hA0
            dsimp only at hA0
            obtain ⟨_, _, hno⟩ := hA0
            rw [show (nextXs r d n m).length = (nextL r d n m).length by simp [nextXs], List.take_length] at hno
            rw [goesB_next hd9 hnl] at hg
            obtain ⟨s, hs, hs2⟩ := List.any_eq_true.1 hg
            rw [hno s hs] at hs2
            cases hs2
          · rintro c0 ⟨⟨s0, ts1, M1⟩, hM1⟩ D0 hB0
            dsimp only at hB0 hM1
            obtain ⟨rfl, hsin, hsg, hts1⟩ := hB0
            obtain ⟨s1, s2, s3⟩ := s0
            have hsm := nextL_mem hsin
            obtain rfl : d = s1 := hsm.1.symm
            obtain rfl : n + 1 = s2 := hsm.2.1.symm
            have hs3 := hsm.2.2.1
            dsimp only at hs3 hsg
            have hs3b : s3 < 2 ^ r.entries.length := next_lt hm hnl hs3
            · skip
              refine awp_exit ?_
              refine aend_block_exit ?_
              refine aend_block ?_
              refine aend_then ?_
              refine awp_seq ?_
              refine awp_region ?_
              refine sq rfl rfl hn rfl (q_loadAd rfl rfl (id := 7) rfl Try.underlying119 rfl sz119 rfl rfl sees0) ?_
              refine run_nil ?_
              refine aend_then ?_
              refine awp_region ?_
              refine stepW (s_alloc 7 rfl rfl rfl (nb hn rfl) zr119 rfl rfl) fun b7 => ?_
              refine stepW (s_store rfl rfl rfl rfl rfl rfl (id := 7) rfl sz119 rfl (Nat.le_of_ble_eq_true rfl) rfl trivial) fun _ => ?_
              refine run_nil ?_
              exact aend_round_onM ⟨((d, n + 1, s3), ts1, M1, b7, D0 :: dm), hd, by simp only; omega, hs3b, by simp only; rw [hts1]; split <;> simp [hts], hM1, hsg, by simp only; rw [hts1]; exact .next (s := (d, n + 1, s3)) hpt hd9 hsin⟩ ⟨.inl rfl, holdT_anys _⟩ ⟨.inl rfl, .inl rfl, .inl rfl, .inl rfl, .inl rfl, trivial⟩ (muS_next hd9 hnl) (by repeat (first | exact kr _ | refine kc rfl ?_)) (by repeat (first | exact kr _ | refine kc rfl ?_)) rfl
      · try simp only [decide_eq_true_eq, decide_eq_false_iff_not, Bool.and_eq_true, Bool.or_eq_true, Bool.and_eq_false_iff, Bool.or_eq_false_iff, Bool.not_eq_true', Bool.not_eq_false', beq_iff_eq, bne_iff_ne, ne_eq, beq_eq_false_iff_ne, bne_eq_false_iff_eq, Int.not_lt, Int.not_le] at hb2
        obtain rfl : d = 10 := by omega
        refine awp_exit ?_
        refine aend_then_exit ?_
        refine aend_then_exit ?_
        refine aend_block_exit ?_
        refine aend_then ?_
        refine awp_seq ?_
        refine awp_region ?_
        refine sq rfl rfl hn rfl (q_load rfl rfl (id := 6) rfl Try.underlying22 rfl rfl sees0) ?_
        refine sq rfl rfl hn rfl (q_assign rfl rfl) ?_
        refine sq rfl rfl hn rfl (q_assign rfl rfl) ?_
        refine run_nil ?_
        refine aend_then ?_
        refine awp_ret ?_
        refine gh_end (g_freezeV (t := 2) (sz := 1) (n := r.entries.length) (es := ts.map intE) 23 rfl rfl (allD_ints ts) (by simp [hts]) (by rw [← hts]; exact chunk_int ts) (Nat.le_refl _) (by simp only [maxLen]; omega)) ?_
        exact ret_M (.inl rfl) ⟨(ts, 0), .inr (.inr ⟨hc0, hg0, rfl, hts, n, m, hpt⟩)⟩ (.inr rfl) (hands_2d rfl (.tmp rfl) (.tmp rfl)) trivial rfl
end Go.Proofs.Ytnbmmopjkkofoaa
