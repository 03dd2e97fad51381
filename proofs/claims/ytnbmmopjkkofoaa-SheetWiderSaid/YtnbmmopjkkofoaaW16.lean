/-
  Walks by the rules of Base, printed by gen.py: one more sight. No condition: no statement of the seat is proved here.
-/
import Derived.Test.YtnbmmopjkkofoaaW15
import Derived.Test.YtnbmmopjkkofoaaP5
namespace Go.Proofs.Ytnbmmopjkkofoaa
open Go.RowKit
set_option maxRecDepth 20000
set_option linter.all false

theorem no_blks {b : Nat} (h : blks [] b) {p : Prop} : p := by
  obtain ⟨i, r, h, _⟩ := h
  simp [lk] at h
theorem modN {a b : Nat} (hb : 0 < b) : ((a : Int).tmod (b : Int)) = ((a % b : Nat) : Int) := by
  rw [Int.tmod_eq_emod_of_nonneg (by omega)]; rfl
theorem sheetB_of {r : Reg} {s : Int} (h0 : 0 ≤ s) (h : s < r.start.length) : sheetB r s = true := by
  simp [sheetB]; omega
theorem houseB_of {r : Reg} {a : Int} (v : Valid r) (h0 : 0 ≤ a) (h : a < r.houses) : houseB r a = true := by
  rw [houseB_eq v.h1 v.h4]
  simp
  omega
theorem nar_hold {x r : Reg} {N s : Nat} {out out' : List Nat} (n : Nar x r N) (h : EvOK x N out) (h' : EvOK r N out') : subsetB (holdR x (s : Nat) out) (holdR r (s : Nat) out') = true := by
  unfold subsetB
  rw [List.all_eq_true]
  intro y hy
  obtain ⟨m, h1, h2⟩ := (hold_mem h).1 hy
  unfold hasB
  rw [List.any_eq_true]
  exact ⟨y, (hold_mem h').2 ⟨m, n.eve m h1, by rw [← n.pl]; exact h2⟩, by simp⟩
theorem nar_heldN {x r : Reg} {N : Nat} (n : Nar x r N) (m : Nat) (a : Int) : heldN x m a = heldN r m a := by
  unfold heldN
  rw [n.pl, n.st]
theorem nar_held {x r : Reg} {N : Nat} {a : Int} {out out' : List Nat} (n : Nar x r N) (h : EvOK x N out) (hne : out ≠ []) (h' : EvOK r N out') (hne' : out' ≠ []) : (heldR r a out').1 ≤ (heldR x a out).1 ∧ (heldR x a out).2 ≤ (heldR r a out').2 := by
  obtain ⟨_, ⟨m1, e1, q1⟩, m2, e2, q2⟩ := held_rng (a := a) h hne
  obtain ⟨k, _, _⟩ := held_rng (a := a) h' hne'
  rw [q1, q2, nar_heldN n, nar_heldN n]
  exact ⟨(k m1 (n.eve m1 e1)).1, (k m2 (n.eve m2 e2)).2⟩
theorem nar_owed {x r : Reg} {N : Nat} {a b : Int} {out out' : List Nat} (n : Nar x r N) (h : EvOK x N out) (hne : out ≠ []) (h' : EvOK r N out') (hne' : out' ≠ []) : (owedR r a b out').1 ≤ (owedR x a b out).1 ∧ (owedR x a b out).2 ≤ (owedR r a b out').2 := by
  obtain ⟨_, ⟨m1, e1, q1⟩, m2, e2, q2⟩ := owed_rng (a := a) (b := b) h hne
  obtain ⟨k, _, _⟩ := owed_rng (a := a) (b := b) h' hne'
  rw [q1, q2, n.op, n.op]
  exact ⟨(k m1 (n.eve m1 e1)).1, (k m2 (n.eve m2 e2)).2⟩
theorem more_f {r x : Reg} (h : (!(thinB r && (checkE r == 0)) || !(thinB x && (checkE x == 0))) = false) : Valid r ∧ Valid x := by
  simp only [Bool.or_eq_false_iff] at h
  exact ⟨ready_f h.1, ready_f h.2⟩
theorem len0 {l : List Int} : (((l.map intE).length : Int) == 0) = decide (l = []) := by
  cases l with
  | nil => rfl
  | cons x l => simp; omega
theorem expl_b {r : Reg} (v : Valid r) (x : ExplX r) : ((x.1.2 == 0) != ((((leaveR r).1.map intE).length : Int) == 0)) = false := by
  rw [len0]
  have h1 := (expl_err v x).1
  have h2 := leave_nil v
  by_cases h : hasT r
  · rw [h1.2 h, h2.2 h]; rfl
  · have e1 : (x.1.2 == 0) = false := by
      rw [Bool.eq_false_iff]
      intro hh
      exact h (h1.1 (by simpa using hh))
    have e2 : decide ((leaveR r).1 = []) = false := by
      rw [decide_eq_false_iff_not]
      exact fun hh => h (h2.1 hh)
    rw [e1, e2]; rfl
theorem more_c1 {r : Reg} {s : Sight5} (v : Valid r) (vx : Valid (seeingR r s)) (x1 : ExplX r) (x2 : ExplX (seeingR r s)) : ((((((0 : Int) != 0) || ((0 : Int) != 0) || decide (((((leaveR (seeingR r s)).1.map intE).length : Int)) < (((leaveR r).1.map intE).length : Int)))) || decide (((leaveR r).1.length : Int) + 1 < (((leaveR (seeingR r s)).1.map intE).length : Int))) || ((x1.1.2 == 0) != ((((leaveR r).1.map intE).length : Int) == 0)) || ((x2.1.2 == 0) != ((((leaveR (seeingR r s)).1.map intE).length : Int) == 0))) = false := by
  rw [expl_b v x1, expl_b vx x2]
  obtain ⟨h1, h2⟩ := more_leave v vx
  simp only [List.length_map]
  simp
  omega
theorem more_9 {r : Reg} (v : Valid r) (x : ExplX r) (h : x.1.2 ≠ 0) : x.1.2 = 9 := by
  rcases (expl_err v x).2.2 with e | e
  · exact (h e).elim
  · exact e
theorem next_house {h : Int} {a n : Nat} (hn : h = (n : Int)) (h0 : 0 < n) : ∃ b : Nat, ((a : Int) + 1).tmod h = (b : Nat) ∧ (b : Int) < h := by
  subst hn
  refine ⟨(a + 1) % n, ?_, by have := Nat.mod_lt (a + 1) h0; omega⟩
  rw [show ((a : Int) + 1) = ((a + 1 : Nat) : Int) by omega]
  exact modN h0


theorem Within_eff (x r : Reg) (s a b N : Nat) (n : Nar x r N) (hs : s < r.start.length) (ha : (a : Int) < r.houses) (hab : ((a : Int) + 1).tmod r.houses = (b : Nat)) (hb5 : (b : Int) < r.houses) (hN : N ≤ 9) : EffAt Try.prog 36 [.d (regD x), .d (regD r), .d (.int .i64 (s : Nat)), .d (.int .i64 (a : Nat)), .d (.int .i64 (N : Nat))] [] (X := Unit) (fun _ => .d (.bool true)) (fun _ => []) := by
  refine EffAt.of_awp Try.func36 rfl (by kernel_rfl) rfl fun Γ hn => ?_
  have hvh := n.v.h4
  have hv1 := n.v.h1
  have hxs : s < x.start.length := by rw [n.st]; exact hs
  have hxa : (a : Int) < x.houses := by rw [n.ho]; exact ha
  have hxb : (b : Int) < x.houses := by rw [n.ho]; exact hb5
  refine awp_seq ?_
  refine awp_region ?_
  refine stepW (s_box 5 rfl rfl rfl (nb hn rfl) rfl rfl) fun b5 => ?_
  refine stepW (s_box 6 rfl rfl rfl (nb hn rfl) rfl rfl) fun b6 => ?_
  refine sq rfl rfl hn rfl (q_assign rfl rfl) ?_
  refine run_nil ?_
  refine aend_then ?_
  refine awp_seq ?_
  refine awp_region ?_
  refine sq rfl rfl hn rfl (q_loadAd rfl rfl (id := 5) rfl Try.underlying26 rfl sz26 rfl rfl sees0) ?_
  refine stepW (s_call [] (fun _ => Register_ok x (by have h5 := n.vx.s4; omega) (by have h5 := n.vx.e6; omega) (by have h5 := n.vx.g4; omega)) rfl (guard_none rfl) rfl (nb hn rfl) (fun _ => trivial) rfl rfl (.refl _)) fun _ => ?_
  refine sq rfl rfl hn rfl (q_move rfl rfl) ?_
  refine sq rfl rfl hn rfl (q_move rfl rfl) ?_
  refine stepW (s_callE (Holders_eff x s N) rfl rfl rfl (nb hn rfl) (.d rfl) rfl (.refl _) trivial (fun _ => rfl) (fun _ _ => trivial)) fun x1 => ?_
  obtain ⟨he1, hv1_, hne1⟩ := wantE_0 n.vx n.hx (sheetB_of (by omega) (by omega)) (by omega) x1.2
  rw [he1]
  refine sq rfl rfl hn rfl (q_move rfl rfl) ?_
  refine sq rfl rfl hn rfl (q_extractd rfl rfl rfl) ?_
  refine sq rfl rfl hn rfl (q_extractd rfl rfl rfl) ?_
  refine sq rfl rfl hn rfl (q_assign rfl rfl) ?_
  refine sq rfl rfl hn rfl (q_assign rfl rfl) ?_
  refine run_nil ?_
  refine aend_then ?_
  refine awp_seq ?_
  refine awp_region ?_
  refine sq rfl rfl hn rfl (q_loadAd rfl rfl (id := 6) rfl Try.underlying26 rfl sz26 rfl rfl sees0) ?_
  refine stepW (s_call [] (fun _ => Register_ok r (by have h5 := n.v.s4; omega) (by have h5 := n.v.e6; omega) (by have h5 := n.v.g4; omega)) rfl (guard_none rfl) rfl (nb hn rfl) (fun _ => trivial) rfl rfl (.refl _)) fun _ => ?_
  refine sq rfl rfl hn rfl (q_move rfl rfl) ?_
  refine sq rfl rfl hn rfl (q_move rfl rfl) ?_
  refine stepW (s_callE (Holders_eff r s N) rfl rfl rfl (nb hn rfl) (.d rfl) rfl (.refl _) trivial (fun _ => rfl) (fun _ _ => trivial)) fun x2 => ?_
  obtain ⟨he2, hv2_, hne2⟩ := wantE_0 n.v n.h (sheetB_of (by omega) (by omega)) (by omega) x2.2
  rw [he2]
  refine sq rfl rfl hn rfl (q_move rfl rfl) ?_
  refine sq rfl rfl hn rfl (q_extractd rfl rfl rfl) ?_
  refine sq rfl rfl hn rfl (q_extractd rfl rfl rfl) ?_
  refine sq rfl rfl hn rfl (q_assign rfl rfl) ?_
  refine sq rfl rfl hn rfl (q_assign rfl rfl) ?_
  refine run_nil ?_
  refine aend_then ?_
  refine awp_seq ?_
  refine awp_region ?_
  refine sq rfl rfl hn rfl (q_loadAd rfl rfl (id := 5) rfl Try.underlying26 rfl sz26 rfl rfl sees0) ?_
  refine stepW (s_call [] (fun _ => Register_ok x (by have h5 := n.vx.s4; omega) (by have h5 := n.vx.e6; omega) (by have h5 := n.vx.g4; omega)) rfl (guard_none rfl) rfl (nb hn rfl) (fun _ => trivial) rfl rfl (.refl _)) fun _ => ?_
  refine sq rfl rfl hn rfl (q_move rfl rfl) ?_
  refine sq rfl rfl hn rfl (q_move rfl rfl) ?_
  refine stepW (s_callE (InHand_eff x a N) rfl rfl rfl (nb hn rfl) (.d rfl) rfl (.refl _) trivial (fun _ => rfl) (fun _ _ => trivial)) fun x3 => ?_
  obtain ⟨he3, hv3_, hne3⟩ := wantE_0 n.vx n.hx (houseB_of n.vx (by omega) hxa) (by omega) x3.2
  rw [he3]
  refine sq rfl rfl hn rfl (q_move rfl rfl) ?_
  refine sq rfl rfl hn rfl (q_extractd rfl rfl rfl) ?_
  refine sq rfl rfl hn rfl (q_extractd rfl rfl rfl) ?_
  refine stepW (s_alloc 15 rfl rfl rfl (nb hn rfl) zr45 rfl rfl) fun b15 => ?_
  refine stepW (s_store rfl rfl rfl rfl rfl rfl (id := 15) rfl sz45 rfl (Nat.le_of_ble_eq_true rfl) rfl trivial) fun _ => ?_
  refine sq rfl rfl hn rfl (q_assign rfl rfl) ?_
  refine run_nil ?_
  refine aend_then ?_
  refine awp_seq ?_
  refine awp_region ?_
  refine sq rfl rfl hn rfl (q_loadAd rfl rfl (id := 6) rfl Try.underlying26 rfl sz26 rfl rfl sees0) ?_
  refine stepW (s_call [] (fun _ => Register_ok r (by have h5 := n.v.s4; omega) (by have h5 := n.v.e6; omega) (by have h5 := n.v.g4; omega)) rfl (guard_none rfl) rfl (nb hn rfl) (fun _ => trivial) rfl rfl (.refl _)) fun _ => ?_
  refine sq rfl rfl hn rfl (q_move rfl rfl) ?_
  refine sq rfl rfl hn rfl (q_move rfl rfl) ?_
  refine stepW (s_callE (InHand_eff r a N) rfl rfl rfl (nb hn rfl) (.d rfl) rfl (.refl _) trivial (fun _ => rfl) (fun _ _ => trivial)) fun x4 => ?_
  obtain ⟨he4, hv4_, hne4⟩ := wantE_0 n.v n.h (houseB_of n.v (by omega) ha) (by omega) x4.2
  rw [he4]
  refine sq rfl rfl hn rfl (q_move rfl rfl) ?_
  refine sq rfl rfl hn rfl (q_extractd rfl rfl rfl) ?_
  refine sq rfl rfl hn rfl (q_extractd rfl rfl rfl) ?_
  refine stepW (s_alloc 17 rfl rfl rfl (nb hn rfl) zr45 rfl rfl) fun b17 => ?_
  refine stepW (s_store rfl rfl rfl rfl rfl rfl (id := 17) rfl sz45 rfl (Nat.le_of_ble_eq_true rfl) rfl trivial) fun _ => ?_
  refine sq rfl rfl hn rfl (q_assign rfl rfl) ?_
  refine run_nil ?_
  refine aend_then ?_
  refine awp_seq ?_
  refine awp_join_on (e := .normal) (ι := {p : Nat × List Nat // EvOK x N p.2 ∧ p.2 ≠ []}) (fun p => (19, true, .val (.pointer (some ⟨p.1.1, 0, none⟩))) :: (20, true, .d (.int .i64 0)) :: anys [56, 57, 58, 59, 60, 61, 62, 63, 64, 65, 55, 66, 67]) (fun p => [(19, .box p.1.1 45 [.d (.int .i64 (owedR x a b p.1.2).1), .d (.int .i64 (owedR x a b p.1.2).2)])]) (fun hJ0 => ?_) ?_
  · skip
    refine d_start (W := fun b => b ≠ b5 ∧ b ≠ b6) fmo ?_
    refine d1q (i := 0) rfl (by kernel_rfl) (fun _ _ _ _ h => h) rfl rfl hn rfl (q_loadAd rfl rfl (id := 5) rfl Try.underlying26 rfl sz26 rfl rfl (seesA (by simp))) ?_
    refine d1q (i := 2) rfl (by kernel_rfl) (fun _ _ _ _ h => h) rfl rfl hn rfl (q_move rfl rfl) ?_
    refine d1q (i := 3) rfl (by kernel_rfl) (fun _ _ _ _ h => h) rfl rfl hn rfl (q_move rfl rfl) ?_
    refine d1q (i := 4) rfl (by kernel_rfl) (fun _ _ _ _ h => h) rfl rfl hn rfl (q_add rfl rfl rfl (r := (a : Int) + 1) (i64w (by omega) rfl)) ?_
    refine d1q (i := 5) rfl (by kernel_rfl) (fun _ _ _ _ h => h) rfl rfl hn rfl (q_fieldAddr rfl rfl Try.underlying26 rfl sz3) ?_
    refine d1q (i := 6) rfl (by kernel_rfl) (fun _ _ _ _ h => h) rfl rfl hn rfl (q_load rfl rfl (id := 6) rfl Try.underlying3 rfl rfl (seesA (by simp))) ?_
    refine d1q (i := 7) rfl (by kernel_rfl) (fun _ _ _ _ h => h) rfl rfl hn rfl (q_rem rfl rfl rfl (r := ((b : Nat) : Int)) (by omega) hab) ?_
    refine d1q (i := 8) rfl (by kernel_rfl) (fun _ _ _ _ h => h) rfl rfl hn rfl (q_move rfl rfl) ?_
    refine d1_of_d2 ?_
    refine d2_all 1 [13] (by kernel_rfl) ⟨?_, ?_, trivial⟩
    · skip
      refine br rfl (s_call [] (fun _ => Register_ok x (by have h5 := n.vx.s4; omega) (by have h5 := n.vx.e6; omega) (by have h5 := n.vx.g4; omega)) rfl (guard_none rfl) rfl (nb hn rfl) (fun _ => trivial) rfl rfl (.refl _)) fun _ => ?_
      refine d2_of_d1 ?_
      refine d1_of_d2 ?_
      refine d2_all 9 [13] (by kernel_rfl) ⟨?_, ?_, trivial⟩
      · skip
        refine br rfl (s_callE (Owed_eff x a b N) rfl rfl rfl (nb hn rfl) (.d rfl) rfl (.refl _) trivial (fun _ => rfl) (fun _ h => no_blks h)) fun x5 => ?_
        obtain ⟨he5, hv5_, hne5⟩ := wantE_0 n.vx n.hx (by rw [houseB_of n.vx (by omega) hxa, houseB_of n.vx (by omega) hxb]; rfl) (by omega) x5.2
        rw [he5]
        refine d2_of_d1 ?_
        refine d1q (i := 10) rfl (by kernel_rfl) (fun _ _ _ _ h => h) rfl rfl hn rfl (q_move rfl rfl) ?_
        refine d1q (i := 11) rfl (by kernel_rfl) (fun _ _ _ _ h => h) rfl rfl hn rfl (q_extractd rfl rfl rfl) ?_
        refine d1q (i := 12) rfl (by kernel_rfl) (fun _ _ _ _ h => h) rfl rfl hn rfl (q_extractd rfl rfl rfl) ?_
        refine d1_of_d2 ?_
        refine d2_one (i := 13) (by kernel_rfl) rfl (s_alloc 19 rfl rfl rfl (nb hn rfl) zr45 rfl rfl) fun b19 => ?_
        refine d2_of_d1 ?_
        refine d1_of_d2 ?_
        refine g_ne_d2 (i := 19) (j := 5) rfl rfl rfl (fun hne19_5 => ?_)
        refine g_ne_d2 (i := 19) (j := 6) rfl rfl rfl (fun hne19_6 => ?_)
        refine d2_one (i := 14) (by kernel_rfl) rfl (s_store rfl rfl rfl rfl rfl rfl (id := 19) rfl sz45 rfl (Nat.le_of_ble_eq_true rfl) rfl ⟨fun e => hne19_5 _ rfl (congrArg some e.symm), fun e => hne19_6 _ rfl (congrArg some e.symm)⟩) fun _ => ?_
        refine d2_of_d1 ?_
        refine d1q (i := 15) rfl (by kernel_rfl) (fun _ _ _ _ h => h) rfl rfl hn rfl (q_assign rfl rfl) ?_
        refine d1_of_d2 ?_
        refine d2_done (by kernel_rfl) ?_
        exact aend_join_on hJ0 ⟨(b19, x5.1.1), hv5_, hne5⟩ ⟨.inl rfl, .inl rfl, holdT_anys _⟩ ⟨.inl rfl, trivial⟩ (by repeat (first | exact kr _ | refine kc rfl ?_)) (by repeat (first | exact kr _ | refine kc rfl ?_))
      · skip
        refine br rfl (s_alloc 19 rfl rfl rfl (nb hn rfl) zr45 rfl rfl) fun b19 => ?_
        refine d2_of_d1 ?_
        refine d1_of_d2 ?_
        refine d2_one (i := 9) (by kernel_rfl) rfl (s_callE (Owed_eff x a b N) rfl rfl rfl (nb hn rfl) (.d rfl) rfl (.refl _) trivial (fun _ => rfl) (fun _ h => no_blks h)) fun x5 => ?_
        obtain ⟨he5, hv5_, hne5⟩ := wantE_0 n.vx n.hx (by rw [houseB_of n.vx (by omega) hxa, houseB_of n.vx (by omega) hxb]; rfl) (by omega) x5.2
        rw [he5]
        refine d2_of_d1 ?_
        refine d1q (i := 10) rfl (by kernel_rfl) (fun _ _ _ _ h => h) rfl rfl hn rfl (q_move rfl rfl) ?_
        refine d1q (i := 11) rfl (by kernel_rfl) (fun _ _ _ _ h => h) rfl rfl hn rfl (q_extractd rfl rfl rfl) ?_
        refine d1q (i := 12) rfl (by kernel_rfl) (fun _ _ _ _ h => h) rfl rfl hn rfl (q_extractd rfl rfl rfl) ?_
        refine d1_of_d2 ?_
        refine g_ne_d2 (i := 19) (j := 5) rfl rfl rfl (fun hne19_5 => ?_)
        refine g_ne_d2 (i := 19) (j := 6) rfl rfl rfl (fun hne19_6 => ?_)
        refine d2_one (i := 14) (by kernel_rfl) rfl (s_store rfl rfl rfl rfl rfl rfl (id := 19) rfl sz45 rfl (Nat.le_of_ble_eq_true rfl) rfl ⟨fun e => hne19_5 _ rfl (congrArg some e.symm), fun e => hne19_6 _ rfl (congrArg some e.symm)⟩) fun _ => ?_
        refine d2_of_d1 ?_
        refine d1q (i := 15) rfl (by kernel_rfl) (fun _ _ _ _ h => h) rfl rfl hn rfl (q_assign rfl rfl) ?_
        refine d1_of_d2 ?_
        refine d2_done (by kernel_rfl) ?_
        exact aend_join_on hJ0 ⟨(b19, x5.1.1), hv5_, hne5⟩ ⟨.inl rfl, .inl rfl, holdT_anys _⟩ ⟨.inl rfl, trivial⟩ (by repeat (first | exact kr _ | refine kc rfl ?_)) (by repeat (first | exact kr _ | refine kc rfl ?_))
    · skip
      refine br rfl (s_alloc 19 rfl rfl rfl (nb hn rfl) zr45 rfl rfl) fun b19 => ?_
      refine d2_of_d1 ?_
      refine d1_of_d2 ?_
      refine d2_one (i := 1) (by kernel_rfl) rfl (s_call [] (fun _ => Register_ok x (by have h5 := n.vx.s4; omega) (by have h5 := n.vx.e6; omega) (by have h5 := n.vx.g4; omega)) rfl (guard_none rfl) rfl (nb hn rfl) (fun _ => trivial) rfl rfl (.refl _)) fun _ => ?_
      refine d2_of_d1 ?_
      refine d1_of_d2 ?_
      refine d2_one (i := 9) (by kernel_rfl) rfl (s_callE (Owed_eff x a b N) rfl rfl rfl (nb hn rfl) (.d rfl) rfl (.refl _) trivial (fun _ => rfl) (fun _ h => no_blks h)) fun x5 => ?_
      obtain ⟨he5, hv5_, hne5⟩ := wantE_0 n.vx n.hx (by rw [houseB_of n.vx (by omega) hxa, houseB_of n.vx (by omega) hxb]; rfl) (by omega) x5.2
      rw [he5]
      refine d2_of_d1 ?_
      refine d1q (i := 10) rfl (by kernel_rfl) (fun _ _ _ _ h => h) rfl rfl hn rfl (q_move rfl rfl) ?_
      refine d1q (i := 11) rfl (by kernel_rfl) (fun _ _ _ _ h => h) rfl rfl hn rfl (q_extractd rfl rfl rfl) ?_
      refine d1q (i := 12) rfl (by kernel_rfl) (fun _ _ _ _ h => h) rfl rfl hn rfl (q_extractd rfl rfl rfl) ?_
      refine d1_of_d2 ?_
      refine g_ne_d2 (i := 19) (j := 5) rfl rfl rfl (fun hne19_5 => ?_)
      refine g_ne_d2 (i := 19) (j := 6) rfl rfl rfl (fun hne19_6 => ?_)
      refine d2_one (i := 14) (by kernel_rfl) rfl (s_store rfl rfl rfl rfl rfl rfl (id := 19) rfl sz45 rfl (Nat.le_of_ble_eq_true rfl) rfl ⟨fun e => hne19_5 _ rfl (congrArg some e.symm), fun e => hne19_6 _ rfl (congrArg some e.symm)⟩) fun _ => ?_
      refine d2_of_d1 ?_
      refine d1q (i := 15) rfl (by kernel_rfl) (fun _ _ _ _ h => h) rfl rfl hn rfl (q_assign rfl rfl) ?_
      refine d1_of_d2 ?_
      refine d2_done (by kernel_rfl) ?_
      exact aend_join_on hJ0 ⟨(b19, x5.1.1), hv5_, hne5⟩ ⟨.inl rfl, .inl rfl, holdT_anys _⟩ ⟨.inl rfl, trivial⟩ (by repeat (first | exact kr _ | refine kc rfl ?_)) (by repeat (first | exact kr _ | refine kc rfl ?_))
  · rintro ⟨⟨b19, o5⟩, hv5_, hne5⟩
    dsimp only
    dsimp only at hv5_ hne5
    refine aend_then ?_
    refine awp_seq ?_
    refine awp_join_on (e := .normal) (ι := {p : Nat × List Nat // EvOK r N p.2 ∧ p.2 ≠ []}) (fun p => (21, true, .val (.pointer (some ⟨p.1.1, 0, none⟩))) :: (22, true, .d (.int .i64 0)) :: anys [69, 70, 71, 72, 73, 74, 75, 76, 77, 78, 68, 79, 80]) (fun p => [(21, .box p.1.1 45 [.d (.int .i64 (owedR r a b p.1.2).1), .d (.int .i64 (owedR r a b p.1.2).2)])]) (fun hJ1 => ?_) ?_
    · skip
      refine d_start (W := fun b => b ≠ b6) fmo ?_
      refine d1q (i := 0) rfl (by kernel_rfl) (fun _ _ _ _ h => h) rfl rfl hn rfl (q_loadAd rfl rfl (id := 6) rfl Try.underlying26 rfl sz26 rfl rfl (seesA (by simp))) ?_
      refine d1q (i := 2) rfl (by kernel_rfl) (fun _ _ _ _ h => h) rfl rfl hn rfl (q_move rfl rfl) ?_
      refine d1q (i := 3) rfl (by kernel_rfl) (fun _ _ _ _ h => h) rfl rfl hn rfl (q_move rfl rfl) ?_
      refine d1q (i := 4) rfl (by kernel_rfl) (fun _ _ _ _ h => h) rfl rfl hn rfl (q_add rfl rfl rfl (r := (a : Int) + 1) (i64w (by omega) rfl)) ?_
      refine d1q (i := 5) rfl (by kernel_rfl) (fun _ _ _ _ h => h) rfl rfl hn rfl (q_fieldAddr rfl rfl Try.underlying26 rfl sz3) ?_
      refine d1q (i := 6) rfl (by kernel_rfl) (fun _ _ _ _ h => h) rfl rfl hn rfl (q_load rfl rfl (id := 6) rfl Try.underlying3 rfl rfl (seesA (by simp))) ?_
      refine d1q (i := 7) rfl (by kernel_rfl) (fun _ _ _ _ h => h) rfl rfl hn rfl (q_rem rfl rfl rfl (r := ((b : Nat) : Int)) (by omega) hab) ?_
      refine d1q (i := 8) rfl (by kernel_rfl) (fun _ _ _ _ h => h) rfl rfl hn rfl (q_move rfl rfl) ?_
      refine d1_of_d2 ?_
      refine d2_all 1 [13] (by kernel_rfl) ⟨?_, ?_, trivial⟩
      · skip
        refine br rfl (s_call [] (fun _ => Register_ok r (by have h5 := n.v.s4; omega) (by have h5 := n.v.e6; omega) (by have h5 := n.v.g4; omega)) rfl (guard_none rfl) rfl (nb hn rfl) (fun _ => trivial) rfl rfl (.refl _)) fun _ => ?_
        refine d2_of_d1 ?_
        refine d1_of_d2 ?_
        refine d2_all 9 [13] (by kernel_rfl) ⟨?_, ?_, trivial⟩
        · skip
          refine br rfl (s_callE (Owed_eff r a b N) rfl rfl rfl (nb hn rfl) (.d rfl) rfl (.refl _) trivial (fun _ => rfl) (fun _ h => no_blks h)) fun x6 => ?_
          obtain ⟨he6, hv6_, hne6⟩ := wantE_0 n.v n.h (by rw [houseB_of n.v (by omega) ha, houseB_of n.v (by omega) hb5]; rfl) (by omega) x6.2
          rw [he6]
          refine d2_of_d1 ?_
          refine d1q (i := 10) rfl (by kernel_rfl) (fun _ _ _ _ h => h) rfl rfl hn rfl (q_move rfl rfl) ?_
          refine d1q (i := 11) rfl (by kernel_rfl) (fun _ _ _ _ h => h) rfl rfl hn rfl (q_extractd rfl rfl rfl) ?_
          refine d1q (i := 12) rfl (by kernel_rfl) (fun _ _ _ _ h => h) rfl rfl hn rfl (q_extractd rfl rfl rfl) ?_
          refine d1_of_d2 ?_
          refine d2_one (i := 13) (by kernel_rfl) rfl (s_alloc 21 rfl rfl rfl (nb hn rfl) zr45 rfl rfl) fun b21 => ?_
          refine d2_of_d1 ?_
          refine d1_of_d2 ?_
          refine g_ne_d2 (i := 21) (j := 6) rfl rfl rfl (fun hne21_6 => ?_)
          refine d2_one (i := 14) (by kernel_rfl) rfl (s_store rfl rfl rfl rfl rfl rfl (id := 21) rfl sz45 rfl (Nat.le_of_ble_eq_true rfl) rfl (fun e => hne21_6 _ rfl (congrArg some e.symm))) fun _ => ?_
          refine d2_of_d1 ?_
          refine d1q (i := 15) rfl (by kernel_rfl) (fun _ _ _ _ h => h) rfl rfl hn rfl (q_assign rfl rfl) ?_
          refine d1_of_d2 ?_
          refine d2_done (by kernel_rfl) ?_
          exact aend_join_on hJ1 ⟨(b21, x6.1.1), hv6_, hne6⟩ ⟨.inl rfl, .inl rfl, holdT_anys _⟩ ⟨.inl rfl, trivial⟩ (by repeat (first | exact kr _ | refine kc rfl ?_)) (by repeat (first | exact kr _ | refine kc rfl ?_))
        · skip
          refine br rfl (s_alloc 21 rfl rfl rfl (nb hn rfl) zr45 rfl rfl) fun b21 => ?_
          refine d2_of_d1 ?_
          refine d1_of_d2 ?_
          refine d2_one (i := 9) (by kernel_rfl) rfl (s_callE (Owed_eff r a b N) rfl rfl rfl (nb hn rfl) (.d rfl) rfl (.refl _) trivial (fun _ => rfl) (fun _ h => no_blks h)) fun x6 => ?_
          obtain ⟨he6, hv6_, hne6⟩ := wantE_0 n.v n.h (by rw [houseB_of n.v (by omega) ha, houseB_of n.v (by omega) hb5]; rfl) (by omega) x6.2
          rw [he6]
          refine d2_of_d1 ?_
          refine d1q (i := 10) rfl (by kernel_rfl) (fun _ _ _ _ h => h) rfl rfl hn rfl (q_move rfl rfl) ?_
          refine d1q (i := 11) rfl (by kernel_rfl) (fun _ _ _ _ h => h) rfl rfl hn rfl (q_extractd rfl rfl rfl) ?_
          refine d1q (i := 12) rfl (by kernel_rfl) (fun _ _ _ _ h => h) rfl rfl hn rfl (q_extractd rfl rfl rfl) ?_
          refine d1_of_d2 ?_
          refine g_ne_d2 (i := 21) (j := 6) rfl rfl rfl (fun hne21_6 => ?_)
          refine d2_one (i := 14) (by kernel_rfl) rfl (s_store rfl rfl rfl rfl rfl rfl (id := 21) rfl sz45 rfl (Nat.le_of_ble_eq_true rfl) rfl (fun e => hne21_6 _ rfl (congrArg some e.symm))) fun _ => ?_
          refine d2_of_d1 ?_
          refine d1q (i := 15) rfl (by kernel_rfl) (fun _ _ _ _ h => h) rfl rfl hn rfl (q_assign rfl rfl) ?_
          refine d1_of_d2 ?_
          refine d2_done (by kernel_rfl) ?_
          exact aend_join_on hJ1 ⟨(b21, x6.1.1), hv6_, hne6⟩ ⟨.inl rfl, .inl rfl, holdT_anys _⟩ ⟨.inl rfl, trivial⟩ (by repeat (first | exact kr _ | refine kc rfl ?_)) (by repeat (first | exact kr _ | refine kc rfl ?_))
      · skip
        refine br rfl (s_alloc 21 rfl rfl rfl (nb hn rfl) zr45 rfl rfl) fun b21 => ?_
        refine d2_of_d1 ?_
        refine d1_of_d2 ?_
        refine d2_one (i := 1) (by kernel_rfl) rfl (s_call [] (fun _ => Register_ok r (by have h5 := n.v.s4; omega) (by have h5 := n.v.e6; omega) (by have h5 := n.v.g4; omega)) rfl (guard_none rfl) rfl (nb hn rfl) (fun _ => trivial) rfl rfl (.refl _)) fun _ => ?_
        refine d2_of_d1 ?_
        refine d1_of_d2 ?_
        refine d2_one (i := 9) (by kernel_rfl) rfl (s_callE (Owed_eff r a b N) rfl rfl rfl (nb hn rfl) (.d rfl) rfl (.refl _) trivial (fun _ => rfl) (fun _ h => no_blks h)) fun x6 => ?_
        obtain ⟨he6, hv6_, hne6⟩ := wantE_0 n.v n.h (by rw [houseB_of n.v (by omega) ha, houseB_of n.v (by omega) hb5]; rfl) (by omega) x6.2
        rw [he6]
        refine d2_of_d1 ?_
        refine d1q (i := 10) rfl (by kernel_rfl) (fun _ _ _ _ h => h) rfl rfl hn rfl (q_move rfl rfl) ?_
        refine d1q (i := 11) rfl (by kernel_rfl) (fun _ _ _ _ h => h) rfl rfl hn rfl (q_extractd rfl rfl rfl) ?_
        refine d1q (i := 12) rfl (by kernel_rfl) (fun _ _ _ _ h => h) rfl rfl hn rfl (q_extractd rfl rfl rfl) ?_
        refine d1_of_d2 ?_
        refine g_ne_d2 (i := 21) (j := 6) rfl rfl rfl (fun hne21_6 => ?_)
        refine d2_one (i := 14) (by kernel_rfl) rfl (s_store rfl rfl rfl rfl rfl rfl (id := 21) rfl sz45 rfl (Nat.le_of_ble_eq_true rfl) rfl (fun e => hne21_6 _ rfl (congrArg some e.symm))) fun _ => ?_
        refine d2_of_d1 ?_
        refine d1q (i := 15) rfl (by kernel_rfl) (fun _ _ _ _ h => h) rfl rfl hn rfl (q_assign rfl rfl) ?_
        refine d1_of_d2 ?_
        refine d2_done (by kernel_rfl) ?_
        exact aend_join_on hJ1 ⟨(b21, x6.1.1), hv6_, hne6⟩ ⟨.inl rfl, .inl rfl, holdT_anys _⟩ ⟨.inl rfl, trivial⟩ (by repeat (first | exact kr _ | refine kc rfl ?_)) (by repeat (first | exact kr _ | refine kc rfl ?_))
    · rintro ⟨⟨b21, o6⟩, hv6_, hne6⟩
      dsimp only
      dsimp only at hv6_ hne6
      refine aend_then ?_
      refine awp_seq ?_
      refine awp_region ?_
      refine sq rfl rfl hn rfl (q_move rfl rfl) ?_
      refine sq rfl rfl hn rfl (q_eql rfl rfl rfl) ?_
      refine sq rfl rfl hn rfl (q_move rfl rfl) ?_
      refine stepG [] (guard_some rfl rfl rfl) rfl (nb hn rfl) (fun hc => trivial) (fun hc => q_move rfl rfl) ?_
      refine stepG [(84, _)] (guard_some rfl rfl rfl) rfl (nb hn rfl) (fun hc => ⟨⟨_, rfl, hc⟩, trivial⟩) (fun hc => q_eql rfl rfl rfl) ?_
      refine sq rfl rfl hn rfl (q_and rfl rfl rfl (by intro hB; first | (rw [hB]; rfl) | (rw [hB, hc]; rfl) | simp_all)) ?_
      refine sq rfl rfl hn rfl (q_move rfl rfl) ?_
      refine stepG [] (guard_some rfl rfl rfl) rfl (nb hn rfl) (fun hc => trivial) (fun hc => q_move rfl rfl) ?_
      refine stepG [] (guard_some rfl rfl rfl) rfl (nb hn rfl) (fun hc => trivial) (fun hc => q_move rfl rfl) ?_
      refine stepW (s_call [(88, _), (89, _)] (fun hc => subset_ok _ _) rfl (guard_some rfl rfl rfl) rfl (nb hn rfl) (fun hc => ⟨⟨_, rfl, hc⟩, ⟨_, rfl, hc⟩, trivial⟩) rfl rfl (.refl _)) fun _ => ?_
      refine sq rfl rfl hn rfl (q_and rfl rfl rfl (by intro hB; first | (rw [hB]; rfl) | (rw [hB, hc]; rfl) | simp_all)) ?_
      refine sq rfl rfl hn rfl (q_move rfl rfl) ?_
      refine stepG [] (guard_some rfl rfl rfl) rfl (nb hn rfl) (fun hc => trivial) (fun hc => q_move rfl rfl) ?_
      refine stepG [(93, _)] (guard_some rfl rfl rfl) rfl (nb hn rfl) (fun hc => ⟨⟨_, rfl, hc⟩, trivial⟩) (fun hc => q_eql rfl rfl rfl) ?_
      refine sq rfl rfl hn rfl (q_and rfl rfl rfl (by intro hB; first | (rw [hB]; rfl) | (rw [hB, hc]; rfl) | simp_all)) ?_
      refine sq rfl rfl hn rfl (q_move rfl rfl) ?_
      refine stepG [] (guard_some rfl rfl rfl) rfl (nb hn rfl) (fun hc => trivial) (fun hc => q_move rfl rfl) ?_
      refine stepG [(97, _)] (guard_some rfl rfl rfl) rfl (nb hn rfl) (fun hc => ⟨⟨_, rfl, hc⟩, trivial⟩) (fun hc => q_eql rfl rfl rfl) ?_
      refine sq rfl rfl hn rfl (q_and rfl rfl rfl (by intro hB; first | (rw [hB]; rfl) | (rw [hB, hc]; rfl) | simp_all)) ?_
      refine sq rfl rfl hn rfl (q_move rfl rfl) ?_
      refine stepG [] (guard_some rfl rfl rfl) rfl (nb hn rfl) (fun hc => trivial) (fun hc => q_fieldAddr rfl rfl Try.underlying45 rfl sz3) ?_
      refine stepG [(101, _)] (guard_some rfl rfl rfl) rfl (nb hn rfl) (fun hc => ⟨⟨_, rfl, hc⟩, trivial⟩) (fun hc => q_load rfl rfl (id := 15) rfl Try.underlying3 rfl rfl sees0) ?_
      refine stepG [] (guard_some rfl rfl rfl) rfl (nb hn rfl) (fun hc => trivial) (fun hc => q_fieldAddr rfl rfl Try.underlying45 rfl sz3) ?_
      refine stepG [(103, _)] (guard_some rfl rfl rfl) rfl (nb hn rfl) (fun hc => ⟨⟨_, rfl, hc⟩, trivial⟩) (fun hc => q_load rfl rfl (id := 17) rfl Try.underlying3 rfl rfl sees0) ?_
      refine stepG [(102, _), (104, _)] (guard_some rfl rfl rfl) rfl (nb hn rfl) (fun hc => ⟨⟨_, rfl, hc⟩, ⟨_, rfl, hc⟩, trivial⟩) (fun hc => q_geq rfl rfl rfl) ?_
      refine sq rfl rfl hn rfl (q_and rfl rfl rfl (by intro hB; first | (rw [hB]; rfl) | (rw [hB, hc]; rfl) | simp_all)) ?_
      refine sq rfl rfl hn rfl (q_move rfl rfl) ?_
      refine stepG [] (guard_some rfl rfl rfl) rfl (nb hn rfl) (fun hc => trivial) (fun hc => q_fieldAddr rfl rfl Try.underlying45 rfl sz3) ?_
      refine stepG [(108, _)] (guard_some rfl rfl rfl) rfl (nb hn rfl) (fun hc => ⟨⟨_, rfl, hc⟩, trivial⟩) (fun hc => q_load rfl rfl (id := 15) rfl Try.underlying3 rfl rfl sees0) ?_
      refine stepG [] (guard_some rfl rfl rfl) rfl (nb hn rfl) (fun hc => trivial) (fun hc => q_fieldAddr rfl rfl Try.underlying45 rfl sz3) ?_
      refine stepG [(110, _)] (guard_some rfl rfl rfl) rfl (nb hn rfl) (fun hc => ⟨⟨_, rfl, hc⟩, trivial⟩) (fun hc => q_load rfl rfl (id := 17) rfl Try.underlying3 rfl rfl sees0) ?_
      refine stepG [(109, _), (111, _)] (guard_some rfl rfl rfl) rfl (nb hn rfl) (fun hc => ⟨⟨_, rfl, hc⟩, ⟨_, rfl, hc⟩, trivial⟩) (fun hc => q_leq rfl rfl rfl) ?_
      refine sq rfl rfl hn rfl (q_and rfl rfl rfl (by intro hB; first | (rw [hB]; rfl) | (rw [hB, hc]; rfl) | simp_all)) ?_
      refine sq rfl rfl hn rfl (q_move rfl rfl) ?_
      refine stepG [] (guard_some rfl rfl rfl) rfl (nb hn rfl) (fun hc => trivial) (fun hc => q_move rfl rfl) ?_
      refine stepG [(115, _)] (guard_some rfl rfl rfl) rfl (nb hn rfl) (fun hc => ⟨⟨_, rfl, hc⟩, trivial⟩) (fun hc => q_eql rfl rfl rfl) ?_
      refine sq rfl rfl hn rfl (q_and rfl rfl rfl (by intro hB; first | (rw [hB]; rfl) | (rw [hB, hc]; rfl) | simp_all)) ?_
      refine sq rfl rfl hn rfl (q_move rfl rfl) ?_
      refine stepG [] (guard_some rfl rfl rfl) rfl (nb hn rfl) (fun hc => trivial) (fun hc => q_move rfl rfl) ?_
      refine stepG [(119, _)] (guard_some rfl rfl rfl) rfl (nb hn rfl) (fun hc => ⟨⟨_, rfl, hc⟩, trivial⟩) (fun hc => q_eql rfl rfl rfl) ?_
      refine sq rfl rfl hn rfl (q_and rfl rfl rfl (by intro hB; first | (rw [hB]; rfl) | (rw [hB, hc]; rfl) | simp_all)) ?_
      refine sq rfl rfl hn rfl (q_move rfl rfl) ?_
      refine stepG [] (guard_some rfl rfl rfl) rfl (nb hn rfl) (fun hc => trivial) (fun hc => q_fieldAddr rfl rfl Try.underlying45 rfl sz3) ?_
      refine stepG [(123, _)] (guard_some rfl rfl rfl) rfl (nb hn rfl) (fun hc => ⟨⟨_, rfl, hc⟩, trivial⟩) (fun hc => q_load rfl rfl (id := 19) rfl Try.underlying3 rfl rfl sees0) ?_
      refine stepG [] (guard_some rfl rfl rfl) rfl (nb hn rfl) (fun hc => trivial) (fun hc => q_fieldAddr rfl rfl Try.underlying45 rfl sz3) ?_
      refine stepG [(125, _)] (guard_some rfl rfl rfl) rfl (nb hn rfl) (fun hc => ⟨⟨_, rfl, hc⟩, trivial⟩) (fun hc => q_load rfl rfl (id := 21) rfl Try.underlying3 rfl rfl sees0) ?_
      refine stepG [(124, _), (126, _)] (guard_some rfl rfl rfl) rfl (nb hn rfl) (fun hc => ⟨⟨_, rfl, hc⟩, ⟨_, rfl, hc⟩, trivial⟩) (fun hc => q_geq rfl rfl rfl) ?_
      refine sq rfl rfl hn rfl (q_and rfl rfl rfl (by intro hB; first | (rw [hB]; rfl) | (rw [hB, hc]; rfl) | simp_all)) ?_
      refine sq rfl rfl hn rfl (q_move rfl rfl) ?_
      refine stepG [] (guard_some rfl rfl rfl) rfl (nb hn rfl) (fun hc => trivial) (fun hc => q_fieldAddr rfl rfl Try.underlying45 rfl sz3) ?_
      refine stepG [(130, _)] (guard_some rfl rfl rfl) rfl (nb hn rfl) (fun hc => ⟨⟨_, rfl, hc⟩, trivial⟩) (fun hc => q_load rfl rfl (id := 19) rfl Try.underlying3 rfl rfl sees0) ?_
      refine stepG [] (guard_some rfl rfl rfl) rfl (nb hn rfl) (fun hc => trivial) (fun hc => q_fieldAddr rfl rfl Try.underlying45 rfl sz3) ?_
      refine stepG [(132, _)] (guard_some rfl rfl rfl) rfl (nb hn rfl) (fun hc => ⟨⟨_, rfl, hc⟩, trivial⟩) (fun hc => q_load rfl rfl (id := 21) rfl Try.underlying3 rfl rfl sees0) ?_
      refine stepG [(131, _), (133, _)] (guard_some rfl rfl rfl) rfl (nb hn rfl) (fun hc => ⟨⟨_, rfl, hc⟩, ⟨_, rfl, hc⟩, trivial⟩) (fun hc => q_leq rfl rfl rfl) ?_
      refine sq rfl rfl hn rfl (q_and rfl rfl rfl (by intro hB; first | (rw [hB]; rfl) | (rw [hB, hc]; rfl) | simp_all)) ?_
      refine sq rfl rfl hn rfl (q_assign rfl rfl) ?_
      refine run_nil ?_
      refine aend_then ?_
      refine awp_ret ?_
      have f1 := nar_hold (s := s) n hv1_ hv2_
      have f2 := nar_held (a := a) n hv3_ hne3 hv4_ hne4
      have f3 := nar_owed (a := a) (b := b) n hv5_ hne5 hv6_ hne6
      exact ret_E (.inl rfl) () ((hands_1 rfl (.tmp rfl)).eq (by simp [f1, f2, f3])) trivial

theorem seeing_big (r : Reg) (s : Sight5) (h5 : r.sights.length * 24 ≤ 140737488351232) : PureAt Try.prog 32 [regD r, .agg (sightE s)] (regD (seeingR r s)) := by
  refine PureAt.of_awp Try.func32 rfl (by kernel_rfl) (Nat.le_of_ble_eq_true rfl) fun Γ hn hl => ?_
  refine awp_seq ?_
  refine awp_region ?_
  refine stepW (s_box 2 rfl rfl rfl (nb hn rfl) rfl rfl) fun b2 => ?_
  refine stepW (s_box 3 rfl rfl rfl (nb hn rfl) rfl rfl) fun b3 => ?_
  refine stepW (s_alloc 4 rfl rfl rfl (nb hn rfl) zr26 rfl rfl) fun b4 => ?_
  refine run_nil ?_
  refine aend_then ?_
  refine awp_seq ?_
  refine d_start (W := fun b => b ≠ b3) fmo ?_
  refine d1q (i := 1) rfl (by kernel_rfl) (fun _ _ _ _ h => h) rfl rfl hn rfl (q_fieldAddr rfl rfl Try.underlying26 rfl sz24) ?_
  refine d1q (i := 4) rfl (by kernel_rfl) (fun _ _ _ _ h => h) rfl rfl hn rfl (q_loadAd rfl rfl (id := 3) rfl Try.underlying59 rfl sz59 rfl rfl (seesA (by simp))) ?_
  refine d1_of_d2 ?_
  refine d2_all 0 [2, 5] (by kernel_rfl) ⟨?_, ?_, ?_, trivial⟩
  · skip
    refine br rfl (s_buildRow 5 rfl rfl rfl (nb hn rfl) Try.underlying24 sz59 zr59 rfl rfl rfl (show _ = [] from by kernel_rfl) (by kernel_rfl) rfl rfl (show allD _ = some [] from by kernel_rfl) rfl rfl) fun v5 => ?_
    refine d2_of_d1 ?_
    refine d1_of_d2 ?_
    refine d2_all 2 [5] (by kernel_rfl) ⟨?_, ?_, trivial⟩
    · skip
      refine br rfl (quiet_wg _ [] (guard_none rfl) rfl (nb hn rfl) (fun _ => trivial) (fun _ => q_load rfl rfl (id := 2) rfl Try.underlying24 rfl rfl sees0)) fun _ => ?_
      refine d2_of_d1 ?_
      refine d1_of_d2 ?_
      refine g_ne_d2 (i := 5) (j := 3) rfl rfl rfl (fun hne5_3 => ?_)
      refine d2_all 3 [5] (by kernel_rfl) ⟨?_, ?_, trivial⟩
      · skip
        refine br rfl (s_append (id := 5) rfl rfl rfl (nb hn rfl) elt24 trivial rfl rfl rfl (by simp [chunk]; omega) (by simp [chunk]; omega) (fun b hb => (fun e => hne5_3 _ hb (congrArg some e.symm)))) fun v8 => ?_
        refine d2_of_d1 ?_
        refine d1_of_d2 ?_
        refine d2_one (i := 5) (by kernel_rfl) rfl (s_buildSlice rfl rfl rfl (nb hn rfl) Try.underlying24 sz59 zr59 rfl rfl rfl (show _ = [.d (.int .i64 0), .d (.int .i64 0), .d (.int .i64 0)] from by kernel_rfl) (by kernel_rfl) rfl (fill_agg (by kernel_rfl) rfl) (allD_d _) (beq_len rfl) (chunk_one rfl)) fun _ => ?_
        refine d2_of_d1 ?_
        refine d1_of_d2 ?_
        refine g_ne_d2 (i := 5) (j := 3) rfl rfl rfl (fun hne5_3 => ?_)
        refine d2_one (i := 6) (by kernel_rfl) rfl (s_append (id := 5) rfl rfl rfl (nb hn rfl) elt24 trivial rfl rfl rfl (by simp [chunk]; omega) (by simp [chunk]; omega) (fun b hb => (fun e => hne5_3 _ hb (congrArg some e.symm)))) fun v11 => ?_
        refine d2_of_d1 ?_
        refine d1q (i := 7) rfl (by kernel_rfl) (fun _ _ _ _ h => h) rfl rfl hn rfl (q_fieldAddr rfl rfl Try.underlying26 rfl sz24) ?_
        refine d1_of_d2 ?_
        refine gh_d2 (g_row (t := 11) (id := 5) rfl rfl) ?_
        refine g_ne_d2 (i := 2) (j := 3) rfl rfl rfl (fun hne2_3 => ?_)
        refine d2_one (i := 8) (by kernel_rfl) rfl (s_store1 rfl rfl rfl rfl rfl rfl (id := 2) rfl sz24 (Nat.le_of_ble_eq_true rfl) rfl (fun e => hne2_3 _ rfl (congrArg some e.symm))) fun _ => ?_
        refine d2_of_d1 ?_
        refine d1_of_d2 ?_
        refine d2_done (by kernel_rfl) ?_
        refine aend_then ?_
        refine awp_seq ?_
        refine awp_region ?_
        refine sq rfl rfl hn rfl (q_loadAd rfl rfl (id := 2) rfl Try.underlying26 rfl sz26 rfl rfl sees0) ?_
        refine stepW (s_store rfl rfl rfl rfl rfl rfl (id := 4) rfl sz26 rfl (Nat.le_of_ble_eq_true rfl) rfl trivial) fun _ => ?_
        refine run_nil ?_
        refine aend_then ?_
        refine awp_ret ?_
        refine ret_eq (ret_1 (.inl rfl) hl rfl (.cellA rfl (id := 4) rfl Try.underlying26 rfl sz26 rfl rfl)) ?_
        simp [seeingR, chunk]
      · skip
        refine br rfl (s_buildSlice rfl rfl rfl (nb hn rfl) Try.underlying24 sz59 zr59 rfl rfl rfl (show _ = [.d (.int .i64 0), .d (.int .i64 0), .d (.int .i64 0)] from by kernel_rfl) (by kernel_rfl) rfl (fill_agg (by kernel_rfl) rfl) (allD_d _) (beq_len rfl) (chunk_one rfl)) fun _ => ?_
        refine d2_of_d1 ?_
        refine d1_of_d2 ?_
        refine g_ne_d2 (i := 5) (j := 3) rfl rfl rfl (fun hne5_3 => ?_)
        refine d2_one (i := 3) (by kernel_rfl) rfl (s_append (id := 5) rfl rfl rfl (nb hn rfl) elt24 trivial rfl rfl rfl (by simp [chunk]; omega) (by simp [chunk]; omega) (fun b hb => (fun e => hne5_3 _ hb (congrArg some e.symm)))) fun v8 => ?_
        refine d2_of_d1 ?_
        refine d1_of_d2 ?_
        refine g_ne_d2 (i := 5) (j := 3) rfl rfl rfl (fun hne5_3 => ?_)
        refine d2_one (i := 6) (by kernel_rfl) rfl (s_append (id := 5) rfl rfl rfl (nb hn rfl) elt24 trivial rfl rfl rfl (by simp [chunk]; omega) (by simp [chunk]; omega) (fun b hb => (fun e => hne5_3 _ hb (congrArg some e.symm)))) fun v11 => ?_
        refine d2_of_d1 ?_
        refine d1q (i := 7) rfl (by kernel_rfl) (fun _ _ _ _ h => h) rfl rfl hn rfl (q_fieldAddr rfl rfl Try.underlying26 rfl sz24) ?_
        refine d1_of_d2 ?_
        refine gh_d2 (g_row (t := 11) (id := 5) rfl rfl) ?_
        refine g_ne_d2 (i := 2) (j := 3) rfl rfl rfl (fun hne2_3 => ?_)
        refine d2_one (i := 8) (by kernel_rfl) rfl (s_store1 rfl rfl rfl rfl rfl rfl (id := 2) rfl sz24 (Nat.le_of_ble_eq_true rfl) rfl (fun e => hne2_3 _ rfl (congrArg some e.symm))) fun _ => ?_
        refine d2_of_d1 ?_
        refine d1_of_d2 ?_
        refine d2_done (by kernel_rfl) ?_
        refine aend_then ?_
        refine awp_seq ?_
        refine awp_region ?_
        refine sq rfl rfl hn rfl (q_loadAd rfl rfl (id := 2) rfl Try.underlying26 rfl sz26 rfl rfl sees0) ?_
        refine stepW (s_store rfl rfl rfl rfl rfl rfl (id := 4) rfl sz26 rfl (Nat.le_of_ble_eq_true rfl) rfl trivial) fun _ => ?_
        refine run_nil ?_
        refine aend_then ?_
        refine awp_ret ?_
        refine ret_eq (ret_1 (.inl rfl) hl rfl (.cellA rfl (id := 4) rfl Try.underlying26 rfl sz26 rfl rfl)) ?_
        simp [seeingR, chunk]
    · skip
      refine br rfl (s_buildSlice rfl rfl rfl (nb hn rfl) Try.underlying24 sz59 zr59 rfl rfl rfl (show _ = [.d (.int .i64 0), .d (.int .i64 0), .d (.int .i64 0)] from by kernel_rfl) (by kernel_rfl) rfl (fill_agg (by kernel_rfl) rfl) (allD_d _) (beq_len rfl) (chunk_one rfl)) fun _ => ?_
      refine d2_of_d1 ?_
      refine d1_of_d2 ?_
      refine d2_one (i := 2) (by kernel_rfl) rfl (quiet_wg _ [] (guard_none rfl) rfl (nb hn rfl) (fun _ => trivial) (fun _ => q_load rfl rfl (id := 2) rfl Try.underlying24 rfl rfl sees0)) fun _ => ?_
      refine d2_of_d1 ?_
      refine d1_of_d2 ?_
      refine g_ne_d2 (i := 5) (j := 3) rfl rfl rfl (fun hne5_3 => ?_)
      refine d2_one (i := 3) (by kernel_rfl) rfl (s_append (id := 5) rfl rfl rfl (nb hn rfl) elt24 trivial rfl rfl rfl (by simp [chunk]; omega) (by simp [chunk]; omega) (fun b hb => (fun e => hne5_3 _ hb (congrArg some e.symm)))) fun v8 => ?_
      refine d2_of_d1 ?_
      refine d1_of_d2 ?_
      refine g_ne_d2 (i := 5) (j := 3) rfl rfl rfl (fun hne5_3 => ?_)
      refine d2_one (i := 6) (by kernel_rfl) rfl (s_append (id := 5) rfl rfl rfl (nb hn rfl) elt24 trivial rfl rfl rfl (by simp [chunk]; omega) (by simp [chunk]; omega) (fun b hb => (fun e => hne5_3 _ hb (congrArg some e.symm)))) fun v11 => ?_
      refine d2_of_d1 ?_
      refine d1q (i := 7) rfl (by kernel_rfl) (fun _ _ _ _ h => h) rfl rfl hn rfl (q_fieldAddr rfl rfl Try.underlying26 rfl sz24) ?_
      refine d1_of_d2 ?_
      refine gh_d2 (g_row (t := 11) (id := 5) rfl rfl) ?_
      refine g_ne_d2 (i := 2) (j := 3) rfl rfl rfl (fun hne2_3 => ?_)
      refine d2_one (i := 8) (by kernel_rfl) rfl (s_store1 rfl rfl rfl rfl rfl rfl (id := 2) rfl sz24 (Nat.le_of_ble_eq_true rfl) rfl (fun e => hne2_3 _ rfl (congrArg some e.symm))) fun _ => ?_
      refine d2_of_d1 ?_
      refine d1_of_d2 ?_
      refine d2_done (by kernel_rfl) ?_
      refine aend_then ?_
      refine awp_seq ?_
      refine awp_region ?_
      refine sq rfl rfl hn rfl (q_loadAd rfl rfl (id := 2) rfl Try.underlying26 rfl sz26 rfl rfl sees0) ?_
      refine stepW (s_store rfl rfl rfl rfl rfl rfl (id := 4) rfl sz26 rfl (Nat.le_of_ble_eq_true rfl) rfl trivial) fun _ => ?_
      refine run_nil ?_
      refine aend_then ?_
      refine awp_ret ?_
      refine ret_eq (ret_1 (.inl rfl) hl rfl (.cellA rfl (id := 4) rfl Try.underlying26 rfl sz26 rfl rfl)) ?_
      simp [seeingR, chunk]
  · skip
    refine br rfl (quiet_wg _ [] (guard_none rfl) rfl (nb hn rfl) (fun _ => trivial) (fun _ => q_load rfl rfl (id := 2) rfl Try.underlying24 rfl rfl sees0)) fun _ => ?_
    refine d2_of_d1 ?_
    refine d1_of_d2 ?_
    refine d2_all 0 [5] (by kernel_rfl) ⟨?_, ?_, trivial⟩
    · skip
      refine br rfl (s_buildRow 5 rfl rfl rfl (nb hn rfl) Try.underlying24 sz59 zr59 rfl rfl rfl (show _ = [] from by kernel_rfl) (by kernel_rfl) rfl rfl (show allD _ = some [] from by kernel_rfl) rfl rfl) fun v5 => ?_
      refine d2_of_d1 ?_
      refine d1_of_d2 ?_
      refine g_ne_d2 (i := 5) (j := 3) rfl rfl rfl (fun hne5_3 => ?_)
      refine d2_all 3 [5] (by kernel_rfl) ⟨?_, ?_, trivial⟩
      · skip
        refine br rfl (s_append (id := 5) rfl rfl rfl (nb hn rfl) elt24 trivial rfl rfl rfl (by simp [chunk]; omega) (by simp [chunk]; omega) (fun b hb => (fun e => hne5_3 _ hb (congrArg some e.symm)))) fun v8 => ?_
        refine d2_of_d1 ?_
        refine d1_of_d2 ?_
        refine d2_one (i := 5) (by kernel_rfl) rfl (s_buildSlice rfl rfl rfl (nb hn rfl) Try.underlying24 sz59 zr59 rfl rfl rfl (show _ = [.d (.int .i64 0), .d (.int .i64 0), .d (.int .i64 0)] from by kernel_rfl) (by kernel_rfl) rfl (fill_agg (by kernel_rfl) rfl) (allD_d _) (beq_len rfl) (chunk_one rfl)) fun _ => ?_
        refine d2_of_d1 ?_
        refine d1_of_d2 ?_
        refine g_ne_d2 (i := 5) (j := 3) rfl rfl rfl (fun hne5_3 => ?_)
        refine d2_one (i := 6) (by kernel_rfl) rfl (s_append (id := 5) rfl rfl rfl (nb hn rfl) elt24 trivial rfl rfl rfl (by simp [chunk]; omega) (by simp [chunk]; omega) (fun b hb => (fun e => hne5_3 _ hb (congrArg some e.symm)))) fun v11 => ?_
        refine d2_of_d1 ?_
        refine d1q (i := 7) rfl (by kernel_rfl) (fun _ _ _ _ h => h) rfl rfl hn rfl (q_fieldAddr rfl rfl Try.underlying26 rfl sz24) ?_
        refine d1_of_d2 ?_
        refine gh_d2 (g_row (t := 11) (id := 5) rfl rfl) ?_
        refine g_ne_d2 (i := 2) (j := 3) rfl rfl rfl (fun hne2_3 => ?_)
        refine d2_one (i := 8) (by kernel_rfl) rfl (s_store1 rfl rfl rfl rfl rfl rfl (id := 2) rfl sz24 (Nat.le_of_ble_eq_true rfl) rfl (fun e => hne2_3 _ rfl (congrArg some e.symm))) fun _ => ?_
        refine d2_of_d1 ?_
        refine d1_of_d2 ?_
        refine d2_done (by kernel_rfl) ?_
        refine aend_then ?_
        refine awp_seq ?_
        refine awp_region ?_
        refine sq rfl rfl hn rfl (q_loadAd rfl rfl (id := 2) rfl Try.underlying26 rfl sz26 rfl rfl sees0) ?_
        refine stepW (s_store rfl rfl rfl rfl rfl rfl (id := 4) rfl sz26 rfl (Nat.le_of_ble_eq_true rfl) rfl trivial) fun _ => ?_
        refine run_nil ?_
        refine aend_then ?_
        refine awp_ret ?_
        refine ret_eq (ret_1 (.inl rfl) hl rfl (.cellA rfl (id := 4) rfl Try.underlying26 rfl sz26 rfl rfl)) ?_
        simp [seeingR, chunk]
      · skip
        refine br rfl (s_buildSlice rfl rfl rfl (nb hn rfl) Try.underlying24 sz59 zr59 rfl rfl rfl (show _ = [.d (.int .i64 0), .d (.int .i64 0), .d (.int .i64 0)] from by kernel_rfl) (by kernel_rfl) rfl (fill_agg (by kernel_rfl) rfl) (allD_d _) (beq_len rfl) (chunk_one rfl)) fun _ => ?_
        refine d2_of_d1 ?_
        refine d1_of_d2 ?_
        refine g_ne_d2 (i := 5) (j := 3) rfl rfl rfl (fun hne5_3 => ?_)
        refine d2_one (i := 3) (by kernel_rfl) rfl (s_append (id := 5) rfl rfl rfl (nb hn rfl) elt24 trivial rfl rfl rfl (by simp [chunk]; omega) (by simp [chunk]; omega) (fun b hb => (fun e => hne5_3 _ hb (congrArg some e.symm)))) fun v8 => ?_
        refine d2_of_d1 ?_
        refine d1_of_d2 ?_
        refine g_ne_d2 (i := 5) (j := 3) rfl rfl rfl (fun hne5_3 => ?_)
        refine d2_one (i := 6) (by kernel_rfl) rfl (s_append (id := 5) rfl rfl rfl (nb hn rfl) elt24 trivial rfl rfl rfl (by simp [chunk]; omega) (by simp [chunk]; omega) (fun b hb => (fun e => hne5_3 _ hb (congrArg some e.symm)))) fun v11 => ?_
        refine d2_of_d1 ?_
        refine d1q (i := 7) rfl (by kernel_rfl) (fun _ _ _ _ h => h) rfl rfl hn rfl (q_fieldAddr rfl rfl Try.underlying26 rfl sz24) ?_
        refine d1_of_d2 ?_
        refine gh_d2 (g_row (t := 11) (id := 5) rfl rfl) ?_
        refine g_ne_d2 (i := 2) (j := 3) rfl rfl rfl (fun hne2_3 => ?_)
        refine d2_one (i := 8) (by kernel_rfl) rfl (s_store1 rfl rfl rfl rfl rfl rfl (id := 2) rfl sz24 (Nat.le_of_ble_eq_true rfl) rfl (fun e => hne2_3 _ rfl (congrArg some e.symm))) fun _ => ?_
        refine d2_of_d1 ?_
        refine d1_of_d2 ?_
        refine d2_done (by kernel_rfl) ?_
        refine aend_then ?_
        refine awp_seq ?_
        refine awp_region ?_
        refine sq rfl rfl hn rfl (q_loadAd rfl rfl (id := 2) rfl Try.underlying26 rfl sz26 rfl rfl sees0) ?_
        refine stepW (s_store rfl rfl rfl rfl rfl rfl (id := 4) rfl sz26 rfl (Nat.le_of_ble_eq_true rfl) rfl trivial) fun _ => ?_
        refine run_nil ?_
        refine aend_then ?_
        refine awp_ret ?_
        refine ret_eq (ret_1 (.inl rfl) hl rfl (.cellA rfl (id := 4) rfl Try.underlying26 rfl sz26 rfl rfl)) ?_
        simp [seeingR, chunk]
    · skip
      refine br rfl (s_buildSlice rfl rfl rfl (nb hn rfl) Try.underlying24 sz59 zr59 rfl rfl rfl (show _ = [.d (.int .i64 0), .d (.int .i64 0), .d (.int .i64 0)] from by kernel_rfl) (by kernel_rfl) rfl (fill_agg (by kernel_rfl) rfl) (allD_d _) (beq_len rfl) (chunk_one rfl)) fun _ => ?_
      refine d2_of_d1 ?_
      refine d1_of_d2 ?_
      refine d2_one (i := 0) (by kernel_rfl) rfl (s_buildRow 5 rfl rfl rfl (nb hn rfl) Try.underlying24 sz59 zr59 rfl rfl rfl (show _ = [] from by kernel_rfl) (by kernel_rfl) rfl rfl (show allD _ = some [] from by kernel_rfl) rfl rfl) fun v5 => ?_
      refine d2_of_d1 ?_
      refine d1_of_d2 ?_
      refine g_ne_d2 (i := 5) (j := 3) rfl rfl rfl (fun hne5_3 => ?_)
      refine d2_one (i := 3) (by kernel_rfl) rfl (s_append (id := 5) rfl rfl rfl (nb hn rfl) elt24 trivial rfl rfl rfl (by simp [chunk]; omega) (by simp [chunk]; omega) (fun b hb => (fun e => hne5_3 _ hb (congrArg some e.symm)))) fun v8 => ?_
      refine d2_of_d1 ?_
      refine d1_of_d2 ?_
      refine g_ne_d2 (i := 5) (j := 3) rfl rfl rfl (fun hne5_3 => ?_)
      refine d2_one (i := 6) (by kernel_rfl) rfl (s_append (id := 5) rfl rfl rfl (nb hn rfl) elt24 trivial rfl rfl rfl (by simp [chunk]; omega) (by simp [chunk]; omega) (fun b hb => (fun e => hne5_3 _ hb (congrArg some e.symm)))) fun v11 => ?_
      refine d2_of_d1 ?_
      refine d1q (i := 7) rfl (by kernel_rfl) (fun _ _ _ _ h => h) rfl rfl hn rfl (q_fieldAddr rfl rfl Try.underlying26 rfl sz24) ?_
      refine d1_of_d2 ?_
      refine gh_d2 (g_row (t := 11) (id := 5) rfl rfl) ?_
      refine g_ne_d2 (i := 2) (j := 3) rfl rfl rfl (fun hne2_3 => ?_)
      refine d2_one (i := 8) (by kernel_rfl) rfl (s_store1 rfl rfl rfl rfl rfl rfl (id := 2) rfl sz24 (Nat.le_of_ble_eq_true rfl) rfl (fun e => hne2_3 _ rfl (congrArg some e.symm))) fun _ => ?_
      refine d2_of_d1 ?_
      refine d1_of_d2 ?_
      refine d2_done (by kernel_rfl) ?_
      refine aend_then ?_
      refine awp_seq ?_
      refine awp_region ?_
      refine sq rfl rfl hn rfl (q_loadAd rfl rfl (id := 2) rfl Try.underlying26 rfl sz26 rfl rfl sees0) ?_
      refine stepW (s_store rfl rfl rfl rfl rfl rfl (id := 4) rfl sz26 rfl (Nat.le_of_ble_eq_true rfl) rfl trivial) fun _ => ?_
      refine run_nil ?_
      refine aend_then ?_
      refine awp_ret ?_
      refine ret_eq (ret_1 (.inl rfl) hl rfl (.cellA rfl (id := 4) rfl Try.underlying26 rfl sz26 rfl rfl)) ?_
      simp [seeingR, chunk]
  · skip
    refine br rfl (s_buildSlice rfl rfl rfl (nb hn rfl) Try.underlying24 sz59 zr59 rfl rfl rfl (show _ = [.d (.int .i64 0), .d (.int .i64 0), .d (.int .i64 0)] from by kernel_rfl) (by kernel_rfl) rfl (fill_agg (by kernel_rfl) rfl) (allD_d _) (beq_len rfl) (chunk_one rfl)) fun _ => ?_
    refine d2_of_d1 ?_
    refine d1_of_d2 ?_
    refine d2_all 0 [2] (by kernel_rfl) ⟨?_, ?_, trivial⟩
    · skip
      refine br rfl (s_buildRow 5 rfl rfl rfl (nb hn rfl) Try.underlying24 sz59 zr59 rfl rfl rfl (show _ = [] from by kernel_rfl) (by kernel_rfl) rfl rfl (show allD _ = some [] from by kernel_rfl) rfl rfl) fun v5 => ?_
      refine d2_of_d1 ?_
      refine d1_of_d2 ?_
      refine d2_one (i := 2) (by kernel_rfl) rfl (quiet_wg _ [] (guard_none rfl) rfl (nb hn rfl) (fun _ => trivial) (fun _ => q_load rfl rfl (id := 2) rfl Try.underlying24 rfl rfl sees0)) fun _ => ?_
      refine d2_of_d1 ?_
      refine d1_of_d2 ?_
      refine g_ne_d2 (i := 5) (j := 3) rfl rfl rfl (fun hne5_3 => ?_)
      refine d2_one (i := 3) (by kernel_rfl) rfl (s_append (id := 5) rfl rfl rfl (nb hn rfl) elt24 trivial rfl rfl rfl (by simp [chunk]; omega) (by simp [chunk]; omega) (fun b hb => (fun e => hne5_3 _ hb (congrArg some e.symm)))) fun v8 => ?_
      refine d2_of_d1 ?_
      refine d1_of_d2 ?_
      refine g_ne_d2 (i := 5) (j := 3) rfl rfl rfl (fun hne5_3 => ?_)
      refine d2_one (i := 6) (by kernel_rfl) rfl (s_append (id := 5) rfl rfl rfl (nb hn rfl) elt24 trivial rfl rfl rfl (by simp [chunk]; omega) (by simp [chunk]; omega) (fun b hb => (fun e => hne5_3 _ hb (congrArg some e.symm)))) fun v11 => ?_
      refine d2_of_d1 ?_
      refine d1q (i := 7) rfl (by kernel_rfl) (fun _ _ _ _ h => h) rfl rfl hn rfl (q_fieldAddr rfl rfl Try.underlying26 rfl sz24) ?_
      refine d1_of_d2 ?_
      refine gh_d2 (g_row (t := 11) (id := 5) rfl rfl) ?_
      refine g_ne_d2 (i := 2) (j := 3) rfl rfl rfl (fun hne2_3 => ?_)
      refine d2_one (i := 8) (by kernel_rfl) rfl (s_store1 rfl rfl rfl rfl rfl rfl (id := 2) rfl sz24 (Nat.le_of_ble_eq_true rfl) rfl (fun e => hne2_3 _ rfl (congrArg some e.symm))) fun _ => ?_
      refine d2_of_d1 ?_
      refine d1_of_d2 ?_
      refine d2_done (by kernel_rfl) ?_
      refine aend_then ?_
      refine awp_seq ?_
      refine awp_region ?_
      refine sq rfl rfl hn rfl (q_loadAd rfl rfl (id := 2) rfl Try.underlying26 rfl sz26 rfl rfl sees0) ?_
      refine stepW (s_store rfl rfl rfl rfl rfl rfl (id := 4) rfl sz26 rfl (Nat.le_of_ble_eq_true rfl) rfl trivial) fun _ => ?_
      refine run_nil ?_
      refine aend_then ?_
      refine awp_ret ?_
      refine ret_eq (ret_1 (.inl rfl) hl rfl (.cellA rfl (id := 4) rfl Try.underlying26 rfl sz26 rfl rfl)) ?_
      simp [seeingR, chunk]
    · skip
      refine br rfl (quiet_wg _ [] (guard_none rfl) rfl (nb hn rfl) (fun _ => trivial) (fun _ => q_load rfl rfl (id := 2) rfl Try.underlying24 rfl rfl sees0)) fun _ => ?_
      refine d2_of_d1 ?_
      refine d1_of_d2 ?_
      refine d2_one (i := 0) (by kernel_rfl) rfl (s_buildRow 5 rfl rfl rfl (nb hn rfl) Try.underlying24 sz59 zr59 rfl rfl rfl (show _ = [] from by kernel_rfl) (by kernel_rfl) rfl rfl (show allD _ = some [] from by kernel_rfl) rfl rfl) fun v5 => ?_
      refine d2_of_d1 ?_
      refine d1_of_d2 ?_
      refine g_ne_d2 (i := 5) (j := 3) rfl rfl rfl (fun hne5_3 => ?_)
      refine d2_one (i := 3) (by kernel_rfl) rfl (s_append (id := 5) rfl rfl rfl (nb hn rfl) elt24 trivial rfl rfl rfl (by simp [chunk]; omega) (by simp [chunk]; omega) (fun b hb => (fun e => hne5_3 _ hb (congrArg some e.symm)))) fun v8 => ?_
      refine d2_of_d1 ?_
      refine d1_of_d2 ?_
      refine g_ne_d2 (i := 5) (j := 3) rfl rfl rfl (fun hne5_3 => ?_)
      refine d2_one (i := 6) (by kernel_rfl) rfl (s_append (id := 5) rfl rfl rfl (nb hn rfl) elt24 trivial rfl rfl rfl (by simp [chunk]; omega) (by simp [chunk]; omega) (fun b hb => (fun e => hne5_3 _ hb (congrArg some e.symm)))) fun v11 => ?_
      refine d2_of_d1 ?_
      refine d1q (i := 7) rfl (by kernel_rfl) (fun _ _ _ _ h => h) rfl rfl hn rfl (q_fieldAddr rfl rfl Try.underlying26 rfl sz24) ?_
      refine d1_of_d2 ?_
      refine gh_d2 (g_row (t := 11) (id := 5) rfl rfl) ?_
      refine g_ne_d2 (i := 2) (j := 3) rfl rfl rfl (fun hne2_3 => ?_)
      refine d2_one (i := 8) (by kernel_rfl) rfl (s_store1 rfl rfl rfl rfl rfl rfl (id := 2) rfl sz24 (Nat.le_of_ble_eq_true rfl) rfl (fun e => hne2_3 _ rfl (congrArg some e.symm))) fun _ => ?_
      refine d2_of_d1 ?_
      refine d1_of_d2 ?_
      refine d2_done (by kernel_rfl) ?_
      refine aend_then ?_
      refine awp_seq ?_
      refine awp_region ?_
      refine sq rfl rfl hn rfl (q_loadAd rfl rfl (id := 2) rfl Try.underlying26 rfl sz26 rfl rfl sees0) ?_
      refine stepW (s_store rfl rfl rfl rfl rfl rfl (id := 4) rfl sz26 rfl (Nat.le_of_ble_eq_true rfl) rfl trivial) fun _ => ?_
      refine run_nil ?_
      refine aend_then ?_
      refine awp_ret ?_
      refine ret_eq (ret_1 (.inl rfl) hl rfl (.cellA rfl (id := 4) rfl Try.underlying26 rfl sz26 rfl rfl)) ?_
      simp [seeingR, chunk]

theorem SheetMore_eff (r : Reg) (s : Sight5) (p q o : Nat) (h5 : r.sights.length * 24 ≤ 140737488351232) (hp5 : p < 256) (hq5 : q < 256) (ho5 : o < 256) : EffAt Try.prog 6 [.d (regD r), .d (.agg (sightE s)), .d (.int .u8 (p : Nat)), .d (.int .u8 (q : Nat)), .d (.int .u8 (o : Nat))] [] (X := Unit) (fun _ => .d (.bool true)) (fun _ => []) := by
  refine EffAt.of_awp Try.func6 rfl (by kernel_rfl) rfl fun Γ hn => ?_
  refine awp_seq ?_
  refine awp_region ?_
  refine stepW (s_box 5 rfl rfl rfl (nb hn rfl) rfl rfl) fun b5 => ?_
  refine stepW (s_box 6 rfl rfl rfl (nb hn rfl) rfl rfl) fun b6 => ?_
  refine sq rfl rfl hn rfl (q_assign rfl rfl) ?_
  refine run_nil ?_
  refine aend_then ?_
  refine awp_seq ?_
  refine awp_region ?_
  refine sq rfl rfl hn rfl (q_loadAd rfl rfl (id := 5) rfl Try.underlying26 rfl sz26 rfl rfl sees0) ?_
  refine sq rfl rfl hn rfl (q_loadAd rfl rfl (id := 6) rfl Try.underlying59 rfl sz59 rfl rfl sees0) ?_
  refine stepW (s_call [] (fun _ => seeing_big r s h5) rfl (guard_none rfl) rfl (nb hn rfl) (fun _ => trivial) rfl rfl (.refl _)) fun _ => ?_
  refine stepW (s_alloc 11 rfl rfl rfl (nb hn rfl) zr26 rfl rfl) fun b11 => ?_
  refine stepW (s_store rfl rfl rfl rfl rfl rfl (id := 11) rfl sz26 rfl (Nat.le_of_ble_eq_true rfl) rfl trivial) fun _ => ?_
  refine run_nil ?_
  refine aend_then ?_
  refine awp_seq ?_
  refine awp_seq ?_
  refine awp_region ?_
  refine sq rfl rfl hn rfl (q_loadAd rfl rfl (id := 5) rfl Try.underlying26 rfl sz26 rfl rfl sees0) ?_
  refine stepW (s_call [] (fun _ => ready_ok _) rfl (guard_none rfl) rfl (nb hn rfl) (fun _ => trivial) rfl rfl (.refl _)) fun _ => ?_
  refine sq rfl rfl hn rfl (q_not rfl rfl) ?_
  refine sq rfl rfl hn rfl (q_move rfl rfl) ?_
  refine stepG [] (guard_some rfl rfl rfl) rfl (nb hn rfl) (fun hc => trivial) (fun hc => q_loadAd rfl rfl (id := 11) rfl Try.underlying26 rfl sz26 rfl rfl sees0) ?_
  refine stepW (s_call [(27, _)] (fun hc => ready_ok _) rfl (guard_some rfl rfl rfl) rfl (nb hn rfl) (fun hc => ⟨⟨_, rfl, hc⟩, trivial⟩) rfl rfl (.refl _)) fun _ => ?_
  refine stepG [(28, _)] (guard_some rfl rfl rfl) rfl (nb hn rfl) (fun hc => ⟨⟨_, rfl, hc⟩, trivial⟩) (fun hc => q_not rfl rfl) ?_
  refine sq rfl rfl hn rfl (q_or rfl rfl rfl (by intro hB; first | (rw [hB]; rfl) | (rw [hB, hc]; rfl) | simp_all)) ?_
  refine run_nil ?_
  refine aend_then ?_
  refine awp_cond rfl (fun hb0 => ?_) (fun hb0 => ?_)
  · skip
    refine awp_seq ?_
    refine awp_region ?_
    refine stepW (s_call [] (fun _ => awake_ok) rfl (guard_none rfl) rfl (nb hn rfl) (fun _ => trivial) rfl rfl (.refl _)) fun _ => ?_
    refine sq rfl rfl hn rfl (q_assign rfl rfl) ?_
    refine run_nil ?_
    refine aend_then ?_
    refine awp_ret ?_
    refine aend_then_ret ?_
    exact ret_E (.inl rfl) () (hands_1 rfl (.tmp rfl)) trivial
  · skip
    have hrr := more_f hb0
    obtain ⟨v, vx⟩ := hrr
    have hv6 := v.e6
    have hvg := v.g4
    have hvs := v.s4
    have hvs1 := v.s1
    have hv1 := v.h1
    have hvh := v.h4
    have h6 := inc_len (leave_law v).2.1
    have h7 : sumR r ≤ 10 := by unfold sumR; omega
    refine awp_skip ?_
    refine aend_then ?_
    refine awp_seq ?_
    refine awp_region ?_
    refine sq rfl rfl hn rfl (q_loadAd rfl rfl (id := 5) rfl Try.underlying26 rfl sz26 rfl rfl sees0) ?_
    refine stepW (s_call [] (fun _ => Register_ok r (by have h5 := v.s4; omega) (by have h5 := v.e6; omega) (by have h5 := v.g4; omega)) rfl (guard_none rfl) rfl (nb hn rfl) (fun _ => trivial) rfl rfl (.refl _)) fun _ => ?_
    refine stepW (s_call [] (fun _ => (by have := leave_ok r; rw [(leave_law v).1] at this; exact this)) rfl (guard_none rfl) rfl (nb hn rfl) (fun _ => trivial) rfl rfl (.refl _)) fun _ => ?_
    refine sq rfl rfl hn rfl (q_move rfl rfl) ?_
    refine sq rfl rfl hn rfl (q_extractd rfl rfl rfl) ?_
    refine sq rfl rfl hn rfl (q_extractd rfl rfl rfl) ?_
    refine sq rfl rfl hn rfl (q_assign rfl rfl) ?_
    refine sq rfl rfl hn rfl (q_assign rfl rfl) ?_
    refine run_nil ?_
    refine aend_then ?_
    refine awp_seq ?_
    refine awp_region ?_
    refine sq rfl rfl hn rfl (q_loadAd rfl rfl (id := 11) rfl Try.underlying26 rfl sz26 rfl rfl sees0) ?_
    refine stepW (s_call [] (fun _ => Register_ok (seeingR r s) (by have h5 := vx.s4; omega) (by have h5 := vx.e6; omega) (by have h5 := vx.g4; omega)) rfl (guard_none rfl) rfl (nb hn rfl) (fun _ => trivial) rfl rfl (.refl _)) fun _ => ?_
    refine stepW (s_call [] (fun _ => (by have := leave_ok (seeingR r s); rw [(leave_law vx).1] at this; exact this)) rfl (guard_none rfl) rfl (nb hn rfl) (fun _ => trivial) rfl rfl (.refl _)) fun _ => ?_
    refine sq rfl rfl hn rfl (q_move rfl rfl) ?_
    refine sq rfl rfl hn rfl (q_extractd rfl rfl rfl) ?_
    refine sq rfl rfl hn rfl (q_extractd rfl rfl rfl) ?_
    refine sq rfl rfl hn rfl (q_assign rfl rfl) ?_
    refine sq rfl rfl hn rfl (q_assign rfl rfl) ?_
    refine run_nil ?_
    refine aend_then ?_
    refine awp_seq ?_
    refine awp_region ?_
    refine sq rfl rfl hn rfl (q_loadAd rfl rfl (id := 5) rfl Try.underlying26 rfl sz26 rfl rfl sees0) ?_
    refine stepW (s_call [] (fun _ => Register_ok r (by have h5 := v.s4; omega) (by have h5 := v.e6; omega) (by have h5 := v.g4; omega)) rfl (guard_none rfl) rfl (nb hn rfl) (fun _ => trivial) rfl rfl (.refl _)) fun _ => ?_
    refine stepW (s_callE (explain_ok r) rfl rfl rfl (nb hn rfl) (.d rfl) rfl (.refl _) trivial (fun _ => rfl) (fun _ _ => trivial)) fun x1 => ?_
    refine sq rfl rfl hn rfl (q_move rfl rfl) ?_
    refine sq rfl rfl hn rfl (q_extractd rfl rfl rfl) ?_
    refine sq rfl rfl hn rfl (q_extractd rfl rfl rfl) ?_
    refine sq rfl rfl hn rfl (q_assign rfl rfl) ?_
    refine sq rfl rfl hn rfl (q_assign rfl rfl) ?_
    refine run_nil ?_
    refine aend_then ?_
    refine awp_seq ?_
    refine awp_region ?_
    refine sq rfl rfl hn rfl (q_loadAd rfl rfl (id := 11) rfl Try.underlying26 rfl sz26 rfl rfl sees0) ?_
    refine stepW (s_call [] (fun _ => Register_ok (seeingR r s) (by have h5 := vx.s4; omega) (by have h5 := vx.e6; omega) (by have h5 := vx.g4; omega)) rfl (guard_none rfl) rfl (nb hn rfl) (fun _ => trivial) rfl rfl (.refl _)) fun _ => ?_
    refine stepW (s_callE (explain_ok (seeingR r s)) rfl rfl rfl (nb hn rfl) (.d rfl) rfl (.refl _) trivial (fun _ => rfl) (fun _ _ => trivial)) fun x2 => ?_
    refine sq rfl rfl hn rfl (q_move rfl rfl) ?_
    refine sq rfl rfl hn rfl (q_extractd rfl rfl rfl) ?_
    refine sq rfl rfl hn rfl (q_extractd rfl rfl rfl) ?_
    refine sq rfl rfl hn rfl (q_assign rfl rfl) ?_
    refine sq rfl rfl hn rfl (q_assign rfl rfl) ?_
    refine run_nil ?_
    refine aend_then ?_
    refine awp_seq ?_
    refine awp_seq ?_
    refine awp_region ?_
    refine sq rfl rfl hn rfl (q_move rfl rfl) ?_
    refine sq rfl rfl hn rfl (q_neq rfl rfl rfl) ?_
    refine sq rfl rfl hn rfl (q_move rfl rfl) ?_
    refine stepG [] (guard_some rfl rfl rfl) rfl (nb hn rfl) (fun hc => trivial) (fun hc => q_move rfl rfl) ?_
    refine stepG [(59, _)] (guard_some rfl rfl rfl) rfl (nb hn rfl) (fun hc => ⟨⟨_, rfl, hc⟩, trivial⟩) (fun hc => q_neq rfl rfl rfl) ?_
    refine sq rfl rfl hn rfl (q_or rfl rfl rfl (by intro hB; first | (rw [hB]; rfl) | (rw [hB, hc]; rfl) | simp_all)) ?_
    refine sq rfl rfl hn rfl (q_move rfl rfl) ?_
    refine stepG [] (guard_some rfl rfl rfl) rfl (nb hn rfl) (fun hc => trivial) (fun hc => q_move rfl rfl) ?_
    refine stepG [(63, _)] (guard_some rfl rfl rfl) rfl (nb hn rfl) (fun hc => ⟨⟨_, rfl, hc⟩, trivial⟩) (fun hc => q_len rfl rfl Try.underlying22) ?_
    refine stepG [] (guard_some rfl rfl rfl) rfl (nb hn rfl) (fun hc => trivial) (fun hc => q_move rfl rfl) ?_
    refine stepG [(65, _)] (guard_some rfl rfl rfl) rfl (nb hn rfl) (fun hc => ⟨⟨_, rfl, hc⟩, trivial⟩) (fun hc => q_len rfl rfl Try.underlying22) ?_
    refine stepG [(64, _), (66, _)] (guard_some rfl rfl rfl) rfl (nb hn rfl) (fun hc => ⟨⟨_, rfl, hc⟩, ⟨_, rfl, hc⟩, trivial⟩) (fun hc => q_lss rfl rfl rfl) ?_
    refine sq rfl rfl hn rfl (q_or rfl rfl rfl (by intro hB; first | (rw [hB]; rfl) | (rw [hB, hc]; rfl) | simp_all)) ?_
    refine sq rfl rfl hn rfl (q_move rfl rfl) ?_
    refine stepG [] (guard_some rfl rfl rfl) rfl (nb hn rfl) (fun hc => trivial) (fun hc => q_move rfl rfl) ?_
    refine stepG [(70, _)] (guard_some rfl rfl rfl) rfl (nb hn rfl) (fun hc => ⟨⟨_, rfl, hc⟩, trivial⟩) (fun hc => q_len rfl rfl Try.underlying22) ?_
    refine stepG [] (guard_some rfl rfl rfl) rfl (nb hn rfl) (fun hc => trivial) (fun hc => q_move rfl rfl) ?_
    refine stepG [(72, _)] (guard_some rfl rfl rfl) rfl (nb hn rfl) (fun hc => ⟨⟨_, rfl, hc⟩, trivial⟩) (fun hc => q_len rfl rfl Try.underlying22) ?_
    refine stepG [(73, _)] (guard_some rfl rfl rfl) rfl (nb hn rfl) (fun hc => ⟨⟨_, rfl, hc⟩, trivial⟩) (fun hc => q_add rfl rfl rfl (r := ((leaveR r).1.length : Int) + 1) (i64w (by simp only [List.length_map]; omega) (by simp only [List.length_map]))) ?_
    refine stepG [(71, _), (74, _)] (guard_some rfl rfl rfl) rfl (nb hn rfl) (fun hc => ⟨⟨_, rfl, hc⟩, ⟨_, rfl, hc⟩, trivial⟩) (fun hc => q_gtr rfl rfl rfl) ?_
    refine sq rfl rfl hn rfl (q_or rfl rfl rfl (by intro hB; first | (rw [hB]; rfl) | (rw [hB, hc]; rfl) | simp_all)) ?_
    refine sq rfl rfl hn rfl (q_move rfl rfl) ?_
    refine stepG [] (guard_some rfl rfl rfl) rfl (nb hn rfl) (fun hc => trivial) (fun hc => q_move rfl rfl) ?_
    refine stepG [(78, _)] (guard_some rfl rfl rfl) rfl (nb hn rfl) (fun hc => ⟨⟨_, rfl, hc⟩, trivial⟩) (fun hc => q_eql rfl rfl rfl) ?_
    refine stepG [] (guard_some rfl rfl rfl) rfl (nb hn rfl) (fun hc => trivial) (fun hc => q_move rfl rfl) ?_
    refine stepG [(80, _)] (guard_some rfl rfl rfl) rfl (nb hn rfl) (fun hc => ⟨⟨_, rfl, hc⟩, trivial⟩) (fun hc => q_len rfl rfl Try.underlying22) ?_
    refine stepG [(81, _)] (guard_some rfl rfl rfl) rfl (nb hn rfl) (fun hc => ⟨⟨_, rfl, hc⟩, trivial⟩) (fun hc => q_eql rfl rfl rfl) ?_
    refine stepG [(79, _), (82, _)] (guard_some rfl rfl rfl) rfl (nb hn rfl) (fun hc => ⟨⟨_, rfl, hc⟩, ⟨_, rfl, hc⟩, trivial⟩) (fun hc => q_neqB rfl rfl rfl Try.underlying4) ?_
    refine sq rfl rfl hn rfl (q_or rfl rfl rfl (by intro hB; first | (rw [hB]; rfl) | (rw [hB, hc]; rfl) | simp_all)) ?_
    refine sq rfl rfl hn rfl (q_move rfl rfl) ?_
    refine stepG [] (guard_some rfl rfl rfl) rfl (nb hn rfl) (fun hc => trivial) (fun hc => q_move rfl rfl) ?_
    refine stepG [(86, _)] (guard_some rfl rfl rfl) rfl (nb hn rfl) (fun hc => ⟨⟨_, rfl, hc⟩, trivial⟩) (fun hc => q_eql rfl rfl rfl) ?_
    refine stepG [] (guard_some rfl rfl rfl) rfl (nb hn rfl) (fun hc => trivial) (fun hc => q_move rfl rfl) ?_
    refine stepG [(88, _)] (guard_some rfl rfl rfl) rfl (nb hn rfl) (fun hc => ⟨⟨_, rfl, hc⟩, trivial⟩) (fun hc => q_len rfl rfl Try.underlying22) ?_
    refine stepG [(89, _)] (guard_some rfl rfl rfl) rfl (nb hn rfl) (fun hc => ⟨⟨_, rfl, hc⟩, trivial⟩) (fun hc => q_eql rfl rfl rfl) ?_
    refine stepG [(87, _), (90, _)] (guard_some rfl rfl rfl) rfl (nb hn rfl) (fun hc => ⟨⟨_, rfl, hc⟩, ⟨_, rfl, hc⟩, trivial⟩) (fun hc => q_neqB rfl rfl rfl Try.underlying4) ?_
    refine sq rfl rfl hn rfl (q_or rfl rfl rfl (by intro hB; first | (rw [hB]; rfl) | (rw [hB, hc]; rfl) | simp_all)) ?_
    refine run_nil ?_
    refine aend_then ?_
    refine awp_cond rfl (fun hb1 => ?_) (fun hb1 => ?_)
    · skip
      exact absurd hb1 (by rw [more_c1 v vx x1 x2]; simp)
    · skip
      refine awp_skip ?_
      refine aend_then ?_
      refine awp_seq ?_
      refine awp_seq ?_
      refine awp_region ?_
      refine sq rfl rfl hn rfl (q_move rfl rfl) ?_
      refine sq rfl rfl hn rfl (q_neq rfl rfl rfl) ?_
      refine run_nil ?_
      refine aend_then ?_
      refine awp_cond rfl (fun hb2 => ?_) (fun hb2 => ?_)
      · skip
        have e9 := more_9 vx x2 (by simpa using hb2)
        refine awp_seq ?_
        refine awp_region ?_
        refine sq rfl rfl hn rfl (q_move rfl rfl) ?_
        refine sq rfl rfl hn rfl (q_eql rfl rfl rfl) ?_
        refine sq rfl rfl hn rfl (q_move rfl rfl) ?_
        refine stepW (s_call [] (fun hc => awake_ok) rfl (guard_some rfl rfl rfl) rfl (nb hn rfl) (fun hc => trivial) rfl rfl (.refl _)) fun _ => ?_
        refine sq rfl rfl hn rfl (q_and rfl rfl rfl (by intro hB; first | (rw [hB]; rfl) | (rw [hB, hc]; rfl) | simp_all)) ?_
        refine sq rfl rfl hn rfl (q_assign rfl rfl) ?_
        refine run_nil ?_
        refine aend_then ?_
        refine awp_ret ?_
        refine aend_then_ret ?_
        exact ret_E (.inl rfl) () ((hands_1 rfl (.tmp rfl)).eq (by simp [e9])) trivial
      · skip
        have hxT := (expl_err vx x2).1.1 (by simpa using hb2)
        have nar := nar_of (N := o % 10) (by omega) vx v hxT (loose_seeing r s) (Pt.refl (R := SameKind) (fun _ => rfl) _) rfl
        obtain ⟨n, hn5⟩ : ∃ n : Nat, r.houses = n := ⟨r.houses.toNat, by omega⟩
        have hn0 : 0 < n := by omega
        have hml := Nat.mod_lt p (show 0 < r.start.length by omega)
        have hmq := Nat.mod_lt q hn0
        obtain ⟨b, hb7, hb8⟩ := next_house (a := q % n) hn5 hn0
        refine awp_skip ?_
        refine aend_then ?_
        refine awp_seq ?_
        refine d_start (W := fun b => b ≠ b5 ∧ b ≠ b11) fmo ?_
        refine d1q (i := 0) rfl (by kernel_rfl) (fun _ _ _ _ h => h) rfl rfl hn rfl (q_loadAd rfl rfl (id := 11) rfl Try.underlying26 rfl sz26 rfl rfl (seesA (by simp))) ?_
        refine d1q (i := 1) rfl (by kernel_rfl) (fun _ _ _ _ h => h) rfl rfl hn rfl (q_loadAd rfl rfl (id := 5) rfl Try.underlying26 rfl sz26 rfl rfl (seesA (by simp))) ?_
        refine d1q (i := 2) rfl (by kernel_rfl) (fun _ _ _ _ h => h) rfl rfl hn rfl (q_move rfl rfl) ?_
        refine d1q (i := 3) rfl (by kernel_rfl) (fun _ _ _ _ h => h) rfl rfl hn rfl (q_conv rfl rfl Try.underlying5 Try.underlying3 (r := (p : Int)) (i64w (by omega) rfl)) ?_
        refine d1q (i := 4) rfl (by kernel_rfl) (fun _ _ _ _ h => h) rfl rfl hn rfl (q_fieldAddr rfl rfl Try.underlying26 rfl sz22) ?_
        refine d1q (i := 5) rfl (by kernel_rfl) (fun _ _ _ _ h => h) rfl rfl hn rfl (q_load rfl rfl (id := 5) rfl Try.underlying22 rfl rfl (seesA (by simp))) ?_
        refine d1q (i := 6) rfl (by kernel_rfl) (fun _ _ _ _ h => h) rfl rfl hn rfl (q_len rfl rfl Try.underlying22) ?_
        refine d1q (i := 7) rfl (by kernel_rfl) (fun _ _ _ _ h => h) rfl rfl hn rfl (q_rem rfl rfl rfl (r := ((p % r.start.length : Nat) : Int)) (by simp only [List.length_map]; omega) (by simp only [List.length_map]; exact modN (by omega))) ?_
        refine d1q (i := 8) rfl (by kernel_rfl) (fun _ _ _ _ h => h) rfl rfl hn rfl (q_move rfl rfl) ?_
        refine d1q (i := 9) rfl (by kernel_rfl) (fun _ _ _ _ h => h) rfl rfl hn rfl (q_conv rfl rfl Try.underlying5 Try.underlying3 (r := (q : Int)) (i64w (by omega) rfl)) ?_
        refine d1q (i := 10) rfl (by kernel_rfl) (fun _ _ _ _ h => h) rfl rfl hn rfl (q_fieldAddr rfl rfl Try.underlying26 rfl sz3) ?_
        refine d1q (i := 11) rfl (by kernel_rfl) (fun _ _ _ _ h => h) rfl rfl hn rfl (q_load rfl rfl (id := 5) rfl Try.underlying3 rfl rfl (seesA (by simp))) ?_
        refine d1q (i := 12) rfl (by kernel_rfl) (fun _ _ _ _ h => h) rfl rfl hn rfl (q_rem rfl rfl rfl (r := ((q % n : Nat) : Int)) (by omega) (by rw [hn5]; exact modN hn0)) ?_
        refine d1q (i := 13) rfl (by kernel_rfl) (fun _ _ _ _ h => h) rfl rfl hn rfl (q_move rfl rfl) ?_
        refine d1q (i := 14) rfl (by kernel_rfl) (fun _ _ _ _ h => h) rfl rfl hn rfl (q_conv rfl rfl Try.underlying5 Try.underlying3 (r := (o : Int)) (i64w (by omega) rfl)) ?_
        refine d1q (i := 15) rfl (by kernel_rfl) (fun _ _ _ _ h => h) rfl rfl hn rfl (q_rem rfl rfl rfl (r := ((o % 10 : Nat) : Int)) (by omega) (modN (b := 10) (by omega))) ?_
        refine d1_of_d2 ?_
        refine d2_one (i := 16) (by kernel_rfl) rfl (s_call [] (fun _ => (PureAt.of_eff (ds := [_, _, .int .i64 _, .int .i64 _, .int .i64 _]) (Within_eff (seeingR r s) r (p % r.start.length) (q % n) b (o % 10) nar hml (by rw [hn5]; omega) hb7 hb8 (by omega)))) rfl (guard_none rfl) rfl (nb hn rfl) (fun _ => trivial) rfl rfl (.refl _)) fun _ => ?_
        refine d2_of_d1 ?_
        refine d1q (i := 17) rfl (by kernel_rfl) (fun _ _ _ _ h => h) rfl rfl hn rfl (q_move rfl rfl) ?_
        refine d1_of_d2 ?_
        refine d2_one (i := 18) (by kernel_rfl) rfl (s_call [] (fun hc => awake_ok) rfl (guard_some rfl rfl rfl) rfl (nb hn rfl) (fun hc => trivial) rfl rfl (.refl _)) fun _ => ?_
        refine d2_of_d1 ?_
        refine d1q (i := 19) rfl (by kernel_rfl) (fun _ _ _ _ h => h) rfl rfl hn rfl (q_and rfl rfl rfl (by intro hB; first | (rw [hB]; rfl) | (rw [hB, hc]; rfl) | simp_all)) ?_
        refine d1q (i := 20) rfl (by kernel_rfl) (fun _ _ _ _ h => h) rfl rfl hn rfl (q_assign rfl rfl) ?_
        refine d1_of_d2 ?_
        refine d2_done (by kernel_rfl) ?_
        refine aend_then ?_
        refine awp_ret ?_
        exact ret_E (.inl rfl) () ((hands_1 rfl (.tmp rfl)).eq (by simp)) trivial
end Go.Proofs.Ytnbmmopjkkofoaa
