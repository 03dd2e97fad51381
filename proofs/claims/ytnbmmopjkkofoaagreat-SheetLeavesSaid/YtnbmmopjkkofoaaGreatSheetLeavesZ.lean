/-
  The law SheetLeaves returns true for every input, and leaves its arguments as they were: the given statement, whole. No condition.
-/
import Derived.Laws.StructEq
import Derived.Test.YtnbmmopjkkofoaaGreatSheetLeavesI
namespace Go.Proofs.YtnbmmopjkkofoaaGreat
open Go.RowKit
set_option maxRecDepth 20000
set_option linter.all false
theorem eq45 (a b c d : Int) (w : World) : (binOp .eql 48 (.agg #[.int .i64 a, .int .i64 b]) (.agg #[.int .i64 c, .int .i64 d])).run Tryz.prog w = .ok (.bool (a == c && b == d)) w := by
  have u3 := Tryz.underlying3
  have a3 := Tryz.isAgg3
  have z3 := Tryz.sizeOf3
  have hS : Tryz.prog.underlying 48 = some (.struct (Tryz.prog.fieldsOf 48)) := by kernel_rfl
  have hp : Tryz.prog.stoodInHeld 48 = false := by kernel_rfl
  rw [run_eql_struct, show (10000 : Nat) = 9999 + 1 from rfl, run_equalIn_agg w 9999 48 _ _ hS hp]
  simp only [Program.fieldsOf, Tryz.underlying48]
  go_simp
  by_cases h1 : a = c <;> by_cases h2 : b = d <;> simp [h1, h2]
theorem guard45 (op : BinOp) (x y : Operand) (xs ys : Array Value) (w : World) : (eqGuard op 48 x y (.agg xs) (.agg ys)).run Tryz.prog w = .ok () w := run_eqGuard_agg w op 48 x y xs ys (by kernel_rfl)
theorem q_eql45 {Γ : Cx} {σ : St} {o : Oper} {R : Rel} {x y : Operand} {t' : TypeId} {a b c d : Int} (h : o.op = .binOp .eql 48 x y t') (hx : σ.ev x = some (true, .d (.agg [.int .i64 a, .int .i64 b]))) (hy : σ.ev y = some (true, .d (.agg [.int .i64 c, .int .i64 d]))) :
    QV Γ Tryz.prog σ o R (.d (.bool (a == c && b == d))) := fun A w F hs => by
  obtain ⟨vs, e1, h1, _⟩ := hs.ev hx
  obtain ⟨us, e2, h2, _⟩ := hs.ev hy
  obtain ⟨v1, vs1, rfl, q1, v2, vs2, rfl, q2, q3⟩ := h1
  obtain ⟨u1, us1, rfl, p1, u2, us2, rfl, p2, p3⟩ := h2
  simp only [Rep, RepVals] at q1 q2 q3 p1 p2 p3
  subst q1 q2 q3 p1 p2 p3
  exact ⟨.bool (a == c && b == d), rfl, fun w' _ => by
    simp only [execOp, h, e1, e2, Sem.run_bind, guard45, Result.andThen_ok, eq45, Sem.run_pure]⟩
abbrev L0 : Reg := loanR [] []
theorem L0_check : checkE L0 = 0 := by kernel_rfl
theorem L0_hold : refHolders L0 (allDays L0) 0 2 3 = [0, 1, 2] := by kernel_rfl
theorem L0_sure : refSurely (allDays L0) 2 4 2 = [0] := by kernel_rfl
theorem L0_inhand : refInHand L0 (allDays L0) 1 3 = (0, 2) := by kernel_rfl
theorem L0_owed : refOwed (allDays L0) 0 1 3 = (0, 1) := by kernel_rfl
theorem L0_ne : (allDays L0).isEmpty = false := by kernel_rfl
theorem L1_first : firstR (loanR astrayL []) = (3, 0) := by kernel_rfl
theorem L1_leave : leaveR (loanR astrayL []) = ([3], 0) := by kernel_rfl
theorem ask_ok {r : Reg} {is : Bool} {N : Nat} {out : List Nat} {e : Int} (v : Valid r) (his : is = true) (hN : N ≤ 9) (h : AskP r is (N : Nat) out e) : EvOK r N out ∧ e = if allDays r = [] then 9 else 0 := by
  have h0 := checkE_of v
  rcases h with ⟨k, _, _⟩ | ⟨_, k, _⟩ | ⟨_, _, n, hn, h9, hev, he⟩
  · exact (k h0).elim
  · rw [his] at k; simp [dayB] at k; omega
  · obtain rfl : N = n := by omega
    refine ⟨hev, he.trans ?_⟩
    by_cases ho : out = []
    · rw [if_pos ((ev_nil v hN hev).1 ho), ho]; rfl
    · rw [if_neg (fun e => ho ((ev_nil v hN hev).2 e))]
      cases out with
      | nil => exact (ho rfl).elim
      | cons _ _ => rfl
theorem L0_valid : Valid L0 := valid_of L0_check
theorem L0_all : allDays L0 ≠ [] := fun e => by have := L0_ne; rw [e] at this; cases this
theorem L0_ask {is : Bool} {N : Nat} {out : List Nat} {e : Int} (his : is = true) (hN : N ≤ 9) (h : AskP L0 is (N : Nat) out e) : EvOK L0 N out ∧ e = 0 ∧ out ≠ [] := by
  obtain ⟨h1, h2⟩ := ask_ok L0_valid his hN h
  rw [if_neg L0_all] at h2
  exact ⟨h1, h2, fun e => L0_all ((ev_nil L0_valid hN h1).1 e)⟩
theorem aw_hold (x : AskX L0 (sheetB L0 0) 2) : x.1.2 = 0 ∧ holdR L0 0 x.1.1 = [0, 1, 2] := by
  obtain ⟨h1, h2, h3⟩ := L0_ask (N := 2) rfl (by omega) x.2
  exact ⟨h2, (holders_eq (N := 2) (s := 0) L0_valid (by omega) (by decide) h1).trans L0_hold⟩
theorem aw_sure (x : AskX L0 (houseB L0 2) 4) : x.1.2 = 0 ∧ surelyR L0 2 x.1.1 = [0] := by
  obtain ⟨h1, h2, h3⟩ := L0_ask (N := 4) rfl (by omega) x.2
  exact ⟨h2, (surely_eq L0_valid (by omega) h3 h1).trans L0_sure⟩
theorem aw_held (x : AskX L0 (houseB L0 1) 3) : x.1.2 = 0 ∧ heldR L0 1 x.1.1 = (0, 2) := by
  obtain ⟨h1, h2, h3⟩ := L0_ask (N := 3) rfl (by omega) x.2
  exact ⟨h2, (held_eq L0_valid (by omega) h3 h1).trans L0_inhand⟩
theorem aw_owed (x : AskX L0 (houseB L0 0 && houseB L0 1) 3) : x.1.2 = 0 ∧ owedR L0 0 1 x.1.1 = (0, 1) := by
  obtain ⟨h1, h2, h3⟩ := L0_ask (N := 3) rfl (by omega) x.2
  exact ⟨h2, (owed_eq (a := 0) (b := 1) L0_valid (by omega) (by omega) (by omega) h3 h1).trans L0_owed⟩
theorem prove_of {r : Reg} {t : List Int} {ds : List Nat} (v : Valid r) (T : Truth r t ds) : proveB r t = true := by
  unfold proveB
  rw [checkE_of v, T.dated, T.play]
  simp [T.seen]
theorem aw_expl (x : ExplX L0) : x.1.2 = 0 ∧ proveB L0 x.1.1 = true := by
  have h0 := L0_check
  rcases x.2 with ⟨k, _⟩ | ⟨_, k, _⟩ | ⟨_, _, h, _, n, m, hp⟩
  · exact (k h0).elim
  · rw [(goes_all_iff L0_valid).2 L0_all] at k; cases k
  · obtain ⟨ds, T⟩ := truth_of_path L0_valid hp
    exact ⟨h, prove_of L0_valid T⟩
theorem awake_eff  : EffAt Tryz.prog 6 [] [] (X := Unit) (fun _ => .d (.bool true)) (fun _ => []) := by
  refine EffAt.of_awp Tryz.func6 rfl (by kernel_rfl) rfl fun Γ hn => ?_
  refine awp_seq ?_
  refine awp_region ?_
  refine sq rfl rfl hn rfl (q_assign rfl rfl) ?_
  refine run_nil ?_
  refine aend_then ?_
  refine awp_seq ?_
  refine awp_region ?_
  refine stepW (s_call [] (fun _ => loan_ok [] [] (by simp)) rfl (guard_none rfl) rfl (nb hn rfl) (fun _ => trivial) rfl rfl (by first | exact .refl _ | (repeat (first | exact .refl _ | exact .nil _ | refine .cons ?_ ?_ | refine .agg ?_ | refine .tup ?_)))) fun _ => ?_
  refine stepW (s_callE (Holders_eff L0 0 2) rfl rfl rfl (nb hn rfl) (.d rfl) rfl (.refl _) trivial (fun _ => rfl) (fun _ _ => trivial)) fun x1 => ?_
  obtain ⟨he1, hh1⟩ := aw_hold x1
  rw [he1, hh1]
  refine sq rfl rfl hn rfl (q_move rfl rfl) ?_
  refine sq rfl rfl hn rfl (q_extractd rfl rfl rfl) ?_
  refine sq rfl rfl hn rfl (q_extractd rfl rfl rfl) ?_
  refine sq rfl rfl hn rfl (q_assign rfl rfl) ?_
  refine sq rfl rfl hn rfl (q_assign rfl rfl) ?_
  refine run_nil ?_
  refine aend_then ?_
  refine awp_seq ?_
  refine awp_region ?_
  refine stepW (s_call [] (fun _ => loan_ok [] [] (by simp)) rfl (guard_none rfl) rfl (nb hn rfl) (fun _ => trivial) rfl rfl (by first | exact .refl _ | (repeat (first | exact .refl _ | exact .nil _ | refine .cons ?_ ?_ | refine .agg ?_ | refine .tup ?_)))) fun _ => ?_
  refine stepW (s_callE (InHand_eff L0 1 3) rfl rfl rfl (nb hn rfl) (.d rfl) rfl (.refl _) trivial (fun _ => rfl) (fun _ _ => trivial)) fun x2 => ?_
  obtain ⟨he2, hh2⟩ := aw_held x2
  rw [he2, hh2]
  refine sq rfl rfl hn rfl (q_move rfl rfl) ?_
  refine sq rfl rfl hn rfl (q_extractd rfl rfl rfl) ?_
  refine sq rfl rfl hn rfl (q_extractd rfl rfl rfl) ?_
  refine stepW (s_alloc 3 rfl rfl rfl (nb hn rfl) zr48 rfl rfl) fun b3 => ?_
  refine stepW (s_store rfl rfl rfl rfl rfl rfl (id := 3) rfl sz48 rfl (Nat.le_of_ble_eq_true rfl) rfl trivial) fun _ => ?_
  refine sq rfl rfl hn rfl (q_assign rfl rfl) ?_
  refine run_nil ?_
  refine aend_then ?_
  refine awp_seq ?_
  refine awp_region ?_
  refine stepW (s_call [] (fun _ => loan_ok [] [] (by simp)) rfl (guard_none rfl) rfl (nb hn rfl) (fun _ => trivial) rfl rfl (by first | exact .refl _ | (repeat (first | exact .refl _ | exact .nil _ | refine .cons ?_ ?_ | refine .agg ?_ | refine .tup ?_)))) fun _ => ?_
  refine stepW (s_callE (Owed_eff L0 0 1 3) rfl rfl rfl (nb hn rfl) (.d rfl) rfl (.refl _) trivial (fun _ => rfl) (fun _ _ => trivial)) fun x3 => ?_
  obtain ⟨he3, hh3⟩ := aw_owed x3
  rw [he3, hh3]
  refine sq rfl rfl hn rfl (q_move rfl rfl) ?_
  refine sq rfl rfl hn rfl (q_extractd rfl rfl rfl) ?_
  refine sq rfl rfl hn rfl (q_extractd rfl rfl rfl) ?_
  refine stepW (s_alloc 5 rfl rfl rfl (nb hn rfl) zr48 rfl rfl) fun b5 => ?_
  refine stepW (s_store rfl rfl rfl rfl rfl rfl (id := 5) rfl sz48 rfl (Nat.le_of_ble_eq_true rfl) rfl trivial) fun _ => ?_
  refine sq rfl rfl hn rfl (q_assign rfl rfl) ?_
  refine run_nil ?_
  refine aend_then ?_
  refine awp_seq ?_
  refine awp_region ?_
  refine stepW (s_call [] (fun _ => loan_ok [] [] (by simp)) rfl (guard_none rfl) rfl (nb hn rfl) (fun _ => trivial) rfl rfl (by first | exact .refl _ | (repeat (first | exact .refl _ | exact .nil _ | refine .cons ?_ ?_ | refine .agg ?_ | refine .tup ?_)))) fun _ => ?_
  refine stepW (s_callE (Surely_eff L0 2 4) rfl rfl rfl (nb hn rfl) (.d rfl) rfl (.refl _) trivial (fun _ => rfl) (fun _ _ => trivial)) fun x4 => ?_
  obtain ⟨he4, hh4⟩ := aw_sure x4
  rw [he4, hh4]
  refine sq rfl rfl hn rfl (q_move rfl rfl) ?_
  refine sq rfl rfl hn rfl (q_extractd rfl rfl rfl) ?_
  refine sq rfl rfl hn rfl (q_extractd rfl rfl rfl) ?_
  refine sq rfl rfl hn rfl (q_assign rfl rfl) ?_
  refine sq rfl rfl hn rfl (q_assign rfl rfl) ?_
  refine run_nil ?_
  refine aend_then ?_
  refine awp_seq ?_
  refine awp_region ?_
  refine stepW (s_call [] (fun _ => astray_ok) rfl (guard_none rfl) rfl (nb hn rfl) (fun _ => trivial) rfl rfl (.refl _)) fun _ => ?_
  refine stepW (s_call [] (fun _ => loan_ok astrayL [] (by decide)) rfl (guard_none rfl) rfl (nb hn rfl) (fun _ => trivial) rfl rfl (by first | exact .refl _ | (repeat (first | exact .refl _ | exact .nil _ | refine .cons ?_ ?_ | refine .agg ?_ | refine .tup ?_)))) fun _ => ?_
  refine stepW (s_call [] (fun _ => (by have := leave_ok (loanR astrayL []); rw [L1_leave] at this; exact this)) rfl (guard_none rfl) rfl (nb hn rfl) (fun _ => trivial) rfl rfl (.refl _)) fun _ => ?_
  refine sq rfl rfl hn rfl (q_move rfl rfl) ?_
  refine sq rfl rfl hn rfl (q_extractd rfl rfl rfl) ?_
  refine sq rfl rfl hn rfl (q_extractd rfl rfl rfl) ?_
  refine sq rfl rfl hn rfl (q_assign rfl rfl) ?_
  refine sq rfl rfl hn rfl (q_assign rfl rfl) ?_
  refine run_nil ?_
  refine aend_then ?_
  refine awp_seq ?_
  refine awp_region ?_
  refine stepW (s_call [] (fun _ => astray_ok) rfl (guard_none rfl) rfl (nb hn rfl) (fun _ => trivial) rfl rfl (.refl _)) fun _ => ?_
  refine stepW (s_call [] (fun _ => loan_ok astrayL [] (by decide)) rfl (guard_none rfl) rfl (nb hn rfl) (fun _ => trivial) rfl rfl (by first | exact .refl _ | (repeat (first | exact .refl _ | exact .nil _ | refine .cons ?_ ?_ | refine .agg ?_ | refine .tup ?_)))) fun _ => ?_
  refine stepW (s_call [] (fun _ => (by have := first_ok (loanR astrayL []); rw [L1_first] at this; exact this)) rfl (guard_none rfl) rfl (nb hn rfl) (fun _ => trivial) rfl rfl (.refl _)) fun _ => ?_
  refine sq rfl rfl hn rfl (q_move rfl rfl) ?_
  refine sq rfl rfl hn rfl (q_extractd rfl rfl rfl) ?_
  refine sq rfl rfl hn rfl (q_extractd rfl rfl rfl) ?_
  refine sq rfl rfl hn rfl (q_assign rfl rfl) ?_
  refine sq rfl rfl hn rfl (q_assign rfl rfl) ?_
  refine run_nil ?_
  refine aend_then ?_
  refine awp_seq ?_
  refine awp_region ?_
  refine stepW (s_call [] (fun _ => loan_ok [] [] (by simp)) rfl (guard_none rfl) rfl (nb hn rfl) (fun _ => trivial) rfl rfl (by first | exact .refl _ | (repeat (first | exact .refl _ | exact .nil _ | refine .cons ?_ ?_ | refine .agg ?_ | refine .tup ?_)))) fun _ => ?_
  refine stepW (s_callE (explain_ok L0) rfl rfl rfl (nb hn rfl) (.d rfl) rfl (.refl _) trivial (fun _ => rfl) (fun _ _ => trivial)) fun x7 => ?_
  obtain ⟨he7, hh7⟩ := aw_expl x7
  rw [he7]
  refine sq rfl rfl hn rfl (q_move rfl rfl) ?_
  refine sq rfl rfl hn rfl (q_extractd rfl rfl rfl) ?_
  refine sq rfl rfl hn rfl (q_extractd rfl rfl rfl) ?_
  refine sq rfl rfl hn rfl (q_assign rfl rfl) ?_
  refine sq rfl rfl hn rfl (q_assign rfl rfl) ?_
  refine run_nil ?_
  refine aend_then ?_
  refine awp_seq ?_
  refine awp_region ?_
  refine sq rfl rfl hn rfl (q_move rfl rfl) ?_
  refine sq rfl rfl hn rfl (q_eql rfl rfl rfl) ?_
  refine sq rfl rfl hn rfl (q_move rfl rfl) ?_
  refine stepG [] (guard_some rfl rfl rfl) rfl (nb hn rfl) (fun hc => trivial) (fun hc => q_move rfl rfl) ?_
  refine stepW (s_guard (guard_some rfl rfl rfl) rfl (nb hn rfl) (s_buildSlice rfl rfl rfl (nb hn rfl) Tryz.underlying22 sz3 zr3 rfl rfl rfl (show _ = [.d (.int .i64 0), .d (.int .i64 0), .d (.int .i64 0)] from by kernel_rfl) (by kernel_rfl) rfl rfl rfl rfl rfl)) fun _ => ?_
  refine stepW (s_call [(55, _), (56, _)] (fun hc => Same_ok [0, 1, 2] [0, 1, 2]) rfl (guard_some rfl rfl rfl) rfl (nb hn rfl) (fun hc => ⟨⟨_, rfl, hc⟩, ⟨_, rfl, hc⟩, trivial⟩) rfl rfl (.refl _)) fun _ => ?_
  refine sq rfl rfl hn rfl (q_and rfl rfl rfl (by simp_all)) ?_
  refine sq rfl rfl hn rfl (q_move rfl rfl) ?_
  refine stepG [] (guard_some rfl rfl rfl) rfl (nb hn rfl) (fun hc => trivial) (fun hc => q_move rfl rfl) ?_
  refine stepG [(60, _)] (guard_some rfl rfl rfl) rfl (nb hn rfl) (fun hc => ⟨⟨_, rfl, hc⟩, trivial⟩) (fun hc => q_eql rfl rfl rfl) ?_
  refine sq rfl rfl hn rfl (q_and rfl rfl rfl (by simp_all)) ?_
  refine sq rfl rfl hn rfl (q_move rfl rfl) ?_
  refine stepG [] (guard_some rfl rfl rfl) rfl (nb hn rfl) (fun hc => trivial) (fun hc => q_loadAd rfl rfl (id := 3) rfl Tryz.underlying48 rfl sz48 rfl rfl sees0) ?_
  refine stepG [] (guard_some rfl rfl rfl) rfl (nb hn rfl) (fun hc => trivial) (fun hc => q_buildd rfl bt48 rfl rfl rfl rfl rfl) ?_
  refine stepG [(64, _), (65, _)] (guard_some rfl rfl rfl) rfl (nb hn rfl) (fun hc => ⟨⟨_, rfl, hc⟩, ⟨_, rfl, hc⟩, trivial⟩) (fun hc => q_eql45 rfl rfl rfl) ?_
  refine sq rfl rfl hn rfl (q_and rfl rfl rfl (by simp_all)) ?_
  refine sq rfl rfl hn rfl (q_move rfl rfl) ?_
  refine stepG [] (guard_some rfl rfl rfl) rfl (nb hn rfl) (fun hc => trivial) (fun hc => q_move rfl rfl) ?_
  refine stepG [(69, _)] (guard_some rfl rfl rfl) rfl (nb hn rfl) (fun hc => ⟨⟨_, rfl, hc⟩, trivial⟩) (fun hc => q_eql rfl rfl rfl) ?_
  refine sq rfl rfl hn rfl (q_and rfl rfl rfl (by simp_all)) ?_
  refine sq rfl rfl hn rfl (q_move rfl rfl) ?_
  refine stepG [] (guard_some rfl rfl rfl) rfl (nb hn rfl) (fun hc => trivial) (fun hc => q_loadAd rfl rfl (id := 5) rfl Tryz.underlying48 rfl sz48 rfl rfl sees0) ?_
  refine stepG [] (guard_some rfl rfl rfl) rfl (nb hn rfl) (fun hc => trivial) (fun hc => q_buildd rfl bt48 rfl rfl rfl rfl rfl) ?_
  refine stepG [(73, _), (74, _)] (guard_some rfl rfl rfl) rfl (nb hn rfl) (fun hc => ⟨⟨_, rfl, hc⟩, ⟨_, rfl, hc⟩, trivial⟩) (fun hc => q_eql45 rfl rfl rfl) ?_
  refine sq rfl rfl hn rfl (q_and rfl rfl rfl (by simp_all)) ?_
  refine sq rfl rfl hn rfl (q_move rfl rfl) ?_
  refine stepG [] (guard_some rfl rfl rfl) rfl (nb hn rfl) (fun hc => trivial) (fun hc => q_move rfl rfl) ?_
  refine stepG [(78, _)] (guard_some rfl rfl rfl) rfl (nb hn rfl) (fun hc => ⟨⟨_, rfl, hc⟩, trivial⟩) (fun hc => q_eql rfl rfl rfl) ?_
  refine sq rfl rfl hn rfl (q_and rfl rfl rfl (by simp_all)) ?_
  refine sq rfl rfl hn rfl (q_move rfl rfl) ?_
  refine stepG [] (guard_some rfl rfl rfl) rfl (nb hn rfl) (fun hc => trivial) (fun hc => q_move rfl rfl) ?_
  refine stepW (s_guard (guard_some rfl rfl rfl) rfl (nb hn rfl) (s_buildSlice rfl rfl rfl (nb hn rfl) Tryz.underlying22 sz3 zr3 rfl rfl rfl (show _ = [.d (.int .i64 0)] from by kernel_rfl) (by kernel_rfl) rfl rfl rfl rfl rfl)) fun _ => ?_
  refine stepW (s_call [(82, _), (83, _)] (fun hc => Same_ok [0] [0]) rfl (guard_some rfl rfl rfl) rfl (nb hn rfl) (fun hc => ⟨⟨_, rfl, hc⟩, ⟨_, rfl, hc⟩, trivial⟩) rfl rfl (.refl _)) fun _ => ?_
  refine sq rfl rfl hn rfl (q_and rfl rfl rfl (by simp_all)) ?_
  refine sq rfl rfl hn rfl (q_move rfl rfl) ?_
  refine stepG [] (guard_some rfl rfl rfl) rfl (nb hn rfl) (fun hc => trivial) (fun hc => q_move rfl rfl) ?_
  refine stepG [(87, _)] (guard_some rfl rfl rfl) rfl (nb hn rfl) (fun hc => ⟨⟨_, rfl, hc⟩, trivial⟩) (fun hc => q_eql rfl rfl rfl) ?_
  refine sq rfl rfl hn rfl (q_and rfl rfl rfl (by simp_all)) ?_
  refine sq rfl rfl hn rfl (q_move rfl rfl) ?_
  refine stepG [] (guard_some rfl rfl rfl) rfl (nb hn rfl) (fun hc => trivial) (fun hc => q_move rfl rfl) ?_
  refine stepW (s_guard (guard_some rfl rfl rfl) rfl (nb hn rfl) (s_buildSlice rfl rfl rfl (nb hn rfl) Tryz.underlying22 sz3 zr3 rfl rfl rfl (show _ = [.d (.int .i64 0)] from by kernel_rfl) (by kernel_rfl) rfl rfl rfl rfl rfl)) fun _ => ?_
  refine stepW (s_call [(91, _), (92, _)] (fun hc => Same_ok [3] [3]) rfl (guard_some rfl rfl rfl) rfl (nb hn rfl) (fun hc => ⟨⟨_, rfl, hc⟩, ⟨_, rfl, hc⟩, trivial⟩) rfl rfl (.refl _)) fun _ => ?_
  refine sq rfl rfl hn rfl (q_and rfl rfl rfl (by simp_all)) ?_
  refine sq rfl rfl hn rfl (q_move rfl rfl) ?_
  refine stepG [] (guard_some rfl rfl rfl) rfl (nb hn rfl) (fun hc => trivial) (fun hc => q_move rfl rfl) ?_
  refine stepG [(96, _)] (guard_some rfl rfl rfl) rfl (nb hn rfl) (fun hc => ⟨⟨_, rfl, hc⟩, trivial⟩) (fun hc => q_eql rfl rfl rfl) ?_
  refine sq rfl rfl hn rfl (q_and rfl rfl rfl (by simp_all)) ?_
  refine sq rfl rfl hn rfl (q_move rfl rfl) ?_
  refine stepG [] (guard_some rfl rfl rfl) rfl (nb hn rfl) (fun hc => trivial) (fun hc => q_move rfl rfl) ?_
  refine stepG [(100, _)] (guard_some rfl rfl rfl) rfl (nb hn rfl) (fun hc => ⟨⟨_, rfl, hc⟩, trivial⟩) (fun hc => q_eql rfl rfl rfl) ?_
  refine sq rfl rfl hn rfl (q_and rfl rfl rfl (by simp_all)) ?_
  refine sq rfl rfl hn rfl (q_move rfl rfl) ?_
  refine stepG [] (guard_some rfl rfl rfl) rfl (nb hn rfl) (fun hc => trivial) (fun hc => q_move rfl rfl) ?_
  refine stepG [(104, _)] (guard_some rfl rfl rfl) rfl (nb hn rfl) (fun hc => ⟨⟨_, rfl, hc⟩, trivial⟩) (fun hc => q_eql rfl rfl rfl) ?_
  refine sq rfl rfl hn rfl (q_and rfl rfl rfl (by simp_all)) ?_
  refine sq rfl rfl hn rfl (q_move rfl rfl) ?_
  refine stepW (s_call [] (fun hc => loan_ok [] [] (by simp)) rfl (guard_some rfl rfl rfl) rfl (nb hn rfl) (fun hc => trivial) rfl rfl (by first | exact .refl _ | (repeat (first | exact .refl _ | exact .nil _ | refine .cons ?_ ?_ | refine .agg ?_ | refine .tup ?_)))) fun _ => ?_
  refine stepG [] (guard_some rfl rfl rfl) rfl (nb hn rfl) (fun hc => trivial) (fun hc => q_move rfl rfl) ?_
  refine stepW (s_call [(108, _), (109, _)] (fun hc => ProveTruth_ok L0 x7.1.1) rfl (guard_some rfl rfl rfl) rfl (nb hn rfl) (fun hc => ⟨⟨_, rfl, hc⟩, ⟨_, rfl, hc⟩, trivial⟩) rfl rfl (.refl _)) fun _ => ?_
  refine sq rfl rfl hn rfl (q_and rfl rfl rfl (by simp_all)) ?_
  refine sq rfl rfl hn rfl (q_assign rfl rfl) ?_
  refine run_nil ?_
  refine aend_then ?_
  refine awp_ret ?_
  exact ret_E (.inl rfl) () ((hands_1 rfl (.tmp rfl)).eq (by simp [hh7, sameB_self])) trivial
end Go.Proofs.YtnbmmopjkkofoaaGreat
namespace Go.Proofs.YtnbmmopjkkofoaaGreat
open Go.RowKit
set_option maxRecDepth 20000
set_option linter.all false
theorem awake_ok : PureAt Tryz.prog 6 [] (.bool true) := PureAt.of_eff (ds := []) awake_eff
theorem thin_bd {r : Reg} (h : thinB r = true) : r.start.length ≤ 7 ∧ r.entries.length ≤ 9 ∧ r.sights.length ≤ 7 := by
  simp [thinB] at h
  omega
theorem few_f {r : Reg} {most : Int} (h : (!(thinB r && ((checkE r != 0) || decide ((manyN r.entries : Int) ≤ most)))) = false) : r.start.length ≤ 7 ∧ r.entries.length ≤ 9 ∧ r.sights.length ≤ 7 := by
  simp only [Bool.not_eq_false', Bool.and_eq_true] at h
  exact thin_bd h.1
end Go.Proofs.YtnbmmopjkkofoaaGreat
namespace Go.Proofs.YtnbmmopjkkofoaaGreat
set_option linter.all false
/-- There is a truth. -/
def hasT (r : Reg) : Prop := goesB r 0 0 0 = true
theorem expl_full {r : Reg} (v : Valid r) (x : ExplX r) : (hasT r ∧ x.1.2 = 0 ∧ ∃ ds, Truth r x.1.1 ds) ∨ (¬ hasT r ∧ x.1.2 = 9 ∧ x.1.1 = []) := by
  have h0 := checkE_of v
  rcases x.2 with ⟨k, _⟩ | ⟨_, k, e⟩ | ⟨_, k, h, _, n, m, hp⟩
  · exact (k h0).elim
  · right
    rw [e]
    refine ⟨fun h => ?_, rfl, rfl⟩
    have h' : goesB r 0 0 0 = true := h
    rw [k] at h'
    cases h'
  · exact .inl ⟨k, h, truth_of_path v hp⟩
theorem first_go {r : Reg} : ∀ (k i : Nat), i + k = r.entries.length → hasT (prefR r i) → (firstGo r k i = (0, 7) ∧ hasT (prefR r r.entries.length)) ∨ ∃ j : Nat, firstGo r k i = ((j : Int), 0) ∧ j < r.entries.length ∧ hasT (prefR r j) ∧ ¬ hasT (prefR r (j + 1))
  | 0, i, h, hi => .inl ⟨rfl, by rw [← h, Nat.add_zero]; exact hi⟩
  | k + 1, i, h, hi => by
    simp only [firstGo]
    cases hg : goesB (prefR r (i + 1)) 0 0 0 with
    | true => exact first_go k (i + 1) (by omega) hg
    | false =>
      refine .inr ⟨i, rfl, by omega, hi, fun hh => ?_⟩
      have hh' : goesB (prefR r (i + 1)) 0 0 0 = true := hh
      rw [hg] at hh'
      cases hh'
theorem first_law {r : Reg} (v : Valid r) : (firstR r = (0, 7) ∧ hasT (prefR r r.entries.length)) ∨ ∃ j : Nat, firstR r = ((j : Int), 0) ∧ j < r.entries.length ∧ hasT (prefR r j) ∧ ¬ hasT (prefR r (j + 1)) := by
  have h0 := checkE_of v
  have : firstR r = firstGo r r.entries.length 0 := by unfold firstR; rw [if_neg (by simp [h0])]
  rw [this]
  exact first_go _ 0 (by omega) (goes_empty (r := prefR r 0) (by simp [prefR]) rfl 10 0 0 (by omega))
/-- An increasing list of numbers below S, from f on. -/
def Inc (f S : Nat) (m : List Int) : Prop := m.Pairwise (· < ·) ∧ ∀ x ∈ m, (f : Int) ≤ x ∧ x < (S : Int)
theorem Inc.tail {f S : Nat} {x : Int} {m : List Int} (h : Inc f S (x :: m)) : Inc (x.toNat + 1) S m := by
  obtain ⟨h1, h2⟩ := h
  rw [List.pairwise_cons] at h1
  refine ⟨h1.2, fun y hy => ?_⟩
  have k1 := h1.1 y hy
  have k2 := h2 y (List.mem_cons_of_mem _ hy)
  have k3 := h2 x List.mem_cons_self
  omega
theorem Inc.mono {f g S : Nat} {m : List Int} (h : Inc f S m) (hg : g ≤ f) : Inc g S m := ⟨h.1, fun x hx => by have := h.2 x hx; omega⟩
theorem before_cons {x y : Int} {a b : List Int} : beforeB (x :: a) (y :: b) = if x = y then beforeB a b else decide (x < y) := by
  by_cases h : x = y
  · simp [beforeB, h]
  · have : (x != y) = true := by simpa using h
    simp [beforeB, this, h]
/-- What the search finds. -/
def Finds (r : Reg) (S k : Nat) (out : List Int) (f : Nat) : Option (List Int) → Prop
  | some l => ∃ m, l = out ++ m ∧ m.length = k ∧ Inc f S m ∧ hasT (dropR r l) ∧ ∀ m', m'.length = k → Inc f S m' → beforeB m' m = true → ¬ hasT (dropR r (out ++ m'))
  | none => ∀ m', m'.length = k → Inc f S m' → ¬ hasT (dropR r (out ++ m'))
theorem leave_finds (r : Reg) (S : Nat) : ∀ (k : Nat) (out : List Int) (f : Nat), Finds r S k out f (leaveS r S k out f)
  | 0, out, f => by
    simp only [leaveS]
    cases hg : goesB (dropR r out) 0 0 0 with
    | true => exact ⟨[], by simp, rfl, ⟨List.Pairwise.nil, fun _ h => by cases h⟩, hg, fun m' hm _ hb => by
        rw [List.eq_nil_of_length_eq_zero hm] at hb
        cases hb⟩
    | false =>
      intro m' hm _ hh
      rw [List.eq_nil_of_length_eq_zero hm, List.append_nil] at hh
      have hh' : goesB (dropR r out) 0 0 0 = true := hh
      rw [hg] at hh'
      cases hh'
  | k + 1, out, f => by
    show Finds r S (k + 1) out f (leaveN r S k out f)
    obtain ⟨n, hn⟩ : ∃ n, n = S - f := ⟨_, rfl⟩
    induction n generalizing f with
    | zero =>
      rw [leaveN_end (by omega)]
      intro m' hm hi
      cases m' with
      | nil => cases hm
      | cons x m' => have := hi.2 x List.mem_cons_self; omega
    | succ n ih =>
      rw [leaveN_step (by omega)]
      have h1 := leave_finds r S k (out ++ [(f : Int)]) (f + 1)
      have h2 := ih (f + 1) (by omega)
      cases e1 : leaveS r S k (out ++ [(f : Int)]) (f + 1) with
      | some l =>
        rw [e1] at h1
        obtain ⟨m, q1, q2, q3, q4, q5⟩ := h1
        refine ⟨(f : Int) :: m, by rw [q1]; simp, by simp [q2], ⟨List.pairwise_cons.2 ⟨fun y hy => by have := q3.2 y hy; omega, q3.1⟩, fun y hy => ?_⟩, q4, fun m' hm hi hb => ?_⟩
        · rcases List.mem_cons.1 hy with rfl | hy
          · omega
          · have := q3.2 y hy; omega
        · cases m' with
          | nil => cases hm
          | cons x m' =>
            have hx := hi.2 x List.mem_cons_self
            rw [before_cons] at hb
            by_cases e : x = (f : Int)
            · rw [if_pos e] at hb
              subst e
              have := q5 m' (by simpa using hm) (hi.tail.mono (by omega)) hb
              simpa using this
            · rw [if_neg e] at hb
              simp at hb
              omega
      | none =>
        rw [e1] at h1
        have key : ∀ m', m'.length = k + 1 → Inc f S m' → (∃ m'', m' = (f : Int) :: m'' ∧ ¬ hasT (dropR r (out ++ m'))) ∨ Inc (f + 1) S m' := fun m' hm hi => by
          cases m' with
          | nil => cases hm
          | cons x m' =>
            have hx := hi.2 x List.mem_cons_self
            by_cases e : x = (f : Int)
            · subst e
              refine .inl ⟨m', rfl, ?_⟩
              have := h1 m' (by simpa using hm) (hi.tail.mono (by omega))
              simpa using this
            · refine .inr ⟨hi.1, fun y hy => ?_⟩
              have hy2 := hi.2 y hy
              rcases List.mem_cons.1 hy with rfl | hy
              · omega
              · have := (List.pairwise_cons.1 hi.1).1 y hy; omega
        show Finds r S (k + 1) out f (leaveN r S k out (f + 1))
        cases e2 : leaveN r S k out (f + 1) with
        | some l =>
          rw [e2] at h2
          obtain ⟨m, q1, q2, q3, q4, q5⟩ := h2
          refine ⟨m, q1, q2, q3.mono (by omega), q4, fun m' hm hi hb => ?_⟩
          rcases key m' hm hi with ⟨_, _, h⟩ | h
          · exact h
          · exact q5 m' hm h hb
        | none =>
          rw [e2] at h2
          intro m' hm hi
          rcases key m' hm hi with ⟨_, _, h⟩ | h
          · exact h
          · exact h2 m' hm h
theorem leave_go {r : Reg} : ∀ (c k : Nat), c + k = sumR r + 1 → (∀ j, j < k → leaveK r j = none) → ∃ j, j ≤ sumR r ∧ leaveK r j = some (leaveGo r c k) ∧ ∀ i, i < j → leaveK r i = none
  | 0, k, h, hn => by
    obtain ⟨l, hl⟩ := leaveK_some r
    rw [hn (sumR r) (by omega)] at hl
    cases hl
  | c + 1, k, h, hn => by
    simp only [leaveGo]
    cases e : leaveK r k with
    | some l => exact ⟨k, by omega, by rw [e], hn⟩
    | none =>
      refine leave_go c (k + 1) (by omega) fun j hj => ?_
      by_cases q : j = k
      · subst q; exact e
      · exact hn j (by omega)
/-- What Leave returns. -/
theorem leave_law {r : Reg} (v : Valid r) : (leaveR r).2 = 0 ∧ Inc 0 (sumR r) (leaveR r).1 ∧ hasT (dropR r (leaveR r).1) ∧ ∀ l, Inc 0 (sumR r) l → shorterB l (leaveR r).1 = true → ¬ hasT (dropR r l) := by
  have h0 := checkE_of v
  have e : leaveR r = (leaveGo r (sumR r + 1) 0, 0) := by unfold leaveR; rw [if_neg (by simp [h0])]
  rw [e]
  obtain ⟨j, hj, h1, h2⟩ := leave_go (r := r) (sumR r + 1) 0 (by omega) fun j hj => by omega
  have hf := leave_finds r (sumR r) j [] 0
  have h1' : leaveS r (sumR r) j [] 0 = some (leaveGo r (sumR r + 1) 0) := h1
  rw [h1'] at hf
  obtain ⟨m, q1, q2, q3, q4, q5⟩ := hf
  rw [List.nil_append] at q1
  refine ⟨rfl, by dsimp only; rw [q1]; exact q3, q4, fun l hl hs => ?_⟩
  dsimp only at hs
  rw [q1] at hs
  unfold shorterB at hs
  rw [q2] at hs
  simp only [Bool.or_eq_true, decide_eq_true_eq, Bool.and_eq_true, beq_iff_eq] at hs
  rcases hs with hs | ⟨hs, hb⟩
  · have hn := h2 l.length (by omega)
    have hf2 := leave_finds r (sumR r) l.length [] 0
    have hn' : leaveS r (sumR r) l.length [] 0 = none := hn
    rw [hn'] at hf2
    exact hf2 l rfl hl
  · exact q5 l (by omega) hl hb
theorem Inc.nil (f S : Nat) : Inc f S [] := ⟨List.Pairwise.nil, fun _ h => by cases h⟩
theorem dropF_keep {α : Type} {bits : Nat} {out : List Int} : ∀ {k : Nat} {l : List α}, (∀ j, k ≤ j → j < k + l.length → (out.any (fun n => (j : Int) == n) = bits.testBit j)) → dropF out k l = keepF bits k l
  | _, [], _ => rfl
  | k, x :: l, h => by
    have h1 := h k (Nat.le_refl _) (by simp)
    have h2 := dropF_keep (bits := bits) (out := out) (k := k + 1) (l := l) fun j h2 h3 => h j (by omega) (by simp only [List.length_cons]; omega)
    simp only [dropF, keepF, h1, h2]
theorem outB_mem {r : Reg} {b j : Nat} (hj : j < sumR r) : (outB r b).any (fun n => (j : Int) == n) = b.testBit j := by
  rw [Bool.eq_iff_iff, List.any_eq_true]
  unfold outB
  constructor
  · rintro ⟨x, hx, e⟩
    obtain ⟨i, hi, rfl⟩ := List.mem_map.1 hx
    rw [List.mem_filter] at hi
    have : (j : Int) = Int.ofNat i := by simpa using e
    have : (j : Int) = (i : Int) := this
    have : j = i := by omega
    subst this
    exact hi.2
  · intro h
    exact ⟨(j : Int), List.mem_map.2 ⟨j, List.mem_filter.2 ⟨List.mem_range.2 hj, h⟩, rfl⟩, by simp⟩
theorem dropR_out (r : Reg) (b : Nat) : dropR r (outB r b) = withoutR r b := by
  unfold dropR withoutR
  rw [dropF_keep (bits := b) fun j h1 h2 => outB_mem (by unfold sumR; omega), dropF_keep (bits := b) fun j h1 h2 => outB_mem (by unfold sumR; omega)]
theorem outB_inc (r : Reg) (b : Nat) : Inc 0 (sumR r) (outB r b) := by
  refine ⟨range_strict _ _, fun x hx => ?_⟩
  obtain ⟨i, hi, rfl⟩ := List.mem_map.1 hx
  have := List.mem_range.1 (List.mem_filter.1 hi).1
  unfold sumR
  show (0 : Int) ≤ (i : Int) ∧ (i : Int) < _
  omega
/-- The bits of a list. -/
def bitsL : List Int → Nat
  | [] => 0
  | x :: l => 2 ^ x.toNat ||| bitsL l
theorem bitsL_test {S : Nat} : ∀ {l : List Int}, (∀ x ∈ l, (0 : Int) ≤ x ∧ x < (S : Int)) → ∀ j : Nat, (bitsL l).testBit j = l.any fun n => (j : Int) == n
  | [], _, j => by simp [bitsL]
  | x :: l, h, j => by
    have hx := h x List.mem_cons_self
    rw [bitsL, Nat.testBit_or, Nat.testBit_two_pow, bitsL_test (S := S) fun y hy => h y (List.mem_cons_of_mem _ hy)]
    rw [List.any_cons]
    congr 1
    rw [Bool.eq_iff_iff]
    simp
    omega
theorem dropR_bits {r : Reg} {l : List Int} (h : Inc 0 (sumR r) l) : withoutR r (bitsL l) = dropR r l := by
  unfold dropR withoutR
  have hb := bitsL_test (S := sumR r) (l := l) fun x hx => by have := h.2 x hx; omega
  rw [dropF_keep (bits := bitsL l) fun j _ _ => (hb j).symm, dropF_keep (bits := bitsL l) fun j _ _ => (hb j).symm]
end Go.Proofs.YtnbmmopjkkofoaaGreat
namespace Go.Proofs.YtnbmmopjkkofoaaGreat
open Go.RowKit
set_option linter.all false
section
variable {Γ : Cx} {P : Program} {σ : St} {o : Oper} {R : Rel}
theorem map_add0 (ad : Option Addr) : ad.map (fun a => a.add 0) = ad := by cases ad <;> rfl
theorem q_sliceH {x y : Operand} {t e : TypeId} {sz : Nat} {es es' : List (List D)} {k : IntKind} {m : Int} {j : Nat} (h : o.op = .slice t x none (some y) none) (hx : σ.ev x = some (true, .d (.slice sz es))) (hy : σ.ev y = some (true, .d (.int k m)))
    (ht : P.underlying t = some (.slice e)) (hz : Sz P e sz) (hm : m = (j : Int)) (hj : j ≤ es.length) (he' : es.take j = es') : QV Γ P σ o R (.d (.slice sz es')) := fun a w F hs => by
  obtain ⟨ad, cap, e1, hle, hcap, hrow⟩ := hs.ev hx
  have h2 := hs.ev hy
  simp only [TRep, Rep] at h2
  subst hm
  subst he'
  have hj2 : j ≤ cap := by omega
  refine ⟨.slice ad j cap, ⟨ad, cap, by rw [List.length_take, Nat.min_eq_left hj], by rw [List.length_take, Nat.min_eq_left hj]; omega, hcap, ?_⟩, fun w' _ => ?_⟩
  · rcases hrow with rfl | ⟨b, o, h1, h3⟩
    · exact .inl (by simp)
    · exact .inr ⟨b, o, h1, h3.take j⟩
  · simp [execOp, h, e1, h2, Instr.sliceAt, Instr.slice, run_underlying ht, Instr.sliceBounds, Instr.sliceBound, asIntOf, run_sz hz, hj2, map_add0]
end
section
variable {Γ : Cx} {P : Program} {σ : St} {o : Oper} {R : Rel}
end
section
variable {Γ : Cx} {P : Program} {σ : St} {ops : Array Oper} {o : Oper} {Q : Exit → Act → World → Prop} {W : Nat → Prop}
end
end Go.Proofs.YtnbmmopjkkofoaaGreat
namespace Go.Proofs.YtnbmmopjkkofoaaGreat
open Go.RowKit
set_option maxRecDepth 20000
set_option linter.all false
theorem map_take {α β : Type} {l : List α} {f : α → β} {n : Nat} : (l.map f).take n = (l.take n).map f := by simp
theorem shl_i64 {k : Nat} (h : k < 60) : IntKind.i64.wrap (1 * 2 ^ ((k : Int)).toNat) = ((2 ^ k : Nat) : Int) := by
  have h1 : 2 ^ k < 1152921504606846976 := by
    have := Nat.pow_lt_pow_right (a := 2) (by omega) h
    simpa using this
  have e : (1 * 2 ^ ((k : Int)).toNat : Int) = ((2 ^ k : Nat) : Int) := by simp
  rw [e]
  generalize 2 ^ k = x at h1
  exact i64w (by omega) rfl
theorem bitsL_lt {S : Nat} : ∀ {l : List Int}, (∀ x ∈ l, (0 : Int) ≤ x ∧ x < (S : Int)) → bitsL l < 2 ^ S
  | [], _ => Nat.two_pow_pos _
  | x :: l, h => by
    have hx := h x List.mem_cons_self
    exact Nat.or_lt_two_pow (Nat.pow_lt_pow_right (by omega) (by omega)) (bitsL_lt fun y hy => h y (List.mem_cons_of_mem _ hy))
theorem pow_small {S : Nat} (h : S ≤ 10) : 2 ^ S ≤ 1024 := by
  have := Nat.pow_le_pow_right (n := 2) (by omega) h
  simpa using this
theorem keepF_sub {α : Type} {bits : Nat} {x : α} : ∀ {k : Nat} {l : List α}, x ∈ keepF bits k l → x ∈ l
  | _, [], h => h
  | k, y :: l, h => by
    unfold keepF at h
    cases hb : bits.testBit k <;> rw [hb] at h
    · rcases List.mem_cons.1 h with rfl | h
      · exact List.mem_cons_self
      · exact List.mem_cons_of_mem _ (keepF_sub h)
    · exact List.mem_cons_of_mem _ (keepF_sub h)
theorem valid_without {r : Reg} (v : Valid r) (b : Nat) : Valid (withoutR r b) :=
  ⟨v.h1, v.h4, v.s1, v.s4, Nat.le_trans keepF_len v.e6, Nat.le_trans keepF_len v.g4, v.st, fun e he => v.en e (keepF_sub he), fun s hs => v.si s (keepF_sub hs)⟩
end Go.Proofs.YtnbmmopjkkofoaaGreat
namespace Go.Proofs.YtnbmmopjkkofoaaGreat
set_option linter.all false
/-- Two lists, element by element. -/
def Pt {α β : Type} (R : α → β → Prop) : List α → List β → Prop
  | [], [] => True
  | a :: as', b :: bs => R a b ∧ Pt R as' bs
  | _, _ => False
theorem Pt.refl {α : Type} {R : α → α → Prop} (h : ∀ a, R a a) : ∀ l : List α, Pt R l l
  | [] => trivial
  | a :: l => ⟨h a, Pt.refl h l⟩
theorem Pt.imp {α β : Type} {R S : α → β → Prop} (h : ∀ a b, R a b → S a b) : ∀ {l : List α} {l' : List β}, Pt R l l' → Pt S l l'
  | [], [], _ => trivial
  | _ :: _, _ :: _, ⟨h1, h2⟩ => ⟨h _ _ h1, Pt.imp h h2⟩
  | [], _ :: _, h => h.elim
  | _ :: _, [], h => h.elim
theorem Pt.len {α β : Type} {R : α → β → Prop} : ∀ {l : List α} {l' : List β}, Pt R l l' → l'.length = l.length
  | [], [], _ => rfl
  | _ :: _, _ :: _, ⟨_, h⟩ => by simp [Pt.len h]
  | [], _ :: _, h => h.elim
  | _ :: _, [], h => h.elim
theorem Pt.get {α β : Type} {R : α → β → Prop} : ∀ {l : List α} {l' : List β} {i : Nat} {a : α}, Pt R l l' → l[i]? = some a → ∃ b, l'[i]? = some b ∧ R a b
  | [], [], _, _, _, h => by simp at h
  | a :: l, b :: l', 0, x, ⟨h1, _⟩, h => by
    simp only [List.getElem?_cons_zero, Option.some.injEq] at h
    subst h
    exact ⟨b, rfl, h1⟩
  | a :: l, b :: l', i + 1, x, ⟨_, h2⟩, h => Pt.get (i := i) h2 (by simpa using h)
  | [], _ :: _, _, _, h, _ => h.elim
  | _ :: _, [], _, _, h, _ => h.elim
theorem Pt.drop {α β : Type} {R : α → β → Prop} {out : List Int} : ∀ {k : Nat} {l : List α} {l' : List β}, Pt R l l' → Pt R (dropF out k l) (dropF out k l')
  | _, [], [], _ => trivial
  | k, a :: l, b :: l', ⟨h1, h2⟩ => by
    simp only [dropF]
    cases out.any (fun n => (k : Int) == n)
    · exact ⟨h1, Pt.drop h2⟩
    · exact Pt.drop h2
  | _, [], _ :: _, h => h.elim
  | _, _ :: _, [], h => h.elim
theorem Pt.map {α β γ : Type} {R : α → β → Prop} {f : γ → α} {g : γ → β} (h : ∀ c, R (f c) (g c)) : ∀ l : List γ, Pt R (l.map f) (l.map g)
  | [] => trivial
  | c :: l => ⟨h c, Pt.map h l⟩
theorem Pt.and {α β : Type} {R S : α → β → Prop} : ∀ {l : List α} {l' : List β}, Pt R l l' → Pt S l l' → Pt (fun a b => R a b ∧ S a b) l l'
  | [], [], _, _ => trivial
  | _ :: _, _ :: _, ⟨h1, h2⟩, ⟨k1, k2⟩ => ⟨⟨h1, k1⟩, Pt.and h2 k2⟩
  | [], _ :: _, h, _ => h.elim
  | _ :: _, [], h, _ => h.elim
def SameWay (e e' : Ent5) : Prop := e'.sheet = e.sheet ∧ e'.frm = e.frm ∧ e'.to = e.to
def Wide (e e' : Ent5) : Prop := e'.lo ≤ e.lo ∧ e.hi ≤ e'.hi
def SameKind (e e' : Ent5) : Prop := e'.kind = e.kind
/-- What is a truth of the first register is one of the second. -/
structure Loose (r x : Reg) : Prop where
  st : x.start = r.start
  way : Pt SameWay r.entries x.entries
  wide : Pt Wide r.entries x.entries
  kind : Pt SameKind r.entries x.entries ∨ ∀ e ∈ x.entries, e.kind ≠ 2
  si : ∀ s ∈ x.sights, s ∈ r.sights
theorem comeF_same {d : Nat} {s : Int} : ∀ {k : Nat} {es es' : List Ent5} {c : List Int}, Pt SameWay es es' → comeF d s k es' c = comeF d s k es c
  | _, [], [], _, _ => rfl
  | k, e :: es, e' :: es', c, ⟨⟨h1, h2, h3⟩, h⟩ => by
    simp only [comeF, h1, h2, h3]
    exact comeF_same h
  | _, [], _ :: _, _, h => h.elim
  | _, _ :: _, [], _, h => h.elim
theorem places_same {r x : Reg} (hs : x.start = r.start) (h : Pt SameWay r.entries x.entries) (m : Nat) : placesA x m = placesA r m := by
  unfold placesA placesL
  rw [hs]
  congr 1
  funext j
  unfold placeN placeOf
  rw [hs, comeF_same h]
theorem openF_same {d : Nat} {a b : Int} : ∀ {k : Nat} {es es' : List Ent5} {n : Int}, Pt SameWay es es' → Pt SameKind es es' → openF d a b k es' n = openF d a b k es n
  | _, [], [], _, _, _ => rfl
  | k, e :: es, e' :: es', c, ⟨⟨h1, h2, h3⟩, h⟩, ⟨q, hq⟩ => by
    have q' : e'.kind = e.kind := q
    simp only [openF, h2, h3, q']
    exact openF_same h hq
  | _, [], _ :: _, _, h, _ => h.elim
  | _, _ :: _, [], _, h, _ => h.elim
theorem open_same {r x : Reg} (h : Pt SameWay r.entries x.entries) (q : Pt SameKind r.entries x.entries) (m : Nat) (a b : Int) : openN x m a b = openN r m a b := openF_same h q
theorem Loose.can {r x : Reg} (h : Loose r x) {k m : Nat} (hc : canB r k m = true) : canB x k m = true := by
  unfold canB at hc ⊢
  cases he : r.entries[k]? with
  | none => rw [he] at hc; cases hc
  | some e =>
    rw [he] at hc
    obtain ⟨e', he', h1, h2, h3⟩ := h.way.get he
    rw [he']
    dsimp only at hc ⊢
    unfold canE at hc ⊢
    rw [places_same h.st h.way, h1, h2]
    simp only [Bool.and_eq_true, Bool.or_eq_true] at hc ⊢
    refine ⟨hc.1, ?_⟩
    rcases h.kind with q | q
    · obtain ⟨e2, he2, q2⟩ := q.get he
      rw [he'] at he2
      cases he2
      have q3 : e'.kind = e.kind := q2
      rw [q3, open_same h.way q, h3]
      exact hc.2
    · exact .inl (by simpa using q e' (List.mem_of_getElem? he'))
theorem Loose.day {r x : Reg} (h : Loose r x) {n : Int} : ∀ {ts : List Int} {k m m' : Nat}, dayF r n k ts m = some m' → dayF x n k ts m = some m'
  | [], _, _, _, hd => hd
  | t :: ts, k, m, m', hd => by
    simp only [dayF] at hd ⊢
    cases hb : t != n with
    | true => rw [hb] at hd; exact h.day hd
    | false =>
      rw [hb] at hd
      simp only [cond_false] at hd ⊢
      cases hc : canB r k m with
      | false => rw [hc] at hd; cases hd
      | true =>
        rw [hc] at hd
        rw [h.can hc]
        exact h.day hd
theorem Loose.play {r x : Reg} (h : Loose r x) {t : List Int} : ∀ {c n m : Nat} {ds : List Nat}, playF r t c n m = some ds → playF x t c n m = some ds
  | 0, _, _, _, hp => hp
  | c + 1, n, m, ds, hp => by
    rw [playF] at hp ⊢
    split at hp
    · cases hp
    · rename_i d1 h1
      split at hp
      · cases hp
      · rename_i ds1 h2
        cases hp
        rw [h.day h1]
        simp only
        rw [h.play h2]
theorem dated_wide : ∀ {es es' : List Ent5} {ts : List Int}, Pt Wide es es' → datedF es ts = true → datedF es' ts = true
  | [], [], ts, _, h => h
  | e :: es, e' :: es', [], _, h => by simp [datedF] at h
  | e :: es, e' :: es', t :: ts, ⟨⟨h1, h2⟩, h3⟩, h => by
    simp only [datedF, Bool.and_eq_true, decide_eq_true_eq] at h ⊢
    exact ⟨by omega, dated_wide h3 h.2⟩
  | [], _ :: _, _, h, _ => h.elim
  | _ :: _, [], _, h, _ => h.elim
theorem Loose.seen {r x : Reg} (h : Loose r x) : ∀ {n : Nat} {ds : List Nat}, seenAll r n ds = true → seenAll x n ds = true
  | _, [], _ => rfl
  | n, d :: ds, hs => by
    simp only [seenAll, Bool.and_eq_true] at hs ⊢
    rw [places_same h.st h.way]
    refine ⟨List.all_eq_true.2 fun s hs' => List.all_eq_true.1 hs.1 s (h.si s hs'), h.seen hs.2⟩
theorem Loose.truth {r x : Reg} (h : Loose r x) {t : List Int} {ds : List Nat} (T : Truth r t ds) : Truth x t ds :=
  ⟨dated_wide h.wide T.dated, h.play T.play, h.seen T.seen⟩
theorem Loose.has {r x : Reg} (h : Loose r x) (v : Valid r) (vx : Valid x) (H : hasT r) : hasT x := by
  obtain ⟨t, ds, T⟩ := (goes_truth v).1 H
  exact (goes_truth vx).2 ⟨t, ds, h.truth T⟩
/-- What can have happened at the end of a day. -/
def Eve (r : Reg) (N m : Nat) : Prop := Rch r N N r.entries.length m
theorem Loose.eve {r x : Reg} (h : Loose r x) (v : Valid r) (vx : Valid x) {N m : Nat} (hN : N ≤ 9) (H : Eve r N m) : Eve x N m := by
  obtain ⟨t, ds, T, hd⟩ := (rch_truth v hN).1 H
  exact (rch_truth vx hN).2 ⟨t, ds, h.truth T, hd⟩
theorem Loose.drop {r x : Reg} (h : Loose r x) (hs : x.sights = r.sights) (out : List Int) : Loose (dropR r out) (dropR x out) where
  st := h.st
  way := h.way.drop
  wide := h.wide.drop
  kind := by
    rcases h.kind with q | q
    · exact .inl q.drop
    · exact .inr fun e he => q e (dropF_sub he)
  si := fun s hs' => by
    show s ∈ dropF out r.entries.length r.sights
    have : s ∈ dropF out x.entries.length x.sights := hs'
    rw [h.way.len, hs] at this
    exact this
theorem Inc.filter {f S S' : Nat} {m : List Int} {p : Int → Bool} (h : Inc f S m) (hp : ∀ x ∈ m, p x = true → x < (S' : Int)) : Inc f S' (m.filter p) :=
  ⟨h.1.filter p, fun x hx => by
    rw [List.mem_filter] at hx
    exact ⟨(h.2 x hx.1).1, hp x hx.1 hx.2⟩⟩
/-- The first register allows no more on a day than the second. -/
structure Nar (x r : Reg) (N : Nat) : Prop where
  vx : Valid x
  v : Valid r
  hx : hasT x
  h : hasT r
  eve : ∀ m, Eve x N m → Eve r N m
  pl : ∀ m, placesA x m = placesA r m
  op : ∀ m a b, openN x m a b = openN r m a b
  st : x.start = r.start
  ho : x.houses = r.houses
end Go.Proofs.YtnbmmopjkkofoaaGreat
namespace Go.Proofs.YtnbmmopjkkofoaaGreat
set_option linter.all false
theorem has_t {r : Reg} (v : Valid r) {t : List Int} (h : isTruthB r t = true) : goesB r 0 0 0 = true := by
  obtain ⟨ds, T⟩ := (truth_iff v).1 h
  exact (goes_truth v).2 ⟨t, ds, T⟩
theorem has_f {r : Reg} (v : Valid r) (h : ∀ j, j < manyN r.entries → isTruthB r (nthL r.entries j) = false) : goesB r 0 0 0 = false := by
  rw [Bool.eq_false_iff]
  intro k
  apply (goes_all_iff v).1 k
  have e : truths r = [] := by
    unfold truths truthsF
    rw [List.filter_eq_nil_iff]
    intro t ht
    obtain ⟨j, hj, rfl⟩ := List.mem_map.1 ht
    rw [h j (List.mem_range.1 hj)]
    simp
  rw [allDays, e]
  rfl
/-- First, step by step. -/
theorem first_t' {r : Reg} {i : Nat} (hi : i < r.entries.length) (h : goesB (prefR r (i + 1)) 0 0 0 = true) : firstGo r (r.entries.length - i) i = firstGo r (r.entries.length - (i + 1)) (i + 1) := by
  rw [show r.entries.length - i = (r.entries.length - (i + 1)) + 1 by omega, firstGo, h]; rfl
theorem first_f' {r : Reg} {i : Nat} (hi : i < r.entries.length) (h : goesB (prefR r (i + 1)) 0 0 0 = false) : firstGo r (r.entries.length - i) i = (((i : Nat) : Int), 0) := by
  rw [show r.entries.length - i = (r.entries.length - (i + 1)) + 1 by omega, firstGo, h]; rfl
def refFirst (x : Int × Int) : Int := if x.2 = 0 then x.1 else -1
theorem firstR_go {r : Reg} (v : Valid r) : firstR r = firstGo r r.entries.length 0 := by unfold firstR; rw [if_neg (by simp [checkE_of v])]
theorem before_irr : ∀ a : List Int, beforeB a a = false
  | [] => rfl
  | x :: a => by rw [before_cons, if_pos rfl]; exact before_irr a
theorem before_trans : ∀ {a b c : List Int}, beforeB a b = true → beforeB b c = true → beforeB a c = true
  | [], [], _, h, _ => by cases h
  | [], _ :: _, [], _, h => by cases h
  | [], _ :: _, _ :: _, _, _ => rfl
  | _ :: _, [], _, h, _ => by cases h
  | _ :: _, _ :: _, [], _, h => by cases h
  | x :: a, y :: b, z :: c, h, k => by
    rw [before_cons] at h k ⊢
    by_cases e : x = y
    · subst e
      by_cases e2 : x = z
      · subst e2
        rw [if_pos rfl] at h k ⊢
        exact before_trans h k
      · rw [if_neg e2] at k ⊢; exact k
    · rw [if_neg e] at h
      have h' := of_decide_eq_true h
      by_cases e2 : y = z
      · subst e2; rw [if_neg e]; exact h
      · rw [if_neg e2] at k
        have k' := of_decide_eq_true k
        rw [if_neg (by omega)]
        exact decide_eq_true (by omega)
theorem before_tri : ∀ {a b : List Int}, a.length = b.length → beforeB a b = false → beforeB b a = false → a = b
  | [], [], _, _, _ => rfl
  | [], _ :: _, h, _, _ => by simp at h
  | _ :: _, [], h, _, _ => by simp at h
  | x :: a, y :: b, hl, h, k => by
    rw [before_cons] at h k
    by_cases e : x = y
    · subst e
      rw [if_pos rfl] at h k
      rw [before_tri (by simpa using hl) h k]
    · rw [if_neg e] at h
      rw [if_neg (Ne.symm e)] at k
      have h' := of_decide_eq_false h
      have k' := of_decide_eq_false k
      omega
theorem shorter_irr (a : List Int) : shorterB a a = false := by simp [shorterB, before_irr]
theorem shorter_iff {a b : List Int} : shorterB a b = true ↔ a.length < b.length ∨ (a.length = b.length ∧ beforeB a b = true) := by
  unfold shorterB
  simp only [Bool.or_eq_true, decide_eq_true_eq, Bool.and_eq_true, beq_iff_eq]
  constructor
  · rintro (h | ⟨h1, h2⟩)
    · exact .inl (by omega)
    · exact .inr ⟨by omega, h2⟩
  · rintro (h | ⟨h1, h2⟩)
    · exact .inl (by omega)
    · exact .inr ⟨by omega, h2⟩
theorem shorter_trans {a b c : List Int} (h : shorterB a b = true) (k : shorterB b c = true) : shorterB a c = true := by
  rw [shorter_iff] at *
  rcases h with h | ⟨h, h2⟩
  · left; omega
  · rcases k with k | ⟨k, k2⟩
    · left; omega
    · exact .inr ⟨by omega, before_trans h2 k2⟩
theorem shorter_tri {a b : List Int} (h : shorterB a b = false) (k : shorterB b a = false) : a = b := by
  rw [Bool.eq_false_iff, Ne, shorter_iff] at h k
  have hl : a.length = b.length := by omega
  refine before_tri hl ?_ ?_
  · rw [Bool.eq_false_iff]; exact fun q => h (.inr ⟨hl, q⟩)
  · rw [Bool.eq_false_iff]; exact fun q => k (.inr ⟨hl.symm, q⟩)
theorem keepF_all {α : Type} {bits : Nat} : ∀ {k : Nat} {l : List α}, (∀ j, k ≤ j → j < k + l.length → bits.testBit j = true) → keepF bits k l = []
  | _, [], _ => rfl
  | k, x :: l, h => by
    have h0 := h k (Nat.le_refl _) (by simp)
    simp only [keepF, h0]
    exact keepF_all fun j h1 h2 => h j (by omega) (by simp only [List.length_cons]; omega)
/-- All bits. -/
def allB (r : Reg) : Nat := 2 ^ (r.entries.length + r.sights.length) - 1
theorem all_has (r : Reg) : goesB (withoutR r (allB r)) 0 0 0 = true := by
  have hb : ∀ j, j < r.entries.length + r.sights.length → (allB r).testBit j = true := fun j hj => by
    unfold allB
    rw [Nat.testBit_two_pow_sub_one]
    simpa using hj
  exact goes_empty (keepF_all fun j _ h => hb j (by omega)) (keepF_all fun j _ h => hb j (by omega)) 10 0 0 (by omega)
theorem outB_bits {r : Reg} {m : List Int} (h : Inc 0 (sumR r) m) : outB r (bitsL m) = m := by
  have hi := outB_inc r (bitsL m)
  refine strict_eq hi.1 h.1 fun x => ?_
  have hb := bitsL_test (S := sumR r) (l := m) fun x hx => by have := h.2 x hx; omega
  have key : ∀ l, Inc 0 (sumR r) l → (x ∈ l ↔ (0 ≤ x ∧ x < (sumR r : Int)) ∧ (l.any fun n => ((x.toNat : Nat) : Int) == n) = true) := fun l hl => by
    constructor
    · intro hx
      have := hl.2 x hx
      exact ⟨by omega, List.any_eq_true.2 ⟨x, hx, by simp; omega⟩⟩
    · rintro ⟨h1, h2⟩
      obtain ⟨y, hy, e⟩ := List.any_eq_true.1 h2
      have : y = x := by simp at e; omega
      exact this ▸ hy
  rw [key _ hi, key _ h]
  constructor
  · rintro ⟨h1, h2⟩
    rw [outB_mem (by omega), hb] at h2
    exact ⟨h1, h2⟩
  · rintro ⟨h1, h2⟩
    rw [← hb] at h2
    exact ⟨h1, by rw [outB_mem (by omega)]; exact h2⟩
/-- What Leave keeps while it tries. -/
def LeaveI (r : Reg) (i : Nat) (l : List Int) : Prop := (∃ b, l = outB r b) ∧ hasT (dropR r l) ∧ ∀ b, (b < i ∨ b = allB r) → goesB (withoutR r b) 0 0 0 = true → shorterB (outB r b) l = false
theorem leaveI_start (r : Reg) : LeaveI r 0 (outB r (allB r)) := by
  refine ⟨⟨_, rfl⟩, by rw [dropR_out]; exact all_has r, fun b hb _ => ?_⟩
  rcases hb with hb | rfl
  · omega
  · exact shorter_irr _
theorem leaveI_t {r : Reg} {i : Nat} {l : List Int} (h : LeaveI r i l) (h1 : (shorterB (outB r i) l && goesB (withoutR r i) 0 0 0) = true) : LeaveI r (i + 1) (outB r i) := by
  rw [Bool.and_eq_true] at h1
  refine ⟨⟨_, rfl⟩, by rw [dropR_out]; exact h1.2, fun b hb hT => ?_⟩
  by_cases e : b = i
  · subst e; exact shorter_irr _
  · have := h.2.2 b (by omega) hT
    rw [Bool.eq_false_iff] at this ⊢
    exact fun q => this (shorter_trans q h1.1)
theorem leaveI_f {r : Reg} {i : Nat} {l : List Int} (h : LeaveI r i l) (h1 : (shorterB (outB r i) l && goesB (withoutR r i) 0 0 0) = false) : LeaveI r (i + 1) l := by
  refine ⟨h.1, h.2.1, fun b hb hT => ?_⟩
  by_cases e : b = i
  · subst e
    rw [hT, Bool.and_true] at h1
    exact h1
  · exact h.2.2 b (by omega) hT
theorem leaveI_end {r : Reg} {l : List Int} (v : Valid r) (h : LeaveI r (allB r) l) : l = (leaveR r).1 := by
  obtain ⟨_, h1, h2, h3⟩ := leave_law v
  obtain ⟨⟨b, hb⟩, h4, h5⟩ := h
  have hlt : bitsL (leaveR r).1 < 2 ^ sumR r := bitsL_lt fun x hx => by have := h1.2 x hx; omega
  have hs : shorterB (outB r (bitsL (leaveR r).1)) l = false := h5 _ (by unfold allB; unfold sumR at hlt; omega) (by rw [dropR_bits h1]; exact h2)
  rw [outB_bits h1] at hs
  refine shorter_tri ?_ hs
  rw [Bool.eq_false_iff]
  exact fun q => h3 l (hb ▸ outB_inc r b) q h4
end Go.Proofs.YtnbmmopjkkofoaaGreat
namespace Go.Proofs.YtnbmmopjkkofoaaGreat
open Go.RowKit
set_option maxRecDepth 20000
set_option linter.all false
theorem leaves_f {r : Reg} {a b : Int} (hab : a + b = ((r.entries.length + r.sights.length : Nat) : Int)) (h : (!(thinB r && ((checkE r != 0) || decide ((manyN r.entries : Int) ≤ 100))) || ((checkE r == 0) && decide (7 < a + b))) = false) : (r.start.length ≤ 7 ∧ r.entries.length ≤ 9 ∧ r.sights.length ≤ 7) ∧ (checkE r = 0 → r.entries.length + r.sights.length ≤ 7) := by
  rw [Bool.or_eq_false_iff] at h
  refine ⟨few_f h.1, fun h0 => ?_⟩
  have h2 := h.2
  rw [h0, hab] at h2
  simp at h2
  omega
theorem expl_bad {r : Reg} (h : checkE r ≠ 0) (x : ExplX r) : x.1 = ([], checkE r) := by
  rcases x.2 with ⟨_, e⟩ | ⟨k, _⟩ | ⟨k, _⟩
  · exact e
  · exact (h k).elim
  · exact (h k).elim
theorem expl_res {r : Reg} (v : Valid r) (x : ExplX r) : (goesB r 0 0 0 = true ∧ x.1.2 = 0 ∧ isTruthB r x.1.1 = true) ∨ (goesB r 0 0 0 = false ∧ x.1.2 = 9 ∧ x.1.1 = []) := by
  rcases expl_full v x with ⟨h, e, T⟩ | ⟨h, e, n⟩
  · exact .inl ⟨h, e, (truth_iff v).2 T⟩
  · exact .inr ⟨by rw [Bool.eq_false_iff]; exact h, e, n⟩
theorem first_res {r : Reg} (v : Valid r) : (firstR r).2 = 7 ∧ (firstR r).1 = 0 ∧ refFirst (firstR r) = -1 ∨ (firstR r).2 = 0 ∧ 0 ≤ (firstR r).1 ∧ refFirst (firstR r) = (firstR r).1 := by
  rcases first_law v with ⟨e, _⟩ | ⟨j, e, _⟩
  · rw [e]; exact .inl ⟨rfl, rfl, rfl⟩
  · rw [e]; exact .inr ⟨rfl, by show (0 : Int) ≤ (j : Int); omega, rfl⟩
theorem first_bad {r : Reg} (h : checkE r ≠ 0) : firstR r = (0, checkE r) := by unfold firstR; rw [if_pos h]
theorem leave_bad {r : Reg} (h : checkE r ≠ 0) : leaveR r = ([], checkE r) := by unfold leaveR; rw [if_pos h]
theorem pow_bd {r : Reg} (v : Valid r) : 2 ^ (r.entries.length + r.sights.length) ≤ 1024 := pow_small (by have := v.e6; have := v.g4; omega)
theorem Has_ok (r : Reg) (v : Valid r) : PureAt Tryz.prog 13 [regD r] (.bool (goesB r 0 0 0)) := by
  refine PureAt.of_awp Tryz.func13 rfl (by kernel_rfl) (Nat.le_of_ble_eq_true rfl) fun Γ hn hl => ?_
  have hmb := manyN_valid v
  refine awp_seq ?_
  refine awp_region ?_
  refine stepW (s_box 1 rfl rfl rfl (nb hn rfl) rfl rfl) fun b1 => ?_
  refine sq rfl rfl hn rfl (q_assign rfl rfl) ?_
  refine run_nil ?_
  refine aend_then ?_
  refine awp_seq ?_
  refine awp_seq ?_
  refine awp_region ?_
  refine sq rfl rfl hn rfl (q_assign rfl rfl) ?_
  refine run_nil ?_
  refine aend_then ?_
  refine awp_block ?_
  refine awp_loop_on (ι := {n : Nat // n ≤ manyN r.entries ∧ ∀ j, j < n → isTruthB r (nthL r.entries j) = false}) (fun x => (3, true, .d (.int .i64 (x.1 : Nat))) :: anys [4, 5, 6, 7, 10, 11, 12, 13, 14, 8, 9]) (fun x => []) (fun x => manyN r.entries - x.1) ⟨0, Nat.zero_le _, fun j hj => by omega⟩ ⟨.inl rfl, holdT_anys _⟩ trivial ?_
  rintro ⟨n, hn5, hall⟩
  dsimp only
  refine awp_seq ?_
  refine awp_seq ?_
  refine awp_region ?_
  refine sq rfl rfl hn rfl (q_move rfl rfl) ?_
  refine sq rfl rfl hn rfl (q_loadAd rfl rfl (id := 1) rfl Tryz.underlying26 rfl sz26 rfl rfl sees0) ?_
  refine stepW (s_call [] (fun _ => Many_ok r v) rfl (guard_none rfl) rfl (nb hn rfl) (fun _ => trivial) rfl rfl (.refl _)) fun _ => ?_
  refine sq rfl rfl hn rfl (q_lss rfl rfl rfl) ?_
  refine run_nil ?_
  refine aend_then ?_
  refine awp_cond rfl (fun hb0 => ?_) (fun hb0 => ?_)
  · skip
    have hlt : n < manyN r.entries := by simpa using hb0
    refine awp_skip ?_
    refine aend_then ?_
    refine awp_seq ?_
    refine awp_block ?_
    refine awp_seq ?_
    refine d_start (W := fun b => b ≠ b1) fmo ?_
    refine d1q (i := 0) rfl (by kernel_rfl) (fun _ _ _ _ h => h) rfl rfl hn rfl (q_loadAd rfl rfl (id := 1) rfl Tryz.underlying26 rfl sz26 rfl rfl (seesA (by simp))) ?_
    refine d1q (i := 1) rfl (by kernel_rfl) (fun _ _ _ _ h => h) rfl rfl hn rfl (q_loadAd rfl rfl (id := 1) rfl Tryz.underlying26 rfl sz26 rfl rfl (seesA (by simp))) ?_
    refine d1q (i := 2) rfl (by kernel_rfl) (fun _ _ _ _ h => h) rfl rfl hn rfl (q_move rfl rfl) ?_
    refine d1_of_d2 ?_
    refine d2_one (i := 3) (by kernel_rfl) rfl (s_call [] (fun _ => Nth_ok r n v (by omega)) rfl (guard_none rfl) rfl (nb hn rfl) (fun _ => trivial) rfl rfl (.refl _)) fun _ => ?_
    refine d2_of_d1 ?_
    refine d1_of_d2 ?_
    refine d2_one (i := 4) (by kernel_rfl) rfl (s_call [] (fun _ => IsTruth_ok r (nthL r.entries n) v) rfl (guard_none rfl) rfl (nb hn rfl) (fun _ => trivial) rfl rfl (.refl _)) fun _ => ?_
    refine d2_of_d1 ?_
    refine d1_of_d2 ?_
    refine d2_done (by kernel_rfl) ?_
    refine aend_then ?_
    refine awp_cond rfl (fun hb1 => ?_) (fun hb1 => ?_)
    · skip
      have hyes := has_t v hb1
      refine awp_seq ?_
      refine awp_region ?_
      refine sq rfl rfl hn rfl (q_assign rfl rfl) ?_
      refine run_nil ?_
      refine aend_then ?_
      refine awp_ret ?_
      refine aend_block_ret ?_
      refine aend_then_ret ?_
      refine aend_then_ret ?_
      refine aend_block_ret ?_
      refine aend_then_ret ?_
      refine ret_eq (ret_1 (.inl rfl) hl rfl (.tmp rfl)) ?_
      rw [hyes]
    · skip
      have hbad := hb1
      refine awp_skip ?_
      refine aend_block ?_
      refine aend_then ?_
      refine awp_region ?_
      refine sq rfl rfl hn rfl (q_move rfl rfl) ?_
      refine sq rfl rfl hn rfl (q_add rfl rfl rfl (r := ((n + 1 : Nat) : Int)) (i64w (by omega) (by omega))) ?_
      refine sq rfl rfl hn rfl (q_assign rfl rfl) ?_
      refine run_nil ?_
      exact aend_round_on ⟨n + 1, by omega, fun j hj => by by_cases e : j = n; (subst e; exact hbad); exact hall j (by omega)⟩ ⟨.inl rfl, holdT_anys _⟩ trivial (by simp only; omega) (by repeat (first | exact kr _ | refine kc rfl ?_)) (by repeat (first | exact kr _ | refine kc rfl ?_))
  · skip
    have hne : n = manyN r.entries := by simp at hb0; omega
    subst hne
    refine awp_exit ?_
    refine aend_then_exit ?_
    refine aend_then_exit ?_
    refine aend_block_exit ?_
    refine aend_then ?_
    refine awp_seq ?_
    refine awp_region ?_
    refine sq rfl rfl hn rfl (q_assign rfl rfl) ?_
    refine run_nil ?_
    refine aend_then ?_
    refine awp_ret ?_
    refine ret_eq (ret_1 (.inl rfl) hl rfl (.tmp rfl)) ?_
    rw [has_f v hall]
theorem First_ok (r : Reg) (v : Valid r) : PureAt Tryz.prog 15 [regD r] (.int .i64 (refFirst (firstR r))) := by
  refine PureAt.of_awp Tryz.func15 rfl (by kernel_rfl) (Nat.le_of_ble_eq_true rfl) fun Γ hn hl => ?_
  have hv6 := v.e6
  rw [firstR_go v]
  refine awp_seq ?_
  refine awp_region ?_
  refine stepW (s_box 1 rfl rfl rfl (nb hn rfl) rfl rfl) fun b1 => ?_
  refine sq rfl rfl hn rfl (q_assign rfl rfl) ?_
  refine run_nil ?_
  refine aend_then ?_
  refine awp_seq ?_
  refine awp_region ?_
  refine sq rfl rfl hn rfl (q_fieldAddr rfl rfl Tryz.underlying26 rfl sz3) ?_
  refine sq rfl rfl hn rfl (q_load rfl rfl (id := 1) rfl Tryz.underlying3 rfl rfl sees0) ?_
  refine sq rfl rfl hn rfl (q_fieldAddr rfl rfl Tryz.underlying26 rfl sz22) ?_
  refine sq rfl rfl hn rfl (q_load rfl rfl (id := 1) rfl Tryz.underlying22 rfl rfl sees0) ?_
  refine sq rfl rfl hn rfl (q_buildd rfl bt26 rfl rfl rfl rfl rfl) ?_
  refine stepW (s_alloc 3 rfl rfl rfl (nb hn rfl) zr26 rfl rfl) fun b3 => ?_
  refine stepW (s_store rfl rfl rfl rfl rfl rfl (id := 3) rfl sz26 rfl (Nat.le_of_ble_eq_true rfl) rfl trivial) fun _ => ?_
  refine run_nil ?_
  refine aend_then ?_
  refine awp_seq ?_
  refine awp_seq ?_
  refine gh_awp (gh_emptycell (id := 3) (k := 2) 6 rfl rfl) ?_
  refine gh_awp (gh_emptycell (id := 3) (k := 3) 3 rfl rfl) ?_
  refine awp_region ?_
  refine sq rfl rfl hn rfl (q_assign rfl rfl) ?_
  refine run_nil ?_
  refine aend_then ?_
  refine awp_block ?_
  refine awp_loop_on (ι := {i : Nat // i ≤ r.entries.length ∧ firstGo r r.entries.length 0 = firstGo r (r.entries.length - i) i}) (fun x => (4, true, .d (.int .i64 (x.1 : Nat))) :: anys [10, 11, 12, 13, 14, 17, 18, 19, 20, 21, 22, 23, 24, 25, 15, 16]) (fun x => [(3, .box b3 26 [.d (.int .i64 r.houses), .d (ints r.start), .d (entsD (r.entries.take x.1)), .d (.slice 3 [])])]) (fun x => r.entries.length - x.1) ⟨0, Nat.zero_le _, rfl⟩ ⟨.inl rfl, holdT_anys _⟩ ⟨.inl rfl, trivial⟩ ?_
  rintro ⟨i, hi, hgo⟩
  dsimp only
  refine awp_seq ?_
  refine awp_seq ?_
  refine awp_region ?_
  refine sq rfl rfl hn rfl (q_move rfl rfl) ?_
  refine sq rfl rfl hn rfl (q_fieldAddr rfl rfl Tryz.underlying26 rfl sz23) ?_
  refine sq rfl rfl hn rfl (q_load rfl rfl (id := 1) rfl Tryz.underlying23 rfl rfl sees0) ?_
  refine sq rfl rfl hn rfl (q_len rfl rfl Tryz.underlying23) ?_
  refine sq rfl rfl hn rfl (q_lss rfl rfl rfl) ?_
  refine run_nil ?_
  refine aend_then ?_
  refine awp_cond rfl (fun hb0 => ?_) (fun hb0 => ?_)
  · skip
    have hlt : i < r.entries.length := by simp at hb0; omega
    refine awp_skip ?_
    refine aend_then ?_
    refine awp_seq ?_
    refine awp_block ?_
    refine awp_seq ?_
    refine awp_region ?_
    refine sq rfl rfl hn rfl (q_fieldAddr rfl rfl Tryz.underlying26 rfl sz23) ?_
    refine sq rfl rfl hn rfl (q_load rfl rfl (id := 1) rfl Tryz.underlying23 rfl rfl sees0) ?_
    refine sq rfl rfl hn rfl (q_move rfl rfl) ?_
    refine sq rfl rfl hn rfl (q_add rfl rfl rfl (r := ((i + 1 : Nat) : Int)) (i64w (by omega) (by omega))) ?_
    refine sq rfl rfl hn rfl (q_sliceH rfl rfl rfl Tryz.underlying23 sz70 rfl (by simp; omega) map_take) ?_
    refine sq rfl rfl hn rfl (q_fieldAddr rfl rfl Tryz.underlying26 rfl sz23) ?_
    refine stepW (s_store1 rfl rfl rfl rfl rfl rfl (id := 3) rfl sz23 (Nat.le_of_ble_eq_true rfl) rfl trivial) fun _ => ?_
    refine run_nil ?_
    refine aend_then ?_
    refine awp_seq ?_
    refine awp_region ?_
    refine sq rfl rfl hn rfl (q_loadAd rfl rfl (id := 3) rfl Tryz.underlying26 rfl sz26 rfl rfl sees0) ?_
    refine stepW (s_call [] (fun _ => Has_ok (prefR r (i + 1)) (valid_pref v (i + 1))) rfl (guard_none rfl) rfl (nb hn rfl) (fun _ => trivial) rfl rfl (.refl _)) fun _ => ?_
    refine sq rfl rfl hn rfl (q_not rfl rfl) ?_
    refine run_nil ?_
    refine aend_then ?_
    refine awp_cond rfl (fun hb1 => ?_) (fun hb1 => ?_)
    · skip
      have hno : goesB (prefR r (i + 1)) 0 0 0 = false := by simpa using hb1
      refine awp_seq ?_
      refine awp_region ?_
      refine sq rfl rfl hn rfl (q_move rfl rfl) ?_
      refine sq rfl rfl hn rfl (q_assign rfl rfl) ?_
      refine run_nil ?_
      refine aend_then ?_
      refine awp_ret ?_
      refine aend_block_ret ?_
      refine aend_then_ret ?_
      refine aend_then_ret ?_
      refine aend_block_ret ?_
      refine aend_then_ret ?_
      refine ret_eq (ret_1 (.inl rfl) hl rfl (.tmp rfl)) ?_
      rw [hgo, first_f' hlt hno]; rfl
    · skip
      have hyes : goesB (prefR r (i + 1)) 0 0 0 = true := by simpa using hb1
      refine awp_skip ?_
      refine aend_block ?_
      refine aend_then ?_
      refine awp_region ?_
      refine sq rfl rfl hn rfl (q_move rfl rfl) ?_
      refine sq rfl rfl hn rfl (q_add rfl rfl rfl (r := ((i + 1 : Nat) : Int)) (i64w (by omega) (by omega))) ?_
      refine sq rfl rfl hn rfl (q_assign rfl rfl) ?_
      refine run_nil ?_
      exact aend_round_on ⟨i + 1, by omega, hgo.trans (first_t' hlt hyes)⟩ ⟨.inl rfl, holdT_anys _⟩ ⟨.inl rfl, trivial⟩ (by simp only; omega) (by repeat (first | exact kr _ | refine kc rfl ?_)) (by repeat (first | exact kr _ | refine kc rfl ?_))
  · skip
    have hie : i = r.entries.length := by simp at hb0; omega
    subst hie
    rw [Nat.sub_self] at hgo
    refine awp_exit ?_
    refine aend_then_exit ?_
    refine aend_then_exit ?_
    refine aend_block_exit ?_
    refine aend_then ?_
    refine awp_seq ?_
    refine awp_region ?_
    refine sq rfl rfl hn rfl (q_assign rfl rfl) ?_
    refine run_nil ?_
    refine aend_then ?_
    refine awp_ret ?_
    refine ret_eq (ret_1 (.inl rfl) hl rfl (.tmp rfl)) ?_
    rw [hgo]; rfl
theorem Leave_ok (r : Reg) (v : Valid r) : PureAt Tryz.prog 12 [regD r] (ints (leaveR r).1) := by
  refine PureAt.of_awp Tryz.func12 rfl (by kernel_rfl) (Nat.le_of_ble_eq_true rfl) fun Γ hn hl => ?_
  have hv6 := v.e6
  have hvg := v.g4
  have hpb := pow_bd v
  have hpp := Nat.two_pow_pos (r.entries.length + r.sights.length)
  obtain ⟨A, hA⟩ : ∃ A, allB r = A := ⟨_, rfl⟩
  have hA2 : A + 1 = 2 ^ (r.entries.length + r.sights.length) := by rw [← hA]; unfold allB; omega
  refine awp_seq ?_
  refine awp_region ?_
  refine stepW (s_box 1 rfl rfl rfl (nb hn rfl) rfl rfl) fun b1 => ?_
  refine sq rfl rfl hn rfl (q_assign rfl rfl) ?_
  refine run_nil ?_
  refine aend_then ?_
  refine awp_seq ?_
  refine awp_region ?_
  refine sq rfl rfl hn rfl (q_fieldAddr rfl rfl Tryz.underlying26 rfl sz23) ?_
  refine sq rfl rfl hn rfl (q_load rfl rfl (id := 1) rfl Tryz.underlying23 rfl rfl sees0) ?_
  refine sq rfl rfl hn rfl (q_len rfl rfl Tryz.underlying23) ?_
  refine sq rfl rfl hn rfl (q_fieldAddr rfl rfl Tryz.underlying26 rfl sz24) ?_
  refine sq rfl rfl hn rfl (q_load rfl rfl (id := 1) rfl Tryz.underlying24 rfl rfl sees0) ?_
  refine sq rfl rfl hn rfl (q_len rfl rfl Tryz.underlying24) ?_
  refine sq rfl rfl hn rfl (q_add rfl rfl rfl (r := ((r.entries.length + r.sights.length : Nat) : Int)) (i64w (by simp only [List.length_map]; omega) (by simp only [List.length_map]; omega))) ?_
  refine sq rfl rfl hn rfl (q_conv rfl rfl Tryz.underlying3 Tryz.underlying58 (r := ((r.entries.length + r.sights.length : Nat) : Int)) (u64w (by omega) rfl)) ?_
  refine sq rfl rfl hn rfl (q_shl rfl rfl rfl (by omega) (by show _ ≤ (64 : Int); omega) (shl_i64 (by omega))) ?_
  refine sq rfl rfl hn rfl (q_sub rfl rfl rfl (r := ((A : Nat) : Int)) (i64w (by omega) (by rw [← hA2]; omega))) ?_
  refine sq rfl rfl hn rfl (q_assign rfl rfl) ?_
  refine run_nil ?_
  refine aend_then ?_
  refine awp_seq ?_
  refine awp_region ?_
  refine sq rfl rfl hn rfl (q_loadAd rfl rfl (id := 1) rfl Tryz.underlying26 rfl sz26 rfl rfl sees0) ?_
  refine sq rfl rfl hn rfl (q_move rfl rfl) ?_
  refine stepW (s_call [] (fun _ => Without_ok r A (by omega) (by omega) (by omega)) rfl (guard_none rfl) rfl (nb hn rfl) (fun _ => trivial) rfl rfl (.refl _)) fun _ => ?_
  refine sq rfl rfl hn rfl (q_move rfl rfl) ?_
  refine sq rfl rfl hn rfl (q_extractd rfl rfl rfl) ?_
  refine sq rfl rfl hn rfl (q_extractd rfl rfl rfl) ?_
  refine stepW (s_alloc 4 rfl rfl rfl (nb hn rfl) zr26 rfl rfl) fun b4 => ?_
  refine stepW (s_store rfl rfl rfl rfl rfl rfl (id := 4) rfl sz26 rfl (Nat.le_of_ble_eq_true rfl) rfl trivial) fun _ => ?_
  refine sq rfl rfl hn rfl (q_assign rfl rfl) ?_
  refine run_nil ?_
  refine aend_then ?_
  refine awp_seq ?_
  refine awp_seq ?_
  have hI0 := leaveI_start r
  rw [hA] at hI0
  refine awp_region ?_
  refine sq rfl rfl hn rfl (q_assign rfl rfl) ?_
  refine run_nil ?_
  refine aend_then ?_
  refine awp_block ?_
  refine awp_loop_on (ι := {x : Nat × List Int // x.1 ≤ A ∧ LeaveI r x.1 x.2}) (fun x => (6, true, .d (.int .i64 (x.1.1 : Nat))) :: (5, true, .d (ints x.1.2)) :: anys [25, 26, 27, 31, 32, 33, 30, 34, 35, 7, 8, 36, 37, 38, 39, 40, 41, 42, 43, 28, 29]) (fun x => gones [7]) (fun x => A - x.1.1) ⟨(0, outB r A), Nat.zero_le _, hI0⟩ ⟨.inl rfl, .inl rfl, holdT_anys _⟩ (holdR_gones _) ?_
  rintro ⟨⟨i, l⟩, hi, hI⟩
  dsimp only
  dsimp only at hi hI
  refine awp_seq ?_
  refine awp_seq ?_
  refine awp_region ?_
  refine sq rfl rfl hn rfl (q_move rfl rfl) ?_
  refine sq rfl rfl hn rfl (q_move rfl rfl) ?_
  refine sq rfl rfl hn rfl (q_lss rfl rfl rfl) ?_
  refine run_nil ?_
  refine aend_then ?_
  refine awp_cond rfl (fun hb0 => ?_) (fun hb0 => ?_)
  · skip
    have hlt : i < A := by simpa using hb0
    refine awp_skip ?_
    refine aend_then ?_
    refine awp_seq ?_
    refine awp_block ?_
    refine awp_seq ?_
    refine awp_region ?_
    refine sq rfl rfl hn rfl (q_loadAd rfl rfl (id := 1) rfl Tryz.underlying26 rfl sz26 rfl rfl sees0) ?_
    refine sq rfl rfl hn rfl (q_move rfl rfl) ?_
    refine stepW (s_call [] (fun _ => Without_ok r i (by omega) (by omega) (by omega)) rfl (guard_none rfl) rfl (nb hn rfl) (fun _ => trivial) rfl rfl (.refl _)) fun _ => ?_
    refine sq rfl rfl hn rfl (q_move rfl rfl) ?_
    refine sq rfl rfl hn rfl (q_extractd rfl rfl rfl) ?_
    refine sq rfl rfl hn rfl (q_extractd rfl rfl rfl) ?_
    refine stepW (s_alloc 7 rfl rfl rfl (nb hn rfl) zr26 rfl rfl) fun b7 => ?_
    refine stepW (s_store rfl rfl rfl rfl rfl rfl (id := 7) rfl sz26 rfl (Nat.le_of_ble_eq_true rfl) rfl trivial) fun _ => ?_
    refine sq rfl rfl hn rfl (q_assign rfl rfl) ?_
    refine run_nil ?_
    refine aend_then ?_
    refine awp_seq ?_
    refine awp_region ?_
    refine sq rfl rfl hn rfl (q_move rfl rfl) ?_
    refine sq rfl rfl hn rfl (q_move rfl rfl) ?_
    refine stepW (s_call [] (fun _ => Shorter_ok (outB r i) l) rfl (guard_none rfl) rfl (nb hn rfl) (fun _ => trivial) rfl rfl (.refl _)) fun _ => ?_
    refine sq rfl rfl hn rfl (q_move rfl rfl) ?_
    refine stepG [] (guard_some rfl rfl rfl) rfl (nb hn rfl) (fun hc => trivial) (fun hc => q_loadAd rfl rfl (id := 7) rfl Tryz.underlying26 rfl sz26 rfl rfl sees0) ?_
    refine stepW (s_call [(40, _)] (fun hc => Has_ok (withoutR r i) (valid_without v i)) rfl (guard_some rfl rfl rfl) rfl (nb hn rfl) (fun hc => ⟨⟨_, rfl, hc⟩, trivial⟩) rfl rfl (.refl _)) fun _ => ?_
    refine sq rfl rfl hn rfl (q_and rfl rfl rfl (by intro hB; first | (rw [hB]; rfl) | (rw [hB, hc]; rfl) | simp_all)) ?_
    refine run_nil ?_
    refine aend_then ?_
    refine awp_cond rfl (fun hb1 => ?_) (fun hb1 => ?_)
    · skip
      have hyes := hb1
      refine awp_region ?_
      refine sq rfl rfl hn rfl (q_move rfl rfl) ?_
      refine sq rfl rfl hn rfl (q_assign rfl rfl) ?_
      refine run_nil ?_
      refine aend_block ?_
      refine aend_then ?_
      refine awp_region ?_
      refine sq rfl rfl hn rfl (q_move rfl rfl) ?_
      refine sq rfl rfl hn rfl (q_add rfl rfl rfl (r := ((i + 1 : Nat) : Int)) (i64w (by omega) (by omega))) ?_
      refine sq rfl rfl hn rfl (q_assign rfl rfl) ?_
      refine run_nil ?_
      exact aend_round_on ⟨(i + 1, outB r i), by simp only; omega, leaveI_t hI hyes⟩ ⟨.inl rfl, .inl rfl, holdT_anys _⟩ (holdR_gones _) (by simp only; omega) (by repeat (first | exact kr _ | refine kc rfl ?_)) (by repeat (first | exact kr _ | refine kc rfl ?_))
    · skip
      have hyes := hb1
      refine awp_skip ?_
      refine aend_block ?_
      refine aend_then ?_
      refine awp_region ?_
      refine sq rfl rfl hn rfl (q_move rfl rfl) ?_
      refine sq rfl rfl hn rfl (q_add rfl rfl rfl (r := ((i + 1 : Nat) : Int)) (i64w (by omega) (by omega))) ?_
      refine sq rfl rfl hn rfl (q_assign rfl rfl) ?_
      refine run_nil ?_
      exact aend_round_on ⟨(i + 1, l), by simp only; omega, leaveI_f hI hyes⟩ ⟨.inl rfl, .inl rfl, holdT_anys _⟩ (holdR_gones _) (by simp only; omega) (by repeat (first | exact kr _ | refine kc rfl ?_)) (by repeat (first | exact kr _ | refine kc rfl ?_))
  · skip
    have hie : i = A := by simp at hb0; omega
    subst hie
    refine awp_exit ?_
    refine aend_then_exit ?_
    refine aend_then_exit ?_
    refine aend_block_exit ?_
    refine aend_then ?_
    refine awp_seq ?_
    refine awp_region ?_
    refine sq rfl rfl hn rfl (q_move rfl rfl) ?_
    refine sq rfl rfl hn rfl (q_assign rfl rfl) ?_
    refine run_nil ?_
    refine aend_then ?_
    refine awp_ret ?_
    refine ret_eq (ret_1 (.inl rfl) hl rfl (.tmp rfl)) ?_
    rw [leaveI_end v (l := l) (by rw [hA]; exact hI)]
theorem SheetLeaves_eff (r : Reg) : EffAt Tryz.prog 3 [.d (regD r)] [] (X := Unit) (fun _ => .d (.bool true)) (fun _ => []) := by
  refine EffAt.of_awp Tryz.func3 rfl (by kernel_rfl) rfl fun Γ hn => ?_
  refine awp_seq ?_
  refine awp_region ?_
  refine stepW (s_box 1 rfl rfl rfl (nb hn rfl) rfl rfl) fun b1 => ?_
  refine sq rfl rfl hn rfl (q_assign rfl rfl) ?_
  refine run_nil ?_
  refine aend_then ?_
  refine awp_seq ?_
  refine awp_seq ?_
  refine awp_region ?_
  refine sq rfl rfl hn rfl (q_loadAd rfl rfl (id := 1) rfl Tryz.underlying26 rfl sz26 rfl rfl sees0) ?_
  refine stepW (s_call [] (fun _ => few_ok r 100) rfl (guard_none rfl) rfl (nb hn rfl) (fun _ => trivial) rfl rfl (.refl _)) fun _ => ?_
  refine sq rfl rfl hn rfl (q_not rfl rfl) ?_
  refine sq rfl rfl hn rfl (q_move rfl rfl) ?_
  refine stepG [] (guard_some rfl rfl rfl) rfl (nb hn rfl) (fun hc => trivial) (fun hc => q_loadAd rfl rfl (id := 1) rfl Tryz.underlying26 rfl sz26 rfl rfl sees0) ?_
  refine stepW (s_call [(15, _)] (fun hc => fault_ok r) rfl (guard_some rfl rfl rfl) rfl (nb hn rfl) (fun hc => ⟨⟨_, rfl, hc⟩, trivial⟩) rfl rfl (.refl _)) fun _ => ?_
  refine stepG [(16, _)] (guard_some rfl rfl rfl) rfl (nb hn rfl) (fun hc => ⟨⟨_, rfl, hc⟩, trivial⟩) (fun hc => q_eql rfl rfl rfl) ?_
  refine stepG [(17, _)] (guard_some rfl rfl rfl) rfl (nb hn rfl) (fun hc => ⟨⟨_, rfl, hc⟩, trivial⟩) (fun hc => q_move rfl rfl) ?_
  refine stepG [] (guard_some rfl rfl rfl) rfl (nb hn rfl) (fun hc => trivial) (fun hc => q_fieldAddr rfl rfl Tryz.underlying26 rfl sz23) ?_
  refine stepG [(19, _)] (guard_some rfl rfl rfl) rfl (nb hn rfl) (fun hc => ⟨⟨_, rfl, hc⟩, trivial⟩) (fun hc => q_load rfl rfl (id := 1) rfl Tryz.underlying23 rfl rfl sees0) ?_
  refine stepG [(20, _)] (guard_some rfl rfl rfl) rfl (nb hn rfl) (fun hc => ⟨⟨_, rfl, hc⟩, trivial⟩) (fun hc => q_len rfl rfl Tryz.underlying23) ?_
  refine stepG [] (guard_some rfl rfl rfl) rfl (nb hn rfl) (fun hc => trivial) (fun hc => q_fieldAddr rfl rfl Tryz.underlying26 rfl sz24) ?_
  refine stepG [(22, _)] (guard_some rfl rfl rfl) rfl (nb hn rfl) (fun hc => ⟨⟨_, rfl, hc⟩, trivial⟩) (fun hc => q_load rfl rfl (id := 1) rfl Tryz.underlying24 rfl rfl sees0) ?_
  refine stepG [(23, _)] (guard_some rfl rfl rfl) rfl (nb hn rfl) (fun hc => ⟨⟨_, rfl, hc⟩, trivial⟩) (fun hc => q_len rfl rfl Tryz.underlying24) ?_
  refine stepG [(21, _), (24, _)] (guard_some rfl rfl rfl) rfl (nb hn rfl) (fun hc => ⟨⟨_, rfl, hc⟩, ⟨_, rfl, hc⟩, trivial⟩) (fun hc => q_add rfl rfl rfl (r := ((r.entries.length : Nat) : Int) + ((r.sights.length : Nat) : Int)) (i64w (by have h5 := hc; simp at h5; have h6 := thin_bd h5.1.1; simp only [List.length_map]; omega) (by simp only [List.length_map]))) ?_
  refine stepG [(25, _)] (guard_some rfl rfl rfl) rfl (nb hn rfl) (fun hc => ⟨⟨_, rfl, hc⟩, trivial⟩) (fun hc => q_gtr rfl rfl rfl) ?_
  refine stepG [(18, _)] (guard_some rfl rfl rfl) rfl (nb hn rfl) (fun hc => ⟨⟨_, rfl, hc⟩, trivial⟩) (fun hc => q_and rfl rfl rfl (by intro hB; first | (rw [hB]; rfl) | (rw [hB, hc]; rfl) | simp_all)) ?_
  refine sq rfl rfl hn rfl (q_or rfl rfl rfl (by intro hB; first | (rw [hB]; rfl) | (rw [hB, hc]; rfl) | simp_all)) ?_
  refine run_nil ?_
  refine aend_then ?_
  refine awp_cond rfl (fun hb0 => ?_) (fun hb0 => ?_)
  · skip
    refine awp_seq ?_
    refine awp_region ?_
    refine stepW (s_call [] (fun _ => awake_ok) rfl (guard_none rfl) rfl (nb hn rfl) (fun _ => trivial) rfl rfl (.refl _)) fun _ => ?_
    refine sq rfl rfl hn rfl (q_assign rfl rfl) ?_
    refine run_nil ?_
    refine aend_then ?_
    refine awp_ret ?_
    refine aend_then_ret ?_
    exact ret_E (.inl rfl) () (hands_1 rfl (.tmp rfl)) trivial
  · skip
    obtain ⟨hfew, h7⟩ := leaves_f (by omega) hb0
    refine awp_skip ?_
    refine aend_then ?_
    refine awp_seq ?_
    refine awp_region ?_
    refine sq rfl rfl hn rfl (q_loadAd rfl rfl (id := 1) rfl Tryz.underlying26 rfl sz26 rfl rfl sees0) ?_
    refine stepW (s_call [] (fun _ => Register_ok r (by omega) (by omega) (by omega)) rfl (guard_none rfl) rfl (nb hn rfl) (fun _ => trivial) rfl rfl (.refl _)) fun _ => ?_
    refine stepW (s_callE (explain_ok r) rfl rfl rfl (nb hn rfl) (.d rfl) rfl (.refl _) trivial (fun _ => rfl) (fun _ _ => trivial)) fun x1 => ?_
    refine sq rfl rfl hn rfl (q_move rfl rfl) ?_
    refine sq rfl rfl hn rfl (q_extractd rfl rfl rfl) ?_
    refine sq rfl rfl hn rfl (q_extractd rfl rfl rfl) ?_
    refine sq rfl rfl hn rfl (q_assign rfl rfl) ?_
    refine sq rfl rfl hn rfl (q_assign rfl rfl) ?_
    refine run_nil ?_
    refine aend_then ?_
    refine awp_seq ?_
    refine awp_region ?_
    refine sq rfl rfl hn rfl (q_loadAd rfl rfl (id := 1) rfl Tryz.underlying26 rfl sz26 rfl rfl sees0) ?_
    refine stepW (s_call [] (fun _ => Register_ok r (by omega) (by omega) (by omega)) rfl (guard_none rfl) rfl (nb hn rfl) (fun _ => trivial) rfl rfl (.refl _)) fun _ => ?_
    refine stepW (s_call [] (fun _ => first_ok r) rfl (guard_none rfl) rfl (nb hn rfl) (fun _ => trivial) rfl rfl (.refl _)) fun _ => ?_
    refine sq rfl rfl hn rfl (q_move rfl rfl) ?_
    refine sq rfl rfl hn rfl (q_extractd rfl rfl rfl) ?_
    refine sq rfl rfl hn rfl (q_extractd rfl rfl rfl) ?_
    refine sq rfl rfl hn rfl (q_assign rfl rfl) ?_
    refine sq rfl rfl hn rfl (q_assign rfl rfl) ?_
    refine run_nil ?_
    refine aend_then ?_
    refine awp_seq ?_
    refine awp_region ?_
    refine sq rfl rfl hn rfl (q_loadAd rfl rfl (id := 1) rfl Tryz.underlying26 rfl sz26 rfl rfl sees0) ?_
    refine stepW (s_call [] (fun _ => Register_ok r (by omega) (by omega) (by omega)) rfl (guard_none rfl) rfl (nb hn rfl) (fun _ => trivial) rfl rfl (.refl _)) fun _ => ?_
    refine stepW (s_call [] (fun _ => leave_ok r) rfl (guard_none rfl) rfl (nb hn rfl) (fun _ => trivial) rfl rfl (.refl _)) fun _ => ?_
    refine sq rfl rfl hn rfl (q_move rfl rfl) ?_
    refine sq rfl rfl hn rfl (q_extractd rfl rfl rfl) ?_
    refine sq rfl rfl hn rfl (q_extractd rfl rfl rfl) ?_
    refine sq rfl rfl hn rfl (q_assign rfl rfl) ?_
    refine sq rfl rfl hn rfl (q_assign rfl rfl) ?_
    refine run_nil ?_
    refine aend_then ?_
    refine awp_seq ?_
    refine awp_seq ?_
    refine awp_region ?_
    refine sq rfl rfl hn rfl (q_loadAd rfl rfl (id := 1) rfl Tryz.underlying26 rfl sz26 rfl rfl sees0) ?_
    refine stepW (s_call [] (fun _ => fault_ok r) rfl (guard_none rfl) rfl (nb hn rfl) (fun _ => trivial) rfl rfl (.refl _)) fun _ => ?_
    refine sq rfl rfl hn rfl (q_assign rfl rfl) ?_
    refine run_nil ?_
    refine aend_then ?_
    refine awp_seq ?_
    refine awp_region ?_
    refine sq rfl rfl hn rfl (q_move rfl rfl) ?_
    refine sq rfl rfl hn rfl (q_neq rfl rfl rfl) ?_
    refine run_nil ?_
    refine aend_then ?_
    refine awp_cond rfl (fun hb1 => ?_) (fun hb1 => ?_)
    · skip
      have hbad : checkE r ≠ 0 := by simpa using hb1
      have e1 := expl_bad hbad x1
      have e2 := first_bad hbad
      have e3 := leave_bad hbad
      rw [e1, e2, e3]
      refine awp_seq ?_
      refine awp_region ?_
      refine sq rfl rfl hn rfl (q_move rfl rfl) ?_
      refine sq rfl rfl hn rfl (q_move rfl rfl) ?_
      refine sq rfl rfl hn rfl (q_eql rfl rfl rfl) ?_
      refine sq rfl rfl hn rfl (q_move rfl rfl) ?_
      refine stepG [] (guard_some rfl rfl rfl) rfl (nb hn rfl) (fun hc => trivial) (fun hc => q_move rfl rfl) ?_
      refine stepG [] (guard_some rfl rfl rfl) rfl (nb hn rfl) (fun hc => trivial) (fun hc => q_move rfl rfl) ?_
      refine stepG [(56, _), (57, _)] (guard_some rfl rfl rfl) rfl (nb hn rfl) (fun hc => ⟨⟨_, rfl, hc⟩, ⟨_, rfl, hc⟩, trivial⟩) (fun hc => q_eql rfl rfl rfl) ?_
      refine sq rfl rfl hn rfl (q_and rfl rfl rfl (by intro hB; first | (rw [hB]; rfl) | (rw [hB, hc]; rfl) | simp_all)) ?_
      refine sq rfl rfl hn rfl (q_move rfl rfl) ?_
      refine stepG [] (guard_some rfl rfl rfl) rfl (nb hn rfl) (fun hc => trivial) (fun hc => q_move rfl rfl) ?_
      refine stepG [] (guard_some rfl rfl rfl) rfl (nb hn rfl) (fun hc => trivial) (fun hc => q_move rfl rfl) ?_
      refine stepG [(61, _), (62, _)] (guard_some rfl rfl rfl) rfl (nb hn rfl) (fun hc => ⟨⟨_, rfl, hc⟩, ⟨_, rfl, hc⟩, trivial⟩) (fun hc => q_eql rfl rfl rfl) ?_
      refine sq rfl rfl hn rfl (q_and rfl rfl rfl (by intro hB; first | (rw [hB]; rfl) | (rw [hB, hc]; rfl) | simp_all)) ?_
      refine sq rfl rfl hn rfl (q_move rfl rfl) ?_
      refine stepG [] (guard_some rfl rfl rfl) rfl (nb hn rfl) (fun hc => trivial) (fun hc => q_move rfl rfl) ?_
      refine stepG [(66, _)] (guard_some rfl rfl rfl) rfl (nb hn rfl) (fun hc => ⟨⟨_, rfl, hc⟩, trivial⟩) (fun hc => q_len rfl rfl Tryz.underlying22) ?_
      refine stepG [] (guard_some rfl rfl rfl) rfl (nb hn rfl) (fun hc => trivial) (fun hc => q_move rfl rfl) ?_
      refine stepG [(68, _)] (guard_some rfl rfl rfl) rfl (nb hn rfl) (fun hc => ⟨⟨_, rfl, hc⟩, trivial⟩) (fun hc => q_len rfl rfl Tryz.underlying22) ?_
      refine stepG [(67, _), (69, _)] (guard_some rfl rfl rfl) rfl (nb hn rfl) (fun hc => ⟨⟨_, rfl, hc⟩, ⟨_, rfl, hc⟩, trivial⟩) (fun hc => q_add rfl rfl rfl (r := (0 : Int)) (i64w (by simp) (by simp))) ?_
      refine stepG [(70, _)] (guard_some rfl rfl rfl) rfl (nb hn rfl) (fun hc => ⟨⟨_, rfl, hc⟩, trivial⟩) (fun hc => q_eql rfl rfl rfl) ?_
      refine sq rfl rfl hn rfl (q_and rfl rfl rfl (by intro hB; first | (rw [hB]; rfl) | (rw [hB, hc]; rfl) | simp_all)) ?_
      refine sq rfl rfl hn rfl (q_move rfl rfl) ?_
      refine stepG [] (guard_some rfl rfl rfl) rfl (nb hn rfl) (fun hc => trivial) (fun hc => q_move rfl rfl) ?_
      refine stepG [(74, _)] (guard_some rfl rfl rfl) rfl (nb hn rfl) (fun hc => ⟨⟨_, rfl, hc⟩, trivial⟩) (fun hc => q_eql rfl rfl rfl) ?_
      refine sq rfl rfl hn rfl (q_and rfl rfl rfl (by intro hB; first | (rw [hB]; rfl) | (rw [hB, hc]; rfl) | simp_all)) ?_
      refine sq rfl rfl hn rfl (q_move rfl rfl) ?_
      refine stepW (s_call [] (fun hc => awake_ok) rfl (guard_some rfl rfl rfl) rfl (nb hn rfl) (fun hc => trivial) rfl rfl (.refl _)) fun _ => ?_
      refine sq rfl rfl hn rfl (q_and rfl rfl rfl (by intro hB; first | (rw [hB]; rfl) | (rw [hB, hc]; rfl) | simp_all)) ?_
      refine sq rfl rfl hn rfl (q_assign rfl rfl) ?_
      refine run_nil ?_
      refine aend_then ?_
      refine awp_ret ?_
      refine aend_then_ret ?_
      exact ret_E (.inl rfl) () ((hands_1 rfl (.tmp rfl)).eq (by simp)) trivial
    · skip
      have hok : checkE r = 0 := by simpa using hb1
      have v := valid_of hok
      have e3 := (leave_law v).1
      have e1 := expl_res v x1
      have e2 := first_res v
      refine awp_skip ?_
      refine aend_then ?_
      refine awp_seq ?_
      refine awp_seq ?_
      refine awp_region ?_
      refine sq rfl rfl hn rfl (q_move rfl rfl) ?_
      refine sq rfl rfl hn rfl (q_neq rfl rfl rfl) ?_
      refine sq rfl rfl hn rfl (q_move rfl rfl) ?_
      refine stepG [] (guard_some rfl rfl rfl) rfl (nb hn rfl) (fun hc => trivial) (fun hc => q_move rfl rfl) ?_
      refine stepG [] (guard_some rfl rfl rfl) rfl (nb hn rfl) (fun hc => trivial) (fun hc => q_loadAd rfl rfl (id := 1) rfl Tryz.underlying26 rfl sz26 rfl rfl sees0) ?_
      refine stepW (s_call [(84, _)] (fun hc => Leave_ok r v) rfl (guard_some rfl rfl rfl) rfl (nb hn rfl) (fun hc => ⟨⟨_, rfl, hc⟩, trivial⟩) rfl rfl (.refl _)) fun _ => ?_
      refine stepW (s_call [(83, _), (85, _)] (fun hc => Same_ok (leaveR r).1 (leaveR r).1) rfl (guard_some rfl rfl rfl) rfl (nb hn rfl) (fun hc => ⟨⟨_, rfl, hc⟩, ⟨_, rfl, hc⟩, trivial⟩) rfl rfl (.refl _)) fun _ => ?_
      refine stepG [(86, _)] (guard_some rfl rfl rfl) rfl (nb hn rfl) (fun hc => ⟨⟨_, rfl, hc⟩, trivial⟩) (fun hc => q_not rfl rfl) ?_
      refine sq rfl rfl hn rfl (q_or rfl rfl rfl (by intro hB; first | (rw [hB]; rfl) | (rw [hB, hc]; rfl) | simp_all)) ?_
      refine run_nil ?_
      refine aend_then ?_
      refine awp_cond rfl (fun hb2 => ?_) (fun hb2 => ?_)
      · skip
        exfalso; simp [e3, sameB_self] at hb2
      · skip
        refine awp_skip ?_
        refine aend_then ?_
        refine awp_seq ?_
        refine awp_seq ?_
        refine awp_region ?_
        refine sq rfl rfl hn rfl (q_loadAd rfl rfl (id := 1) rfl Tryz.underlying26 rfl sz26 rfl rfl sees0) ?_
        refine stepW (s_call [] (fun _ => Has_ok r v) rfl (guard_none rfl) rfl (nb hn rfl) (fun _ => trivial) rfl rfl (.refl _)) fun _ => ?_
        refine sq rfl rfl hn rfl (q_not rfl rfl) ?_
        refine run_nil ?_
        refine aend_then ?_
        refine awp_join_on (e := .normal) (ι := Unit) (fun x => anys [92, 93, 94, 95, 96, 97, 98, 99, 100, 101, 102, 103, 104, 105, 106]) (fun x => []) (fun hJ3 => ?_) ?_
        · skip
          refine awp_cond rfl (fun hb3 => ?_) (fun hb3 => ?_)
          · skip
            have e4 := e1.resolve_left fun k => by simp [k.1] at hb3
            refine awp_seq ?_
            refine awp_region ?_
            refine sq rfl rfl hn rfl (q_move rfl rfl) ?_
            refine sq rfl rfl hn rfl (q_neq rfl rfl rfl) ?_
            refine sq rfl rfl hn rfl (q_move rfl rfl) ?_
            refine stepG [] (guard_some rfl rfl rfl) rfl (nb hn rfl) (fun hc => trivial) (fun hc => q_move rfl rfl) ?_
            refine stepG [(95, _)] (guard_some rfl rfl rfl) rfl (nb hn rfl) (fun hc => ⟨⟨_, rfl, hc⟩, trivial⟩) (fun hc => q_len rfl rfl Tryz.underlying22) ?_
            refine stepG [(96, _)] (guard_some rfl rfl rfl) rfl (nb hn rfl) (fun hc => ⟨⟨_, rfl, hc⟩, trivial⟩) (fun hc => q_gtr rfl rfl rfl) ?_
            refine sq rfl rfl hn rfl (q_or rfl rfl rfl (by intro hB; first | (rw [hB]; rfl) | (rw [hB, hc]; rfl) | simp_all)) ?_
            refine run_nil ?_
            refine aend_then ?_
            refine awp_cond rfl (fun hb4 => ?_) (fun hb4 => ?_)
            · skip
              exfalso; simp [e4] at hb4
            · skip
              refine awp_skip ?_
              exact aend_join_on hJ3 () (holdT_anys _) trivial (by repeat (first | exact kr _ | refine kc rfl ?_)) (by repeat (first | exact kr _ | refine kc rfl ?_))
          · skip
            have e4 := e1.resolve_right fun k => by simp [k.1] at hb3
            refine awp_seq ?_
            refine awp_region ?_
            refine sq rfl rfl hn rfl (q_move rfl rfl) ?_
            refine sq rfl rfl hn rfl (q_neq rfl rfl rfl) ?_
            refine sq rfl rfl hn rfl (q_move rfl rfl) ?_
            refine stepG [] (guard_some rfl rfl rfl) rfl (nb hn rfl) (fun hc => trivial) (fun hc => q_loadAd rfl rfl (id := 1) rfl Tryz.underlying26 rfl sz26 rfl rfl sees0) ?_
            refine stepG [] (guard_some rfl rfl rfl) rfl (nb hn rfl) (fun hc => trivial) (fun hc => q_move rfl rfl) ?_
            refine stepW (s_call [(102, _), (103, _)] (fun hc => IsTruth_ok r x1.1.1 v) rfl (guard_some rfl rfl rfl) rfl (nb hn rfl) (fun hc => ⟨⟨_, rfl, hc⟩, ⟨_, rfl, hc⟩, trivial⟩) rfl rfl (.refl _)) fun _ => ?_
            refine stepG [(104, _)] (guard_some rfl rfl rfl) rfl (nb hn rfl) (fun hc => ⟨⟨_, rfl, hc⟩, trivial⟩) (fun hc => q_not rfl rfl) ?_
            refine sq rfl rfl hn rfl (q_or rfl rfl rfl (by intro hB; first | (rw [hB]; rfl) | (rw [hB, hc]; rfl) | simp_all)) ?_
            refine run_nil ?_
            refine aend_then ?_
            refine awp_cond rfl (fun hb5 => ?_) (fun hb5 => ?_)
            · skip
              exfalso; simp [e4] at hb5
            · skip
              refine awp_skip ?_
              exact aend_join_on hJ3 () (holdT_anys _) trivial (by repeat (first | exact kr _ | refine kc rfl ?_)) (by repeat (first | exact kr _ | refine kc rfl ?_))
        · rintro _
          refine aend_then ?_
          refine awp_seq ?_
          refine awp_region ?_
          refine sq rfl rfl hn rfl (q_loadAd rfl rfl (id := 1) rfl Tryz.underlying26 rfl sz26 rfl rfl sees0) ?_
          refine stepW (s_call [] (fun _ => First_ok r v) rfl (guard_none rfl) rfl (nb hn rfl) (fun _ => trivial) rfl rfl (.refl _)) fun _ => ?_
          refine sq rfl rfl hn rfl (q_assign rfl rfl) ?_
          refine run_nil ?_
          refine aend_then ?_
          refine awp_seq ?_
          refine awp_seq ?_
          refine awp_region ?_
          refine sq rfl rfl hn rfl (q_move rfl rfl) ?_
          refine sq rfl rfl hn rfl (q_lss rfl rfl rfl) ?_
          refine run_nil ?_
          refine aend_then ?_
          refine awp_cond rfl (fun hb6 => ?_) (fun hb6 => ?_)
          · skip
            have e5 := e2.resolve_right fun k => by simp at hb6; omega
            refine awp_seq ?_
            refine awp_region ?_
            refine sq rfl rfl hn rfl (q_move rfl rfl) ?_
            refine sq rfl rfl hn rfl (q_eql rfl rfl rfl) ?_
            refine sq rfl rfl hn rfl (q_move rfl rfl) ?_
            refine stepG [] (guard_some rfl rfl rfl) rfl (nb hn rfl) (fun hc => trivial) (fun hc => q_move rfl rfl) ?_
            refine stepG [(114, _)] (guard_some rfl rfl rfl) rfl (nb hn rfl) (fun hc => ⟨⟨_, rfl, hc⟩, trivial⟩) (fun hc => q_eql rfl rfl rfl) ?_
            refine sq rfl rfl hn rfl (q_and rfl rfl rfl (by intro hB; first | (rw [hB]; rfl) | (rw [hB, hc]; rfl) | simp_all)) ?_
            refine sq rfl rfl hn rfl (q_move rfl rfl) ?_
            refine stepW (s_call [] (fun hc => awake_ok) rfl (guard_some rfl rfl rfl) rfl (nb hn rfl) (fun hc => trivial) rfl rfl (.refl _)) fun _ => ?_
            refine sq rfl rfl hn rfl (q_and rfl rfl rfl (by intro hB; first | (rw [hB]; rfl) | (rw [hB, hc]; rfl) | simp_all)) ?_
            refine sq rfl rfl hn rfl (q_assign rfl rfl) ?_
            refine run_nil ?_
            refine aend_then ?_
            refine awp_ret ?_
            refine aend_then_ret ?_
            exact ret_E (.inl rfl) () ((hands_1 rfl (.tmp rfl)).eq (by simp [e5])) trivial
          · skip
            have e5 := e2.resolve_left fun k => by simp at hb6; omega
            refine awp_skip ?_
            refine aend_then ?_
            refine awp_seq ?_
            refine awp_region ?_
            refine sq rfl rfl hn rfl (q_move rfl rfl) ?_
            refine sq rfl rfl hn rfl (q_eql rfl rfl rfl) ?_
            refine sq rfl rfl hn rfl (q_move rfl rfl) ?_
            refine stepG [] (guard_some rfl rfl rfl) rfl (nb hn rfl) (fun hc => trivial) (fun hc => q_move rfl rfl) ?_
            refine stepG [] (guard_some rfl rfl rfl) rfl (nb hn rfl) (fun hc => trivial) (fun hc => q_move rfl rfl) ?_
            refine stepG [(123, _), (124, _)] (guard_some rfl rfl rfl) rfl (nb hn rfl) (fun hc => ⟨⟨_, rfl, hc⟩, ⟨_, rfl, hc⟩, trivial⟩) (fun hc => q_eql rfl rfl rfl) ?_
            refine sq rfl rfl hn rfl (q_and rfl rfl rfl (by intro hB; first | (rw [hB]; rfl) | (rw [hB, hc]; rfl) | simp_all)) ?_
            refine sq rfl rfl hn rfl (q_move rfl rfl) ?_
            refine stepW (s_call [] (fun hc => awake_ok) rfl (guard_some rfl rfl rfl) rfl (nb hn rfl) (fun hc => trivial) rfl rfl (.refl _)) fun _ => ?_
            refine sq rfl rfl hn rfl (q_and rfl rfl rfl (by intro hB; first | (rw [hB]; rfl) | (rw [hB, hc]; rfl) | simp_all)) ?_
            refine sq rfl rfl hn rfl (q_assign rfl rfl) ?_
            refine run_nil ?_
            refine aend_then ?_
            refine awp_ret ?_
            exact ret_E (.inl rfl) () ((hands_1 rfl (.tmp rfl)).eq (by simp [e5])) trivial
end Go.Proofs.YtnbmmopjkkofoaaGreat
namespace Go.Proofs.YtnbmmopjkkofoaaGreat
open Go.ChangeShapes Go.WideShapes Go.ChangeAt Go.RowKit
set_option linter.all false
theorem SheetLeaves_pure (xs : List D) (h : Sat [SReg] xs) : PureAt Tryz.prog 3 xs (.bool true) := by
  obtain ⟨_, _, rfl, ⟨a1, rfl, h1⟩, rfl⟩ := h
  exact PureAt.of_eff (ds := [regD a1]) (SheetLeaves_eff a1)
set_option maxRecDepth 100000 in
theorem sheetLeaves_lifted (os : Os) (started : os.Started) (H : Type) (enc : TypeId × Value → H) :
    ReturnsInHanded {} Tryz.checked os 3 .any (Rows.sheetLeavesSpec.pre6 enc Tryz.prog Tryz.f3 Rows.sheetLeavesRow.domain false) (Rows.sheetLeavesSpec.post enc Tryz.prog Tryz.f3 false true false false) := by
  refine returnsInHanded_of_change_sized (C := Tryz.checked) own started (by kernel_rfl) Tryz.func3
    (ChangeSpec.witness6 (enc := enc) (C := Tryz.checked) false ⟨#[], #[.agg #[.int .i64 0, .slice none 0 0, .slice none 0 0, .slice none 0 0]], []⟩ 8 (by kernel_rfl) (by kernel_rfl) (by kernel_rfl) (by kernel_rfl)) ?_
  intro W base args ds gs before hval hW _ hz _
  exact law_contract (ts := [26]) (Ss := [SReg]) laidOut (by rw [Tryz.params3]) (by kernel_rfl) (by kernel_rfl) Tryz.underlying4 rfl rfl
    (fun ds h => by match ds, h with | [d1], _ => rfl) ⟨pReg, trivial⟩ SheetLeaves_pure W base args ds gs before hval hW hz
theorem sheetLeaves_holds : Rows.SheetLeavesSaid :=
  OpenClaim.holds_of_wide 3 Tryz.f3 rfl rfl rfl rfl rfl rfl rfl ⟨rfl, rfl, rfl, rfl, rfl⟩ rfl rfl rfl rfl rfl (by kernel_rfl) Tryz.func3 (by kernel_rfl)
    (of_decide_eq_true (by kernel_rfl)) (by unfold Func.isWrapper; first | (rw [if_pos (by decide +kernel)]; kernel_rfl) | (rw [if_neg (by decide +kernel)]; exact ⟨rfl, rfl⟩))
    (fun os started H enc _ => sheetLeaves_lifted os started H enc)
end Go.Proofs.YtnbmmopjkkofoaaGreat
