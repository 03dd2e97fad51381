/-
  The law SheetTruth returns true for every input, and leaves its arguments as they were: the given statement, whole. No condition.
-/
import Derived.Laws.StructEq
import Derived.Test.YtnbmmopjkkofoaaSheetTruthI
namespace Go.Proofs.Ytnbmmopjkkofoaa
open Go.RowKit
set_option maxRecDepth 20000
set_option linter.all false
theorem eq45 (a b c d : Int) (w : World) : (binOp .eql 45 (.agg #[.int .i64 a, .int .i64 b]) (.agg #[.int .i64 c, .int .i64 d])).run Try.prog w = .ok (.bool (a == c && b == d)) w := by
  have u3 := Try.underlying3
  have a3 := Try.isAgg3
  have z3 := Try.sizeOf3
  have hS : Try.prog.underlying 45 = some (.struct (Try.prog.fieldsOf 45)) := by kernel_rfl
  have hp : Try.prog.stoodInHeld 45 = false := by kernel_rfl
  rw [run_eql_struct, show (10000 : Nat) = 9999 + 1 from rfl, run_equalIn_agg w 9999 45 _ _ hS hp]
  simp only [Program.fieldsOf, Try.underlying45]
  go_simp
  by_cases h1 : a = c <;> by_cases h2 : b = d <;> simp [h1, h2]
theorem guard45 (op : BinOp) (x y : Operand) (xs ys : Array Value) (w : World) : (eqGuard op 45 x y (.agg xs) (.agg ys)).run Try.prog w = .ok () w := run_eqGuard_agg w op 45 x y xs ys (by kernel_rfl)
theorem q_eql45 {Γ : Cx} {σ : St} {o : Oper} {R : Rel} {x y : Operand} {t' : TypeId} {a b c d : Int} (h : o.op = .binOp .eql 45 x y t') (hx : σ.ev x = some (true, .d (.agg [.int .i64 a, .int .i64 b]))) (hy : σ.ev y = some (true, .d (.agg [.int .i64 c, .int .i64 d]))) :
    QV Γ Try.prog σ o R (.d (.bool (a == c && b == d))) := fun A w F hs => by
  obtain ⟨vs, e1, h1, _⟩ := hs.ev hx
  obtain ⟨us, e2, h2, _⟩ := hs.ev hy
  obtain ⟨v1, vs1, rfl, q1, v2, vs2, rfl, q2, q3⟩ := h1
  obtain ⟨u1, us1, rfl, p1, u2, us2, rfl, p2, p3⟩ := h2
  simp only [Rep, RepVals] at q1 q2 q3 p1 p2 p3
  subst q1 q2 q3 p1 p2 p3
  exact ⟨.bool (a == c && b == d), rfl, fun w' _ => by
    simp only [execOp, h, e1, e2, Sem.run_bind, guard45, Result.andThen_ok, eq45, Sem.run_pure]⟩
abbrev L0 : Reg := loanR [] []
theorem L0_check : checkE L0 = 0 := by kernel_rfl
theorem L0_hold : refHolders L0 (allDays L0) 0 2 3 = [0, 1, 2] := by kernel_rfl
theorem L0_sure : refSurely (allDays L0) 2 4 2 = [0] := by kernel_rfl
theorem L0_inhand : refInHand L0 (allDays L0) 1 3 = (0, 2) := by kernel_rfl
theorem L0_owed : refOwed (allDays L0) 0 1 3 = (0, 1) := by kernel_rfl
theorem L0_ne : (allDays L0).isEmpty = false := by kernel_rfl
theorem L1_first : firstR (loanR astrayL []) = (3, 0) := by kernel_rfl
theorem L1_leave : leaveR (loanR astrayL []) = ([3], 0) := by kernel_rfl
theorem ask_ok {r : Reg} {is : Bool} {N : Nat} {out : List Nat} {e : Int} (v : Valid r) (his : is = true) (hN : N ≤ 9) (h : AskP r is (N : Nat) out e) : EvOK r N out ∧ e = if allDays r = [] then 9 else 0 := by
  have h0 := checkE_of v
  rcases h with ⟨k, _, _⟩ | ⟨_, k, _⟩ | ⟨_, _, n, hn, h9, hev, he⟩
  · exact (k h0).elim
  · rw [his] at k; simp [dayB] at k; omega
  · obtain rfl : N = n := by omega
    refine ⟨hev, he.trans ?_⟩
    by_cases ho : out = []
    · rw [if_pos ((ev_nil v hN hev).1 ho), ho]; rfl
    · rw [if_neg (fun e => ho ((ev_nil v hN hev).2 e))]
      cases out with
      | nil => exact (ho rfl).elim
      | cons _ _ => rfl
theorem L0_valid : Valid L0 := valid_of L0_check
theorem L0_all : allDays L0 ≠ [] := fun e => by have := L0_ne; rw [e] at this; cases this
theorem L0_ask {is : Bool} {N : Nat} {out : List Nat} {e : Int} (his : is = true) (hN : N ≤ 9) (h : AskP L0 is (N : Nat) out e) : EvOK L0 N out ∧ e = 0 ∧ out ≠ [] := by
  obtain ⟨h1, h2⟩ := ask_ok L0_valid his hN h
  rw [if_neg L0_all] at h2
  exact ⟨h1, h2, fun e => L0_all ((ev_nil L0_valid hN h1).1 e)⟩
theorem aw_hold (x : AskX L0 (sheetB L0 0) 2) : x.1.2 = 0 ∧ holdR L0 0 x.1.1 = [0, 1, 2] := by
  obtain ⟨h1, h2, h3⟩ := L0_ask (N := 2) rfl (by omega) x.2
  exact ⟨h2, (holders_eq (N := 2) (s := 0) L0_valid (by omega) (by decide) h1).trans L0_hold⟩
theorem aw_sure (x : AskX L0 (houseB L0 2) 4) : x.1.2 = 0 ∧ surelyR L0 2 x.1.1 = [0] := by
  obtain ⟨h1, h2, h3⟩ := L0_ask (N := 4) rfl (by omega) x.2
  exact ⟨h2, (surely_eq L0_valid (by omega) h3 h1).trans L0_sure⟩
theorem aw_held (x : AskX L0 (houseB L0 1) 3) : x.1.2 = 0 ∧ heldR L0 1 x.1.1 = (0, 2) := by
  obtain ⟨h1, h2, h3⟩ := L0_ask (N := 3) rfl (by omega) x.2
  exact ⟨h2, (held_eq L0_valid (by omega) h3 h1).trans L0_inhand⟩
theorem aw_owed (x : AskX L0 (houseB L0 0 && houseB L0 1) 3) : x.1.2 = 0 ∧ owedR L0 0 1 x.1.1 = (0, 1) := by
  obtain ⟨h1, h2, h3⟩ := L0_ask (N := 3) rfl (by omega) x.2
  exact ⟨h2, (owed_eq (a := 0) (b := 1) L0_valid (by omega) (by omega) (by omega) h3 h1).trans L0_owed⟩
theorem prove_of {r : Reg} {t : List Int} {ds : List Nat} (v : Valid r) (T : Truth r t ds) : proveB r t = true := by
  unfold proveB
  rw [checkE_of v, T.dated, T.play]
  simp [T.seen]
theorem aw_expl (x : ExplX L0) : x.1.2 = 0 ∧ proveB L0 x.1.1 = true := by
  have h0 := L0_check
  rcases x.2 with ⟨k, _⟩ | ⟨_, k, _⟩ | ⟨_, _, h, _, n, m, hp⟩
  · exact (k h0).elim
  · rw [(goes_all_iff L0_valid).2 L0_all] at k; cases k
  · obtain ⟨ds, T⟩ := truth_of_path L0_valid hp
    exact ⟨h, prove_of L0_valid T⟩
theorem awake_eff  : EffAt Try.prog 15 [] [] (X := Unit) (fun _ => .d (.bool true)) (fun _ => []) := by
  refine EffAt.of_awp Try.func15 rfl (by kernel_rfl) rfl fun Γ hn => ?_
  refine awp_seq ?_
  refine awp_region ?_
  refine sq rfl rfl hn rfl (q_assign rfl rfl) ?_
  refine run_nil ?_
  refine aend_then ?_
  refine awp_seq ?_
  refine awp_region ?_
  refine stepW (s_call [] (fun _ => loan_ok [] [] (by simp)) rfl (guard_none rfl) rfl (nb hn rfl) (fun _ => trivial) rfl rfl (by first | exact .refl _ | (repeat (first | exact .refl _ | exact .nil _ | refine .cons ?_ ?_ | refine .agg ?_ | refine .tup ?_)))) fun _ => ?_
  refine stepW (s_callE (Holders_eff L0 0 2) rfl rfl rfl (nb hn rfl) (.d rfl) rfl (.refl _) trivial (fun _ => rfl) (fun _ _ => trivial)) fun x1 => ?_
  obtain ⟨he1, hh1⟩ := aw_hold x1
  rw [he1, hh1]
  refine sq rfl rfl hn rfl (q_move rfl rfl) ?_
  refine sq rfl rfl hn rfl (q_extractd rfl rfl rfl) ?_
  refine sq rfl rfl hn rfl (q_extractd rfl rfl rfl) ?_
  refine sq rfl rfl hn rfl (q_assign rfl rfl) ?_
  refine sq rfl rfl hn rfl (q_assign rfl rfl) ?_
  refine run_nil ?_
  refine aend_then ?_
  refine awp_seq ?_
  refine awp_region ?_
  refine stepW (s_call [] (fun _ => loan_ok [] [] (by simp)) rfl (guard_none rfl) rfl (nb hn rfl) (fun _ => trivial) rfl rfl (by first | exact .refl _ | (repeat (first | exact .refl _ | exact .nil _ | refine .cons ?_ ?_ | refine .agg ?_ | refine .tup ?_)))) fun _ => ?_
  refine stepW (s_callE (InHand_eff L0 1 3) rfl rfl rfl (nb hn rfl) (.d rfl) rfl (.refl _) trivial (fun _ => rfl) (fun _ _ => trivial)) fun x2 => ?_
  obtain ⟨he2, hh2⟩ := aw_held x2
  rw [he2, hh2]
  refine sq rfl rfl hn rfl (q_move rfl rfl) ?_
  refine sq rfl rfl hn rfl (q_extractd rfl rfl rfl) ?_
  refine sq rfl rfl hn rfl (q_extractd rfl rfl rfl) ?_
  refine stepW (s_alloc 3 rfl rfl rfl (nb hn rfl) zr45 rfl rfl) fun b3 => ?_
  refine stepW (s_store rfl rfl rfl rfl rfl rfl (id := 3) rfl sz45 rfl (Nat.le_of_ble_eq_true rfl) rfl trivial) fun _ => ?_
  refine sq rfl rfl hn rfl (q_assign rfl rfl) ?_
  refine run_nil ?_
  refine aend_then ?_
  refine awp_seq ?_
  refine awp_region ?_
  refine stepW (s_call [] (fun _ => loan_ok [] [] (by simp)) rfl (guard_none rfl) rfl (nb hn rfl) (fun _ => trivial) rfl rfl (by first | exact .refl _ | (repeat (first | exact .refl _ | exact .nil _ | refine .cons ?_ ?_ | refine .agg ?_ | refine .tup ?_)))) fun _ => ?_
  refine stepW (s_callE (Owed_eff L0 0 1 3) rfl rfl rfl (nb hn rfl) (.d rfl) rfl (.refl _) trivial (fun _ => rfl) (fun _ _ => trivial)) fun x3 => ?_
  obtain ⟨he3, hh3⟩ := aw_owed x3
  rw [he3, hh3]
  refine sq rfl rfl hn rfl (q_move rfl rfl) ?_
  refine sq rfl rfl hn rfl (q_extractd rfl rfl rfl) ?_
  refine sq rfl rfl hn rfl (q_extractd rfl rfl rfl) ?_
  refine stepW (s_alloc 5 rfl rfl rfl (nb hn rfl) zr45 rfl rfl) fun b5 => ?_
  refine stepW (s_store rfl rfl rfl rfl rfl rfl (id := 5) rfl sz45 rfl (Nat.le_of_ble_eq_true rfl) rfl trivial) fun _ => ?_
  refine sq rfl rfl hn rfl (q_assign rfl rfl) ?_
  refine run_nil ?_
  refine aend_then ?_
  refine awp_seq ?_
  refine awp_region ?_
  refine stepW (s_call [] (fun _ => loan_ok [] [] (by simp)) rfl (guard_none rfl) rfl (nb hn rfl) (fun _ => trivial) rfl rfl (by first | exact .refl _ | (repeat (first | exact .refl _ | exact .nil _ | refine .cons ?_ ?_ | refine .agg ?_ | refine .tup ?_)))) fun _ => ?_
  refine stepW (s_callE (Surely_eff L0 2 4) rfl rfl rfl (nb hn rfl) (.d rfl) rfl (.refl _) trivial (fun _ => rfl) (fun _ _ => trivial)) fun x4 => ?_
  obtain ⟨he4, hh4⟩ := aw_sure x4
  rw [he4, hh4]
  refine sq rfl rfl hn rfl (q_move rfl rfl) ?_
  refine sq rfl rfl hn rfl (q_extractd rfl rfl rfl) ?_
  refine sq rfl rfl hn rfl (q_extractd rfl rfl rfl) ?_
  refine sq rfl rfl hn rfl (q_assign rfl rfl) ?_
  refine sq rfl rfl hn rfl (q_assign rfl rfl) ?_
  refine run_nil ?_
  refine aend_then ?_
  refine awp_seq ?_
  refine awp_region ?_
  refine stepW (s_call [] (fun _ => astray_ok) rfl (guard_none rfl) rfl (nb hn rfl) (fun _ => trivial) rfl rfl (.refl _)) fun _ => ?_
  refine stepW (s_call [] (fun _ => loan_ok astrayL [] (by decide)) rfl (guard_none rfl) rfl (nb hn rfl) (fun _ => trivial) rfl rfl (by first | exact .refl _ | (repeat (first | exact .refl _ | exact .nil _ | refine .cons ?_ ?_ | refine .agg ?_ | refine .tup ?_)))) fun _ => ?_
  refine stepW (s_call [] (fun _ => (by have := leave_ok (loanR astrayL []); rw [L1_leave] at this; exact this)) rfl (guard_none rfl) rfl (nb hn rfl) (fun _ => trivial) rfl rfl (.refl _)) fun _ => ?_
  refine sq rfl rfl hn rfl (q_move rfl rfl) ?_
  refine sq rfl rfl hn rfl (q_extractd rfl rfl rfl) ?_
  refine sq rfl rfl hn rfl (q_extractd rfl rfl rfl) ?_
  refine sq rfl rfl hn rfl (q_assign rfl rfl) ?_
  refine sq rfl rfl hn rfl (q_assign rfl rfl) ?_
  refine run_nil ?_
  refine aend_then ?_
  refine awp_seq ?_
  refine awp_region ?_
  refine stepW (s_call [] (fun _ => astray_ok) rfl (guard_none rfl) rfl (nb hn rfl) (fun _ => trivial) rfl rfl (.refl _)) fun _ => ?_
  refine stepW (s_call [] (fun _ => loan_ok astrayL [] (by decide)) rfl (guard_none rfl) rfl (nb hn rfl) (fun _ => trivial) rfl rfl (by first | exact .refl _ | (repeat (first | exact .refl _ | exact .nil _ | refine .cons ?_ ?_ | refine .agg ?_ | refine .tup ?_)))) fun _ => ?_
  refine stepW (s_call [] (fun _ => (by have := first_ok (loanR astrayL []); rw [L1_first] at this; exact this)) rfl (guard_none rfl) rfl (nb hn rfl) (fun _ => trivial) rfl rfl (.refl _)) fun _ => ?_
  refine sq rfl rfl hn rfl (q_move rfl rfl) ?_
  refine sq rfl rfl hn rfl (q_extractd rfl rfl rfl) ?_
  refine sq rfl rfl hn rfl (q_extractd rfl rfl rfl) ?_
  refine sq rfl rfl hn rfl (q_assign rfl rfl) ?_
  refine sq rfl rfl hn rfl (q_assign rfl rfl) ?_
  refine run_nil ?_
  refine aend_then ?_
  refine awp_seq ?_
  refine awp_region ?_
  refine stepW (s_call [] (fun _ => loan_ok [] [] (by simp)) rfl (guard_none rfl) rfl (nb hn rfl) (fun _ => trivial) rfl rfl (by first | exact .refl _ | (repeat (first | exact .refl _ | exact .nil _ | refine .cons ?_ ?_ | refine .agg ?_ | refine .tup ?_)))) fun _ => ?_
  refine stepW (s_callE (explain_ok L0) rfl rfl rfl (nb hn rfl) (.d rfl) rfl (.refl _) trivial (fun _ => rfl) (fun _ _ => trivial)) fun x7 => ?_
  obtain ⟨he7, hh7⟩ := aw_expl x7
  rw [he7]
  refine sq rfl rfl hn rfl (q_move rfl rfl) ?_
  refine sq rfl rfl hn rfl (q_extractd rfl rfl rfl) ?_
  refine sq rfl rfl hn rfl (q_extractd rfl rfl rfl) ?_
  refine sq rfl rfl hn rfl (q_assign rfl rfl) ?_
  refine sq rfl rfl hn rfl (q_assign rfl rfl) ?_
  refine run_nil ?_
  refine aend_then ?_
  refine awp_seq ?_
  refine awp_region ?_
  refine sq rfl rfl hn rfl (q_move rfl rfl) ?_
  refine sq rfl rfl hn rfl (q_eql rfl rfl rfl) ?_
  refine sq rfl rfl hn rfl (q_move rfl rfl) ?_
  refine stepG [] (guard_some rfl rfl rfl) rfl (nb hn rfl) (fun hc => trivial) (fun hc => q_move rfl rfl) ?_
  refine stepW (s_guard (guard_some rfl rfl rfl) rfl (nb hn rfl) (s_buildSlice rfl rfl rfl (nb hn rfl) Try.underlying22 sz3 zr3 rfl rfl rfl (show _ = [.d (.int .i64 0), .d (.int .i64 0), .d (.int .i64 0)] from by kernel_rfl) (by kernel_rfl) rfl rfl rfl rfl rfl)) fun _ => ?_
  refine stepW (s_call [(55, _), (56, _)] (fun hc => Same_ok [0, 1, 2] [0, 1, 2]) rfl (guard_some rfl rfl rfl) rfl (nb hn rfl) (fun hc => ⟨⟨_, rfl, hc⟩, ⟨_, rfl, hc⟩, trivial⟩) rfl rfl (.refl _)) fun _ => ?_
  refine sq rfl rfl hn rfl (q_and rfl rfl rfl (by simp_all)) ?_
  refine sq rfl rfl hn rfl (q_move rfl rfl) ?_
  refine stepG [] (guard_some rfl rfl rfl) rfl (nb hn rfl) (fun hc => trivial) (fun hc => q_move rfl rfl) ?_
  refine stepG [(60, _)] (guard_some rfl rfl rfl) rfl (nb hn rfl) (fun hc => ⟨⟨_, rfl, hc⟩, trivial⟩) (fun hc => q_eql rfl rfl rfl) ?_
  refine sq rfl rfl hn rfl (q_and rfl rfl rfl (by simp_all)) ?_
  refine sq rfl rfl hn rfl (q_move rfl rfl) ?_
  refine stepG [] (guard_some rfl rfl rfl) rfl (nb hn rfl) (fun hc => trivial) (fun hc => q_loadAd rfl rfl (id := 3) rfl Try.underlying45 rfl sz45 rfl rfl sees0) ?_
  refine stepG [] (guard_some rfl rfl rfl) rfl (nb hn rfl) (fun hc => trivial) (fun hc => q_buildd rfl bt45 rfl rfl rfl rfl rfl) ?_
  refine stepG [(64, _), (65, _)] (guard_some rfl rfl rfl) rfl (nb hn rfl) (fun hc => ⟨⟨_, rfl, hc⟩, ⟨_, rfl, hc⟩, trivial⟩) (fun hc => q_eql45 rfl rfl rfl) ?_
  refine sq rfl rfl hn rfl (q_and rfl rfl rfl (by simp_all)) ?_
  refine sq rfl rfl hn rfl (q_move rfl rfl) ?_
  refine stepG [] (guard_some rfl rfl rfl) rfl (nb hn rfl) (fun hc => trivial) (fun hc => q_move rfl rfl) ?_
  refine stepG [(69, _)] (guard_some rfl rfl rfl) rfl (nb hn rfl) (fun hc => ⟨⟨_, rfl, hc⟩, trivial⟩) (fun hc => q_eql rfl rfl rfl) ?_
  refine sq rfl rfl hn rfl (q_and rfl rfl rfl (by simp_all)) ?_
  refine sq rfl rfl hn rfl (q_move rfl rfl) ?_
  refine stepG [] (guard_some rfl rfl rfl) rfl (nb hn rfl) (fun hc => trivial) (fun hc => q_loadAd rfl rfl (id := 5) rfl Try.underlying45 rfl sz45 rfl rfl sees0) ?_
  refine stepG [] (guard_some rfl rfl rfl) rfl (nb hn rfl) (fun hc => trivial) (fun hc => q_buildd rfl bt45 rfl rfl rfl rfl rfl) ?_
  refine stepG [(73, _), (74, _)] (guard_some rfl rfl rfl) rfl (nb hn rfl) (fun hc => ⟨⟨_, rfl, hc⟩, ⟨_, rfl, hc⟩, trivial⟩) (fun hc => q_eql45 rfl rfl rfl) ?_
  refine sq rfl rfl hn rfl (q_and rfl rfl rfl (by simp_all)) ?_
  refine sq rfl rfl hn rfl (q_move rfl rfl) ?_
  refine stepG [] (guard_some rfl rfl rfl) rfl (nb hn rfl) (fun hc => trivial) (fun hc => q_move rfl rfl) ?_
  refine stepG [(78, _)] (guard_some rfl rfl rfl) rfl (nb hn rfl) (fun hc => ⟨⟨_, rfl, hc⟩, trivial⟩) (fun hc => q_eql rfl rfl rfl) ?_
  refine sq rfl rfl hn rfl (q_and rfl rfl rfl (by simp_all)) ?_
  refine sq rfl rfl hn rfl (q_move rfl rfl) ?_
  refine stepG [] (guard_some rfl rfl rfl) rfl (nb hn rfl) (fun hc => trivial) (fun hc => q_move rfl rfl) ?_
  refine stepW (s_guard (guard_some rfl rfl rfl) rfl (nb hn rfl) (s_buildSlice rfl rfl rfl (nb hn rfl) Try.underlying22 sz3 zr3 rfl rfl rfl (show _ = [.d (.int .i64 0)] from by kernel_rfl) (by kernel_rfl) rfl rfl rfl rfl rfl)) fun _ => ?_
  refine stepW (s_call [(82, _), (83, _)] (fun hc => Same_ok [0] [0]) rfl (guard_some rfl rfl rfl) rfl (nb hn rfl) (fun hc => ⟨⟨_, rfl, hc⟩, ⟨_, rfl, hc⟩, trivial⟩) rfl rfl (.refl _)) fun _ => ?_
  refine sq rfl rfl hn rfl (q_and rfl rfl rfl (by simp_all)) ?_
  refine sq rfl rfl hn rfl (q_move rfl rfl) ?_
  refine stepG [] (guard_some rfl rfl rfl) rfl (nb hn rfl) (fun hc => trivial) (fun hc => q_move rfl rfl) ?_
  refine stepG [(87, _)] (guard_some rfl rfl rfl) rfl (nb hn rfl) (fun hc => ⟨⟨_, rfl, hc⟩, trivial⟩) (fun hc => q_eql rfl rfl rfl) ?_
  refine sq rfl rfl hn rfl (q_and rfl rfl rfl (by simp_all)) ?_
  refine sq rfl rfl hn rfl (q_move rfl rfl) ?_
  refine stepG [] (guard_some rfl rfl rfl) rfl (nb hn rfl) (fun hc => trivial) (fun hc => q_move rfl rfl) ?_
  refine stepW (s_guard (guard_some rfl rfl rfl) rfl (nb hn rfl) (s_buildSlice rfl rfl rfl (nb hn rfl) Try.underlying22 sz3 zr3 rfl rfl rfl (show _ = [.d (.int .i64 0)] from by kernel_rfl) (by kernel_rfl) rfl rfl rfl rfl rfl)) fun _ => ?_
  refine stepW (s_call [(91, _), (92, _)] (fun hc => Same_ok [3] [3]) rfl (guard_some rfl rfl rfl) rfl (nb hn rfl) (fun hc => ⟨⟨_, rfl, hc⟩, ⟨_, rfl, hc⟩, trivial⟩) rfl rfl (.refl _)) fun _ => ?_
  refine sq rfl rfl hn rfl (q_and rfl rfl rfl (by simp_all)) ?_
  refine sq rfl rfl hn rfl (q_move rfl rfl) ?_
  refine stepG [] (guard_some rfl rfl rfl) rfl (nb hn rfl) (fun hc => trivial) (fun hc => q_move rfl rfl) ?_
  refine stepG [(96, _)] (guard_some rfl rfl rfl) rfl (nb hn rfl) (fun hc => ⟨⟨_, rfl, hc⟩, trivial⟩) (fun hc => q_eql rfl rfl rfl) ?_
  refine sq rfl rfl hn rfl (q_and rfl rfl rfl (by simp_all)) ?_
  refine sq rfl rfl hn rfl (q_move rfl rfl) ?_
  refine stepG [] (guard_some rfl rfl rfl) rfl (nb hn rfl) (fun hc => trivial) (fun hc => q_move rfl rfl) ?_
  refine stepG [(100, _)] (guard_some rfl rfl rfl) rfl (nb hn rfl) (fun hc => ⟨⟨_, rfl, hc⟩, trivial⟩) (fun hc => q_eql rfl rfl rfl) ?_
  refine sq rfl rfl hn rfl (q_and rfl rfl rfl (by simp_all)) ?_
  refine sq rfl rfl hn rfl (q_move rfl rfl) ?_
  refine stepG [] (guard_some rfl rfl rfl) rfl (nb hn rfl) (fun hc => trivial) (fun hc => q_move rfl rfl) ?_
  refine stepG [(104, _)] (guard_some rfl rfl rfl) rfl (nb hn rfl) (fun hc => ⟨⟨_, rfl, hc⟩, trivial⟩) (fun hc => q_eql rfl rfl rfl) ?_
  refine sq rfl rfl hn rfl (q_and rfl rfl rfl (by simp_all)) ?_
  refine sq rfl rfl hn rfl (q_move rfl rfl) ?_
  refine stepW (s_call [] (fun hc => loan_ok [] [] (by simp)) rfl (guard_some rfl rfl rfl) rfl (nb hn rfl) (fun hc => trivial) rfl rfl (by first | exact .refl _ | (repeat (first | exact .refl _ | exact .nil _ | refine .cons ?_ ?_ | refine .agg ?_ | refine .tup ?_)))) fun _ => ?_
  refine stepG [] (guard_some rfl rfl rfl) rfl (nb hn rfl) (fun hc => trivial) (fun hc => q_move rfl rfl) ?_
  refine stepW (s_call [(108, _), (109, _)] (fun hc => ProveTruth_ok L0 x7.1.1) rfl (guard_some rfl rfl rfl) rfl (nb hn rfl) (fun hc => ⟨⟨_, rfl, hc⟩, ⟨_, rfl, hc⟩, trivial⟩) rfl rfl (.refl _)) fun _ => ?_
  refine sq rfl rfl hn rfl (q_and rfl rfl rfl (by simp_all)) ?_
  refine sq rfl rfl hn rfl (q_assign rfl rfl) ?_
  refine run_nil ?_
  refine aend_then ?_
  refine awp_ret ?_
  exact ret_E (.inl rfl) () ((hands_1 rfl (.tmp rfl)).eq (by simp [hh7, sameB_self])) trivial
end Go.Proofs.Ytnbmmopjkkofoaa
namespace Go.Proofs.Ytnbmmopjkkofoaa
open Go.RowKit
set_option maxRecDepth 20000
set_option linter.all false
theorem awake_ok : PureAt Try.prog 15 [] (.bool true) := PureAt.of_eff (ds := []) awake_eff
end Go.Proofs.Ytnbmmopjkkofoaa
namespace Go.Proofs.Ytnbmmopjkkofoaa
set_option linter.all false
/-- There is a truth. -/
def hasT (r : Reg) : Prop := goesB r 0 0 0 = true
theorem expl_full {r : Reg} (v : Valid r) (x : ExplX r) : (hasT r ∧ x.1.2 = 0 ∧ ∃ ds, Truth r x.1.1 ds) ∨ (¬ hasT r ∧ x.1.2 = 9 ∧ x.1.1 = []) := by
  have h0 := checkE_of v
  rcases x.2 with ⟨k, _⟩ | ⟨_, k, e⟩ | ⟨_, k, h, _, n, m, hp⟩
  · exact (k h0).elim
  · right
    rw [e]
    refine ⟨fun h => ?_, rfl, rfl⟩
    have h' : goesB r 0 0 0 = true := h
    rw [k] at h'
    cases h'
  · exact .inl ⟨k, h, truth_of_path v hp⟩
theorem first_go {r : Reg} : ∀ (k i : Nat), i + k = r.entries.length → hasT (prefR r i) → (firstGo r k i = (0, 7) ∧ hasT (prefR r r.entries.length)) ∨ ∃ j : Nat, firstGo r k i = ((j : Int), 0) ∧ j < r.entries.length ∧ hasT (prefR r j) ∧ ¬ hasT (prefR r (j + 1))
  | 0, i, h, hi => .inl ⟨rfl, by rw [← h, Nat.add_zero]; exact hi⟩
  | k + 1, i, h, hi => by
    simp only [firstGo]
    cases hg : goesB (prefR r (i + 1)) 0 0 0 with
    | true => exact first_go k (i + 1) (by omega) hg
    | false =>
      refine .inr ⟨i, rfl, by omega, hi, fun hh => ?_⟩
      have hh' : goesB (prefR r (i + 1)) 0 0 0 = true := hh
      rw [hg] at hh'
      cases hh'
theorem first_law {r : Reg} (v : Valid r) : (firstR r = (0, 7) ∧ hasT (prefR r r.entries.length)) ∨ ∃ j : Nat, firstR r = ((j : Int), 0) ∧ j < r.entries.length ∧ hasT (prefR r j) ∧ ¬ hasT (prefR r (j + 1)) := by
  have h0 := checkE_of v
  have : firstR r = firstGo r r.entries.length 0 := by unfold firstR; rw [if_neg (by simp [h0])]
  rw [this]
  exact first_go _ 0 (by omega) (goes_empty (r := prefR r 0) (by simp [prefR]) rfl 10 0 0 (by omega))
/-- An increasing list of numbers below S, from f on. -/
def Inc (f S : Nat) (m : List Int) : Prop := m.Pairwise (· < ·) ∧ ∀ x ∈ m, (f : Int) ≤ x ∧ x < (S : Int)
theorem Inc.tail {f S : Nat} {x : Int} {m : List Int} (h : Inc f S (x :: m)) : Inc (x.toNat + 1) S m := by
  obtain ⟨h1, h2⟩ := h
  rw [List.pairwise_cons] at h1
  refine ⟨h1.2, fun y hy => ?_⟩
  have k1 := h1.1 y hy
  have k2 := h2 y (List.mem_cons_of_mem _ hy)
  have k3 := h2 x List.mem_cons_self
  omega
theorem Inc.mono {f g S : Nat} {m : List Int} (h : Inc f S m) (hg : g ≤ f) : Inc g S m := ⟨h.1, fun x hx => by have := h.2 x hx; omega⟩
theorem before_cons {x y : Int} {a b : List Int} : beforeB (x :: a) (y :: b) = if x = y then beforeB a b else decide (x < y) := by
  by_cases h : x = y
  · simp [beforeB, h]
  · have : (x != y) = true := by simpa using h
    simp [beforeB, this, h]
/-- What the search finds. -/
def Finds (r : Reg) (S k : Nat) (out : List Int) (f : Nat) : Option (List Int) → Prop
  | some l => ∃ m, l = out ++ m ∧ m.length = k ∧ Inc f S m ∧ hasT (dropR r l) ∧ ∀ m', m'.length = k → Inc f S m' → beforeB m' m = true → ¬ hasT (dropR r (out ++ m'))
  | none => ∀ m', m'.length = k → Inc f S m' → ¬ hasT (dropR r (out ++ m'))
theorem leave_finds (r : Reg) (S : Nat) : ∀ (k : Nat) (out : List Int) (f : Nat), Finds r S k out f (leaveS r S k out f)
  | 0, out, f => by
    simp only [leaveS]
    cases hg : goesB (dropR r out) 0 0 0 with
    | true => exact ⟨[], by simp, rfl, ⟨List.Pairwise.nil, fun _ h => by cases h⟩, hg, fun m' hm _ hb => by
        rw [List.eq_nil_of_length_eq_zero hm] at hb
        cases hb⟩
    | false =>
      intro m' hm _ hh
      rw [List.eq_nil_of_length_eq_zero hm, List.append_nil] at hh
      have hh' : goesB (dropR r out) 0 0 0 = true := hh
      rw [hg] at hh'
      cases hh'
  | k + 1, out, f => by
    show Finds r S (k + 1) out f (leaveN r S k out f)
    obtain ⟨n, hn⟩ : ∃ n, n = S - f := ⟨_, rfl⟩
    induction n generalizing f with
    | zero =>
      rw [leaveN_end (by omega)]
      intro m' hm hi
      cases m' with
      | nil => cases hm
      | cons x m' => have := hi.2 x List.mem_cons_self; omega
    | succ n ih =>
      rw [leaveN_step (by omega)]
      have h1 := leave_finds r S k (out ++ [(f : Int)]) (f + 1)
      have h2 := ih (f + 1) (by omega)
      cases e1 : leaveS r S k (out ++ [(f : Int)]) (f + 1) with
      | some l =>
        rw [e1] at h1
        obtain ⟨m, q1, q2, q3, q4, q5⟩ := h1
        refine ⟨(f : Int) :: m, by rw [q1]; simp, by simp [q2], ⟨List.pairwise_cons.2 ⟨fun y hy => by have := q3.2 y hy; omega, q3.1⟩, fun y hy => ?_⟩, q4, fun m' hm hi hb => ?_⟩
        · rcases List.mem_cons.1 hy with rfl | hy
          · omega
          · have := q3.2 y hy; omega
        · cases m' with
          | nil => cases hm
          | cons x m' =>
            have hx := hi.2 x List.mem_cons_self
            rw [before_cons] at hb
            by_cases e : x = (f : Int)
            · rw [if_pos e] at hb
              subst e
              have := q5 m' (by simpa using hm) (hi.tail.mono (by omega)) hb
              simpa using this
            · rw [if_neg e] at hb
              simp at hb
              omega
      | none =>
        rw [e1] at h1
        have key : ∀ m', m'.length = k + 1 → Inc f S m' → (∃ m'', m' = (f : Int) :: m'' ∧ ¬ hasT (dropR r (out ++ m'))) ∨ Inc (f + 1) S m' := fun m' hm hi => by
          cases m' with
          | nil => cases hm
          | cons x m' =>
            have hx := hi.2 x List.mem_cons_self
            by_cases e : x = (f : Int)
            · subst e
              refine .inl ⟨m', rfl, ?_⟩
              have := h1 m' (by simpa using hm) (hi.tail.mono (by omega))
              simpa using this
            · refine .inr ⟨hi.1, fun y hy => ?_⟩
              have hy2 := hi.2 y hy
              rcases List.mem_cons.1 hy with rfl | hy
              · omega
              · have := (List.pairwise_cons.1 hi.1).1 y hy; omega
        show Finds r S (k + 1) out f (leaveN r S k out (f + 1))
        cases e2 : leaveN r S k out (f + 1) with
        | some l =>
          rw [e2] at h2
          obtain ⟨m, q1, q2, q3, q4, q5⟩ := h2
          refine ⟨m, q1, q2, q3.mono (by omega), q4, fun m' hm hi hb => ?_⟩
          rcases key m' hm hi with ⟨_, _, h⟩ | h
          · exact h
          · exact q5 m' hm h hb
        | none =>
          rw [e2] at h2
          intro m' hm hi
          rcases key m' hm hi with ⟨_, _, h⟩ | h
          · exact h
          · exact h2 m' hm h
theorem leave_go {r : Reg} : ∀ (c k : Nat), c + k = sumR r + 1 → (∀ j, j < k → leaveK r j = none) → ∃ j, j ≤ sumR r ∧ leaveK r j = some (leaveGo r c k) ∧ ∀ i, i < j → leaveK r i = none
  | 0, k, h, hn => by
    obtain ⟨l, hl⟩ := leaveK_some r
    rw [hn (sumR r) (by omega)] at hl
    cases hl
  | c + 1, k, h, hn => by
    simp only [leaveGo]
    cases e : leaveK r k with
    | some l => exact ⟨k, by omega, by rw [e], hn⟩
    | none =>
      refine leave_go c (k + 1) (by omega) fun j hj => ?_
      by_cases q : j = k
      · subst q; exact e
      · exact hn j (by omega)
/-- What Leave returns. -/
theorem leave_law {r : Reg} (v : Valid r) : (leaveR r).2 = 0 ∧ Inc 0 (sumR r) (leaveR r).1 ∧ hasT (dropR r (leaveR r).1) ∧ ∀ l, Inc 0 (sumR r) l → shorterB l (leaveR r).1 = true → ¬ hasT (dropR r l) := by
  have h0 := checkE_of v
  have e : leaveR r = (leaveGo r (sumR r + 1) 0, 0) := by unfold leaveR; rw [if_neg (by simp [h0])]
  rw [e]
  obtain ⟨j, hj, h1, h2⟩ := leave_go (r := r) (sumR r + 1) 0 (by omega) fun j hj => by omega
  have hf := leave_finds r (sumR r) j [] 0
  have h1' : leaveS r (sumR r) j [] 0 = some (leaveGo r (sumR r + 1) 0) := h1
  rw [h1'] at hf
  obtain ⟨m, q1, q2, q3, q4, q5⟩ := hf
  rw [List.nil_append] at q1
  refine ⟨rfl, by dsimp only; rw [q1]; exact q3, q4, fun l hl hs => ?_⟩
  dsimp only at hs
  rw [q1] at hs
  unfold shorterB at hs
  rw [q2] at hs
  simp only [Bool.or_eq_true, decide_eq_true_eq, Bool.and_eq_true, beq_iff_eq] at hs
  rcases hs with hs | ⟨hs, hb⟩
  · have hn := h2 l.length (by omega)
    have hf2 := leave_finds r (sumR r) l.length [] 0
    have hn' : leaveS r (sumR r) l.length [] 0 = none := hn
    rw [hn'] at hf2
    exact hf2 l rfl hl
  · exact q5 l (by omega) hl hb
theorem Inc.nil (f S : Nat) : Inc f S [] := ⟨List.Pairwise.nil, fun _ h => by cases h⟩
theorem dropF_nil {α : Type} : ∀ {k : Nat} {l : List α}, dropF [] k l = l
  | _, [] => rfl
  | k, x :: l => by
    show x :: dropF [] (k + 1) l = _
    rw [dropF_nil]
theorem dropR_nil (r : Reg) : dropR r [] = r := by
  unfold dropR
  rw [dropF_nil, dropF_nil]
theorem leave_nil {r : Reg} (v : Valid r) : (leaveR r).1 = [] ↔ hasT r := by
  obtain ⟨_, h1, h2, h3⟩ := leave_law v
  constructor
  · intro e
    rw [e, dropR_nil] at h2
    exact h2
  · intro h
    cases e : (leaveR r).1 with
    | nil => rfl
    | cons x l =>
      rw [e] at h3
      have := h3 [] (Inc.nil _ _) (by simp [shorterB])
      rw [dropR_nil] at this
      exact (this h).elim
end Go.Proofs.Ytnbmmopjkkofoaa
namespace Go.Proofs.Ytnbmmopjkkofoaa
open Go.RowKit
set_option linter.all false
section
variable {Γ : Cx} {P : Program} {σ : St} {o : Oper} {R : Rel}
end
section
variable {Γ : Cx} {P : Program} {σ : St} {o : Oper} {R : Rel}
end
section
variable {Γ : Cx} {P : Program} {σ : St} {ops : Array Oper} {o : Oper} {Q : Exit → Act → World → Prop} {W : Nat → Prop}
theorem s_buildVec {t e : TypeId} {len sz dt : Nat} {parts : Array (Nat × Operand)} {z : Value} {zc : Array Value} {zs cs : List TV} {ps : List (Nat × TV)} (id : Nat) (h : o.op = .buildSlice t len parts)
    (hg : o.guard = none) (hd : o.dst = some dt) (hn : Nat.blt dt Γ.n = true) (ht : P.underlying t = some (.slice e)) (hsz : Sz P e sz) (hzero : (P.info? e).map (·.zero) = some (some z))
    (hsmall : Nat.ble (len * sz) 16777216 = true) (hzc : ((Array.range (len * sz)).map ((if len * sz = 0 then #[] else z.cells)[· % (if len * sz = 0 then #[] else z.cells).size]!)) = zc)
    (hz : zc.toList.map constTV = zs) (h1 : zc.toList.all (·.oneCell') = true) (hp : pevs σ parts.toList = some ps) (hf : fillTV (fun i => some (i * sz, sz)) zs ps = some cs) :
    StepW Γ P ops σ o W fun b : Nat => (σ.put dt true (.val (.slice (some ⟨b, 0, none⟩) len len))).rput id (.box b e cs) := fun a w F hs K Q hK => by
  rw [if_pos (plain_wanted hg a)]
  have h24 : (2 : Nat) ^ 24 = 16777216 := by decide
  have hsm := Nat.le_of_ble_eq_true hsmall
  obtain ⟨k1, k2⟩ := hs.pevs hp
  obtain ⟨vs', g1, g2, g3⟩ := fill_ok (w := w) (F := F) (place := fun i => some (i * sz, sz)) (vs := zc) k1 k2 (by rw [← hz]; exact treps_const _) (List.all_eq_true.1 h1) hf
  have hrun := run_buildSlice' (parts := parts.map fun (i, x) => (i, a.eval x)) (cells := vs') w ht hsz hzero (by rw [h24]; exact hsm) hzc (by rw [← g1]; simp)
  have hex : (execOp a.eval o).run P w = .ok (.value (.slice (some ⟨w.heap.size, 0, none⟩) len len)) (w.alloc (.cells vs' e)) := by
    simp only [execOp, h, Sem.run_bind, hrun, Result.andThen_ok, Sem.run_pure]
  unfold Oper.wp
  rw [hex]
  show K (a.put o.dst _) _
  rw [hd]
  exact hK w.heap.size _ _ F ((hs.newBox (ty := e) id g2 g3).put (blt_lt hn) (fun _ => rfl) (fun h => by cases h)) (fun _ _ h => h) (by simp) ((Grow.alloc hs.fcell _).agree (fun _ e => by cases e))
end
end Go.Proofs.Ytnbmmopjkkofoaa
namespace Go.Proofs.Ytnbmmopjkkofoaa
open Go.RowKit
set_option maxRecDepth 20000
set_option linter.all false
theorem map_take {α β : Type} {l : List α} {f : α → β} {n : Nat} : (l.map f).take n = (l.take n).map f := by simp
end Go.Proofs.Ytnbmmopjkkofoaa
namespace Go.Proofs.Ytnbmmopjkkofoaa
set_option linter.all false
/-- Two lists, element by element. -/
def Pt {α β : Type} (R : α → β → Prop) : List α → List β → Prop
  | [], [] => True
  | a :: as', b :: bs => R a b ∧ Pt R as' bs
  | _, _ => False
theorem Pt.refl {α : Type} {R : α → α → Prop} (h : ∀ a, R a a) : ∀ l : List α, Pt R l l
  | [] => trivial
  | a :: l => ⟨h a, Pt.refl h l⟩
theorem Pt.imp {α β : Type} {R S : α → β → Prop} (h : ∀ a b, R a b → S a b) : ∀ {l : List α} {l' : List β}, Pt R l l' → Pt S l l'
  | [], [], _ => trivial
  | _ :: _, _ :: _, ⟨h1, h2⟩ => ⟨h _ _ h1, Pt.imp h h2⟩
  | [], _ :: _, h => h.elim
  | _ :: _, [], h => h.elim
theorem Pt.len {α β : Type} {R : α → β → Prop} : ∀ {l : List α} {l' : List β}, Pt R l l' → l'.length = l.length
  | [], [], _ => rfl
  | _ :: _, _ :: _, ⟨_, h⟩ => by simp [Pt.len h]
  | [], _ :: _, h => h.elim
  | _ :: _, [], h => h.elim
theorem Pt.get {α β : Type} {R : α → β → Prop} : ∀ {l : List α} {l' : List β} {i : Nat} {a : α}, Pt R l l' → l[i]? = some a → ∃ b, l'[i]? = some b ∧ R a b
  | [], [], _, _, _, h => by simp at h
  | a :: l, b :: l', 0, x, ⟨h1, _⟩, h => by
    simp only [List.getElem?_cons_zero, Option.some.injEq] at h
    subst h
    exact ⟨b, rfl, h1⟩
  | a :: l, b :: l', i + 1, x, ⟨_, h2⟩, h => Pt.get (i := i) h2 (by simpa using h)
  | [], _ :: _, _, _, h, _ => h.elim
  | _ :: _, [], _, _, h, _ => h.elim
theorem Pt.drop {α β : Type} {R : α → β → Prop} {out : List Int} : ∀ {k : Nat} {l : List α} {l' : List β}, Pt R l l' → Pt R (dropF out k l) (dropF out k l')
  | _, [], [], _ => trivial
  | k, a :: l, b :: l', ⟨h1, h2⟩ => by
    simp only [dropF]
    cases out.any (fun n => (k : Int) == n)
    · exact ⟨h1, Pt.drop h2⟩
    · exact Pt.drop h2
  | _, [], _ :: _, h => h.elim
  | _, _ :: _, [], h => h.elim
theorem Pt.map {α β γ : Type} {R : α → β → Prop} {f : γ → α} {g : γ → β} (h : ∀ c, R (f c) (g c)) : ∀ l : List γ, Pt R (l.map f) (l.map g)
  | [] => trivial
  | c :: l => ⟨h c, Pt.map h l⟩
theorem Pt.and {α β : Type} {R S : α → β → Prop} : ∀ {l : List α} {l' : List β}, Pt R l l' → Pt S l l' → Pt (fun a b => R a b ∧ S a b) l l'
  | [], [], _, _ => trivial
  | _ :: _, _ :: _, ⟨h1, h2⟩, ⟨k1, k2⟩ => ⟨⟨h1, k1⟩, Pt.and h2 k2⟩
  | [], _ :: _, h, _ => h.elim
  | _ :: _, [], h, _ => h.elim
def SameWay (e e' : Ent5) : Prop := e'.sheet = e.sheet ∧ e'.frm = e.frm ∧ e'.to = e.to
def Wide (e e' : Ent5) : Prop := e'.lo ≤ e.lo ∧ e.hi ≤ e'.hi
def SameKind (e e' : Ent5) : Prop := e'.kind = e.kind
/-- What is a truth of the first register is one of the second. -/
structure Loose (r x : Reg) : Prop where
  st : x.start = r.start
  way : Pt SameWay r.entries x.entries
  wide : Pt Wide r.entries x.entries
  kind : Pt SameKind r.entries x.entries ∨ ∀ e ∈ x.entries, e.kind ≠ 2
  si : ∀ s ∈ x.sights, s ∈ r.sights
theorem comeF_same {d : Nat} {s : Int} : ∀ {k : Nat} {es es' : List Ent5} {c : List Int}, Pt SameWay es es' → comeF d s k es' c = comeF d s k es c
  | _, [], [], _, _ => rfl
  | k, e :: es, e' :: es', c, ⟨⟨h1, h2, h3⟩, h⟩ => by
    simp only [comeF, h1, h2, h3]
    exact comeF_same h
  | _, [], _ :: _, _, h => h.elim
  | _, _ :: _, [], _, h => h.elim
theorem places_same {r x : Reg} (hs : x.start = r.start) (h : Pt SameWay r.entries x.entries) (m : Nat) : placesA x m = placesA r m := by
  unfold placesA placesL
  rw [hs]
  congr 1
  funext j
  unfold placeN placeOf
  rw [hs, comeF_same h]
theorem openF_same {d : Nat} {a b : Int} : ∀ {k : Nat} {es es' : List Ent5} {n : Int}, Pt SameWay es es' → Pt SameKind es es' → openF d a b k es' n = openF d a b k es n
  | _, [], [], _, _, _ => rfl
  | k, e :: es, e' :: es', c, ⟨⟨h1, h2, h3⟩, h⟩, ⟨q, hq⟩ => by
    have q' : e'.kind = e.kind := q
    simp only [openF, h2, h3, q']
    exact openF_same h hq
  | _, [], _ :: _, _, h, _ => h.elim
  | _, _ :: _, [], _, h, _ => h.elim
theorem open_same {r x : Reg} (h : Pt SameWay r.entries x.entries) (q : Pt SameKind r.entries x.entries) (m : Nat) (a b : Int) : openN x m a b = openN r m a b := openF_same h q
theorem Loose.can {r x : Reg} (h : Loose r x) {k m : Nat} (hc : canB r k m = true) : canB x k m = true := by
  unfold canB at hc ⊢
  cases he : r.entries[k]? with
  | none => rw [he] at hc; cases hc
  | some e =>
    rw [he] at hc
    obtain ⟨e', he', h1, h2, h3⟩ := h.way.get he
    rw [he']
    dsimp only at hc ⊢
    unfold canE at hc ⊢
    rw [places_same h.st h.way, h1, h2]
    simp only [Bool.and_eq_true, Bool.or_eq_true] at hc ⊢
    refine ⟨hc.1, ?_⟩
    rcases h.kind with q | q
    · obtain ⟨e2, he2, q2⟩ := q.get he
      rw [he'] at he2
      cases he2
      have q3 : e'.kind = e.kind := q2
      rw [q3, open_same h.way q, h3]
      exact hc.2
    · exact .inl (by simpa using q e' (List.mem_of_getElem? he'))
theorem Loose.day {r x : Reg} (h : Loose r x) {n : Int} : ∀ {ts : List Int} {k m m' : Nat}, dayF r n k ts m = some m' → dayF x n k ts m = some m'
  | [], _, _, _, hd => hd
  | t :: ts, k, m, m', hd => by
    simp only [dayF] at hd ⊢
    cases hb : t != n with
    | true => rw [hb] at hd; exact h.day hd
    | false =>
      rw [hb] at hd
      simp only [cond_false] at hd ⊢
      cases hc : canB r k m with
      | false => rw [hc] at hd; cases hd
      | true =>
        rw [hc] at hd
        rw [h.can hc]
        exact h.day hd
theorem Loose.play {r x : Reg} (h : Loose r x) {t : List Int} : ∀ {c n m : Nat} {ds : List Nat}, playF r t c n m = some ds → playF x t c n m = some ds
  | 0, _, _, _, hp => hp
  | c + 1, n, m, ds, hp => by
    rw [playF] at hp ⊢
    split at hp
    · cases hp
    · rename_i d1 h1
      split at hp
      · cases hp
      · rename_i ds1 h2
        cases hp
        rw [h.day h1]
        simp only
        rw [h.play h2]
theorem dated_wide : ∀ {es es' : List Ent5} {ts : List Int}, Pt Wide es es' → datedF es ts = true → datedF es' ts = true
  | [], [], ts, _, h => h
  | e :: es, e' :: es', [], _, h => by simp [datedF] at h
  | e :: es, e' :: es', t :: ts, ⟨⟨h1, h2⟩, h3⟩, h => by
    simp only [datedF, Bool.and_eq_true, decide_eq_true_eq] at h ⊢
    exact ⟨by omega, dated_wide h3 h.2⟩
  | [], _ :: _, _, h, _ => h.elim
  | _ :: _, [], _, h, _ => h.elim
theorem Loose.seen {r x : Reg} (h : Loose r x) : ∀ {n : Nat} {ds : List Nat}, seenAll r n ds = true → seenAll x n ds = true
  | _, [], _ => rfl
  | n, d :: ds, hs => by
    simp only [seenAll, Bool.and_eq_true] at hs ⊢
    rw [places_same h.st h.way]
    refine ⟨List.all_eq_true.2 fun s hs' => List.all_eq_true.1 hs.1 s (h.si s hs'), h.seen hs.2⟩
theorem Loose.truth {r x : Reg} (h : Loose r x) {t : List Int} {ds : List Nat} (T : Truth r t ds) : Truth x t ds :=
  ⟨dated_wide h.wide T.dated, h.play T.play, h.seen T.seen⟩
theorem Loose.has {r x : Reg} (h : Loose r x) (v : Valid r) (vx : Valid x) (H : hasT r) : hasT x := by
  obtain ⟨t, ds, T⟩ := (goes_truth v).1 H
  exact (goes_truth vx).2 ⟨t, ds, h.truth T⟩
/-- What can have happened at the end of a day. -/
def Eve (r : Reg) (N m : Nat) : Prop := Rch r N N r.entries.length m
theorem Loose.eve {r x : Reg} (h : Loose r x) (v : Valid r) (vx : Valid x) {N m : Nat} (hN : N ≤ 9) (H : Eve r N m) : Eve x N m := by
  obtain ⟨t, ds, T, hd⟩ := (rch_truth v hN).1 H
  exact (rch_truth vx hN).2 ⟨t, ds, h.truth T, hd⟩
theorem Loose.drop {r x : Reg} (h : Loose r x) (hs : x.sights = r.sights) (out : List Int) : Loose (dropR r out) (dropR x out) where
  st := h.st
  way := h.way.drop
  wide := h.wide.drop
  kind := by
    rcases h.kind with q | q
    · exact .inl q.drop
    · exact .inr fun e he => q e (dropF_sub he)
  si := fun s hs' => by
    show s ∈ dropF out r.entries.length r.sights
    have : s ∈ dropF out x.entries.length x.sights := hs'
    rw [h.way.len, hs] at this
    exact this
theorem Inc.filter {f S S' : Nat} {m : List Int} {p : Int → Bool} (h : Inc f S m) (hp : ∀ x ∈ m, p x = true → x < (S' : Int)) : Inc f S' (m.filter p) :=
  ⟨h.1.filter p, fun x hx => by
    rw [List.mem_filter] at hx
    exact ⟨(h.2 x hx.1).1, hp x hx.1 hx.2⟩⟩
theorem hold_mem {r : Reg} {N s : Nat} {out : List Nat} (h : EvOK r N out) {x : Int} : x ∈ holdR r (s : Nat) out ↔ ∃ m, Eve r N m ∧ (placesA r m).getD s 0 = x := by
  unfold holdR
  obtain ⟨k1, k2⟩ := sort_sorted (holdL r out (s : Int).toNat)
  obtain ⟨_, q2⟩ := comp_sorted k1
  rw [q2, k2]
  unfold holdL
  rw [List.mem_map]
  constructor
  · rintro ⟨m, hm, e⟩
    exact ⟨m, (h.1 m).1 hm, e⟩
  · rintro ⟨m, hm, e⟩
    exact ⟨m, (h.1 m).2 hm, e⟩
theorem held_rng {r : Reg} {N : Nat} {a : Int} {out : List Nat} (h : EvOK r N out) (hne : out ≠ []) : (∀ m, Eve r N m → (heldR r a out).1 ≤ (heldN r m a : Int) ∧ (heldN r m a : Int) ≤ (heldR r a out).2) ∧ (∃ m, Eve r N m ∧ (heldR r a out).1 = (heldN r m a : Int)) ∧ ∃ m, Eve r N m ∧ (heldR r a out).2 = (heldN r m a : Int) := by
  cases out with
  | nil => exact (hne rfl).elim
  | cons d0 l =>
    have hm : ∀ y, y ∈ (heldN r d0 a : Int) :: l.map (fun d => (heldN r d a : Int)) ↔ ∃ m, Eve r N m ∧ (heldN r m a : Int) = y := fun y => by
      rw [← List.map_cons (f := fun d => (heldN r d a : Int)), List.mem_map]
      constructor
      · rintro ⟨m, hm, e⟩; exact ⟨m, (h.1 m).1 hm, e⟩
      · rintro ⟨m, hm, e⟩; exact ⟨m, (h.1 m).2 hm, e⟩
    unfold heldR
    refine ⟨fun m he => ⟨minL_le _ ((hm _).2 ⟨m, he, rfl⟩), maxL_ge _ ((hm _).2 ⟨m, he, rfl⟩)⟩, ?_, ?_⟩
    · obtain ⟨m, h1, h2⟩ := (hm _).1 (minL_mem (x := (heldN r d0 a : Int)) (l := l.map fun d => (heldN r d a : Int)))
      exact ⟨m, h1, h2.symm⟩
    · obtain ⟨m, h1, h2⟩ := (hm _).1 (maxL_mem (x := (heldN r d0 a : Int)) (l := l.map fun d => (heldN r d a : Int)))
      exact ⟨m, h1, h2.symm⟩
theorem owed_rng {r : Reg} {N : Nat} {a b : Int} {out : List Nat} (h : EvOK r N out) (hne : out ≠ []) : (∀ m, Eve r N m → (owedR r a b out).1 ≤ openN r m a b ∧ openN r m a b ≤ (owedR r a b out).2) ∧ (∃ m, Eve r N m ∧ (owedR r a b out).1 = openN r m a b) ∧ ∃ m, Eve r N m ∧ (owedR r a b out).2 = openN r m a b := by
  cases out with
  | nil => exact (hne rfl).elim
  | cons d0 l =>
    have hm : ∀ y, y ∈ openN r d0 a b :: l.map (fun d => openN r d a b) ↔ ∃ m, Eve r N m ∧ openN r m a b = y := fun y => by
      rw [← List.map_cons (f := fun d => openN r d a b), List.mem_map]
      constructor
      · rintro ⟨m, hm, e⟩; exact ⟨m, (h.1 m).1 hm, e⟩
      · rintro ⟨m, hm, e⟩; exact ⟨m, (h.1 m).2 hm, e⟩
    unfold owedR
    refine ⟨fun m he => ⟨minL_le _ ((hm _).2 ⟨m, he, rfl⟩), maxL_ge _ ((hm _).2 ⟨m, he, rfl⟩)⟩, ?_, ?_⟩
    · obtain ⟨m, h1, h2⟩ := (hm _).1 (minL_mem (x := openN r d0 a b) (l := l.map fun d => openN r d a b))
      exact ⟨m, h1, h2.symm⟩
    · obtain ⟨m, h1, h2⟩ := (hm _).1 (maxL_mem (x := openN r d0 a b) (l := l.map fun d => openN r d a b))
      exact ⟨m, h1, h2.symm⟩
/-- The first register allows no more on a day than the second. -/
structure Nar (x r : Reg) (N : Nat) : Prop where
  vx : Valid x
  v : Valid r
  hx : hasT x
  h : hasT r
  eve : ∀ m, Eve x N m → Eve r N m
  pl : ∀ m, placesA x m = placesA r m
  op : ∀ m a b, openN x m a b = openN r m a b
  st : x.start = r.start
  ho : x.houses = r.houses
theorem all_of {r : Reg} (v : Valid r) (h : hasT r) : allDays r ≠ [] := (goes_all_iff v).1 h
theorem wantE_0 {r : Reg} {is : Bool} {N : Int} (v : Valid r) (h : hasT r) (hi : is = true) (hN : 0 ≤ N ∧ N ≤ 9) : ∀ {out : List Nat} {e : Int}, AskP r is N out e → e = 0 ∧ EvOK r N.toNat out ∧ out ≠ [] := fun {out e} hk => by
  obtain ⟨n, rfl⟩ : ∃ n : Nat, N = n := ⟨N.toNat, by omega⟩
  obtain ⟨h1, h2⟩ := ask_ok v hi (by omega) hk
  rw [if_neg (all_of v h)] at h2
  exact ⟨h2, by simpa using h1, fun e0 => all_of v h ((ev_nil v (by omega) h1).1 e0)⟩
end Go.Proofs.Ytnbmmopjkkofoaa
namespace Go.Proofs.Ytnbmmopjkkofoaa
open Go.RowKit
set_option maxRecDepth 20000
set_option linter.all false
theorem modN {a b : Nat} (hb : 0 < b) : ((a : Int).tmod (b : Int)) = ((a % b : Nat) : Int) := by
  rw [Int.tmod_eq_emod_of_nonneg (by omega)]; rfl
theorem sheetB_of {r : Reg} {s : Int} (h0 : 0 ≤ s) (h : s < r.start.length) : sheetB r s = true := by
  simp [sheetB]; omega
theorem houseB_of {r : Reg} {a : Int} (v : Valid r) (h0 : 0 ≤ a) (h : a < r.houses) : houseB r a = true := by
  rw [houseB_eq v.h1 v.h4]
  simp
  omega
end Go.Proofs.Ytnbmmopjkkofoaa
namespace Go.Proofs.Ytnbmmopjkkofoaa
open Go.RowKit
set_option maxRecDepth 20000
set_option linter.all false
theorem Pt.set {α : Type} {R : α → α → Prop} (hr : ∀ a, R a a) : ∀ {l : List α} {i : Nat} {a b : α}, l[i]? = some a → R a b → Pt R l (l.set i b)
  | [], _, _, _, h, _ => by simp at h
  | x :: l, 0, a, b, h, hab => by
    simp only [List.getElem?_cons_zero, Option.some.injEq] at h
    subst h
    exact ⟨hab, Pt.refl hr l⟩
  | x :: l, i + 1, a, b, h, hab => ⟨hr x, Pt.set hr (i := i) (by simpa using h) hab⟩
theorem vec0 (b sz : Nat) : VecV (.slice (some ⟨b, 0, none⟩) 0 0) sz [] := .inr ⟨b, 0, 0, rfl, Nat.le_refl _, Nat.zero_le _, by simp⟩
theorem quoN {a b : Nat} (ha : a ≤ 9223372036854775807) (hb : 0 < b) : IntKind.i64.wrap ((a : Int).tdiv (b : Int)) = ((a / b : Nat) : Int) := by
  rw [Int.tdiv_eq_ediv_of_nonneg (by omega)]
  have : ((a : Int) / (b : Int)) = ((a / b : Nat) : Int) := by simp
  rw [this]
  have h := Nat.div_le_self a b
  generalize a / b = c at *
  exact i64w (by omega) rfl
end Go.Proofs.Ytnbmmopjkkofoaa
namespace Go.Proofs.Ytnbmmopjkkofoaa
set_option linter.all false
/-- Entries happen one after the other. -/
def seqStep : List Ent5 → RSt → Option RSt
  | [], st => some st
  | e :: es, st => match refStep e st with
    | none => none
    | some st' => seqStep es st'
theorem seqStep_append : ∀ {a b : List Ent5} {st : RSt}, seqStep (a ++ b) st = (seqStep a st).bind (seqStep b)
  | [], b, st => rfl
  | e :: a, b, st => by
    simp only [List.cons_append, seqStep]
    cases refStep e st with
    | none => rfl
    | some st' => exact seqStep_append
def geF (n : Int) : List Ent5 → List Int → List Ent5
  | e :: es, t :: ts => if n ≤ t then e :: geF n es ts else geF n es ts
  | _, _ => []
def eqF (n : Int) : List Ent5 → List Int → List Ent5
  | e :: es, t :: ts => if t = n then e :: eqF n es ts else eqF n es ts
  | _, _ => []
theorem refDay_eq {day : Int} : ∀ {es : List Ent5} {ts : List Int} {st : RSt}, ts.length = es.length → refDayF day es ts st = seqStep (eqF day es ts) st
  | [], _, _, _ => rfl
  | _ :: _, [], _, h => by simp at h
  | e :: es, t :: ts, st, h => by
    simp only [refDayF, eqF]
    by_cases ht : t = day
    · have : (t != day) = false := by simpa using ht
      rw [this, if_pos ht]
      simp only [cond_false, seqStep]
      cases refStep e st with
      | none => rfl
      | some st' => exact refDay_eq (by simpa using h)
    · have : (t != day) = true := by simpa using ht
      rw [this, if_neg ht]
      exact refDay_eq (by simpa using h)
theorem geF_all {n : Int} : ∀ {es : List Ent5} {ts : List Int}, ts.length = es.length → (∀ t ∈ ts, n ≤ t) → geF n es ts = es
  | [], ts, _, _ => by cases ts <;> rfl
  | _ :: _, [], h, _ => by simp at h
  | e :: es, t :: ts, hl, h => by
    simp only [geF]
    rw [if_pos (h t List.mem_cons_self), geF_all (by simpa using hl) fun x hx => h x (List.mem_cons_of_mem _ hx)]
theorem eqF_none {n : Int} : ∀ {es : List Ent5} {ts : List Int}, (∀ t ∈ ts, n < t) → eqF n es ts = []
  | [], ts, _ => by cases ts <;> rfl
  | _ :: _, [], _ => rfl
  | e :: es, t :: ts, h => by
    have := h t List.mem_cons_self
    simp only [eqF]
    rw [if_neg (by omega)]
    exact eqF_none fun x hx => h x (List.mem_cons_of_mem _ hx)
theorem geF_split {n : Int} : ∀ {es : List Ent5} {ts : List Int}, ts.Pairwise (· ≤ ·) → geF n es ts = eqF n es ts ++ geF (n + 1) es ts
  | [], ts, _ => by cases ts <;> rfl
  | _ :: _, [], _ => rfl
  | e :: es, t :: ts, h => by
    rw [List.pairwise_cons] at h
    have ih := geF_split (n := n) (es := es) h.2
    simp only [geF, eqF]
    by_cases h1 : t = n
    · rw [if_pos (by omega), if_pos h1, if_neg (by omega), ih]; rfl
    · by_cases h2 : n ≤ t
      · rw [if_pos h2, if_neg h1, if_pos (by omega), ih, eqF_none fun x hx => by have := h.1 x hx; omega]; rfl
      · rw [if_neg h2, if_neg h1, if_neg (by omega), ih]
theorem seq_play {r : Reg} {t : List Int} (hl : t.length = r.entries.length) (hs : t.Pairwise (· ≤ ·)) : ∀ (cnt n : Nat) (out : List Int) (st : RSt), (∃ st', seqStep (geF (n : Int) r.entries t) st = some st') → (refPlayF r t cnt n out st).2 = true
  | 0, _, _, _, _ => rfl
  | cnt + 1, n, out, st, ⟨st', h⟩ => by
    rw [geF_split hs, seqStep_append, ← refDay_eq hl] at h
    simp only [refPlayF]
    cases hd : refDayF (n : Int) r.entries t st with
    | none => rw [hd] at h; cases h
    | some st1 =>
      rw [hd] at h
      exact seq_play hl hs cnt (n + 1) _ _ ⟨st', by rw [show ((n + 1 : Nat) : Int) = (n : Int) + 1 by omega]; exact h⟩
/-- What has truly happened so far. -/
structure Hap (houses : Int) (start : List Int) (k day : Nat) (now open_ : List Int) (es : List Ent5) (ts : List Int) : Prop where
  nl : now.length = start.length
  ol : open_.length = 16
  el : es.length ≤ k
  tl : ts.length = es.length
  so : ts.Pairwise (· ≤ ·)
  td : ∀ t ∈ ts, 0 ≤ t ∧ t ≤ (day : Int) ∧ t ≤ 9
  da : datedF es ts = true
  en : ∀ e ∈ es, 0 ≤ e.kind ∧ e.kind ≤ 2 ∧ 0 ≤ e.sheet ∧ e.sheet ≤ (start.length : Int) - 1 ∧ 0 ≤ e.frm ∧ e.frm ≤ houses - 1 ∧ 0 ≤ e.to ∧ e.to ≤ houses - 1 ∧ e.frm ≠ e.to ∧ 0 ≤ e.lo ∧ e.lo ≤ e.hi ∧ e.hi ≤ 9
  nb : ∀ h ∈ now, 0 ≤ h ∧ h ≤ houses - 1
  ob : ∀ z ∈ open_, -(k : Int) ≤ z ∧ z ≤ (k : Int)
  st : seqStep es (start ++ List.replicate (4 - start.length) 0, List.replicate 16 0) = some (now ++ List.replicate (4 - start.length) 0, open_)
theorem dated_append : ∀ {es : List Ent5} {ts : List Int} {e : Ent5} {t : Int}, datedF es ts = true → e.lo ≤ t → t ≤ e.hi → datedF (es ++ [e]) (ts ++ [t]) = true
  | [], [], e, t, _, h1, h2 => by simp [datedF, h1, h2]
  | [], _ :: _, _, _, h, _, _ => by simp [datedF] at h
  | _ :: _, [], _, _, h, _, _ => by simp [datedF] at h
  | e :: es, t :: ts, e', t', h, h1, h2 => by
    simp only [datedF, Bool.and_eq_true, List.cons_append] at h ⊢
    exact ⟨h.1, dated_append h.2 h1 h2⟩
theorem Hap.start {houses : Int} {st : List Int} (h : ∀ x ∈ st, 0 ≤ x ∧ x ≤ houses - 1) : Hap houses st 0 0 st (List.replicate 16 0) [] [] :=
  ⟨rfl, by simp, Nat.le_refl _, rfl, List.Pairwise.nil, fun _ h => (by cases h), rfl, fun _ h => (by cases h), h, fun z hz => (by rw [List.eq_of_mem_replicate hz]; simp), rfl⟩
theorem Hap.idle {houses : Int} {st now open_ : List Int} {k day day' : Nat} {es : List Ent5} {ts : List Int} (h : Hap houses st k day now open_ es ts) (hd : day ≤ day') : Hap houses st k day' now open_ es ts :=
  { h with td := fun t ht => by have := h.td t ht; omega }
theorem Hap.more {houses : Int} {st now open_ : List Int} {k k' day : Nat} {es : List Ent5} {ts : List Int} (h : Hap houses st k day now open_ es ts) (hk : k ≤ k') : Hap houses st k' day now open_ es ts :=
  { h with el := Nat.le_trans h.el hk, ob := fun z hz => by have := h.ob z hz; omega }
theorem mem_upd {l : List Int} {i : Nat} {x z : Int} (h : z ∈ upd l i x) : z ∈ l ∨ ∃ y, (y ∈ l ∨ y = 0) ∧ z = y + x := by
  unfold upd at h
  rcases List.mem_or_eq_of_mem_set h with h | h
  · exact .inl h
  · refine .inr ⟨l.getD i 0, ?_, h⟩
    by_cases hi : i < l.length
    · left
      rw [List.getD_eq_getElem?_getD, List.getElem?_eq_getElem hi]
      exact List.getElem_mem hi
    · right
      exact getD_ge (by omega)
theorem Hap.step {houses : Int} {st now open_ open2 : List Int} {k day : Nat} {es : List Ent5} {ts : List Int} {kind to lo hi : Int} {s : Nat} (h : Hap houses st k day now open_ es ts) (hd : day ≤ 9) (hs : s < st.length) (h4 : st.length ≤ 4)
    (hto : 0 ≤ to ∧ to ≤ houses - 1) (hne : now.getD s 0 ≠ to) (hlo : 0 ≤ lo ∧ lo ≤ (day : Int)) (hhi : (day : Int) ≤ hi ∧ hi ≤ 9)
    (hk : (kind = 2 ∧ 0 < open_.getD (to.toNat * 4 + (now.getD s 0).toNat) 0 ∧ open2 = upd open_ (to.toNat * 4 + (now.getD s 0).toNat) (-1)) ∨ (kind = 1 ∧ open2 = upd open_ ((now.getD s 0).toNat * 4 + to.toNat) 1) ∨ (kind = 0 ∧ open2 = open_)) :
    Hap houses st (k + 1) day (now.set s to) open2 (es ++ [⟨kind, (s : Int), now.getD s 0, to, lo, hi⟩]) (ts ++ [(day : Int)]) := by
  have hfr : 0 ≤ now.getD s 0 ∧ now.getD s 0 ≤ houses - 1 := h.nb _ (getD_mem (by rw [h.nl]; exact hs))
  obtain ⟨h1, h2, h3, h4', h5, h6, h7, h8, h9, h10, h11⟩ := h
  have hn0 : (now ++ List.replicate (4 - st.length) 0).getD s 0 = now.getD s 0 := by
    simp only [List.getD_eq_getElem?_getD]
    rw [List.getElem?_append_left (by omega)]
  have hnd : ∀ z, (now.set s to ++ List.replicate (4 - st.length) z) = (now ++ List.replicate (4 - st.length) z).set s to := fun z => by
    rw [List.set_append_left _ _ (by omega)]
  refine ⟨by simp [h1], ?_, by simp; omega, by simp [h4'], List.pairwise_append.2 ⟨h5, by simp, fun x hx y hy => ?_⟩, fun t ht => ?_, dated_append h7 hlo.2 hhi.1, fun e he => ?_, fun x hx => ?_, fun z hz => ?_, ?_⟩
  · rcases hk with ⟨_, _, rfl⟩ | ⟨_, rfl⟩ | ⟨_, rfl⟩
    · rw [upd_len]; exact h2
    · rw [upd_len]; exact h2
    · exact h2
  · rw [List.mem_singleton] at hy
    subst hy
    exact (h6 x hx).2.1
  · rcases List.mem_append.1 ht with ht | ht
    · exact h6 t ht
    · rw [List.mem_singleton] at ht; omega
  · rcases List.mem_append.1 he with he | he
    · exact h8 e he
    · rw [List.mem_singleton] at he
      subst he
      have hkk : 0 ≤ kind ∧ kind ≤ 2 := by rcases hk with ⟨h, _⟩ | ⟨h, _⟩ | ⟨h, _⟩ <;> omega
      exact ⟨hkk.1, hkk.2, by show (0 : Int) ≤ (s : Int); omega, by show (s : Int) ≤ _; omega, hfr.1, hfr.2, hto.1, hto.2, hne, hlo.1, by show lo ≤ hi; omega, hhi.2⟩
  · rcases List.mem_or_eq_of_mem_set hx with hx | hx
    · exact h9 x hx
    · omega
  · rcases hk with ⟨_, _, rfl⟩ | ⟨_, rfl⟩ | ⟨_, rfl⟩
    · rcases mem_upd hz with hz | ⟨y, hy | hy, rfl⟩
      · have := h10 z hz; omega
      · have := h10 y hy; omega
      · omega
    · rcases mem_upd hz with hz | ⟨y, hy | hy, rfl⟩
      · have := h10 z hz; omega
      · have := h10 y hy; omega
      · omega
    · have := h10 z hz; omega
  · rw [seqStep_append, h11]
    simp only [Option.bind_some, seqStep, refStep, Int.toNat_natCast, hn0, bne_self_eq_false, Bool.false_or]
    rcases hk with ⟨rfl, hp, rfl⟩ | ⟨rfl, rfl⟩ | ⟨rfl, rfl⟩
    · have : decide (open_.getD (to.toNat * 4 + (now.getD s 0).toNat) 0 < 1) = false := by simp only [decide_eq_false_iff_not]; omega
      simp only [this, beq_self_eq_true, Bool.and_false, cond_false, cond_true]
      simp [hnd]
    · simp [hnd]
    · simp [hnd]
def hapReg (houses : Int) (start : List Int) (es : List Ent5) (si : List Sight5) : Reg := ⟨houses, start, es, si⟩
theorem Hap.reg {houses : Int} {st now open_ : List Int} {k day : Nat} {es : List Ent5} {ts : List Int} (h : Hap houses st k day now open_ es ts) (v : Valid ⟨houses, st, [], []⟩) (hk : k ≤ 6) : Valid (hapReg houses st es []) ∧ ∃ ds, Truth (hapReg houses st es []) ts ds ∧ ds.length = 10 ∧ ∀ n, n < 10 → Agrees (hapReg houses st es []) ts (refPlay (hapReg houses st es []) ts).1 n (ds.getD n 0) := by
  have v' : Valid (hapReg houses st es []) := ⟨v.h1, v.h4, v.s1, v.s4, Nat.le_trans h.el hk, Nat.zero_le _, v.st, h.en, fun _ h => by cases h⟩
  refine ⟨v', ?_⟩
  have hp : (refPlay (hapReg houses st es []) ts).2 = true := by
    unfold refPlay
    refine seq_play (r := hapReg houses st es []) h.tl h.so 10 0 _ _ ⟨(now ++ List.replicate (4 - st.length) 0, open_), ?_⟩
    rw [show (hapReg houses st es []).entries = es from rfl, geF_all (es := es) h.tl fun t ht => by have := h.td t ht; omega]
    have hs : startA (hapReg houses st es []) (hapReg houses st es []).start.length = st ++ List.replicate (4 - st.length) 0 := by
      show st.take st.length ++ _ = _
      rw [List.take_length]
      rfl
    rw [hs]
    exact h.st
  rcases play_ref v' h.da with ⟨_, k2⟩ | ⟨ds, k1, k2, _, k4⟩
  · rw [hp] at k2; cases k2
  · refine ⟨ds, ⟨h.da, k1, ?_⟩, k2, k4⟩
    clear k1 k2 k4
    have : ∀ (n : Nat) (ds : List Nat), seenAll (hapReg houses st es []) n ds = true := fun n ds => by
      induction ds generalizing n with
      | nil => rfl
      | cons d ds ih => simp only [seenAll, Bool.and_eq_true]; exact ⟨rfl, ih _⟩
    exact this 0 ds
theorem truth_play {r : Reg} (v : Valid r) {t : List Int} {ds : List Nat} (T : Truth r t ds) : (refPlay r t).2 = true := by
  rcases play_ref v T.dated with ⟨k1, _⟩ | ⟨_, _, _, k3, _⟩
  · rw [T.play] at k1; cases k1
  · exact k3
theorem Hap.stepN {houses : Int} {st now open_ open2 : List Int} {k day f to : Nat} {es : List Ent5} {ts : List Int} {kind lo hi : Int} {s : Nat} (h : Hap houses st k day now open_ es ts) (hd : day ≤ 9) (hs : s < st.length) (h4 : st.length ≤ 4) (hf : now.getD s 0 = (f : Int))
    (hto : (to : Int) ≤ houses - 1) (hne : f ≠ to) (hlo : 0 ≤ lo ∧ lo ≤ (day : Int)) (hhi : (day : Int) ≤ hi ∧ hi ≤ 9)
    (hk : (kind = 2 ∧ 0 < open_.getD (to * 4 + f) 0 ∧ open2 = upd open_ (to * 4 + f) (-1)) ∨ (kind = 1 ∧ open2 = upd open_ (f * 4 + to) 1) ∨ (kind = 0 ∧ open2 = open_)) :
    Hap houses st (k + 1) day (now.set s (to : Int)) open2 (es ++ [⟨kind, (s : Int), (f : Int), (to : Int), lo, hi⟩]) (ts ++ [(day : Int)]) := by
  have := h.step (kind := kind) (to := (to : Int)) (lo := lo) (hi := hi) (open2 := open2) hd hs h4 ⟨by omega, hto⟩ (by rw [hf]; omega) hlo hhi (by rw [hf]; simpa using hk)
  rw [hf] at this
  exact this
theorem rot_ne {f a H : Nat} (hf : f < H) (h2 : 2 ≤ H) : f ≠ (f + 1 + a % (H - 1)) % H ∧ (f + 1 + a % (H - 1)) % H < H := by
  have h1 := Nat.mod_lt a (show 0 < H - 1 by omega)
  generalize a % (H - 1) = q at *
  refine ⟨?_, Nat.mod_lt _ (by omega)⟩
  by_cases h : f + 1 + q < H
  · rw [Nat.mod_eq_of_lt h]; omega
  · rw [Nat.mod_eq_sub_mod (by omega), Nat.mod_eq_of_lt (by omega)]; omega
/-- Sights of what was so. -/
theorem sights_truth {r : Reg} {t : List Int} {ds : List Nat} {si : List Sight5} (v : Valid r) (hr : r.sights = []) (T : Truth r t ds) (hd : ds.length = 10) (ha : ∀ n, n < 10 → Agrees r t (refPlay r t).1 n (ds.getD n 0)) (h4 : si.length ≤ 4)
    (hs : ∀ s ∈ si, (0 ≤ s.sheet ∧ s.sheet ≤ (r.start.length : Int) - 1) ∧ (0 ≤ s.day ∧ s.day ≤ 9) ∧ s.house = houseAt (refPlay r t).1 s.day.toNat s.sheet.toNat) : Valid ⟨r.houses, r.start, r.entries, si⟩ ∧ Truth ⟨r.houses, r.start, r.entries, si⟩ t ds := by
  have hs4 := v.s4
  have hpl : ∀ m, placesA ⟨r.houses, r.start, r.entries, si⟩ m = placesA r m := fun m => rfl
  refine ⟨⟨v.h1, v.h4, v.s1, v.s4, v.e6, h4, v.st, v.en, fun s hs' => ?_⟩, T.dated, ?_, ?_⟩
  · obtain ⟨h1, h2, h3⟩ := hs s hs'
    obtain ⟨q1, _, q3, _⟩ := ha s.day.toNat (by omega)
    have := q3 s.sheet.toNat (by omega)
    rw [← q1 s.sheet.toNat (by omega), ← h3] at this
    exact ⟨h1.1, h1.2, this.1, by show s.house ≤ r.houses - 1; omega, h2.1, h2.2⟩
  · have L : Loose r ⟨r.houses, r.start, r.entries, []⟩ := ⟨rfl, Pt.refl (fun _ => ⟨rfl, rfl, rfl⟩) _, Pt.refl (fun _ => ⟨Int.le_refl _, Int.le_refl _⟩) _, .inl (Pt.refl (R := SameKind) (fun _ => rfl) _), fun _ h => by cases h⟩
    have L2 : Loose ⟨r.houses, r.start, r.entries, si⟩ ⟨r.houses, r.start, r.entries, []⟩ := ⟨rfl, Pt.refl (fun _ => ⟨rfl, rfl, rfl⟩) _, Pt.refl (fun _ => ⟨Int.le_refl _, Int.le_refl _⟩) _, .inl (Pt.refl (R := SameKind) (fun _ => rfl) _), fun _ h => by cases h⟩
    have L3 : Pt SameWay r.entries r.entries := Pt.refl (fun _ => ⟨rfl, rfl, rfl⟩) _
    have key : ∀ (cnt n m : Nat) (ds : List Nat), playF r t cnt n m = some ds → playF ⟨r.houses, r.start, r.entries, si⟩ t cnt n m = some ds := by
      have hd : ∀ (n : Int) (ts : List Int) (k m : Nat), dayF ⟨r.houses, r.start, r.entries, si⟩ n k ts m = dayF r n k ts m := fun n ts => by
        induction ts with
        | nil => intro k m; rfl
        | cons t ts ih =>
          intro k m
          simp only [dayF]
          rw [ih, ih]
          rfl
      intro cnt
      induction cnt with
      | zero => exact fun n m ds h => h
      | succ cnt ih =>
        intro n m ds h
        rw [playF] at h ⊢
        rw [hd]
        split at h
        · cases h
        · rename_i d1 h1
          split at h
          · cases h
          · rename_i ds1 h2
            cases h
            rw [ih _ _ _ h2]
    exact key 10 0 0 ds T.play
  · have key : ∀ (l : List Nat) (n : Nat), (∀ j x, l[j]? = some x → ds[n + j]? = some x) → seenAll ⟨r.houses, r.start, r.entries, si⟩ n l = true := fun l => by
      induction l with
      | nil => intro n _; rfl
      | cons d l ih =>
        intro n h
        simp only [seenAll, Bool.and_eq_true]
        refine ⟨List.all_eq_true.2 fun s hs' => ?_, ih (n + 1) fun j x hj => by rw [show n + 1 + j = n + (j + 1) by omega]; exact h (j + 1) x (by simpa using hj)⟩
        obtain ⟨h1, h2, h3⟩ := hs s hs'
        unfold seenB
        rw [hpl]
        by_cases e : s.day = (n : Int)
        · have hd0 := h 0 d rfl
          rw [Nat.add_zero] at hd0
          obtain ⟨q1, _, q3, _⟩ := ha n (by omega)
          have hg : ds.getD n 0 = d := by rw [List.getD_eq_getElem?_getD, hd0]; rfl
          rw [hg] at q1
          have h5 : (placesA r d).getD s.sheet.toNat 0 = s.house := by
            rw [← q1 s.sheet.toNat (by omega), h3, show s.day.toNat = n by omega]
          show ((s.day != (n : Int)) || ((placesA r d).getD s.sheet.toNat 0 == s.house)) = true
          rw [h5, beq_self_eq_true, Bool.or_true]
        · have : (s.day != (n : Int)) = true := by simpa using e
          rw [this]
          rfl
    exact key ds 0 fun j x hj => by rw [Nat.zero_add]; exact hj
end Go.Proofs.Ytnbmmopjkkofoaa
namespace Go.Proofs.Ytnbmmopjkkofoaa
set_option linter.all false
theorem dated_take : ∀ {es : List Ent5} {ts : List Int} {k : Nat}, datedF es ts = true → datedF (es.take k) (ts.take k) = true
  | _, _, 0, _ => by simp [datedF]
  | [], [], k + 1, _ => rfl
  | [], _ :: _, _ + 1, h => by simp [datedF] at h
  | _ :: _, [], _ + 1, h => by simp [datedF] at h
  | e :: es, t :: ts, k + 1, h => by
    simp only [datedF, Bool.and_eq_true, List.take_succ_cons] at h ⊢
    exact ⟨h.1, dated_take h.2⟩
theorem hap_pref {houses : Int} {st now open_ : List Int} {k day : Nat} {es : List Ent5} {ts : List Int} (h : Hap houses st k day now open_ es ts) (v : Valid ⟨houses, st, [], []⟩) (hk : k ≤ 6) (si : List Sight5) (j : Nat) : hasT (prefR ⟨houses, st, es, si⟩ j) := by
  have v' : Valid (prefR ⟨houses, st, es, si⟩ j) := ⟨v.h1, v.h4, v.s1, v.s4, by show (es.take j).length ≤ 6; have := h.el; rw [List.length_take]; omega, Nat.zero_le _, v.st, fun e he => h.en e (List.mem_of_mem_take he), fun _ h => by cases h⟩
  have htl : (ts.take j).length = (es.take j).length := by rw [List.length_take, List.length_take, h.tl]
  have hseq : ∃ st', seqStep (es.take j) (st ++ List.replicate (4 - st.length) 0, List.replicate 16 0) = some st' := by
    have := h.st
    rw [← List.take_append_drop j es, seqStep_append] at this
    cases hq : seqStep (es.take j) (st ++ List.replicate (4 - st.length) 0, List.replicate 16 0) with
    | none => rw [hq] at this; cases this
    | some st' => exact ⟨st', rfl⟩
  have hp : (refPlay (prefR ⟨houses, st, es, si⟩ j) (ts.take j)).2 = true := by
    unfold refPlay
    refine seq_play (r := prefR ⟨houses, st, es, si⟩ j) htl (h.so.sublist (List.take_sublist _ _)) 10 0 _ _ ?_
    rw [show (prefR ⟨houses, st, es, si⟩ j).entries = es.take j from rfl, geF_all htl fun t ht => by have := h.td t (List.mem_of_mem_take ht); omega]
    have hs : startA (prefR ⟨houses, st, es, si⟩ j) (prefR ⟨houses, st, es, si⟩ j).start.length = st ++ List.replicate (4 - st.length) 0 := by
      show st.take st.length ++ _ = _
      rw [List.take_length]
      rfl
    rw [hs]
    exact hseq
  have hd : datedF (prefR ⟨houses, st, es, si⟩ j).entries (ts.take j) = true := dated_take h.da
  rcases play_ref v' hd with ⟨_, k2⟩ | ⟨ds, k1, k2, _, k4⟩
  · rw [hp] at k2; cases k2
  · refine (goes_truth v').2 ⟨ts.take j, ds, hd, k1, ?_⟩
    have : ∀ (n : Nat) (ds : List Nat), seenAll (prefR ⟨houses, st, es, si⟩ j) n ds = true := fun n ds => by
      induction ds generalizing n with
      | nil => rfl
      | cons d ds ih => simp only [seenAll, Bool.and_eq_true]; exact ⟨rfl, ih _⟩
    exact this 0 ds
theorem first_none {r : Reg} (v : Valid r) (h : ∀ j, hasT (prefR r j)) : firstR r = (0, 7) := by
  rcases first_law v with ⟨e, _⟩ | ⟨j, _, _, _, hn⟩
  · exact e
  · exact (hn (h (j + 1))).elim
theorem hasB_mem {l : List Int} {x : Int} : hasB l x = true ↔ x ∈ l := by
  unfold hasB
  rw [List.any_eq_true]
  exact ⟨fun ⟨y, h1, h2⟩ => by have : y = x := by simpa using h2
                               exact this ▸ h1, fun h => ⟨x, h, by simp⟩⟩
theorem open_self {d : Nat} {a : Int} : ∀ {k : Nat} {es : List Ent5} {n : Int}, (∀ e ∈ es, e.frm ≠ e.to) → openF d a a k es n = n
  | _, [], _, _ => rfl
  | k, e :: es, n, h => by
    have he := h e List.mem_cons_self
    rw [openF_def]
    have : openD a a e = 0 := by
      unfold openD
      have h1 : ((e.kind == 1) && (e.frm == a) && (e.to == a)) = false := by
        cases hb : ((e.kind == 1) && (e.frm == a) && (e.to == a)) with
        | false => rfl
        | true => simp at hb; omega
      have h2 : ((e.kind == 2) && (e.frm == a) && (e.to == a)) = false := by
        cases hb : ((e.kind == 2) && (e.frm == a) && (e.to == a)) with
        | false => rfl
        | true => simp at hb; omega
      rw [h1, h2]; rfl
    rw [this]
    cases d.testBit k
    · simp only [cond_false, Int.add_zero]; exact open_self fun x hx => h x (List.mem_cons_of_mem _ hx)
    · simp only [cond_true, Int.add_zero]; exact open_self fun x hx => h x (List.mem_cons_of_mem _ hx)
theorem openN_self {r : Reg} (v : Valid r) (m : Nat) (a : Int) : openN r m a a = 0 := open_self fun e he => (v.en e he).2.2.2.2.2.2.2.2.1
theorem openN_nn {r : Reg} (v : Valid r) {N m a b : Nat} (hN : N ≤ 9) (ha : a < 4) (hb : b < 4) (h : Eve r N m) : 0 ≤ openN r m (a : Int) (b : Int) := by
  obtain ⟨t, ds, T, hd⟩ := (rch_truth v hN).1 h
  obtain ⟨m', h1, h2⟩ := truth_pair v T hN
  rw [hd] at h1
  cases h1
  have := h2.2.1 a b ha hb
  omega
/-- How many of the first sheets a house has. -/
def hadN (o : List Int) (N s : Nat) (a : Nat) : Nat := (List.range s).countP fun j => houseAt o N j == (a : Int)
def hadL (o : List Int) (N s : Nat) : List Int := (List.range 4).map fun a => (hadN o N s a : Int)
theorem hadL_len (o : List Int) (N s : Nat) : (hadL o N s).length = 4 := by simp [hadL]
theorem hadL_get {o : List Int} {N s a : Nat} (h : a < 4) : (hadL o N s).getD a 0 = (hadN o N s a : Int) := by
  unfold hadL
  rw [List.getD_eq_getElem?_getD, List.getElem?_map, List.getElem?_range h]
  rfl
theorem hadL_step {o : List Int} {N s h : Nat} (hh : houseAt o N s = (h : Int)) (h4 : h < 4) : (hadL o N s).set h ((hadL o N s).getD h 0 + 1) = hadL o N (s + 1) := by
  apply ext_getD (by rw [List.length_set, hadL_len, hadL_len])
  intro j hj
  rw [List.length_set, hadL_len] at hj
  rw [getD_set, hadL_get hj, hadL_get hj, hadL_get h4]
  unfold hadN
  rw [List.range_succ, List.countP_append, List.countP_cons, List.countP_nil, hh]
  rw [hadL_len]
  by_cases e : h = j
  · subst e; simp [h4]
  · rw [if_neg (by omega)]
    have : ((h : Int) == (j : Int)) = false := by simp; omega
    rw [this]; simp
theorem had_held {r : Reg} {N m : Nat} {o : List Int} {a : Nat} (v : Valid r) (p : Pair r N m o) : (hadN o N r.start.length a : Int) = (heldN r m (a : Int) : Nat) := count_eq (a := (a : Int)) v p
def sumTo (f : Nat → Nat) : Nat → Nat
  | 0 => 0
  | n + 1 => sumTo f n + f n
theorem sum_had {o : List Int} {N H : Nat} : ∀ {s : Nat}, (∀ j, j < s → 0 ≤ houseAt o N j ∧ houseAt o N j < (H : Int)) → sumTo (hadN o N s) H = s
  | 0, _ => by
    have : ∀ n, sumTo (hadN o N 0) n = 0 := fun n => by
      induction n with
      | zero => rfl
      | succ n ih => simp only [sumTo, ih]; rfl
    exact this H
  | s + 1, h => by
    have ih := sum_had (s := s) fun j hj => h j (by omega)
    obtain ⟨k, hk⟩ : ∃ k : Nat, houseAt o N s = (k : Int) := ⟨(houseAt o N s).toNat, by have := h s (by omega); omega⟩
    have hkH : k < H := by have := h s (by omega); omega
    have hstep : ∀ a, hadN o N (s + 1) a = hadN o N s a + if k = a then 1 else 0 := fun a => by
      unfold hadN
      rw [List.range_succ, List.countP_append, List.countP_cons, List.countP_nil, hk]
      by_cases e : k = a
      · subst e; simp
      · rw [if_neg e]
        have : ((k : Int) == (a : Int)) = false := by simp; omega
        rw [this]; simp
    have key : ∀ n, sumTo (hadN o N (s + 1)) n = sumTo (hadN o N s) n + if k < n then 1 else 0 := fun n => by
      induction n with
      | zero => rfl
      | succ n ih2 =>
        simp only [sumTo, ih2, hstep]
        by_cases h1 : k < n
        · rw [if_pos h1, if_neg (by omega), if_pos (by omega)]; omega
        · by_cases h2 : k = n
          · rw [if_neg h1, if_pos h2, if_pos (by omega)]; omega
          · rw [if_neg h1, if_neg h2, if_neg (by omega)]; omega
    rw [key H, ih, if_pos hkH]
end Go.Proofs.Ytnbmmopjkkofoaa
namespace Go.Proofs.Ytnbmmopjkkofoaa
open Go.RowKit
set_option maxRecDepth 20000
set_option linter.all false
def cells1 (l : List Int) : List TV := ((l.map intE).flatten).map .d
theorem cells1_eq (l : List Int) : cells1 l = l.map fun n => TV.d (.int .i64 n) := by
  unfold cells1
  induction l with
  | nil => rfl
  | cons x l ih => simp only [List.map_cons, List.flatten_cons, List.map_append, ih]; rfl
theorem c1_get {l : List Int} {rest : List TV} {i k : Nat} {x : Int} (h : l[i]? = some x) (hk : k = i) : (cells1 l ++ rest)[k]? = some (.d (.int .i64 x)) := by
  have hlt := (List.getElem?_eq_some_iff.1 h).1
  rw [cells1_eq, hk, List.getElem?_append_left (by simpa using hlt), List.getElem?_map, h]
  rfl
theorem c1_set {l : List Int} {rest : List TV} {i k : Nat} {x : Int} (h : i < l.length) (hk : k = i) : (cells1 l ++ rest).set k (.d (.int .i64 x)) = cells1 (l.set i x) ++ rest := by
  rw [cells1_eq, cells1_eq, hk, List.set_append_left _ _ (by simpa using h), List.map_set]
theorem c1_len (l : List Int) : (cells1 l).length = l.length := by rw [cells1_eq]; simp
theorem vec1 {l : List Int} {v : Value} (h : VecV v 1 (cells1 l)) (h0 : 0 < l.length) : ∃ b c, v = .slice (some ⟨b, 0, none⟩) l.length c ∧ l.length ≤ c ∧ c ≤ maxLen := by
  have hl := c1_len l
  rcases h with ⟨_, h⟩ | ⟨b, n, c, rfl, h1, h2, h3⟩
  · rw [h] at hl; simp at hl; omega
  · have : n = l.length := by omega
    subst this
    exact ⟨b, c, rfl, h1, h2⟩
theorem wordN_lt {l : List Nat} {i : Nat} (h : ∀ x ∈ l, x < 65536) : wordN l i < 65536 := by
  unfold wordN
  cases hb : (l.length : Int) == 0 with
  | true => simp
  | false =>
    have h0 : 0 < l.length := by simp at hb; cases l with | nil => exact (hb rfl).elim | cons _ _ => simp
    have hm := Nat.mod_lt i h0
    show l.getD (i % l.length) 0 < 65536
    rw [List.getD_eq_getElem?_getD, List.getElem?_eq_getElem hm]
    exact h _ (List.getElem_mem hm)
theorem ents_add {es : List Ent5} {e : Ent5} : es.map entE ++ [entE e] = (es ++ [e]).map entE := by simp
theorem ints_add {l : List Int} {x : Int} : l.map intE ++ [intE x] = (l ++ [x]).map intE := by simp
theorem sights_add {l : List Sight5} {x : Sight5} : l.map sightE ++ [sightE x] = (l ++ [x]).map sightE := by simp
def HapX (H : Nat) (start : List Int) : Type := {x : Reg × List Int // x.1.houses = (H : Int) ∧ x.1.start = start ∧ Valid x.1 ∧ (∃ ds, Truth x.1 x.2 ds) ∧ ∀ j, hasT (prefR x.1 j)}
theorem bt59 : BT Try.prog 59 (.agg #[(.int .i64 0), (.int .i64 0), (.int .i64 0)]) (fun i => ([(0, 1), (1, 1), (2, 1)] : List (Nat × Nat))[i]?) := bt_struct Try.underlying59 zr59 (by kernel_rfl)
theorem bt67 : BT Try.prog 67 (.agg #[(.int .i64 0), (.int .i64 0), (.int .i64 0), (.int .i64 0), (.int .i64 0), (.int .i64 0)]) (fun i => ([(0, 1), (1, 1), (2, 1), (3, 1), (4, 2)] : List (Nat × Nat))[i]?) := bt_struct Try.underlying67 zr67 (by kernel_rfl)
theorem list_vec (l : List Int) (h5 : l.length ≤ 1000000) : EffAt Try.prog 44 [.d (ints l)] [] (X := {v : Value // VecV v 1 (cells1 l)}) (fun v => .val v.1) (fun v => [(1010, vecRes 3 v.1 1 (cells1 l))]) := by
  refine EffAt.of_awp Try.func44 rfl (by kernel_rfl) rfl fun Γ hn => ?_
  refine awp_seq ?_
  refine awp_region ?_
  refine sq rfl rfl hn rfl (q_assign rfl rfl) ?_
  refine run_nil ?_
  refine aend_then ?_
  refine awp_seq ?_
  refine awp_region ?_
  refine stepW (s_buildVec 1010 rfl rfl rfl (nb hn rfl) Try.underlying22 sz3 zr3 rfl rfl (show _ = [] from by kernel_rfl) (by kernel_rfl) rfl rfl) fun b3 => ?_
  refine sq rfl rfl hn rfl (q_move rfl rfl) ?_
  refine stepW (s_appendV (id := 1010) rfl rfl rfl (nb hn rfl) elt22 zr3 rfl (vec0 b3 1) rfl rfl rfl (by simp; omega) (by simp; omega) (fun _ _ => trivial)) fun ⟨v5, hv5⟩ => ?_
  refine sq rfl rfl hn rfl (q_assign rfl rfl) ?_
  refine run_nil ?_
  refine aend_then ?_
  refine awp_ret ?_
  exact ret_E (.inl rfl) ⟨v5, hv5⟩ (hands_1 rfl (.tmp rfl)) ⟨rfl, trivial⟩
theorem Happened_eff (H : Nat) (start : List Int) (words : List Nat) (many : Nat) (v : Valid ⟨(H : Int), start, [], []⟩) (hw5 : ∀ x ∈ words, x < 65536) (hm5 : many < 256) : EffAt Try.prog 30 [.d (.int .i64 (H : Nat)), .d (ints start), .d (wordsD words), .d (.int .u8 (many : Nat))] [] (X := HapX H start) (fun x => .d (.tup [regD x.1.1, ints x.1.2])) (fun _ => []) := by
  refine EffAt.of_awp Try.func30 rfl (by kernel_rfl) rfl fun Γ hn => ?_
  have hs4 : start.length ≤ 4 := v.s4
  have hs1 : 1 ≤ start.length := v.s1
  have hH4 : (H : Int) ≤ 4 := v.h4
  have hH1 : 1 ≤ (H : Int) := v.h1
  refine awp_seq ?_
  refine awp_region ?_
  refine stepW (s_alloc 8 rfl rfl rfl (nb hn rfl) zr26 rfl rfl) fun b8 => ?_
  refine sq rfl rfl hn rfl (q_assign rfl rfl) ?_
  refine run_nil ?_
  refine aend_then ?_
  refine awp_seq ?_
  refine awp_region ?_
  refine sq rfl rfl hn rfl (q_move rfl rfl) ?_
  refine sq rfl rfl hn rfl (q_move rfl rfl) ?_
  refine stepW (s_call [] (fun _ => list_ok start (by omega)) rfl (guard_none rfl) rfl (nb hn rfl) (fun _ => trivial) rfl rfl (.refl _)) fun _ => ?_
  refine sq rfl rfl hn rfl (q_buildd rfl bt26 rfl rfl rfl rfl rfl) ?_
  refine stepW (s_alloc 10 rfl rfl rfl (nb hn rfl) zr26 rfl rfl) fun b10 => ?_
  refine stepW (s_store rfl rfl rfl rfl rfl rfl (id := 10) rfl sz26 rfl (Nat.le_of_ble_eq_true rfl) rfl trivial) fun _ => ?_
  refine run_nil ?_
  refine aend_then ?_
  refine awp_seq ?_
  refine awp_region ?_
  refine sq rfl rfl hn rfl (q_move rfl rfl) ?_
  refine stepW (s_callE (list_vec start (by omega)) rfl rfl rfl (nb hn rfl) (.d rfl) rfl (.refl _) trivial (fun _ => rfl) (fun _ _ => trivial)) fun ⟨vn, hvn⟩ => ?_
  obtain ⟨bn, cn, rfl, hcn, hcm⟩ := vec1 hvn hs1
  refine sq rfl rfl hn rfl (q_assign rfl rfl) ?_
  refine run_nil ?_
  refine aend_then ?_
  refine awp_seq ?_
  refine awp_region ?_
  refine sq rfl rfl hn rfl (q_assign rfl rfl) ?_
  refine run_nil ?_
  refine aend_then ?_
  refine awp_seq ?_
  refine awp_region ?_
  refine stepW (s_alloc 13 rfl rfl rfl (nb hn rfl) zr85 (zerosT 16) (by kernel_rfl)) fun b13 => ?_
  refine run_nil ?_
  refine aend_then ?_
  refine awp_seq ?_
  refine awp_region ?_
  refine sq rfl rfl hn rfl (q_assign rfl rfl) ?_
  refine run_nil ?_
  refine aend_then ?_
  refine awp_seq ?_
  refine awp_seq ?_
  refine gh_awp (g_nil (t := 12) (id := 12) 3 1 rfl (nb hn rfl)) ?_
  refine gh_awp (gh_nilcell (id := 10) (k := 2) 1020 67 6 rfl rfl) ?_
  refine awp_region ?_
  refine sq rfl rfl hn rfl (q_assign rfl rfl) ?_
  refine run_nil ?_
  refine aend_then ?_
  refine awp_block ?_
  refine awp_loop_on (ι := {x : (Nat × Nat) × (List Int × List Int) × (List Ent5 × List Int) × (Value × Value) // x.1.1 ≤ many % 7 ∧ x.1.2 ≤ 9 ∧ Hap (H : Int) start x.1.1 x.1.2 x.2.1.1 x.2.1.2 x.2.2.1.1 x.2.2.1.2}) (fun x => (12, true, .val x.1.2.2.2.2) :: (14, true, .d (.int .i64 (x.1.1.2 : Nat))) :: (15, true, .d (.int .i64 (x.1.1.1 : Nat))) :: anys [30, 31, 32, 33, 34, 37, 38, 39, 40, 41, 42, 43, 44, 45, 16, 17, 46, 47, 48, 49, 50, 51, 52, 53, 54, 55, 56, 57, 58, 59, 60, 61, 18, 62, 63, 64, 65, 66, 67, 68, 69, 70, 71, 72, 73, 74, 75, 76, 77, 78, 79, 81, 82, 83, 84, 85, 86, 87, 88, 89, 90, 91, 92, 93, 80, 94, 95, 96, 97, 98, 99, 100, 101, 102, 103, 104, 106, 107, 108, 105, 109, 110, 111, 112, 113, 114, 115, 116, 117, 118, 119, 120, 121, 122, 123, 124, 125, 126, 127, 128, 129, 130, 131, 132, 133, 134, 135, 136, 137, 138, 139, 140, 141, 142, 143, 144, 145, 146, 147, 148, 149, 35, 36]) (fun x => (10, .box b10 26 [.d (.int .i64 (H : Nat)), .d (ints start), .val x.1.2.2.2.1, .d .nil]) :: (1020, .row x.1.2.2.2.1 67 6 (x.1.2.2.1.1.map entE)) :: (12, .row x.1.2.2.2.2 3 1 (x.1.2.2.1.2.map intE)) :: (1010, .box bn 3 (cells1 x.1.2.1.1 ++ List.replicate ((cn - start.length) * 1) .any)) :: (13, .box b13 85 (x.1.2.1.2.map intT)) :: gones [18]) (fun x => many % 7 - x.1.1.1) ⟨((0, 0), (start, List.replicate 16 0), ([], []), .slice none 0 0, .slice none 0 0), Nat.zero_le _, by simp, Hap.start v.st⟩ ⟨.inl rfl, .inl rfl, .inl rfl, holdT_anys _⟩ ⟨.inl rfl, .inl rfl, .inl rfl, .inl rfl, .inl rfl, holdR_gones _⟩ ?_
  rintro ⟨⟨⟨i, day⟩, ⟨now, op⟩, ⟨es, ts⟩, vE, vT⟩, hi, hd9, hap⟩
  dsimp only
  dsimp only at hi hd9 hap
  refine awp_seq ?_
  refine awp_seq ?_
  refine awp_region ?_
  refine sq rfl rfl hn rfl (q_move rfl rfl) ?_
  refine sq rfl rfl hn rfl (q_move rfl rfl) ?_
  refine sq rfl rfl hn rfl (q_conv rfl rfl Try.underlying5 Try.underlying3 (r := (many : Int)) (i64w (by omega) rfl)) ?_
  refine sq rfl rfl hn rfl (q_rem rfl rfl rfl (r := ((many % 7 : Nat) : Int)) (by omega) (modN (b := 7) (by omega))) ?_
  refine sq rfl rfl hn rfl (q_lss rfl rfl rfl) ?_
  refine run_nil ?_
  refine aend_then ?_
  refine awp_cond rfl (fun hb0 => ?_) (fun hb0 => ?_)
  · skip
    have hil : i < many % 7 := by simp only [decide_eq_true_eq] at hb0; omega
    have hm7 : many % 7 ≤ 6 := by omega
    have hel := hap.el
    have htl := hap.tl
    refine awp_skip ?_
    refine aend_then ?_
    refine awp_seq ?_
    refine awp_block ?_
    refine awp_seq ?_
    refine awp_region ?_
    refine sq rfl rfl hn rfl (q_move rfl rfl) ?_
    refine sq rfl rfl hn rfl (q_move rfl rfl) ?_
    refine sq rfl rfl hn rfl (q_mul rfl rfl rfl (r := ((3 * i : Nat) : Int)) (i64w (by omega) (by omega))) ?_
    refine stepW (s_call [] (fun _ => word_ok words (3 * i) hw5) rfl (guard_none rfl) rfl (nb hn rfl) (fun _ => trivial) rfl rfl (.refl _)) fun _ => ?_
    refine sq rfl rfl hn rfl (q_move rfl rfl) ?_
    refine sq rfl rfl hn rfl (q_move rfl rfl) ?_
    refine sq rfl rfl hn rfl (q_mul rfl rfl rfl (r := ((3 * i : Nat) : Int)) (i64w (by omega) (by omega))) ?_
    refine sq rfl rfl hn rfl (q_add rfl rfl rfl (r := ((3 * i + 1 : Nat) : Int)) (i64w (by omega) (by omega))) ?_
    refine stepW (s_call [] (fun _ => word_ok words (3 * i + 1) hw5) rfl (guard_none rfl) rfl (nb hn rfl) (fun _ => trivial) rfl rfl (.refl _)) fun _ => ?_
    refine sq rfl rfl hn rfl (q_assign rfl rfl) ?_
    refine sq rfl rfl hn rfl (q_assign rfl rfl) ?_
    refine run_nil ?_
    refine aend_then ?_
    refine awp_seq ?_
    obtain ⟨w, hw⟩ : ∃ w, wordN words (3 * i) = w := ⟨_, rfl⟩
    obtain ⟨u, hu⟩ : ∃ u, wordN words (3 * i + 1) = u := ⟨_, rfl⟩
    have hwl : w < 65536 := hw ▸ wordN_lt hw5
    have hul : u < 65536 := hu ▸ wordN_lt hw5
    rw [hw, hu]
    refine awp_region ?_
    refine sq rfl rfl hn rfl (q_move rfl rfl) ?_
    refine sq rfl rfl hn rfl (q_move rfl rfl) ?_
    refine sq rfl rfl hn rfl (q_rem rfl rfl rfl (r := ((w % 3 : Nat) : Int)) (by omega) (modN (b := 3) (by omega))) ?_
    refine sq rfl rfl hn rfl (q_add rfl rfl rfl (r := ((day + w % 3 : Nat) : Int)) (i64w (by omega) (by omega))) ?_
    refine sq rfl rfl hn rfl (q_assign rfl rfl) ?_
    refine run_nil ?_
    refine aend_then ?_
    refine awp_seq ?_
    refine awp_seq ?_
    refine awp_region ?_
    refine sq rfl rfl hn rfl (q_move rfl rfl) ?_
    refine sq rfl rfl hn rfl (q_gtr rfl rfl rfl) ?_
    refine sq rfl rfl hn rfl (q_move rfl rfl) ?_
    refine stepG [] (guard_some rfl rfl rfl) rfl (nb hn rfl) (fun hc => trivial) (fun hc => q_move rfl rfl) ?_
    refine stepG [(53, _)] (guard_some rfl rfl rfl) rfl (nb hn rfl) (fun hc => ⟨⟨_, rfl, hc⟩, trivial⟩) (fun hc => q_lss rfl rfl rfl) ?_
    refine sq rfl rfl hn rfl (q_or rfl rfl rfl (by intro hB; first | (rw [hB]; rfl) | (rw [hB, hc]; rfl) | simp_all)) ?_
    refine run_nil ?_
    refine aend_then ?_
    refine awp_cond rfl (fun hb1 => ?_) (fun hb1 => ?_)
    · skip
      refine awp_exit ?_
      refine aend_then_exit ?_
      refine aend_block_exit_ne rfl ?_
      refine aend_then_exit ?_
      refine aend_then_exit ?_
      refine aend_block_exit ?_
      refine aend_then ?_
      refine awp_seq ?_
      refine awp_seq ?_
      have hi7 : i ≤ 6 := by omega
      obtain ⟨v0, ds, T, hdl, hag⟩ := hap.reg v hi7
      have hrp := truth_play v0 T
      have hout := refPlay_len v0 ts
      obtain ⟨o, ho⟩ : ∃ o, (refPlay (hapReg (H : Int) start es []) ts).1 = o := ⟨_, rfl⟩
      rw [ho] at hout hag
      refine gh_awp (gh_rowcell (id := 10) (k := 2) (rid := 1020) rfl rfl rfl) ?_
      refine awp_region ?_
      refine sq rfl rfl hn rfl (q_loadAd rfl rfl (id := 10) rfl Try.underlying26 rfl sz26 rfl rfl sees0) ?_
      refine sq rfl rfl hn rfl (q_move rfl rfl) ?_
      refine gh_run (g_row (t := 151) (id := 12) rfl rfl) ?_
      refine stepW (s_call [] (fun _ => IsDated_ok (hapReg (H : Int) start es []) ts) rfl (guard_none rfl) rfl (nb hn rfl) (fun _ => trivial) rfl rfl (by first | exact .refl _ | (repeat (first | exact .refl _ | exact .nil _ | refine .cons ?_ ?_ | refine .agg ?_ | refine .tup ?_)))) fun _ => ?_
      refine sq rfl rfl hn rfl (q_not rfl rfl) ?_
      refine run_nil ?_
      refine aend_then ?_
      refine awp_cond rfl (fun hb2 => ?_) (fun hb2 => ?_)
      · skip
        exact absurd hb2 (by rw [show datedF (hapReg (H : Int) start es []).entries ts = true from hap.da]; simp)
      · skip
        refine awp_skip ?_
        refine aend_then ?_
        refine awp_seq ?_
        refine awp_region ?_
        refine sq rfl rfl hn rfl (q_loadAd rfl rfl (id := 10) rfl Try.underlying26 rfl sz26 rfl rfl sees0) ?_
        refine sq rfl rfl hn rfl (q_move rfl rfl) ?_
        refine gh_run (g_row (t := 158) (id := 12) rfl rfl) ?_
        refine stepW (s_call [] (fun _ => (by have h6 := refPlay_ok (hapReg (H : Int) start es []) ts v0 hap.tl; rw [hrp, ho] at h6; exact h6)) rfl (guard_none rfl) rfl (nb hn rfl) (fun _ => trivial) rfl rfl (by first | exact .refl _ | (repeat (first | exact .refl _ | exact .nil _ | refine .cons ?_ ?_ | refine .agg ?_ | refine .tup ?_)))) fun _ => ?_
        refine sq rfl rfl hn rfl (q_move rfl rfl) ?_
        refine sq rfl rfl hn rfl (q_extractd rfl rfl rfl) ?_
        refine sq rfl rfl hn rfl (q_extractd rfl rfl rfl) ?_
        refine stepW (s_alloc 19 rfl rfl rfl (nb hn rfl) zr88 (zerosT 200) (by kernel_rfl)) fun b19 => ?_
        refine stepW (s_store rfl rfl rfl rfl rfl rfl (id := 19) rfl sz88 (cells_len hout) (Nat.le_of_ble_eq_true rfl) (store_all (by simp)) trivial) fun _ => ?_
        refine sq rfl rfl hn rfl (q_assign rfl rfl) ?_
        refine run_nil ?_
        refine aend_then ?_
        refine awp_seq ?_
        refine awp_seq ?_
        refine gh_awp (gh_nilcell (id := 10) (k := 3) 1021 59 3 rfl rfl) ?_
        refine awp_region ?_
        refine sq rfl rfl hn rfl (q_assign rfl rfl) ?_
        refine run_nil ?_
        refine aend_then ?_
        refine awp_block ?_
        refine awp_loop_on (ι := {x : Nat × List Sight5 × Value // x.1 ≤ wordN words 5 % 5 ∧ x.2.1.length ≤ x.1 ∧ ∀ s ∈ x.2.1, (0 ≤ s.sheet ∧ s.sheet ≤ (start.length : Int) - 1) ∧ (0 ≤ s.day ∧ s.day ≤ 9) ∧ s.house = houseAt o s.day.toNat s.sheet.toNat}) (fun x => (21, true, .d (.int .i64 (x.1.1 : Nat))) :: anys [162, 163, 164, 165, 166, 167, 168, 169, 172, 173, 174, 175, 176, 22, 177, 178, 179, 180, 181, 182, 183, 184, 23, 185, 186, 187, 188, 189, 190, 191, 192, 193, 194, 195, 196, 197, 198, 199, 170, 171]) (fun x => (10, .box b10 26 [.d (.int .i64 (H : Nat)), .d (ints start), .d (entsD es), .val x.1.2.2]) :: (1021, .row x.1.2.2 59 3 (x.1.2.1.map sightE)) :: gones [23]) (fun x => wordN words 5 % 5 - x.1.1) ⟨(0, [], .slice none 0 0), Nat.zero_le _, Nat.le_refl _, fun _ h => (by cases h)⟩ ⟨.inl rfl, holdT_anys _⟩ ⟨.inl rfl, .inl rfl, holdR_gones _⟩ ?_
        rintro ⟨⟨k, si, vS⟩, hk5, hsi, hsp⟩
        dsimp only
        dsimp only at hk5 hsi hsp
        refine awp_seq ?_
        refine awp_seq ?_
        refine awp_region ?_
        refine sq rfl rfl hn rfl (q_move rfl rfl) ?_
        refine sq rfl rfl hn rfl (q_move rfl rfl) ?_
        refine stepW (s_call [] (fun _ => word_ok words 5 hw5) rfl (guard_none rfl) rfl (nb hn rfl) (fun _ => trivial) rfl rfl (.refl _)) fun _ => ?_
        refine sq rfl rfl hn rfl (q_rem rfl rfl rfl (r := ((wordN words 5 % 5 : Nat) : Int)) (by omega) (modN (b := 5) (by omega))) ?_
        refine sq rfl rfl hn rfl (q_lss rfl rfl rfl) ?_
        refine sq rfl rfl hn rfl (q_move rfl rfl) ?_
        refine stepG [] (guard_some rfl rfl rfl) rfl (nb hn rfl) (fun hc => trivial) (fun hc => q_move rfl rfl) ?_
        refine sq rfl rfl hn rfl (q_and rfl rfl rfl (by intro hB; first | (rw [hB]; rfl) | (rw [hB, hc]; rfl) | simp_all)) ?_
        refine run_nil ?_
        refine aend_then ?_
        refine awp_cond rfl (fun hb3 => ?_) (fun hb3 => ?_)
        · skip
          have hkl : k < wordN words 5 % 5 := by simp at hb3; omega
          refine awp_skip ?_
          refine aend_then ?_
          refine awp_seq ?_
          refine awp_block ?_
          refine awp_seq ?_
          refine awp_region ?_
          refine sq rfl rfl hn rfl (q_move rfl rfl) ?_
          refine sq rfl rfl hn rfl (q_move rfl rfl) ?_
          refine sq rfl rfl hn rfl (q_mul rfl rfl rfl (r := ((3 * k : Nat) : Int)) (i64w (by omega) (by omega))) ?_
          refine sq rfl rfl hn rfl (q_add rfl rfl rfl (r := ((3 * k + 2 : Nat) : Int)) (i64w (by omega) (by omega))) ?_
          refine stepW (s_call [] (fun _ => word_ok words (3 * k + 2) hw5) rfl (guard_none rfl) rfl (nb hn rfl) (fun _ => trivial) rfl rfl (.refl _)) fun _ => ?_
          refine sq rfl rfl hn rfl (q_assign rfl rfl) ?_
          refine run_nil ?_
          refine aend_then ?_
          refine awp_seq ?_
          obtain ⟨q, hq⟩ : ∃ q, wordN words (3 * k + 2) = q := ⟨_, rfl⟩
          have hql : q < 65536 := hq ▸ wordN_lt hw5
          rw [hq]
          have hqm := Nat.mod_lt q (show 0 < start.length by omega)
          refine awp_region ?_
          refine sq rfl rfl hn rfl (q_move rfl rfl) ?_
          refine sq rfl rfl hn rfl (q_move rfl rfl) ?_
          refine sq rfl rfl hn rfl (q_len rfl rfl Try.underlying22) ?_
          refine sq rfl rfl hn rfl (q_rem rfl rfl rfl (r := ((q % start.length : Nat) : Int)) (by simp only [List.length_map]; omega) (by simp only [List.length_map]; exact modN (by omega))) ?_
          refine sq rfl rfl hn rfl (q_move rfl rfl) ?_
          refine sq rfl rfl hn rfl (q_quo rfl rfl rfl (r := ((q / 8 : Nat) : Int)) (by omega) (quoN (b := 8) (by omega) (by omega))) ?_
          refine sq rfl rfl hn rfl (q_rem rfl rfl rfl (r := ((q / 8 % 10 : Nat) : Int)) (by omega) (modN (b := 10) (by omega))) ?_
          refine sq rfl rfl hn rfl (q_buildd rfl bt59 rfl rfl rfl rfl rfl) ?_
          refine stepW (s_alloc 23 rfl rfl rfl (nb hn rfl) zr59 rfl rfl) fun b23 => ?_
          refine stepW (s_store rfl rfl rfl rfl rfl rfl (id := 23) rfl sz59 rfl (Nat.le_of_ble_eq_true rfl) rfl trivial) fun _ => ?_
          refine run_nil ?_
          refine aend_then ?_
          refine awp_seq ?_
          refine awp_join_on (e := .normal) (ι := Unit) (fun x => anys [185, 186, 187, 188, 189, 190, 191, 192, 193]) (fun x => [(23, .box b23 59 [.d (.int .i64 ((q % start.length : Nat) : Int)), .d (.int .i64 (houseAt o (q / 8 % 10) (q % start.length))), .d (.int .i64 ((q / 8 % 10 : Nat) : Int))])]) (fun hJ4 => ?_) ?_
          · skip
            refine d_start (W := fun b => b ≠ b19) fmo ?_
            refine d1q (i := 0) rfl (by kernel_rfl) (fun _ _ _ _ h => h) rfl rfl hn rfl (q_fieldAddr rfl rfl Try.underlying59 rfl sz3) ?_
            refine d1q (i := 2) rfl (by kernel_rfl) (fun _ _ _ _ h => h) rfl rfl hn rfl (q_fieldAddr rfl rfl Try.underlying59 rfl sz3) ?_
            refine d1q (i := 4) rfl (by kernel_rfl) (fun _ _ _ _ h => h) rfl rfl hn rfl (q_fieldAddr rfl rfl Try.underlying88 rfl sz84) ?_
            refine d1_of_d2 ?_
            refine d2_all 1 [3] (by kernel_rfl) ⟨?_, ?_, trivial⟩
            · skip
              refine br rfl (quiet_wg _ [] (guard_none rfl) rfl (nb hn rfl) (fun _ => trivial) (fun _ => q_load rfl rfl (id := 23) rfl Try.underlying3 rfl rfl sees0)) fun _ => ?_
              refine d2_of_d1 ?_
              refine d1q (i := 5) rfl (by kernel_rfl) (fun _ _ _ _ h => h) rfl rfl hn rfl (q_indexA (i := q / 8 % 10) rfl rfl rfl Try.underlying84 sz83 rfl (by omega)) ?_
              refine d1_of_d2 ?_
              refine d2_one (i := 3) (by kernel_rfl) rfl (quiet_wg _ [] (guard_none rfl) rfl (nb hn rfl) (fun _ => trivial) (fun _ => q_load rfl rfl (id := 23) rfl Try.underlying3 rfl rfl sees0)) fun _ => ?_
              refine d2_of_d1 ?_
              refine d1q (i := 6) rfl (by kernel_rfl) (fun _ _ _ _ h => h) rfl rfl hn rfl (q_indexA (i := q % start.length) rfl rfl rfl Try.underlying83 sz3 rfl (by omega)) ?_
              refine d1q (i := 7) rfl (by kernel_rfl) (fun _ _ _ _ h => h) rfl rfl hn rfl (q_load rfl rfl (id := 19) rfl Try.underlying3 rfl (at0 (by show 0 + 0 + (q / 8 % 10) * 4 + (q % start.length) * 1 = (q / 8 % 10) * 4 + (q % start.length); omega) (getD_some (by omega))) (seesA (by simp))) ?_
              refine d1q (i := 8) rfl (by kernel_rfl) (fun _ _ _ _ h => h) rfl rfl hn rfl (q_fieldAddr rfl rfl Try.underlying59 rfl sz3) ?_
              refine d1_of_d2 ?_
              refine g_ne_d2 (i := 23) (j := 19) rfl rfl rfl (fun hne23_19 => ?_)
              refine d2_one (i := 9) (by kernel_rfl) rfl (s_store1 rfl rfl rfl rfl rfl rfl (id := 23) rfl sz3 (Nat.le_of_ble_eq_true rfl) rfl (fun e => hne23_19 _ rfl (congrArg some e.symm))) fun _ => ?_
              refine d2_of_d1 ?_
              refine d1_of_d2 ?_
              refine d2_done (by kernel_rfl) ?_
              exact aend_join_on hJ4 () (holdT_anys _) ⟨.inl rfl, trivial⟩ (by repeat (first | exact kr _ | refine kc rfl ?_)) (by repeat (first | exact kr _ | refine kc rfl ?_))
            · skip
              refine br rfl (quiet_wg _ [] (guard_none rfl) rfl (nb hn rfl) (fun _ => trivial) (fun _ => q_load rfl rfl (id := 23) rfl Try.underlying3 rfl rfl sees0)) fun _ => ?_
              refine d2_of_d1 ?_
              refine d1_of_d2 ?_
              refine d2_one (i := 1) (by kernel_rfl) rfl (quiet_wg _ [] (guard_none rfl) rfl (nb hn rfl) (fun _ => trivial) (fun _ => q_load rfl rfl (id := 23) rfl Try.underlying3 rfl rfl sees0)) fun _ => ?_
              refine d2_of_d1 ?_
              refine d1q (i := 5) rfl (by kernel_rfl) (fun _ _ _ _ h => h) rfl rfl hn rfl (q_indexA (i := q / 8 % 10) rfl rfl rfl Try.underlying84 sz83 rfl (by omega)) ?_
              refine d1q (i := 6) rfl (by kernel_rfl) (fun _ _ _ _ h => h) rfl rfl hn rfl (q_indexA (i := q % start.length) rfl rfl rfl Try.underlying83 sz3 rfl (by omega)) ?_
              refine d1q (i := 7) rfl (by kernel_rfl) (fun _ _ _ _ h => h) rfl rfl hn rfl (q_load rfl rfl (id := 19) rfl Try.underlying3 rfl (at0 (by show 0 + 0 + (q / 8 % 10) * 4 + (q % start.length) * 1 = (q / 8 % 10) * 4 + (q % start.length); omega) (getD_some (by omega))) (seesA (by simp))) ?_
              refine d1q (i := 8) rfl (by kernel_rfl) (fun _ _ _ _ h => h) rfl rfl hn rfl (q_fieldAddr rfl rfl Try.underlying59 rfl sz3) ?_
              refine d1_of_d2 ?_
              refine g_ne_d2 (i := 23) (j := 19) rfl rfl rfl (fun hne23_19 => ?_)
              refine d2_one (i := 9) (by kernel_rfl) rfl (s_store1 rfl rfl rfl rfl rfl rfl (id := 23) rfl sz3 (Nat.le_of_ble_eq_true rfl) rfl (fun e => hne23_19 _ rfl (congrArg some e.symm))) fun _ => ?_
              refine d2_of_d1 ?_
              refine d1_of_d2 ?_
              refine d2_done (by kernel_rfl) ?_
              exact aend_join_on hJ4 () (holdT_anys _) ⟨.inl rfl, trivial⟩ (by repeat (first | exact kr _ | refine kc rfl ?_)) (by repeat (first | exact kr _ | refine kc rfl ?_))
          · rintro _
            refine aend_then ?_
            refine awp_region ?_
            refine sq rfl rfl hn rfl (q_fieldAddr rfl rfl Try.underlying26 rfl sz24) ?_
            refine sq rfl rfl hn rfl (q_load rfl rfl (id := 10) rfl Try.underlying24 rfl rfl sees0) ?_
            refine sq rfl rfl hn rfl (q_loadAd rfl rfl (id := 23) rfl Try.underlying59 rfl sz59 rfl rfl sees0) ?_
            refine stepW (s_buildSlice rfl rfl rfl (nb hn rfl) Try.underlying24 sz59 zr59 rfl rfl rfl (show _ = [.d (.int .i64 0), .d (.int .i64 0), .d (.int .i64 0)] from by kernel_rfl) (by kernel_rfl) rfl (fill_agg (by kernel_rfl) rfl) (allD_d _) (beq_len rfl) (chunk_one rfl)) fun _ => ?_
            refine stepW (s_append (id := 1021) rfl rfl rfl (nb hn rfl) elt24 trivial rfl rfl rfl (by simp; omega) (by simp; omega) (fun b hb => trivial)) fun v198 => ?_
            refine sq rfl rfl hn rfl (q_fieldAddr rfl rfl Try.underlying26 rfl sz24) ?_
            refine stepW (s_storeRow rfl rfl rfl rfl rfl (rid := 1021) rfl (id := 10) rfl sz24 (Nat.le_of_ble_eq_true rfl) rfl trivial) fun _ => ?_
            refine run_nil ?_
            refine aend_block ?_
            refine aend_then ?_
            refine awp_region ?_
            refine sq rfl rfl hn rfl (q_move rfl rfl) ?_
            refine sq rfl rfl hn rfl (q_add rfl rfl rfl (r := ((k + 1 : Nat) : Int)) (i64w (by omega) (by omega))) ?_
            refine sq rfl rfl hn rfl (q_assign rfl rfl) ?_
            refine run_nil ?_
            exact aend_round_on ⟨(k + 1, si ++ [⟨(q % start.length : Nat), houseAt o (q / 8 % 10) (q % start.length), (q / 8 % 10 : Nat)⟩], v198), by simp only; omega, by simp; omega, fun s hs => by rcases List.mem_append.1 hs with hs | hs; exact hsp s hs; rw [List.mem_singleton] at hs; subst hs; exact ⟨⟨by show (0 : Int) ≤ ((q % start.length : Nat) : Int); omega, by show ((q % start.length : Nat) : Int) ≤ _; omega⟩, ⟨by show (0 : Int) ≤ ((q / 8 % 10 : Nat) : Int); omega, by show ((q / 8 % 10 : Nat) : Int) ≤ _; omega⟩, rfl⟩⟩ ⟨.inl rfl, holdT_anys _⟩ ⟨.inl rfl, .inl (congrArg (fun z => some (Res.row v198 59 3 z)) (sights_add (x := ⟨((q % start.length : Nat) : Int), houseAt o (q / 8 % 10) (q % start.length), ((q / 8 % 10 : Nat) : Int)⟩))), holdR_gones _⟩ (by simp only; omega) (by repeat (first | exact kr _ | refine kc rfl ?_)) (by repeat (first | exact kr _ | refine kc rfl ?_))
        · skip
          refine awp_exit ?_
          refine aend_then_exit ?_
          refine aend_then_exit ?_
          refine aend_block_exit ?_
          refine aend_then ?_
          refine awp_seq ?_
          have hst5 := sights_truth v0 rfl T hdl (by rw [ho]; exact hag) (show si.length ≤ 4 by omega) (fun s hs => by rw [ho]; exact hsp s hs)
          refine gh_awp (gh_rowcell (id := 10) (k := 3) (rid := 1021) rfl rfl rfl) ?_
          refine awp_region ?_
          refine sq rfl rfl hn rfl (q_loadAd rfl rfl (id := 10) rfl Try.underlying26 rfl sz26 rfl rfl sees0) ?_
          refine sq rfl rfl hn rfl (q_move rfl rfl) ?_
          refine stepW (s_store rfl rfl rfl rfl rfl rfl (id := 8) rfl sz26 rfl (Nat.le_of_ble_eq_true rfl) rfl trivial) fun _ => ?_
          refine sq rfl rfl hn rfl (q_assign rfl rfl) ?_
          refine run_nil ?_
          refine aend_then ?_
          refine awp_ret ?_
          refine gh_end (g_row (t := 9) (id := 12) rfl rfl) ?_
          exact ret_E (.inl rfl) ⟨(⟨(H : Int), start, es, si⟩, ts), rfl, rfl, hst5.1, ⟨ds, hst5.2⟩, hap_pref hap v hi7 si⟩ (hands_2d rfl (.d (.cellA rfl (id := 8) rfl Try.underlying26 rfl sz26 rfl rfl)) (.tmp rfl)) trivial
    · skip
      have hdh : day + w % 3 ≤ 9 ∧ 2 ≤ H := by simp at hb1; omega
      refine awp_skip ?_
      refine aend_then ?_
      refine awp_seq ?_
      refine awp_region ?_
      refine sq rfl rfl hn rfl (q_move rfl rfl) ?_
      refine sq rfl rfl hn rfl (q_quo rfl rfl rfl (r := ((w / 4 : Nat) : Int)) (by omega) (quoN (b := 4) (by omega) (by omega))) ?_
      refine sq rfl rfl hn rfl (q_move rfl rfl) ?_
      refine sq rfl rfl hn rfl (q_len rfl rfl Try.underlying22) ?_
      refine sq rfl rfl hn rfl (q_rem rfl rfl rfl (r := ((w / 4 % start.length : Nat) : Int)) (by simp only [List.length_map]; omega) (by simp only [List.length_map]; exact modN (by omega))) ?_
      refine sq rfl rfl hn rfl (q_buildd rfl bt67 rfl rfl rfl rfl rfl) ?_
      refine stepW (s_alloc 18 rfl rfl rfl (nb hn rfl) zr67 rfl rfl) fun b18 => ?_
      refine stepW (s_store rfl rfl rfl rfl rfl rfl (id := 18) rfl sz67 rfl (Nat.le_of_ble_eq_true rfl) rfl trivial) fun _ => ?_
      refine run_nil ?_
      refine aend_then ?_
      refine awp_seq ?_
      obtain ⟨s, hs⟩ : ∃ s, w / 4 % start.length = s := ⟨_, rfl⟩
      rw [hs]
      have hsl : s < start.length := hs ▸ Nat.mod_lt _ (by omega)
      have hnl := hap.nl
      have hfb := hap.nb _ (getD_mem (show s < now.length by omega))
      obtain ⟨f, hf⟩ : ∃ f : Nat, now.getD s 0 = f := ⟨(now.getD s 0).toNat, by omega⟩
      have hget : now[s]? = some (f : Int) := by rw [← hf]; exact getD_some (by omega)
      have hfH : f < H := by omega
      refine awp_region ?_
      refine sq rfl rfl hn rfl (q_move rfl rfl) ?_
      refine sq rfl rfl hn rfl (q_fieldAddr rfl rfl Try.underlying67 rfl sz3) ?_
      refine sq rfl rfl hn rfl (q_load rfl rfl (id := 18) rfl Try.underlying3 rfl rfl sees0) ?_
      refine sq rfl rfl hn rfl (q_indexV (i := s) rfl rfl rfl Try.underlying22 sz3 rfl hsl) ?_
      refine sq rfl rfl hn rfl (q_load rfl rfl (id := 1010) rfl Try.underlying3 rfl (c1_get hget (by show 0 + s * 1 = s; omega)) sees0) ?_
      refine sq rfl rfl hn rfl (q_fieldAddr rfl rfl Try.underlying67 rfl sz3) ?_
      refine stepW (s_store1 rfl rfl rfl rfl rfl rfl (id := 18) rfl sz3 (Nat.le_of_ble_eq_true rfl) rfl trivial) fun _ => ?_
      refine run_nil ?_
      refine aend_then ?_
      refine awp_seq ?_
      refine d_start (W := fun b => True) fmo ?_
      refine d1q (i := 0) rfl (by kernel_rfl) (fun _ _ _ _ h => h) rfl rfl hn rfl (q_fieldAddr rfl rfl Try.underlying67 rfl sz3) ?_
      refine d1q (i := 3) rfl (by kernel_rfl) (fun _ _ _ _ h => h) rfl rfl hn rfl (q_move rfl rfl) ?_
      refine d1q (i := 4) rfl (by kernel_rfl) (fun _ _ _ _ h => h) rfl rfl hn rfl (q_quo rfl rfl rfl (r := ((w / 16 : Nat) : Int)) (by omega) (quoN (b := 16) (by omega) (by omega))) ?_
      refine d1q (i := 5) rfl (by kernel_rfl) (fun _ _ _ _ h => h) rfl rfl hn rfl (q_move rfl rfl) ?_
      refine d1q (i := 6) rfl (by kernel_rfl) (fun _ _ _ _ h => h) rfl rfl hn rfl (q_sub rfl rfl rfl (r := ((H - 1 : Nat) : Int)) (i64w (by omega) (by omega))) ?_
      refine d1q (i := 7) rfl (by kernel_rfl) (fun _ _ _ _ h => h) rfl rfl hn rfl (q_rem rfl rfl rfl (r := ((w / 16 % (H - 1) : Nat) : Int)) (by omega) (modN (by omega))) ?_
      refine d1q (i := 9) rfl (by kernel_rfl) (fun _ _ _ _ h => h) rfl rfl hn rfl (q_move rfl rfl) ?_
      refine d1_of_d2 ?_
      refine d2_one (i := 1) (by kernel_rfl) rfl (quiet_wg _ [] (guard_none rfl) rfl (nb hn rfl) (fun _ => trivial) (fun _ => q_load rfl rfl (id := 18) rfl Try.underlying3 rfl rfl sees0)) fun _ => ?_
      refine d2_of_d1 ?_
      refine d1q (i := 2) rfl (by kernel_rfl) (fun _ _ _ _ h => h) rfl rfl hn rfl (q_add rfl rfl rfl (r := ((f + 1 : Nat) : Int)) (i64w (by omega) (by omega))) ?_
      refine d1q (i := 8) rfl (by kernel_rfl) (fun _ _ _ _ h => h) rfl rfl hn rfl (q_add rfl rfl rfl (r := ((f + 1 + w / 16 % (H - 1) : Nat) : Int)) (i64w (by have := Nat.mod_lt (w / 16) (show 0 < H - 1 by omega); omega) (by omega))) ?_
      refine d1q (i := 10) rfl (by kernel_rfl) (fun _ _ _ _ h => h) rfl rfl hn rfl (q_rem rfl rfl rfl (r := (((f + 1 + w / 16 % (H - 1)) % H : Nat) : Int)) (by omega) (modN (by omega))) ?_
      refine d1q (i := 11) rfl (by kernel_rfl) (fun _ _ _ _ h => h) rfl rfl hn rfl (q_fieldAddr rfl rfl Try.underlying67 rfl sz3) ?_
      refine d1_of_d2 ?_
      refine d2_one (i := 12) (by kernel_rfl) rfl (s_store1 rfl rfl rfl rfl rfl rfl (id := 18) rfl sz3 (Nat.le_of_ble_eq_true rfl) rfl trivial) fun _ => ?_
      refine d2_of_d1 ?_
      refine d1_of_d2 ?_
      refine d2_done (by kernel_rfl) ?_
      refine aend_then ?_
      refine awp_seq ?_
      refine awp_block ?_
      refine awp_seq ?_
      obtain ⟨hft, htH⟩ := rot_ne (a := w / 16) hfH hdh.2
      obtain ⟨to, hto⟩ : ∃ to, (f + 1 + w / 16 % (H - 1)) % H = to := ⟨_, rfl⟩
      rw [hto] at hft htH
      rw [hto]
      have hol := hap.ol
      have hob := hap.ob
      refine d_start (W := fun b => b ≠ b13 ∧ b ≠ b18) fmo ?_
      refine d1q (i := 0) rfl (by kernel_rfl) (fun _ _ _ _ h => h) rfl rfl hn rfl (q_fieldAddr rfl rfl Try.underlying67 rfl sz3) ?_
      refine d1q (i := 1) rfl (by kernel_rfl) (fun _ _ _ _ h => h) rfl rfl hn rfl (q_load rfl rfl (id := 18) rfl Try.underlying3 rfl rfl (seesA (by simp))) ?_
      refine d1q (i := 2) rfl (by kernel_rfl) (fun _ _ _ _ h => h) rfl rfl hn rfl (q_fieldAddr rfl rfl Try.underlying67 rfl sz3) ?_
      refine d1q (i := 3) rfl (by kernel_rfl) (fun _ _ _ _ h => h) rfl rfl hn rfl (q_load rfl rfl (id := 18) rfl Try.underlying3 rfl rfl (seesA (by simp))) ?_
      refine d1q (i := 4) rfl (by kernel_rfl) (fun _ _ _ _ h => h) rfl rfl hn rfl (q_indexA (i := to) rfl rfl rfl Try.underlying85 sz83 rfl (by omega)) ?_
      refine d1q (i := 5) rfl (by kernel_rfl) (fun _ _ _ _ h => h) rfl rfl hn rfl (q_indexA (i := f) rfl rfl rfl Try.underlying83 sz3 rfl (by omega)) ?_
      refine d1q (i := 6) rfl (by kernel_rfl) (fun _ _ _ _ h => h) rfl rfl hn rfl (q_load rfl rfl (id := 13) rfl Try.underlying3 rfl (at2 (getD_some (by omega))) (seesA (by simp))) ?_
      refine d1q (i := 7) rfl (by kernel_rfl) (fun _ _ _ _ h => h) rfl rfl hn rfl (q_gtr rfl rfl rfl) ?_
      refine d1q (i := 8) rfl (by kernel_rfl) (fun _ _ _ _ h => h) rfl rfl hn rfl (q_move rfl rfl) ?_
      refine d1g (i := 9) [] rfl (by kernel_rfl) (fun _ _ _ _ h => h) (guard_some rfl rfl rfl) rfl hn rfl (fun hc => trivial) (fun hc => q_move rfl rfl) ?_
      refine d1g (i := 10) [(90, _)] rfl (by kernel_rfl) (fun _ _ _ _ h => h) (guard_some rfl rfl rfl) rfl hn rfl (fun hc => ⟨⟨_, rfl, hc⟩, trivial⟩) (fun hc => q_rem rfl rfl rfl (r := ((u % 2 : Nat) : Int)) (by omega) (modN (b := 2) (by omega))) ?_
      refine d1g (i := 11) [(91, _)] rfl (by kernel_rfl) (fun _ _ _ _ h => h) (guard_some rfl rfl rfl) rfl hn rfl (fun hc => ⟨⟨_, rfl, hc⟩, trivial⟩) (fun hc => q_eql rfl rfl rfl) ?_
      refine d1q (i := 12) rfl (by kernel_rfl) (fun _ _ _ _ h => h) rfl rfl hn rfl (q_and rfl rfl rfl (by intro hB; first | (rw [hB]; rfl) | (rw [hB, hc]; rfl) | simp_all)) ?_
      refine d1q (i := 13) rfl (by kernel_rfl) (fun _ _ _ _ h => h) rfl rfl hn rfl (q_assign rfl rfl) ?_
      refine d1_of_d2 ?_
      refine d2_done (by kernel_rfl) ?_
      refine aend_then ?_
      refine awp_join_on (e := .normal) (ι := {p : Int × List Int // (p.1 = 2 ∧ 0 < op.getD (to * 4 + f) 0 ∧ p.2 = upd op (to * 4 + f) (-1)) ∨ (p.1 = 1 ∧ p.2 = upd op (f * 4 + to) 1) ∨ (p.1 = 0 ∧ p.2 = op)}) (fun x => anys [94, 95, 96, 97, 98, 99, 100, 101, 102, 103, 104, 106, 107, 108, 105, 109, 110, 111, 112, 113, 114, 115, 116, 117, 118, 119]) (fun x => [(18, .box b18 67 [.d (.int .i64 x.1.1), .d (.int .i64 (s : Nat)), .d (.int .i64 (f : Nat)), .d (.int .i64 (to : Nat)), .d (.int .i64 0), .d (.int .i64 0)]), (13, .box b13 85 (x.1.2.map intT))]) (fun hJ5 => ?_) ?_
      · skip
        refine awp_cond rfl (fun hb5 => ?_) (fun hb5 => ?_)
        · skip
          have hpos : 0 < op.getD (to * 4 + f) 0 := by simp only [Bool.and_eq_true, decide_eq_true_eq] at hb5; exact hb5.1
          have hog := hob _ (getD_mem (show to * 4 + f < op.length by omega))
          refine awp_seq ?_
          refine awp_region ?_
          refine sq rfl rfl hn rfl (q_fieldAddr rfl rfl Try.underlying67 rfl sz3) ?_
          refine stepW (s_store1 rfl rfl rfl rfl rfl rfl (id := 18) rfl sz3 (Nat.le_of_ble_eq_true rfl) rfl trivial) fun _ => ?_
          refine run_nil ?_
          refine aend_then ?_
          refine d_start (W := fun b => b ≠ b18) fmo ?_
          refine d1q (i := 0) rfl (by kernel_rfl) (fun _ _ _ _ h => h) rfl rfl hn rfl (q_fieldAddr rfl rfl Try.underlying67 rfl sz3) ?_
          refine d1q (i := 1) rfl (by kernel_rfl) (fun _ _ _ _ h => h) rfl rfl hn rfl (q_load rfl rfl (id := 18) rfl Try.underlying3 rfl rfl (seesA (by simp))) ?_
          refine d1q (i := 2) rfl (by kernel_rfl) (fun _ _ _ _ h => h) rfl rfl hn rfl (q_fieldAddr rfl rfl Try.underlying67 rfl sz3) ?_
          refine d1q (i := 3) rfl (by kernel_rfl) (fun _ _ _ _ h => h) rfl rfl hn rfl (q_load rfl rfl (id := 18) rfl Try.underlying3 rfl rfl (seesA (by simp))) ?_
          refine d1q (i := 4) rfl (by kernel_rfl) (fun _ _ _ _ h => h) rfl rfl hn rfl (q_indexA (i := to) rfl rfl rfl Try.underlying85 sz83 rfl (by omega)) ?_
          refine d1q (i := 5) rfl (by kernel_rfl) (fun _ _ _ _ h => h) rfl rfl hn rfl (q_indexA (i := f) rfl rfl rfl Try.underlying83 sz3 rfl (by omega)) ?_
          refine d1q (i := 8) rfl (by kernel_rfl) (fun _ _ _ _ h => h) rfl rfl hn rfl (q_indexA (i := to) rfl rfl rfl Try.underlying85 sz83 rfl (by omega)) ?_
          refine d1_of_d2 ?_
          refine d2_one (i := 6) (by kernel_rfl) rfl (quiet_wg _ [] (guard_none rfl) rfl (nb hn rfl) (fun _ => trivial) (fun _ => q_load rfl rfl (id := 13) rfl Try.underlying3 rfl (at2 (getD_some (by omega))) sees0)) fun _ => ?_
          refine d2_of_d1 ?_
          refine d1q (i := 7) rfl (by kernel_rfl) (fun _ _ _ _ h => h) rfl rfl hn rfl (q_sub rfl rfl rfl (r := op.getD (to * 4 + f) 0 + (-1)) (i64w (by omega) (by omega))) ?_
          refine d1q (i := 9) rfl (by kernel_rfl) (fun _ _ _ _ h => h) rfl rfl hn rfl (q_indexA (i := f) rfl rfl rfl Try.underlying83 sz3 rfl (by omega)) ?_
          refine d1_of_d2 ?_
          refine g_ne_d2 (i := 13) (j := 18) rfl rfl rfl (fun hne13_18 => ?_)
          refine d2_one (i := 10) (by kernel_rfl) rfl (s_store1 rfl rfl rfl rfl rfl rfl (id := 13) rfl sz3 (by simp; omega) (show _ = (upd op (to * 4 + f) (-1)).map intT from set2) (fun e => hne13_18 _ rfl (congrArg some e.symm))) fun _ => ?_
          refine d2_of_d1 ?_
          refine d1_of_d2 ?_
          refine d2_done (by kernel_rfl) ?_
          exact aend_join_on hJ5 ⟨(2, upd op (to * 4 + f) (-1)), .inl ⟨rfl, hpos, rfl⟩⟩ (holdT_anys _) ⟨.inl rfl, .inl rfl, trivial⟩ (by repeat (first | exact kr _ | refine kc rfl ?_)) (by repeat (first | exact kr _ | refine kc rfl ?_))
        · skip
          refine awp_seq ?_
          refine awp_region ?_
          refine sq rfl rfl hn rfl (q_move rfl rfl) ?_
          refine sq rfl rfl hn rfl (q_rem rfl rfl rfl (r := ((u % 3 : Nat) : Int)) (by omega) (modN (b := 3) (by omega))) ?_
          refine sq rfl rfl hn rfl (q_eql rfl rfl rfl) ?_
          refine sq rfl rfl hn rfl (q_assign rfl rfl) ?_
          refine run_nil ?_
          refine aend_then ?_
          refine awp_cond rfl (fun hb6 => ?_) (fun hb6 => ?_)
          · skip
            have hog := hob _ (getD_mem (show f * 4 + to < op.length by omega))
            refine awp_seq ?_
            refine awp_region ?_
            refine sq rfl rfl hn rfl (q_fieldAddr rfl rfl Try.underlying67 rfl sz3) ?_
            refine stepW (s_store1 rfl rfl rfl rfl rfl rfl (id := 18) rfl sz3 (Nat.le_of_ble_eq_true rfl) rfl trivial) fun _ => ?_
            refine run_nil ?_
            refine aend_then ?_
            refine d_start (W := fun b => b ≠ b18) fmo ?_
            refine d1q (i := 0) rfl (by kernel_rfl) (fun _ _ _ _ h => h) rfl rfl hn rfl (q_fieldAddr rfl rfl Try.underlying67 rfl sz3) ?_
            refine d1q (i := 1) rfl (by kernel_rfl) (fun _ _ _ _ h => h) rfl rfl hn rfl (q_load rfl rfl (id := 18) rfl Try.underlying3 rfl rfl (seesA (by simp))) ?_
            refine d1q (i := 2) rfl (by kernel_rfl) (fun _ _ _ _ h => h) rfl rfl hn rfl (q_fieldAddr rfl rfl Try.underlying67 rfl sz3) ?_
            refine d1q (i := 3) rfl (by kernel_rfl) (fun _ _ _ _ h => h) rfl rfl hn rfl (q_load rfl rfl (id := 18) rfl Try.underlying3 rfl rfl (seesA (by simp))) ?_
            refine d1q (i := 4) rfl (by kernel_rfl) (fun _ _ _ _ h => h) rfl rfl hn rfl (q_indexA (i := f) rfl rfl rfl Try.underlying85 sz83 rfl (by omega)) ?_
            refine d1q (i := 5) rfl (by kernel_rfl) (fun _ _ _ _ h => h) rfl rfl hn rfl (q_indexA (i := to) rfl rfl rfl Try.underlying83 sz3 rfl (by omega)) ?_
            refine d1q (i := 8) rfl (by kernel_rfl) (fun _ _ _ _ h => h) rfl rfl hn rfl (q_indexA (i := f) rfl rfl rfl Try.underlying85 sz83 rfl (by omega)) ?_
            refine d1_of_d2 ?_
            refine d2_one (i := 6) (by kernel_rfl) rfl (quiet_wg _ [] (guard_none rfl) rfl (nb hn rfl) (fun _ => trivial) (fun _ => q_load rfl rfl (id := 13) rfl Try.underlying3 rfl (at2 (getD_some (by omega))) sees0)) fun _ => ?_
            refine d2_of_d1 ?_
            refine d1q (i := 7) rfl (by kernel_rfl) (fun _ _ _ _ h => h) rfl rfl hn rfl (q_add rfl rfl rfl (r := op.getD (f * 4 + to) 0 + 1) (i64w (by omega) rfl)) ?_
            refine d1q (i := 9) rfl (by kernel_rfl) (fun _ _ _ _ h => h) rfl rfl hn rfl (q_indexA (i := to) rfl rfl rfl Try.underlying83 sz3 rfl (by omega)) ?_
            refine d1_of_d2 ?_
            refine g_ne_d2 (i := 13) (j := 18) rfl rfl rfl (fun hne13_18 => ?_)
            refine d2_one (i := 10) (by kernel_rfl) rfl (s_store1 rfl rfl rfl rfl rfl rfl (id := 13) rfl sz3 (by simp; omega) (show _ = (upd op (f * 4 + to) 1).map intT from set2) (fun e => hne13_18 _ rfl (congrArg some e.symm))) fun _ => ?_
            refine d2_of_d1 ?_
            refine d1_of_d2 ?_
            refine d2_done (by kernel_rfl) ?_
            exact aend_join_on hJ5 ⟨(1, upd op (f * 4 + to) 1), .inr (.inl ⟨rfl, rfl⟩)⟩ (holdT_anys _) ⟨.inl rfl, .inl rfl, trivial⟩ (by repeat (first | exact kr _ | refine kc rfl ?_)) (by repeat (first | exact kr _ | refine kc rfl ?_))
          · skip
            refine awp_skip ?_
            exact aend_join_on hJ5 ⟨(0, op), .inr (.inr ⟨rfl, rfl⟩)⟩ (holdT_anys _) ⟨.inl rfl, .inl rfl, trivial⟩ (by repeat (first | exact kr _ | refine kc rfl ?_)) (by repeat (first | exact kr _ | refine kc rfl ?_))
      · rintro ⟨⟨kd, op2⟩, hkd⟩
        dsimp only
        dsimp only at hkd
        refine aend_block ?_
        refine aend_then ?_
        refine awp_seq ?_
        refine awp_region ?_
        refine sq rfl rfl hn rfl (q_move rfl rfl) ?_
        refine sq rfl rfl hn rfl (q_fieldAddr rfl rfl Try.underlying67 rfl sz3) ?_
        refine sq rfl rfl hn rfl (q_load rfl rfl (id := 18) rfl Try.underlying3 rfl rfl sees0) ?_
        refine sq rfl rfl hn rfl (q_fieldAddr rfl rfl Try.underlying67 rfl sz3) ?_
        refine sq rfl rfl hn rfl (q_load rfl rfl (id := 18) rfl Try.underlying3 rfl rfl sees0) ?_
        refine sq rfl rfl hn rfl (q_indexV (i := s) rfl rfl rfl Try.underlying22 sz3 rfl hsl) ?_
        refine stepW (s_store1 rfl rfl rfl rfl rfl rfl (id := 1010) rfl sz3 (by show 0 + s * 1 < _; rw [List.length_append, c1_len]; omega) (c1_set (show s < now.length by omega) (by show 0 + s * 1 = s; omega)) trivial) fun _ => ?_
        refine run_nil ?_
        refine aend_then ?_
        refine awp_seq ?_
        refine awp_region ?_
        refine sq rfl rfl hn rfl (q_move rfl rfl) ?_
        refine sq rfl rfl hn rfl (q_move rfl rfl) ?_
        refine sq rfl rfl hn rfl (q_quo rfl rfl rfl (r := ((u / 8 : Nat) : Int)) (by omega) (quoN (b := 8) (by omega) (by omega))) ?_
        refine sq rfl rfl hn rfl (q_rem rfl rfl rfl (r := ((u / 8 % 3 : Nat) : Int)) (by omega) (modN (b := 3) (by omega))) ?_
        refine sq rfl rfl hn rfl (q_sub rfl rfl rfl (r := ((day + w % 3 : Nat) : Int) - ((u / 8 % 3 : Nat) : Int)) (i64w (by omega) rfl)) ?_
        refine sq rfl rfl hn rfl (q_max rfl rfl rfl) ?_
        refine sq rfl rfl hn rfl (q_move rfl rfl) ?_
        refine sq rfl rfl hn rfl (q_move rfl rfl) ?_
        refine sq rfl rfl hn rfl (q_quo rfl rfl rfl (r := ((u / 32 : Nat) : Int)) (by omega) (quoN (b := 32) (by omega) (by omega))) ?_
        refine sq rfl rfl hn rfl (q_rem rfl rfl rfl (r := ((u / 32 % 3 : Nat) : Int)) (by omega) (modN (b := 3) (by omega))) ?_
        refine sq rfl rfl hn rfl (q_add rfl rfl rfl (r := ((day + w % 3 : Nat) : Int) + ((u / 32 % 3 : Nat) : Int)) (i64w (by omega) rfl)) ?_
        refine sq rfl rfl hn rfl (q_min rfl rfl rfl) ?_
        refine sq rfl rfl hn rfl (q_buildd rfl bt49 rfl rfl rfl rfl rfl) ?_
        refine sq rfl rfl hn rfl (q_fieldAddr rfl rfl Try.underlying67 rfl sz49) ?_
        refine stepW (s_store rfl rfl rfl rfl rfl rfl (id := 18) rfl sz49 rfl (Nat.le_of_ble_eq_true rfl) rfl trivial) fun _ => ?_
        refine run_nil ?_
        refine aend_then ?_
        refine awp_region ?_
        refine sq rfl rfl hn rfl (q_fieldAddr rfl rfl Try.underlying26 rfl sz23) ?_
        refine sq rfl rfl hn rfl (q_load rfl rfl (id := 10) rfl Try.underlying23 rfl rfl sees0) ?_
        refine sq rfl rfl hn rfl (q_loadAd rfl rfl (id := 18) rfl Try.underlying67 rfl sz67 rfl rfl sees0) ?_
        refine stepW (s_buildSlice rfl rfl rfl (nb hn rfl) Try.underlying23 sz67 zr67 rfl rfl rfl (show _ = [.d (.int .i64 0), .d (.int .i64 0), .d (.int .i64 0), .d (.int .i64 0), .d (.int .i64 0), .d (.int .i64 0)] from by kernel_rfl) (by kernel_rfl) rfl (fill_agg (by kernel_rfl) rfl) (allD_d _) (beq_len rfl) (chunk_one rfl)) fun _ => ?_
        refine stepW (s_append (id := 1020) rfl rfl rfl (nb hn rfl) elt23 trivial rfl rfl rfl (by simp; omega) (by simp; omega) (fun b hb => trivial)) fun v144 => ?_
        refine sq rfl rfl hn rfl (q_move rfl rfl) ?_
        refine sq rfl rfl hn rfl (q_move rfl rfl) ?_
        refine stepW (s_buildSlice rfl rfl rfl (nb hn rfl) Try.underlying22 sz3 zr3 rfl rfl rfl (show _ = [.d (.int .i64 0)] from by kernel_rfl) (by kernel_rfl) rfl rfl rfl rfl rfl) fun _ => ?_
        refine stepW (s_append (id := 12) rfl rfl rfl (nb hn rfl) elt22 trivial rfl rfl rfl (by simp [chunk]; omega) (by simp [chunk]; omega) (fun b hb => trivial)) fun v148 => ?_
        refine sq rfl rfl hn rfl (q_fieldAddr rfl rfl Try.underlying26 rfl sz23) ?_
        refine stepW (s_storeRow rfl rfl rfl rfl rfl (rid := 1020) rfl (id := 10) rfl sz23 (Nat.le_of_ble_eq_true rfl) rfl trivial) fun _ => ?_
        refine sq rfl rfl hn rfl (q_assign rfl rfl) ?_
        refine run_nil ?_
        refine aend_block ?_
        refine aend_then ?_
        refine awp_region ?_
        refine sq rfl rfl hn rfl (q_move rfl rfl) ?_
        refine sq rfl rfl hn rfl (q_add rfl rfl rfl (r := ((i + 1 : Nat) : Int)) (i64w (by omega) (by omega))) ?_
        refine sq rfl rfl hn rfl (q_assign rfl rfl) ?_
        refine run_nil ?_
        exact aend_round_on ⟨((i + 1, day + w % 3), (now.set s (to : Nat), op2), (es ++ [⟨kd, (s : Nat), (f : Nat), (to : Nat), max 0 (((day + w % 3 : Nat) : Int) - ((u / 8 % 3 : Nat) : Int)), min 9 (((day + w % 3 : Nat) : Int) + ((u / 32 % 3 : Nat) : Int))⟩], ts ++ [((day + w % 3 : Nat) : Int)]), v144, v148), by simp only; omega, by simp only; omega, (hap.idle (day' := day + w % 3) (by omega)).stepN (by omega) hsl hs4 hf (by omega) hft (by omega) (by omega) hkd⟩ ⟨.inl rfl, .inl rfl, .inl rfl, holdT_anys _⟩ ⟨.inl rfl, .inl (congrArg (fun z => some (Res.row v144 67 6 z)) (ents_add (e := ⟨kd, (s : Nat), (f : Nat), (to : Nat), max 0 (((day + w % 3 : Nat) : Int) - ((u / 8 % 3 : Nat) : Int)), min 9 (((day + w % 3 : Nat) : Int) + ((u / 32 % 3 : Nat) : Int))⟩))), .inl (congrArg (fun z => some (Res.row v148 3 1 z)) (ints_add (x := ((day + w % 3 : Nat) : Int)))), .inl rfl, .inl rfl, holdR_gones _⟩ (by simp only; omega) (by repeat (first | exact kr _ | refine kc rfl ?_)) (by repeat (first | exact kr _ | refine kc rfl ?_))
  · skip
    refine awp_exit ?_
    refine aend_then_exit ?_
    refine aend_then_exit ?_
    refine aend_block_exit ?_
    refine aend_then ?_
    refine awp_seq ?_
    refine awp_seq ?_
    have hi7 : i ≤ 6 := by omega
    obtain ⟨v0, ds, T, hdl, hag⟩ := hap.reg v hi7
    have hrp := truth_play v0 T
    have hout := refPlay_len v0 ts
    obtain ⟨o, ho⟩ : ∃ o, (refPlay (hapReg (H : Int) start es []) ts).1 = o := ⟨_, rfl⟩
    rw [ho] at hout hag
    refine gh_awp (gh_rowcell (id := 10) (k := 2) (rid := 1020) rfl rfl rfl) ?_
    refine awp_region ?_
    refine sq rfl rfl hn rfl (q_loadAd rfl rfl (id := 10) rfl Try.underlying26 rfl sz26 rfl rfl sees0) ?_
    refine sq rfl rfl hn rfl (q_move rfl rfl) ?_
    refine gh_run (g_row (t := 151) (id := 12) rfl rfl) ?_
    refine stepW (s_call [] (fun _ => IsDated_ok (hapReg (H : Int) start es []) ts) rfl (guard_none rfl) rfl (nb hn rfl) (fun _ => trivial) rfl rfl (by first | exact .refl _ | (repeat (first | exact .refl _ | exact .nil _ | refine .cons ?_ ?_ | refine .agg ?_ | refine .tup ?_)))) fun _ => ?_
    refine sq rfl rfl hn rfl (q_not rfl rfl) ?_
    refine run_nil ?_
    refine aend_then ?_
    refine awp_cond rfl (fun hb7 => ?_) (fun hb7 => ?_)
    · skip
      exact absurd hb7 (by rw [show datedF (hapReg (H : Int) start es []).entries ts = true from hap.da]; simp)
    · skip
      refine awp_skip ?_
      refine aend_then ?_
      refine awp_seq ?_
      refine awp_region ?_
      refine sq rfl rfl hn rfl (q_loadAd rfl rfl (id := 10) rfl Try.underlying26 rfl sz26 rfl rfl sees0) ?_
      refine sq rfl rfl hn rfl (q_move rfl rfl) ?_
      refine gh_run (g_row (t := 158) (id := 12) rfl rfl) ?_
      refine stepW (s_call [] (fun _ => (by have h6 := refPlay_ok (hapReg (H : Int) start es []) ts v0 hap.tl; rw [hrp, ho] at h6; exact h6)) rfl (guard_none rfl) rfl (nb hn rfl) (fun _ => trivial) rfl rfl (by first | exact .refl _ | (repeat (first | exact .refl _ | exact .nil _ | refine .cons ?_ ?_ | refine .agg ?_ | refine .tup ?_)))) fun _ => ?_
      refine sq rfl rfl hn rfl (q_move rfl rfl) ?_
      refine sq rfl rfl hn rfl (q_extractd rfl rfl rfl) ?_
      refine sq rfl rfl hn rfl (q_extractd rfl rfl rfl) ?_
      refine stepW (s_alloc 19 rfl rfl rfl (nb hn rfl) zr88 (zerosT 200) (by kernel_rfl)) fun b19 => ?_
      refine stepW (s_store rfl rfl rfl rfl rfl rfl (id := 19) rfl sz88 (cells_len hout) (Nat.le_of_ble_eq_true rfl) (store_all (by simp)) trivial) fun _ => ?_
      refine sq rfl rfl hn rfl (q_assign rfl rfl) ?_
      refine run_nil ?_
      refine aend_then ?_
      refine awp_seq ?_
      refine awp_seq ?_
      refine gh_awp (gh_nilcell (id := 10) (k := 3) 1021 59 3 rfl rfl) ?_
      refine awp_region ?_
      refine sq rfl rfl hn rfl (q_assign rfl rfl) ?_
      refine run_nil ?_
      refine aend_then ?_
      refine awp_block ?_
      refine awp_loop_on (ι := {x : Nat × List Sight5 × Value // x.1 ≤ wordN words 5 % 5 ∧ x.2.1.length ≤ x.1 ∧ ∀ s ∈ x.2.1, (0 ≤ s.sheet ∧ s.sheet ≤ (start.length : Int) - 1) ∧ (0 ≤ s.day ∧ s.day ≤ 9) ∧ s.house = houseAt o s.day.toNat s.sheet.toNat}) (fun x => (21, true, .d (.int .i64 (x.1.1 : Nat))) :: anys [162, 163, 164, 165, 166, 167, 168, 169, 172, 173, 174, 175, 176, 22, 177, 178, 179, 180, 181, 182, 183, 184, 23, 185, 186, 187, 188, 189, 190, 191, 192, 193, 194, 195, 196, 197, 198, 199, 170, 171]) (fun x => (10, .box b10 26 [.d (.int .i64 (H : Nat)), .d (ints start), .d (entsD es), .val x.1.2.2]) :: (1021, .row x.1.2.2 59 3 (x.1.2.1.map sightE)) :: gones [23]) (fun x => wordN words 5 % 5 - x.1.1) ⟨(0, [], .slice none 0 0), Nat.zero_le _, Nat.le_refl _, fun _ h => (by cases h)⟩ ⟨.inl rfl, holdT_anys _⟩ ⟨.inl rfl, .inl rfl, holdR_gones _⟩ ?_
      rintro ⟨⟨k, si, vS⟩, hk5, hsi, hsp⟩
      dsimp only
      dsimp only at hk5 hsi hsp
      refine awp_seq ?_
      refine awp_seq ?_
      refine awp_region ?_
      refine sq rfl rfl hn rfl (q_move rfl rfl) ?_
      refine sq rfl rfl hn rfl (q_move rfl rfl) ?_
      refine stepW (s_call [] (fun _ => word_ok words 5 hw5) rfl (guard_none rfl) rfl (nb hn rfl) (fun _ => trivial) rfl rfl (.refl _)) fun _ => ?_
      refine sq rfl rfl hn rfl (q_rem rfl rfl rfl (r := ((wordN words 5 % 5 : Nat) : Int)) (by omega) (modN (b := 5) (by omega))) ?_
      refine sq rfl rfl hn rfl (q_lss rfl rfl rfl) ?_
      refine sq rfl rfl hn rfl (q_move rfl rfl) ?_
      refine stepG [] (guard_some rfl rfl rfl) rfl (nb hn rfl) (fun hc => trivial) (fun hc => q_move rfl rfl) ?_
      refine sq rfl rfl hn rfl (q_and rfl rfl rfl (by intro hB; first | (rw [hB]; rfl) | (rw [hB, hc]; rfl) | simp_all)) ?_
      refine run_nil ?_
      refine aend_then ?_
      refine awp_cond rfl (fun hb8 => ?_) (fun hb8 => ?_)
      · skip
        have hkl : k < wordN words 5 % 5 := by simp at hb8; omega
        refine awp_skip ?_
        refine aend_then ?_
        refine awp_seq ?_
        refine awp_block ?_
        refine awp_seq ?_
        refine awp_region ?_
        refine sq rfl rfl hn rfl (q_move rfl rfl) ?_
        refine sq rfl rfl hn rfl (q_move rfl rfl) ?_
        refine sq rfl rfl hn rfl (q_mul rfl rfl rfl (r := ((3 * k : Nat) : Int)) (i64w (by omega) (by omega))) ?_
        refine sq rfl rfl hn rfl (q_add rfl rfl rfl (r := ((3 * k + 2 : Nat) : Int)) (i64w (by omega) (by omega))) ?_
        refine stepW (s_call [] (fun _ => word_ok words (3 * k + 2) hw5) rfl (guard_none rfl) rfl (nb hn rfl) (fun _ => trivial) rfl rfl (.refl _)) fun _ => ?_
        refine sq rfl rfl hn rfl (q_assign rfl rfl) ?_
        refine run_nil ?_
        refine aend_then ?_
        refine awp_seq ?_
        obtain ⟨q, hq⟩ : ∃ q, wordN words (3 * k + 2) = q := ⟨_, rfl⟩
        have hql : q < 65536 := hq ▸ wordN_lt hw5
        rw [hq]
        have hqm := Nat.mod_lt q (show 0 < start.length by omega)
        refine awp_region ?_
        refine sq rfl rfl hn rfl (q_move rfl rfl) ?_
        refine sq rfl rfl hn rfl (q_move rfl rfl) ?_
        refine sq rfl rfl hn rfl (q_len rfl rfl Try.underlying22) ?_
        refine sq rfl rfl hn rfl (q_rem rfl rfl rfl (r := ((q % start.length : Nat) : Int)) (by simp only [List.length_map]; omega) (by simp only [List.length_map]; exact modN (by omega))) ?_
        refine sq rfl rfl hn rfl (q_move rfl rfl) ?_
        refine sq rfl rfl hn rfl (q_quo rfl rfl rfl (r := ((q / 8 : Nat) : Int)) (by omega) (quoN (b := 8) (by omega) (by omega))) ?_
        refine sq rfl rfl hn rfl (q_rem rfl rfl rfl (r := ((q / 8 % 10 : Nat) : Int)) (by omega) (modN (b := 10) (by omega))) ?_
        refine sq rfl rfl hn rfl (q_buildd rfl bt59 rfl rfl rfl rfl rfl) ?_
        refine stepW (s_alloc 23 rfl rfl rfl (nb hn rfl) zr59 rfl rfl) fun b23 => ?_
        refine stepW (s_store rfl rfl rfl rfl rfl rfl (id := 23) rfl sz59 rfl (Nat.le_of_ble_eq_true rfl) rfl trivial) fun _ => ?_
        refine run_nil ?_
        refine aend_then ?_
        refine awp_seq ?_
        refine awp_join_on (e := .normal) (ι := Unit) (fun x => anys [185, 186, 187, 188, 189, 190, 191, 192, 193]) (fun x => [(23, .box b23 59 [.d (.int .i64 ((q % start.length : Nat) : Int)), .d (.int .i64 (houseAt o (q / 8 % 10) (q % start.length))), .d (.int .i64 ((q / 8 % 10 : Nat) : Int))])]) (fun hJ9 => ?_) ?_
        · skip
          refine d_start (W := fun b => b ≠ b19) fmo ?_
          refine d1q (i := 0) rfl (by kernel_rfl) (fun _ _ _ _ h => h) rfl rfl hn rfl (q_fieldAddr rfl rfl Try.underlying59 rfl sz3) ?_
          refine d1q (i := 2) rfl (by kernel_rfl) (fun _ _ _ _ h => h) rfl rfl hn rfl (q_fieldAddr rfl rfl Try.underlying59 rfl sz3) ?_
          refine d1q (i := 4) rfl (by kernel_rfl) (fun _ _ _ _ h => h) rfl rfl hn rfl (q_fieldAddr rfl rfl Try.underlying88 rfl sz84) ?_
          refine d1_of_d2 ?_
          refine d2_all 1 [3] (by kernel_rfl) ⟨?_, ?_, trivial⟩
          · skip
            refine br rfl (quiet_wg _ [] (guard_none rfl) rfl (nb hn rfl) (fun _ => trivial) (fun _ => q_load rfl rfl (id := 23) rfl Try.underlying3 rfl rfl sees0)) fun _ => ?_
            refine d2_of_d1 ?_
            refine d1q (i := 5) rfl (by kernel_rfl) (fun _ _ _ _ h => h) rfl rfl hn rfl (q_indexA (i := q / 8 % 10) rfl rfl rfl Try.underlying84 sz83 rfl (by omega)) ?_
            refine d1_of_d2 ?_
            refine d2_one (i := 3) (by kernel_rfl) rfl (quiet_wg _ [] (guard_none rfl) rfl (nb hn rfl) (fun _ => trivial) (fun _ => q_load rfl rfl (id := 23) rfl Try.underlying3 rfl rfl sees0)) fun _ => ?_
            refine d2_of_d1 ?_
            refine d1q (i := 6) rfl (by kernel_rfl) (fun _ _ _ _ h => h) rfl rfl hn rfl (q_indexA (i := q % start.length) rfl rfl rfl Try.underlying83 sz3 rfl (by omega)) ?_
            refine d1q (i := 7) rfl (by kernel_rfl) (fun _ _ _ _ h => h) rfl rfl hn rfl (q_load rfl rfl (id := 19) rfl Try.underlying3 rfl (at0 (by show 0 + 0 + (q / 8 % 10) * 4 + (q % start.length) * 1 = (q / 8 % 10) * 4 + (q % start.length); omega) (getD_some (by omega))) (seesA (by simp))) ?_
            refine d1q (i := 8) rfl (by kernel_rfl) (fun _ _ _ _ h => h) rfl rfl hn rfl (q_fieldAddr rfl rfl Try.underlying59 rfl sz3) ?_
            refine d1_of_d2 ?_
            refine g_ne_d2 (i := 23) (j := 19) rfl rfl rfl (fun hne23_19 => ?_)
            refine d2_one (i := 9) (by kernel_rfl) rfl (s_store1 rfl rfl rfl rfl rfl rfl (id := 23) rfl sz3 (Nat.le_of_ble_eq_true rfl) rfl (fun e => hne23_19 _ rfl (congrArg some e.symm))) fun _ => ?_
            refine d2_of_d1 ?_
            refine d1_of_d2 ?_
            refine d2_done (by kernel_rfl) ?_
            exact aend_join_on hJ9 () (holdT_anys _) ⟨.inl rfl, trivial⟩ (by repeat (first | exact kr _ | refine kc rfl ?_)) (by repeat (first | exact kr _ | refine kc rfl ?_))
          · skip
            refine br rfl (quiet_wg _ [] (guard_none rfl) rfl (nb hn rfl) (fun _ => trivial) (fun _ => q_load rfl rfl (id := 23) rfl Try.underlying3 rfl rfl sees0)) fun _ => ?_
            refine d2_of_d1 ?_
            refine d1_of_d2 ?_
            refine d2_one (i := 1) (by kernel_rfl) rfl (quiet_wg _ [] (guard_none rfl) rfl (nb hn rfl) (fun _ => trivial) (fun _ => q_load rfl rfl (id := 23) rfl Try.underlying3 rfl rfl sees0)) fun _ => ?_
            refine d2_of_d1 ?_
            refine d1q (i := 5) rfl (by kernel_rfl) (fun _ _ _ _ h => h) rfl rfl hn rfl (q_indexA (i := q / 8 % 10) rfl rfl rfl Try.underlying84 sz83 rfl (by omega)) ?_
            refine d1q (i := 6) rfl (by kernel_rfl) (fun _ _ _ _ h => h) rfl rfl hn rfl (q_indexA (i := q % start.length) rfl rfl rfl Try.underlying83 sz3 rfl (by omega)) ?_
            refine d1q (i := 7) rfl (by kernel_rfl) (fun _ _ _ _ h => h) rfl rfl hn rfl (q_load rfl rfl (id := 19) rfl Try.underlying3 rfl (at0 (by show 0 + 0 + (q / 8 % 10) * 4 + (q % start.length) * 1 = (q / 8 % 10) * 4 + (q % start.length); omega) (getD_some (by omega))) (seesA (by simp))) ?_
            refine d1q (i := 8) rfl (by kernel_rfl) (fun _ _ _ _ h => h) rfl rfl hn rfl (q_fieldAddr rfl rfl Try.underlying59 rfl sz3) ?_
            refine d1_of_d2 ?_
            refine g_ne_d2 (i := 23) (j := 19) rfl rfl rfl (fun hne23_19 => ?_)
            refine d2_one (i := 9) (by kernel_rfl) rfl (s_store1 rfl rfl rfl rfl rfl rfl (id := 23) rfl sz3 (Nat.le_of_ble_eq_true rfl) rfl (fun e => hne23_19 _ rfl (congrArg some e.symm))) fun _ => ?_
            refine d2_of_d1 ?_
            refine d1_of_d2 ?_
            refine d2_done (by kernel_rfl) ?_
            exact aend_join_on hJ9 () (holdT_anys _) ⟨.inl rfl, trivial⟩ (by repeat (first | exact kr _ | refine kc rfl ?_)) (by repeat (first | exact kr _ | refine kc rfl ?_))
        · rintro _
          refine aend_then ?_
          refine awp_region ?_
          refine sq rfl rfl hn rfl (q_fieldAddr rfl rfl Try.underlying26 rfl sz24) ?_
          refine sq rfl rfl hn rfl (q_load rfl rfl (id := 10) rfl Try.underlying24 rfl rfl sees0) ?_
          refine sq rfl rfl hn rfl (q_loadAd rfl rfl (id := 23) rfl Try.underlying59 rfl sz59 rfl rfl sees0) ?_
          refine stepW (s_buildSlice rfl rfl rfl (nb hn rfl) Try.underlying24 sz59 zr59 rfl rfl rfl (show _ = [.d (.int .i64 0), .d (.int .i64 0), .d (.int .i64 0)] from by kernel_rfl) (by kernel_rfl) rfl (fill_agg (by kernel_rfl) rfl) (allD_d _) (beq_len rfl) (chunk_one rfl)) fun _ => ?_
          refine stepW (s_append (id := 1021) rfl rfl rfl (nb hn rfl) elt24 trivial rfl rfl rfl (by simp; omega) (by simp; omega) (fun b hb => trivial)) fun v198 => ?_
          refine sq rfl rfl hn rfl (q_fieldAddr rfl rfl Try.underlying26 rfl sz24) ?_
          refine stepW (s_storeRow rfl rfl rfl rfl rfl (rid := 1021) rfl (id := 10) rfl sz24 (Nat.le_of_ble_eq_true rfl) rfl trivial) fun _ => ?_
          refine run_nil ?_
          refine aend_block ?_
          refine aend_then ?_
          refine awp_region ?_
          refine sq rfl rfl hn rfl (q_move rfl rfl) ?_
          refine sq rfl rfl hn rfl (q_add rfl rfl rfl (r := ((k + 1 : Nat) : Int)) (i64w (by omega) (by omega))) ?_
          refine sq rfl rfl hn rfl (q_assign rfl rfl) ?_
          refine run_nil ?_
          exact aend_round_on ⟨(k + 1, si ++ [⟨(q % start.length : Nat), houseAt o (q / 8 % 10) (q % start.length), (q / 8 % 10 : Nat)⟩], v198), by simp only; omega, by simp; omega, fun s hs => by rcases List.mem_append.1 hs with hs | hs; exact hsp s hs; rw [List.mem_singleton] at hs; subst hs; exact ⟨⟨by show (0 : Int) ≤ ((q % start.length : Nat) : Int); omega, by show ((q % start.length : Nat) : Int) ≤ _; omega⟩, ⟨by show (0 : Int) ≤ ((q / 8 % 10 : Nat) : Int); omega, by show ((q / 8 % 10 : Nat) : Int) ≤ _; omega⟩, rfl⟩⟩ ⟨.inl rfl, holdT_anys _⟩ ⟨.inl rfl, .inl (congrArg (fun z => some (Res.row v198 59 3 z)) (sights_add (x := ⟨((q % start.length : Nat) : Int), houseAt o (q / 8 % 10) (q % start.length), ((q / 8 % 10 : Nat) : Int)⟩))), holdR_gones _⟩ (by simp only; omega) (by repeat (first | exact kr _ | refine kc rfl ?_)) (by repeat (first | exact kr _ | refine kc rfl ?_))
      · skip
        refine awp_exit ?_
        refine aend_then_exit ?_
        refine aend_then_exit ?_
        refine aend_block_exit ?_
        refine aend_then ?_
        refine awp_seq ?_
        have hst5 := sights_truth v0 rfl T hdl (by rw [ho]; exact hag) (show si.length ≤ 4 by omega) (fun s hs => by rw [ho]; exact hsp s hs)
        refine gh_awp (gh_rowcell (id := 10) (k := 3) (rid := 1021) rfl rfl rfl) ?_
        refine awp_region ?_
        refine sq rfl rfl hn rfl (q_loadAd rfl rfl (id := 10) rfl Try.underlying26 rfl sz26 rfl rfl sees0) ?_
        refine sq rfl rfl hn rfl (q_move rfl rfl) ?_
        refine stepW (s_store rfl rfl rfl rfl rfl rfl (id := 8) rfl sz26 rfl (Nat.le_of_ble_eq_true rfl) rfl trivial) fun _ => ?_
        refine sq rfl rfl hn rfl (q_assign rfl rfl) ?_
        refine run_nil ?_
        refine aend_then ?_
        refine awp_ret ?_
        refine gh_end (g_row (t := 9) (id := 12) rfl rfl) ?_
        exact ret_E (.inl rfl) ⟨(⟨(H : Int), start, es, si⟩, ts), rfl, rfl, hst5.1, ⟨ds, hst5.2⟩, hap_pref hap v hi7 si⟩ (hands_2d rfl (.d (.cellA rfl (id := 8) rfl Try.underlying26 rfl sz26 rfl rfl)) (.tmp rfl)) trivial
end Go.Proofs.Ytnbmmopjkkofoaa
namespace Go.Proofs.Ytnbmmopjkkofoaa
open Go.RowKit
set_option maxRecDepth 20000
set_option linter.all false
theorem play_0 {r : Reg} {l : List Int} (v : Valid r) (h : datedF r.entries l = true) (k : (refPlay r l).2 = true) : playE r l = 0 := by
  rcases play_ref v h with ⟨_, k2⟩ | ⟨ds, k1, _, _, _⟩
  · rw [k] at k2; cases k2
  · simp [playE, checkE_of v, h, k1]
theorem play_good {r : Reg} {l : List Int} (v : Valid r) (h : datedF r.entries l = true) (k : playE r l = 0) : ∃ ds, playDays r l = some ds ∧ ds.length = 10 ∧ ∀ n, n < 10 → Agrees r l (refPlay r l).1 n (ds.getD n 0) := by
  rcases play_ref v h with ⟨k1, _⟩ | ⟨ds, k1, k2, _, k4⟩
  · simp [playE, checkE_of v, h, k1] at k
  · exact ⟨ds, k1, k2, k4⟩
theorem out_get {r : Reg} {ds : List Nat} {s : Nat} (h : s < r.start.length) : (playOut r ds)[s]? = some (ds.map fun d => (placesA r d).getD s 0) := by
  unfold playOut
  rw [List.getElem?_map, List.getElem?_range h]
  rfl
end Go.Proofs.Ytnbmmopjkkofoaa
namespace Go.Proofs.Ytnbmmopjkkofoaa
open Go.RowKit
set_option maxRecDepth 20000
set_option linter.all false
theorem begun_f {n : Int} {l : List Int} (h : (!(decide ((l.length : Int) ≤ 7) && (checkE ⟨n, l, [], []⟩ == 0))) = false) : Valid ⟨n, l, [], []⟩ := by
  simp only [Bool.not_eq_false', Bool.and_eq_true, beq_iff_eq] at h
  exact valid_of h.2
theorem expl_T {r : Reg} (v : Valid r) (h : hasT r) (x : ExplX r) : x.1.2 = 0 ∧ isTruthB r x.1.1 = true := by
  rcases expl_full v x with ⟨_, e, T⟩ | ⟨k, _⟩
  · exact ⟨e, (truth_iff v).2 T⟩
  · exact (k h).elim
theorem had_le (o : List Int) (N s a : Nat) : hadN o N s a ≤ s := by
  unfold hadN
  have := List.countP_le_length (l := List.range s) (p := fun j => houseAt o N j == (a : Int))
  simpa using this
theorem sum_le {f : Nat → Nat} {s : Nat} (h : ∀ a, f a ≤ s) : ∀ n, sumTo f n ≤ n * s
  | 0 => by simp [sumTo]
  | n + 1 => by
    have := sum_le h n
    have := h n
    simp only [sumTo]
    rw [Nat.succ_mul]
    omega
theorem SheetTruth_eff (n : Int) (l : List Int) (words : List Nat) (many on : Nat) (hw5 : ∀ x ∈ words, x < 65536) (hm5 : many < 256) (ho5 : on < 256) : EffAt Try.prog 13 [.d (.int .i64 n), .d (ints l), .d (wordsD words), .d (.int .u8 (many : Nat)), .d (.int .u8 (on : Nat))] [] (X := Unit) (fun _ => .d (.bool true)) (fun _ => []) := by
  refine EffAt.of_awp Try.func13 rfl (by kernel_rfl) rfl fun Γ hn => ?_
  refine awp_seq ?_
  refine awp_region ?_
  refine sq rfl rfl hn rfl (q_assign rfl rfl) ?_
  refine run_nil ?_
  refine aend_then ?_
  refine awp_seq ?_
  refine awp_seq ?_
  refine awp_region ?_
  refine sq rfl rfl hn rfl (q_move rfl rfl) ?_
  refine sq rfl rfl hn rfl (q_move rfl rfl) ?_
  refine stepW (s_call [] (fun _ => begun_ok _ _) rfl (guard_none rfl) rfl (nb hn rfl) (fun _ => trivial) rfl rfl (.refl _)) fun _ => ?_
  refine sq rfl rfl hn rfl (q_not rfl rfl) ?_
  refine run_nil ?_
  refine aend_then ?_
  refine awp_cond rfl (fun hb0 => ?_) (fun hb0 => ?_)
  · skip
    refine awp_seq ?_
    refine awp_region ?_
    refine stepW (s_call [] (fun _ => awake_ok) rfl (guard_none rfl) rfl (nb hn rfl) (fun _ => trivial) rfl rfl (.refl _)) fun _ => ?_
    refine sq rfl rfl hn rfl (q_assign rfl rfl) ?_
    refine run_nil ?_
    refine aend_then ?_
    refine awp_ret ?_
    refine aend_then_ret ?_
    exact ret_E (.inl rfl) () (hands_1 rfl (.tmp rfl)) trivial
  · skip
    have v := begun_f hb0
    obtain ⟨H, rfl⟩ : ∃ H : Nat, n = (H : Int) := ⟨n.toNat, by have : 1 ≤ n := v.h1; omega⟩
    have hs4 : l.length ≤ 4 := v.s4
    have hs1 : 1 ≤ l.length := v.s1
    have hH4 : (H : Int) ≤ 4 := v.h4
    have hH1 : 1 ≤ (H : Int) := v.h1
    refine awp_skip ?_
    refine aend_then ?_
    refine awp_seq ?_
    refine awp_region ?_
    refine sq rfl rfl hn rfl (q_move rfl rfl) ?_
    refine sq rfl rfl hn rfl (q_move rfl rfl) ?_
    refine sq rfl rfl hn rfl (q_move rfl rfl) ?_
    refine sq rfl rfl hn rfl (q_move rfl rfl) ?_
    refine stepW (s_callE (Happened_eff H l words many v hw5 hm5) rfl rfl rfl (nb hn rfl) (.d rfl) rfl (.refl _) trivial (fun _ => rfl) (fun _ _ => trivial)) fun ⟨⟨r, ts⟩, hrH, hrs, vr, ⟨ds, T⟩, hpre⟩ => ?_
    dsimp only at hrH hrs vr T hpre
    subst hrs
    dsimp only
    have hT : hasT r := (goes_truth vr).2 ⟨ts, ds, T⟩
    have hl5 := datedF_len T.dated
    have hv6 := vr.e6
    have hrp := truth_play vr T
    have hout := refPlay_len vr ts
    obtain ⟨N, hN⟩ : ∃ N, on % 10 = N := ⟨_, rfl⟩
    have hN9 : N ≤ 9 := by omega
    obtain ⟨m, hdm, hpair⟩ := truth_pair vr T hN9
    have hEve : Eve r N m := (rch_truth vr hN9).2 ⟨ts, ds, T, hdm⟩
    have hpe := play_0 vr T.dated hrp
    obtain ⟨ds2, hpd, hdl, _⟩ := play_good vr T.dated hpe
    have hds2 : ds2 = ds := Option.some.inj (hpd.symm.trans T.play)
    subst hds2
    have hpl : playL r ts = playOut r ds2 := by rw [playL, hpe, hpd]; rfl
    have hpn : (playOut r ds2).length = r.start.length := by simp [playOut]
    have hpv := prove_of vr T
    obtain ⟨o, ho⟩ : ∃ o, (refPlay r ts).1 = o := ⟨_, rfl⟩
    unfold daysOf at hpair
    rw [ho] at hout hpair
    refine sq rfl rfl hn rfl (q_move rfl rfl) ?_
    refine sq rfl rfl hn rfl (q_extractd rfl rfl rfl) ?_
    refine sq rfl rfl hn rfl (q_extractd rfl rfl rfl) ?_
    refine stepW (s_alloc 11 rfl rfl rfl (nb hn rfl) zr26 rfl rfl) fun b11 => ?_
    refine stepW (s_store rfl rfl rfl rfl rfl rfl (id := 11) rfl sz26 rfl (Nat.le_of_ble_eq_true rfl) rfl trivial) fun _ => ?_
    refine sq rfl rfl hn rfl (q_assign rfl rfl) ?_
    refine run_nil ?_
    refine aend_then ?_
    refine awp_seq ?_
    refine awp_region ?_
    refine sq rfl rfl hn rfl (q_move rfl rfl) ?_
    refine sq rfl rfl hn rfl (q_conv rfl rfl Try.underlying5 Try.underlying3 (r := (on : Int)) (i64w (by omega) rfl)) ?_
    refine sq rfl rfl hn rfl (q_rem rfl rfl rfl (r := ((N : Nat) : Int)) (by omega) (by rw [← hN]; exact modN (b := 10) (by omega))) ?_
    refine sq rfl rfl hn rfl (q_assign rfl rfl) ?_
    refine run_nil ?_
    refine aend_then ?_
    refine awp_seq ?_
    refine awp_region ?_
    refine sq rfl rfl hn rfl (q_loadAd rfl rfl (id := 11) rfl Try.underlying26 rfl sz26 rfl rfl sees0) ?_
    refine sq rfl rfl hn rfl (q_move rfl rfl) ?_
    refine stepW (s_call [] (fun _ => (by have h6 := refPlay_ok r ts vr hl5; rw [hrp, ho] at h6; exact h6)) rfl (guard_none rfl) rfl (nb hn rfl) (fun _ => trivial) rfl rfl (.refl _)) fun _ => ?_
    refine sq rfl rfl hn rfl (q_move rfl rfl) ?_
    refine sq rfl rfl hn rfl (q_extractd rfl rfl rfl) ?_
    refine sq rfl rfl hn rfl (q_extractd rfl rfl rfl) ?_
    refine stepW (s_alloc 14 rfl rfl rfl (nb hn rfl) zr88 (zerosT 200) (by kernel_rfl)) fun b14 => ?_
    refine stepW (s_store rfl rfl rfl rfl rfl rfl (id := 14) rfl sz88 (cells_len hout) (Nat.le_of_ble_eq_true rfl) (store_all (by simp)) trivial) fun _ => ?_
    refine sq rfl rfl hn rfl (q_assign rfl rfl) ?_
    refine run_nil ?_
    refine aend_then ?_
    refine awp_seq ?_
    refine awp_region ?_
    refine sq rfl rfl hn rfl (q_loadAd rfl rfl (id := 11) rfl Try.underlying26 rfl sz26 rfl rfl sees0) ?_
    refine stepW (s_call [] (fun _ => Register_ok r (by have h5 := vr.s4; omega) (by have h5 := vr.e6; omega) (by have h5 := vr.g4; omega)) rfl (guard_none rfl) rfl (nb hn rfl) (fun _ => trivial) rfl rfl (.refl _)) fun _ => ?_
    refine stepW (s_callE (explain_ok r) rfl rfl rfl (nb hn rfl) (.d rfl) rfl (.refl _) trivial (fun _ => rfl) (fun _ _ => trivial)) fun x1 => ?_
    obtain ⟨he1, hti⟩ := expl_T vr hT x1
    rw [he1]
    refine sq rfl rfl hn rfl (q_move rfl rfl) ?_
    refine sq rfl rfl hn rfl (q_extractd rfl rfl rfl) ?_
    refine sq rfl rfl hn rfl (q_extractd rfl rfl rfl) ?_
    refine sq rfl rfl hn rfl (q_assign rfl rfl) ?_
    refine sq rfl rfl hn rfl (q_assign rfl rfl) ?_
    refine run_nil ?_
    refine aend_then ?_
    refine awp_seq ?_
    refine awp_region ?_
    refine sq rfl rfl hn rfl (q_loadAd rfl rfl (id := 11) rfl Try.underlying26 rfl sz26 rfl rfl sees0) ?_
    refine stepW (s_call [] (fun _ => Register_ok r (by have h5 := vr.s4; omega) (by have h5 := vr.e6; omega) (by have h5 := vr.g4; omega)) rfl (guard_none rfl) rfl (nb hn rfl) (fun _ => trivial) rfl rfl (.refl _)) fun _ => ?_
    refine stepW (s_call [] (fun _ => (by have := leave_ok r; rw [(leave_law vr).1, (leave_nil vr).2 hT] at this; exact this)) rfl (guard_none rfl) rfl (nb hn rfl) (fun _ => trivial) rfl rfl (.refl _)) fun _ => ?_
    refine sq rfl rfl hn rfl (q_move rfl rfl) ?_
    refine sq rfl rfl hn rfl (q_extractd rfl rfl rfl) ?_
    refine sq rfl rfl hn rfl (q_extractd rfl rfl rfl) ?_
    refine sq rfl rfl hn rfl (q_assign rfl rfl) ?_
    refine sq rfl rfl hn rfl (q_assign rfl rfl) ?_
    refine run_nil ?_
    refine aend_then ?_
    refine awp_seq ?_
    refine awp_region ?_
    refine sq rfl rfl hn rfl (q_loadAd rfl rfl (id := 11) rfl Try.underlying26 rfl sz26 rfl rfl sees0) ?_
    refine stepW (s_call [] (fun _ => Register_ok r (by have h5 := vr.s4; omega) (by have h5 := vr.e6; omega) (by have h5 := vr.g4; omega)) rfl (guard_none rfl) rfl (nb hn rfl) (fun _ => trivial) rfl rfl (.refl _)) fun _ => ?_
    refine stepW (s_call [] (fun _ => (by have := first_ok r; rw [first_none vr hpre] at this; exact this)) rfl (guard_none rfl) rfl (nb hn rfl) (fun _ => trivial) rfl rfl (.refl _)) fun _ => ?_
    refine sq rfl rfl hn rfl (q_move rfl rfl) ?_
    refine sq rfl rfl hn rfl (q_extractd rfl rfl rfl) ?_
    refine sq rfl rfl hn rfl (q_extractd rfl rfl rfl) ?_
    refine sq rfl rfl hn rfl (q_assign rfl rfl) ?_
    refine sq rfl rfl hn rfl (q_assign rfl rfl) ?_
    refine run_nil ?_
    refine aend_then ?_
    refine awp_seq ?_
    refine awp_region ?_
    refine sq rfl rfl hn rfl (q_loadAd rfl rfl (id := 11) rfl Try.underlying26 rfl sz26 rfl rfl sees0) ?_
    refine stepW (s_call [] (fun _ => Register_ok r (by have h5 := vr.s4; omega) (by have h5 := vr.e6; omega) (by have h5 := vr.g4; omega)) rfl (guard_none rfl) rfl (nb hn rfl) (fun _ => trivial) rfl rfl (.refl _)) fun _ => ?_
    refine sq rfl rfl hn rfl (q_move rfl rfl) ?_
    refine stepW (s_call [] (fun _ => list_ok ts (by omega)) rfl (guard_none rfl) rfl (nb hn rfl) (fun _ => trivial) rfl rfl (.refl _)) fun _ => ?_
    refine stepW (s_call [] (fun _ => (by have := Play_ok r ts; rw [hpe, hpl] at this; exact this)) rfl (guard_none rfl) rfl (nb hn rfl) (fun _ => trivial) rfl rfl (.refl _)) fun _ => ?_
    refine sq rfl rfl hn rfl (q_move rfl rfl) ?_
    refine sq rfl rfl hn rfl (q_extractd rfl rfl rfl) ?_
    refine sq rfl rfl hn rfl (q_extractd rfl rfl rfl) ?_
    refine sq rfl rfl hn rfl (q_assign rfl rfl) ?_
    refine sq rfl rfl hn rfl (q_assign rfl rfl) ?_
    refine run_nil ?_
    refine aend_then ?_
    refine awp_seq ?_
    refine awp_seq ?_
    refine awp_region ?_
    refine sq rfl rfl hn rfl (q_move rfl rfl) ?_
    refine sq rfl rfl hn rfl (q_not rfl rfl) ?_
    refine sq rfl rfl hn rfl (q_move rfl rfl) ?_
    refine stepG [] (guard_some rfl rfl rfl) rfl (nb hn rfl) (fun hc => trivial) (fun hc => q_move rfl rfl) ?_
    refine stepG [(86, _)] (guard_some rfl rfl rfl) rfl (nb hn rfl) (fun hc => ⟨⟨_, rfl, hc⟩, trivial⟩) (fun hc => q_neq rfl rfl rfl) ?_
    refine sq rfl rfl hn rfl (q_or rfl rfl rfl (by intro hB; first | (rw [hB]; rfl) | (rw [hB, hc]; rfl) | simp_all)) ?_
    refine sq rfl rfl hn rfl (q_move rfl rfl) ?_
    refine stepG [] (guard_some rfl rfl rfl) rfl (nb hn rfl) (fun hc => trivial) (fun hc => q_loadAd rfl rfl (id := 11) rfl Try.underlying26 rfl sz26 rfl rfl sees0) ?_
    refine stepG [] (guard_some rfl rfl rfl) rfl (nb hn rfl) (fun hc => trivial) (fun hc => q_move rfl rfl) ?_
    refine stepW (s_call [(90, _), (91, _)] (fun hc => IsTruth_ok r x1.1.1 vr) rfl (guard_some rfl rfl rfl) rfl (nb hn rfl) (fun hc => ⟨⟨_, rfl, hc⟩, ⟨_, rfl, hc⟩, trivial⟩) rfl rfl (.refl _)) fun _ => ?_
    refine stepG [(92, _)] (guard_some rfl rfl rfl) rfl (nb hn rfl) (fun hc => ⟨⟨_, rfl, hc⟩, trivial⟩) (fun hc => q_not rfl rfl) ?_
    refine sq rfl rfl hn rfl (q_or rfl rfl rfl (by intro hB; first | (rw [hB]; rfl) | (rw [hB, hc]; rfl) | simp_all)) ?_
    refine sq rfl rfl hn rfl (q_move rfl rfl) ?_
    refine stepG [] (guard_some rfl rfl rfl) rfl (nb hn rfl) (fun hc => trivial) (fun hc => q_move rfl rfl) ?_
    refine stepG [(96, _)] (guard_some rfl rfl rfl) rfl (nb hn rfl) (fun hc => ⟨⟨_, rfl, hc⟩, trivial⟩) (fun hc => q_neq rfl rfl rfl) ?_
    refine sq rfl rfl hn rfl (q_or rfl rfl rfl (by intro hB; first | (rw [hB]; rfl) | (rw [hB, hc]; rfl) | simp_all)) ?_
    refine sq rfl rfl hn rfl (q_move rfl rfl) ?_
    refine stepG [] (guard_some rfl rfl rfl) rfl (nb hn rfl) (fun hc => trivial) (fun hc => q_move rfl rfl) ?_
    refine stepG [(100, _)] (guard_some rfl rfl rfl) rfl (nb hn rfl) (fun hc => ⟨⟨_, rfl, hc⟩, trivial⟩) (fun hc => q_len rfl rfl Try.underlying22) ?_
    refine stepG [(101, _)] (guard_some rfl rfl rfl) rfl (nb hn rfl) (fun hc => ⟨⟨_, rfl, hc⟩, trivial⟩) (fun hc => q_neq rfl rfl rfl) ?_
    refine sq rfl rfl hn rfl (q_or rfl rfl rfl (by intro hB; first | (rw [hB]; rfl) | (rw [hB, hc]; rfl) | simp_all)) ?_
    refine sq rfl rfl hn rfl (q_move rfl rfl) ?_
    refine stepG [] (guard_some rfl rfl rfl) rfl (nb hn rfl) (fun hc => trivial) (fun hc => q_move rfl rfl) ?_
    refine stepG [(105, _)] (guard_some rfl rfl rfl) rfl (nb hn rfl) (fun hc => ⟨⟨_, rfl, hc⟩, trivial⟩) (fun hc => q_neq rfl rfl rfl) ?_
    refine sq rfl rfl hn rfl (q_or rfl rfl rfl (by intro hB; first | (rw [hB]; rfl) | (rw [hB, hc]; rfl) | simp_all)) ?_
    refine sq rfl rfl hn rfl (q_move rfl rfl) ?_
    refine stepG [] (guard_some rfl rfl rfl) rfl (nb hn rfl) (fun hc => trivial) (fun hc => q_move rfl rfl) ?_
    refine stepG [(109, _)] (guard_some rfl rfl rfl) rfl (nb hn rfl) (fun hc => ⟨⟨_, rfl, hc⟩, trivial⟩) (fun hc => q_neq rfl rfl rfl) ?_
    refine sq rfl rfl hn rfl (q_or rfl rfl rfl (by intro hB; first | (rw [hB]; rfl) | (rw [hB, hc]; rfl) | simp_all)) ?_
    refine sq rfl rfl hn rfl (q_move rfl rfl) ?_
    refine stepG [] (guard_some rfl rfl rfl) rfl (nb hn rfl) (fun hc => trivial) (fun hc => q_move rfl rfl) ?_
    refine stepG [(113, _)] (guard_some rfl rfl rfl) rfl (nb hn rfl) (fun hc => ⟨⟨_, rfl, hc⟩, trivial⟩) (fun hc => q_len rfl rfl Try.underlying77) ?_
    refine stepG [] (guard_some rfl rfl rfl) rfl (nb hn rfl) (fun hc => trivial) (fun hc => q_move rfl rfl) ?_
    refine stepG [(115, _)] (guard_some rfl rfl rfl) rfl (nb hn rfl) (fun hc => ⟨⟨_, rfl, hc⟩, trivial⟩) (fun hc => q_len rfl rfl Try.underlying22) ?_
    refine stepG [(114, _), (116, _)] (guard_some rfl rfl rfl) rfl (nb hn rfl) (fun hc => ⟨⟨_, rfl, hc⟩, ⟨_, rfl, hc⟩, trivial⟩) (fun hc => q_neq rfl rfl rfl) ?_
    refine sq rfl rfl hn rfl (q_or rfl rfl rfl (by intro hB; first | (rw [hB]; rfl) | (rw [hB, hc]; rfl) | simp_all)) ?_
    refine sq rfl rfl hn rfl (q_move rfl rfl) ?_
    refine stepG [] (guard_some rfl rfl rfl) rfl (nb hn rfl) (fun hc => trivial) (fun hc => q_loadAd rfl rfl (id := 11) rfl Try.underlying26 rfl sz26 rfl rfl sees0) ?_
    refine stepW (s_call [(120, _)] (fun hc => Register_ok r (by have h5 := vr.s4; omega) (by have h5 := vr.e6; omega) (by have h5 := vr.g4; omega)) rfl (guard_some rfl rfl rfl) rfl (nb hn rfl) (fun hc => ⟨⟨_, rfl, hc⟩, trivial⟩) rfl rfl (.refl _)) fun _ => ?_
    refine stepG [] (guard_some rfl rfl rfl) rfl (nb hn rfl) (fun hc => trivial) (fun hc => q_move rfl rfl) ?_
    refine stepW (s_call [(122, _)] (fun hc => list_ok ts (by omega)) rfl (guard_some rfl rfl rfl) rfl (nb hn rfl) (fun hc => ⟨⟨_, rfl, hc⟩, trivial⟩) rfl rfl (.refl _)) fun _ => ?_
    refine stepW (s_call [(121, _), (123, _)] (fun hc => ProveTruth_ok r ts) rfl (guard_some rfl rfl rfl) rfl (nb hn rfl) (fun hc => ⟨⟨_, rfl, hc⟩, ⟨_, rfl, hc⟩, trivial⟩) rfl rfl (.refl _)) fun _ => ?_
    refine stepG [(124, _)] (guard_some rfl rfl rfl) rfl (nb hn rfl) (fun hc => ⟨⟨_, rfl, hc⟩, trivial⟩) (fun hc => q_not rfl rfl) ?_
    refine sq rfl rfl hn rfl (q_or rfl rfl rfl (by intro hB; first | (rw [hB]; rfl) | (rw [hB, hc]; rfl) | simp_all)) ?_
    refine run_nil ?_
    refine aend_then ?_
    refine awp_cond rfl (fun hb1 => ?_) (fun hb1 => ?_)
    · skip
      exfalso; simp [hti, hpv, hpn] at hb1
    · skip
      refine awp_skip ?_
      refine aend_then ?_
      refine awp_seq ?_
      refine awp_region ?_
      refine stepW (s_alloc 24 rfl rfl rfl (nb hn rfl) zr83 (show _ = (hadL o N 0).map intT from rfl) rfl) fun b24 => ?_
      refine run_nil ?_
      refine aend_then ?_
      refine awp_seq ?_
      refine awp_seq ?_
      refine awp_region ?_
      refine sq rfl rfl hn rfl (q_assign rfl rfl) ?_
      refine run_nil ?_
      refine aend_then ?_
      refine awp_block ?_
      refine awp_loop_on (ι := {s : Nat // s ≤ r.start.length}) (fun x => (25, true, .d (.int .i64 (x.1 : Nat))) :: anys [127, 128, 129, 130, 134, 135, 136, 137, 138, 133, 139, 140, 26, 27, 141, 142, 143, 144, 145, 146, 147, 148, 149, 150, 151, 152, 153, 154, 155, 156, 157, 158, 159, 160, 161, 162, 163, 164, 165, 166, 167, 168, 169, 170, 171, 172, 173, 174, 175, 176, 177, 178, 179, 180, 181, 182, 183, 184, 185, 186, 187, 131, 132]) (fun x => [(24, .box b24 83 ((hadL o N x.1).map intT))]) (fun x => r.start.length - x.1) ⟨0, Nat.zero_le _⟩ ⟨.inl rfl, holdT_anys _⟩ ⟨.inl rfl, trivial⟩ ?_
      rintro ⟨s, hs⟩
      dsimp only
      refine awp_seq ?_
      refine awp_seq ?_
      refine awp_region ?_
      refine sq rfl rfl hn rfl (q_move rfl rfl) ?_
      refine sq rfl rfl hn rfl (q_move rfl rfl) ?_
      refine sq rfl rfl hn rfl (q_len rfl rfl Try.underlying22) ?_
      refine sq rfl rfl hn rfl (q_lss rfl rfl rfl) ?_
      refine run_nil ?_
      refine aend_then ?_
      refine awp_cond rfl (fun hb2 => ?_) (fun hb2 => ?_)
      · skip
        have hlt : s < r.start.length := by simp at hb2; omega
        have hrow := out_get (r := r) (ds := ds2) hlt
        have hcell := hpair.1 s (by omega)
        have hpr := hpair.2.2 s hlt
        obtain ⟨h, hh⟩ : ∃ h : Nat, houseAt o N s = (h : Int) := ⟨(houseAt o N s).toNat, by omega⟩
        have hhH : h < H := by omega
        have hlen4 := hadL_len o N s
        have hhb : 0 ≤ (hadL o N s).getD h 0 ∧ (hadL o N s).getD h 0 ≤ 4 := by have := had_le o N s h; rw [hadL_get (by omega)]; omega
        refine awp_skip ?_
        refine aend_then ?_
        refine awp_seq ?_
        refine awp_block ?_
        refine awp_seq ?_
        refine awp_region ?_
        refine sq rfl rfl hn rfl (q_loadAd rfl rfl (id := 11) rfl Try.underlying26 rfl sz26 rfl rfl sees0) ?_
        refine stepW (s_call [] (fun _ => Register_ok r (by have h5 := vr.s4; omega) (by have h5 := vr.e6; omega) (by have h5 := vr.g4; omega)) rfl (guard_none rfl) rfl (nb hn rfl) (fun _ => trivial) rfl rfl (.refl _)) fun _ => ?_
        refine sq rfl rfl hn rfl (q_move rfl rfl) ?_
        refine sq rfl rfl hn rfl (q_move rfl rfl) ?_
        refine stepW (s_callE (Holders_eff r (s : Nat) (N : Nat)) rfl rfl rfl (nb hn rfl) (.d rfl) rfl (.refl _) trivial (fun _ => rfl) (fun _ _ => trivial)) fun x2 => ?_
        obtain ⟨he2, hv2_, hne2⟩ := wantE_0 vr hT (sheetB_of (by omega) (by omega)) (by omega) x2.2
        rw [he2]
        have hhas : hasB (holdR r (s : Nat) x2.1.1) ((placesA r m).getD s 0) = true := hasB_mem.2 ((hold_mem hv2_).2 ⟨m, hEve, rfl⟩)
        refine sq rfl rfl hn rfl (q_move rfl rfl) ?_
        refine sq rfl rfl hn rfl (q_extractd rfl rfl rfl) ?_
        refine sq rfl rfl hn rfl (q_extractd rfl rfl rfl) ?_
        refine sq rfl rfl hn rfl (q_assign rfl rfl) ?_
        refine sq rfl rfl hn rfl (q_assign rfl rfl) ?_
        refine run_nil ?_
        refine aend_then ?_
        refine awp_seq ?_
        refine awp_seq ?_
        refine d_start (W := fun b => b ≠ b14) fmo ?_
        refine d1q (i := 0) rfl (by kernel_rfl) (fun _ _ _ _ h => h) rfl rfl hn rfl (q_move rfl rfl) ?_
        refine d1q (i := 1) rfl (by kernel_rfl) (fun _ _ _ _ h => h) rfl rfl hn rfl (q_neq rfl rfl rfl) ?_
        refine d1q (i := 2) rfl (by kernel_rfl) (fun _ _ _ _ h => h) rfl rfl hn rfl (q_move rfl rfl) ?_
        refine d1g (i := 3) [] rfl (by kernel_rfl) (fun _ _ _ _ h => h) (guard_some rfl rfl rfl) rfl hn rfl (fun hc => trivial) (fun hc => q_move rfl rfl) ?_
        refine d1g (i := 4) [] rfl (by kernel_rfl) (fun _ _ _ _ h => h) (guard_some rfl rfl rfl) rfl hn rfl (fun hc => trivial) (fun hc => q_move rfl rfl) ?_
        refine d1g (i := 5) [(144, _), (145, _)] rfl (by kernel_rfl) (fun _ _ _ _ h => h) (guard_some rfl rfl rfl) rfl hn rfl (fun hc => ⟨⟨_, rfl, hc⟩, ⟨_, rfl, hc⟩, trivial⟩) (fun hc => q_index rfl rfl rfl Try.underlying77 sz22 rfl (mget hrow)) ?_
        refine d1g (i := 6) [(146, _)] rfl (by kernel_rfl) (fun _ _ _ _ h => h) (guard_some rfl rfl rfl) rfl hn rfl (fun hc => ⟨⟨_, rfl, hc⟩, trivial⟩) (fun hc => q_loadp rfl rfl Try.underlying22 rfl seesFA) ?_
        refine d1g (i := 7) [(147, _)] rfl (by kernel_rfl) (fun _ _ _ _ h => h) (guard_some rfl rfl rfl) rfl hn rfl (fun hc => ⟨⟨_, rfl, hc⟩, trivial⟩) (fun hc => q_len rfl rfl Try.underlying22) ?_
        refine d1g (i := 8) [(148, _)] rfl (by kernel_rfl) (fun _ _ _ _ h => h) (guard_some rfl rfl rfl) rfl hn rfl (fun hc => ⟨⟨_, rfl, hc⟩, trivial⟩) (fun hc => q_neq rfl rfl rfl) ?_
        refine d1q (i := 9) rfl (by kernel_rfl) (fun _ _ _ _ h => h) rfl rfl hn rfl (q_or rfl rfl rfl (by intro hB; first | (rw [hB]; rfl) | (rw [hB, hc]; rfl) | simp_all)) ?_
        refine d1q (i := 10) rfl (by kernel_rfl) (fun _ _ _ _ h => h) rfl rfl hn rfl (q_move rfl rfl) ?_
        refine d1g (i := 11) [] rfl (by kernel_rfl) (fun _ _ _ _ h => h) (guard_some rfl rfl rfl) rfl hn rfl (fun hc => trivial) (fun hc => q_move rfl rfl) ?_
        refine d1g (i := 12) [] rfl (by kernel_rfl) (fun _ _ _ _ h => h) (guard_some rfl rfl rfl) rfl hn rfl (fun hc => trivial) (fun hc => q_move rfl rfl) ?_
        refine d1g (i := 13) [(152, _), (153, _)] rfl (by kernel_rfl) (fun _ _ _ _ h => h) (guard_some rfl rfl rfl) rfl hn rfl (fun hc => ⟨⟨_, rfl, hc⟩, ⟨_, rfl, hc⟩, trivial⟩) (fun hc => q_index rfl rfl rfl Try.underlying77 sz22 rfl (mget hrow)) ?_
        refine d1g (i := 14) [(154, _)] rfl (by kernel_rfl) (fun _ _ _ _ h => h) (guard_some rfl rfl rfl) rfl hn rfl (fun hc => ⟨⟨_, rfl, hc⟩, trivial⟩) (fun hc => q_loadp rfl rfl Try.underlying22 rfl seesFA) ?_
        refine d1g (i := 15) [] rfl (by kernel_rfl) (fun _ _ _ _ h => h) (guard_some rfl rfl rfl) rfl hn rfl (fun hc => trivial) (fun hc => q_move rfl rfl) ?_
        refine d1g (i := 16) [(155, _), (156, _)] rfl (by kernel_rfl) (fun _ _ _ _ h => h) (guard_some rfl rfl rfl) rfl hn rfl (fun hc => ⟨⟨_, rfl, hc⟩, ⟨_, rfl, hc⟩, trivial⟩) (fun hc => q_index rfl rfl rfl Try.underlying22 sz3 rfl (mget (mget hdm))) ?_
        refine d1g (i := 17) [(157, _)] rfl (by kernel_rfl) (fun _ _ _ _ h => h) (guard_some rfl rfl rfl) rfl hn rfl (fun hc => ⟨⟨_, rfl, hc⟩, trivial⟩) (fun hc => q_loadp rfl rfl Try.underlying3 rfl seesFA) ?_
        refine d1g (i := 18) [] rfl (by kernel_rfl) (fun _ _ _ _ h => h) (guard_some rfl rfl rfl) rfl hn rfl (fun hc => trivial) (fun hc => q_move rfl rfl) ?_
        refine d1g (i := 19) [] rfl (by kernel_rfl) (fun _ _ _ _ h => h) (guard_some rfl rfl rfl) rfl hn rfl (fun hc => trivial) (fun hc => q_move rfl rfl) ?_
        refine d1g (i := 20) [] rfl (by kernel_rfl) (fun _ _ _ _ h => h) (guard_some rfl rfl rfl) rfl hn rfl (fun hc => trivial) (fun hc => q_fieldAddr rfl rfl Try.underlying88 rfl sz84) ?_
        refine d1g (i := 21) [(161, _), (159, _)] rfl (by kernel_rfl) (fun _ _ _ _ h => h) (guard_some rfl rfl rfl) rfl hn rfl (fun hc => ⟨⟨_, rfl, hc⟩, ⟨_, rfl, hc⟩, trivial⟩) (fun hc => q_indexA (i := N) rfl rfl rfl Try.underlying84 sz83 rfl (by omega)) ?_
        refine d1g (i := 22) [(162, _), (160, _)] rfl (by kernel_rfl) (fun _ _ _ _ h => h) (guard_some rfl rfl rfl) rfl hn rfl (fun hc => ⟨⟨_, rfl, hc⟩, ⟨_, rfl, hc⟩, trivial⟩) (fun hc => q_indexA (i := s) rfl rfl rfl Try.underlying83 sz3 rfl (by omega)) ?_
        refine d1g (i := 23) [(163, _)] rfl (by kernel_rfl) (fun _ _ _ _ h => h) (guard_some rfl rfl rfl) rfl hn rfl (fun hc => ⟨⟨_, rfl, hc⟩, trivial⟩) (fun hc => q_load rfl rfl (id := 14) rfl Try.underlying3 rfl (at0 (by show 0 + 0 + N * 4 + s * 1 = N * 4 + s; omega) (getD_some (by omega))) (seesA (by simp))) ?_
        refine d1g (i := 24) [(158, _), (164, _)] rfl (by kernel_rfl) (fun _ _ _ _ h => h) (guard_some rfl rfl rfl) rfl hn rfl (fun hc => ⟨⟨_, rfl, hc⟩, ⟨_, rfl, hc⟩, trivial⟩) (fun hc => q_neq rfl rfl rfl) ?_
        refine d1q (i := 25) rfl (by kernel_rfl) (fun _ _ _ _ h => h) rfl rfl hn rfl (q_or rfl rfl rfl (by intro hB; first | (rw [hB]; rfl) | (rw [hB, hc]; rfl) | simp_all)) ?_
        refine d1q (i := 26) rfl (by kernel_rfl) (fun _ _ _ _ h => h) rfl rfl hn rfl (q_move rfl rfl) ?_
        refine d1g (i := 27) [] rfl (by kernel_rfl) (fun _ _ _ _ h => h) (guard_some rfl rfl rfl) rfl hn rfl (fun hc => trivial) (fun hc => q_move rfl rfl) ?_
        refine d1g (i := 28) [] rfl (by kernel_rfl) (fun _ _ _ _ h => h) (guard_some rfl rfl rfl) rfl hn rfl (fun hc => trivial) (fun hc => q_move rfl rfl) ?_
        refine d1g (i := 29) [] rfl (by kernel_rfl) (fun _ _ _ _ h => h) (guard_some rfl rfl rfl) rfl hn rfl (fun hc => trivial) (fun hc => q_move rfl rfl) ?_
        refine d1g (i := 30) [] rfl (by kernel_rfl) (fun _ _ _ _ h => h) (guard_some rfl rfl rfl) rfl hn rfl (fun hc => trivial) (fun hc => q_fieldAddr rfl rfl Try.underlying88 rfl sz84) ?_
        refine d1g (i := 31) [(171, _), (169, _)] rfl (by kernel_rfl) (fun _ _ _ _ h => h) (guard_some rfl rfl rfl) rfl hn rfl (fun hc => ⟨⟨_, rfl, hc⟩, ⟨_, rfl, hc⟩, trivial⟩) (fun hc => q_indexA (i := N) rfl rfl rfl Try.underlying84 sz83 rfl (by omega)) ?_
        refine d1g (i := 32) [(172, _), (170, _)] rfl (by kernel_rfl) (fun _ _ _ _ h => h) (guard_some rfl rfl rfl) rfl hn rfl (fun hc => ⟨⟨_, rfl, hc⟩, ⟨_, rfl, hc⟩, trivial⟩) (fun hc => q_indexA (i := s) rfl rfl rfl Try.underlying83 sz3 rfl (by omega)) ?_
        refine d1g (i := 33) [(173, _)] rfl (by kernel_rfl) (fun _ _ _ _ h => h) (guard_some rfl rfl rfl) rfl hn rfl (fun hc => ⟨⟨_, rfl, hc⟩, trivial⟩) (fun hc => q_load rfl rfl (id := 14) rfl Try.underlying3 rfl (at0 (by show 0 + 0 + N * 4 + s * 1 = N * 4 + s; omega) (getD_some (by omega))) (seesA (by simp))) ?_
        refine d1_of_d2 ?_
        refine d2_one (i := 34) (by kernel_rfl) rfl (s_call [(168, _), (174, _)] (fun hc => has5_ok _ _) rfl (guard_some rfl rfl rfl) rfl (nb hn rfl) (fun hc => ⟨⟨_, rfl, hc⟩, ⟨_, rfl, hc⟩, trivial⟩) rfl rfl (.refl _)) fun _ => ?_
        refine d2_of_d1 ?_
        refine d1g (i := 35) [(175, _)] rfl (by kernel_rfl) (fun _ _ _ _ h => h) (guard_some rfl rfl rfl) rfl hn rfl (fun hc => ⟨⟨_, rfl, hc⟩, trivial⟩) (fun hc => q_not rfl rfl) ?_
        refine d1q (i := 36) rfl (by kernel_rfl) (fun _ _ _ _ h => h) rfl rfl hn rfl (q_or rfl rfl rfl (by intro hB; first | (rw [hB]; rfl) | (rw [hB, hc]; rfl) | simp_all)) ?_
        refine d1_of_d2 ?_
        refine d2_done (by kernel_rfl) ?_
        refine aend_then ?_
        refine awp_cond rfl (fun hb3 => ?_) (fun hb3 => ?_)
        · skip
          exact absurd hb3 (by rw [show o.getD (N * 4 + s) 0 = (placesA r m).getD s 0 from hcell, hhas]; simp [hdl])
        · skip
          refine awp_skip ?_
          refine aend_then ?_
          refine awp_region ?_
          refine sq rfl rfl hn rfl (q_move rfl rfl) ?_
          refine sq rfl rfl hn rfl (q_move rfl rfl) ?_
          refine sq rfl rfl hn rfl (q_fieldAddr rfl rfl Try.underlying88 rfl sz84) ?_
          refine sq rfl rfl hn rfl (q_indexA (i := N) rfl rfl rfl Try.underlying84 sz83 rfl (by omega)) ?_
          refine sq rfl rfl hn rfl (q_indexA (i := s) rfl rfl rfl Try.underlying83 sz3 rfl (by omega)) ?_
          refine sq rfl rfl hn rfl (q_load rfl rfl (id := 14) rfl Try.underlying3 rfl (at0 (by show 0 + 0 + N * 4 + s * 1 = N * 4 + s; omega) (getD_some (by omega))) sees0) ?_
          refine sq rfl rfl hn rfl (q_indexA (i := h) rfl rfl rfl Try.underlying83 sz3 hh (by omega)) ?_
          refine sq rfl rfl hn rfl (q_load rfl rfl (id := 24) rfl Try.underlying3 rfl (at1 (getD_some (by omega))) sees0) ?_
          refine sq rfl rfl hn rfl (q_add rfl rfl rfl (r := (hadL o N s).getD h 0 + 1) (i64w (by omega) rfl)) ?_
          refine sq rfl rfl hn rfl (q_indexA (i := h) rfl rfl rfl Try.underlying83 sz3 hh (by omega)) ?_
          refine stepW (s_store1 rfl rfl rfl rfl rfl rfl (id := 24) rfl sz3 (by simp; omega) (set1.trans (congrArg _ (hadL_step hh (by omega)))) trivial) fun _ => ?_
          refine run_nil ?_
          refine aend_block ?_
          refine aend_then ?_
          refine awp_region ?_
          refine sq rfl rfl hn rfl (q_move rfl rfl) ?_
          refine sq rfl rfl hn rfl (q_add rfl rfl rfl (r := ((s + 1 : Nat) : Int)) (i64w (by omega) (by omega))) ?_
          refine sq rfl rfl hn rfl (q_assign rfl rfl) ?_
          refine run_nil ?_
          exact aend_round_on ⟨s + 1, by omega⟩ ⟨.inl rfl, holdT_anys _⟩ ⟨.inl rfl, trivial⟩ (by simp only; omega) (by repeat (first | exact kr _ | refine kc rfl ?_)) (by repeat (first | exact kr _ | refine kc rfl ?_))
      · skip
        have hse : s = r.start.length := by simp at hb2; omega
        subst hse
        refine awp_exit ?_
        refine aend_then_exit ?_
        refine aend_then_exit ?_
        refine aend_block_exit ?_
        refine aend_then ?_
        refine awp_seq ?_
        refine awp_region ?_
        refine sq rfl rfl hn rfl (q_assign rfl rfl) ?_
        refine run_nil ?_
        refine aend_then ?_
        refine awp_seq ?_
        refine awp_seq ?_
        refine awp_region ?_
        refine sq rfl rfl hn rfl (q_assign rfl rfl) ?_
        refine run_nil ?_
        refine aend_then ?_
        refine awp_block ?_
        have hsum := sum_had (o := o) (N := N) (H := H) (s := r.start.length) (fun j hj => by have h1 := hpair.1 j (by omega); have h2 := hpair.2.2 j hj; rw [h1]; omega)
        refine awp_loop_on (ι := {a : Nat // a ≤ H}) (fun x => (28, true, .d (.int .i64 (sumTo (hadN o N r.start.length) x.1 : Nat))) :: (29, true, .d (.int .i64 (x.1 : Nat))) :: anys [188, 189, 190, 194, 195, 196, 197, 198, 193, 199, 200, 30, 31, 201, 202, 203, 204, 205, 206, 207, 208, 209, 210, 211, 212, 213, 214, 215, 216, 217, 218, 219, 220, 221, 222, 223, 32, 224, 225, 226, 230, 231, 232, 233, 234, 235, 229, 236, 237, 33, 34, 238, 239, 240, 241, 242, 243, 244, 245, 246, 247, 248, 249, 250, 251, 252, 253, 254, 255, 256, 257, 258, 259, 260, 261, 262, 263, 264, 265, 266, 267, 268, 269, 270, 271, 272, 273, 274, 275, 276, 277, 278, 279, 280, 227, 228, 191, 192]) (fun x => gones [30, 33]) (fun x => H - x.1) ⟨0, Nat.zero_le _⟩ ⟨.inl rfl, .inl rfl, holdT_anys _⟩ (holdR_gones _) ?_
        rintro ⟨a, ha⟩
        dsimp only
        refine awp_seq ?_
        refine awp_seq ?_
        refine awp_region ?_
        refine sq rfl rfl hn rfl (q_move rfl rfl) ?_
        refine sq rfl rfl hn rfl (q_move rfl rfl) ?_
        refine sq rfl rfl hn rfl (q_lss rfl rfl rfl) ?_
        refine run_nil ?_
        refine aend_then ?_
        refine awp_cond rfl (fun hb4 => ?_) (fun hb4 => ?_)
        · skip
          have haH : a < H := by simp at hb4; omega
          have hlen4 := hadL_len o N r.start.length
          have hva : (hadL o N r.start.length).getD a 0 = (heldN r m (a : Int) : Int) := by rw [hadL_get (by omega)]; exact had_held vr hpair
          have hsb := sum_le (f := hadN o N r.start.length) (s := r.start.length) (fun j => had_le o N _ j) (a + 1)
          have hsc : sumTo (hadN o N r.start.length) (a + 1) ≤ 16 := Nat.le_trans hsb (Nat.le_trans (Nat.mul_le_mul (show a + 1 ≤ 4 by omega) hs4) (by omega))
          have hse : (sumTo (hadN o N r.start.length) (a + 1) : Int) = sumTo (hadN o N r.start.length) a + (hadL o N r.start.length).getD a 0 := by rw [hadL_get (by omega)]; rfl
          refine awp_skip ?_
          refine aend_then ?_
          refine awp_seq ?_
          refine awp_block ?_
          refine awp_seq ?_
          refine awp_region ?_
          refine sq rfl rfl hn rfl (q_loadAd rfl rfl (id := 11) rfl Try.underlying26 rfl sz26 rfl rfl sees0) ?_
          refine stepW (s_call [] (fun _ => Register_ok r (by have h5 := vr.s4; omega) (by have h5 := vr.e6; omega) (by have h5 := vr.g4; omega)) rfl (guard_none rfl) rfl (nb hn rfl) (fun _ => trivial) rfl rfl (.refl _)) fun _ => ?_
          refine sq rfl rfl hn rfl (q_move rfl rfl) ?_
          refine sq rfl rfl hn rfl (q_move rfl rfl) ?_
          refine stepW (s_callE (InHand_eff r (a : Nat) (N : Nat)) rfl rfl rfl (nb hn rfl) (.d rfl) rfl (.refl _) trivial (fun _ => rfl) (fun _ _ => trivial)) fun x3 => ?_
          obtain ⟨he3, hv3_, hne3⟩ := wantE_0 vr hT (houseB_of vr (by omega) (by omega)) (by omega) x3.2
          rw [he3]
          have hr3 := (held_rng (a := (a : Int)) hv3_ hne3).1 m hEve
          refine sq rfl rfl hn rfl (q_move rfl rfl) ?_
          refine sq rfl rfl hn rfl (q_extractd rfl rfl rfl) ?_
          refine sq rfl rfl hn rfl (q_extractd rfl rfl rfl) ?_
          refine stepW (s_alloc 30 rfl rfl rfl (nb hn rfl) zr45 rfl rfl) fun b30 => ?_
          refine stepW (s_store rfl rfl rfl rfl rfl rfl (id := 30) rfl sz45 rfl (Nat.le_of_ble_eq_true rfl) rfl trivial) fun _ => ?_
          refine sq rfl rfl hn rfl (q_assign rfl rfl) ?_
          refine run_nil ?_
          refine aend_then ?_
          refine awp_seq ?_
          refine awp_seq ?_
          refine d_start (W := fun b => b ≠ b24 ∧ b ≠ b30) fmo ?_
          refine d1q (i := 0) rfl (by kernel_rfl) (fun _ _ _ _ h => h) rfl rfl hn rfl (q_move rfl rfl) ?_
          refine d1q (i := 1) rfl (by kernel_rfl) (fun _ _ _ _ h => h) rfl rfl hn rfl (q_neq rfl rfl rfl) ?_
          refine d1q (i := 2) rfl (by kernel_rfl) (fun _ _ _ _ h => h) rfl rfl hn rfl (q_move rfl rfl) ?_
          refine d1g (i := 3) [] rfl (by kernel_rfl) (fun _ _ _ _ h => h) (guard_some rfl rfl rfl) rfl hn rfl (fun hc => trivial) (fun hc => q_move rfl rfl) ?_
          refine d1g (i := 4) [(204, _)] rfl (by kernel_rfl) (fun _ _ _ _ h => h) (guard_some rfl rfl rfl) rfl hn rfl (fun hc => ⟨⟨_, rfl, hc⟩, trivial⟩) (fun hc => q_indexA (i := a) rfl rfl rfl Try.underlying83 sz3 rfl (by omega)) ?_
          refine d1g (i := 5) [(205, _)] rfl (by kernel_rfl) (fun _ _ _ _ h => h) (guard_some rfl rfl rfl) rfl hn rfl (fun hc => ⟨⟨_, rfl, hc⟩, trivial⟩) (fun hc => q_load rfl rfl (id := 24) rfl Try.underlying3 rfl (at1 (getD_some (by omega))) (seesA (by simp))) ?_
          refine d1g (i := 6) [] rfl (by kernel_rfl) (fun _ _ _ _ h => h) (guard_some rfl rfl rfl) rfl hn rfl (fun hc => trivial) (fun hc => q_fieldAddr rfl rfl Try.underlying45 rfl sz3) ?_
          refine d1g (i := 7) [(207, _)] rfl (by kernel_rfl) (fun _ _ _ _ h => h) (guard_some rfl rfl rfl) rfl hn rfl (fun hc => ⟨⟨_, rfl, hc⟩, trivial⟩) (fun hc => q_load rfl rfl (id := 30) rfl Try.underlying3 rfl rfl (seesA (by simp))) ?_
          refine d1g (i := 8) [(206, _), (208, _)] rfl (by kernel_rfl) (fun _ _ _ _ h => h) (guard_some rfl rfl rfl) rfl hn rfl (fun hc => ⟨⟨_, rfl, hc⟩, ⟨_, rfl, hc⟩, trivial⟩) (fun hc => q_lss rfl rfl rfl) ?_
          refine d1q (i := 9) rfl (by kernel_rfl) (fun _ _ _ _ h => h) rfl rfl hn rfl (q_or rfl rfl rfl (by intro hB; first | (rw [hB]; rfl) | (rw [hB, hc]; rfl) | simp_all)) ?_
          refine d1q (i := 10) rfl (by kernel_rfl) (fun _ _ _ _ h => h) rfl rfl hn rfl (q_move rfl rfl) ?_
          refine d1g (i := 11) [] rfl (by kernel_rfl) (fun _ _ _ _ h => h) (guard_some rfl rfl rfl) rfl hn rfl (fun hc => trivial) (fun hc => q_move rfl rfl) ?_
          refine d1g (i := 12) [(212, _)] rfl (by kernel_rfl) (fun _ _ _ _ h => h) (guard_some rfl rfl rfl) rfl hn rfl (fun hc => ⟨⟨_, rfl, hc⟩, trivial⟩) (fun hc => q_indexA (i := a) rfl rfl rfl Try.underlying83 sz3 rfl (by omega)) ?_
          refine d1g (i := 13) [(213, _)] rfl (by kernel_rfl) (fun _ _ _ _ h => h) (guard_some rfl rfl rfl) rfl hn rfl (fun hc => ⟨⟨_, rfl, hc⟩, trivial⟩) (fun hc => q_load rfl rfl (id := 24) rfl Try.underlying3 rfl (at1 (getD_some (by omega))) (seesA (by simp))) ?_
          refine d1g (i := 14) [] rfl (by kernel_rfl) (fun _ _ _ _ h => h) (guard_some rfl rfl rfl) rfl hn rfl (fun hc => trivial) (fun hc => q_fieldAddr rfl rfl Try.underlying45 rfl sz3) ?_
          refine d1g (i := 15) [(215, _)] rfl (by kernel_rfl) (fun _ _ _ _ h => h) (guard_some rfl rfl rfl) rfl hn rfl (fun hc => ⟨⟨_, rfl, hc⟩, trivial⟩) (fun hc => q_load rfl rfl (id := 30) rfl Try.underlying3 rfl rfl (seesA (by simp))) ?_
          refine d1g (i := 16) [(214, _), (216, _)] rfl (by kernel_rfl) (fun _ _ _ _ h => h) (guard_some rfl rfl rfl) rfl hn rfl (fun hc => ⟨⟨_, rfl, hc⟩, ⟨_, rfl, hc⟩, trivial⟩) (fun hc => q_gtr rfl rfl rfl) ?_
          refine d1q (i := 17) rfl (by kernel_rfl) (fun _ _ _ _ h => h) rfl rfl hn rfl (q_or rfl rfl rfl (by intro hB; first | (rw [hB]; rfl) | (rw [hB, hc]; rfl) | simp_all)) ?_
          refine d1_of_d2 ?_
          refine d2_done (by kernel_rfl) ?_
          refine aend_then ?_
          refine awp_cond rfl (fun hb5 => ?_) (fun hb5 => ?_)
          · skip
            exfalso; rw [hva] at hb5; simp at hb5; omega
          · skip
            refine awp_skip ?_
            refine aend_then ?_
            refine awp_seq ?_
            refine awp_region ?_
            refine sq rfl rfl hn rfl (q_move rfl rfl) ?_
            refine sq rfl rfl hn rfl (q_move rfl rfl) ?_
            refine sq rfl rfl hn rfl (q_indexA (i := a) rfl rfl rfl Try.underlying83 sz3 rfl (by omega)) ?_
            refine sq rfl rfl hn rfl (q_load rfl rfl (id := 24) rfl Try.underlying3 rfl (at1 (getD_some (by omega))) sees0) ?_
            refine sq rfl rfl hn rfl (q_add rfl rfl rfl (r := ((sumTo (hadN o N r.start.length) (a + 1) : Nat) : Int)) (i64w (by omega) (by omega))) ?_
            refine sq rfl rfl hn rfl (q_assign rfl rfl) ?_
            refine run_nil ?_
            refine aend_then ?_
            refine awp_seq ?_
            refine awp_region ?_
            refine sq rfl rfl hn rfl (q_assign rfl rfl) ?_
            refine run_nil ?_
            refine aend_then ?_
            refine awp_block ?_
            refine awp_loop_on (ι := {b : Nat // b ≤ H}) (fun x => (32, true, .d (.int .i64 (x.1 : Nat))) :: anys [224, 225, 226, 230, 231, 232, 233, 234, 235, 229, 236, 237, 33, 34, 238, 239, 240, 241, 242, 243, 244, 245, 246, 247, 248, 249, 250, 251, 252, 253, 254, 255, 256, 257, 258, 259, 260, 261, 262, 263, 264, 265, 266, 267, 268, 269, 270, 271, 272, 273, 274, 275, 276, 277, 278, 279, 280, 227, 228]) (fun x => gones [33]) (fun x => H - x.1) ⟨0, Nat.zero_le _⟩ ⟨.inl rfl, holdT_anys _⟩ (holdR_gones _) ?_
            rintro ⟨b, hbH⟩
            dsimp only
            refine awp_seq ?_
            refine awp_seq ?_
            refine awp_region ?_
            refine sq rfl rfl hn rfl (q_move rfl rfl) ?_
            refine sq rfl rfl hn rfl (q_move rfl rfl) ?_
            refine sq rfl rfl hn rfl (q_lss rfl rfl rfl) ?_
            refine run_nil ?_
            refine aend_then ?_
            refine awp_cond rfl (fun hb6 => ?_) (fun hb6 => ?_)
            · skip
              have hbL : b < H := by simp at hb6; omega
              refine awp_skip ?_
              refine aend_then ?_
              refine awp_seq ?_
              refine awp_block ?_
              refine awp_seq ?_
              refine awp_region ?_
              refine sq rfl rfl hn rfl (q_loadAd rfl rfl (id := 11) rfl Try.underlying26 rfl sz26 rfl rfl sees0) ?_
              refine stepW (s_call [] (fun _ => Register_ok r (by have h5 := vr.s4; omega) (by have h5 := vr.e6; omega) (by have h5 := vr.g4; omega)) rfl (guard_none rfl) rfl (nb hn rfl) (fun _ => trivial) rfl rfl (.refl _)) fun _ => ?_
              refine sq rfl rfl hn rfl (q_move rfl rfl) ?_
              refine sq rfl rfl hn rfl (q_move rfl rfl) ?_
              refine sq rfl rfl hn rfl (q_move rfl rfl) ?_
              refine stepW (s_callE (Owed_eff r (a : Nat) (b : Nat) (N : Nat)) rfl rfl rfl (nb hn rfl) (.d rfl) rfl (.refl _) trivial (fun _ => rfl) (fun _ _ => trivial)) fun x4 => ?_
              obtain ⟨he4, hv4_, hne4⟩ := wantE_0 vr hT (by rw [houseB_of vr (by omega) (by omega), houseB_of vr (by omega) (by omega)]; rfl) (by omega) x4.2
              rw [he4]
              obtain ⟨hr4, ⟨m1, hm1, hlo⟩, m2, hm2, hhi⟩ := owed_rng (a := (a : Int)) (b := (b : Int)) hv4_ hne4
              have hr5 := hr4 m hEve
              have hop := (hpair.2.1 a b (by omega) (by omega)).1
              have hnn := openN_nn vr hN9 (show a < 4 by omega) (show b < 4 by omega) hm1
              have hself : a = b → (owedR r (a : Int) (b : Int) x4.1.1).2 = 0 := fun e => by rw [hhi, e]; exact openN_self vr _ _
              refine sq rfl rfl hn rfl (q_move rfl rfl) ?_
              refine sq rfl rfl hn rfl (q_extractd rfl rfl rfl) ?_
              refine sq rfl rfl hn rfl (q_extractd rfl rfl rfl) ?_
              refine stepW (s_alloc 33 rfl rfl rfl (nb hn rfl) zr45 rfl rfl) fun b33 => ?_
              refine stepW (s_store rfl rfl rfl rfl rfl rfl (id := 33) rfl sz45 rfl (Nat.le_of_ble_eq_true rfl) rfl trivial) fun _ => ?_
              refine sq rfl rfl hn rfl (q_assign rfl rfl) ?_
              refine run_nil ?_
              refine aend_then ?_
              refine awp_seq ?_
              refine d_start (W := fun b => b ≠ b14 ∧ b ≠ b33) fmo ?_
              refine d1q (i := 0) rfl (by kernel_rfl) (fun _ _ _ _ h => h) rfl rfl hn rfl (q_move rfl rfl) ?_
              refine d1q (i := 1) rfl (by kernel_rfl) (fun _ _ _ _ h => h) rfl rfl hn rfl (q_neq rfl rfl rfl) ?_
              refine d1q (i := 2) rfl (by kernel_rfl) (fun _ _ _ _ h => h) rfl rfl hn rfl (q_move rfl rfl) ?_
              refine d1g (i := 3) [] rfl (by kernel_rfl) (fun _ _ _ _ h => h) (guard_some rfl rfl rfl) rfl hn rfl (fun hc => trivial) (fun hc => q_fieldAddr rfl rfl Try.underlying45 rfl sz3) ?_
              refine d1g (i := 4) [(241, _)] rfl (by kernel_rfl) (fun _ _ _ _ h => h) (guard_some rfl rfl rfl) rfl hn rfl (fun hc => ⟨⟨_, rfl, hc⟩, trivial⟩) (fun hc => q_load rfl rfl (id := 33) rfl Try.underlying3 rfl rfl (seesA (by simp))) ?_
              refine d1g (i := 5) [(242, _)] rfl (by kernel_rfl) (fun _ _ _ _ h => h) (guard_some rfl rfl rfl) rfl hn rfl (fun hc => ⟨⟨_, rfl, hc⟩, trivial⟩) (fun hc => q_lss rfl rfl rfl) ?_
              refine d1q (i := 6) rfl (by kernel_rfl) (fun _ _ _ _ h => h) rfl rfl hn rfl (q_or rfl rfl rfl (by intro hB; first | (rw [hB]; rfl) | (rw [hB, hc]; rfl) | simp_all)) ?_
              refine d1q (i := 7) rfl (by kernel_rfl) (fun _ _ _ _ h => h) rfl rfl hn rfl (q_move rfl rfl) ?_
              refine d1g (i := 8) [] rfl (by kernel_rfl) (fun _ _ _ _ h => h) (guard_some rfl rfl rfl) rfl hn rfl (fun hc => trivial) (fun hc => q_move rfl rfl) ?_
              refine d1g (i := 9) [] rfl (by kernel_rfl) (fun _ _ _ _ h => h) (guard_some rfl rfl rfl) rfl hn rfl (fun hc => trivial) (fun hc => q_move rfl rfl) ?_
              refine d1g (i := 10) [] rfl (by kernel_rfl) (fun _ _ _ _ h => h) (guard_some rfl rfl rfl) rfl hn rfl (fun hc => trivial) (fun hc => q_move rfl rfl) ?_
              refine d1g (i := 11) [] rfl (by kernel_rfl) (fun _ _ _ _ h => h) (guard_some rfl rfl rfl) rfl hn rfl (fun hc => trivial) (fun hc => q_fieldAddr rfl rfl Try.underlying88 rfl sz86) ?_
              refine d1g (i := 12) [(249, _), (246, _)] rfl (by kernel_rfl) (fun _ _ _ _ h => h) (guard_some rfl rfl rfl) rfl hn rfl (fun hc => ⟨⟨_, rfl, hc⟩, ⟨_, rfl, hc⟩, trivial⟩) (fun hc => q_indexA (i := N) rfl rfl rfl Try.underlying86 sz85 rfl (by omega)) ?_
              refine d1g (i := 13) [(250, _), (247, _)] rfl (by kernel_rfl) (fun _ _ _ _ h => h) (guard_some rfl rfl rfl) rfl hn rfl (fun hc => ⟨⟨_, rfl, hc⟩, ⟨_, rfl, hc⟩, trivial⟩) (fun hc => q_indexA (i := a) rfl rfl rfl Try.underlying85 sz83 rfl (by omega)) ?_
              refine d1g (i := 14) [(251, _), (248, _)] rfl (by kernel_rfl) (fun _ _ _ _ h => h) (guard_some rfl rfl rfl) rfl hn rfl (fun hc => ⟨⟨_, rfl, hc⟩, ⟨_, rfl, hc⟩, trivial⟩) (fun hc => q_indexA (i := b) rfl rfl rfl Try.underlying83 sz3 rfl (by omega)) ?_
              refine d1g (i := 15) [(252, _)] rfl (by kernel_rfl) (fun _ _ _ _ h => h) (guard_some rfl rfl rfl) rfl hn rfl (fun hc => ⟨⟨_, rfl, hc⟩, trivial⟩) (fun hc => q_load rfl rfl (id := 14) rfl Try.underlying3 rfl (at0 (by show 0 + 40 + N * 16 + a * 4 + b * 1 = 40 + N * 16 + a * 4 + b; omega) (getD_some (by omega))) (seesA (by simp))) ?_
              refine d1g (i := 16) [] rfl (by kernel_rfl) (fun _ _ _ _ h => h) (guard_some rfl rfl rfl) rfl hn rfl (fun hc => trivial) (fun hc => q_fieldAddr rfl rfl Try.underlying45 rfl sz3) ?_
              refine d1g (i := 17) [(254, _)] rfl (by kernel_rfl) (fun _ _ _ _ h => h) (guard_some rfl rfl rfl) rfl hn rfl (fun hc => ⟨⟨_, rfl, hc⟩, trivial⟩) (fun hc => q_load rfl rfl (id := 33) rfl Try.underlying3 rfl rfl (seesA (by simp))) ?_
              refine d1g (i := 18) [(253, _), (255, _)] rfl (by kernel_rfl) (fun _ _ _ _ h => h) (guard_some rfl rfl rfl) rfl hn rfl (fun hc => ⟨⟨_, rfl, hc⟩, ⟨_, rfl, hc⟩, trivial⟩) (fun hc => q_lss rfl rfl rfl) ?_
              refine d1q (i := 19) rfl (by kernel_rfl) (fun _ _ _ _ h => h) rfl rfl hn rfl (q_or rfl rfl rfl (by intro hB; first | (rw [hB]; rfl) | (rw [hB, hc]; rfl) | simp_all)) ?_
              refine d1q (i := 20) rfl (by kernel_rfl) (fun _ _ _ _ h => h) rfl rfl hn rfl (q_move rfl rfl) ?_
              refine d1g (i := 21) [] rfl (by kernel_rfl) (fun _ _ _ _ h => h) (guard_some rfl rfl rfl) rfl hn rfl (fun hc => trivial) (fun hc => q_move rfl rfl) ?_
              refine d1g (i := 22) [] rfl (by kernel_rfl) (fun _ _ _ _ h => h) (guard_some rfl rfl rfl) rfl hn rfl (fun hc => trivial) (fun hc => q_move rfl rfl) ?_
              refine d1g (i := 23) [] rfl (by kernel_rfl) (fun _ _ _ _ h => h) (guard_some rfl rfl rfl) rfl hn rfl (fun hc => trivial) (fun hc => q_move rfl rfl) ?_
              refine d1g (i := 24) [] rfl (by kernel_rfl) (fun _ _ _ _ h => h) (guard_some rfl rfl rfl) rfl hn rfl (fun hc => trivial) (fun hc => q_fieldAddr rfl rfl Try.underlying88 rfl sz86) ?_
              refine d1g (i := 25) [(262, _), (259, _)] rfl (by kernel_rfl) (fun _ _ _ _ h => h) (guard_some rfl rfl rfl) rfl hn rfl (fun hc => ⟨⟨_, rfl, hc⟩, ⟨_, rfl, hc⟩, trivial⟩) (fun hc => q_indexA (i := N) rfl rfl rfl Try.underlying86 sz85 rfl (by omega)) ?_
              refine d1g (i := 26) [(263, _), (260, _)] rfl (by kernel_rfl) (fun _ _ _ _ h => h) (guard_some rfl rfl rfl) rfl hn rfl (fun hc => ⟨⟨_, rfl, hc⟩, ⟨_, rfl, hc⟩, trivial⟩) (fun hc => q_indexA (i := a) rfl rfl rfl Try.underlying85 sz83 rfl (by omega)) ?_
              refine d1g (i := 27) [(264, _), (261, _)] rfl (by kernel_rfl) (fun _ _ _ _ h => h) (guard_some rfl rfl rfl) rfl hn rfl (fun hc => ⟨⟨_, rfl, hc⟩, ⟨_, rfl, hc⟩, trivial⟩) (fun hc => q_indexA (i := b) rfl rfl rfl Try.underlying83 sz3 rfl (by omega)) ?_
              refine d1g (i := 28) [(265, _)] rfl (by kernel_rfl) (fun _ _ _ _ h => h) (guard_some rfl rfl rfl) rfl hn rfl (fun hc => ⟨⟨_, rfl, hc⟩, trivial⟩) (fun hc => q_load rfl rfl (id := 14) rfl Try.underlying3 rfl (at0 (by show 0 + 40 + N * 16 + a * 4 + b * 1 = 40 + N * 16 + a * 4 + b; omega) (getD_some (by omega))) (seesA (by simp))) ?_
              refine d1g (i := 29) [] rfl (by kernel_rfl) (fun _ _ _ _ h => h) (guard_some rfl rfl rfl) rfl hn rfl (fun hc => trivial) (fun hc => q_fieldAddr rfl rfl Try.underlying45 rfl sz3) ?_
              refine d1g (i := 30) [(267, _)] rfl (by kernel_rfl) (fun _ _ _ _ h => h) (guard_some rfl rfl rfl) rfl hn rfl (fun hc => ⟨⟨_, rfl, hc⟩, trivial⟩) (fun hc => q_load rfl rfl (id := 33) rfl Try.underlying3 rfl rfl (seesA (by simp))) ?_
              refine d1g (i := 31) [(266, _), (268, _)] rfl (by kernel_rfl) (fun _ _ _ _ h => h) (guard_some rfl rfl rfl) rfl hn rfl (fun hc => ⟨⟨_, rfl, hc⟩, ⟨_, rfl, hc⟩, trivial⟩) (fun hc => q_gtr rfl rfl rfl) ?_
              refine d1q (i := 32) rfl (by kernel_rfl) (fun _ _ _ _ h => h) rfl rfl hn rfl (q_or rfl rfl rfl (by intro hB; first | (rw [hB]; rfl) | (rw [hB, hc]; rfl) | simp_all)) ?_
              refine d1q (i := 33) rfl (by kernel_rfl) (fun _ _ _ _ h => h) rfl rfl hn rfl (q_move rfl rfl) ?_
              refine d1g (i := 34) [] rfl (by kernel_rfl) (fun _ _ _ _ h => h) (guard_some rfl rfl rfl) rfl hn rfl (fun hc => trivial) (fun hc => q_move rfl rfl) ?_
              refine d1g (i := 35) [] rfl (by kernel_rfl) (fun _ _ _ _ h => h) (guard_some rfl rfl rfl) rfl hn rfl (fun hc => trivial) (fun hc => q_move rfl rfl) ?_
              refine d1g (i := 36) [(272, _), (273, _)] rfl (by kernel_rfl) (fun _ _ _ _ h => h) (guard_some rfl rfl rfl) rfl hn rfl (fun hc => ⟨⟨_, rfl, hc⟩, ⟨_, rfl, hc⟩, trivial⟩) (fun hc => q_eql rfl rfl rfl) ?_
              refine d1g (i := 37) [(274, _)] rfl (by kernel_rfl) (fun _ _ _ _ h => h) (guard_some rfl rfl rfl) rfl hn rfl (fun hc => ⟨⟨_, rfl, hc⟩, trivial⟩) (fun hc => q_move rfl rfl) ?_
              refine d1g (i := 38) [] rfl (by kernel_rfl) (fun _ _ _ _ h => h) (guard_some rfl rfl rfl) rfl hn rfl (fun hc => trivial) (fun hc => q_fieldAddr rfl rfl Try.underlying45 rfl sz3) ?_
              refine d1g (i := 39) [(276, _)] rfl (by kernel_rfl) (fun _ _ _ _ h => h) (guard_some rfl rfl rfl) rfl hn rfl (fun hc => ⟨⟨_, rfl, hc⟩, trivial⟩) (fun hc => q_load rfl rfl (id := 33) rfl Try.underlying3 rfl rfl (seesA (by simp))) ?_
              refine d1g (i := 40) [(277, _)] rfl (by kernel_rfl) (fun _ _ _ _ h => h) (guard_some rfl rfl rfl) rfl hn rfl (fun hc => ⟨⟨_, rfl, hc⟩, trivial⟩) (fun hc => q_neq rfl rfl rfl) ?_
              refine d1g (i := 41) [(275, _)] rfl (by kernel_rfl) (fun _ _ _ _ h => h) (guard_some rfl rfl rfl) rfl hn rfl (fun hc => ⟨⟨_, rfl, hc⟩, trivial⟩) (fun hc => q_and rfl rfl rfl (by intro hB; first | (rw [hB]; rfl) | (rw [hB, hc]; rfl) | simp_all)) ?_
              refine d1q (i := 42) rfl (by kernel_rfl) (fun _ _ _ _ h => h) rfl rfl hn rfl (q_or rfl rfl rfl (by intro hB; first | (rw [hB]; rfl) | (rw [hB, hc]; rfl) | simp_all)) ?_
              refine d1_of_d2 ?_
              refine d2_done (by kernel_rfl) ?_
              refine aend_then ?_
              refine awp_cond rfl (fun hb7 => ?_) (fun hb7 => ?_)
              · skip
                exfalso; rw [show o.getD (40 + N * 16 + a * 4 + b) 0 = openN r m (a : Int) (b : Int) from hop] at hb7; simp at hb7; omega
              · skip
                refine awp_skip ?_
                refine aend_block ?_
                refine aend_then ?_
                refine awp_region ?_
                refine sq rfl rfl hn rfl (q_move rfl rfl) ?_
                refine sq rfl rfl hn rfl (q_add rfl rfl rfl (r := ((b + 1 : Nat) : Int)) (i64w (by omega) (by omega))) ?_
                refine sq rfl rfl hn rfl (q_assign rfl rfl) ?_
                refine run_nil ?_
                exact aend_round_on ⟨b + 1, by omega⟩ ⟨.inl rfl, holdT_anys _⟩ (holdR_gones _) (by simp only; omega) (by repeat (first | exact kr _ | refine kc rfl ?_)) (by repeat (first | exact kr _ | refine kc rfl ?_))
            · skip
              refine awp_exit ?_
              refine aend_then_exit ?_
              refine aend_then_exit ?_
              refine aend_block_exit ?_
              refine aend_block ?_
              refine aend_then ?_
              refine awp_region ?_
              refine sq rfl rfl hn rfl (q_move rfl rfl) ?_
              refine sq rfl rfl hn rfl (q_add rfl rfl rfl (r := ((a + 1 : Nat) : Int)) (i64w (by omega) (by omega))) ?_
              refine sq rfl rfl hn rfl (q_assign rfl rfl) ?_
              refine run_nil ?_
              exact aend_round_on ⟨a + 1, by omega⟩ ⟨.inl rfl, .inl rfl, holdT_anys _⟩ (holdR_gones _) (by simp only; omega) (by repeat (first | exact kr _ | refine kc rfl ?_)) (by repeat (first | exact kr _ | refine kc rfl ?_))
        · skip
          have hae : a = H := by simp at hb4; omega
          subst hae
          rw [hsum]
          refine awp_exit ?_
          refine aend_then_exit ?_
          refine aend_then_exit ?_
          refine aend_block_exit ?_
          refine aend_then ?_
          refine awp_seq ?_
          refine awp_region ?_
          refine sq rfl rfl hn rfl (q_move rfl rfl) ?_
          refine sq rfl rfl hn rfl (q_move rfl rfl) ?_
          refine sq rfl rfl hn rfl (q_len rfl rfl Try.underlying22) ?_
          refine sq rfl rfl hn rfl (q_eql rfl rfl rfl) ?_
          refine sq rfl rfl hn rfl (q_move rfl rfl) ?_
          refine stepW (s_call [] (fun hc => awake_ok) rfl (guard_some rfl rfl rfl) rfl (nb hn rfl) (fun hc => trivial) rfl rfl (.refl _)) fun _ => ?_
          refine sq rfl rfl hn rfl (q_and rfl rfl rfl (by intro hB; first | (rw [hB]; rfl) | (rw [hB, hc]; rfl) | simp_all)) ?_
          refine sq rfl rfl hn rfl (q_assign rfl rfl) ?_
          refine run_nil ?_
          refine aend_then ?_
          refine awp_ret ?_
          exact ret_E (.inl rfl) () ((hands_1 rfl (.tmp rfl)).eq (by simp)) trivial
end Go.Proofs.Ytnbmmopjkkofoaa
namespace Go.Proofs.Ytnbmmopjkkofoaa
open Go.ChangeShapes Go.WideShapes Go.ChangeAt Go.RowKit
set_option linter.all false
theorem SheetTruth_pure (xs : List D) (h : Sat [SInt, SInts, SU16s, SU8, SU8] xs) : PureAt Try.prog 13 xs (.bool true) := by
  obtain ⟨_, _, rfl, ⟨a1, rfl, h1⟩, _, _, rfl, ⟨a2, rfl, h2⟩, _, _, rfl, ⟨a3, rfl, h3⟩, _, _, rfl, ⟨a4, rfl, h4⟩, _, _, rfl, ⟨a5, rfl, h5⟩, rfl⟩ := h
  exact PureAt.of_eff (ds := [.int .i64 a1, ints a2, wordsD a3, .int .u8 (a4 : Nat), .int .u8 (a5 : Nat)]) (SheetTruth_eff a1 a2 a3 a4 a5 h3.1 h4 h5)
set_option maxRecDepth 100000 in
theorem sheetTruth_lifted (os : Os) (started : os.Started) (H : Type) (enc : TypeId × Value → H) :
    ReturnsInHanded {} Try.checked os 13 .any (Rows.sheetTruthSpec.pre6 enc Try.prog Try.f13 Rows.sheetTruthRow.domain false) (Rows.sheetTruthSpec.post enc Try.prog Try.f13 false true false false) := by
  refine returnsInHanded_of_change_sized (C := Try.checked) own started (by kernel_rfl) Try.func13
    (ChangeSpec.witness6 (enc := enc) (C := Try.checked) false ⟨#[], #[.int .i64 0, .slice none 0 0, .slice none 0 0, .int .u8 0, .int .u8 0], []⟩ 8 (by kernel_rfl) (by kernel_rfl) (by kernel_rfl) (by kernel_rfl)) ?_
  intro W base args ds gs before hval hW _ hz _
  exact law_contract (ts := [3, 22, 52, 5, 5]) (Ss := [SInt, SInts, SU16s, SU8, SU8]) laidOut (by rw [Try.params13]) (by kernel_rfl) (by kernel_rfl) Try.underlying4 rfl rfl
    (fun ds h => by match ds, h with | [d1, d2, d3, d4, d5], _ => rfl) ⟨pInt, pInts, pU16s, pU8, pU8, trivial⟩ SheetTruth_pure W base args ds gs before hval hW hz
theorem sheetTruth_holds : Rows.SheetTruthSaid :=
  OpenClaim.holds_of_wide 13 Try.f13 rfl rfl rfl rfl rfl rfl rfl ⟨rfl, rfl, rfl, rfl, rfl⟩ rfl rfl rfl rfl rfl (by kernel_rfl) Try.func13 (by kernel_rfl)
    (of_decide_eq_true (by kernel_rfl)) (by unfold Func.isWrapper; first | (rw [if_pos (by decide +kernel)]; kernel_rfl) | (rw [if_neg (by decide +kernel)]; exact ⟨rfl, rfl⟩))
    (fun os started H enc _ => sheetTruth_lifted os started H enc)
end Go.Proofs.Ytnbmmopjkkofoaa
