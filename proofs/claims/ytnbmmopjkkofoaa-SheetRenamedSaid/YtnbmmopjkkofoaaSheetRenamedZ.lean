/-
  The law SheetRenamed returns true for every input, and leaves its arguments as they were: the given statement, whole. No condition.
-/
import Derived.Laws.StructEq
import Derived.Test.YtnbmmopjkkofoaaSheetRenamedI
namespace Go.Proofs.Ytnbmmopjkkofoaa
open Go.RowKit
set_option maxRecDepth 20000
set_option linter.all false
theorem eq45 (a b c d : Int) (w : World) : (binOp .eql 45 (.agg #[.int .i64 a, .int .i64 b]) (.agg #[.int .i64 c, .int .i64 d])).run Try.prog w = .ok (.bool (a == c && b == d)) w := by
  have u3 := Try.underlying3
  have a3 := Try.isAgg3
  have z3 := Try.sizeOf3
  have hS : Try.prog.underlying 45 = some (.struct (Try.prog.fieldsOf 45)) := by kernel_rfl
  have hp : Try.prog.stoodInHeld 45 = false := by kernel_rfl
  rw [run_eql_struct, show (10000 : Nat) = 9999 + 1 from rfl, run_equalIn_agg w 9999 45 _ _ hS hp]
  simp only [Program.fieldsOf, Try.underlying45]
  go_simp
  by_cases h1 : a = c <;> by_cases h2 : b = d <;> simp [h1, h2]
theorem guard45 (op : BinOp) (x y : Operand) (xs ys : Array Value) (w : World) : (eqGuard op 45 x y (.agg xs) (.agg ys)).run Try.prog w = .ok () w := run_eqGuard_agg w op 45 x y xs ys (by kernel_rfl)
theorem q_eql45 {Γ : Cx} {σ : St} {o : Oper} {R : Rel} {x y : Operand} {t' : TypeId} {a b c d : Int} (h : o.op = .binOp .eql 45 x y t') (hx : σ.ev x = some (true, .d (.agg [.int .i64 a, .int .i64 b]))) (hy : σ.ev y = some (true, .d (.agg [.int .i64 c, .int .i64 d]))) :
    QV Γ Try.prog σ o R (.d (.bool (a == c && b == d))) := fun A w F hs => by
  obtain ⟨vs, e1, h1, _⟩ := hs.ev hx
  obtain ⟨us, e2, h2, _⟩ := hs.ev hy
  obtain ⟨v1, vs1, rfl, q1, v2, vs2, rfl, q2, q3⟩ := h1
  obtain ⟨u1, us1, rfl, p1, u2, us2, rfl, p2, p3⟩ := h2
  simp only [Rep, RepVals] at q1 q2 q3 p1 p2 p3
  subst q1 q2 q3 p1 p2 p3
  exact ⟨.bool (a == c && b == d), rfl, fun w' _ => by
    simp only [execOp, h, e1, e2, Sem.run_bind, guard45, Result.andThen_ok, eq45, Sem.run_pure]⟩
abbrev L0 : Reg := loanR [] []
theorem L0_check : checkE L0 = 0 := by kernel_rfl
theorem L0_hold : refHolders L0 (allDays L0) 0 2 3 = [0, 1, 2] := by kernel_rfl
theorem L0_sure : refSurely (allDays L0) 2 4 2 = [0] := by kernel_rfl
theorem L0_inhand : refInHand L0 (allDays L0) 1 3 = (0, 2) := by kernel_rfl
theorem L0_owed : refOwed (allDays L0) 0 1 3 = (0, 1) := by kernel_rfl
theorem L0_ne : (allDays L0).isEmpty = false := by kernel_rfl
theorem L1_first : firstR (loanR astrayL []) = (3, 0) := by kernel_rfl
theorem L1_leave : leaveR (loanR astrayL []) = ([3], 0) := by kernel_rfl
theorem ask_ok {r : Reg} {is : Bool} {N : Nat} {out : List Nat} {e : Int} (v : Valid r) (his : is = true) (hN : N ≤ 9) (h : AskP r is (N : Nat) out e) : EvOK r N out ∧ e = if allDays r = [] then 9 else 0 := by
  have h0 := checkE_of v
  rcases h with ⟨k, _, _⟩ | ⟨_, k, _⟩ | ⟨_, _, n, hn, h9, hev, he⟩
  · exact (k h0).elim
  · rw [his] at k; simp [dayB] at k; omega
  · obtain rfl : N = n := by omega
    refine ⟨hev, he.trans ?_⟩
    by_cases ho : out = []
    · rw [if_pos ((ev_nil v hN hev).1 ho), ho]; rfl
    · rw [if_neg (fun e => ho ((ev_nil v hN hev).2 e))]
      cases out with
      | nil => exact (ho rfl).elim
      | cons _ _ => rfl
theorem L0_valid : Valid L0 := valid_of L0_check
theorem L0_all : allDays L0 ≠ [] := fun e => by have := L0_ne; rw [e] at this; cases this
theorem L0_ask {is : Bool} {N : Nat} {out : List Nat} {e : Int} (his : is = true) (hN : N ≤ 9) (h : AskP L0 is (N : Nat) out e) : EvOK L0 N out ∧ e = 0 ∧ out ≠ [] := by
  obtain ⟨h1, h2⟩ := ask_ok L0_valid his hN h
  rw [if_neg L0_all] at h2
  exact ⟨h1, h2, fun e => L0_all ((ev_nil L0_valid hN h1).1 e)⟩
theorem aw_hold (x : AskX L0 (sheetB L0 0) 2) : x.1.2 = 0 ∧ holdR L0 0 x.1.1 = [0, 1, 2] := by
  obtain ⟨h1, h2, h3⟩ := L0_ask (N := 2) rfl (by omega) x.2
  exact ⟨h2, (holders_eq (N := 2) (s := 0) L0_valid (by omega) (by decide) h1).trans L0_hold⟩
theorem aw_sure (x : AskX L0 (houseB L0 2) 4) : x.1.2 = 0 ∧ surelyR L0 2 x.1.1 = [0] := by
  obtain ⟨h1, h2, h3⟩ := L0_ask (N := 4) rfl (by omega) x.2
  exact ⟨h2, (surely_eq L0_valid (by omega) h3 h1).trans L0_sure⟩
theorem aw_held (x : AskX L0 (houseB L0 1) 3) : x.1.2 = 0 ∧ heldR L0 1 x.1.1 = (0, 2) := by
  obtain ⟨h1, h2, h3⟩ := L0_ask (N := 3) rfl (by omega) x.2
  exact ⟨h2, (held_eq L0_valid (by omega) h3 h1).trans L0_inhand⟩
theorem aw_owed (x : AskX L0 (houseB L0 0 && houseB L0 1) 3) : x.1.2 = 0 ∧ owedR L0 0 1 x.1.1 = (0, 1) := by
  obtain ⟨h1, h2, h3⟩ := L0_ask (N := 3) rfl (by omega) x.2
  exact ⟨h2, (owed_eq (a := 0) (b := 1) L0_valid (by omega) (by omega) (by omega) h3 h1).trans L0_owed⟩
theorem prove_of {r : Reg} {t : List Int} {ds : List Nat} (v : Valid r) (T : Truth r t ds) : proveB r t = true := by
  unfold proveB
  rw [checkE_of v, T.dated, T.play]
  simp [T.seen]
theorem aw_expl (x : ExplX L0) : x.1.2 = 0 ∧ proveB L0 x.1.1 = true := by
  have h0 := L0_check
  rcases x.2 with ⟨k, _⟩ | ⟨_, k, _⟩ | ⟨_, _, h, _, n, m, hp⟩
  · exact (k h0).elim
  · rw [(goes_all_iff L0_valid).2 L0_all] at k; cases k
  · obtain ⟨ds, T⟩ := truth_of_path L0_valid hp
    exact ⟨h, prove_of L0_valid T⟩
theorem awake_eff  : EffAt Try.prog 15 [] [] (X := Unit) (fun _ => .d (.bool true)) (fun _ => []) := by
  refine EffAt.of_awp Try.func15 rfl (by kernel_rfl) rfl fun Γ hn => ?_
  refine awp_seq ?_
  refine awp_region ?_
  refine sq rfl rfl hn rfl (q_assign rfl rfl) ?_
  refine run_nil ?_
  refine aend_then ?_
  refine awp_seq ?_
  refine awp_region ?_
  refine stepW (s_call [] (fun _ => loan_ok [] [] (by simp)) rfl (guard_none rfl) rfl (nb hn rfl) (fun _ => trivial) rfl rfl (by first | exact .refl _ | (repeat (first | exact .refl _ | exact .nil _ | refine .cons ?_ ?_ | refine .agg ?_ | refine .tup ?_)))) fun _ => ?_
  refine stepW (s_callE (Holders_eff L0 0 2) rfl rfl rfl (nb hn rfl) (.d rfl) rfl (.refl _) trivial (fun _ => rfl) (fun _ _ => trivial)) fun x1 => ?_
  obtain ⟨he1, hh1⟩ := aw_hold x1
  rw [he1, hh1]
  refine sq rfl rfl hn rfl (q_move rfl rfl) ?_
  refine sq rfl rfl hn rfl (q_extractd rfl rfl rfl) ?_
  refine sq rfl rfl hn rfl (q_extractd rfl rfl rfl) ?_
  refine sq rfl rfl hn rfl (q_assign rfl rfl) ?_
  refine sq rfl rfl hn rfl (q_assign rfl rfl) ?_
  refine run_nil ?_
  refine aend_then ?_
  refine awp_seq ?_
  refine awp_region ?_
  refine stepW (s_call [] (fun _ => loan_ok [] [] (by simp)) rfl (guard_none rfl) rfl (nb hn rfl) (fun _ => trivial) rfl rfl (by first | exact .refl _ | (repeat (first | exact .refl _ | exact .nil _ | refine .cons ?_ ?_ | refine .agg ?_ | refine .tup ?_)))) fun _ => ?_
  refine stepW (s_callE (InHand_eff L0 1 3) rfl rfl rfl (nb hn rfl) (.d rfl) rfl (.refl _) trivial (fun _ => rfl) (fun _ _ => trivial)) fun x2 => ?_
  obtain ⟨he2, hh2⟩ := aw_held x2
  rw [he2, hh2]
  refine sq rfl rfl hn rfl (q_move rfl rfl) ?_
  refine sq rfl rfl hn rfl (q_extractd rfl rfl rfl) ?_
  refine sq rfl rfl hn rfl (q_extractd rfl rfl rfl) ?_
  refine stepW (s_alloc 3 rfl rfl rfl (nb hn rfl) zr45 rfl rfl) fun b3 => ?_
  refine stepW (s_store rfl rfl rfl rfl rfl rfl (id := 3) rfl sz45 rfl (Nat.le_of_ble_eq_true rfl) rfl trivial) fun _ => ?_
  refine sq rfl rfl hn rfl (q_assign rfl rfl) ?_
  refine run_nil ?_
  refine aend_then ?_
  refine awp_seq ?_
  refine awp_region ?_
  refine stepW (s_call [] (fun _ => loan_ok [] [] (by simp)) rfl (guard_none rfl) rfl (nb hn rfl) (fun _ => trivial) rfl rfl (by first | exact .refl _ | (repeat (first | exact .refl _ | exact .nil _ | refine .cons ?_ ?_ | refine .agg ?_ | refine .tup ?_)))) fun _ => ?_
  refine stepW (s_callE (Owed_eff L0 0 1 3) rfl rfl rfl (nb hn rfl) (.d rfl) rfl (.refl _) trivial (fun _ => rfl) (fun _ _ => trivial)) fun x3 => ?_
  obtain ⟨he3, hh3⟩ := aw_owed x3
  rw [he3, hh3]
  refine sq rfl rfl hn rfl (q_move rfl rfl) ?_
  refine sq rfl rfl hn rfl (q_extractd rfl rfl rfl) ?_
  refine sq rfl rfl hn rfl (q_extractd rfl rfl rfl) ?_
  refine stepW (s_alloc 5 rfl rfl rfl (nb hn rfl) zr45 rfl rfl) fun b5 => ?_
  refine stepW (s_store rfl rfl rfl rfl rfl rfl (id := 5) rfl sz45 rfl (Nat.le_of_ble_eq_true rfl) rfl trivial) fun _ => ?_
  refine sq rfl rfl hn rfl (q_assign rfl rfl) ?_
  refine run_nil ?_
  refine aend_then ?_
  refine awp_seq ?_
  refine awp_region ?_
  refine stepW (s_call [] (fun _ => loan_ok [] [] (by simp)) rfl (guard_none rfl) rfl (nb hn rfl) (fun _ => trivial) rfl rfl (by first | exact .refl _ | (repeat (first | exact .refl _ | exact .nil _ | refine .cons ?_ ?_ | refine .agg ?_ | refine .tup ?_)))) fun _ => ?_
  refine stepW (s_callE (Surely_eff L0 2 4) rfl rfl rfl (nb hn rfl) (.d rfl) rfl (.refl _) trivial (fun _ => rfl) (fun _ _ => trivial)) fun x4 => ?_
  obtain ⟨he4, hh4⟩ := aw_sure x4
  rw [he4, hh4]
  refine sq rfl rfl hn rfl (q_move rfl rfl) ?_
  refine sq rfl rfl hn rfl (q_extractd rfl rfl rfl) ?_
  refine sq rfl rfl hn rfl (q_extractd rfl rfl rfl) ?_
  refine sq rfl rfl hn rfl (q_assign rfl rfl) ?_
  refine sq rfl rfl hn rfl (q_assign rfl rfl) ?_
  refine run_nil ?_
  refine aend_then ?_
  refine awp_seq ?_
  refine awp_region ?_
  refine stepW (s_call [] (fun _ => astray_ok) rfl (guard_none rfl) rfl (nb hn rfl) (fun _ => trivial) rfl rfl (.refl _)) fun _ => ?_
  refine stepW (s_call [] (fun _ => loan_ok astrayL [] (by decide)) rfl (guard_none rfl) rfl (nb hn rfl) (fun _ => trivial) rfl rfl (by first | exact .refl _ | (repeat (first | exact .refl _ | exact .nil _ | refine .cons ?_ ?_ | refine .agg ?_ | refine .tup ?_)))) fun _ => ?_
  refine stepW (s_call [] (fun _ => (by have := leave_ok (loanR astrayL []); rw [L1_leave] at this; exact this)) rfl (guard_none rfl) rfl (nb hn rfl) (fun _ => trivial) rfl rfl (.refl _)) fun _ => ?_
  refine sq rfl rfl hn rfl (q_move rfl rfl) ?_
  refine sq rfl rfl hn rfl (q_extractd rfl rfl rfl) ?_
  refine sq rfl rfl hn rfl (q_extractd rfl rfl rfl) ?_
  refine sq rfl rfl hn rfl (q_assign rfl rfl) ?_
  refine sq rfl rfl hn rfl (q_assign rfl rfl) ?_
  refine run_nil ?_
  refine aend_then ?_
  refine awp_seq ?_
  refine awp_region ?_
  refine stepW (s_call [] (fun _ => astray_ok) rfl (guard_none rfl) rfl (nb hn rfl) (fun _ => trivial) rfl rfl (.refl _)) fun _ => ?_
  refine stepW (s_call [] (fun _ => loan_ok astrayL [] (by decide)) rfl (guard_none rfl) rfl (nb hn rfl) (fun _ => trivial) rfl rfl (by first | exact .refl _ | (repeat (first | exact .refl _ | exact .nil _ | refine .cons ?_ ?_ | refine .agg ?_ | refine .tup ?_)))) fun _ => ?_
  refine stepW (s_call [] (fun _ => (by have := first_ok (loanR astrayL []); rw [L1_first] at this; exact this)) rfl (guard_none rfl) rfl (nb hn rfl) (fun _ => trivial) rfl rfl (.refl _)) fun _ => ?_
  refine sq rfl rfl hn rfl (q_move rfl rfl) ?_
  refine sq rfl rfl hn rfl (q_extractd rfl rfl rfl) ?_
  refine sq rfl rfl hn rfl (q_extractd rfl rfl rfl) ?_
  refine sq rfl rfl hn rfl (q_assign rfl rfl) ?_
  refine sq rfl rfl hn rfl (q_assign rfl rfl) ?_
  refine run_nil ?_
  refine aend_then ?_
  refine awp_seq ?_
  refine awp_region ?_
  refine stepW (s_call [] (fun _ => loan_ok [] [] (by simp)) rfl (guard_none rfl) rfl (nb hn rfl) (fun _ => trivial) rfl rfl (by first | exact .refl _ | (repeat (first | exact .refl _ | exact .nil _ | refine .cons ?_ ?_ | refine .agg ?_ | refine .tup ?_)))) fun _ => ?_
  refine stepW (s_callE (explain_ok L0) rfl rfl rfl (nb hn rfl) (.d rfl) rfl (.refl _) trivial (fun _ => rfl) (fun _ _ => trivial)) fun x7 => ?_
  obtain ⟨he7, hh7⟩ := aw_expl x7
  rw [he7]
  refine sq rfl rfl hn rfl (q_move rfl rfl) ?_
  refine sq rfl rfl hn rfl (q_extractd rfl rfl rfl) ?_
  refine sq rfl rfl hn rfl (q_extractd rfl rfl rfl) ?_
  refine sq rfl rfl hn rfl (q_assign rfl rfl) ?_
  refine sq rfl rfl hn rfl (q_assign rfl rfl) ?_
  refine run_nil ?_
  refine aend_then ?_
  refine awp_seq ?_
  refine awp_region ?_
  refine sq rfl rfl hn rfl (q_move rfl rfl) ?_
  refine sq rfl rfl hn rfl (q_eql rfl rfl rfl) ?_
  refine sq rfl rfl hn rfl (q_move rfl rfl) ?_
  refine stepG [] (guard_some rfl rfl rfl) rfl (nb hn rfl) (fun hc => trivial) (fun hc => q_move rfl rfl) ?_
  refine stepW (s_guard (guard_some rfl rfl rfl) rfl (nb hn rfl) (s_buildSlice rfl rfl rfl (nb hn rfl) Try.underlying22 sz3 zr3 rfl rfl rfl (show _ = [.d (.int .i64 0), .d (.int .i64 0), .d (.int .i64 0)] from by kernel_rfl) (by kernel_rfl) rfl rfl rfl rfl rfl)) fun _ => ?_
  refine stepW (s_call [(55, _), (56, _)] (fun hc => Same_ok [0, 1, 2] [0, 1, 2]) rfl (guard_some rfl rfl rfl) rfl (nb hn rfl) (fun hc => ⟨⟨_, rfl, hc⟩, ⟨_, rfl, hc⟩, trivial⟩) rfl rfl (.refl _)) fun _ => ?_
  refine sq rfl rfl hn rfl (q_and rfl rfl rfl (by simp_all)) ?_
  refine sq rfl rfl hn rfl (q_move rfl rfl) ?_
  refine stepG [] (guard_some rfl rfl rfl) rfl (nb hn rfl) (fun hc => trivial) (fun hc => q_move rfl rfl) ?_
  refine stepG [(60, _)] (guard_some rfl rfl rfl) rfl (nb hn rfl) (fun hc => ⟨⟨_, rfl, hc⟩, trivial⟩) (fun hc => q_eql rfl rfl rfl) ?_
  refine sq rfl rfl hn rfl (q_and rfl rfl rfl (by simp_all)) ?_
  refine sq rfl rfl hn rfl (q_move rfl rfl) ?_
  refine stepG [] (guard_some rfl rfl rfl) rfl (nb hn rfl) (fun hc => trivial) (fun hc => q_loadAd rfl rfl (id := 3) rfl Try.underlying45 rfl sz45 rfl rfl sees0) ?_
  refine stepG [] (guard_some rfl rfl rfl) rfl (nb hn rfl) (fun hc => trivial) (fun hc => q_buildd rfl bt45 rfl rfl rfl rfl rfl) ?_
  refine stepG [(64, _), (65, _)] (guard_some rfl rfl rfl) rfl (nb hn rfl) (fun hc => ⟨⟨_, rfl, hc⟩, ⟨_, rfl, hc⟩, trivial⟩) (fun hc => q_eql45 rfl rfl rfl) ?_
  refine sq rfl rfl hn rfl (q_and rfl rfl rfl (by simp_all)) ?_
  refine sq rfl rfl hn rfl (q_move rfl rfl) ?_
  refine stepG [] (guard_some rfl rfl rfl) rfl (nb hn rfl) (fun hc => trivial) (fun hc => q_move rfl rfl) ?_
  refine stepG [(69, _)] (guard_some rfl rfl rfl) rfl (nb hn rfl) (fun hc => ⟨⟨_, rfl, hc⟩, trivial⟩) (fun hc => q_eql rfl rfl rfl) ?_
  refine sq rfl rfl hn rfl (q_and rfl rfl rfl (by simp_all)) ?_
  refine sq rfl rfl hn rfl (q_move rfl rfl) ?_
  refine stepG [] (guard_some rfl rfl rfl) rfl (nb hn rfl) (fun hc => trivial) (fun hc => q_loadAd rfl rfl (id := 5) rfl Try.underlying45 rfl sz45 rfl rfl sees0) ?_
  refine stepG [] (guard_some rfl rfl rfl) rfl (nb hn rfl) (fun hc => trivial) (fun hc => q_buildd rfl bt45 rfl rfl rfl rfl rfl) ?_
  refine stepG [(73, _), (74, _)] (guard_some rfl rfl rfl) rfl (nb hn rfl) (fun hc => ⟨⟨_, rfl, hc⟩, ⟨_, rfl, hc⟩, trivial⟩) (fun hc => q_eql45 rfl rfl rfl) ?_
  refine sq rfl rfl hn rfl (q_and rfl rfl rfl (by simp_all)) ?_
  refine sq rfl rfl hn rfl (q_move rfl rfl) ?_
  refine stepG [] (guard_some rfl rfl rfl) rfl (nb hn rfl) (fun hc => trivial) (fun hc => q_move rfl rfl) ?_
  refine stepG [(78, _)] (guard_some rfl rfl rfl) rfl (nb hn rfl) (fun hc => ⟨⟨_, rfl, hc⟩, trivial⟩) (fun hc => q_eql rfl rfl rfl) ?_
  refine sq rfl rfl hn rfl (q_and rfl rfl rfl (by simp_all)) ?_
  refine sq rfl rfl hn rfl (q_move rfl rfl) ?_
  refine stepG [] (guard_some rfl rfl rfl) rfl (nb hn rfl) (fun hc => trivial) (fun hc => q_move rfl rfl) ?_
  refine stepW (s_guard (guard_some rfl rfl rfl) rfl (nb hn rfl) (s_buildSlice rfl rfl rfl (nb hn rfl) Try.underlying22 sz3 zr3 rfl rfl rfl (show _ = [.d (.int .i64 0)] from by kernel_rfl) (by kernel_rfl) rfl rfl rfl rfl rfl)) fun _ => ?_
  refine stepW (s_call [(82, _), (83, _)] (fun hc => Same_ok [0] [0]) rfl (guard_some rfl rfl rfl) rfl (nb hn rfl) (fun hc => ⟨⟨_, rfl, hc⟩, ⟨_, rfl, hc⟩, trivial⟩) rfl rfl (.refl _)) fun _ => ?_
  refine sq rfl rfl hn rfl (q_and rfl rfl rfl (by simp_all)) ?_
  refine sq rfl rfl hn rfl (q_move rfl rfl) ?_
  refine stepG [] (guard_some rfl rfl rfl) rfl (nb hn rfl) (fun hc => trivial) (fun hc => q_move rfl rfl) ?_
  refine stepG [(87, _)] (guard_some rfl rfl rfl) rfl (nb hn rfl) (fun hc => ⟨⟨_, rfl, hc⟩, trivial⟩) (fun hc => q_eql rfl rfl rfl) ?_
  refine sq rfl rfl hn rfl (q_and rfl rfl rfl (by simp_all)) ?_
  refine sq rfl rfl hn rfl (q_move rfl rfl) ?_
  refine stepG [] (guard_some rfl rfl rfl) rfl (nb hn rfl) (fun hc => trivial) (fun hc => q_move rfl rfl) ?_
  refine stepW (s_guard (guard_some rfl rfl rfl) rfl (nb hn rfl) (s_buildSlice rfl rfl rfl (nb hn rfl) Try.underlying22 sz3 zr3 rfl rfl rfl (show _ = [.d (.int .i64 0)] from by kernel_rfl) (by kernel_rfl) rfl rfl rfl rfl rfl)) fun _ => ?_
  refine stepW (s_call [(91, _), (92, _)] (fun hc => Same_ok [3] [3]) rfl (guard_some rfl rfl rfl) rfl (nb hn rfl) (fun hc => ⟨⟨_, rfl, hc⟩, ⟨_, rfl, hc⟩, trivial⟩) rfl rfl (.refl _)) fun _ => ?_
  refine sq rfl rfl hn rfl (q_and rfl rfl rfl (by simp_all)) ?_
  refine sq rfl rfl hn rfl (q_move rfl rfl) ?_
  refine stepG [] (guard_some rfl rfl rfl) rfl (nb hn rfl) (fun hc => trivial) (fun hc => q_move rfl rfl) ?_
  refine stepG [(96, _)] (guard_some rfl rfl rfl) rfl (nb hn rfl) (fun hc => ⟨⟨_, rfl, hc⟩, trivial⟩) (fun hc => q_eql rfl rfl rfl) ?_
  refine sq rfl rfl hn rfl (q_and rfl rfl rfl (by simp_all)) ?_
  refine sq rfl rfl hn rfl (q_move rfl rfl) ?_
  refine stepG [] (guard_some rfl rfl rfl) rfl (nb hn rfl) (fun hc => trivial) (fun hc => q_move rfl rfl) ?_
  refine stepG [(100, _)] (guard_some rfl rfl rfl) rfl (nb hn rfl) (fun hc => ⟨⟨_, rfl, hc⟩, trivial⟩) (fun hc => q_eql rfl rfl rfl) ?_
  refine sq rfl rfl hn rfl (q_and rfl rfl rfl (by simp_all)) ?_
  refine sq rfl rfl hn rfl (q_move rfl rfl) ?_
  refine stepG [] (guard_some rfl rfl rfl) rfl (nb hn rfl) (fun hc => trivial) (fun hc => q_move rfl rfl) ?_
  refine stepG [(104, _)] (guard_some rfl rfl rfl) rfl (nb hn rfl) (fun hc => ⟨⟨_, rfl, hc⟩, trivial⟩) (fun hc => q_eql rfl rfl rfl) ?_
  refine sq rfl rfl hn rfl (q_and rfl rfl rfl (by simp_all)) ?_
  refine sq rfl rfl hn rfl (q_move rfl rfl) ?_
  refine stepW (s_call [] (fun hc => loan_ok [] [] (by simp)) rfl (guard_some rfl rfl rfl) rfl (nb hn rfl) (fun hc => trivial) rfl rfl (by first | exact .refl _ | (repeat (first | exact .refl _ | exact .nil _ | refine .cons ?_ ?_ | refine .agg ?_ | refine .tup ?_)))) fun _ => ?_
  refine stepG [] (guard_some rfl rfl rfl) rfl (nb hn rfl) (fun hc => trivial) (fun hc => q_move rfl rfl) ?_
  refine stepW (s_call [(108, _), (109, _)] (fun hc => ProveTruth_ok L0 x7.1.1) rfl (guard_some rfl rfl rfl) rfl (nb hn rfl) (fun hc => ⟨⟨_, rfl, hc⟩, ⟨_, rfl, hc⟩, trivial⟩) rfl rfl (.refl _)) fun _ => ?_
  refine sq rfl rfl hn rfl (q_and rfl rfl rfl (by simp_all)) ?_
  refine sq rfl rfl hn rfl (q_assign rfl rfl) ?_
  refine run_nil ?_
  refine aend_then ?_
  refine awp_ret ?_
  exact ret_E (.inl rfl) () ((hands_1 rfl (.tmp rfl)).eq (by simp [hh7, sameB_self])) trivial
end Go.Proofs.Ytnbmmopjkkofoaa
namespace Go.Proofs.Ytnbmmopjkkofoaa
open Go.RowKit
set_option maxRecDepth 20000
set_option linter.all false
theorem awake_ok : PureAt Try.prog 15 [] (.bool true) := PureAt.of_eff (ds := []) awake_eff
end Go.Proofs.Ytnbmmopjkkofoaa
namespace Go.Proofs.Ytnbmmopjkkofoaa
set_option linter.all false
/-- There is a truth. -/
def hasT (r : Reg) : Prop := goesB r 0 0 0 = true
/-- An increasing list of numbers below S, from f on. -/
def Inc (f S : Nat) (m : List Int) : Prop := m.Pairwise (· < ·) ∧ ∀ x ∈ m, (f : Int) ≤ x ∧ x < (S : Int)
theorem Inc.tail {f S : Nat} {x : Int} {m : List Int} (h : Inc f S (x :: m)) : Inc (x.toNat + 1) S m := by
  obtain ⟨h1, h2⟩ := h
  rw [List.pairwise_cons] at h1
  refine ⟨h1.2, fun y hy => ?_⟩
  have k1 := h1.1 y hy
  have k2 := h2 y (List.mem_cons_of_mem _ hy)
  have k3 := h2 x List.mem_cons_self
  omega
theorem Inc.mono {f g S : Nat} {m : List Int} (h : Inc f S m) (hg : g ≤ f) : Inc g S m := ⟨h.1, fun x hx => by have := h.2 x hx; omega⟩
theorem before_cons {x y : Int} {a b : List Int} : beforeB (x :: a) (y :: b) = if x = y then beforeB a b else decide (x < y) := by
  by_cases h : x = y
  · simp [beforeB, h]
  · have : (x != y) = true := by simpa using h
    simp [beforeB, this, h]
/-- What the search finds. -/
def Finds (r : Reg) (S k : Nat) (out : List Int) (f : Nat) : Option (List Int) → Prop
  | some l => ∃ m, l = out ++ m ∧ m.length = k ∧ Inc f S m ∧ hasT (dropR r l) ∧ ∀ m', m'.length = k → Inc f S m' → beforeB m' m = true → ¬ hasT (dropR r (out ++ m'))
  | none => ∀ m', m'.length = k → Inc f S m' → ¬ hasT (dropR r (out ++ m'))
theorem leave_finds (r : Reg) (S : Nat) : ∀ (k : Nat) (out : List Int) (f : Nat), Finds r S k out f (leaveS r S k out f)
  | 0, out, f => by
    simp only [leaveS]
    cases hg : goesB (dropR r out) 0 0 0 with
    | true => exact ⟨[], by simp, rfl, ⟨List.Pairwise.nil, fun _ h => by cases h⟩, hg, fun m' hm _ hb => by
        rw [List.eq_nil_of_length_eq_zero hm] at hb
        cases hb⟩
    | false =>
      intro m' hm _ hh
      rw [List.eq_nil_of_length_eq_zero hm, List.append_nil] at hh
      have hh' : goesB (dropR r out) 0 0 0 = true := hh
      rw [hg] at hh'
      cases hh'
  | k + 1, out, f => by
    show Finds r S (k + 1) out f (leaveN r S k out f)
    obtain ⟨n, hn⟩ : ∃ n, n = S - f := ⟨_, rfl⟩
    induction n generalizing f with
    | zero =>
      rw [leaveN_end (by omega)]
      intro m' hm hi
      cases m' with
      | nil => cases hm
      | cons x m' => have := hi.2 x List.mem_cons_self; omega
    | succ n ih =>
      rw [leaveN_step (by omega)]
      have h1 := leave_finds r S k (out ++ [(f : Int)]) (f + 1)
      have h2 := ih (f + 1) (by omega)
      cases e1 : leaveS r S k (out ++ [(f : Int)]) (f + 1) with
      | some l =>
        rw [e1] at h1
        obtain ⟨m, q1, q2, q3, q4, q5⟩ := h1
        refine ⟨(f : Int) :: m, by rw [q1]; simp, by simp [q2], ⟨List.pairwise_cons.2 ⟨fun y hy => by have := q3.2 y hy; omega, q3.1⟩, fun y hy => ?_⟩, q4, fun m' hm hi hb => ?_⟩
        · rcases List.mem_cons.1 hy with rfl | hy
          · omega
          · have := q3.2 y hy; omega
        · cases m' with
          | nil => cases hm
          | cons x m' =>
            have hx := hi.2 x List.mem_cons_self
            rw [before_cons] at hb
            by_cases e : x = (f : Int)
            · rw [if_pos e] at hb
              subst e
              have := q5 m' (by simpa using hm) (hi.tail.mono (by omega)) hb
              simpa using this
            · rw [if_neg e] at hb
              simp at hb
              omega
      | none =>
        rw [e1] at h1
        have key : ∀ m', m'.length = k + 1 → Inc f S m' → (∃ m'', m' = (f : Int) :: m'' ∧ ¬ hasT (dropR r (out ++ m'))) ∨ Inc (f + 1) S m' := fun m' hm hi => by
          cases m' with
          | nil => cases hm
          | cons x m' =>
            have hx := hi.2 x List.mem_cons_self
            by_cases e : x = (f : Int)
            · subst e
              refine .inl ⟨m', rfl, ?_⟩
              have := h1 m' (by simpa using hm) (hi.tail.mono (by omega))
              simpa using this
            · refine .inr ⟨hi.1, fun y hy => ?_⟩
              have hy2 := hi.2 y hy
              rcases List.mem_cons.1 hy with rfl | hy
              · omega
              · have := (List.pairwise_cons.1 hi.1).1 y hy; omega
        show Finds r S (k + 1) out f (leaveN r S k out (f + 1))
        cases e2 : leaveN r S k out (f + 1) with
        | some l =>
          rw [e2] at h2
          obtain ⟨m, q1, q2, q3, q4, q5⟩ := h2
          refine ⟨m, q1, q2, q3.mono (by omega), q4, fun m' hm hi hb => ?_⟩
          rcases key m' hm hi with ⟨_, _, h⟩ | h
          · exact h
          · exact q5 m' hm h hb
        | none =>
          rw [e2] at h2
          intro m' hm hi
          rcases key m' hm hi with ⟨_, _, h⟩ | h
          · exact h
          · exact h2 m' hm h
theorem leave_go {r : Reg} : ∀ (c k : Nat), c + k = sumR r + 1 → (∀ j, j < k → leaveK r j = none) → ∃ j, j ≤ sumR r ∧ leaveK r j = some (leaveGo r c k) ∧ ∀ i, i < j → leaveK r i = none
  | 0, k, h, hn => by
    obtain ⟨l, hl⟩ := leaveK_some r
    rw [hn (sumR r) (by omega)] at hl
    cases hl
  | c + 1, k, h, hn => by
    simp only [leaveGo]
    cases e : leaveK r k with
    | some l => exact ⟨k, by omega, by rw [e], hn⟩
    | none =>
      refine leave_go c (k + 1) (by omega) fun j hj => ?_
      by_cases q : j = k
      · subst q; exact e
      · exact hn j (by omega)
/-- What Leave returns. -/
theorem leave_law {r : Reg} (v : Valid r) : (leaveR r).2 = 0 ∧ Inc 0 (sumR r) (leaveR r).1 ∧ hasT (dropR r (leaveR r).1) ∧ ∀ l, Inc 0 (sumR r) l → shorterB l (leaveR r).1 = true → ¬ hasT (dropR r l) := by
  have h0 := checkE_of v
  have e : leaveR r = (leaveGo r (sumR r + 1) 0, 0) := by unfold leaveR; rw [if_neg (by simp [h0])]
  rw [e]
  obtain ⟨j, hj, h1, h2⟩ := leave_go (r := r) (sumR r + 1) 0 (by omega) fun j hj => by omega
  have hf := leave_finds r (sumR r) j [] 0
  have h1' : leaveS r (sumR r) j [] 0 = some (leaveGo r (sumR r + 1) 0) := h1
  rw [h1'] at hf
  obtain ⟨m, q1, q2, q3, q4, q5⟩ := hf
  rw [List.nil_append] at q1
  refine ⟨rfl, by dsimp only; rw [q1]; exact q3, q4, fun l hl hs => ?_⟩
  dsimp only at hs
  rw [q1] at hs
  unfold shorterB at hs
  rw [q2] at hs
  simp only [Bool.or_eq_true, decide_eq_true_eq, Bool.and_eq_true, beq_iff_eq] at hs
  rcases hs with hs | ⟨hs, hb⟩
  · have hn := h2 l.length (by omega)
    have hf2 := leave_finds r (sumR r) l.length [] 0
    have hn' : leaveS r (sumR r) l.length [] 0 = none := hn
    rw [hn'] at hf2
    exact hf2 l rfl hl
  · exact q5 l (by omega) hl hb
theorem Inc.nil (f S : Nat) : Inc f S [] := ⟨List.Pairwise.nil, fun _ h => by cases h⟩
end Go.Proofs.Ytnbmmopjkkofoaa
namespace Go.Proofs.Ytnbmmopjkkofoaa
open Go.RowKit
set_option maxRecDepth 20000
set_option linter.all false
theorem ready_f {r : Reg} (h : (!(thinB r && (checkE r == 0))) = false) : Valid r := by
  simp only [Bool.not_eq_false', Bool.and_eq_true, beq_iff_eq] at h
  exact valid_of h.2
theorem map_take {α β : Type} {l : List α} {f : α → β} {n : Nat} : (l.map f).take n = (l.take n).map f := by simp
end Go.Proofs.Ytnbmmopjkkofoaa
namespace Go.Proofs.Ytnbmmopjkkofoaa
set_option linter.all false
/-- Two lists, element by element. -/
def Pt {α β : Type} (R : α → β → Prop) : List α → List β → Prop
  | [], [] => True
  | a :: as', b :: bs => R a b ∧ Pt R as' bs
  | _, _ => False
theorem Pt.refl {α : Type} {R : α → α → Prop} (h : ∀ a, R a a) : ∀ l : List α, Pt R l l
  | [] => trivial
  | a :: l => ⟨h a, Pt.refl h l⟩
theorem Pt.imp {α β : Type} {R S : α → β → Prop} (h : ∀ a b, R a b → S a b) : ∀ {l : List α} {l' : List β}, Pt R l l' → Pt S l l'
  | [], [], _ => trivial
  | _ :: _, _ :: _, ⟨h1, h2⟩ => ⟨h _ _ h1, Pt.imp h h2⟩
  | [], _ :: _, h => h.elim
  | _ :: _, [], h => h.elim
theorem Pt.len {α β : Type} {R : α → β → Prop} : ∀ {l : List α} {l' : List β}, Pt R l l' → l'.length = l.length
  | [], [], _ => rfl
  | _ :: _, _ :: _, ⟨_, h⟩ => by simp [Pt.len h]
  | [], _ :: _, h => h.elim
  | _ :: _, [], h => h.elim
theorem Pt.get {α β : Type} {R : α → β → Prop} : ∀ {l : List α} {l' : List β} {i : Nat} {a : α}, Pt R l l' → l[i]? = some a → ∃ b, l'[i]? = some b ∧ R a b
  | [], [], _, _, _, h => by simp at h
  | a :: l, b :: l', 0, x, ⟨h1, _⟩, h => by
    simp only [List.getElem?_cons_zero, Option.some.injEq] at h
    subst h
    exact ⟨b, rfl, h1⟩
  | a :: l, b :: l', i + 1, x, ⟨_, h2⟩, h => Pt.get (i := i) h2 (by simpa using h)
  | [], _ :: _, _, _, h, _ => h.elim
  | _ :: _, [], _, _, h, _ => h.elim
theorem Pt.drop {α β : Type} {R : α → β → Prop} {out : List Int} : ∀ {k : Nat} {l : List α} {l' : List β}, Pt R l l' → Pt R (dropF out k l) (dropF out k l')
  | _, [], [], _ => trivial
  | k, a :: l, b :: l', ⟨h1, h2⟩ => by
    simp only [dropF]
    cases out.any (fun n => (k : Int) == n)
    · exact ⟨h1, Pt.drop h2⟩
    · exact Pt.drop h2
  | _, [], _ :: _, h => h.elim
  | _, _ :: _, [], h => h.elim
theorem Pt.map {α β γ : Type} {R : α → β → Prop} {f : γ → α} {g : γ → β} (h : ∀ c, R (f c) (g c)) : ∀ l : List γ, Pt R (l.map f) (l.map g)
  | [] => trivial
  | c :: l => ⟨h c, Pt.map h l⟩
theorem Pt.and {α β : Type} {R S : α → β → Prop} : ∀ {l : List α} {l' : List β}, Pt R l l' → Pt S l l' → Pt (fun a b => R a b ∧ S a b) l l'
  | [], [], _, _ => trivial
  | _ :: _, _ :: _, ⟨h1, h2⟩, ⟨k1, k2⟩ => ⟨⟨h1, k1⟩, Pt.and h2 k2⟩
  | [], _ :: _, h, _ => h.elim
  | _ :: _, [], h, _ => h.elim
def SameWay (e e' : Ent5) : Prop := e'.sheet = e.sheet ∧ e'.frm = e.frm ∧ e'.to = e.to
def Wide (e e' : Ent5) : Prop := e'.lo ≤ e.lo ∧ e.hi ≤ e'.hi
def SameKind (e e' : Ent5) : Prop := e'.kind = e.kind
/-- What is a truth of the first register is one of the second. -/
structure Loose (r x : Reg) : Prop where
  st : x.start = r.start
  way : Pt SameWay r.entries x.entries
  wide : Pt Wide r.entries x.entries
  kind : Pt SameKind r.entries x.entries ∨ ∀ e ∈ x.entries, e.kind ≠ 2
  si : ∀ s ∈ x.sights, s ∈ r.sights
theorem comeF_same {d : Nat} {s : Int} : ∀ {k : Nat} {es es' : List Ent5} {c : List Int}, Pt SameWay es es' → comeF d s k es' c = comeF d s k es c
  | _, [], [], _, _ => rfl
  | k, e :: es, e' :: es', c, ⟨⟨h1, h2, h3⟩, h⟩ => by
    simp only [comeF, h1, h2, h3]
    exact comeF_same h
  | _, [], _ :: _, _, h => h.elim
  | _, _ :: _, [], _, h => h.elim
theorem places_same {r x : Reg} (hs : x.start = r.start) (h : Pt SameWay r.entries x.entries) (m : Nat) : placesA x m = placesA r m := by
  unfold placesA placesL
  rw [hs]
  congr 1
  funext j
  unfold placeN placeOf
  rw [hs, comeF_same h]
theorem openF_same {d : Nat} {a b : Int} : ∀ {k : Nat} {es es' : List Ent5} {n : Int}, Pt SameWay es es' → Pt SameKind es es' → openF d a b k es' n = openF d a b k es n
  | _, [], [], _, _, _ => rfl
  | k, e :: es, e' :: es', c, ⟨⟨h1, h2, h3⟩, h⟩, ⟨q, hq⟩ => by
    have q' : e'.kind = e.kind := q
    simp only [openF, h2, h3, q']
    exact openF_same h hq
  | _, [], _ :: _, _, h, _ => h.elim
  | _, _ :: _, [], _, h, _ => h.elim
theorem open_same {r x : Reg} (h : Pt SameWay r.entries x.entries) (q : Pt SameKind r.entries x.entries) (m : Nat) (a b : Int) : openN x m a b = openN r m a b := openF_same h q
theorem Loose.can {r x : Reg} (h : Loose r x) {k m : Nat} (hc : canB r k m = true) : canB x k m = true := by
  unfold canB at hc ⊢
  cases he : r.entries[k]? with
  | none => rw [he] at hc; cases hc
  | some e =>
    rw [he] at hc
    obtain ⟨e', he', h1, h2, h3⟩ := h.way.get he
    rw [he']
    dsimp only at hc ⊢
    unfold canE at hc ⊢
    rw [places_same h.st h.way, h1, h2]
    simp only [Bool.and_eq_true, Bool.or_eq_true] at hc ⊢
    refine ⟨hc.1, ?_⟩
    rcases h.kind with q | q
    · obtain ⟨e2, he2, q2⟩ := q.get he
      rw [he'] at he2
      cases he2
      have q3 : e'.kind = e.kind := q2
      rw [q3, open_same h.way q, h3]
      exact hc.2
    · exact .inl (by simpa using q e' (List.mem_of_getElem? he'))
theorem Loose.day {r x : Reg} (h : Loose r x) {n : Int} : ∀ {ts : List Int} {k m m' : Nat}, dayF r n k ts m = some m' → dayF x n k ts m = some m'
  | [], _, _, _, hd => hd
  | t :: ts, k, m, m', hd => by
    simp only [dayF] at hd ⊢
    cases hb : t != n with
    | true => rw [hb] at hd; exact h.day hd
    | false =>
      rw [hb] at hd
      simp only [cond_false] at hd ⊢
      cases hc : canB r k m with
      | false => rw [hc] at hd; cases hd
      | true =>
        rw [hc] at hd
        rw [h.can hc]
        exact h.day hd
theorem Loose.play {r x : Reg} (h : Loose r x) {t : List Int} : ∀ {c n m : Nat} {ds : List Nat}, playF r t c n m = some ds → playF x t c n m = some ds
  | 0, _, _, _, hp => hp
  | c + 1, n, m, ds, hp => by
    rw [playF] at hp ⊢
    split at hp
    · cases hp
    · rename_i d1 h1
      split at hp
      · cases hp
      · rename_i ds1 h2
        cases hp
        rw [h.day h1]
        simp only
        rw [h.play h2]
theorem dated_wide : ∀ {es es' : List Ent5} {ts : List Int}, Pt Wide es es' → datedF es ts = true → datedF es' ts = true
  | [], [], ts, _, h => h
  | e :: es, e' :: es', [], _, h => by simp [datedF] at h
  | e :: es, e' :: es', t :: ts, ⟨⟨h1, h2⟩, h3⟩, h => by
    simp only [datedF, Bool.and_eq_true, decide_eq_true_eq] at h ⊢
    exact ⟨by omega, dated_wide h3 h.2⟩
  | [], _ :: _, _, h, _ => h.elim
  | _ :: _, [], _, h, _ => h.elim
theorem Loose.seen {r x : Reg} (h : Loose r x) : ∀ {n : Nat} {ds : List Nat}, seenAll r n ds = true → seenAll x n ds = true
  | _, [], _ => rfl
  | n, d :: ds, hs => by
    simp only [seenAll, Bool.and_eq_true] at hs ⊢
    rw [places_same h.st h.way]
    refine ⟨List.all_eq_true.2 fun s hs' => List.all_eq_true.1 hs.1 s (h.si s hs'), h.seen hs.2⟩
theorem Loose.truth {r x : Reg} (h : Loose r x) {t : List Int} {ds : List Nat} (T : Truth r t ds) : Truth x t ds :=
  ⟨dated_wide h.wide T.dated, h.play T.play, h.seen T.seen⟩
theorem Loose.has {r x : Reg} (h : Loose r x) (v : Valid r) (vx : Valid x) (H : hasT r) : hasT x := by
  obtain ⟨t, ds, T⟩ := (goes_truth v).1 H
  exact (goes_truth vx).2 ⟨t, ds, h.truth T⟩
/-- What can have happened at the end of a day. -/
def Eve (r : Reg) (N m : Nat) : Prop := Rch r N N r.entries.length m
theorem Loose.eve {r x : Reg} (h : Loose r x) (v : Valid r) (vx : Valid x) {N m : Nat} (hN : N ≤ 9) (H : Eve r N m) : Eve x N m := by
  obtain ⟨t, ds, T, hd⟩ := (rch_truth v hN).1 H
  exact (rch_truth vx hN).2 ⟨t, ds, h.truth T, hd⟩
theorem Loose.drop {r x : Reg} (h : Loose r x) (hs : x.sights = r.sights) (out : List Int) : Loose (dropR r out) (dropR x out) where
  st := h.st
  way := h.way.drop
  wide := h.wide.drop
  kind := by
    rcases h.kind with q | q
    · exact .inl q.drop
    · exact .inr fun e he => q e (dropF_sub he)
  si := fun s hs' => by
    show s ∈ dropF out r.entries.length r.sights
    have : s ∈ dropF out x.entries.length x.sights := hs'
    rw [h.way.len, hs] at this
    exact this
theorem Inc.filter {f S S' : Nat} {m : List Int} {p : Int → Bool} (h : Inc f S m) (hp : ∀ x ∈ m, p x = true → x < (S' : Int)) : Inc f S' (m.filter p) :=
  ⟨h.1.filter p, fun x hx => by
    rw [List.mem_filter] at hx
    exact ⟨(h.2 x hx.1).1, hp x hx.1 hx.2⟩⟩
theorem hold_mem {r : Reg} {N s : Nat} {out : List Nat} (h : EvOK r N out) {x : Int} : x ∈ holdR r (s : Nat) out ↔ ∃ m, Eve r N m ∧ (placesA r m).getD s 0 = x := by
  unfold holdR
  obtain ⟨k1, k2⟩ := sort_sorted (holdL r out (s : Int).toNat)
  obtain ⟨_, q2⟩ := comp_sorted k1
  rw [q2, k2]
  unfold holdL
  rw [List.mem_map]
  constructor
  · rintro ⟨m, hm, e⟩
    exact ⟨m, (h.1 m).1 hm, e⟩
  · rintro ⟨m, hm, e⟩
    exact ⟨m, (h.1 m).2 hm, e⟩
theorem held_rng {r : Reg} {N : Nat} {a : Int} {out : List Nat} (h : EvOK r N out) (hne : out ≠ []) : (∀ m, Eve r N m → (heldR r a out).1 ≤ (heldN r m a : Int) ∧ (heldN r m a : Int) ≤ (heldR r a out).2) ∧ (∃ m, Eve r N m ∧ (heldR r a out).1 = (heldN r m a : Int)) ∧ ∃ m, Eve r N m ∧ (heldR r a out).2 = (heldN r m a : Int) := by
  cases out with
  | nil => exact (hne rfl).elim
  | cons d0 l =>
    have hm : ∀ y, y ∈ (heldN r d0 a : Int) :: l.map (fun d => (heldN r d a : Int)) ↔ ∃ m, Eve r N m ∧ (heldN r m a : Int) = y := fun y => by
      rw [← List.map_cons (f := fun d => (heldN r d a : Int)), List.mem_map]
      constructor
      · rintro ⟨m, hm, e⟩; exact ⟨m, (h.1 m).1 hm, e⟩
      · rintro ⟨m, hm, e⟩; exact ⟨m, (h.1 m).2 hm, e⟩
    unfold heldR
    refine ⟨fun m he => ⟨minL_le _ ((hm _).2 ⟨m, he, rfl⟩), maxL_ge _ ((hm _).2 ⟨m, he, rfl⟩)⟩, ?_, ?_⟩
    · obtain ⟨m, h1, h2⟩ := (hm _).1 (minL_mem (x := (heldN r d0 a : Int)) (l := l.map fun d => (heldN r d a : Int)))
      exact ⟨m, h1, h2.symm⟩
    · obtain ⟨m, h1, h2⟩ := (hm _).1 (maxL_mem (x := (heldN r d0 a : Int)) (l := l.map fun d => (heldN r d a : Int)))
      exact ⟨m, h1, h2.symm⟩
/-- The first register allows no more on a day than the second. -/
structure Nar (x r : Reg) (N : Nat) : Prop where
  vx : Valid x
  v : Valid r
  hx : hasT x
  h : hasT r
  eve : ∀ m, Eve x N m → Eve r N m
  pl : ∀ m, placesA x m = placesA r m
  op : ∀ m a b, openN x m a b = openN r m a b
  st : x.start = r.start
  ho : x.houses = r.houses
theorem all_of {r : Reg} (v : Valid r) (h : hasT r) : allDays r ≠ [] := (goes_all_iff v).1 h
end Go.Proofs.Ytnbmmopjkkofoaa
namespace Go.Proofs.Ytnbmmopjkkofoaa
open Go.RowKit
set_option maxRecDepth 20000
set_option linter.all false
theorem no_blks {b : Nat} (h : blks [] b) {p : Prop} : p := by
  obtain ⟨i, r, h, _⟩ := h
  simp [lk] at h
theorem modN {a b : Nat} (hb : 0 < b) : ((a : Int).tmod (b : Int)) = ((a % b : Nat) : Int) := by
  rw [Int.tmod_eq_emod_of_nonneg (by omega)]; rfl
theorem sheetB_of {r : Reg} {s : Int} (h0 : 0 ≤ s) (h : s < r.start.length) : sheetB r s = true := by
  simp [sheetB]; omega
theorem houseB_of {r : Reg} {a : Int} (v : Valid r) (h0 : 0 ≤ a) (h : a < r.houses) : houseB r a = true := by
  rw [houseB_eq v.h1 v.h4]
  simp
  omega
end Go.Proofs.Ytnbmmopjkkofoaa
namespace Go.Proofs.Ytnbmmopjkkofoaa
set_option linter.all false
/-- Entries happen one after the other. -/
def seqStep : List Ent5 → RSt → Option RSt
  | [], st => some st
  | e :: es, st => match refStep e st with
    | none => none
    | some st' => seqStep es st'
theorem seqStep_append : ∀ {a b : List Ent5} {st : RSt}, seqStep (a ++ b) st = (seqStep a st).bind (seqStep b)
  | [], b, st => rfl
  | e :: a, b, st => by
    simp only [List.cons_append, seqStep]
    cases refStep e st with
    | none => rfl
    | some st' => exact seqStep_append
/-- What has truly happened so far. -/
structure Hap (houses : Int) (start : List Int) (k day : Nat) (now open_ : List Int) (es : List Ent5) (ts : List Int) : Prop where
  nl : now.length = start.length
  ol : open_.length = 16
  el : es.length ≤ k
  tl : ts.length = es.length
  so : ts.Pairwise (· ≤ ·)
  td : ∀ t ∈ ts, 0 ≤ t ∧ t ≤ (day : Int) ∧ t ≤ 9
  da : datedF es ts = true
  en : ∀ e ∈ es, 0 ≤ e.kind ∧ e.kind ≤ 2 ∧ 0 ≤ e.sheet ∧ e.sheet ≤ (start.length : Int) - 1 ∧ 0 ≤ e.frm ∧ e.frm ≤ houses - 1 ∧ 0 ≤ e.to ∧ e.to ≤ houses - 1 ∧ e.frm ≠ e.to ∧ 0 ≤ e.lo ∧ e.lo ≤ e.hi ∧ e.hi ≤ 9
  nb : ∀ h ∈ now, 0 ≤ h ∧ h ≤ houses - 1
  ob : ∀ z ∈ open_, -(k : Int) ≤ z ∧ z ≤ (k : Int)
  st : seqStep es (start ++ List.replicate (4 - start.length) 0, List.replicate 16 0) = some (now ++ List.replicate (4 - start.length) 0, open_)
theorem dated_append : ∀ {es : List Ent5} {ts : List Int} {e : Ent5} {t : Int}, datedF es ts = true → e.lo ≤ t → t ≤ e.hi → datedF (es ++ [e]) (ts ++ [t]) = true
  | [], [], e, t, _, h1, h2 => by simp [datedF, h1, h2]
  | [], _ :: _, _, _, h, _, _ => by simp [datedF] at h
  | _ :: _, [], _, _, h, _, _ => by simp [datedF] at h
  | e :: es, t :: ts, e', t', h, h1, h2 => by
    simp only [datedF, Bool.and_eq_true, List.cons_append] at h ⊢
    exact ⟨h.1, dated_append h.2 h1 h2⟩
theorem Hap.start {houses : Int} {st : List Int} (h : ∀ x ∈ st, 0 ≤ x ∧ x ≤ houses - 1) : Hap houses st 0 0 st (List.replicate 16 0) [] [] :=
  ⟨rfl, by simp, Nat.le_refl _, rfl, List.Pairwise.nil, fun _ h => (by cases h), rfl, fun _ h => (by cases h), h, fun z hz => (by rw [List.eq_of_mem_replicate hz]; simp), rfl⟩
theorem Hap.more {houses : Int} {st now open_ : List Int} {k k' day : Nat} {es : List Ent5} {ts : List Int} (h : Hap houses st k day now open_ es ts) (hk : k ≤ k') : Hap houses st k' day now open_ es ts :=
  { h with el := Nat.le_trans h.el hk, ob := fun z hz => by have := h.ob z hz; omega }
theorem mem_upd {l : List Int} {i : Nat} {x z : Int} (h : z ∈ upd l i x) : z ∈ l ∨ ∃ y, (y ∈ l ∨ y = 0) ∧ z = y + x := by
  unfold upd at h
  rcases List.mem_or_eq_of_mem_set h with h | h
  · exact .inl h
  · refine .inr ⟨l.getD i 0, ?_, h⟩
    by_cases hi : i < l.length
    · left
      rw [List.getD_eq_getElem?_getD, List.getElem?_eq_getElem hi]
      exact List.getElem_mem hi
    · right
      exact getD_ge (by omega)
theorem Hap.step {houses : Int} {st now open_ open2 : List Int} {k day : Nat} {es : List Ent5} {ts : List Int} {kind to lo hi : Int} {s : Nat} (h : Hap houses st k day now open_ es ts) (hd : day ≤ 9) (hs : s < st.length) (h4 : st.length ≤ 4)
    (hto : 0 ≤ to ∧ to ≤ houses - 1) (hne : now.getD s 0 ≠ to) (hlo : 0 ≤ lo ∧ lo ≤ (day : Int)) (hhi : (day : Int) ≤ hi ∧ hi ≤ 9)
    (hk : (kind = 2 ∧ 0 < open_.getD (to.toNat * 4 + (now.getD s 0).toNat) 0 ∧ open2 = upd open_ (to.toNat * 4 + (now.getD s 0).toNat) (-1)) ∨ (kind = 1 ∧ open2 = upd open_ ((now.getD s 0).toNat * 4 + to.toNat) 1) ∨ (kind = 0 ∧ open2 = open_)) :
    Hap houses st (k + 1) day (now.set s to) open2 (es ++ [⟨kind, (s : Int), now.getD s 0, to, lo, hi⟩]) (ts ++ [(day : Int)]) := by
  have hfr : 0 ≤ now.getD s 0 ∧ now.getD s 0 ≤ houses - 1 := h.nb _ (getD_mem (by rw [h.nl]; exact hs))
  obtain ⟨h1, h2, h3, h4', h5, h6, h7, h8, h9, h10, h11⟩ := h
  have hn0 : (now ++ List.replicate (4 - st.length) 0).getD s 0 = now.getD s 0 := by
    simp only [List.getD_eq_getElem?_getD]
    rw [List.getElem?_append_left (by omega)]
  have hnd : ∀ z, (now.set s to ++ List.replicate (4 - st.length) z) = (now ++ List.replicate (4 - st.length) z).set s to := fun z => by
    rw [List.set_append_left _ _ (by omega)]
  refine ⟨by simp [h1], ?_, by simp; omega, by simp [h4'], List.pairwise_append.2 ⟨h5, by simp, fun x hx y hy => ?_⟩, fun t ht => ?_, dated_append h7 hlo.2 hhi.1, fun e he => ?_, fun x hx => ?_, fun z hz => ?_, ?_⟩
  · rcases hk with ⟨_, _, rfl⟩ | ⟨_, rfl⟩ | ⟨_, rfl⟩
    · rw [upd_len]; exact h2
    · rw [upd_len]; exact h2
    · exact h2
  · rw [List.mem_singleton] at hy
    subst hy
    exact (h6 x hx).2.1
  · rcases List.mem_append.1 ht with ht | ht
    · exact h6 t ht
    · rw [List.mem_singleton] at ht; omega
  · rcases List.mem_append.1 he with he | he
    · exact h8 e he
    · rw [List.mem_singleton] at he
      subst he
      have hkk : 0 ≤ kind ∧ kind ≤ 2 := by rcases hk with ⟨h, _⟩ | ⟨h, _⟩ | ⟨h, _⟩ <;> omega
      exact ⟨hkk.1, hkk.2, by show (0 : Int) ≤ (s : Int); omega, by show (s : Int) ≤ _; omega, hfr.1, hfr.2, hto.1, hto.2, hne, hlo.1, by show lo ≤ hi; omega, hhi.2⟩
  · rcases List.mem_or_eq_of_mem_set hx with hx | hx
    · exact h9 x hx
    · omega
  · rcases hk with ⟨_, _, rfl⟩ | ⟨_, rfl⟩ | ⟨_, rfl⟩
    · rcases mem_upd hz with hz | ⟨y, hy | hy, rfl⟩
      · have := h10 z hz; omega
      · have := h10 y hy; omega
      · omega
    · rcases mem_upd hz with hz | ⟨y, hy | hy, rfl⟩
      · have := h10 z hz; omega
      · have := h10 y hy; omega
      · omega
    · have := h10 z hz; omega
  · rw [seqStep_append, h11]
    simp only [Option.bind_some, seqStep, refStep, Int.toNat_natCast, hn0, bne_self_eq_false, Bool.false_or]
    rcases hk with ⟨rfl, hp, rfl⟩ | ⟨rfl, rfl⟩ | ⟨rfl, rfl⟩
    · have : decide (open_.getD (to.toNat * 4 + (now.getD s 0).toNat) 0 < 1) = false := by simp only [decide_eq_false_iff_not]; omega
      simp only [this, beq_self_eq_true, Bool.and_false, cond_false, cond_true]
      simp [hnd]
    · simp [hnd]
    · simp [hnd]
end Go.Proofs.Ytnbmmopjkkofoaa
namespace Go.Proofs.Ytnbmmopjkkofoaa
set_option linter.all false
theorem hasB_mem {l : List Int} {x : Int} : hasB l x = true ↔ x ∈ l := by
  unfold hasB
  rw [List.any_eq_true]
  exact ⟨fun ⟨y, h1, h2⟩ => by have : y = x := by simpa using h2
                               exact this ▸ h1, fun h => ⟨x, h, by simp⟩⟩
end Go.Proofs.Ytnbmmopjkkofoaa
namespace Go.Proofs.Ytnbmmopjkkofoaa
set_option linter.all false
def rot (k n : Nat) (h : Int) : Int := (((h.toNat + k) % n : Nat) : Int)
theorem rot_bd {k n : Nat} {h : Int} (hn : 0 < n) : 0 ≤ rot k n h ∧ rot k n h < (n : Int) := by
  unfold rot
  have := Nat.mod_lt (h.toNat + k) hn
  omega
theorem mod_case (a n : Nat) (hn : 0 < n) (h : a < 2 * n) : a % n = if a < n then a else a - n := by
  split
  · exact Nat.mod_eq_of_lt ‹_›
  · rw [Nat.mod_eq_sub_mod (by omega), Nat.mod_eq_of_lt (by omega)]
theorem rot_inj {k n : Nat} {a b : Int} (hk : k < n) (ha : 0 ≤ a ∧ a < (n : Int)) (hb : 0 ≤ b ∧ b < (n : Int)) : rot k n a = rot k n b ↔ a = b := by
  unfold rot
  rw [mod_case (a.toNat + k) n (by omega) (by omega), mod_case (b.toNat + k) n (by omega) (by omega)]
  constructor
  · intro h
    split at h <;> split at h <;> omega
  · rintro rfl; rfl
theorem rot_beq {k n : Nat} {a b : Int} (hk : k < n) (ha : 0 ≤ a ∧ a < (n : Int)) (hb : 0 ≤ b ∧ b < (n : Int)) : (rot k n a == rot k n b) = (a == b) := by
  rw [Bool.eq_iff_iff, beq_iff_eq, beq_iff_eq, rot_inj hk ha hb]
theorem rot_go {k n : Nat} {a : Int} (ha : 0 ≤ a) : (a + (k : Int)).tmod (n : Int) = rot k n a := by
  unfold rot
  obtain ⟨b, rfl⟩ : ∃ b : Nat, a = (b : Int) := ⟨a.toNat, by omega⟩
  rw [Int.tmod_eq_emod_of_nonneg (by omega), Int.toNat_natCast]
  simp
def renE (k n : Nat) (e : Ent5) : Ent5 := ⟨e.kind, e.sheet, rot k n e.frm, rot k n e.to, e.lo, e.hi⟩
def renS (k n : Nat) (s : Sight5) : Sight5 := ⟨s.sheet, rot k n s.house, s.day⟩
def renR (k n : Nat) (r : Reg) : Reg := ⟨r.houses, r.start.map (rot k n), r.entries.map (renE k n), r.sights.map (renS k n)⟩
theorem ren_valid {r : Reg} {k n : Nat} (v : Valid r) (hn : r.houses = (n : Int)) (hk : k < n) : Valid (renR k n r) := by
  refine ⟨v.h1, v.h4, by show 1 ≤ (r.start.map _).length; rw [List.length_map]; exact v.s1, by show (r.start.map _).length ≤ 4; rw [List.length_map]; exact v.s4, by show (r.entries.map _).length ≤ 6; rw [List.length_map]; exact v.e6, by show (r.sights.map _).length ≤ 4; rw [List.length_map]; exact v.g4, fun x hx => ?_, fun e he => ?_, fun s hs => ?_⟩
  · obtain ⟨y, _, rfl⟩ := List.mem_map.1 hx
    have := rot_bd (k := k) (h := y) (show 0 < n by omega)
    show 0 ≤ rot k n y ∧ rot k n y ≤ r.houses - 1
    omega
  · obtain ⟨y, hy, rfl⟩ := List.mem_map.1 he
    have h1 := v.en y hy
    have h2 := rot_bd (k := k) (h := y.frm) (show 0 < n by omega)
    have h3 := rot_bd (k := k) (h := y.to) (show 0 < n by omega)
    have h4 := rot_inj (a := y.frm) (b := y.to) hk (by omega) (by omega)
    show 0 ≤ y.kind ∧ y.kind ≤ 2 ∧ 0 ≤ y.sheet ∧ y.sheet ≤ ((r.start.map (rot k n)).length : Int) - 1 ∧ 0 ≤ rot k n y.frm ∧ rot k n y.frm ≤ r.houses - 1 ∧ 0 ≤ rot k n y.to ∧ rot k n y.to ≤ r.houses - 1 ∧ rot k n y.frm ≠ rot k n y.to ∧ 0 ≤ y.lo ∧ y.lo ≤ y.hi ∧ y.hi ≤ 9
    rw [List.length_map]
    have h5 : rot k n y.frm ≠ rot k n y.to := fun e => h1.2.2.2.2.2.2.2.2.1 (h4.1 e)
    exact ⟨h1.1, h1.2.1, h1.2.2.1, h1.2.2.2.1, h2.1, by omega, h3.1, by omega, h5, h1.2.2.2.2.2.2.2.2.2⟩
  · obtain ⟨y, hy, rfl⟩ := List.mem_map.1 hs
    have h1 := v.si y hy
    have h2 := rot_bd (k := k) (h := y.house) (show 0 < n by omega)
    show 0 ≤ y.sheet ∧ y.sheet ≤ ((r.start.map (rot k n)).length : Int) - 1 ∧ 0 ≤ rot k n y.house ∧ rot k n y.house ≤ r.houses - 1 ∧ 0 ≤ y.day ∧ y.day ≤ 9
    rw [List.length_map]
    omega
section
variable {r : Reg} {k n : Nat} (v : Valid r) (hn : r.houses = (n : Int)) (hk : k < n)
include v hn hk
theorem ren_openF {d : Nat} {a b : Int} (ha : 0 ≤ a ∧ a < (n : Int)) (hb : 0 ≤ b ∧ b < (n : Int)) : ∀ {j : Nat} {es : List Ent5} {z : Int}, (∀ e ∈ es, e ∈ r.entries) → openF d (rot k n a) (rot k n b) j (es.map (renE k n)) z = openF d a b j es z
  | _, [], _, _ => rfl
  | j, e :: es, z, h => by
    have he := v.en e (h e List.mem_cons_self)
    have h1 := rot_beq (k := k) (a := e.frm) (b := a) hk (by omega) ha
    have h2 := rot_beq (k := k) (a := e.to) (b := b) hk (by omega) hb
    have h3 := rot_beq (k := k) (a := e.frm) (b := b) hk (by omega) hb
    have h4 := rot_beq (k := k) (a := e.to) (b := a) hk (by omega) ha
    simp only [List.map_cons, openF, renE, h1, h2, h3, h4]
    exact ren_openF ha hb fun x hx => h x (List.mem_cons_of_mem _ hx)
theorem ren_open (m : Nat) {a b : Int} (ha : 0 ≤ a ∧ a < (n : Int)) (hb : 0 ≤ b ∧ b < (n : Int)) : openN (renR k n r) m (rot k n a) (rot k n b) = openN r m a b := ren_openF v hn hk ha hb fun _ h => h
/-- A list of numbers of houses, by other names. -/
theorem ren_bump {c c' : List Int} {h x : Int} (hh : 0 ≤ h ∧ h < (n : Int)) (h4 : c.length = 4) (h4' : c'.length = 4) (hc : ∀ j : Nat, j < n → c'.getD (rot k n j).toNat 0 = c.getD j 0) : ∀ j : Nat, j < n → (bump c' (rot k n h) x).getD (rot k n j).toNat 0 = (bump c h x).getD j 0 := fun j hj => by
  have hH := v.h4
  rw [getD_bump, getD_bump, hc j hj]
  have b1 := rot_bd (k := k) (h := (j : Int)) (show 0 < n by omega)
  have b2 := rot_bd (k := k) (h := h) (show 0 < n by omega)
  have i1 := rot_inj (a := h) (b := (j : Int)) hk hh (by omega)
  by_cases e : h = (j : Int)
  · have e2 := i1.2 e
    rw [if_pos ⟨by omega, by omega⟩, if_pos ⟨by omega, by omega⟩]
  · have e2 : rot k n h ≠ rot k n (j : Int) := fun q => e (i1.1 q)
    rw [if_neg (by omega), if_neg (by omega)]
theorem ren_comeF {d : Nat} {s : Int} : ∀ {i : Nat} {es : List Ent5} {c c' : List Int}, (∀ e ∈ es, e ∈ r.entries) → c.length = 4 → c'.length = 4 → (∀ j : Nat, j < n → c'.getD (rot k n j).toNat 0 = c.getD j 0) → ∀ j : Nat, j < n → (comeF d s i (es.map (renE k n)) c').getD (rot k n j).toNat 0 = (comeF d s i es c).getD j 0
  | _, [], _, _, _, _, _, hc => hc
  | i, e :: es, c, c', h, h4, h4', hc => by
    have he := v.en e (h e List.mem_cons_self)
    simp only [List.map_cons, comeF]
    show ∀ j : Nat, j < n → (comeF d s (i + 1) (es.map (renE k n)) (bif d.testBit i && (e.sheet == s) then bump (bump c' (rot k n e.frm) (-1)) (rot k n e.to) 1 else c')).getD (rot k n j).toNat 0 = _
    cases d.testBit i && (e.sheet == s)
    · exact ren_comeF (fun x hx => h x (List.mem_cons_of_mem _ hx)) h4 h4' hc
    · exact ren_comeF (fun x hx => h x (List.mem_cons_of_mem _ hx)) (by simp [bump_len, h4]) (by simp [bump_len, h4']) (ren_bump v hn hk (by omega) (by simp [bump_len, h4]) (by simp [bump_len, h4']) (ren_bump v hn hk (by omega) h4 h4' hc))
theorem ren_place {m s : Nat} {st st' : RSt} (ho : OkS r m st) (ho' : OkS (renR k n r) m st') (hs : s < r.start.length) : (placesA (renR k n r) m).getD s 0 = rot k n ((placesA r m).getD s 0) ∧ 0 ≤ (placesA r m).getD s 0 ∧ (placesA r m).getD s 0 < (n : Int) := by
  have vx := ren_valid v hn hk
  have hH := v.h4
  rw [ho.places v, ho'.places vx]
  obtain ⟨p1, p2, p3⟩ := ho.pl s hs
  obtain ⟨q1, q2, q3⟩ := ho'.pl s (by show s < (r.start.map _).length; rw [List.length_map]; exact hs)
  have hg : (renR k n r).start.getD s 0 = rot k n (r.start.getD s 0) := by
    show (r.start.map (rot k n)).getD s 0 = _
    simp only [List.getD_eq_getElem?_getD, List.getElem?_map, List.getElem?_eq_getElem hs]
    rfl
  rw [hg] at q1
  have hst := v.st _ (getD_mem hs)
  have hz : ∀ j : Nat, ([0, 0, 0, 0] : List Int).getD j 0 = 0 := fun j => by rcases j with _ | _ | _ | _ | j <;> rfl
  have hc := ren_comeF v hn hk (d := m) (s := (s : Int)) (i := 0) (es := r.entries) (c := come0 (r.start.getD s 0)) (c' := come0 (rot k n (r.start.getD s 0))) (fun _ h => h) come0_len come0_len (ren_bump v hn hk (c := [0, 0, 0, 0]) (c' := [0, 0, 0, 0]) (by omega) rfl rfl fun j _ => by rw [hz, hz])
  have q1' : comeF m (s : Int) 0 (r.entries.map (renE k n)) (come0 (rot k n (r.start.getD s 0))) = come0 (st'.1.getD s 0) := q1
  obtain ⟨h, hh⟩ : ∃ h : Nat, st.1.getD s 0 = (h : Int) := ⟨(st.1.getD s 0).toNat, by omega⟩
  have hx := hc h (by omega)
  have b1 := rot_bd (k := k) (h := (h : Int)) (show 0 < n by omega)
  have q3' : st'.1.getD s 0 < r.houses := q3
  rw [q1', p1, getD_come0 _ (by omega), getD_come0 _ (by omega), hh] at hx
  rw [if_pos (show ((h : Int)).toNat = h by omega)] at hx
  refine ⟨?_, p2, by omega⟩
  rw [hh]
  by_cases e : (st'.1.getD s 0).toNat = (rot k n (h : Int)).toNat
  · omega
  · rw [if_neg e] at hx; cases hx
end
section
variable {r : Reg} {k n : Nat} (v : Valid r) (hn : r.houses = (n : Int)) (hk : k < n)
include v hn hk
theorem ren_can {m i : Nat} (h : (∃ st, OkS r m st) ∧ ∃ st, OkS (renR k n r) m st) : canB (renR k n r) i m = canB r i m := by
  obtain ⟨⟨st, ho⟩, st', ho'⟩ := h
  unfold canB
  show (match (r.entries.map (renE k n))[i]? with | none => false | some e => canE (renR k n r) i e m) = _
  rw [List.getElem?_map]
  cases he : r.entries[i]? with
  | none => rfl
  | some e =>
    have hen := v.en e (List.mem_of_getElem? he)
    obtain ⟨h1, h2, h3⟩ := ren_place v hn hk ho ho' (s := e.sheet.toNat) (by omega)
    show canE (renR k n r) i (renE k n e) m = canE r i e m
    unfold canE
    show (!(m.testBit i) && ((placesA (renR k n r) m).getD e.sheet.toNat 0 == rot k n e.frm) && ((e.kind != 2) || decide (0 < openN (renR k n r) m (rot k n e.to) (rot k n e.frm)))) = _
    rw [h1, rot_beq hk ⟨h2, h3⟩ (by omega), ren_open v hn hk m (by omega) (by omega)]
theorem ren_ok {m i : Nat} (h : (∃ st, OkS r m st) ∧ ∃ st, OkS (renR k n r) m st) (hc : canB r i m = true) : (∃ st, OkS r (m ||| 2 ^ i) st) ∧ ∃ st, OkS (renR k n r) (m ||| 2 ^ i) st := by
  have hc' := ren_can v hn hk h (i := i)
  rw [hc] at hc'
  obtain ⟨⟨st, ho⟩, st', ho'⟩ := h
  have hb := canB_bit hc
  constructor
  · unfold canB at hc
    split at hc
    · cases hc
    · rename_i e he
      rw [ho.can v he hb] at hc
      obtain ⟨st2, h2⟩ := Option.isSome_iff_exists.1 hc
      exact ⟨st2, ho.step v he hb h2⟩
  · unfold canB at hc'
    split at hc'
    · cases hc'
    · rename_i e he
      rw [ho'.can (ren_valid v hn hk) he hb] at hc'
      obtain ⟨st2, h2⟩ := Option.isSome_iff_exists.1 hc'
      exact ⟨st2, ho'.step (ren_valid v hn hk) he hb h2⟩
theorem ren_day {d : Int} : ∀ {ts : List Int} {i m : Nat}, ((∃ st, OkS r m st) ∧ ∃ st, OkS (renR k n r) m st) → dayF (renR k n r) d i ts m = dayF r d i ts m ∧ ∀ m', dayF r d i ts m = some m' → (∃ st, OkS r m' st) ∧ ∃ st, OkS (renR k n r) m' st
  | [], _, m, h => ⟨rfl, fun m' e => by cases e; exact h⟩
  | t :: ts, i, m, h => by
    simp only [dayF]
    cases t != d with
    | true => exact ren_day h
    | false =>
      simp only [cond_false]
      rw [ren_can v hn hk h]
      cases hc : canB r i m with
      | false => exact ⟨rfl, fun m' e => by cases e⟩
      | true => exact ren_day (ren_ok v hn hk h hc)
theorem ren_playF {t : List Int} : ∀ {c d m : Nat}, ((∃ st, OkS r m st) ∧ ∃ st, OkS (renR k n r) m st) → playF (renR k n r) t c d m = playF r t c d m ∧ ∀ ds, playF r t c d m = some ds → ∀ x ∈ ds, (∃ st, OkS r x st) ∧ ∃ st, OkS (renR k n r) x st
  | 0, _, _, _ => ⟨rfl, fun ds e => by cases e; exact fun _ h => by cases h⟩
  | c + 1, d, m, h => by
    obtain ⟨h1, h2⟩ := ren_day v hn hk (d := (d : Int)) (ts := t) (i := 0) h
    rw [playF, playF, h1]
    cases hd : dayF r (d : Int) 0 t m with
    | none => exact ⟨rfl, fun ds e => by cases e⟩
    | some m' =>
      obtain ⟨h3, h4⟩ := ren_playF (c := c) (d := d + 1) (h2 m' hd)
      simp only
      rw [h3]
      refine ⟨rfl, fun ds e => ?_⟩
      cases hp : playF r t c (d + 1) m' with
      | none => rw [hp] at e; cases e
      | some ds1 =>
        rw [hp] at e
        cases e
        intro x hx
        rcases List.mem_cons.1 hx with rfl | hx
        · exact h2 _ hd
        · exact h4 ds1 hp x hx
theorem ren_start : (∃ st, OkS r 0 st) ∧ ∃ st, OkS (renR k n r) 0 st := ⟨⟨_, OkS.start r v⟩, _, OkS.start _ (ren_valid v hn hk)⟩
theorem ren_dated {es : List Ent5} {ts : List Int} : datedF (es.map (renE k n)) ts = datedF es ts := by
  induction es generalizing ts with
  | nil => rfl
  | cons e es ih => cases ts with
    | nil => rfl
    | cons t ts => simp only [List.map_cons, datedF, ih]; rfl
theorem ren_seen : ∀ {l : List Nat} {d : Nat}, (∀ x ∈ l, (∃ st, OkS r x st) ∧ ∃ st, OkS (renR k n r) x st) → seenAll (renR k n r) d l = seenAll r d l
  | [], _, _ => rfl
  | m :: l, d, h => by
    obtain ⟨⟨st, ho⟩, st', ho'⟩ := h m List.mem_cons_self
    simp only [seenAll, ren_seen fun x hx => h x (List.mem_cons_of_mem _ hx)]
    congr 1
    show (r.sights.map (renS k n)).all _ = _
    rw [List.all_map, Bool.eq_iff_iff, List.all_eq_true, List.all_eq_true]
    have key : ∀ s ∈ r.sights, seenB (d : Int) (placesA (renR k n r) m) (renS k n s) = seenB (d : Int) (placesA r m) s := fun s hs => by
      have hsi := v.si s hs
      obtain ⟨h1, h2, h3⟩ := ren_place v hn hk ho ho' (s := s.sheet.toNat) (by omega)
      unfold seenB
      show (s.day != (d : Int) || ((placesA (renR k n r) m).getD s.sheet.toNat 0 == rot k n s.house)) = _
      rw [h1, rot_beq hk ⟨h2, h3⟩ (by omega)]
    exact ⟨fun q s hs => by rw [← key s hs]; exact q s hs, fun q s hs => by show seenB _ _ (renS k n s) = true; rw [key s hs]; exact q s hs⟩
theorem ren_truth {t : List Int} {ds : List Nat} : Truth (renR k n r) t ds ↔ Truth r t ds := by
  obtain ⟨h1, h2⟩ := ren_playF v hn hk (t := t) (c := 10) (d := 0) (ren_start v hn hk)
  have hd : datedF (renR k n r).entries t = datedF r.entries t := ren_dated v hn hk
  constructor
  · rintro ⟨a, b, c⟩
    have b' : playF r t 10 0 0 = some ds := h1 ▸ b
    exact ⟨hd ▸ a, b', by rw [← ren_seen v hn hk (h2 ds b')]; exact c⟩
  · rintro ⟨a, b, c⟩
    have b' : playF (renR k n r) t 10 0 0 = some ds := h1.trans b
    exact ⟨hd.trans a, b', by rw [ren_seen v hn hk (h2 ds b)]; exact c⟩
theorem ren_has : hasT (renR k n r) ↔ hasT r := by
  unfold hasT
  rw [goes_truth v, goes_truth (ren_valid v hn hk)]
  exact ⟨fun ⟨t, ds, T⟩ => ⟨t, ds, (ren_truth v hn hk).1 T⟩, fun ⟨t, ds, T⟩ => ⟨t, ds, (ren_truth v hn hk).2 T⟩⟩
theorem ren_goes : goesB (renR k n r) 0 0 0 = goesB r 0 0 0 := by
  rw [Bool.eq_iff_iff]
  exact ren_has v hn hk
theorem ren_eve {N m : Nat} (hN : N ≤ 9) : Eve (renR k n r) N m ↔ Eve r N m := by
  unfold Eve
  rw [show Rch (renR k n r) N N (renR k n r).entries.length m ↔ _ from rch_truth (ren_valid v hn hk) hN, rch_truth v hN]
  exact ⟨fun ⟨t, ds, T, h⟩ => ⟨t, ds, (ren_truth v hn hk).1 T, h⟩, fun ⟨t, ds, T, h⟩ => ⟨t, ds, (ren_truth v hn hk).2 T, h⟩⟩
theorem eve_place {N m s : Nat} (hN : N ≤ 9) (h : Eve r N m) (hs : s < r.start.length) : (placesA (renR k n r) m).getD s 0 = rot k n ((placesA r m).getD s 0) ∧ 0 ≤ (placesA r m).getD s 0 ∧ (placesA r m).getD s 0 < (n : Int) := by
  obtain ⟨t, ds, T, hd⟩ := (rch_truth v hN).1 h
  obtain ⟨_, h2⟩ := ren_playF v hn hk (t := t) (c := 10) (d := 0) (ren_start v hn hk)
  obtain ⟨⟨st, ho⟩, st', ho'⟩ := h2 ds T.play m (List.mem_of_getElem? hd)
  exact ren_place v hn hk ho ho' hs
end
theorem dropF_map {α β : Type} {f : α → β} {out : List Int} : ∀ {k : Nat} {l : List α}, dropF out k (l.map f) = (dropF out k l).map f
  | _, [] => rfl
  | k, x :: l => by
    simp only [List.map_cons, dropF]
    cases out.any (fun n => (k : Int) == n)
    · simp only [cond_false, List.map_cons]; rw [dropF_map]
    · exact dropF_map
theorem ren_drop {r : Reg} {k n : Nat} {out : List Int} : dropR (renR k n r) out = renR k n (dropR r out) := by
  unfold dropR renR
  simp only [dropF_map, List.length_map]
theorem leaveS_cong {r x : Reg} (h : ∀ out, goesB (dropR x out) 0 0 0 = goesB (dropR r out) 0 0 0) (S : Nat) : ∀ (k : Nat) (out : List Int) (f : Nat), leaveS x S k out f = leaveS r S k out f
  | 0, out, f => by simp only [leaveS, h]
  | k + 1, out, f => by
    simp only [leaveS]
    congr 1
    funext i
    exact leaveS_cong h S k _ _
theorem ren_leave {r : Reg} {k n : Nat} (v : Valid r) (hn : r.houses = (n : Int)) (hk : k < n) : (leaveR (renR k n r)).1 = (leaveR r).1 := by
  have h0 := checkE_of v
  have h1 := checkE_of (ren_valid v hn hk)
  have e : sumR (renR k n r) = sumR r := by simp [sumR, renR]
  have hS : ∀ out, goesB (dropR (renR k n r) out) 0 0 0 = goesB (dropR r out) 0 0 0 := fun out => by
    rw [ren_drop]
    exact ren_goes (r := dropR r out) (valid_drop v out) hn hk
  have hG : ∀ c j, leaveGo (renR k n r) c j = leaveGo r c j := fun c => by
    induction c with
    | zero => intro j; rfl
    | succ c ih =>
      intro j
      simp only [leaveGo, leaveK, e, leaveS_cong hS, ih]
  unfold leaveR
  rw [if_neg (by simp [h1]), if_neg (by simp [h0]), e, hG]
theorem nodup_len {a : List Int} : ∀ {b : List Int}, a.Nodup → (∀ x ∈ a, x ∈ b) → a.length ≤ b.length := by
  induction a with
  | nil => intro b _ _; simp
  | cons x a ih =>
    intro b hn h
    rw [List.nodup_cons] at hn
    have hx := h x List.mem_cons_self
    have := ih (b := b.erase x) hn.2 fun y hy => by
      have hne : y ≠ x := fun e => hn.1 (e ▸ hy)
      exact (List.mem_erase_of_ne hne).2 (h y (List.mem_cons_of_mem _ hy))
    rw [List.length_erase_of_mem hx] at this
    have : 0 < b.length := List.length_pos_of_mem hx
    simp only [List.length_cons]
    omega
theorem strict_nodup {l : List Int} (h : l.Pairwise (· < ·)) : l.Nodup := h.imp fun hab => by omega
theorem map_nodup {l : List Int} {f : Int → Int} (h : l.Nodup) (hf : ∀ x ∈ l, ∀ y ∈ l, f x = f y → x = y) : (l.map f).Nodup := by
  induction l with
  | nil => exact List.nodup_nil
  | cons x l ih =>
    rw [List.nodup_cons] at h
    rw [List.map_cons, List.nodup_cons]
    refine ⟨fun hm => ?_, ih h.2 fun a ha b hb => hf a (List.mem_cons_of_mem _ ha) b (List.mem_cons_of_mem _ hb)⟩
    obtain ⟨y, hy, e⟩ := List.mem_map.1 hm
    exact h.1 (hf x List.mem_cons_self y (List.mem_cons_of_mem _ hy) e.symm ▸ hy)
theorem ren_hold {r : Reg} {k n N s : Nat} {o o' : List Nat} (v : Valid r) (hn : r.houses = (n : Int)) (hk : k < n) (hN : N ≤ 9) (hs : s < r.start.length) (h : EvOK r N o) (h' : EvOK (renR k n r) N o') : (holdR (renR k n r) (s : Nat) o').length = (holdR r (s : Nat) o).length ∧ ∀ x ∈ holdR r (s : Nat) o, (0 ≤ x ∧ x < (n : Int)) ∧ rot k n x ∈ holdR (renR k n r) (s : Nat) o' := by
  have hmem : ∀ x ∈ holdR r (s : Nat) o, (0 ≤ x ∧ x < (n : Int)) ∧ rot k n x ∈ holdR (renR k n r) (s : Nat) o' := fun x hx => by
    obtain ⟨m, h1, rfl⟩ := (hold_mem h).1 hx
    obtain ⟨q1, q2, q3⟩ := eve_place v hn hk hN h1 hs
    exact ⟨⟨q2, q3⟩, (hold_mem h').2 ⟨m, (ren_eve v hn hk hN).2 h1, q1⟩⟩
  refine ⟨?_, hmem⟩
  have i1 : (holdR r (s : Nat) o).Nodup := strict_nodup (comp_sorted (sort_sorted _).1).1
  have i2 : (holdR (renR k n r) (s : Nat) o').Nodup := strict_nodup (comp_sorted (sort_sorted _).1).1
  have i3 : ((holdR r (s : Nat) o).map (rot k n)).Nodup := map_nodup i1 fun x hx y hy e => (rot_inj hk (hmem x hx).1 (hmem y hy).1).1 e
  have l1 := nodup_len (b := holdR (renR k n r) (s : Nat) o') i3 fun y hy => by
    obtain ⟨x, hx, rfl⟩ := List.mem_map.1 hy
    exact (hmem x hx).2
  have l2 := nodup_len (b := (holdR r (s : Nat) o).map (rot k n)) i2 fun y hy => by
    obtain ⟨m, h1, rfl⟩ := (hold_mem h').1 hy
    have h2 := (ren_eve v hn hk hN).1 h1
    exact List.mem_map.2 ⟨_, (hold_mem h).2 ⟨m, h2, rfl⟩, (eve_place v hn hk hN h2 hs).1.symm⟩
  rw [List.length_map] at l1 l2
  omega
theorem ren_heldN {r : Reg} {k n N m : Nat} {a : Int} (v : Valid r) (hn : r.houses = (n : Int)) (hk : k < n) (hN : N ≤ 9) (ha : 0 ≤ a ∧ a < (n : Int)) (h : Eve r N m) : heldN (renR k n r) m (rot k n a) = heldN r m a := by
  have hs4 := v.s4
  unfold heldN
  have e : ∀ x : Reg, x.start.length ≤ 4 → (placesA x m).take x.start.length = (List.range x.start.length).map fun s => (placesA x m).getD s 0 := fun x hx => by
    apply List.ext_getElem?
    intro i
    rw [List.getElem?_take, List.getElem?_map]
    split
    · rename_i hi
      rw [List.getElem?_range hi, getD_some (l := placesA x m) (by rw [placesA_len]; omega)]
      rfl
    · rename_i hi
      rw [List.getElem?_eq_none (by simpa using hi)]
      rfl
  have hl : (renR k n r).start.length = r.start.length := by simp [renR]
  rw [e r hs4, e (renR k n r) (by rw [hl]; exact hs4), hl, List.countP_map, List.countP_map]
  apply List.countP_congr
  intro s hs
  rw [List.mem_range] at hs
  obtain ⟨q1, q2, q3⟩ := eve_place v hn hk hN h hs
  show ((placesA (renR k n r) m).getD s 0 == rot k n a) = true ↔ ((placesA r m).getD s 0 == a) = true
  rw [q1, rot_beq hk ⟨q2, q3⟩ ha]
theorem ren_held {r : Reg} {k n N : Nat} {a : Int} {o o' : List Nat} (v : Valid r) (hn : r.houses = (n : Int)) (hk : k < n) (hN : N ≤ 9) (ha : 0 ≤ a ∧ a < (n : Int)) (h : EvOK r N o) (hne : o ≠ []) (h' : EvOK (renR k n r) N o') (hne' : o' ≠ []) : heldR (renR k n r) (rot k n a) o' = heldR r a o := by
  obtain ⟨p1, ⟨m1, p2, p3⟩, m2, p4, p5⟩ := held_rng (a := a) h hne
  obtain ⟨q1, ⟨m3, q2, q3⟩, m4, q4, q5⟩ := held_rng (a := rot k n a) h' hne'
  have e3 := (ren_eve v hn hk hN).1 q2
  have e4 := (ren_eve v hn hk hN).1 q4
  have a1 := q1 m1 ((ren_eve v hn hk hN).2 p2)
  have a2 := q1 m2 ((ren_eve v hn hk hN).2 p4)
  have a3 := p1 m3 e3
  have a4 := p1 m4 e4
  rw [ren_heldN v hn hk hN ha p2] at a1
  rw [ren_heldN v hn hk hN ha p4] at a2
  rw [ren_heldN v hn hk hN ha e3] at q3
  rw [ren_heldN v hn hk hN ha e4] at q5
  exact Prod.ext (by omega) (by omega)
end Go.Proofs.Ytnbmmopjkkofoaa
namespace Go.Proofs.Ytnbmmopjkkofoaa
open Go.RowKit
set_option maxRecDepth 20000
set_option linter.all false
theorem neq45 (a b c d : Int) (w : World) : (binOp .neq 45 (.agg #[.int .i64 a, .int .i64 b]) (.agg #[.int .i64 c, .int .i64 d])).run Try.prog w = .ok (.bool (!(a == c && b == d))) w := by
  have u3 := Try.underlying3
  have a3 := Try.isAgg3
  have z3 := Try.sizeOf3
  have hS : Try.prog.underlying 45 = some (.struct (Try.prog.fieldsOf 45)) := by kernel_rfl
  have hp : Try.prog.stoodInHeld 45 = false := by kernel_rfl
  rw [run_neq_struct, show (10000 : Nat) = 9999 + 1 from rfl, run_equalIn_agg w 9999 45 _ _ hS hp]
  simp only [Program.fieldsOf, Try.underlying45]
  go_simp
  by_cases h1 : a = c <;> by_cases h2 : b = d <;> simp [h1, h2]
theorem q_neq45 {Γ : Cx} {σ : St} {o : Oper} {R : Rel} {x y : Operand} {t' : TypeId} {a b c d : Int} (h : o.op = .binOp .neq 45 x y t') (hx : σ.ev x = some (true, .d (.agg [.int .i64 a, .int .i64 b]))) (hy : σ.ev y = some (true, .d (.agg [.int .i64 c, .int .i64 d]))) :
    QV Γ Try.prog σ o R (.d (.bool (!(a == c && b == d)))) := fun A w F hs => by
  obtain ⟨vs, e1, h1, _⟩ := hs.ev hx
  obtain ⟨us, e2, h2, _⟩ := hs.ev hy
  obtain ⟨v1, vs1, rfl, q1, v2, vs2, rfl, q2, q3⟩ := h1
  obtain ⟨u1, us1, rfl, p1, u2, us2, rfl, p2, p3⟩ := h2
  simp only [Rep, RepVals] at q1 q2 q3 p1 p2 p3
  subst q1 q2 q3 p1 p2 p3
  exact ⟨.bool (!(a == c && b == d)), rfl, fun w' _ => by
    simp only [execOp, h, e1, e2, Sem.run_bind, guard45, Result.andThen_ok, neq45, Sem.run_pure]⟩
theorem ask_two {r : Reg} {is : Bool} {N : Nat} (v : Valid r) (his : is = true) (hN : N ≤ 9) {out : List Nat} {e : Int} (h : AskP r is (N : Nat) out e) : EvOK r N out ∧ ((hasT r ∧ e = 0 ∧ out ≠ []) ∨ (¬ hasT r ∧ e = 9 ∧ out = [])) := by
  obtain ⟨h1, h2⟩ := ask_ok v his hN h
  refine ⟨h1, ?_⟩
  by_cases ht : hasT r
  · have := all_of v ht
    rw [if_neg this] at h2
    exact .inl ⟨ht, h2, fun k => this ((ev_nil v hN h1).1 k)⟩
  · have ha : allDays r = [] := by
      apply Classical.byContradiction
      intro k
      exact ht ((goes_all_iff v).2 k)
    rw [if_pos ha] at h2
    exact .inr ⟨ht, h2, (ev_nil v hN h1).2 ha⟩
theorem ren_ans {r : Reg} {k n N s a : Nat} {o1 o2 o3 o4 : List Nat} {e1 e2 e3 e4 : Int} (v : Valid r) (hn : r.houses = (n : Int)) (hk : k < n) (hN : N ≤ 9) (hs : s < r.start.length) (ha : a < n)
    (h1 : AskP r (sheetB r (s : Nat)) (N : Nat) o1 e1) (h2 : AskP (renR k n r) (sheetB (renR k n r) (s : Nat)) (N : Nat) o2 e2) (h3 : AskP r (houseB r (a : Nat)) (N : Nat) o3 e3) (h4 : AskP (renR k n r) (houseB (renR k n r) (rot k n a)) (N : Nat) o4 e4) :
    e2 = e1 ∧ e3 = e1 ∧ e4 = e1 ∧ (e1 = 0 ∨ e1 = 9) ∧ heldR (renR k n r) (rot k n a) o4 = heldR r (a : Nat) o3 ∧ (holdR (renR k n r) (s : Nat) o2).length = (holdR r (s : Nat) o1).length ∧ ∀ x ∈ holdR r (s : Nat) o1, (0 ≤ x ∧ x < (n : Int)) ∧ hasB (holdR (renR k n r) (s : Nat) o2) (rot k n x) = true := by
  have vx := ren_valid v hn hk
  have hb := rot_bd (k := k) (h := (a : Int)) (show 0 < n by omega)
  have hl : (renR k n r).start.length = r.start.length := by simp [renR]
  obtain ⟨q1, p1⟩ := ask_two v (sheetB_of (by omega) (by omega)) hN h1
  obtain ⟨q2, p2⟩ := ask_two vx (sheetB_of (by omega) (by rw [hl]; omega)) hN h2
  obtain ⟨q3, p3⟩ := ask_two v (houseB_of v (by omega) (by omega)) hN h3
  obtain ⟨q4, p4⟩ := ask_two vx (houseB_of vx hb.1 (by show _ < r.houses; omega)) hN h4
  have hh := ren_has v hn hk
  have hl := ren_hold (s := s) v hn hk hN hs q1 q2
  have hm : ∀ x ∈ holdR r (s : Nat) o1, (0 ≤ x ∧ x < (n : Int)) ∧ hasB (holdR (renR k n r) (s : Nat) o2) (rot k n x) = true := fun x hx => ⟨(hl.2 x hx).1, hasB_mem.2 (hl.2 x hx).2⟩
  by_cases ht : hasT r
  · have p1 := p1.resolve_right (fun k => k.1 ht)
    have p2 := p2.resolve_right (fun k => k.1 (hh.2 ht))
    have p3 := p3.resolve_right (fun k => k.1 ht)
    have p4 := p4.resolve_right (fun k => k.1 (hh.2 ht))
    exact ⟨by omega, by omega, by omega, .inl p1.2.1, ren_held v hn hk hN (by omega) q3 p3.2.2 q4 p4.2.2, hl.1, hm⟩
  · have p1 := p1.resolve_left (fun k => ht k.1)
    have p2 := p2.resolve_left (fun k => ht (hh.1 k.1))
    have p3 := p3.resolve_left (fun k => ht k.1)
    have p4 := p4.resolve_left (fun k => ht (hh.1 k.1))
    exact ⟨by omega, by omega, by omega, .inr p1.2.1, by rw [p3.2.2, p4.2.2]; rfl, hl.1, hm⟩
theorem addI {l : List Int} {x : Int} : l.map intE ++ [intE x] = (l ++ [x]).map intE := by simp
theorem addE {l : List Ent5} {x : Ent5} : l.map entE ++ [entE x] = (l ++ [x]).map entE := by simp
theorem addS {l : List Sight5} {x : Sight5} : l.map sightE ++ [sightE x] = (l ++ [x]).map sightE := by simp
theorem bd_len {l : List Int} {n : Nat} (h : l.Nodup) (hb : ∀ x ∈ l, 0 ≤ x ∧ x < (n : Int)) : l.length ≤ n := by
  have := nodup_len (b := (List.range n).map fun i : Nat => (i : Int)) h fun x hx => List.mem_map.2 ⟨x.toNat, by rw [List.mem_range]; have := hb x hx; omega, by have := hb x hx; omega⟩
  simpa using this
theorem take_add {α β : Type} {l : List α} {f : α → β} {i : Nat} {x : α} (h : l[i]? = some x) : (l.take i).map f ++ [f x] = (l.take (i + 1)).map f := by
  rw [List.take_add_one, h]; simp
theorem SheetRenamed_eff (r : Reg) (by5 wh wr on : Nat) (hb5 : by5 < 256) (hw5 : wh < 256) (hr5 : wr < 256) (ho5 : on < 256) : EffAt Try.prog 10 [.d (regD r), .d (.int .u8 (by5 : Nat)), .d (.int .u8 (wh : Nat)), .d (.int .u8 (wr : Nat)), .d (.int .u8 (on : Nat))] [] (X := Unit) (fun _ => .d (.bool true)) (fun _ => []) := by
  refine EffAt.of_awp Try.func10 rfl (by kernel_rfl) rfl fun Γ hn => ?_
  refine awp_seq ?_
  refine awp_region ?_
  refine stepW (s_box 5 rfl rfl rfl (nb hn rfl) rfl rfl) fun b5 => ?_
  refine sq rfl rfl hn rfl (q_assign rfl rfl) ?_
  refine run_nil ?_
  refine aend_then ?_
  refine awp_seq ?_
  refine awp_seq ?_
  refine awp_region ?_
  refine sq rfl rfl hn rfl (q_loadAd rfl rfl (id := 5) rfl Try.underlying26 rfl sz26 rfl rfl sees0) ?_
  refine stepW (s_call [] (fun _ => ready_ok _) rfl (guard_none rfl) rfl (nb hn rfl) (fun _ => trivial) rfl rfl (.refl _)) fun _ => ?_
  refine sq rfl rfl hn rfl (q_not rfl rfl) ?_
  refine run_nil ?_
  refine aend_then ?_
  refine awp_cond rfl (fun hb0 => ?_) (fun hb0 => ?_)
  · skip
    refine awp_seq ?_
    refine awp_region ?_
    refine stepW (s_call [] (fun _ => awake_ok) rfl (guard_none rfl) rfl (nb hn rfl) (fun _ => trivial) rfl rfl (.refl _)) fun _ => ?_
    refine sq rfl rfl hn rfl (q_assign rfl rfl) ?_
    refine run_nil ?_
    refine aend_then ?_
    refine awp_ret ?_
    refine aend_then_ret ?_
    exact ret_E (.inl rfl) () (hands_1 rfl (.tmp rfl)) trivial
  · skip
    have v := ready_f hb0
    have hv6 := v.e6
    have hvg := v.g4
    have hvs := v.s4
    have hvs1 := v.s1
    have hv1 := v.h1
    have hvh := v.h4
    obtain ⟨n, hn5⟩ : ∃ n : Nat, r.houses = n := ⟨r.houses.toNat, by omega⟩
    have hn0 : 0 < n := by omega
    obtain ⟨k, hk5⟩ : ∃ k, by5 % n = k := ⟨_, rfl⟩
    have hkn : k < n := hk5 ▸ Nat.mod_lt _ hn0
    refine awp_skip ?_
    refine aend_then ?_
    refine awp_seq ?_
    refine d_start (W := fun b => b ≠ b5) fmo ?_
    refine d1q (i := 0) rfl (by kernel_rfl) (fun _ _ _ _ h => h) rfl rfl hn rfl (q_move rfl rfl) ?_
    refine d1q (i := 1) rfl (by kernel_rfl) (fun _ _ _ _ h => h) rfl rfl hn rfl (q_conv rfl rfl Try.underlying5 Try.underlying3 (r := (by5 : Int)) (i64w (by omega) rfl)) ?_
    refine d1q (i := 2) rfl (by kernel_rfl) (fun _ _ _ _ h => h) rfl rfl hn rfl (q_fieldAddr rfl rfl Try.underlying26 rfl sz3) ?_
    refine d1q (i := 3) rfl (by kernel_rfl) (fun _ _ _ _ h => h) rfl rfl hn rfl (q_load rfl rfl (id := 5) rfl Try.underlying3 rfl rfl (seesA (by simp))) ?_
    refine d1q (i := 4) rfl (by kernel_rfl) (fun _ _ _ _ h => h) rfl rfl hn rfl (q_rem rfl rfl rfl (r := ((k : Nat) : Int)) (by omega) (by rw [hn5, ← hk5]; exact modN hn0)) ?_
    refine d1q (i := 5) rfl (by kernel_rfl) (fun _ _ _ _ h => h) rfl rfl hn rfl (q_fieldAddr rfl rfl Try.underlying26 rfl sz3) ?_
    refine d1q (i := 6) rfl (by kernel_rfl) (fun _ _ _ _ h => h) rfl rfl hn rfl (q_load rfl rfl (id := 5) rfl Try.underlying3 rfl rfl (seesA (by simp))) ?_
    refine d1q (i := 7) rfl (by kernel_rfl) (fun _ _ _ _ h => h) rfl rfl hn rfl (q_assign rfl rfl) ?_
    refine d1q (i := 8) rfl (by kernel_rfl) (fun _ _ _ _ h => h) rfl rfl hn rfl (q_assign rfl rfl) ?_
    refine d1_of_d2 ?_
    refine d2_done (by kernel_rfl) ?_
    refine aend_then ?_
    refine awp_seq ?_
    refine awp_region ?_
    refine sq rfl rfl hn rfl (q_move rfl rfl) ?_
    refine sq rfl rfl hn rfl (q_buildd rfl bt26 rfl rfl rfl rfl rfl) ?_
    refine stepW (s_alloc 13 rfl rfl rfl (nb hn rfl) zr26 rfl rfl) fun b13 => ?_
    refine stepW (s_store rfl rfl rfl rfl rfl rfl (id := 13) rfl sz26 rfl (Nat.le_of_ble_eq_true rfl) rfl trivial) fun _ => ?_
    refine run_nil ?_
    refine aend_then ?_
    refine awp_seq ?_
    refine awp_seq ?_
    refine gh_awp (gh_nilcell (id := 13) (k := 1) 1030 3 1 rfl rfl) ?_
    refine awp_region ?_
    refine sq rfl rfl hn rfl (q_assign rfl rfl) ?_
    refine run_nil ?_
    refine aend_then ?_
    refine awp_block ?_
    refine awp_loop_on (ι := {x : Nat × Value // x.1 ≤ r.start.length}) (fun x => (14, true, .d (.int .i64 (x.1.1 : Nat))) :: anys [48, 49, 50, 51, 52, 55, 56, 57, 58, 59, 60, 61, 62, 63, 64, 65, 66, 67, 68, 53, 54]) (fun x => [(13, .box b13 26 [.d (.int .i64 r.houses), .val x.1.2, .d .nil, .d .nil]), (1030, .row x.1.2 3 1 (((r.start.take x.1.1).map (rot k n)).map intE))]) (fun x => r.start.length - x.1.1) ⟨(0, _), Nat.zero_le _⟩ ⟨.inl rfl, holdT_anys _⟩ ⟨.inl rfl, .inl rfl, trivial⟩ ?_
    rintro ⟨⟨i, vS⟩, hi⟩
    dsimp only
    refine awp_seq ?_
    refine awp_seq ?_
    refine awp_region ?_
    refine sq rfl rfl hn rfl (q_move rfl rfl) ?_
    refine sq rfl rfl hn rfl (q_fieldAddr rfl rfl Try.underlying26 rfl sz22) ?_
    refine sq rfl rfl hn rfl (q_load rfl rfl (id := 5) rfl Try.underlying22 rfl rfl sees0) ?_
    refine sq rfl rfl hn rfl (q_len rfl rfl Try.underlying22) ?_
    refine sq rfl rfl hn rfl (q_lss rfl rfl rfl) ?_
    refine run_nil ?_
    refine aend_then ?_
    refine awp_cond rfl (fun hb1 => ?_) (fun hb1 => ?_)
    · skip
      have hlt : i < r.start.length := by simp at hb1; omega
      obtain ⟨a5, ha5⟩ := ex_get hlt
      have hen := v.st a5 (List.mem_of_getElem? ha5)
      refine awp_skip ?_
      refine aend_then ?_
      refine awp_seq ?_
      refine awp_block ?_
      refine awp_join_on (e := .normal) (ι := Value) (fun x => anys [55, 56, 57, 58, 59, 60, 61, 62, 63, 64, 65, 66, 67, 68]) (fun x => [(13, .box b13 26 [.d (.int .i64 r.houses), .val x, .d .nil, .d .nil]), (1030, .row x 3 1 (((r.start.take (i + 1)).map (rot k n)).map intE))]) (fun hJ2 => ?_) ?_
      · skip
        refine d_start (W := fun b => b ≠ b5) fmo ?_
        refine d1q (i := 0) rfl (by kernel_rfl) (fun _ _ _ _ h => h) rfl rfl hn rfl (q_fieldAddr rfl rfl Try.underlying26 rfl sz22) ?_
        refine d1q (i := 2) rfl (by kernel_rfl) (fun _ _ _ _ h => h) rfl rfl hn rfl (q_fieldAddr rfl rfl Try.underlying26 rfl sz22) ?_
        refine d1q (i := 3) rfl (by kernel_rfl) (fun _ _ _ _ h => h) rfl rfl hn rfl (q_load rfl rfl (id := 5) rfl Try.underlying22 rfl rfl (seesA (by simp))) ?_
        refine d1q (i := 4) rfl (by kernel_rfl) (fun _ _ _ _ h => h) rfl rfl hn rfl (q_move rfl rfl) ?_
        refine d1q (i := 5) rfl (by kernel_rfl) (fun _ _ _ _ h => h) rfl rfl hn rfl (q_index (i := i) rfl rfl rfl Try.underlying22 sz3 rfl (mget ha5)) ?_
        refine d1q (i := 6) rfl (by kernel_rfl) (fun _ _ _ _ h => h) rfl rfl hn rfl (q_loadp rfl rfl Try.underlying3 rfl seesFA) ?_
        refine d1q (i := 7) rfl (by kernel_rfl) (fun _ _ _ _ h => h) rfl rfl hn rfl (q_move rfl rfl) ?_
        refine d1q (i := 8) rfl (by kernel_rfl) (fun _ _ _ _ h => h) rfl rfl hn rfl (q_add rfl rfl rfl (r := a5 + ((k : Nat) : Int)) (i64w (by omega) rfl)) ?_
        refine d1q (i := 9) rfl (by kernel_rfl) (fun _ _ _ _ h => h) rfl rfl hn rfl (q_move rfl rfl) ?_
        refine d1q (i := 10) rfl (by kernel_rfl) (fun _ _ _ _ h => h) rfl rfl hn rfl (q_rem rfl rfl rfl (r := rot k n a5) (by omega) (by rw [hn5]; exact rot_go (by omega))) ?_
        refine d1_of_d2 ?_
        refine d2_all 1 [11] (by kernel_rfl) ⟨?_, ?_, trivial⟩
        · skip
          refine br rfl (quiet_wg _ [] (guard_none rfl) rfl (nb hn rfl) (fun _ => trivial) (fun _ => q_load rfl rfl (id := 13) rfl Try.underlying22 rfl rfl sees0)) fun _ => ?_
          refine d2_of_d1 ?_
          refine d1_of_d2 ?_
          refine d2_one (i := 11) (by kernel_rfl) rfl (s_buildSlice rfl rfl rfl (nb hn rfl) Try.underlying22 sz3 zr3 rfl rfl rfl (show _ = [.d (.int .i64 0)] from by kernel_rfl) (by kernel_rfl) rfl rfl rfl rfl rfl) fun _ => ?_
          refine d2_of_d1 ?_
          refine d1_of_d2 ?_
          refine g_ne_d2 (i := 1030) (j := 5) rfl rfl rfl (fun hne1030_5 => ?_)
          refine d2_one (i := 12) (by kernel_rfl) rfl (s_append (id := 1030) rfl rfl rfl (nb hn rfl) elt22 trivial rfl rfl rfl (by simp [chunk]; omega) (by simp [chunk]; omega) (fun b hb => (fun e => hne1030_5 _ hb (congrArg some e.symm)))) fun v67 => ?_
          refine d2_of_d1 ?_
          refine d1q (i := 13) rfl (by kernel_rfl) (fun _ _ _ _ h => h) rfl rfl hn rfl (q_fieldAddr rfl rfl Try.underlying26 rfl sz22) ?_
          refine d1_of_d2 ?_
          refine g_ne_d2 (i := 13) (j := 5) rfl rfl rfl (fun hne13_5 => ?_)
          refine d2_one (i := 14) (by kernel_rfl) rfl (s_storeRow rfl rfl rfl rfl rfl (rid := 1030) rfl (id := 13) rfl sz22 (Nat.le_of_ble_eq_true rfl) rfl (fun e => hne13_5 _ rfl (congrArg some e.symm))) fun _ => ?_
          refine d2_of_d1 ?_
          refine d1_of_d2 ?_
          refine d2_done (by kernel_rfl) ?_
          exact aend_join_on hJ2 v67 (holdT_anys _) ⟨.inl rfl, .inl (congrArg (fun z => some (Res.row v67 3 1 z)) (addI.trans (by rw [take_add ha5]))), trivial⟩ (by repeat (first | exact kr _ | refine kc rfl ?_)) (by repeat (first | exact kr _ | refine kc rfl ?_))
        · skip
          refine br rfl (s_buildSlice rfl rfl rfl (nb hn rfl) Try.underlying22 sz3 zr3 rfl rfl rfl (show _ = [.d (.int .i64 0)] from by kernel_rfl) (by kernel_rfl) rfl rfl rfl rfl rfl) fun _ => ?_
          refine d2_of_d1 ?_
          refine d1_of_d2 ?_
          refine d2_one (i := 1) (by kernel_rfl) rfl (quiet_wg _ [] (guard_none rfl) rfl (nb hn rfl) (fun _ => trivial) (fun _ => q_load rfl rfl (id := 13) rfl Try.underlying22 rfl rfl sees0)) fun _ => ?_
          refine d2_of_d1 ?_
          refine d1_of_d2 ?_
          refine g_ne_d2 (i := 1030) (j := 5) rfl rfl rfl (fun hne1030_5 => ?_)
          refine d2_one (i := 12) (by kernel_rfl) rfl (s_append (id := 1030) rfl rfl rfl (nb hn rfl) elt22 trivial rfl rfl rfl (by simp [chunk]; omega) (by simp [chunk]; omega) (fun b hb => (fun e => hne1030_5 _ hb (congrArg some e.symm)))) fun v67 => ?_
          refine d2_of_d1 ?_
          refine d1q (i := 13) rfl (by kernel_rfl) (fun _ _ _ _ h => h) rfl rfl hn rfl (q_fieldAddr rfl rfl Try.underlying26 rfl sz22) ?_
          refine d1_of_d2 ?_
          refine g_ne_d2 (i := 13) (j := 5) rfl rfl rfl (fun hne13_5 => ?_)
          refine d2_one (i := 14) (by kernel_rfl) rfl (s_storeRow rfl rfl rfl rfl rfl (rid := 1030) rfl (id := 13) rfl sz22 (Nat.le_of_ble_eq_true rfl) rfl (fun e => hne13_5 _ rfl (congrArg some e.symm))) fun _ => ?_
          refine d2_of_d1 ?_
          refine d1_of_d2 ?_
          refine d2_done (by kernel_rfl) ?_
          exact aend_join_on hJ2 v67 (holdT_anys _) ⟨.inl rfl, .inl (congrArg (fun z => some (Res.row v67 3 1 z)) (addI.trans (by rw [take_add ha5]))), trivial⟩ (by repeat (first | exact kr _ | refine kc rfl ?_)) (by repeat (first | exact kr _ | refine kc rfl ?_))
      · rintro vS
        refine aend_block ?_
        refine aend_then ?_
        refine awp_region ?_
        refine sq rfl rfl hn rfl (q_move rfl rfl) ?_
        refine sq rfl rfl hn rfl (q_add rfl rfl rfl (r := ((i + 1 : Nat) : Int)) (i64w (by omega) (by omega))) ?_
        refine sq rfl rfl hn rfl (q_assign rfl rfl) ?_
        refine run_nil ?_
        exact aend_round_on ⟨(i + 1, vS), by omega⟩ ⟨.inl rfl, holdT_anys _⟩ ⟨.inl rfl, .inl rfl, trivial⟩ (by simp only; omega) (by repeat (first | exact kr _ | refine kc rfl ?_)) (by repeat (first | exact kr _ | refine kc rfl ?_))
    · skip
      have hie : i = r.start.length := by simp at hb1; omega
      subst hie
      rw [List.take_length]
      refine awp_exit ?_
      refine aend_then_exit ?_
      refine aend_then_exit ?_
      refine aend_block_exit ?_
      refine aend_then ?_
      refine awp_seq ?_
      refine awp_seq ?_
      refine gh_awp (gh_nilcell (id := 13) (k := 2) 1031 67 6 rfl rfl) ?_
      refine gh_awp (gh_rowcell (id := 13) (k := 1) (rid := 1030) rfl rfl rfl) ?_
      refine awp_region ?_
      refine sq rfl rfl hn rfl (q_assign rfl rfl) ?_
      refine run_nil ?_
      refine aend_then ?_
      refine awp_block ?_
      refine awp_loop_on (ι := {x : Nat × Value // x.1 ≤ r.entries.length}) (fun x => (15, true, .d (.int .i64 (x.1.1 : Nat))) :: anys [69, 70, 71, 72, 73, 76, 77, 78, 79, 80, 16, 81, 82, 83, 84, 85, 86, 87, 88, 89, 90, 91, 92, 93, 94, 95, 96, 97, 98, 99, 100, 74, 75]) (fun x => (13, .box b13 26 [.d (.int .i64 r.houses), .d (ints (r.start.map (rot k n))), .val x.1.2, .d .nil]) :: (1031, .row x.1.2 67 6 (((r.entries.take x.1.1).map (renE k n)).map entE)) :: gones [16]) (fun x => r.entries.length - x.1.1) ⟨(0, _), Nat.zero_le _⟩ ⟨.inl rfl, holdT_anys _⟩ ⟨.inl rfl, .inl rfl, holdR_gones _⟩ ?_
      rintro ⟨⟨i, vE⟩, hi⟩
      dsimp only
      refine awp_seq ?_
      refine awp_seq ?_
      refine awp_region ?_
      refine sq rfl rfl hn rfl (q_move rfl rfl) ?_
      refine sq rfl rfl hn rfl (q_fieldAddr rfl rfl Try.underlying26 rfl sz23) ?_
      refine sq rfl rfl hn rfl (q_load rfl rfl (id := 5) rfl Try.underlying23 rfl rfl sees0) ?_
      refine sq rfl rfl hn rfl (q_len rfl rfl Try.underlying23) ?_
      refine sq rfl rfl hn rfl (q_lss rfl rfl rfl) ?_
      refine run_nil ?_
      refine aend_then ?_
      refine awp_cond rfl (fun hb3 => ?_) (fun hb3 => ?_)
      · skip
        have hlt : i < r.entries.length := by simp at hb3; omega
        obtain ⟨e, he⟩ := ex_get hlt
        have hen := v.en e (List.mem_of_getElem? he)
        refine awp_skip ?_
        refine aend_then ?_
        refine awp_seq ?_
        refine awp_block ?_
        refine awp_seq ?_
        refine awp_region ?_
        refine sq rfl rfl hn rfl (q_fieldAddr rfl rfl Try.underlying26 rfl sz23) ?_
        refine sq rfl rfl hn rfl (q_load rfl rfl (id := 5) rfl Try.underlying23 rfl rfl sees0) ?_
        refine sq rfl rfl hn rfl (q_move rfl rfl) ?_
        refine sq rfl rfl hn rfl (q_index (i := i) rfl rfl rfl Try.underlying23 sz67 rfl (mget he)) ?_
        refine sq rfl rfl hn rfl (q_loadpA rfl rfl Try.underlying67 rfl sz67 rfl rfl seesF0) ?_
        refine stepW (s_alloc 16 rfl rfl rfl (nb hn rfl) zr67 rfl rfl) fun b16 => ?_
        refine stepW (s_store rfl rfl rfl rfl rfl rfl (id := 16) rfl sz67 rfl (Nat.le_of_ble_eq_true rfl) rfl trivial) fun _ => ?_
        refine run_nil ?_
        refine aend_then ?_
        refine awp_seq ?_
        refine awp_join_on (e := .normal) (ι := Unit) (fun x => anys [81, 82, 83, 84, 85, 86, 87, 88, 89, 90, 91, 92, 93, 94]) (fun x => [(16, .box b16 67 [.d (.int .i64 e.kind), .d (.int .i64 e.sheet), .d (.int .i64 (rot k n e.frm)), .d (.int .i64 (rot k n e.to)), .d (.int .i64 e.lo), .d (.int .i64 e.hi)])]) (fun hJ4 => ?_) ?_
        · skip
          refine d_start (W := fun b => True) fmo ?_
          refine d1q (i := 0) rfl (by kernel_rfl) (fun _ _ _ _ h => h) rfl rfl hn rfl (q_fieldAddr rfl rfl Try.underlying67 rfl sz3) ?_
          refine d1q (i := 2) rfl (by kernel_rfl) (fun _ _ _ _ h => h) rfl rfl hn rfl (q_move rfl rfl) ?_
          refine d1q (i := 4) rfl (by kernel_rfl) (fun _ _ _ _ h => h) rfl rfl hn rfl (q_move rfl rfl) ?_
          refine d1q (i := 6) rfl (by kernel_rfl) (fun _ _ _ _ h => h) rfl rfl hn rfl (q_fieldAddr rfl rfl Try.underlying67 rfl sz3) ?_
          refine d1q (i := 8) rfl (by kernel_rfl) (fun _ _ _ _ h => h) rfl rfl hn rfl (q_move rfl rfl) ?_
          refine d1q (i := 10) rfl (by kernel_rfl) (fun _ _ _ _ h => h) rfl rfl hn rfl (q_move rfl rfl) ?_
          refine d1_of_d2 ?_
          refine d2_all 1 [7] (by kernel_rfl) ⟨?_, ?_, trivial⟩
          · skip
            refine br rfl (quiet_wg _ [] (guard_none rfl) rfl (nb hn rfl) (fun _ => trivial) (fun _ => q_load rfl rfl (id := 16) rfl Try.underlying3 rfl rfl sees0)) fun _ => ?_
            refine d2_of_d1 ?_
            refine d1q (i := 3) rfl (by kernel_rfl) (fun _ _ _ _ h => h) rfl rfl hn rfl (q_add rfl rfl rfl (r := e.frm + ((k : Nat) : Int)) (i64w (by omega) rfl)) ?_
            refine d1q (i := 5) rfl (by kernel_rfl) (fun _ _ _ _ h => h) rfl rfl hn rfl (q_rem rfl rfl rfl (r := rot k n e.frm) (by omega) (by rw [hn5]; exact rot_go (by omega))) ?_
            refine d1_of_d2 ?_
            refine d2_one (i := 7) (by kernel_rfl) rfl (quiet_wg _ [] (guard_none rfl) rfl (nb hn rfl) (fun _ => trivial) (fun _ => q_load rfl rfl (id := 16) rfl Try.underlying3 rfl rfl sees0)) fun _ => ?_
            refine d2_of_d1 ?_
            refine d1q (i := 9) rfl (by kernel_rfl) (fun _ _ _ _ h => h) rfl rfl hn rfl (q_add rfl rfl rfl (r := e.to + ((k : Nat) : Int)) (i64w (by omega) rfl)) ?_
            refine d1q (i := 11) rfl (by kernel_rfl) (fun _ _ _ _ h => h) rfl rfl hn rfl (q_rem rfl rfl rfl (r := rot k n e.to) (by omega) (by rw [hn5]; exact rot_go (by omega))) ?_
            refine d1q (i := 12) rfl (by kernel_rfl) (fun _ _ _ _ h => h) rfl rfl hn rfl (q_fieldAddr rfl rfl Try.underlying67 rfl sz3) ?_
            refine d1_of_d2 ?_
            refine d2_one (i := 13) (by kernel_rfl) rfl (s_store1 rfl rfl rfl rfl rfl rfl (id := 16) rfl sz3 (Nat.le_of_ble_eq_true rfl) rfl trivial) fun _ => ?_
            refine d2_of_d1 ?_
            refine d1q (i := 14) rfl (by kernel_rfl) (fun _ _ _ _ h => h) rfl rfl hn rfl (q_fieldAddr rfl rfl Try.underlying67 rfl sz3) ?_
            refine d1_of_d2 ?_
            refine d2_one (i := 15) (by kernel_rfl) rfl (s_store1 rfl rfl rfl rfl rfl rfl (id := 16) rfl sz3 (Nat.le_of_ble_eq_true rfl) rfl trivial) fun _ => ?_
            refine d2_of_d1 ?_
            refine d1_of_d2 ?_
            refine d2_done (by kernel_rfl) ?_
            exact aend_join_on hJ4 () (holdT_anys _) ⟨.inl rfl, trivial⟩ (by repeat (first | exact kr _ | refine kc rfl ?_)) (by repeat (first | exact kr _ | refine kc rfl ?_))
          · skip
            refine br rfl (quiet_wg _ [] (guard_none rfl) rfl (nb hn rfl) (fun _ => trivial) (fun _ => q_load rfl rfl (id := 16) rfl Try.underlying3 rfl rfl sees0)) fun _ => ?_
            refine d2_of_d1 ?_
            refine d1q (i := 9) rfl (by kernel_rfl) (fun _ _ _ _ h => h) rfl rfl hn rfl (q_add rfl rfl rfl (r := e.to + ((k : Nat) : Int)) (i64w (by omega) rfl)) ?_
            refine d1q (i := 11) rfl (by kernel_rfl) (fun _ _ _ _ h => h) rfl rfl hn rfl (q_rem rfl rfl rfl (r := rot k n e.to) (by omega) (by rw [hn5]; exact rot_go (by omega))) ?_
            refine d1_of_d2 ?_
            refine d2_one (i := 1) (by kernel_rfl) rfl (quiet_wg _ [] (guard_none rfl) rfl (nb hn rfl) (fun _ => trivial) (fun _ => q_load rfl rfl (id := 16) rfl Try.underlying3 rfl rfl sees0)) fun _ => ?_
            refine d2_of_d1 ?_
            refine d1q (i := 3) rfl (by kernel_rfl) (fun _ _ _ _ h => h) rfl rfl hn rfl (q_add rfl rfl rfl (r := e.frm + ((k : Nat) : Int)) (i64w (by omega) rfl)) ?_
            refine d1q (i := 5) rfl (by kernel_rfl) (fun _ _ _ _ h => h) rfl rfl hn rfl (q_rem rfl rfl rfl (r := rot k n e.frm) (by omega) (by rw [hn5]; exact rot_go (by omega))) ?_
            refine d1q (i := 12) rfl (by kernel_rfl) (fun _ _ _ _ h => h) rfl rfl hn rfl (q_fieldAddr rfl rfl Try.underlying67 rfl sz3) ?_
            refine d1_of_d2 ?_
            refine d2_one (i := 13) (by kernel_rfl) rfl (s_store1 rfl rfl rfl rfl rfl rfl (id := 16) rfl sz3 (Nat.le_of_ble_eq_true rfl) rfl trivial) fun _ => ?_
            refine d2_of_d1 ?_
            refine d1q (i := 14) rfl (by kernel_rfl) (fun _ _ _ _ h => h) rfl rfl hn rfl (q_fieldAddr rfl rfl Try.underlying67 rfl sz3) ?_
            refine d1_of_d2 ?_
            refine d2_one (i := 15) (by kernel_rfl) rfl (s_store1 rfl rfl rfl rfl rfl rfl (id := 16) rfl sz3 (Nat.le_of_ble_eq_true rfl) rfl trivial) fun _ => ?_
            refine d2_of_d1 ?_
            refine d1_of_d2 ?_
            refine d2_done (by kernel_rfl) ?_
            exact aend_join_on hJ4 () (holdT_anys _) ⟨.inl rfl, trivial⟩ (by repeat (first | exact kr _ | refine kc rfl ?_)) (by repeat (first | exact kr _ | refine kc rfl ?_))
        · rintro _
          refine aend_then ?_
          refine awp_region ?_
          refine sq rfl rfl hn rfl (q_fieldAddr rfl rfl Try.underlying26 rfl sz23) ?_
          refine sq rfl rfl hn rfl (q_load rfl rfl (id := 13) rfl Try.underlying23 rfl rfl sees0) ?_
          refine sq rfl rfl hn rfl (q_loadAd rfl rfl (id := 16) rfl Try.underlying67 rfl sz67 rfl rfl sees0) ?_
          refine stepW (s_buildSlice rfl rfl rfl (nb hn rfl) Try.underlying23 sz67 zr67 rfl rfl rfl (show _ = [.d (.int .i64 0), .d (.int .i64 0), .d (.int .i64 0), .d (.int .i64 0), .d (.int .i64 0), .d (.int .i64 0)] from by kernel_rfl) (by kernel_rfl) rfl (fill_agg (by kernel_rfl) rfl) (allD_d _) (beq_len rfl) (chunk_one rfl)) fun _ => ?_
          refine stepW (s_append (id := 1031) rfl rfl rfl (nb hn rfl) elt23 trivial rfl rfl rfl (by simp; omega) (by simp; omega) (fun b hb => trivial)) fun v99 => ?_
          refine sq rfl rfl hn rfl (q_fieldAddr rfl rfl Try.underlying26 rfl sz23) ?_
          refine stepW (s_storeRow rfl rfl rfl rfl rfl (rid := 1031) rfl (id := 13) rfl sz23 (Nat.le_of_ble_eq_true rfl) rfl trivial) fun _ => ?_
          refine run_nil ?_
          refine aend_block ?_
          refine aend_then ?_
          refine awp_region ?_
          refine sq rfl rfl hn rfl (q_move rfl rfl) ?_
          refine sq rfl rfl hn rfl (q_add rfl rfl rfl (r := ((i + 1 : Nat) : Int)) (i64w (by omega) (by omega))) ?_
          refine sq rfl rfl hn rfl (q_assign rfl rfl) ?_
          refine run_nil ?_
          exact aend_round_on ⟨(i + 1, v99), by omega⟩ ⟨.inl rfl, holdT_anys _⟩ ⟨.inl rfl, .inl (congrArg (fun z => some (Res.row v99 67 6 z)) ((addE (x := renE k n e)).trans (by rw [take_add he]))), holdR_gones _⟩ (by simp only; omega) (by repeat (first | exact kr _ | refine kc rfl ?_)) (by repeat (first | exact kr _ | refine kc rfl ?_))
      · skip
        have hie : i = r.entries.length := by simp at hb3; omega
        subst hie
        rw [List.take_length]
        refine awp_exit ?_
        refine aend_then_exit ?_
        refine aend_then_exit ?_
        refine aend_block_exit ?_
        refine aend_then ?_
        refine awp_seq ?_
        refine awp_seq ?_
        refine gh_awp (gh_nilcell (id := 13) (k := 3) 1032 59 3 rfl rfl) ?_
        refine gh_awp (gh_rowcell (id := 13) (k := 2) (rid := 1031) rfl rfl rfl) ?_
        refine awp_region ?_
        refine sq rfl rfl hn rfl (q_assign rfl rfl) ?_
        refine run_nil ?_
        refine aend_then ?_
        refine awp_block ?_
        refine awp_loop_on (ι := {x : Nat × Value // x.1 ≤ r.sights.length}) (fun x => (17, true, .d (.int .i64 (x.1.1 : Nat))) :: anys [101, 102, 103, 104, 105, 108, 109, 110, 111, 112, 18, 113, 114, 115, 116, 117, 118, 119, 120, 121, 122, 123, 124, 125, 106, 107]) (fun x => (13, .box b13 26 [.d (.int .i64 r.houses), .d (ints (r.start.map (rot k n))), .d (entsD (r.entries.map (renE k n))), .val x.1.2]) :: (1032, .row x.1.2 59 3 (((r.sights.take x.1.1).map (renS k n)).map sightE)) :: gones [18]) (fun x => r.sights.length - x.1.1) ⟨(0, _), Nat.zero_le _⟩ ⟨.inl rfl, holdT_anys _⟩ ⟨.inl rfl, .inl rfl, holdR_gones _⟩ ?_
        rintro ⟨⟨i, vG⟩, hi⟩
        dsimp only
        refine awp_seq ?_
        refine awp_seq ?_
        refine awp_region ?_
        refine sq rfl rfl hn rfl (q_move rfl rfl) ?_
        refine sq rfl rfl hn rfl (q_fieldAddr rfl rfl Try.underlying26 rfl sz24) ?_
        refine sq rfl rfl hn rfl (q_load rfl rfl (id := 5) rfl Try.underlying24 rfl rfl sees0) ?_
        refine sq rfl rfl hn rfl (q_len rfl rfl Try.underlying24) ?_
        refine sq rfl rfl hn rfl (q_lss rfl rfl rfl) ?_
        refine run_nil ?_
        refine aend_then ?_
        refine awp_cond rfl (fun hb5 => ?_) (fun hb5 => ?_)
        · skip
          have hlt : i < r.sights.length := by simp at hb5; omega
          obtain ⟨e, he⟩ := ex_get hlt
          have hen := v.si e (List.mem_of_getElem? he)
          refine awp_skip ?_
          refine aend_then ?_
          refine awp_seq ?_
          refine awp_block ?_
          refine awp_seq ?_
          refine awp_region ?_
          refine sq rfl rfl hn rfl (q_fieldAddr rfl rfl Try.underlying26 rfl sz24) ?_
          refine sq rfl rfl hn rfl (q_load rfl rfl (id := 5) rfl Try.underlying24 rfl rfl sees0) ?_
          refine sq rfl rfl hn rfl (q_move rfl rfl) ?_
          refine sq rfl rfl hn rfl (q_index (i := i) rfl rfl rfl Try.underlying24 sz59 rfl (mget he)) ?_
          refine sq rfl rfl hn rfl (q_loadpA rfl rfl Try.underlying59 rfl sz59 rfl rfl seesF0) ?_
          refine stepW (s_alloc 18 rfl rfl rfl (nb hn rfl) zr59 rfl rfl) fun b18 => ?_
          refine stepW (s_store rfl rfl rfl rfl rfl rfl (id := 18) rfl sz59 rfl (Nat.le_of_ble_eq_true rfl) rfl trivial) fun _ => ?_
          refine run_nil ?_
          refine aend_then ?_
          refine awp_seq ?_
          refine awp_region ?_
          refine sq rfl rfl hn rfl (q_fieldAddr rfl rfl Try.underlying59 rfl sz3) ?_
          refine sq rfl rfl hn rfl (q_load rfl rfl (id := 18) rfl Try.underlying3 rfl rfl sees0) ?_
          refine sq rfl rfl hn rfl (q_move rfl rfl) ?_
          refine sq rfl rfl hn rfl (q_add rfl rfl rfl (r := e.house + ((k : Nat) : Int)) (i64w (by omega) rfl)) ?_
          refine sq rfl rfl hn rfl (q_move rfl rfl) ?_
          refine sq rfl rfl hn rfl (q_rem rfl rfl rfl (r := rot k n e.house) (by omega) (by rw [hn5]; exact rot_go (by omega))) ?_
          refine sq rfl rfl hn rfl (q_fieldAddr rfl rfl Try.underlying59 rfl sz3) ?_
          refine stepW (s_store1 rfl rfl rfl rfl rfl rfl (id := 18) rfl sz3 (Nat.le_of_ble_eq_true rfl) rfl trivial) fun _ => ?_
          refine run_nil ?_
          refine aend_then ?_
          refine awp_region ?_
          refine sq rfl rfl hn rfl (q_fieldAddr rfl rfl Try.underlying26 rfl sz24) ?_
          refine sq rfl rfl hn rfl (q_load rfl rfl (id := 13) rfl Try.underlying24 rfl rfl sees0) ?_
          refine sq rfl rfl hn rfl (q_loadAd rfl rfl (id := 18) rfl Try.underlying59 rfl sz59 rfl rfl sees0) ?_
          refine stepW (s_buildSlice rfl rfl rfl (nb hn rfl) Try.underlying24 sz59 zr59 rfl rfl rfl (show _ = [.d (.int .i64 0), .d (.int .i64 0), .d (.int .i64 0)] from by kernel_rfl) (by kernel_rfl) rfl (fill_agg (by kernel_rfl) rfl) (allD_d _) (beq_len rfl) (chunk_one rfl)) fun _ => ?_
          refine stepW (s_append (id := 1032) rfl rfl rfl (nb hn rfl) elt24 trivial rfl rfl rfl (by simp; omega) (by simp; omega) (fun b hb => trivial)) fun v124 => ?_
          refine sq rfl rfl hn rfl (q_fieldAddr rfl rfl Try.underlying26 rfl sz24) ?_
          refine stepW (s_storeRow rfl rfl rfl rfl rfl (rid := 1032) rfl (id := 13) rfl sz24 (Nat.le_of_ble_eq_true rfl) rfl trivial) fun _ => ?_
          refine run_nil ?_
          refine aend_block ?_
          refine aend_then ?_
          refine awp_region ?_
          refine sq rfl rfl hn rfl (q_move rfl rfl) ?_
          refine sq rfl rfl hn rfl (q_add rfl rfl rfl (r := ((i + 1 : Nat) : Int)) (i64w (by omega) (by omega))) ?_
          refine sq rfl rfl hn rfl (q_assign rfl rfl) ?_
          refine run_nil ?_
          exact aend_round_on ⟨(i + 1, v124), by omega⟩ ⟨.inl rfl, holdT_anys _⟩ ⟨.inl rfl, .inl (congrArg (fun z => some (Res.row v124 59 3 z)) ((addS (x := renS k n e)).trans (by rw [take_add he]))), holdR_gones _⟩ (by simp only; omega) (by repeat (first | exact kr _ | refine kc rfl ?_)) (by repeat (first | exact kr _ | refine kc rfl ?_))
        · skip
          have hie : i = r.sights.length := by simp at hb5; omega
          subst hie
          rw [List.take_length]
          refine awp_exit ?_
          refine aend_then_exit ?_
          refine aend_then_exit ?_
          refine aend_block_exit ?_
          refine aend_then ?_
          refine awp_seq ?_
          have vx := ren_valid v hn5 hkn
          have hxl : (renR k n r).start.length = r.start.length := by simp [renR]
          have hxe : (renR k n r).entries.length = r.entries.length := by simp [renR]
          have hxg : (renR k n r).sights.length = r.sights.length := by simp [renR]
          obtain ⟨s, hs5⟩ : ∃ s, wh % r.start.length = s := ⟨_, rfl⟩
          have hsl : s < r.start.length := hs5 ▸ Nat.mod_lt _ (by omega)
          obtain ⟨a, ha5⟩ : ∃ a, wr % n = a := ⟨_, rfl⟩
          have han : a < n := ha5 ▸ Nat.mod_lt _ hn0
          obtain ⟨N, hN5⟩ : ∃ N, on % 10 = N := ⟨_, rfl⟩
          have hN9 : N ≤ 9 := by omega
          refine gh_awp (gh_rowcell (id := 13) (k := 3) (rid := 1032) rfl rfl rfl) ?_
          refine d_start (W := fun b => b ≠ b5) fmo ?_
          refine d1q (i := 0) rfl (by kernel_rfl) (fun _ _ _ _ h => h) rfl rfl hn rfl (q_move rfl rfl) ?_
          refine d1q (i := 1) rfl (by kernel_rfl) (fun _ _ _ _ h => h) rfl rfl hn rfl (q_conv rfl rfl Try.underlying5 Try.underlying3 (r := (wh : Int)) (i64w (by omega) rfl)) ?_
          refine d1q (i := 2) rfl (by kernel_rfl) (fun _ _ _ _ h => h) rfl rfl hn rfl (q_fieldAddr rfl rfl Try.underlying26 rfl sz22) ?_
          refine d1q (i := 3) rfl (by kernel_rfl) (fun _ _ _ _ h => h) rfl rfl hn rfl (q_load rfl rfl (id := 5) rfl Try.underlying22 rfl rfl (seesA (by simp))) ?_
          refine d1q (i := 4) rfl (by kernel_rfl) (fun _ _ _ _ h => h) rfl rfl hn rfl (q_len rfl rfl Try.underlying22) ?_
          refine d1q (i := 5) rfl (by kernel_rfl) (fun _ _ _ _ h => h) rfl rfl hn rfl (q_rem rfl rfl rfl (r := ((s : Nat) : Int)) (by simp only [List.length_map]; omega) (by simp only [List.length_map]; rw [← hs5]; exact modN (by omega))) ?_
          refine d1q (i := 6) rfl (by kernel_rfl) (fun _ _ _ _ h => h) rfl rfl hn rfl (q_move rfl rfl) ?_
          refine d1q (i := 7) rfl (by kernel_rfl) (fun _ _ _ _ h => h) rfl rfl hn rfl (q_conv rfl rfl Try.underlying5 Try.underlying3 (r := (wr : Int)) (i64w (by omega) rfl)) ?_
          refine d1q (i := 8) rfl (by kernel_rfl) (fun _ _ _ _ h => h) rfl rfl hn rfl (q_move rfl rfl) ?_
          refine d1q (i := 9) rfl (by kernel_rfl) (fun _ _ _ _ h => h) rfl rfl hn rfl (q_rem rfl rfl rfl (r := ((a : Nat) : Int)) (by omega) (by rw [hn5, ← ha5]; exact modN hn0)) ?_
          refine d1q (i := 10) rfl (by kernel_rfl) (fun _ _ _ _ h => h) rfl rfl hn rfl (q_move rfl rfl) ?_
          refine d1q (i := 11) rfl (by kernel_rfl) (fun _ _ _ _ h => h) rfl rfl hn rfl (q_conv rfl rfl Try.underlying5 Try.underlying3 (r := (on : Int)) (i64w (by omega) rfl)) ?_
          refine d1q (i := 12) rfl (by kernel_rfl) (fun _ _ _ _ h => h) rfl rfl hn rfl (q_rem rfl rfl rfl (r := ((N : Nat) : Int)) (by omega) (by rw [← hN5]; exact modN (b := 10) (by omega))) ?_
          refine d1q (i := 13) rfl (by kernel_rfl) (fun _ _ _ _ h => h) rfl rfl hn rfl (q_assign rfl rfl) ?_
          refine d1q (i := 14) rfl (by kernel_rfl) (fun _ _ _ _ h => h) rfl rfl hn rfl (q_assign rfl rfl) ?_
          refine d1q (i := 15) rfl (by kernel_rfl) (fun _ _ _ _ h => h) rfl rfl hn rfl (q_assign rfl rfl) ?_
          refine d1_of_d2 ?_
          refine d2_done (by kernel_rfl) ?_
          refine aend_then ?_
          refine awp_seq ?_
          refine awp_region ?_
          refine sq rfl rfl hn rfl (q_loadAd rfl rfl (id := 5) rfl Try.underlying26 rfl sz26 rfl rfl sees0) ?_
          refine stepW (s_call [] (fun _ => Register_ok r (by have h5 := v.s4; omega) (by have h5 := v.e6; omega) (by have h5 := v.g4; omega)) rfl (guard_none rfl) rfl (nb hn rfl) (fun _ => trivial) rfl rfl (.refl _)) fun _ => ?_
          refine sq rfl rfl hn rfl (q_move rfl rfl) ?_
          refine sq rfl rfl hn rfl (q_move rfl rfl) ?_
          refine stepW (s_callE (Holders_eff r (s : Nat) (N : Nat)) rfl rfl rfl (nb hn rfl) (.d rfl) rfl (.refl _) trivial (fun _ => rfl) (fun _ _ => trivial)) fun x1 => ?_
          refine sq rfl rfl hn rfl (q_move rfl rfl) ?_
          refine sq rfl rfl hn rfl (q_extractd rfl rfl rfl) ?_
          refine sq rfl rfl hn rfl (q_extractd rfl rfl rfl) ?_
          refine sq rfl rfl hn rfl (q_assign rfl rfl) ?_
          refine sq rfl rfl hn rfl (q_assign rfl rfl) ?_
          refine run_nil ?_
          refine aend_then ?_
          refine awp_seq ?_
          refine awp_region ?_
          refine sq rfl rfl hn rfl (q_loadAd rfl rfl (id := 13) rfl Try.underlying26 rfl sz26 rfl rfl sees0) ?_
          refine stepW (s_call [] (fun _ => Register_ok (renR k n r) (by omega) (by omega) (by omega)) rfl (guard_none rfl) rfl (nb hn rfl) (fun _ => trivial) rfl rfl (.refl _)) fun _ => ?_
          refine sq rfl rfl hn rfl (q_move rfl rfl) ?_
          refine sq rfl rfl hn rfl (q_move rfl rfl) ?_
          refine stepW (s_callE (Holders_eff (renR k n r) (s : Nat) (N : Nat)) rfl rfl rfl (nb hn rfl) (.d rfl) rfl (.refl _) trivial (fun _ => rfl) (fun _ _ => trivial)) fun x2 => ?_
          refine sq rfl rfl hn rfl (q_move rfl rfl) ?_
          refine sq rfl rfl hn rfl (q_extractd rfl rfl rfl) ?_
          refine sq rfl rfl hn rfl (q_extractd rfl rfl rfl) ?_
          refine sq rfl rfl hn rfl (q_assign rfl rfl) ?_
          refine sq rfl rfl hn rfl (q_assign rfl rfl) ?_
          refine run_nil ?_
          refine aend_then ?_
          refine awp_seq ?_
          refine awp_region ?_
          refine sq rfl rfl hn rfl (q_loadAd rfl rfl (id := 5) rfl Try.underlying26 rfl sz26 rfl rfl sees0) ?_
          refine stepW (s_call [] (fun _ => Register_ok r (by have h5 := v.s4; omega) (by have h5 := v.e6; omega) (by have h5 := v.g4; omega)) rfl (guard_none rfl) rfl (nb hn rfl) (fun _ => trivial) rfl rfl (.refl _)) fun _ => ?_
          refine sq rfl rfl hn rfl (q_move rfl rfl) ?_
          refine sq rfl rfl hn rfl (q_move rfl rfl) ?_
          refine stepW (s_callE (InHand_eff r (a : Nat) (N : Nat)) rfl rfl rfl (nb hn rfl) (.d rfl) rfl (.refl _) trivial (fun _ => rfl) (fun _ _ => trivial)) fun x3 => ?_
          refine sq rfl rfl hn rfl (q_move rfl rfl) ?_
          refine sq rfl rfl hn rfl (q_extractd rfl rfl rfl) ?_
          refine sq rfl rfl hn rfl (q_extractd rfl rfl rfl) ?_
          refine stepW (s_alloc 26 rfl rfl rfl (nb hn rfl) zr45 rfl rfl) fun b26 => ?_
          refine stepW (s_store rfl rfl rfl rfl rfl rfl (id := 26) rfl sz45 rfl (Nat.le_of_ble_eq_true rfl) rfl trivial) fun _ => ?_
          refine sq rfl rfl hn rfl (q_assign rfl rfl) ?_
          refine run_nil ?_
          refine aend_then ?_
          refine awp_seq ?_
          refine awp_join_on (e := .normal) (ι := Nat × AskX (renR k n r) (houseB (renR k n r) (rot k n (a : Nat))) (N : Nat)) (fun p => (28, true, .val (.pointer (some ⟨p.1, 0, none⟩))) :: (29, true, .d (.int .i64 p.2.1.2)) :: anys [164, 165, 166, 167, 168, 169, 170, 171, 172, 163, 173, 174]) (fun p => [(28, .box p.1 45 [.d (.int .i64 (heldR (renR k n r) (rot k n (a : Nat)) p.2.1.1).1), .d (.int .i64 (heldR (renR k n r) (rot k n (a : Nat)) p.2.1.1).2)])]) (fun hJ6 => ?_) ?_
          · skip
            refine d_start (W := fun b => b ≠ b13) fmo ?_
            refine d1q (i := 0) rfl (by kernel_rfl) (fun _ _ _ _ h => h) rfl rfl hn rfl (q_loadAd rfl rfl (id := 13) rfl Try.underlying26 rfl sz26 rfl rfl (seesA (by simp))) ?_
            refine d1q (i := 2) rfl (by kernel_rfl) (fun _ _ _ _ h => h) rfl rfl hn rfl (q_move rfl rfl) ?_
            refine d1q (i := 3) rfl (by kernel_rfl) (fun _ _ _ _ h => h) rfl rfl hn rfl (q_move rfl rfl) ?_
            refine d1q (i := 4) rfl (by kernel_rfl) (fun _ _ _ _ h => h) rfl rfl hn rfl (q_add rfl rfl rfl (r := ((a : Nat) : Int) + ((k : Nat) : Int)) (i64w (by omega) rfl)) ?_
            refine d1q (i := 5) rfl (by kernel_rfl) (fun _ _ _ _ h => h) rfl rfl hn rfl (q_move rfl rfl) ?_
            refine d1q (i := 6) rfl (by kernel_rfl) (fun _ _ _ _ h => h) rfl rfl hn rfl (q_rem rfl rfl rfl (r := rot k n ((a : Nat) : Int)) (by omega) (by rw [hn5]; exact rot_go (by omega))) ?_
            refine d1q (i := 7) rfl (by kernel_rfl) (fun _ _ _ _ h => h) rfl rfl hn rfl (q_move rfl rfl) ?_
            refine d1_of_d2 ?_
            refine d2_all 1 [12] (by kernel_rfl) ⟨?_, ?_, trivial⟩
            · skip
              refine br rfl (s_call [] (fun _ => Register_ok (renR k n r) (by omega) (by omega) (by omega)) rfl (guard_none rfl) rfl (nb hn rfl) (fun _ => trivial) rfl rfl (.refl _)) fun _ => ?_
              refine d2_of_d1 ?_
              refine d1_of_d2 ?_
              refine d2_all 8 [12] (by kernel_rfl) ⟨?_, ?_, trivial⟩
              · skip
                refine br rfl (s_callE (InHand_eff (renR k n r) (rot k n (a : Nat)) (N : Nat)) rfl rfl rfl (nb hn rfl) (.d rfl) rfl (.refl _) trivial (fun _ => rfl) (fun _ h => no_blks h)) fun x4 => ?_
                refine d2_of_d1 ?_
                refine d1q (i := 9) rfl (by kernel_rfl) (fun _ _ _ _ h => h) rfl rfl hn rfl (q_move rfl rfl) ?_
                refine d1q (i := 10) rfl (by kernel_rfl) (fun _ _ _ _ h => h) rfl rfl hn rfl (q_extractd rfl rfl rfl) ?_
                refine d1q (i := 11) rfl (by kernel_rfl) (fun _ _ _ _ h => h) rfl rfl hn rfl (q_extractd rfl rfl rfl) ?_
                refine d1_of_d2 ?_
                refine d2_one (i := 12) (by kernel_rfl) rfl (s_alloc 28 rfl rfl rfl (nb hn rfl) zr45 rfl rfl) fun b28 => ?_
                refine d2_of_d1 ?_
                refine d1_of_d2 ?_
                refine g_ne_d2 (i := 28) (j := 13) rfl rfl rfl (fun hne28_13 => ?_)
                refine d2_one (i := 13) (by kernel_rfl) rfl (s_store rfl rfl rfl rfl rfl rfl (id := 28) rfl sz45 rfl (Nat.le_of_ble_eq_true rfl) rfl (fun e => hne28_13 _ rfl (congrArg some e.symm))) fun _ => ?_
                refine d2_of_d1 ?_
                refine d1q (i := 14) rfl (by kernel_rfl) (fun _ _ _ _ h => h) rfl rfl hn rfl (q_assign rfl rfl) ?_
                refine d1_of_d2 ?_
                refine d2_done (by kernel_rfl) ?_
                exact aend_join_on hJ6 (b28, x4) ⟨.inl rfl, .inl rfl, holdT_anys _⟩ ⟨.inl rfl, trivial⟩ (by repeat (first | exact kr _ | refine kc rfl ?_)) (by repeat (first | exact kr _ | refine kc rfl ?_))
              · skip
                refine br rfl (s_alloc 28 rfl rfl rfl (nb hn rfl) zr45 rfl rfl) fun b28 => ?_
                refine d2_of_d1 ?_
                refine d1_of_d2 ?_
                refine d2_one (i := 8) (by kernel_rfl) rfl (s_callE (InHand_eff (renR k n r) (rot k n (a : Nat)) (N : Nat)) rfl rfl rfl (nb hn rfl) (.d rfl) rfl (.refl _) trivial (fun _ => rfl) (fun _ h => no_blks h)) fun x4 => ?_
                refine d2_of_d1 ?_
                refine d1q (i := 9) rfl (by kernel_rfl) (fun _ _ _ _ h => h) rfl rfl hn rfl (q_move rfl rfl) ?_
                refine d1q (i := 10) rfl (by kernel_rfl) (fun _ _ _ _ h => h) rfl rfl hn rfl (q_extractd rfl rfl rfl) ?_
                refine d1q (i := 11) rfl (by kernel_rfl) (fun _ _ _ _ h => h) rfl rfl hn rfl (q_extractd rfl rfl rfl) ?_
                refine d1_of_d2 ?_
                refine g_ne_d2 (i := 28) (j := 13) rfl rfl rfl (fun hne28_13 => ?_)
                refine d2_one (i := 13) (by kernel_rfl) rfl (s_store rfl rfl rfl rfl rfl rfl (id := 28) rfl sz45 rfl (Nat.le_of_ble_eq_true rfl) rfl (fun e => hne28_13 _ rfl (congrArg some e.symm))) fun _ => ?_
                refine d2_of_d1 ?_
                refine d1q (i := 14) rfl (by kernel_rfl) (fun _ _ _ _ h => h) rfl rfl hn rfl (q_assign rfl rfl) ?_
                refine d1_of_d2 ?_
                refine d2_done (by kernel_rfl) ?_
                exact aend_join_on hJ6 (b28, x4) ⟨.inl rfl, .inl rfl, holdT_anys _⟩ ⟨.inl rfl, trivial⟩ (by repeat (first | exact kr _ | refine kc rfl ?_)) (by repeat (first | exact kr _ | refine kc rfl ?_))
            · skip
              refine br rfl (s_alloc 28 rfl rfl rfl (nb hn rfl) zr45 rfl rfl) fun b28 => ?_
              refine d2_of_d1 ?_
              refine d1_of_d2 ?_
              refine d2_one (i := 1) (by kernel_rfl) rfl (s_call [] (fun _ => Register_ok (renR k n r) (by omega) (by omega) (by omega)) rfl (guard_none rfl) rfl (nb hn rfl) (fun _ => trivial) rfl rfl (.refl _)) fun _ => ?_
              refine d2_of_d1 ?_
              refine d1_of_d2 ?_
              refine d2_one (i := 8) (by kernel_rfl) rfl (s_callE (InHand_eff (renR k n r) (rot k n (a : Nat)) (N : Nat)) rfl rfl rfl (nb hn rfl) (.d rfl) rfl (.refl _) trivial (fun _ => rfl) (fun _ h => no_blks h)) fun x4 => ?_
              refine d2_of_d1 ?_
              refine d1q (i := 9) rfl (by kernel_rfl) (fun _ _ _ _ h => h) rfl rfl hn rfl (q_move rfl rfl) ?_
              refine d1q (i := 10) rfl (by kernel_rfl) (fun _ _ _ _ h => h) rfl rfl hn rfl (q_extractd rfl rfl rfl) ?_
              refine d1q (i := 11) rfl (by kernel_rfl) (fun _ _ _ _ h => h) rfl rfl hn rfl (q_extractd rfl rfl rfl) ?_
              refine d1_of_d2 ?_
              refine g_ne_d2 (i := 28) (j := 13) rfl rfl rfl (fun hne28_13 => ?_)
              refine d2_one (i := 13) (by kernel_rfl) rfl (s_store rfl rfl rfl rfl rfl rfl (id := 28) rfl sz45 rfl (Nat.le_of_ble_eq_true rfl) rfl (fun e => hne28_13 _ rfl (congrArg some e.symm))) fun _ => ?_
              refine d2_of_d1 ?_
              refine d1q (i := 14) rfl (by kernel_rfl) (fun _ _ _ _ h => h) rfl rfl hn rfl (q_assign rfl rfl) ?_
              refine d1_of_d2 ?_
              refine d2_done (by kernel_rfl) ?_
              exact aend_join_on hJ6 (b28, x4) ⟨.inl rfl, .inl rfl, holdT_anys _⟩ ⟨.inl rfl, trivial⟩ (by repeat (first | exact kr _ | refine kc rfl ?_)) (by repeat (first | exact kr _ | refine kc rfl ?_))
          · rintro ⟨b28, x4⟩
            dsimp only
            refine aend_then ?_
            refine awp_seq ?_
            refine awp_region ?_
            refine sq rfl rfl hn rfl (q_loadAd rfl rfl (id := 5) rfl Try.underlying26 rfl sz26 rfl rfl sees0) ?_
            refine stepW (s_call [] (fun _ => Register_ok r (by have h5 := v.s4; omega) (by have h5 := v.e6; omega) (by have h5 := v.g4; omega)) rfl (guard_none rfl) rfl (nb hn rfl) (fun _ => trivial) rfl rfl (.refl _)) fun _ => ?_
            refine stepW (s_call [] (fun _ => (by have := leave_ok r; rw [(leave_law v).1] at this; exact this)) rfl (guard_none rfl) rfl (nb hn rfl) (fun _ => trivial) rfl rfl (.refl _)) fun _ => ?_
            refine sq rfl rfl hn rfl (q_move rfl rfl) ?_
            refine sq rfl rfl hn rfl (q_extractd rfl rfl rfl) ?_
            refine sq rfl rfl hn rfl (q_extractd rfl rfl rfl) ?_
            refine sq rfl rfl hn rfl (q_assign rfl rfl) ?_
            refine sq rfl rfl hn rfl (q_assign rfl rfl) ?_
            refine run_nil ?_
            refine aend_then ?_
            refine awp_seq ?_
            refine awp_region ?_
            refine sq rfl rfl hn rfl (q_loadAd rfl rfl (id := 13) rfl Try.underlying26 rfl sz26 rfl rfl sees0) ?_
            refine stepW (s_call [] (fun _ => Register_ok (renR k n r) (by omega) (by omega) (by omega)) rfl (guard_none rfl) rfl (nb hn rfl) (fun _ => trivial) rfl rfl (.refl _)) fun _ => ?_
            refine stepW (s_call [] (fun _ => (by have := leave_ok (renR k n r); rw [(leave_law vx).1, ren_leave v hn5 hkn] at this; exact this)) rfl (guard_none rfl) rfl (nb hn rfl) (fun _ => trivial) rfl rfl (.refl _)) fun _ => ?_
            refine sq rfl rfl hn rfl (q_move rfl rfl) ?_
            refine sq rfl rfl hn rfl (q_extractd rfl rfl rfl) ?_
            refine sq rfl rfl hn rfl (q_extractd rfl rfl rfl) ?_
            refine sq rfl rfl hn rfl (q_assign rfl rfl) ?_
            refine sq rfl rfl hn rfl (q_assign rfl rfl) ?_
            refine run_nil ?_
            refine aend_then ?_
            refine awp_seq ?_
            refine awp_seq ?_
            obtain ⟨f2, f3, f4, f1, fh, fl, fm⟩ := ren_ans v hn5 hkn hN9 hsl han x1.2 x2.2 x3.2 x4.2
            have flen : (holdR r (s : Nat) x1.1.1).length ≤ n := bd_len (strict_nodup (comp_sorted (sort_sorted _).1).1) fun x hx => (fm x hx).1
            rw [f2, f3, f4, fh]
            refine awp_region ?_
            refine sq rfl rfl hn rfl (q_move rfl rfl) ?_
            refine sq rfl rfl hn rfl (q_move rfl rfl) ?_
            refine sq rfl rfl hn rfl (q_neq rfl rfl rfl) ?_
            refine sq rfl rfl hn rfl (q_move rfl rfl) ?_
            refine stepG [] (guard_some rfl rfl rfl) rfl (nb hn rfl) (fun hc => trivial) (fun hc => q_move rfl rfl) ?_
            refine stepG [] (guard_some rfl rfl rfl) rfl (nb hn rfl) (fun hc => trivial) (fun hc => q_move rfl rfl) ?_
            refine stepG [(191, _), (192, _)] (guard_some rfl rfl rfl) rfl (nb hn rfl) (fun hc => ⟨⟨_, rfl, hc⟩, ⟨_, rfl, hc⟩, trivial⟩) (fun hc => q_neq rfl rfl rfl) ?_
            refine sq rfl rfl hn rfl (q_or rfl rfl rfl (by intro hB; first | (rw [hB]; rfl) | (rw [hB, hc]; rfl) | simp_all)) ?_
            refine sq rfl rfl hn rfl (q_move rfl rfl) ?_
            refine stepG [] (guard_some rfl rfl rfl) rfl (nb hn rfl) (fun hc => trivial) (fun hc => q_move rfl rfl) ?_
            refine stepG [] (guard_some rfl rfl rfl) rfl (nb hn rfl) (fun hc => trivial) (fun hc => q_move rfl rfl) ?_
            refine stepG [(196, _), (197, _)] (guard_some rfl rfl rfl) rfl (nb hn rfl) (fun hc => ⟨⟨_, rfl, hc⟩, ⟨_, rfl, hc⟩, trivial⟩) (fun hc => q_neq rfl rfl rfl) ?_
            refine sq rfl rfl hn rfl (q_or rfl rfl rfl (by intro hB; first | (rw [hB]; rfl) | (rw [hB, hc]; rfl) | simp_all)) ?_
            refine sq rfl rfl hn rfl (q_move rfl rfl) ?_
            refine stepG [] (guard_some rfl rfl rfl) rfl (nb hn rfl) (fun hc => trivial) (fun hc => q_move rfl rfl) ?_
            refine stepG [(201, _)] (guard_some rfl rfl rfl) rfl (nb hn rfl) (fun hc => ⟨⟨_, rfl, hc⟩, trivial⟩) (fun hc => q_neq rfl rfl rfl) ?_
            refine stepG [(202, _)] (guard_some rfl rfl rfl) rfl (nb hn rfl) (fun hc => ⟨⟨_, rfl, hc⟩, trivial⟩) (fun hc => q_move rfl rfl) ?_
            refine stepG [] (guard_some rfl rfl rfl) rfl (nb hn rfl) (fun hc => trivial) (fun hc => q_move rfl rfl) ?_
            refine stepG [(204, _)] (guard_some rfl rfl rfl) rfl (nb hn rfl) (fun hc => ⟨⟨_, rfl, hc⟩, trivial⟩) (fun hc => q_neq rfl rfl rfl) ?_
            refine stepG [(203, _)] (guard_some rfl rfl rfl) rfl (nb hn rfl) (fun hc => ⟨⟨_, rfl, hc⟩, trivial⟩) (fun hc => q_and rfl rfl rfl (by intro hB; first | (rw [hB]; rfl) | (rw [hB, hc]; rfl) | simp_all)) ?_
            refine sq rfl rfl hn rfl (q_or rfl rfl rfl (by intro hB; first | (rw [hB]; rfl) | (rw [hB, hc]; rfl) | simp_all)) ?_
            refine sq rfl rfl hn rfl (q_move rfl rfl) ?_
            refine stepG [] (guard_some rfl rfl rfl) rfl (nb hn rfl) (fun hc => trivial) (fun hc => q_loadAd rfl rfl (id := 26) rfl Try.underlying45 rfl sz45 rfl rfl sees0) ?_
            refine stepG [] (guard_some rfl rfl rfl) rfl (nb hn rfl) (fun hc => trivial) (fun hc => q_loadAd rfl rfl (id := 28) rfl Try.underlying45 rfl sz45 rfl rfl sees0) ?_
            refine stepG [(209, _), (210, _)] (guard_some rfl rfl rfl) rfl (nb hn rfl) (fun hc => ⟨⟨_, rfl, hc⟩, ⟨_, rfl, hc⟩, trivial⟩) (fun hc => q_neq45 rfl rfl rfl) ?_
            refine sq rfl rfl hn rfl (q_or rfl rfl rfl (by intro hB; first | (rw [hB]; rfl) | (rw [hB, hc]; rfl) | simp_all)) ?_
            refine sq rfl rfl hn rfl (q_move rfl rfl) ?_
            refine stepG [] (guard_some rfl rfl rfl) rfl (nb hn rfl) (fun hc => trivial) (fun hc => q_move rfl rfl) ?_
            refine stepG [(214, _)] (guard_some rfl rfl rfl) rfl (nb hn rfl) (fun hc => ⟨⟨_, rfl, hc⟩, trivial⟩) (fun hc => q_neq rfl rfl rfl) ?_
            refine sq rfl rfl hn rfl (q_or rfl rfl rfl (by intro hB; first | (rw [hB]; rfl) | (rw [hB, hc]; rfl) | simp_all)) ?_
            refine sq rfl rfl hn rfl (q_move rfl rfl) ?_
            refine stepG [] (guard_some rfl rfl rfl) rfl (nb hn rfl) (fun hc => trivial) (fun hc => q_move rfl rfl) ?_
            refine stepG [(218, _)] (guard_some rfl rfl rfl) rfl (nb hn rfl) (fun hc => ⟨⟨_, rfl, hc⟩, trivial⟩) (fun hc => q_neq rfl rfl rfl) ?_
            refine sq rfl rfl hn rfl (q_or rfl rfl rfl (by intro hB; first | (rw [hB]; rfl) | (rw [hB, hc]; rfl) | simp_all)) ?_
            refine sq rfl rfl hn rfl (q_move rfl rfl) ?_
            refine stepG [] (guard_some rfl rfl rfl) rfl (nb hn rfl) (fun hc => trivial) (fun hc => q_move rfl rfl) ?_
            refine stepG [] (guard_some rfl rfl rfl) rfl (nb hn rfl) (fun hc => trivial) (fun hc => q_move rfl rfl) ?_
            refine stepW (s_call [(222, _), (223, _)] (fun hc => Same_ok (leaveR r).1 (leaveR r).1) rfl (guard_some rfl rfl rfl) rfl (nb hn rfl) (fun hc => ⟨⟨_, rfl, hc⟩, ⟨_, rfl, hc⟩, trivial⟩) rfl rfl (.refl _)) fun _ => ?_
            refine stepG [(224, _)] (guard_some rfl rfl rfl) rfl (nb hn rfl) (fun hc => ⟨⟨_, rfl, hc⟩, trivial⟩) (fun hc => q_not rfl rfl) ?_
            refine sq rfl rfl hn rfl (q_or rfl rfl rfl (by intro hB; first | (rw [hB]; rfl) | (rw [hB, hc]; rfl) | simp_all)) ?_
            refine sq rfl rfl hn rfl (q_move rfl rfl) ?_
            refine stepG [] (guard_some rfl rfl rfl) rfl (nb hn rfl) (fun hc => trivial) (fun hc => q_move rfl rfl) ?_
            refine stepG [(228, _)] (guard_some rfl rfl rfl) rfl (nb hn rfl) (fun hc => ⟨⟨_, rfl, hc⟩, trivial⟩) (fun hc => q_len rfl rfl Try.underlying22) ?_
            refine stepG [] (guard_some rfl rfl rfl) rfl (nb hn rfl) (fun hc => trivial) (fun hc => q_move rfl rfl) ?_
            refine stepG [(230, _)] (guard_some rfl rfl rfl) rfl (nb hn rfl) (fun hc => ⟨⟨_, rfl, hc⟩, trivial⟩) (fun hc => q_len rfl rfl Try.underlying22) ?_
            refine stepG [(229, _), (231, _)] (guard_some rfl rfl rfl) rfl (nb hn rfl) (fun hc => ⟨⟨_, rfl, hc⟩, ⟨_, rfl, hc⟩, trivial⟩) (fun hc => q_neq rfl rfl rfl) ?_
            refine sq rfl rfl hn rfl (q_or rfl rfl rfl (by intro hB; first | (rw [hB]; rfl) | (rw [hB, hc]; rfl) | simp_all)) ?_
            refine run_nil ?_
            refine aend_then ?_
            refine awp_cond rfl (fun hb7 => ?_) (fun hb7 => ?_)
            · skip
              exfalso; rcases f1 with f1 | f1 <;> simp [f1, fl, sameB_self] at hb7
            · skip
              refine awp_skip ?_
              refine aend_then ?_
              refine awp_seq ?_
              refine awp_seq ?_
              refine awp_region ?_
              refine sq rfl rfl hn rfl (q_assign rfl rfl) ?_
              refine run_nil ?_
              refine aend_then ?_
              refine awp_block ?_
              refine awp_loop_on (ι := {i : Nat // i ≤ (holdR r (s : Nat) x1.1.1).length}) (fun x => (34, true, .d (.int .i64 (x.1 : Nat))) :: anys [234, 235, 236, 237, 240, 241, 242, 243, 244, 245, 246, 247, 248, 249, 250, 238, 239]) (fun x => []) (fun x => (holdR r (s : Nat) x1.1.1).length - x.1) ⟨0, Nat.zero_le _⟩ ⟨.inl rfl, holdT_anys _⟩ trivial ?_
              rintro ⟨i, hi⟩
              dsimp only
              refine awp_seq ?_
              refine awp_seq ?_
              refine awp_region ?_
              refine sq rfl rfl hn rfl (q_move rfl rfl) ?_
              refine sq rfl rfl hn rfl (q_move rfl rfl) ?_
              refine sq rfl rfl hn rfl (q_len rfl rfl Try.underlying22) ?_
              refine sq rfl rfl hn rfl (q_lss rfl rfl rfl) ?_
              refine run_nil ?_
              refine aend_then ?_
              refine awp_cond rfl (fun hb8 => ?_) (fun hb8 => ?_)
              · skip
                have hlt : i < (holdR r (s : Nat) x1.1.1).length := by simp at hb8; omega
                obtain ⟨y, hy⟩ := ex_get hlt
                have fy := fm y (List.mem_of_getElem? hy)
                refine awp_skip ?_
                refine aend_then ?_
                refine awp_seq ?_
                refine awp_block ?_
                refine awp_seq ?_
                refine awp_region ?_
                refine sq rfl rfl hn rfl (q_move rfl rfl) ?_
                refine sq rfl rfl hn rfl (q_move rfl rfl) ?_
                refine sq rfl rfl hn rfl (q_move rfl rfl) ?_
                refine sq rfl rfl hn rfl (q_index (i := i) rfl rfl rfl Try.underlying22 sz3 rfl (mget hy)) ?_
                refine sq rfl rfl hn rfl (q_loadp rfl rfl Try.underlying3 rfl seesF0) ?_
                refine sq rfl rfl hn rfl (q_move rfl rfl) ?_
                refine sq rfl rfl hn rfl (q_add rfl rfl rfl (r := y + ((k : Nat) : Int)) (i64w (by omega) rfl)) ?_
                refine sq rfl rfl hn rfl (q_move rfl rfl) ?_
                refine sq rfl rfl hn rfl (q_rem rfl rfl rfl (r := rot k n y) (by omega) (by rw [hn5]; exact rot_go (by omega))) ?_
                refine stepW (s_call [] (fun _ => has5_ok _ _) rfl (guard_none rfl) rfl (nb hn rfl) (fun _ => trivial) rfl rfl (.refl _)) fun _ => ?_
                refine sq rfl rfl hn rfl (q_not rfl rfl) ?_
                refine run_nil ?_
                refine aend_then ?_
                refine awp_cond rfl (fun hb9 => ?_) (fun hb9 => ?_)
                · skip
                  exfalso; rw [fy.2] at hb9; simp at hb9
                · skip
                  refine awp_skip ?_
                  refine aend_block ?_
                  refine aend_then ?_
                  refine awp_region ?_
                  refine sq rfl rfl hn rfl (q_move rfl rfl) ?_
                  refine sq rfl rfl hn rfl (q_add rfl rfl rfl (r := ((i + 1 : Nat) : Int)) (i64w (by omega) (by omega))) ?_
                  refine sq rfl rfl hn rfl (q_assign rfl rfl) ?_
                  refine run_nil ?_
                  exact aend_round_on ⟨i + 1, by omega⟩ ⟨.inl rfl, holdT_anys _⟩ trivial (by simp only; omega) (by repeat (first | exact kr _ | refine kc rfl ?_)) (by repeat (first | exact kr _ | refine kc rfl ?_))
              · skip
                refine awp_exit ?_
                refine aend_then_exit ?_
                refine aend_then_exit ?_
                refine aend_block_exit ?_
                refine aend_then ?_
                refine awp_seq ?_
                refine awp_region ?_
                refine stepW (s_call [] (fun _ => awake_ok) rfl (guard_none rfl) rfl (nb hn rfl) (fun _ => trivial) rfl rfl (.refl _)) fun _ => ?_
                refine sq rfl rfl hn rfl (q_assign rfl rfl) ?_
                refine run_nil ?_
                refine aend_then ?_
                refine awp_ret ?_
                exact ret_E (.inl rfl) () (hands_1 rfl (.tmp rfl)) trivial
end Go.Proofs.Ytnbmmopjkkofoaa
namespace Go.Proofs.Ytnbmmopjkkofoaa
open Go.ChangeShapes Go.WideShapes Go.ChangeAt Go.RowKit
set_option linter.all false
theorem SheetRenamed_pure (xs : List D) (h : Sat [SReg, SU8, SU8, SU8, SU8] xs) : PureAt Try.prog 10 xs (.bool true) := by
  obtain ⟨_, _, rfl, ⟨a1, rfl, h1⟩, _, _, rfl, ⟨a2, rfl, h2⟩, _, _, rfl, ⟨a3, rfl, h3⟩, _, _, rfl, ⟨a4, rfl, h4⟩, _, _, rfl, ⟨a5, rfl, h5⟩, rfl⟩ := h
  exact PureAt.of_eff (ds := [regD a1, .int .u8 (a2 : Nat), .int .u8 (a3 : Nat), .int .u8 (a4 : Nat), .int .u8 (a5 : Nat)]) (SheetRenamed_eff a1 a2 a3 a4 a5 h2 h3 h4 h5)
set_option maxRecDepth 100000 in
theorem sheetRenamed_lifted (os : Os) (started : os.Started) (H : Type) (enc : TypeId × Value → H) :
    ReturnsInHanded {} Try.checked os 10 .any (Rows.sheetRenamedSpec.pre6 enc Try.prog Try.f10 Rows.sheetRenamedRow.domain false) (Rows.sheetRenamedSpec.post enc Try.prog Try.f10 false true false false) := by
  refine returnsInHanded_of_change_sized (C := Try.checked) own started (by kernel_rfl) Try.func10
    (ChangeSpec.witness6 (enc := enc) (C := Try.checked) false ⟨#[], #[.agg #[.int .i64 0, .slice none 0 0, .slice none 0 0, .slice none 0 0], .int .u8 0, .int .u8 0, .int .u8 0, .int .u8 0], []⟩ 8 (by kernel_rfl) (by kernel_rfl) (by kernel_rfl) (by kernel_rfl)) ?_
  intro W base args ds gs before hval hW _ hz _
  exact law_contract (ts := [26, 5, 5, 5, 5]) (Ss := [SReg, SU8, SU8, SU8, SU8]) laidOut (by rw [Try.params10]) (by kernel_rfl) (by kernel_rfl) Try.underlying4 rfl rfl
    (fun ds h => by match ds, h with | [d1, d2, d3, d4, d5], _ => rfl) ⟨pReg, pU8, pU8, pU8, pU8, trivial⟩ SheetRenamed_pure W base args ds gs before hval hW hz
theorem sheetRenamed_holds : Rows.SheetRenamedSaid :=
  OpenClaim.holds_of_wide 10 Try.f10 rfl rfl rfl rfl rfl rfl rfl ⟨rfl, rfl, rfl, rfl, rfl⟩ rfl rfl rfl rfl rfl (by kernel_rfl) Try.func10 (by kernel_rfl)
    (of_decide_eq_true (by kernel_rfl)) (by unfold Func.isWrapper; first | (rw [if_pos (by decide +kernel)]; kernel_rfl) | (rw [if_neg (by decide +kernel)]; exact ⟨rfl, rfl⟩))
    (fun os started H enc _ => sheetRenamed_lifted os started H enc)
end Go.Proofs.Ytnbmmopjkkofoaa
