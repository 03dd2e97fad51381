/-
  The law SheetNames returns true for every input, and leaves its arguments as they were: the given statement, whole. No condition.
-/
import Derived.Laws.StructEq
import Derived.Test.YtnbmmopjkkofoaaSheetNamesH
namespace Go.Proofs.Ytnbmmopjkkofoaa
open Go.RowKit
set_option maxRecDepth 20000
set_option linter.all false
theorem eq45 (a b c d : Int) (w : World) : (binOp .eql 45 (.agg #[.int .i64 a, .int .i64 b]) (.agg #[.int .i64 c, .int .i64 d])).run Try.prog w = .ok (.bool (a == c && b == d)) w := by
  have u3 := Try.underlying3
  have a3 := Try.isAgg3
  have z3 := Try.sizeOf3
  have hS : Try.prog.underlying 45 = some (.struct (Try.prog.fieldsOf 45)) := by kernel_rfl
  have hp : Try.prog.stoodInHeld 45 = false := by kernel_rfl
  rw [run_eql_struct, show (10000 : Nat) = 9999 + 1 from rfl, run_equalIn_agg w 9999 45 _ _ hS hp]
  simp only [Program.fieldsOf, Try.underlying45]
  go_simp
  by_cases h1 : a = c <;> by_cases h2 : b = d <;> simp [h1, h2]
theorem guard45 (op : BinOp) (x y : Operand) (xs ys : Array Value) (w : World) : (eqGuard op 45 x y (.agg xs) (.agg ys)).run Try.prog w = .ok () w := run_eqGuard_agg w op 45 x y xs ys (by kernel_rfl)
theorem q_eql45 {Γ : Cx} {σ : St} {o : Oper} {R : Rel} {x y : Operand} {t' : TypeId} {a b c d : Int} (h : o.op = .binOp .eql 45 x y t') (hx : σ.ev x = some (true, .d (.agg [.int .i64 a, .int .i64 b]))) (hy : σ.ev y = some (true, .d (.agg [.int .i64 c, .int .i64 d]))) :
    QV Γ Try.prog σ o R (.d (.bool (a == c && b == d))) := fun A w F hs => by
  obtain ⟨vs, e1, h1, _⟩ := hs.ev hx
  obtain ⟨us, e2, h2, _⟩ := hs.ev hy
  obtain ⟨v1, vs1, rfl, q1, v2, vs2, rfl, q2, q3⟩ := h1
  obtain ⟨u1, us1, rfl, p1, u2, us2, rfl, p2, p3⟩ := h2
  simp only [Rep, RepVals] at q1 q2 q3 p1 p2 p3
  subst q1 q2 q3 p1 p2 p3
  exact ⟨.bool (a == c && b == d), rfl, fun w' _ => by
    simp only [execOp, h, e1, e2, Sem.run_bind, guard45, Result.andThen_ok, eq45, Sem.run_pure]⟩
abbrev L0 : Reg := loanR [] []
theorem L0_check : checkE L0 = 0 := by kernel_rfl
theorem L0_hold : refHolders L0 (allDays L0) 0 2 3 = [0, 1, 2] := by kernel_rfl
theorem L0_sure : refSurely (allDays L0) 2 4 2 = [0] := by kernel_rfl
theorem L0_inhand : refInHand L0 (allDays L0) 1 3 = (0, 2) := by kernel_rfl
theorem L0_owed : refOwed (allDays L0) 0 1 3 = (0, 1) := by kernel_rfl
theorem L0_ne : (allDays L0).isEmpty = false := by kernel_rfl
theorem L1_first : firstR (loanR astrayL []) = (3, 0) := by kernel_rfl
theorem L1_leave : leaveR (loanR astrayL []) = ([3], 0) := by kernel_rfl
theorem ask_ok {r : Reg} {is : Bool} {N : Nat} {out : List Nat} {e : Int} (v : Valid r) (his : is = true) (hN : N ≤ 9) (h : AskP r is (N : Nat) out e) : EvOK r N out ∧ e = if allDays r = [] then 9 else 0 := by
  have h0 := checkE_of v
  rcases h with ⟨k, _, _⟩ | ⟨_, k, _⟩ | ⟨_, _, n, hn, h9, hev, he⟩
  · exact (k h0).elim
  · rw [his] at k; simp [dayB] at k; omega
  · obtain rfl : N = n := by omega
    refine ⟨hev, he.trans ?_⟩
    by_cases ho : out = []
    · rw [if_pos ((ev_nil v hN hev).1 ho), ho]; rfl
    · rw [if_neg (fun e => ho ((ev_nil v hN hev).2 e))]
      cases out with
      | nil => exact (ho rfl).elim
      | cons _ _ => rfl
theorem L0_valid : Valid L0 := valid_of L0_check
theorem L0_all : allDays L0 ≠ [] := fun e => by have := L0_ne; rw [e] at this; cases this
theorem L0_ask {is : Bool} {N : Nat} {out : List Nat} {e : Int} (his : is = true) (hN : N ≤ 9) (h : AskP L0 is (N : Nat) out e) : EvOK L0 N out ∧ e = 0 ∧ out ≠ [] := by
  obtain ⟨h1, h2⟩ := ask_ok L0_valid his hN h
  rw [if_neg L0_all] at h2
  exact ⟨h1, h2, fun e => L0_all ((ev_nil L0_valid hN h1).1 e)⟩
theorem aw_hold (x : AskX L0 (sheetB L0 0) 2) : x.1.2 = 0 ∧ holdR L0 0 x.1.1 = [0, 1, 2] := by
  obtain ⟨h1, h2, h3⟩ := L0_ask (N := 2) rfl (by omega) x.2
  exact ⟨h2, (holders_eq (N := 2) (s := 0) L0_valid (by omega) (by decide) h1).trans L0_hold⟩
theorem aw_sure (x : AskX L0 (houseB L0 2) 4) : x.1.2 = 0 ∧ surelyR L0 2 x.1.1 = [0] := by
  obtain ⟨h1, h2, h3⟩ := L0_ask (N := 4) rfl (by omega) x.2
  exact ⟨h2, (surely_eq L0_valid (by omega) h3 h1).trans L0_sure⟩
theorem aw_held (x : AskX L0 (houseB L0 1) 3) : x.1.2 = 0 ∧ heldR L0 1 x.1.1 = (0, 2) := by
  obtain ⟨h1, h2, h3⟩ := L0_ask (N := 3) rfl (by omega) x.2
  exact ⟨h2, (held_eq L0_valid (by omega) h3 h1).trans L0_inhand⟩
theorem aw_owed (x : AskX L0 (houseB L0 0 && houseB L0 1) 3) : x.1.2 = 0 ∧ owedR L0 0 1 x.1.1 = (0, 1) := by
  obtain ⟨h1, h2, h3⟩ := L0_ask (N := 3) rfl (by omega) x.2
  exact ⟨h2, (owed_eq (a := 0) (b := 1) L0_valid (by omega) (by omega) (by omega) h3 h1).trans L0_owed⟩
theorem prove_of {r : Reg} {t : List Int} {ds : List Nat} (v : Valid r) (T : Truth r t ds) : proveB r t = true := by
  unfold proveB
  rw [checkE_of v, T.dated, T.play]
  simp [T.seen]
theorem aw_expl (x : ExplX L0) : x.1.2 = 0 ∧ proveB L0 x.1.1 = true := by
  have h0 := L0_check
  rcases x.2 with ⟨k, _⟩ | ⟨_, k, _⟩ | ⟨_, _, h, _, n, m, hp⟩
  · exact (k h0).elim
  · rw [(goes_all_iff L0_valid).2 L0_all] at k; cases k
  · obtain ⟨ds, T⟩ := truth_of_path L0_valid hp
    exact ⟨h, prove_of L0_valid T⟩
theorem awake_eff  : EffAt Try.prog 15 [] [] (X := Unit) (fun _ => .d (.bool true)) (fun _ => []) := by
  refine EffAt.of_awp Try.func15 rfl (by kernel_rfl) rfl fun Γ hn => ?_
  refine awp_seq ?_
  refine awp_region ?_
  refine sq rfl rfl hn rfl (q_assign rfl rfl) ?_
  refine run_nil ?_
  refine aend_then ?_
  refine awp_seq ?_
  refine awp_region ?_
  refine stepW (s_call [] (fun _ => loan_ok [] [] (by simp)) rfl (guard_none rfl) rfl (nb hn rfl) (fun _ => trivial) rfl rfl (by first | exact .refl _ | (repeat (first | exact .refl _ | exact .nil _ | refine .cons ?_ ?_ | refine .agg ?_ | refine .tup ?_)))) fun _ => ?_
  refine stepW (s_callE (Holders_eff L0 0 2) rfl rfl rfl (nb hn rfl) (.d rfl) rfl (.refl _) trivial (fun _ => rfl) (fun _ _ => trivial)) fun x1 => ?_
  obtain ⟨he1, hh1⟩ := aw_hold x1
  rw [he1, hh1]
  refine sq rfl rfl hn rfl (q_move rfl rfl) ?_
  refine sq rfl rfl hn rfl (q_extractd rfl rfl rfl) ?_
  refine sq rfl rfl hn rfl (q_extractd rfl rfl rfl) ?_
  refine sq rfl rfl hn rfl (q_assign rfl rfl) ?_
  refine sq rfl rfl hn rfl (q_assign rfl rfl) ?_
  refine run_nil ?_
  refine aend_then ?_
  refine awp_seq ?_
  refine awp_region ?_
  refine stepW (s_call [] (fun _ => loan_ok [] [] (by simp)) rfl (guard_none rfl) rfl (nb hn rfl) (fun _ => trivial) rfl rfl (by first | exact .refl _ | (repeat (first | exact .refl _ | exact .nil _ | refine .cons ?_ ?_ | refine .agg ?_ | refine .tup ?_)))) fun _ => ?_
  refine stepW (s_callE (InHand_eff L0 1 3) rfl rfl rfl (nb hn rfl) (.d rfl) rfl (.refl _) trivial (fun _ => rfl) (fun _ _ => trivial)) fun x2 => ?_
  obtain ⟨he2, hh2⟩ := aw_held x2
  rw [he2, hh2]
  refine sq rfl rfl hn rfl (q_move rfl rfl) ?_
  refine sq rfl rfl hn rfl (q_extractd rfl rfl rfl) ?_
  refine sq rfl rfl hn rfl (q_extractd rfl rfl rfl) ?_
  refine stepW (s_alloc 3 rfl rfl rfl (nb hn rfl) zr45 rfl rfl) fun b3 => ?_
  refine stepW (s_store rfl rfl rfl rfl rfl rfl (id := 3) rfl sz45 rfl (Nat.le_of_ble_eq_true rfl) rfl trivial) fun _ => ?_
  refine sq rfl rfl hn rfl (q_assign rfl rfl) ?_
  refine run_nil ?_
  refine aend_then ?_
  refine awp_seq ?_
  refine awp_region ?_
  refine stepW (s_call [] (fun _ => loan_ok [] [] (by simp)) rfl (guard_none rfl) rfl (nb hn rfl) (fun _ => trivial) rfl rfl (by first | exact .refl _ | (repeat (first | exact .refl _ | exact .nil _ | refine .cons ?_ ?_ | refine .agg ?_ | refine .tup ?_)))) fun _ => ?_
  refine stepW (s_callE (Owed_eff L0 0 1 3) rfl rfl rfl (nb hn rfl) (.d rfl) rfl (.refl _) trivial (fun _ => rfl) (fun _ _ => trivial)) fun x3 => ?_
  obtain ⟨he3, hh3⟩ := aw_owed x3
  rw [he3, hh3]
  refine sq rfl rfl hn rfl (q_move rfl rfl) ?_
  refine sq rfl rfl hn rfl (q_extractd rfl rfl rfl) ?_
  refine sq rfl rfl hn rfl (q_extractd rfl rfl rfl) ?_
  refine stepW (s_alloc 5 rfl rfl rfl (nb hn rfl) zr45 rfl rfl) fun b5 => ?_
  refine stepW (s_store rfl rfl rfl rfl rfl rfl (id := 5) rfl sz45 rfl (Nat.le_of_ble_eq_true rfl) rfl trivial) fun _ => ?_
  refine sq rfl rfl hn rfl (q_assign rfl rfl) ?_
  refine run_nil ?_
  refine aend_then ?_
  refine awp_seq ?_
  refine awp_region ?_
  refine stepW (s_call [] (fun _ => loan_ok [] [] (by simp)) rfl (guard_none rfl) rfl (nb hn rfl) (fun _ => trivial) rfl rfl (by first | exact .refl _ | (repeat (first | exact .refl _ | exact .nil _ | refine .cons ?_ ?_ | refine .agg ?_ | refine .tup ?_)))) fun _ => ?_
  refine stepW (s_callE (Surely_eff L0 2 4) rfl rfl rfl (nb hn rfl) (.d rfl) rfl (.refl _) trivial (fun _ => rfl) (fun _ _ => trivial)) fun x4 => ?_
  obtain ⟨he4, hh4⟩ := aw_sure x4
  rw [he4, hh4]
  refine sq rfl rfl hn rfl (q_move rfl rfl) ?_
  refine sq rfl rfl hn rfl (q_extractd rfl rfl rfl) ?_
  refine sq rfl rfl hn rfl (q_extractd rfl rfl rfl) ?_
  refine sq rfl rfl hn rfl (q_assign rfl rfl) ?_
  refine sq rfl rfl hn rfl (q_assign rfl rfl) ?_
  refine run_nil ?_
  refine aend_then ?_
  refine awp_seq ?_
  refine awp_region ?_
  refine stepW (s_call [] (fun _ => astray_ok) rfl (guard_none rfl) rfl (nb hn rfl) (fun _ => trivial) rfl rfl (.refl _)) fun _ => ?_
  refine stepW (s_call [] (fun _ => loan_ok astrayL [] (by decide)) rfl (guard_none rfl) rfl (nb hn rfl) (fun _ => trivial) rfl rfl (by first | exact .refl _ | (repeat (first | exact .refl _ | exact .nil _ | refine .cons ?_ ?_ | refine .agg ?_ | refine .tup ?_)))) fun _ => ?_
  refine stepW (s_call [] (fun _ => (by have := leave_ok (loanR astrayL []); rw [L1_leave] at this; exact this)) rfl (guard_none rfl) rfl (nb hn rfl) (fun _ => trivial) rfl rfl (.refl _)) fun _ => ?_
  refine sq rfl rfl hn rfl (q_move rfl rfl) ?_
  refine sq rfl rfl hn rfl (q_extractd rfl rfl rfl) ?_
  refine sq rfl rfl hn rfl (q_extractd rfl rfl rfl) ?_
  refine sq rfl rfl hn rfl (q_assign rfl rfl) ?_
  refine sq rfl rfl hn rfl (q_assign rfl rfl) ?_
  refine run_nil ?_
  refine aend_then ?_
  refine awp_seq ?_
  refine awp_region ?_
  refine stepW (s_call [] (fun _ => astray_ok) rfl (guard_none rfl) rfl (nb hn rfl) (fun _ => trivial) rfl rfl (.refl _)) fun _ => ?_
  refine stepW (s_call [] (fun _ => loan_ok astrayL [] (by decide)) rfl (guard_none rfl) rfl (nb hn rfl) (fun _ => trivial) rfl rfl (by first | exact .refl _ | (repeat (first | exact .refl _ | exact .nil _ | refine .cons ?_ ?_ | refine .agg ?_ | refine .tup ?_)))) fun _ => ?_
  refine stepW (s_call [] (fun _ => (by have := first_ok (loanR astrayL []); rw [L1_first] at this; exact this)) rfl (guard_none rfl) rfl (nb hn rfl) (fun _ => trivial) rfl rfl (.refl _)) fun _ => ?_
  refine sq rfl rfl hn rfl (q_move rfl rfl) ?_
  refine sq rfl rfl hn rfl (q_extractd rfl rfl rfl) ?_
  refine sq rfl rfl hn rfl (q_extractd rfl rfl rfl) ?_
  refine sq rfl rfl hn rfl (q_assign rfl rfl) ?_
  refine sq rfl rfl hn rfl (q_assign rfl rfl) ?_
  refine run_nil ?_
  refine aend_then ?_
  refine awp_seq ?_
  refine awp_region ?_
  refine stepW (s_call [] (fun _ => loan_ok [] [] (by simp)) rfl (guard_none rfl) rfl (nb hn rfl) (fun _ => trivial) rfl rfl (by first | exact .refl _ | (repeat (first | exact .refl _ | exact .nil _ | refine .cons ?_ ?_ | refine .agg ?_ | refine .tup ?_)))) fun _ => ?_
  refine stepW (s_callE (explain_ok L0) rfl rfl rfl (nb hn rfl) (.d rfl) rfl (.refl _) trivial (fun _ => rfl) (fun _ _ => trivial)) fun x7 => ?_
  obtain ⟨he7, hh7⟩ := aw_expl x7
  rw [he7]
  refine sq rfl rfl hn rfl (q_move rfl rfl) ?_
  refine sq rfl rfl hn rfl (q_extractd rfl rfl rfl) ?_
  refine sq rfl rfl hn rfl (q_extractd rfl rfl rfl) ?_
  refine sq rfl rfl hn rfl (q_assign rfl rfl) ?_
  refine sq rfl rfl hn rfl (q_assign rfl rfl) ?_
  refine run_nil ?_
  refine aend_then ?_
  refine awp_seq ?_
  refine awp_region ?_
  refine sq rfl rfl hn rfl (q_move rfl rfl) ?_
  refine sq rfl rfl hn rfl (q_eql rfl rfl rfl) ?_
  refine sq rfl rfl hn rfl (q_move rfl rfl) ?_
  refine stepG [] (guard_some rfl rfl rfl) rfl (nb hn rfl) (fun hc => trivial) (fun hc => q_move rfl rfl) ?_
  refine stepW (s_guard (guard_some rfl rfl rfl) rfl (nb hn rfl) (s_buildSlice rfl rfl rfl (nb hn rfl) Try.underlying22 sz3 zr3 rfl rfl rfl (show _ = [.d (.int .i64 0), .d (.int .i64 0), .d (.int .i64 0)] from by kernel_rfl) (by kernel_rfl) rfl rfl rfl rfl rfl)) fun _ => ?_
  refine stepW (s_call [(55, _), (56, _)] (fun hc => Same_ok [0, 1, 2] [0, 1, 2]) rfl (guard_some rfl rfl rfl) rfl (nb hn rfl) (fun hc => ⟨⟨_, rfl, hc⟩, ⟨_, rfl, hc⟩, trivial⟩) rfl rfl (.refl _)) fun _ => ?_
  refine sq rfl rfl hn rfl (q_and rfl rfl rfl (by simp_all)) ?_
  refine sq rfl rfl hn rfl (q_move rfl rfl) ?_
  refine stepG [] (guard_some rfl rfl rfl) rfl (nb hn rfl) (fun hc => trivial) (fun hc => q_move rfl rfl) ?_
  refine stepG [(60, _)] (guard_some rfl rfl rfl) rfl (nb hn rfl) (fun hc => ⟨⟨_, rfl, hc⟩, trivial⟩) (fun hc => q_eql rfl rfl rfl) ?_
  refine sq rfl rfl hn rfl (q_and rfl rfl rfl (by simp_all)) ?_
  refine sq rfl rfl hn rfl (q_move rfl rfl) ?_
  refine stepG [] (guard_some rfl rfl rfl) rfl (nb hn rfl) (fun hc => trivial) (fun hc => q_loadAd rfl rfl (id := 3) rfl Try.underlying45 rfl sz45 rfl rfl sees0) ?_
  refine stepG [] (guard_some rfl rfl rfl) rfl (nb hn rfl) (fun hc => trivial) (fun hc => q_buildd rfl bt45 rfl rfl rfl rfl rfl) ?_
  refine stepG [(64, _), (65, _)] (guard_some rfl rfl rfl) rfl (nb hn rfl) (fun hc => ⟨⟨_, rfl, hc⟩, ⟨_, rfl, hc⟩, trivial⟩) (fun hc => q_eql45 rfl rfl rfl) ?_
  refine sq rfl rfl hn rfl (q_and rfl rfl rfl (by simp_all)) ?_
  refine sq rfl rfl hn rfl (q_move rfl rfl) ?_
  refine stepG [] (guard_some rfl rfl rfl) rfl (nb hn rfl) (fun hc => trivial) (fun hc => q_move rfl rfl) ?_
  refine stepG [(69, _)] (guard_some rfl rfl rfl) rfl (nb hn rfl) (fun hc => ⟨⟨_, rfl, hc⟩, trivial⟩) (fun hc => q_eql rfl rfl rfl) ?_
  refine sq rfl rfl hn rfl (q_and rfl rfl rfl (by simp_all)) ?_
  refine sq rfl rfl hn rfl (q_move rfl rfl) ?_
  refine stepG [] (guard_some rfl rfl rfl) rfl (nb hn rfl) (fun hc => trivial) (fun hc => q_loadAd rfl rfl (id := 5) rfl Try.underlying45 rfl sz45 rfl rfl sees0) ?_
  refine stepG [] (guard_some rfl rfl rfl) rfl (nb hn rfl) (fun hc => trivial) (fun hc => q_buildd rfl bt45 rfl rfl rfl rfl rfl) ?_
  refine stepG [(73, _), (74, _)] (guard_some rfl rfl rfl) rfl (nb hn rfl) (fun hc => ⟨⟨_, rfl, hc⟩, ⟨_, rfl, hc⟩, trivial⟩) (fun hc => q_eql45 rfl rfl rfl) ?_
  refine sq rfl rfl hn rfl (q_and rfl rfl rfl (by simp_all)) ?_
  refine sq rfl rfl hn rfl (q_move rfl rfl) ?_
  refine stepG [] (guard_some rfl rfl rfl) rfl (nb hn rfl) (fun hc => trivial) (fun hc => q_move rfl rfl) ?_
  refine stepG [(78, _)] (guard_some rfl rfl rfl) rfl (nb hn rfl) (fun hc => ⟨⟨_, rfl, hc⟩, trivial⟩) (fun hc => q_eql rfl rfl rfl) ?_
  refine sq rfl rfl hn rfl (q_and rfl rfl rfl (by simp_all)) ?_
  refine sq rfl rfl hn rfl (q_move rfl rfl) ?_
  refine stepG [] (guard_some rfl rfl rfl) rfl (nb hn rfl) (fun hc => trivial) (fun hc => q_move rfl rfl) ?_
  refine stepW (s_guard (guard_some rfl rfl rfl) rfl (nb hn rfl) (s_buildSlice rfl rfl rfl (nb hn rfl) Try.underlying22 sz3 zr3 rfl rfl rfl (show _ = [.d (.int .i64 0)] from by kernel_rfl) (by kernel_rfl) rfl rfl rfl rfl rfl)) fun _ => ?_
  refine stepW (s_call [(82, _), (83, _)] (fun hc => Same_ok [0] [0]) rfl (guard_some rfl rfl rfl) rfl (nb hn rfl) (fun hc => ⟨⟨_, rfl, hc⟩, ⟨_, rfl, hc⟩, trivial⟩) rfl rfl (.refl _)) fun _ => ?_
  refine sq rfl rfl hn rfl (q_and rfl rfl rfl (by simp_all)) ?_
  refine sq rfl rfl hn rfl (q_move rfl rfl) ?_
  refine stepG [] (guard_some rfl rfl rfl) rfl (nb hn rfl) (fun hc => trivial) (fun hc => q_move rfl rfl) ?_
  refine stepG [(87, _)] (guard_some rfl rfl rfl) rfl (nb hn rfl) (fun hc => ⟨⟨_, rfl, hc⟩, trivial⟩) (fun hc => q_eql rfl rfl rfl) ?_
  refine sq rfl rfl hn rfl (q_and rfl rfl rfl (by simp_all)) ?_
  refine sq rfl rfl hn rfl (q_move rfl rfl) ?_
  refine stepG [] (guard_some rfl rfl rfl) rfl (nb hn rfl) (fun hc => trivial) (fun hc => q_move rfl rfl) ?_
  refine stepW (s_guard (guard_some rfl rfl rfl) rfl (nb hn rfl) (s_buildSlice rfl rfl rfl (nb hn rfl) Try.underlying22 sz3 zr3 rfl rfl rfl (show _ = [.d (.int .i64 0)] from by kernel_rfl) (by kernel_rfl) rfl rfl rfl rfl rfl)) fun _ => ?_
  refine stepW (s_call [(91, _), (92, _)] (fun hc => Same_ok [3] [3]) rfl (guard_some rfl rfl rfl) rfl (nb hn rfl) (fun hc => ⟨⟨_, rfl, hc⟩, ⟨_, rfl, hc⟩, trivial⟩) rfl rfl (.refl _)) fun _ => ?_
  refine sq rfl rfl hn rfl (q_and rfl rfl rfl (by simp_all)) ?_
  refine sq rfl rfl hn rfl (q_move rfl rfl) ?_
  refine stepG [] (guard_some rfl rfl rfl) rfl (nb hn rfl) (fun hc => trivial) (fun hc => q_move rfl rfl) ?_
  refine stepG [(96, _)] (guard_some rfl rfl rfl) rfl (nb hn rfl) (fun hc => ⟨⟨_, rfl, hc⟩, trivial⟩) (fun hc => q_eql rfl rfl rfl) ?_
  refine sq rfl rfl hn rfl (q_and rfl rfl rfl (by simp_all)) ?_
  refine sq rfl rfl hn rfl (q_move rfl rfl) ?_
  refine stepG [] (guard_some rfl rfl rfl) rfl (nb hn rfl) (fun hc => trivial) (fun hc => q_move rfl rfl) ?_
  refine stepG [(100, _)] (guard_some rfl rfl rfl) rfl (nb hn rfl) (fun hc => ⟨⟨_, rfl, hc⟩, trivial⟩) (fun hc => q_eql rfl rfl rfl) ?_
  refine sq rfl rfl hn rfl (q_and rfl rfl rfl (by simp_all)) ?_
  refine sq rfl rfl hn rfl (q_move rfl rfl) ?_
  refine stepG [] (guard_some rfl rfl rfl) rfl (nb hn rfl) (fun hc => trivial) (fun hc => q_move rfl rfl) ?_
  refine stepG [(104, _)] (guard_some rfl rfl rfl) rfl (nb hn rfl) (fun hc => ⟨⟨_, rfl, hc⟩, trivial⟩) (fun hc => q_eql rfl rfl rfl) ?_
  refine sq rfl rfl hn rfl (q_and rfl rfl rfl (by simp_all)) ?_
  refine sq rfl rfl hn rfl (q_move rfl rfl) ?_
  refine stepW (s_call [] (fun hc => loan_ok [] [] (by simp)) rfl (guard_some rfl rfl rfl) rfl (nb hn rfl) (fun hc => trivial) rfl rfl (by first | exact .refl _ | (repeat (first | exact .refl _ | exact .nil _ | refine .cons ?_ ?_ | refine .agg ?_ | refine .tup ?_)))) fun _ => ?_
  refine stepG [] (guard_some rfl rfl rfl) rfl (nb hn rfl) (fun hc => trivial) (fun hc => q_move rfl rfl) ?_
  refine stepW (s_call [(108, _), (109, _)] (fun hc => ProveTruth_ok L0 x7.1.1) rfl (guard_some rfl rfl rfl) rfl (nb hn rfl) (fun hc => ⟨⟨_, rfl, hc⟩, ⟨_, rfl, hc⟩, trivial⟩) rfl rfl (.refl _)) fun _ => ?_
  refine sq rfl rfl hn rfl (q_and rfl rfl rfl (by simp_all)) ?_
  refine sq rfl rfl hn rfl (q_assign rfl rfl) ?_
  refine run_nil ?_
  refine aend_then ?_
  refine awp_ret ?_
  exact ret_E (.inl rfl) () ((hands_1 rfl (.tmp rfl)).eq (by simp [hh7, sameB_self])) trivial
end Go.Proofs.Ytnbmmopjkkofoaa
namespace Go.Proofs.Ytnbmmopjkkofoaa
open Go.RowKit
set_option maxRecDepth 20000
set_option linter.all false
theorem awake_ok : PureAt Try.prog 15 [] (.bool true) := PureAt.of_eff (ds := []) awake_eff
end Go.Proofs.Ytnbmmopjkkofoaa
namespace Go.Proofs.Ytnbmmopjkkofoaa
set_option linter.all false
/-- There is a truth. -/
def hasT (r : Reg) : Prop := goesB r 0 0 0 = true
theorem expl_full {r : Reg} (v : Valid r) (x : ExplX r) : (hasT r ∧ x.1.2 = 0 ∧ ∃ ds, Truth r x.1.1 ds) ∨ (¬ hasT r ∧ x.1.2 = 9 ∧ x.1.1 = []) := by
  have h0 := checkE_of v
  rcases x.2 with ⟨k, _⟩ | ⟨_, k, e⟩ | ⟨_, k, h, _, n, m, hp⟩
  · exact (k h0).elim
  · right
    rw [e]
    refine ⟨fun h => ?_, rfl, rfl⟩
    have h' : goesB r 0 0 0 = true := h
    rw [k] at h'
    cases h'
  · exact .inl ⟨k, h, truth_of_path v hp⟩
theorem expl_err {r : Reg} (v : Valid r) (x : ExplX r) : (x.1.2 = 0 ↔ hasT r) ∧ (x.1.2 = 9 ↔ ¬ hasT r) ∧ (x.1.2 = 0 ∨ x.1.2 = 9) := by
  rcases expl_full v x with ⟨h, e, _⟩ | ⟨h, e, _⟩
  · exact ⟨⟨fun _ => h, fun _ => e⟩, ⟨fun k => (by rw [e] at k; cases k), fun k => (k h).elim⟩, .inl e⟩
  · exact ⟨⟨fun k => (by rw [e] at k; cases k), fun k => (h k).elim⟩, ⟨fun _ => h, fun _ => e⟩, .inr e⟩
/-- An increasing list of numbers below S, from f on. -/
def Inc (f S : Nat) (m : List Int) : Prop := m.Pairwise (· < ·) ∧ ∀ x ∈ m, (f : Int) ≤ x ∧ x < (S : Int)
theorem Inc.tail {f S : Nat} {x : Int} {m : List Int} (h : Inc f S (x :: m)) : Inc (x.toNat + 1) S m := by
  obtain ⟨h1, h2⟩ := h
  rw [List.pairwise_cons] at h1
  refine ⟨h1.2, fun y hy => ?_⟩
  have k1 := h1.1 y hy
  have k2 := h2 y (List.mem_cons_of_mem _ hy)
  have k3 := h2 x List.mem_cons_self
  omega
theorem Inc.mono {f g S : Nat} {m : List Int} (h : Inc f S m) (hg : g ≤ f) : Inc g S m := ⟨h.1, fun x hx => by have := h.2 x hx; omega⟩
theorem Inc.nil (f S : Nat) : Inc f S [] := ⟨List.Pairwise.nil, fun _ h => by cases h⟩
end Go.Proofs.Ytnbmmopjkkofoaa
namespace Go.Proofs.Ytnbmmopjkkofoaa
open Go.RowKit
set_option linter.all false
section
variable {Γ : Cx} {P : Program} {σ : St} {o : Oper} {R : Rel}
end
section
variable {Γ : Cx} {P : Program} {σ : St} {o : Oper} {R : Rel}
end
section
variable {Γ : Cx} {P : Program} {σ : St} {ops : Array Oper} {o : Oper} {Q : Exit → Act → World → Prop} {W : Nat → Prop}
theorem s_buildVec {t e : TypeId} {len sz dt : Nat} {parts : Array (Nat × Operand)} {z : Value} {zc : Array Value} {zs cs : List TV} {ps : List (Nat × TV)} (id : Nat) (h : o.op = .buildSlice t len parts)
    (hg : o.guard = none) (hd : o.dst = some dt) (hn : Nat.blt dt Γ.n = true) (ht : P.underlying t = some (.slice e)) (hsz : Sz P e sz) (hzero : (P.info? e).map (·.zero) = some (some z))
    (hsmall : Nat.ble (len * sz) 16777216 = true) (hzc : ((Array.range (len * sz)).map ((if len * sz = 0 then #[] else z.cells)[· % (if len * sz = 0 then #[] else z.cells).size]!)) = zc)
    (hz : zc.toList.map constTV = zs) (h1 : zc.toList.all (·.oneCell') = true) (hp : pevs σ parts.toList = some ps) (hf : fillTV (fun i => some (i * sz, sz)) zs ps = some cs) :
    StepW Γ P ops σ o W fun b : Nat => (σ.put dt true (.val (.slice (some ⟨b, 0, none⟩) len len))).rput id (.box b e cs) := fun a w F hs K Q hK => by
  rw [if_pos (plain_wanted hg a)]
  have h24 : (2 : Nat) ^ 24 = 16777216 := by decide
  have hsm := Nat.le_of_ble_eq_true hsmall
  obtain ⟨k1, k2⟩ := hs.pevs hp
  obtain ⟨vs', g1, g2, g3⟩ := fill_ok (w := w) (F := F) (place := fun i => some (i * sz, sz)) (vs := zc) k1 k2 (by rw [← hz]; exact treps_const _) (List.all_eq_true.1 h1) hf
  have hrun := run_buildSlice' (parts := parts.map fun (i, x) => (i, a.eval x)) (cells := vs') w ht hsz hzero (by rw [h24]; exact hsm) hzc (by rw [← g1]; simp)
  have hex : (execOp a.eval o).run P w = .ok (.value (.slice (some ⟨w.heap.size, 0, none⟩) len len)) (w.alloc (.cells vs' e)) := by
    simp only [execOp, h, Sem.run_bind, hrun, Result.andThen_ok, Sem.run_pure]
  unfold Oper.wp
  rw [hex]
  show K (a.put o.dst _) _
  rw [hd]
  exact hK w.heap.size _ _ F ((hs.newBox (ty := e) id g2 g3).put (blt_lt hn) (fun _ => rfl) (fun h => by cases h)) (fun _ _ h => h) (by simp) ((Grow.alloc hs.fcell _).agree (fun _ e => by cases e))
/-- Such a slice in a box's cell, read as data. -/
theorem gh_veccell {id b k rid b2 n cap sz : Nat} {bt e : TypeId} {cs rest : List TV} {ds : List D} {es : List (List D)} (hb : σ.rget id = some (.box b bt cs)) (hk : cs[k]? = some (.val (.slice (some ⟨b2, 0, none⟩) n cap)))
    (hr : σ.rget rid = some (.box b2 e (ds.map .d ++ rest))) (hne : Nat.beq rid id = false) (hl : ds.length = n * sz) (he : chunk sz n ds = es) (hcap : n ≤ cap) (hcm : cap ≤ maxLen) :
    Ghost Γ σ ((σ.rput rid .gone).rput id (.box b bt (cs.set k (.d (.slice sz es))))) := fun a w F hs => by
  obtain ⟨F', h1, h2, h3⟩ := hs.freezeK hr
  obtain ⟨k1, k2, k3⟩ := chunk_flat sz n ds hl
  rw [he] at k1 k2 k3
  have hne' : rid ≠ id := fun h => by rw [h, Nat.beq_refl] at hne; cases hne
  refine ⟨F', ?_, h2⟩
  exact h1.reread (by rw [rget_rput, if_neg hne']; exact hb) (fun vs hv => hv.get_set fun u hu => by
    obtain ⟨u', hu', hr'⟩ := hv.get hk
    rw [hu'] at hu; cases hu
    simp only [TRep] at hr'
    subst hr'
    exact ⟨_, cap, by rw [k2], by rw [k2]; exact hcap, hcm, .inr ⟨b2, 0, rfl, RepRows.flat.2 ⟨k3, by rw [k1]; exact h3⟩⟩⟩)
end
end Go.Proofs.Ytnbmmopjkkofoaa
namespace Go.Proofs.Ytnbmmopjkkofoaa
open Go.RowKit
set_option maxRecDepth 20000
set_option linter.all false
theorem map_take {α β : Type} {l : List α} {f : α → β} {n : Nat} : (l.map f).take n = (l.take n).map f := by simp
end Go.Proofs.Ytnbmmopjkkofoaa
namespace Go.Proofs.Ytnbmmopjkkofoaa
set_option linter.all false
/-- Two lists, element by element. -/
def Pt {α β : Type} (R : α → β → Prop) : List α → List β → Prop
  | [], [] => True
  | a :: as', b :: bs => R a b ∧ Pt R as' bs
  | _, _ => False
theorem Pt.refl {α : Type} {R : α → α → Prop} (h : ∀ a, R a a) : ∀ l : List α, Pt R l l
  | [] => trivial
  | a :: l => ⟨h a, Pt.refl h l⟩
theorem Pt.imp {α β : Type} {R S : α → β → Prop} (h : ∀ a b, R a b → S a b) : ∀ {l : List α} {l' : List β}, Pt R l l' → Pt S l l'
  | [], [], _ => trivial
  | _ :: _, _ :: _, ⟨h1, h2⟩ => ⟨h _ _ h1, Pt.imp h h2⟩
  | [], _ :: _, h => h.elim
  | _ :: _, [], h => h.elim
theorem Pt.len {α β : Type} {R : α → β → Prop} : ∀ {l : List α} {l' : List β}, Pt R l l' → l'.length = l.length
  | [], [], _ => rfl
  | _ :: _, _ :: _, ⟨_, h⟩ => by simp [Pt.len h]
  | [], _ :: _, h => h.elim
  | _ :: _, [], h => h.elim
theorem Pt.get {α β : Type} {R : α → β → Prop} : ∀ {l : List α} {l' : List β} {i : Nat} {a : α}, Pt R l l' → l[i]? = some a → ∃ b, l'[i]? = some b ∧ R a b
  | [], [], _, _, _, h => by simp at h
  | a :: l, b :: l', 0, x, ⟨h1, _⟩, h => by
    simp only [List.getElem?_cons_zero, Option.some.injEq] at h
    subst h
    exact ⟨b, rfl, h1⟩
  | a :: l, b :: l', i + 1, x, ⟨_, h2⟩, h => Pt.get (i := i) h2 (by simpa using h)
  | [], _ :: _, _, _, h, _ => h.elim
  | _ :: _, [], _, _, h, _ => h.elim
theorem Pt.drop {α β : Type} {R : α → β → Prop} {out : List Int} : ∀ {k : Nat} {l : List α} {l' : List β}, Pt R l l' → Pt R (dropF out k l) (dropF out k l')
  | _, [], [], _ => trivial
  | k, a :: l, b :: l', ⟨h1, h2⟩ => by
    simp only [dropF]
    cases out.any (fun n => (k : Int) == n)
    · exact ⟨h1, Pt.drop h2⟩
    · exact Pt.drop h2
  | _, [], _ :: _, h => h.elim
  | _, _ :: _, [], h => h.elim
theorem Pt.map {α β γ : Type} {R : α → β → Prop} {f : γ → α} {g : γ → β} (h : ∀ c, R (f c) (g c)) : ∀ l : List γ, Pt R (l.map f) (l.map g)
  | [] => trivial
  | c :: l => ⟨h c, Pt.map h l⟩
theorem Pt.and {α β : Type} {R S : α → β → Prop} : ∀ {l : List α} {l' : List β}, Pt R l l' → Pt S l l' → Pt (fun a b => R a b ∧ S a b) l l'
  | [], [], _, _ => trivial
  | _ :: _, _ :: _, ⟨h1, h2⟩, ⟨k1, k2⟩ => ⟨⟨h1, k1⟩, Pt.and h2 k2⟩
  | [], _ :: _, h, _ => h.elim
  | _ :: _, [], h, _ => h.elim
def SameWay (e e' : Ent5) : Prop := e'.sheet = e.sheet ∧ e'.frm = e.frm ∧ e'.to = e.to
def Wide (e e' : Ent5) : Prop := e'.lo ≤ e.lo ∧ e.hi ≤ e'.hi
def SameKind (e e' : Ent5) : Prop := e'.kind = e.kind
/-- What is a truth of the first register is one of the second. -/
structure Loose (r x : Reg) : Prop where
  st : x.start = r.start
  way : Pt SameWay r.entries x.entries
  wide : Pt Wide r.entries x.entries
  kind : Pt SameKind r.entries x.entries ∨ ∀ e ∈ x.entries, e.kind ≠ 2
  si : ∀ s ∈ x.sights, s ∈ r.sights
theorem comeF_same {d : Nat} {s : Int} : ∀ {k : Nat} {es es' : List Ent5} {c : List Int}, Pt SameWay es es' → comeF d s k es' c = comeF d s k es c
  | _, [], [], _, _ => rfl
  | k, e :: es, e' :: es', c, ⟨⟨h1, h2, h3⟩, h⟩ => by
    simp only [comeF, h1, h2, h3]
    exact comeF_same h
  | _, [], _ :: _, _, h => h.elim
  | _, _ :: _, [], _, h => h.elim
theorem places_same {r x : Reg} (hs : x.start = r.start) (h : Pt SameWay r.entries x.entries) (m : Nat) : placesA x m = placesA r m := by
  unfold placesA placesL
  rw [hs]
  congr 1
  funext j
  unfold placeN placeOf
  rw [hs, comeF_same h]
theorem openF_same {d : Nat} {a b : Int} : ∀ {k : Nat} {es es' : List Ent5} {n : Int}, Pt SameWay es es' → Pt SameKind es es' → openF d a b k es' n = openF d a b k es n
  | _, [], [], _, _, _ => rfl
  | k, e :: es, e' :: es', c, ⟨⟨h1, h2, h3⟩, h⟩, ⟨q, hq⟩ => by
    have q' : e'.kind = e.kind := q
    simp only [openF, h2, h3, q']
    exact openF_same h hq
  | _, [], _ :: _, _, h, _ => h.elim
  | _, _ :: _, [], _, h, _ => h.elim
theorem open_same {r x : Reg} (h : Pt SameWay r.entries x.entries) (q : Pt SameKind r.entries x.entries) (m : Nat) (a b : Int) : openN x m a b = openN r m a b := openF_same h q
theorem Loose.can {r x : Reg} (h : Loose r x) {k m : Nat} (hc : canB r k m = true) : canB x k m = true := by
  unfold canB at hc ⊢
  cases he : r.entries[k]? with
  | none => rw [he] at hc; cases hc
  | some e =>
    rw [he] at hc
    obtain ⟨e', he', h1, h2, h3⟩ := h.way.get he
    rw [he']
    dsimp only at hc ⊢
    unfold canE at hc ⊢
    rw [places_same h.st h.way, h1, h2]
    simp only [Bool.and_eq_true, Bool.or_eq_true] at hc ⊢
    refine ⟨hc.1, ?_⟩
    rcases h.kind with q | q
    · obtain ⟨e2, he2, q2⟩ := q.get he
      rw [he'] at he2
      cases he2
      have q3 : e'.kind = e.kind := q2
      rw [q3, open_same h.way q, h3]
      exact hc.2
    · exact .inl (by simpa using q e' (List.mem_of_getElem? he'))
theorem Loose.day {r x : Reg} (h : Loose r x) {n : Int} : ∀ {ts : List Int} {k m m' : Nat}, dayF r n k ts m = some m' → dayF x n k ts m = some m'
  | [], _, _, _, hd => hd
  | t :: ts, k, m, m', hd => by
    simp only [dayF] at hd ⊢
    cases hb : t != n with
    | true => rw [hb] at hd; exact h.day hd
    | false =>
      rw [hb] at hd
      simp only [cond_false] at hd ⊢
      cases hc : canB r k m with
      | false => rw [hc] at hd; cases hd
      | true =>
        rw [hc] at hd
        rw [h.can hc]
        exact h.day hd
theorem Loose.play {r x : Reg} (h : Loose r x) {t : List Int} : ∀ {c n m : Nat} {ds : List Nat}, playF r t c n m = some ds → playF x t c n m = some ds
  | 0, _, _, _, hp => hp
  | c + 1, n, m, ds, hp => by
    rw [playF] at hp ⊢
    split at hp
    · cases hp
    · rename_i d1 h1
      split at hp
      · cases hp
      · rename_i ds1 h2
        cases hp
        rw [h.day h1]
        simp only
        rw [h.play h2]
theorem dated_wide : ∀ {es es' : List Ent5} {ts : List Int}, Pt Wide es es' → datedF es ts = true → datedF es' ts = true
  | [], [], ts, _, h => h
  | e :: es, e' :: es', [], _, h => by simp [datedF] at h
  | e :: es, e' :: es', t :: ts, ⟨⟨h1, h2⟩, h3⟩, h => by
    simp only [datedF, Bool.and_eq_true, decide_eq_true_eq] at h ⊢
    exact ⟨by omega, dated_wide h3 h.2⟩
  | [], _ :: _, _, h, _ => h.elim
  | _ :: _, [], _, h, _ => h.elim
theorem Loose.seen {r x : Reg} (h : Loose r x) : ∀ {n : Nat} {ds : List Nat}, seenAll r n ds = true → seenAll x n ds = true
  | _, [], _ => rfl
  | n, d :: ds, hs => by
    simp only [seenAll, Bool.and_eq_true] at hs ⊢
    rw [places_same h.st h.way]
    refine ⟨List.all_eq_true.2 fun s hs' => List.all_eq_true.1 hs.1 s (h.si s hs'), h.seen hs.2⟩
theorem Loose.truth {r x : Reg} (h : Loose r x) {t : List Int} {ds : List Nat} (T : Truth r t ds) : Truth x t ds :=
  ⟨dated_wide h.wide T.dated, h.play T.play, h.seen T.seen⟩
theorem Loose.has {r x : Reg} (h : Loose r x) (v : Valid r) (vx : Valid x) (H : hasT r) : hasT x := by
  obtain ⟨t, ds, T⟩ := (goes_truth v).1 H
  exact (goes_truth vx).2 ⟨t, ds, h.truth T⟩
/-- What can have happened at the end of a day. -/
def Eve (r : Reg) (N m : Nat) : Prop := Rch r N N r.entries.length m
theorem Loose.eve {r x : Reg} (h : Loose r x) (v : Valid r) (vx : Valid x) {N m : Nat} (hN : N ≤ 9) (H : Eve r N m) : Eve x N m := by
  obtain ⟨t, ds, T, hd⟩ := (rch_truth v hN).1 H
  exact (rch_truth vx hN).2 ⟨t, ds, h.truth T, hd⟩
theorem Loose.drop {r x : Reg} (h : Loose r x) (hs : x.sights = r.sights) (out : List Int) : Loose (dropR r out) (dropR x out) where
  st := h.st
  way := h.way.drop
  wide := h.wide.drop
  kind := by
    rcases h.kind with q | q
    · exact .inl q.drop
    · exact .inr fun e he => q e (dropF_sub he)
  si := fun s hs' => by
    show s ∈ dropF out r.entries.length r.sights
    have : s ∈ dropF out x.entries.length x.sights := hs'
    rw [h.way.len, hs] at this
    exact this
theorem Inc.filter {f S S' : Nat} {m : List Int} {p : Int → Bool} (h : Inc f S m) (hp : ∀ x ∈ m, p x = true → x < (S' : Int)) : Inc f S' (m.filter p) :=
  ⟨h.1.filter p, fun x hx => by
    rw [List.mem_filter] at hx
    exact ⟨(h.2 x hx.1).1, hp x hx.1 hx.2⟩⟩
/-- The first register allows no more on a day than the second. -/
structure Nar (x r : Reg) (N : Nat) : Prop where
  vx : Valid x
  v : Valid r
  hx : hasT x
  h : hasT r
  eve : ∀ m, Eve x N m → Eve r N m
  pl : ∀ m, placesA x m = placesA r m
  op : ∀ m a b, openN x m a b = openN r m a b
  st : x.start = r.start
  ho : x.houses = r.houses
theorem all_of {r : Reg} (v : Valid r) (h : hasT r) : allDays r ≠ [] := (goes_all_iff v).1 h
end Go.Proofs.Ytnbmmopjkkofoaa
namespace Go.Proofs.Ytnbmmopjkkofoaa
set_option linter.all false
/-- Entries happen one after the other. -/
def seqStep : List Ent5 → RSt → Option RSt
  | [], st => some st
  | e :: es, st => match refStep e st with
    | none => none
    | some st' => seqStep es st'
theorem seqStep_append : ∀ {a b : List Ent5} {st : RSt}, seqStep (a ++ b) st = (seqStep a st).bind (seqStep b)
  | [], b, st => rfl
  | e :: a, b, st => by
    simp only [List.cons_append, seqStep]
    cases refStep e st with
    | none => rfl
    | some st' => exact seqStep_append
/-- What has truly happened so far. -/
structure Hap (houses : Int) (start : List Int) (k day : Nat) (now open_ : List Int) (es : List Ent5) (ts : List Int) : Prop where
  nl : now.length = start.length
  ol : open_.length = 16
  el : es.length ≤ k
  tl : ts.length = es.length
  so : ts.Pairwise (· ≤ ·)
  td : ∀ t ∈ ts, 0 ≤ t ∧ t ≤ (day : Int) ∧ t ≤ 9
  da : datedF es ts = true
  en : ∀ e ∈ es, 0 ≤ e.kind ∧ e.kind ≤ 2 ∧ 0 ≤ e.sheet ∧ e.sheet ≤ (start.length : Int) - 1 ∧ 0 ≤ e.frm ∧ e.frm ≤ houses - 1 ∧ 0 ≤ e.to ∧ e.to ≤ houses - 1 ∧ e.frm ≠ e.to ∧ 0 ≤ e.lo ∧ e.lo ≤ e.hi ∧ e.hi ≤ 9
  nb : ∀ h ∈ now, 0 ≤ h ∧ h ≤ houses - 1
  ob : ∀ z ∈ open_, -(k : Int) ≤ z ∧ z ≤ (k : Int)
  st : seqStep es (start ++ List.replicate (4 - start.length) 0, List.replicate 16 0) = some (now ++ List.replicate (4 - start.length) 0, open_)
theorem dated_append : ∀ {es : List Ent5} {ts : List Int} {e : Ent5} {t : Int}, datedF es ts = true → e.lo ≤ t → t ≤ e.hi → datedF (es ++ [e]) (ts ++ [t]) = true
  | [], [], e, t, _, h1, h2 => by simp [datedF, h1, h2]
  | [], _ :: _, _, _, h, _, _ => by simp [datedF] at h
  | _ :: _, [], _, _, h, _, _ => by simp [datedF] at h
  | e :: es, t :: ts, e', t', h, h1, h2 => by
    simp only [datedF, Bool.and_eq_true, List.cons_append] at h ⊢
    exact ⟨h.1, dated_append h.2 h1 h2⟩
theorem Hap.start {houses : Int} {st : List Int} (h : ∀ x ∈ st, 0 ≤ x ∧ x ≤ houses - 1) : Hap houses st 0 0 st (List.replicate 16 0) [] [] :=
  ⟨rfl, by simp, Nat.le_refl _, rfl, List.Pairwise.nil, fun _ h => (by cases h), rfl, fun _ h => (by cases h), h, fun z hz => (by rw [List.eq_of_mem_replicate hz]; simp), rfl⟩
theorem Hap.more {houses : Int} {st now open_ : List Int} {k k' day : Nat} {es : List Ent5} {ts : List Int} (h : Hap houses st k day now open_ es ts) (hk : k ≤ k') : Hap houses st k' day now open_ es ts :=
  { h with el := Nat.le_trans h.el hk, ob := fun z hz => by have := h.ob z hz; omega }
theorem mem_upd {l : List Int} {i : Nat} {x z : Int} (h : z ∈ upd l i x) : z ∈ l ∨ ∃ y, (y ∈ l ∨ y = 0) ∧ z = y + x := by
  unfold upd at h
  rcases List.mem_or_eq_of_mem_set h with h | h
  · exact .inl h
  · refine .inr ⟨l.getD i 0, ?_, h⟩
    by_cases hi : i < l.length
    · left
      rw [List.getD_eq_getElem?_getD, List.getElem?_eq_getElem hi]
      exact List.getElem_mem hi
    · right
      exact getD_ge (by omega)
theorem Hap.step {houses : Int} {st now open_ open2 : List Int} {k day : Nat} {es : List Ent5} {ts : List Int} {kind to lo hi : Int} {s : Nat} (h : Hap houses st k day now open_ es ts) (hd : day ≤ 9) (hs : s < st.length) (h4 : st.length ≤ 4)
    (hto : 0 ≤ to ∧ to ≤ houses - 1) (hne : now.getD s 0 ≠ to) (hlo : 0 ≤ lo ∧ lo ≤ (day : Int)) (hhi : (day : Int) ≤ hi ∧ hi ≤ 9)
    (hk : (kind = 2 ∧ 0 < open_.getD (to.toNat * 4 + (now.getD s 0).toNat) 0 ∧ open2 = upd open_ (to.toNat * 4 + (now.getD s 0).toNat) (-1)) ∨ (kind = 1 ∧ open2 = upd open_ ((now.getD s 0).toNat * 4 + to.toNat) 1) ∨ (kind = 0 ∧ open2 = open_)) :
    Hap houses st (k + 1) day (now.set s to) open2 (es ++ [⟨kind, (s : Int), now.getD s 0, to, lo, hi⟩]) (ts ++ [(day : Int)]) := by
  have hfr : 0 ≤ now.getD s 0 ∧ now.getD s 0 ≤ houses - 1 := h.nb _ (getD_mem (by rw [h.nl]; exact hs))
  obtain ⟨h1, h2, h3, h4', h5, h6, h7, h8, h9, h10, h11⟩ := h
  have hn0 : (now ++ List.replicate (4 - st.length) 0).getD s 0 = now.getD s 0 := by
    simp only [List.getD_eq_getElem?_getD]
    rw [List.getElem?_append_left (by omega)]
  have hnd : ∀ z, (now.set s to ++ List.replicate (4 - st.length) z) = (now ++ List.replicate (4 - st.length) z).set s to := fun z => by
    rw [List.set_append_left _ _ (by omega)]
  refine ⟨by simp [h1], ?_, by simp; omega, by simp [h4'], List.pairwise_append.2 ⟨h5, by simp, fun x hx y hy => ?_⟩, fun t ht => ?_, dated_append h7 hlo.2 hhi.1, fun e he => ?_, fun x hx => ?_, fun z hz => ?_, ?_⟩
  · rcases hk with ⟨_, _, rfl⟩ | ⟨_, rfl⟩ | ⟨_, rfl⟩
    · rw [upd_len]; exact h2
    · rw [upd_len]; exact h2
    · exact h2
  · rw [List.mem_singleton] at hy
    subst hy
    exact (h6 x hx).2.1
  · rcases List.mem_append.1 ht with ht | ht
    · exact h6 t ht
    · rw [List.mem_singleton] at ht; omega
  · rcases List.mem_append.1 he with he | he
    · exact h8 e he
    · rw [List.mem_singleton] at he
      subst he
      have hkk : 0 ≤ kind ∧ kind ≤ 2 := by rcases hk with ⟨h, _⟩ | ⟨h, _⟩ | ⟨h, _⟩ <;> omega
      exact ⟨hkk.1, hkk.2, by show (0 : Int) ≤ (s : Int); omega, by show (s : Int) ≤ _; omega, hfr.1, hfr.2, hto.1, hto.2, hne, hlo.1, by show lo ≤ hi; omega, hhi.2⟩
  · rcases List.mem_or_eq_of_mem_set hx with hx | hx
    · exact h9 x hx
    · omega
  · rcases hk with ⟨_, _, rfl⟩ | ⟨_, rfl⟩ | ⟨_, rfl⟩
    · rcases mem_upd hz with hz | ⟨y, hy | hy, rfl⟩
      · have := h10 z hz; omega
      · have := h10 y hy; omega
      · omega
    · rcases mem_upd hz with hz | ⟨y, hy | hy, rfl⟩
      · have := h10 z hz; omega
      · have := h10 y hy; omega
      · omega
    · have := h10 z hz; omega
  · rw [seqStep_append, h11]
    simp only [Option.bind_some, seqStep, refStep, Int.toNat_natCast, hn0, bne_self_eq_false, Bool.false_or]
    rcases hk with ⟨rfl, hp, rfl⟩ | ⟨rfl, rfl⟩ | ⟨rfl, rfl⟩
    · have : decide (open_.getD (to.toNat * 4 + (now.getD s 0).toNat) 0 < 1) = false := by simp only [decide_eq_false_iff_not]; omega
      simp only [this, beq_self_eq_true, Bool.and_false, cond_false, cond_true]
      simp [hnd]
    · simp [hnd]
    · simp [hnd]
end Go.Proofs.Ytnbmmopjkkofoaa
namespace Go.Proofs.Ytnbmmopjkkofoaa
open Go.RowKit
set_option maxRecDepth 20000
set_option linter.all false
theorem neq45 (a b c d : Int) (w : World) : (binOp .neq 45 (.agg #[.int .i64 a, .int .i64 b]) (.agg #[.int .i64 c, .int .i64 d])).run Try.prog w = .ok (.bool (!(a == c && b == d))) w := by
  have u3 := Try.underlying3
  have a3 := Try.isAgg3
  have z3 := Try.sizeOf3
  have hS : Try.prog.underlying 45 = some (.struct (Try.prog.fieldsOf 45)) := by kernel_rfl
  have hp : Try.prog.stoodInHeld 45 = false := by kernel_rfl
  rw [run_neq_struct, show (10000 : Nat) = 9999 + 1 from rfl, run_equalIn_agg w 9999 45 _ _ hS hp]
  simp only [Program.fieldsOf, Try.underlying45]
  go_simp
  by_cases h1 : a = c <;> by_cases h2 : b = d <;> simp [h1, h2]
theorem q_neq45 {Γ : Cx} {σ : St} {o : Oper} {R : Rel} {x y : Operand} {t' : TypeId} {a b c d : Int} (h : o.op = .binOp .neq 45 x y t') (hx : σ.ev x = some (true, .d (.agg [.int .i64 a, .int .i64 b]))) (hy : σ.ev y = some (true, .d (.agg [.int .i64 c, .int .i64 d]))) :
    QV Γ Try.prog σ o R (.d (.bool (!(a == c && b == d)))) := fun A w F hs => by
  obtain ⟨vs, e1, h1, _⟩ := hs.ev hx
  obtain ⟨us, e2, h2, _⟩ := hs.ev hy
  obtain ⟨v1, vs1, rfl, q1, v2, vs2, rfl, q2, q3⟩ := h1
  obtain ⟨u1, us1, rfl, p1, u2, us2, rfl, p2, p3⟩ := h2
  simp only [Rep, RepVals] at q1 q2 q3 p1 p2 p3
  subst q1 q2 q3 p1 p2 p3
  exact ⟨.bool (!(a == c && b == d)), rfl, fun w' _ => by
    simp only [execOp, h, e1, e2, Sem.run_bind, guard45, Result.andThen_ok, neq45, Sem.run_pure]⟩
end Go.Proofs.Ytnbmmopjkkofoaa
namespace Go.Proofs.Ytnbmmopjkkofoaa
open Go.RowKit
set_option maxRecDepth 20000
set_option linter.all false
section
variable {Γ : Cx} {P : Program} {σ : St} {fn : Func}
theorem hands_1B {t b off id n : Nat} {ty bt : TypeId} {cs seg : List TV} {desc : TypeDesc} (h : fn.results = #[.cell t ty]) (ht : σ.get t = some (true, .val (.pointer (some ⟨b, off, none⟩)))) (hr : σ.rget id = some (.box b bt cs))
    (hu : P.underlying ty = some desc) (hd : rowD desc = true) (hz : Sz P ty n) (hc : (cs.drop off).take n = seg) (hn : seg.length = n) : Hands Γ P fn σ (.agg seg) := fun a w F hs => by
  have h1 := (hs.tm _ true _ ht).1 rfl
  simp only [TRep] at h1
  obtain ⟨_, _, vs, hh, hvs, hone⟩ := hs.rs _ _ hr
  have hseg : TReps F w seg ((vs.drop off).take n) := by rw [← hc]; exact (hvs.drop off).take n
  have hlen := hseg.length
  have hl := run_loadVar_row (P := P) (w := w) (b := b) (o := off) (vs := (vs.drop off).take n) hu hd (by rw [hlen, hn]; exact hz) (fun j v hv => by
    have : vs[off + j]? = some v := by
      rw [List.getElem?_take] at hv
      split at hv
      · rwa [List.getElem?_drop] at hv
      · cases hv
    exact (cell_box hh).trans this)
  have hone1 : (resOne a.tmps (.cell t ty)).run P w = .ok (.agg ((vs.drop off).take n).toArray) w := by simp only [resOne, h1, asAddr, Sem.run_bind, Sem.run_pure, Result.andThen_ok, hl]
  exact ⟨.agg ((vs.drop off).take n).toArray, by rw [results_run h]; simp [hone1], _, rfl, hseg, fun u hu => hone u (List.mem_of_mem_drop (List.mem_of_mem_take hu))⟩
end
theorem vecN {cs : List TV} {b n sz : Nat} (h : cs.length = n * sz) (hn : n ≤ maxLen) : VecV (.slice (some ⟨b, 0, none⟩) n n) sz cs := .inr ⟨b, n, n, rfl, Nat.le_refl _, hn, h⟩
/-- The entries of the document's example, cell by cell. -/
def L0c : List D := (L0.entries.map entE).flatten
abbrev L2 : Reg := loanR [] [⟨0, 0, 2⟩]
abbrev LA : Reg := loanR astrayL []
theorem L2_valid : Valid L2 := valid_of (by kernel_rfl)
theorem LA_valid : Valid LA := valid_of (by kernel_rfl)
theorem L2_ne : (allDays L2).isEmpty = false := by kernel_rfl
theorem LA_none : (allDays LA).isEmpty = true := by kernel_rfl
theorem L2_all : allDays L2 ≠ [] := fun e => by have := L2_ne; rw [e] at this; cases this
theorem LA_all : allDays LA = [] := List.isEmpty_iff.1 LA_none
theorem LA_has : ¬ hasT LA := fun h => all_of LA_valid h LA_all
theorem nm_hold0 (x : AskX L0 (sheetB L0 0) 0) : x.1.2 = 0 ∧ holdR L0 0 x.1.1 = [0] := by
  obtain ⟨h1, h2, h3⟩ := L0_ask (N := 0) rfl (by omega) x.2
  exact ⟨h2, (holders_eq (N := 0) (s := 0) L0_valid (by omega) (by decide) h1).trans (by kernel_rfl)⟩
theorem nm_hold4 (x : AskX L0 (sheetB L0 0) 4) : x.1.2 = 0 ∧ holdR L0 0 x.1.1 = [2] := by
  obtain ⟨h1, h2, h3⟩ := L0_ask (N := 4) rfl (by omega) x.2
  exact ⟨h2, (holders_eq (N := 4) (s := 0) L0_valid (by omega) (by decide) h1).trans (by kernel_rfl)⟩
theorem nm_hold3 (x : AskX L2 (sheetB L2 0) 3) : x.1.2 = 0 ∧ holdR L2 0 x.1.1 = [1, 2] := by
  obtain ⟨h1, h2⟩ := ask_ok (N := 3) L2_valid rfl (by omega) x.2
  rw [if_neg L2_all] at h2
  exact ⟨h2, (holders_eq (N := 3) (s := 0) L2_valid (by omega) (by decide) h1).trans (by kernel_rfl)⟩
theorem nm_owed0 (x : AskX L0 (houseB L0 0 && houseB L0 1) 0) : x.1.2 = 0 ∧ owedR L0 0 1 x.1.1 = (0, 0) := by
  obtain ⟨h1, h2, h3⟩ := L0_ask (N := 0) rfl (by omega) x.2
  exact ⟨h2, (owed_eq (a := 0) (b := 1) L0_valid (by omega) (by omega) (by omega) h3 h1).trans (by kernel_rfl)⟩
theorem nm_owed5 (x : AskX L0 (houseB L0 0 && houseB L0 1) 5) : x.1.2 = 0 ∧ owedR L0 0 1 x.1.1 = (0, 0) := by
  obtain ⟨h1, h2, h3⟩ := L0_ask (N := 5) rfl (by omega) x.2
  exact ⟨h2, (owed_eq (a := 0) (b := 1) L0_valid (by omega) (by omega) (by omega) h3 h1).trans (by kernel_rfl)⟩
theorem nm_range {r : Reg} {is : Bool} {N : Int} (v : Valid r) (h : (is && dayB N) = false) {out : List Nat} {e : Int} (hk : AskP r is N out e) : e = 2 := by
  rcases hk with ⟨k, _⟩ | ⟨_, _, _, k⟩ | ⟨_, k1, n, rfl, k2, _⟩
  · exact (k (checkE_of v)).elim
  · exact k
  · rw [k1] at h; simp [dayB] at h; omega
theorem nm_expl (x : ExplX LA) : x.1.2 = 9 := (expl_err LA_valid x).2.1.2 LA_has
theorem nm_sure (x : AskX LA (houseB LA 0) 0) : x.1.2 = 9 := by
  obtain ⟨h1, h2⟩ := ask_ok (N := 0) LA_valid rfl (by omega) x.2
  rw [if_pos LA_all] at h2
  exact h2
theorem nm_play : playE L0 [1, 2, 3] = 0 ∧ playL L0 [1, 2, 3] = [[0, 1, 2, 2, 2, 2, 2, 2, 2, 2], [1, 1, 1, 0, 0, 0, 0, 0, 0, 0]] := ⟨by kernel_rfl, by kernel_rfl⟩
theorem vecL {v : Value} (h : VecV v 6 (L0c.map .d)) : ∃ b c, v = .slice (some ⟨b, 0, none⟩) 3 c ∧ 3 ≤ c ∧ c ≤ maxLen := by
  rcases h with ⟨_, h⟩ | ⟨b, n, c, rfl, h1, h2, h3⟩
  · have : (L0c.map TV.d).length = 18 := by kernel_rfl
    rw [h] at this; cases this
  · have h4 : (L0c.map TV.d).length = 18 := by kernel_rfl
    have : n = 3 := by omega
    subst this
    exact ⟨b, c, rfl, h1, h2⟩
theorem loan_vec  : EffAt Try.prog 49 [.d .nil, .d .nil] [] (X := {v : Value // VecV v 6 (L0c.map .d)}) (fun v => .agg [.d (.int .i64 3), .d (ints [0, 1]), .val v.1, .d .nil]) (fun v => [(1040, vecRes 95 v.1 6 (L0c.map .d))]) := by
  refine EffAt.of_awp Try.func49 rfl (by kernel_rfl) rfl fun Γ hn => ?_
  refine awp_seq ?_
  refine awp_region ?_
  refine stepW (s_alloc 4 rfl rfl rfl (nb hn rfl) zr35 rfl rfl) fun b4 => ?_
  refine run_nil ?_
  refine aend_then ?_
  refine awp_seq ?_
  refine awp_region ?_
  refine sq rfl rfl hn rfl (q_buildd rfl bt45 rfl rfl rfl rfl rfl) ?_
  refine sq rfl rfl hn rfl (q_buildd rfl bt95 rfl rfl rfl rfl rfl) ?_
  refine sq rfl rfl hn rfl (q_buildd rfl bt45 rfl rfl rfl rfl rfl) ?_
  refine sq rfl rfl hn rfl (q_buildd rfl bt95 rfl rfl rfl rfl rfl) ?_
  refine sq rfl rfl hn rfl (q_buildd rfl bt45 rfl rfl rfl rfl rfl) ?_
  refine sq rfl rfl hn rfl (q_buildd rfl bt95 rfl rfl rfl rfl rfl) ?_
  refine stepW (s_buildVec 1040 rfl rfl rfl (nb hn rfl) Try.underlying32 sz95 zr95 rfl rfl (show _ = [.d (.int .i64 0), .d (.int .i64 0), .d (.int .i64 0), .d (.int .i64 0), .d (.int .i64 0), .d (.int .i64 0), .d (.int .i64 0), .d (.int .i64 0), .d (.int .i64 0), .d (.int .i64 0), .d (.int .i64 0), .d (.int .i64 0), .d (.int .i64 0), .d (.int .i64 0), .d (.int .i64 0), .d (.int .i64 0), .d (.int .i64 0), .d (.int .i64 0)] from by kernel_rfl) (by kernel_rfl) rfl rfl) fun b12 => ?_
  refine sq rfl rfl hn rfl (q_assign rfl rfl) ?_
  refine run_nil ?_
  refine aend_then ?_
  refine awp_seq ?_
  refine gh_awp (gh_empty (t := 0) 6 rfl) ?_
  refine awp_region ?_
  refine stepW (s_buildSlice rfl rfl rfl (nb hn rfl) Try.underlying22 sz3 zr3 rfl rfl rfl (show _ = [.d (.int .i64 0), .d (.int .i64 0)] from by kernel_rfl) (by kernel_rfl) rfl rfl rfl rfl rfl) fun _ => ?_
  refine sq rfl rfl hn rfl (q_move rfl rfl) ?_
  refine sq rfl rfl hn rfl (q_move rfl rfl) ?_
  refine stepW (s_appendV (id := 1040) rfl rfl rfl (nb hn rfl) elt32 zr95 rfl (by exact vecN rfl (by decide)) rfl rfl rfl (Nat.le_of_ble_eq_true rfl) (Nat.le_of_ble_eq_true rfl) (fun _ _ => trivial)) fun ⟨v16, hv16⟩ => ?_
  obtain ⟨bv, cv, rfl, hcv, hcm⟩ := vecL hv16
  refine sq rfl rfl hn rfl (q_move rfl rfl) ?_
  refine sq rfl rfl hn rfl (q_build rfl bt35 rfl rfl rfl rfl) ?_
  refine stepW (s_store rfl rfl rfl rfl rfl rfl (id := 4) rfl sz35 rfl (Nat.le_of_ble_eq_true rfl) rfl trivial) fun _ => ?_
  refine run_nil ?_
  refine aend_then ?_
  refine awp_ret ?_
  exact ret_E (.inl rfl) ⟨_, hv16⟩ (hands_1B (id := 4) rfl rfl rfl Try.underlying35 rfl sz35 rfl rfl) ⟨rfl, trivial⟩
theorem loan_vec1  : EffAt Try.prog 49 [.d .nil, .d .nil] [] (X := {v : Value // VecV v 6 (L0c.map .d)}) (fun v => .agg [.d (.int .i64 3), .d (ints [0, 1]), .val v.1, .d .nil]) (fun v => [(1041, vecRes 95 v.1 6 (L0c.map .d))]) := by
  refine EffAt.of_awp Try.func49 rfl (by kernel_rfl) rfl fun Γ hn => ?_
  refine awp_seq ?_
  refine awp_region ?_
  refine stepW (s_alloc 4 rfl rfl rfl (nb hn rfl) zr35 rfl rfl) fun b4 => ?_
  refine run_nil ?_
  refine aend_then ?_
  refine awp_seq ?_
  refine awp_region ?_
  refine sq rfl rfl hn rfl (q_buildd rfl bt45 rfl rfl rfl rfl rfl) ?_
  refine sq rfl rfl hn rfl (q_buildd rfl bt95 rfl rfl rfl rfl rfl) ?_
  refine sq rfl rfl hn rfl (q_buildd rfl bt45 rfl rfl rfl rfl rfl) ?_
  refine sq rfl rfl hn rfl (q_buildd rfl bt95 rfl rfl rfl rfl rfl) ?_
  refine sq rfl rfl hn rfl (q_buildd rfl bt45 rfl rfl rfl rfl rfl) ?_
  refine sq rfl rfl hn rfl (q_buildd rfl bt95 rfl rfl rfl rfl rfl) ?_
  refine stepW (s_buildVec 1041 rfl rfl rfl (nb hn rfl) Try.underlying32 sz95 zr95 rfl rfl (show _ = [.d (.int .i64 0), .d (.int .i64 0), .d (.int .i64 0), .d (.int .i64 0), .d (.int .i64 0), .d (.int .i64 0), .d (.int .i64 0), .d (.int .i64 0), .d (.int .i64 0), .d (.int .i64 0), .d (.int .i64 0), .d (.int .i64 0), .d (.int .i64 0), .d (.int .i64 0), .d (.int .i64 0), .d (.int .i64 0), .d (.int .i64 0), .d (.int .i64 0)] from by kernel_rfl) (by kernel_rfl) rfl rfl) fun b12 => ?_
  refine sq rfl rfl hn rfl (q_assign rfl rfl) ?_
  refine run_nil ?_
  refine aend_then ?_
  refine awp_seq ?_
  refine gh_awp (gh_empty (t := 0) 6 rfl) ?_
  refine awp_region ?_
  refine stepW (s_buildSlice rfl rfl rfl (nb hn rfl) Try.underlying22 sz3 zr3 rfl rfl rfl (show _ = [.d (.int .i64 0), .d (.int .i64 0)] from by kernel_rfl) (by kernel_rfl) rfl rfl rfl rfl rfl) fun _ => ?_
  refine sq rfl rfl hn rfl (q_move rfl rfl) ?_
  refine sq rfl rfl hn rfl (q_move rfl rfl) ?_
  refine stepW (s_appendV (id := 1041) rfl rfl rfl (nb hn rfl) elt32 zr95 rfl (by exact vecN rfl (by decide)) rfl rfl rfl (Nat.le_of_ble_eq_true rfl) (Nat.le_of_ble_eq_true rfl) (fun _ _ => trivial)) fun ⟨v16, hv16⟩ => ?_
  obtain ⟨bv, cv, rfl, hcv, hcm⟩ := vecL hv16
  refine sq rfl rfl hn rfl (q_move rfl rfl) ?_
  refine sq rfl rfl hn rfl (q_build rfl bt35 rfl rfl rfl rfl) ?_
  refine stepW (s_store rfl rfl rfl rfl rfl rfl (id := 4) rfl sz35 rfl (Nat.le_of_ble_eq_true rfl) rfl trivial) fun _ => ?_
  refine run_nil ?_
  refine aend_then ?_
  refine awp_ret ?_
  exact ret_E (.inl rfl) ⟨_, hv16⟩ (hands_1B (id := 4) rfl rfl rfl Try.underlying35 rfl sz35 rfl rfl) ⟨rfl, trivial⟩
theorem loan_vec2  : EffAt Try.prog 49 [.d .nil, .d .nil] [] (X := {v : Value // VecV v 6 (L0c.map .d)}) (fun v => .agg [.d (.int .i64 3), .d (ints [0, 1]), .val v.1, .d .nil]) (fun v => [(1042, vecRes 95 v.1 6 (L0c.map .d))]) := by
  refine EffAt.of_awp Try.func49 rfl (by kernel_rfl) rfl fun Γ hn => ?_
  refine awp_seq ?_
  refine awp_region ?_
  refine stepW (s_alloc 4 rfl rfl rfl (nb hn rfl) zr35 rfl rfl) fun b4 => ?_
  refine run_nil ?_
  refine aend_then ?_
  refine awp_seq ?_
  refine awp_region ?_
  refine sq rfl rfl hn rfl (q_buildd rfl bt45 rfl rfl rfl rfl rfl) ?_
  refine sq rfl rfl hn rfl (q_buildd rfl bt95 rfl rfl rfl rfl rfl) ?_
  refine sq rfl rfl hn rfl (q_buildd rfl bt45 rfl rfl rfl rfl rfl) ?_
  refine sq rfl rfl hn rfl (q_buildd rfl bt95 rfl rfl rfl rfl rfl) ?_
  refine sq rfl rfl hn rfl (q_buildd rfl bt45 rfl rfl rfl rfl rfl) ?_
  refine sq rfl rfl hn rfl (q_buildd rfl bt95 rfl rfl rfl rfl rfl) ?_
  refine stepW (s_buildVec 1042 rfl rfl rfl (nb hn rfl) Try.underlying32 sz95 zr95 rfl rfl (show _ = [.d (.int .i64 0), .d (.int .i64 0), .d (.int .i64 0), .d (.int .i64 0), .d (.int .i64 0), .d (.int .i64 0), .d (.int .i64 0), .d (.int .i64 0), .d (.int .i64 0), .d (.int .i64 0), .d (.int .i64 0), .d (.int .i64 0), .d (.int .i64 0), .d (.int .i64 0), .d (.int .i64 0), .d (.int .i64 0), .d (.int .i64 0), .d (.int .i64 0)] from by kernel_rfl) (by kernel_rfl) rfl rfl) fun b12 => ?_
  refine sq rfl rfl hn rfl (q_assign rfl rfl) ?_
  refine run_nil ?_
  refine aend_then ?_
  refine awp_seq ?_
  refine gh_awp (gh_empty (t := 0) 6 rfl) ?_
  refine awp_region ?_
  refine stepW (s_buildSlice rfl rfl rfl (nb hn rfl) Try.underlying22 sz3 zr3 rfl rfl rfl (show _ = [.d (.int .i64 0), .d (.int .i64 0)] from by kernel_rfl) (by kernel_rfl) rfl rfl rfl rfl rfl) fun _ => ?_
  refine sq rfl rfl hn rfl (q_move rfl rfl) ?_
  refine sq rfl rfl hn rfl (q_move rfl rfl) ?_
  refine stepW (s_appendV (id := 1042) rfl rfl rfl (nb hn rfl) elt32 zr95 rfl (by exact vecN rfl (by decide)) rfl rfl rfl (Nat.le_of_ble_eq_true rfl) (Nat.le_of_ble_eq_true rfl) (fun _ _ => trivial)) fun ⟨v16, hv16⟩ => ?_
  obtain ⟨bv, cv, rfl, hcv, hcm⟩ := vecL hv16
  refine sq rfl rfl hn rfl (q_move rfl rfl) ?_
  refine sq rfl rfl hn rfl (q_build rfl bt35 rfl rfl rfl rfl) ?_
  refine stepW (s_store rfl rfl rfl rfl rfl rfl (id := 4) rfl sz35 rfl (Nat.le_of_ble_eq_true rfl) rfl trivial) fun _ => ?_
  refine run_nil ?_
  refine aend_then ?_
  refine awp_ret ?_
  exact ret_E (.inl rfl) ⟨_, hv16⟩ (hands_1B (id := 4) rfl rfl rfl Try.underlying35 rfl sz35 rfl rfl) ⟨rfl, trivial⟩
theorem SheetNames_eff  : EffAt Try.prog 12 [] [] (X := Unit) (fun _ => .d (.bool true)) (fun _ => []) := by
  refine EffAt.of_awp Try.func12 rfl (by kernel_rfl) rfl fun Γ hn => ?_
  refine awp_seq ?_
  refine awp_region ?_
  refine sq rfl rfl hn rfl (q_assign rfl rfl) ?_
  refine run_nil ?_
  refine aend_then ?_
  refine awp_seq ?_
  refine awp_region ?_
  refine stepW (s_call [] (fun _ => loan_ok [] [] (by simp)) rfl (guard_none rfl) rfl (nb hn rfl) (fun _ => trivial) rfl rfl (by first | exact .refl _ | (repeat (first | exact .refl _ | exact .nil _ | refine .cons ?_ ?_ | refine .agg ?_ | refine .tup ?_)))) fun _ => ?_
  refine stepW (s_callE (Holders_eff L0 0 0) rfl rfl rfl (nb hn rfl) (.d rfl) rfl (.refl _) trivial (fun _ => rfl) (fun _ _ => trivial)) fun x1 => ?_
  obtain ⟨he1, hh1⟩ := nm_hold0 x1
  rw [he1, hh1]
  refine sq rfl rfl hn rfl (q_move rfl rfl) ?_
  refine sq rfl rfl hn rfl (q_extractd rfl rfl rfl) ?_
  refine sq rfl rfl hn rfl (q_extractd rfl rfl rfl) ?_
  refine sq rfl rfl hn rfl (q_assign rfl rfl) ?_
  refine sq rfl rfl hn rfl (q_assign rfl rfl) ?_
  refine run_nil ?_
  refine aend_then ?_
  refine awp_seq ?_
  refine awp_region ?_
  refine stepW (s_call [] (fun _ => loan_ok [] [] (by simp)) rfl (guard_none rfl) rfl (nb hn rfl) (fun _ => trivial) rfl rfl (by first | exact .refl _ | (repeat (first | exact .refl _ | exact .nil _ | refine .cons ?_ ?_ | refine .agg ?_ | refine .tup ?_)))) fun _ => ?_
  refine stepW (s_callE (Holders_eff L0 0 4) rfl rfl rfl (nb hn rfl) (.d rfl) rfl (.refl _) trivial (fun _ => rfl) (fun _ _ => trivial)) fun x2 => ?_
  obtain ⟨he2, hh2⟩ := nm_hold4 x2
  rw [he2, hh2]
  refine sq rfl rfl hn rfl (q_move rfl rfl) ?_
  refine sq rfl rfl hn rfl (q_extractd rfl rfl rfl) ?_
  refine sq rfl rfl hn rfl (q_extractd rfl rfl rfl) ?_
  refine sq rfl rfl hn rfl (q_assign rfl rfl) ?_
  refine sq rfl rfl hn rfl (q_assign rfl rfl) ?_
  refine run_nil ?_
  refine aend_then ?_
  refine awp_seq ?_
  refine awp_region ?_
  refine sq rfl rfl hn rfl (q_buildd rfl bt92 rfl rfl rfl rfl rfl) ?_
  refine stepW (s_buildSlice rfl rfl rfl (nb hn rfl) Try.underlying33 sz92 zr92 rfl rfl rfl (show _ = [.d (.int .i64 0), .d (.int .i64 0), .d (.int .i64 0)] from by kernel_rfl) (by kernel_rfl) rfl rfl rfl rfl rfl) fun _ => ?_
  refine stepW (s_call [] (fun _ => loan_ok [] [⟨0, 0, 2⟩] (by simp)) rfl (guard_none rfl) rfl (nb hn rfl) (fun _ => trivial) rfl rfl (by first | exact .refl _ | (repeat (first | exact .refl _ | exact .nil _ | refine .cons ?_ ?_ | refine .agg ?_ | refine .tup ?_)))) fun _ => ?_
  refine stepW (s_callE (Holders_eff L2 0 3) rfl rfl rfl (nb hn rfl) (.d rfl) rfl (.refl _) trivial (fun _ => rfl) (fun _ _ => trivial)) fun x3 => ?_
  obtain ⟨he3, hh3⟩ := nm_hold3 x3
  rw [he3, hh3]
  refine sq rfl rfl hn rfl (q_move rfl rfl) ?_
  refine sq rfl rfl hn rfl (q_extractd rfl rfl rfl) ?_
  refine sq rfl rfl hn rfl (q_extractd rfl rfl rfl) ?_
  refine sq rfl rfl hn rfl (q_assign rfl rfl) ?_
  refine sq rfl rfl hn rfl (q_assign rfl rfl) ?_
  refine run_nil ?_
  refine aend_then ?_
  refine awp_seq ?_
  refine awp_region ?_
  refine stepW (s_call [] (fun _ => loan_ok [] [] (by simp)) rfl (guard_none rfl) rfl (nb hn rfl) (fun _ => trivial) rfl rfl (by first | exact .refl _ | (repeat (first | exact .refl _ | exact .nil _ | refine .cons ?_ ?_ | refine .agg ?_ | refine .tup ?_)))) fun _ => ?_
  refine stepW (s_callE (Owed_eff L0 0 1 0) rfl rfl rfl (nb hn rfl) (.d rfl) rfl (.refl _) trivial (fun _ => rfl) (fun _ _ => trivial)) fun x4 => ?_
  obtain ⟨he4, hh4⟩ := nm_owed0 x4
  rw [he4, hh4]
  refine sq rfl rfl hn rfl (q_move rfl rfl) ?_
  refine sq rfl rfl hn rfl (q_extractd rfl rfl rfl) ?_
  refine sq rfl rfl hn rfl (q_extractd rfl rfl rfl) ?_
  refine stepW (s_alloc 7 rfl rfl rfl (nb hn rfl) zr45 rfl rfl) fun b7 => ?_
  refine stepW (s_store rfl rfl rfl rfl rfl rfl (id := 7) rfl sz45 rfl (Nat.le_of_ble_eq_true rfl) rfl trivial) fun _ => ?_
  refine sq rfl rfl hn rfl (q_assign rfl rfl) ?_
  refine run_nil ?_
  refine aend_then ?_
  refine awp_seq ?_
  refine awp_region ?_
  refine stepW (s_call [] (fun _ => loan_ok [] [] (by simp)) rfl (guard_none rfl) rfl (nb hn rfl) (fun _ => trivial) rfl rfl (by first | exact .refl _ | (repeat (first | exact .refl _ | exact .nil _ | refine .cons ?_ ?_ | refine .agg ?_ | refine .tup ?_)))) fun _ => ?_
  refine stepW (s_callE (Owed_eff L0 0 1 5) rfl rfl rfl (nb hn rfl) (.d rfl) rfl (.refl _) trivial (fun _ => rfl) (fun _ _ => trivial)) fun x5 => ?_
  obtain ⟨he5, hh5⟩ := nm_owed5 x5
  rw [he5, hh5]
  refine sq rfl rfl hn rfl (q_move rfl rfl) ?_
  refine sq rfl rfl hn rfl (q_extractd rfl rfl rfl) ?_
  refine sq rfl rfl hn rfl (q_extractd rfl rfl rfl) ?_
  refine stepW (s_alloc 9 rfl rfl rfl (nb hn rfl) zr45 rfl rfl) fun b9 => ?_
  refine stepW (s_store rfl rfl rfl rfl rfl rfl (id := 9) rfl sz45 rfl (Nat.le_of_ble_eq_true rfl) rfl trivial) fun _ => ?_
  refine sq rfl rfl hn rfl (q_assign rfl rfl) ?_
  refine run_nil ?_
  refine aend_then ?_
  refine awp_seq ?_
  refine awp_region ?_
  refine stepW (s_call [] (fun _ => loan_ok [] [] (by simp)) rfl (guard_none rfl) rfl (nb hn rfl) (fun _ => trivial) rfl rfl (by first | exact .refl _ | (repeat (first | exact .refl _ | exact .nil _ | refine .cons ?_ ?_ | refine .agg ?_ | refine .tup ?_)))) fun _ => ?_
  refine stepW (s_buildSlice rfl rfl rfl (nb hn rfl) Try.underlying22 sz3 zr3 rfl rfl rfl (show _ = [.d (.int .i64 0), .d (.int .i64 0), .d (.int .i64 0)] from by kernel_rfl) (by kernel_rfl) rfl rfl rfl rfl rfl) fun _ => ?_
  refine stepW (s_call [] (fun _ => (by have := Play_ok L0 [1, 2, 3]; rw [nm_play.1, nm_play.2] at this; exact this)) rfl (guard_none rfl) rfl (nb hn rfl) (fun _ => trivial) rfl rfl (.refl _)) fun _ => ?_
  refine sq rfl rfl hn rfl (q_move rfl rfl) ?_
  refine sq rfl rfl hn rfl (q_extractd rfl rfl rfl) ?_
  refine sq rfl rfl hn rfl (q_extractd rfl rfl rfl) ?_
  refine sq rfl rfl hn rfl (q_assign rfl rfl) ?_
  refine sq rfl rfl hn rfl (q_assign rfl rfl) ?_
  refine run_nil ?_
  refine aend_then ?_
  refine awp_seq ?_
  refine awp_region ?_
  refine stepW (s_call [] (fun _ => loan_ok [] [] (by simp)) rfl (guard_none rfl) rfl (nb hn rfl) (fun _ => trivial) rfl rfl (by first | exact .refl _ | (repeat (first | exact .refl _ | exact .nil _ | refine .cons ?_ ?_ | refine .agg ?_ | refine .tup ?_)))) fun _ => ?_
  refine stepW (s_call [] (fun _ => (by have := leave_ok L0; rw [show leaveR L0 = ([], 0) from by kernel_rfl] at this; exact this)) rfl (guard_none rfl) rfl (nb hn rfl) (fun _ => trivial) rfl rfl (.refl _)) fun _ => ?_
  refine sq rfl rfl hn rfl (q_move rfl rfl) ?_
  refine sq rfl rfl hn rfl (q_extractd rfl rfl rfl) ?_
  refine sq rfl rfl hn rfl (q_extractd rfl rfl rfl) ?_
  refine sq rfl rfl hn rfl (q_assign rfl rfl) ?_
  refine sq rfl rfl hn rfl (q_assign rfl rfl) ?_
  refine run_nil ?_
  refine aend_then ?_
  refine awp_seq ?_
  refine awp_seq ?_
  refine awp_region ?_
  refine sq rfl rfl hn rfl (q_move rfl rfl) ?_
  refine sq rfl rfl hn rfl (q_neq rfl rfl rfl) ?_
  refine sq rfl rfl hn rfl (q_move rfl rfl) ?_
  refine stepG [] (guard_some rfl rfl rfl) rfl (nb hn rfl) (fun hc => trivial) (fun hc => q_move rfl rfl) ?_
  refine stepW (s_guard (guard_some rfl rfl rfl) rfl (nb hn rfl) (s_buildSlice rfl rfl rfl (nb hn rfl) Try.underlying22 sz3 zr3 rfl rfl rfl (show _ = [.d (.int .i64 0)] from by kernel_rfl) (by kernel_rfl) rfl rfl rfl rfl rfl)) fun _ => ?_
  refine stepW (s_call [(62, _), (63, _)] (fun hc => Same_ok [0] [0]) rfl (guard_some rfl rfl rfl) rfl (nb hn rfl) (fun hc => ⟨⟨_, rfl, hc⟩, ⟨_, rfl, hc⟩, trivial⟩) rfl rfl (.refl _)) fun _ => ?_
  refine stepG [(64, _)] (guard_some rfl rfl rfl) rfl (nb hn rfl) (fun hc => ⟨⟨_, rfl, hc⟩, trivial⟩) (fun hc => q_not rfl rfl) ?_
  refine sq rfl rfl hn rfl (q_or rfl rfl rfl (by intro hB; first | (rw [hB]; rfl) | (rw [hB, hc]; rfl) | simp_all)) ?_
  refine sq rfl rfl hn rfl (q_move rfl rfl) ?_
  refine stepG [] (guard_some rfl rfl rfl) rfl (nb hn rfl) (fun hc => trivial) (fun hc => q_move rfl rfl) ?_
  refine stepG [(68, _)] (guard_some rfl rfl rfl) rfl (nb hn rfl) (fun hc => ⟨⟨_, rfl, hc⟩, trivial⟩) (fun hc => q_neq rfl rfl rfl) ?_
  refine sq rfl rfl hn rfl (q_or rfl rfl rfl (by intro hB; first | (rw [hB]; rfl) | (rw [hB, hc]; rfl) | simp_all)) ?_
  refine sq rfl rfl hn rfl (q_move rfl rfl) ?_
  refine stepG [] (guard_some rfl rfl rfl) rfl (nb hn rfl) (fun hc => trivial) (fun hc => q_move rfl rfl) ?_
  refine stepW (s_guard (guard_some rfl rfl rfl) rfl (nb hn rfl) (s_buildSlice rfl rfl rfl (nb hn rfl) Try.underlying22 sz3 zr3 rfl rfl rfl (show _ = [.d (.int .i64 0)] from by kernel_rfl) (by kernel_rfl) rfl rfl rfl rfl rfl)) fun _ => ?_
  refine stepW (s_call [(72, _), (73, _)] (fun hc => Same_ok [2] [2]) rfl (guard_some rfl rfl rfl) rfl (nb hn rfl) (fun hc => ⟨⟨_, rfl, hc⟩, ⟨_, rfl, hc⟩, trivial⟩) rfl rfl (.refl _)) fun _ => ?_
  refine stepG [(74, _)] (guard_some rfl rfl rfl) rfl (nb hn rfl) (fun hc => ⟨⟨_, rfl, hc⟩, trivial⟩) (fun hc => q_not rfl rfl) ?_
  refine sq rfl rfl hn rfl (q_or rfl rfl rfl (by intro hB; first | (rw [hB]; rfl) | (rw [hB, hc]; rfl) | simp_all)) ?_
  refine sq rfl rfl hn rfl (q_move rfl rfl) ?_
  refine stepG [] (guard_some rfl rfl rfl) rfl (nb hn rfl) (fun hc => trivial) (fun hc => q_move rfl rfl) ?_
  refine stepG [(78, _)] (guard_some rfl rfl rfl) rfl (nb hn rfl) (fun hc => ⟨⟨_, rfl, hc⟩, trivial⟩) (fun hc => q_neq rfl rfl rfl) ?_
  refine sq rfl rfl hn rfl (q_or rfl rfl rfl (by intro hB; first | (rw [hB]; rfl) | (rw [hB, hc]; rfl) | simp_all)) ?_
  refine sq rfl rfl hn rfl (q_move rfl rfl) ?_
  refine stepG [] (guard_some rfl rfl rfl) rfl (nb hn rfl) (fun hc => trivial) (fun hc => q_move rfl rfl) ?_
  refine stepW (s_guard (guard_some rfl rfl rfl) rfl (nb hn rfl) (s_buildSlice rfl rfl rfl (nb hn rfl) Try.underlying22 sz3 zr3 rfl rfl rfl (show _ = [.d (.int .i64 0), .d (.int .i64 0)] from by kernel_rfl) (by kernel_rfl) rfl rfl rfl rfl rfl)) fun _ => ?_
  refine stepW (s_call [(82, _), (83, _)] (fun hc => Same_ok [1, 2] [1, 2]) rfl (guard_some rfl rfl rfl) rfl (nb hn rfl) (fun hc => ⟨⟨_, rfl, hc⟩, ⟨_, rfl, hc⟩, trivial⟩) rfl rfl (.refl _)) fun _ => ?_
  refine stepG [(84, _)] (guard_some rfl rfl rfl) rfl (nb hn rfl) (fun hc => ⟨⟨_, rfl, hc⟩, trivial⟩) (fun hc => q_not rfl rfl) ?_
  refine sq rfl rfl hn rfl (q_or rfl rfl rfl (by intro hB; first | (rw [hB]; rfl) | (rw [hB, hc]; rfl) | simp_all)) ?_
  refine sq rfl rfl hn rfl (q_move rfl rfl) ?_
  refine stepG [] (guard_some rfl rfl rfl) rfl (nb hn rfl) (fun hc => trivial) (fun hc => q_move rfl rfl) ?_
  refine stepG [(88, _)] (guard_some rfl rfl rfl) rfl (nb hn rfl) (fun hc => ⟨⟨_, rfl, hc⟩, trivial⟩) (fun hc => q_neq rfl rfl rfl) ?_
  refine sq rfl rfl hn rfl (q_or rfl rfl rfl (by intro hB; first | (rw [hB]; rfl) | (rw [hB, hc]; rfl) | simp_all)) ?_
  refine sq rfl rfl hn rfl (q_move rfl rfl) ?_
  refine stepG [] (guard_some rfl rfl rfl) rfl (nb hn rfl) (fun hc => trivial) (fun hc => q_loadAd rfl rfl (id := 7) rfl Try.underlying45 rfl sz45 rfl rfl sees0) ?_
  refine stepG [] (guard_some rfl rfl rfl) rfl (nb hn rfl) (fun hc => trivial) (fun hc => q_buildd rfl bt45 rfl rfl rfl rfl rfl) ?_
  refine stepG [(92, _), (93, _)] (guard_some rfl rfl rfl) rfl (nb hn rfl) (fun hc => ⟨⟨_, rfl, hc⟩, ⟨_, rfl, hc⟩, trivial⟩) (fun hc => q_neq45 rfl rfl rfl) ?_
  refine sq rfl rfl hn rfl (q_or rfl rfl rfl (by intro hB; first | (rw [hB]; rfl) | (rw [hB, hc]; rfl) | simp_all)) ?_
  refine sq rfl rfl hn rfl (q_move rfl rfl) ?_
  refine stepG [] (guard_some rfl rfl rfl) rfl (nb hn rfl) (fun hc => trivial) (fun hc => q_move rfl rfl) ?_
  refine stepG [(97, _)] (guard_some rfl rfl rfl) rfl (nb hn rfl) (fun hc => ⟨⟨_, rfl, hc⟩, trivial⟩) (fun hc => q_neq rfl rfl rfl) ?_
  refine sq rfl rfl hn rfl (q_or rfl rfl rfl (by intro hB; first | (rw [hB]; rfl) | (rw [hB, hc]; rfl) | simp_all)) ?_
  refine sq rfl rfl hn rfl (q_move rfl rfl) ?_
  refine stepG [] (guard_some rfl rfl rfl) rfl (nb hn rfl) (fun hc => trivial) (fun hc => q_loadAd rfl rfl (id := 9) rfl Try.underlying45 rfl sz45 rfl rfl sees0) ?_
  refine stepG [] (guard_some rfl rfl rfl) rfl (nb hn rfl) (fun hc => trivial) (fun hc => q_buildd rfl bt45 rfl rfl rfl rfl rfl) ?_
  refine stepG [(101, _), (102, _)] (guard_some rfl rfl rfl) rfl (nb hn rfl) (fun hc => ⟨⟨_, rfl, hc⟩, ⟨_, rfl, hc⟩, trivial⟩) (fun hc => q_neq45 rfl rfl rfl) ?_
  refine sq rfl rfl hn rfl (q_or rfl rfl rfl (by intro hB; first | (rw [hB]; rfl) | (rw [hB, hc]; rfl) | simp_all)) ?_
  refine sq rfl rfl hn rfl (q_move rfl rfl) ?_
  refine stepG [] (guard_some rfl rfl rfl) rfl (nb hn rfl) (fun hc => trivial) (fun hc => q_move rfl rfl) ?_
  refine stepG [(106, _)] (guard_some rfl rfl rfl) rfl (nb hn rfl) (fun hc => ⟨⟨_, rfl, hc⟩, trivial⟩) (fun hc => q_neq rfl rfl rfl) ?_
  refine sq rfl rfl hn rfl (q_or rfl rfl rfl (by intro hB; first | (rw [hB]; rfl) | (rw [hB, hc]; rfl) | simp_all)) ?_
  refine sq rfl rfl hn rfl (q_move rfl rfl) ?_
  refine stepG [] (guard_some rfl rfl rfl) rfl (nb hn rfl) (fun hc => trivial) (fun hc => q_move rfl rfl) ?_
  refine stepG [(110, _)] (guard_some rfl rfl rfl) rfl (nb hn rfl) (fun hc => ⟨⟨_, rfl, hc⟩, trivial⟩) (fun hc => q_len rfl rfl Try.underlying77) ?_
  refine stepG [(111, _)] (guard_some rfl rfl rfl) rfl (nb hn rfl) (fun hc => ⟨⟨_, rfl, hc⟩, trivial⟩) (fun hc => q_neq rfl rfl rfl) ?_
  refine sq rfl rfl hn rfl (q_or rfl rfl rfl (by intro hB; first | (rw [hB]; rfl) | (rw [hB, hc]; rfl) | simp_all)) ?_
  refine sq rfl rfl hn rfl (q_move rfl rfl) ?_
  refine stepG [] (guard_some rfl rfl rfl) rfl (nb hn rfl) (fun hc => trivial) (fun hc => q_move rfl rfl) ?_
  refine stepG [(115, _)] (guard_some rfl rfl rfl) rfl (nb hn rfl) (fun hc => ⟨⟨_, rfl, hc⟩, trivial⟩) (fun hc => q_index (i := 0) rfl rfl rfl Try.underlying77 sz22 rfl rfl) ?_
  refine stepG [(116, _)] (guard_some rfl rfl rfl) rfl (nb hn rfl) (fun hc => ⟨⟨_, rfl, hc⟩, trivial⟩) (fun hc => q_loadp rfl rfl Try.underlying22 rfl seesF0) ?_
  refine stepW (s_guard (guard_some rfl rfl rfl) rfl (nb hn rfl) (s_buildSlice rfl rfl rfl (nb hn rfl) Try.underlying22 sz3 zr3 rfl rfl rfl (show _ = [.d (.int .i64 0), .d (.int .i64 0), .d (.int .i64 0), .d (.int .i64 0), .d (.int .i64 0), .d (.int .i64 0), .d (.int .i64 0), .d (.int .i64 0), .d (.int .i64 0), .d (.int .i64 0)] from by kernel_rfl) (by kernel_rfl) rfl rfl rfl rfl rfl)) fun _ => ?_
  refine stepW (s_call [(117, _), (118, _)] (fun hc => Same_ok [0, 1, 2, 2, 2, 2, 2, 2, 2, 2] [0, 1, 2, 2, 2, 2, 2, 2, 2, 2]) rfl (guard_some rfl rfl rfl) rfl (nb hn rfl) (fun hc => ⟨⟨_, rfl, hc⟩, ⟨_, rfl, hc⟩, trivial⟩) rfl rfl (.refl _)) fun _ => ?_
  refine stepG [(119, _)] (guard_some rfl rfl rfl) rfl (nb hn rfl) (fun hc => ⟨⟨_, rfl, hc⟩, trivial⟩) (fun hc => q_not rfl rfl) ?_
  refine sq rfl rfl hn rfl (q_or rfl rfl rfl (by intro hB; first | (rw [hB]; rfl) | (rw [hB, hc]; rfl) | simp_all)) ?_
  refine sq rfl rfl hn rfl (q_move rfl rfl) ?_
  refine stepG [] (guard_some rfl rfl rfl) rfl (nb hn rfl) (fun hc => trivial) (fun hc => q_move rfl rfl) ?_
  refine stepG [(123, _)] (guard_some rfl rfl rfl) rfl (nb hn rfl) (fun hc => ⟨⟨_, rfl, hc⟩, trivial⟩) (fun hc => q_index (i := 1) rfl rfl rfl Try.underlying77 sz22 rfl rfl) ?_
  refine stepG [(124, _)] (guard_some rfl rfl rfl) rfl (nb hn rfl) (fun hc => ⟨⟨_, rfl, hc⟩, trivial⟩) (fun hc => q_loadp rfl rfl Try.underlying22 rfl seesF0) ?_
  refine stepW (s_guard (guard_some rfl rfl rfl) rfl (nb hn rfl) (s_buildSlice rfl rfl rfl (nb hn rfl) Try.underlying22 sz3 zr3 rfl rfl rfl (show _ = [.d (.int .i64 0), .d (.int .i64 0), .d (.int .i64 0), .d (.int .i64 0), .d (.int .i64 0), .d (.int .i64 0), .d (.int .i64 0), .d (.int .i64 0), .d (.int .i64 0), .d (.int .i64 0)] from by kernel_rfl) (by kernel_rfl) rfl rfl rfl rfl rfl)) fun _ => ?_
  refine stepW (s_call [(125, _), (126, _)] (fun hc => Same_ok [1, 1, 1, 0, 0, 0, 0, 0, 0, 0] [1, 1, 1, 0, 0, 0, 0, 0, 0, 0]) rfl (guard_some rfl rfl rfl) rfl (nb hn rfl) (fun hc => ⟨⟨_, rfl, hc⟩, ⟨_, rfl, hc⟩, trivial⟩) rfl rfl (.refl _)) fun _ => ?_
  refine stepG [(127, _)] (guard_some rfl rfl rfl) rfl (nb hn rfl) (fun hc => ⟨⟨_, rfl, hc⟩, trivial⟩) (fun hc => q_not rfl rfl) ?_
  refine sq rfl rfl hn rfl (q_or rfl rfl rfl (by intro hB; first | (rw [hB]; rfl) | (rw [hB, hc]; rfl) | simp_all)) ?_
  refine sq rfl rfl hn rfl (q_move rfl rfl) ?_
  refine stepG [] (guard_some rfl rfl rfl) rfl (nb hn rfl) (fun hc => trivial) (fun hc => q_move rfl rfl) ?_
  refine stepG [(131, _)] (guard_some rfl rfl rfl) rfl (nb hn rfl) (fun hc => ⟨⟨_, rfl, hc⟩, trivial⟩) (fun hc => q_neq rfl rfl rfl) ?_
  refine sq rfl rfl hn rfl (q_or rfl rfl rfl (by intro hB; first | (rw [hB]; rfl) | (rw [hB, hc]; rfl) | simp_all)) ?_
  refine sq rfl rfl hn rfl (q_move rfl rfl) ?_
  refine stepG [] (guard_some rfl rfl rfl) rfl (nb hn rfl) (fun hc => trivial) (fun hc => q_move rfl rfl) ?_
  refine stepG [(135, _)] (guard_some rfl rfl rfl) rfl (nb hn rfl) (fun hc => ⟨⟨_, rfl, hc⟩, trivial⟩) (fun hc => q_len rfl rfl Try.underlying22) ?_
  refine stepG [(136, _)] (guard_some rfl rfl rfl) rfl (nb hn rfl) (fun hc => ⟨⟨_, rfl, hc⟩, trivial⟩) (fun hc => q_neq rfl rfl rfl) ?_
  refine sq rfl rfl hn rfl (q_or rfl rfl rfl (by intro hB; first | (rw [hB]; rfl) | (rw [hB, hc]; rfl) | simp_all)) ?_
  refine sq rfl rfl hn rfl (q_move rfl rfl) ?_
  refine stepW (s_call [] (fun hc => loan_ok [] [] (by simp)) rfl (guard_some rfl rfl rfl) rfl (nb hn rfl) (fun hc => trivial) rfl rfl (by first | exact .refl _ | (repeat (first | exact .refl _ | exact .nil _ | refine .cons ?_ ?_ | refine .agg ?_ | refine .tup ?_)))) fun _ => ?_
  refine stepW (s_guard (guard_some rfl rfl rfl) rfl (nb hn rfl) (s_buildSlice rfl rfl rfl (nb hn rfl) Try.underlying22 sz3 zr3 rfl rfl rfl (show _ = [.d (.int .i64 0), .d (.int .i64 0), .d (.int .i64 0)] from by kernel_rfl) (by kernel_rfl) rfl rfl rfl rfl rfl)) fun _ => ?_
  refine stepW (s_call [(140, _), (141, _)] (fun hc => (by have := ProveTruth_ok L0 [3, 3, 3]; rw [show proveB L0 [3, 3, 3] = true from by kernel_rfl] at this; exact this)) rfl (guard_some rfl rfl rfl) rfl (nb hn rfl) (fun hc => ⟨⟨_, rfl, hc⟩, ⟨_, rfl, hc⟩, trivial⟩) rfl rfl (.refl _)) fun _ => ?_
  refine stepG [(142, _)] (guard_some rfl rfl rfl) rfl (nb hn rfl) (fun hc => ⟨⟨_, rfl, hc⟩, trivial⟩) (fun hc => q_not rfl rfl) ?_
  refine sq rfl rfl hn rfl (q_or rfl rfl rfl (by intro hB; first | (rw [hB]; rfl) | (rw [hB, hc]; rfl) | simp_all)) ?_
  refine sq rfl rfl hn rfl (q_move rfl rfl) ?_
  refine stepW (s_call [] (fun hc => loan_ok [] [] (by simp)) rfl (guard_some rfl rfl rfl) rfl (nb hn rfl) (fun hc => trivial) rfl rfl (by first | exact .refl _ | (repeat (first | exact .refl _ | exact .nil _ | refine .cons ?_ ?_ | refine .agg ?_ | refine .tup ?_)))) fun _ => ?_
  refine stepW (s_guard (guard_some rfl rfl rfl) rfl (nb hn rfl) (s_buildSlice rfl rfl rfl (nb hn rfl) Try.underlying22 sz3 zr3 rfl rfl rfl (show _ = [.d (.int .i64 0), .d (.int .i64 0), .d (.int .i64 0)] from by kernel_rfl) (by kernel_rfl) rfl rfl rfl rfl rfl)) fun _ => ?_
  refine stepW (s_call [(146, _), (147, _)] (fun hc => (by have := ProveTruth_ok L0 [3, 2, 3]; rw [show proveB L0 [3, 2, 3] = false from by kernel_rfl] at this; exact this)) rfl (guard_some rfl rfl rfl) rfl (nb hn rfl) (fun hc => ⟨⟨_, rfl, hc⟩, ⟨_, rfl, hc⟩, trivial⟩) rfl rfl (.refl _)) fun _ => ?_
  refine sq rfl rfl hn rfl (q_or rfl rfl rfl (by intro hB; first | (rw [hB]; rfl) | (rw [hB, hc]; rfl) | simp_all)) ?_
  refine sq rfl rfl hn rfl (q_move rfl rfl) ?_
  refine stepW (s_call [] (fun hc => loan_ok [] [] (by simp)) rfl (guard_some rfl rfl rfl) rfl (nb hn rfl) (fun hc => trivial) rfl rfl (by first | exact .refl _ | (repeat (first | exact .refl _ | exact .nil _ | refine .cons ?_ ?_ | refine .agg ?_ | refine .tup ?_)))) fun _ => ?_
  refine stepW (s_guard (guard_some rfl rfl rfl) rfl (nb hn rfl) (s_buildSlice rfl rfl rfl (nb hn rfl) Try.underlying22 sz3 zr3 rfl rfl rfl (show _ = [.d (.int .i64 0), .d (.int .i64 0)] from by kernel_rfl) (by kernel_rfl) rfl rfl rfl rfl rfl)) fun _ => ?_
  refine stepW (s_call [(151, _), (152, _)] (fun hc => (by have := ProveTruth_ok L0 [1, 2]; rw [show proveB L0 [1, 2] = false from by kernel_rfl] at this; exact this)) rfl (guard_some rfl rfl rfl) rfl (nb hn rfl) (fun hc => ⟨⟨_, rfl, hc⟩, ⟨_, rfl, hc⟩, trivial⟩) rfl rfl (.refl _)) fun _ => ?_
  refine sq rfl rfl hn rfl (q_or rfl rfl rfl (by intro hB; first | (rw [hB]; rfl) | (rw [hB, hc]; rfl) | simp_all)) ?_
  refine run_nil ?_
  refine aend_then ?_
  refine awp_cond rfl (fun hb0 => ?_) (fun hb0 => ?_)
  · skip
    exfalso; simp [sameB_self] at hb0
  · skip
    refine awp_skip ?_
    refine aend_then ?_
    refine awp_seq ?_
    refine awp_region ?_
    refine stepW (s_call [] (fun _ => loan_ok [] [] (by simp)) rfl (guard_none rfl) rfl (nb hn rfl) (fun _ => trivial) rfl rfl (by first | exact .refl _ | (repeat (first | exact .refl _ | exact .nil _ | refine .cons ?_ ?_ | refine .agg ?_ | refine .tup ?_)))) fun _ => ?_
    refine stepW (s_call [] (fun _ => (by have := first_ok L0; rw [show (firstR L0).2 = 7 from by kernel_rfl] at this; exact this)) rfl (guard_none rfl) rfl (nb hn rfl) (fun _ => trivial) rfl rfl (.refl _)) fun _ => ?_
    refine sq rfl rfl hn rfl (q_move rfl rfl) ?_
    refine sq rfl rfl hn rfl (q_extractd rfl rfl rfl) ?_
    refine sq rfl rfl hn rfl (q_extractd rfl rfl rfl) ?_
    refine sq rfl rfl hn rfl (q_assign rfl rfl) ?_
    refine run_nil ?_
    refine aend_then ?_
    refine awp_seq ?_
    refine awp_region ?_
    refine stepW (s_call [] (fun _ => loan_ok [] [] (by simp)) rfl (guard_none rfl) rfl (nb hn rfl) (fun _ => trivial) rfl rfl (by first | exact .refl _ | (repeat (first | exact .refl _ | exact .nil _ | refine .cons ?_ ?_ | refine .agg ?_ | refine .tup ?_)))) fun _ => ?_
    refine stepW (s_buildSlice rfl rfl rfl (nb hn rfl) Try.underlying22 sz3 zr3 rfl rfl rfl (show _ = [.d (.int .i64 0), .d (.int .i64 0), .d (.int .i64 0)] from by kernel_rfl) (by kernel_rfl) rfl rfl rfl rfl rfl) fun _ => ?_
    refine stepW (s_call [] (fun _ => (by have := Play_ok L0 [3, 2, 3]; rw [show playE L0 [3, 2, 3] = 11 from by kernel_rfl] at this; exact this)) rfl (guard_none rfl) rfl (nb hn rfl) (fun _ => trivial) rfl rfl (.refl _)) fun _ => ?_
    refine sq rfl rfl hn rfl (q_move rfl rfl) ?_
    refine sq rfl rfl hn rfl (q_extractd rfl rfl rfl) ?_
    refine sq rfl rfl hn rfl (q_extractd rfl rfl rfl) ?_
    refine sq rfl rfl hn rfl (q_assign rfl rfl) ?_
    refine run_nil ?_
    refine aend_then ?_
    refine awp_seq ?_
    refine awp_region ?_
    refine stepW (s_call [] (fun _ => loan_ok [] [] (by simp)) rfl (guard_none rfl) rfl (nb hn rfl) (fun _ => trivial) rfl rfl (by first | exact .refl _ | (repeat (first | exact .refl _ | exact .nil _ | refine .cons ?_ ?_ | refine .agg ?_ | refine .tup ?_)))) fun _ => ?_
    refine stepW (s_buildSlice rfl rfl rfl (nb hn rfl) Try.underlying22 sz3 zr3 rfl rfl rfl (show _ = [.d (.int .i64 0), .d (.int .i64 0), .d (.int .i64 0)] from by kernel_rfl) (by kernel_rfl) rfl rfl rfl rfl rfl) fun _ => ?_
    refine stepW (s_call [] (fun _ => (by have := Play_ok L0 [0, 2, 3]; rw [show playE L0 [0, 2, 3] = 2 from by kernel_rfl] at this; exact this)) rfl (guard_none rfl) rfl (nb hn rfl) (fun _ => trivial) rfl rfl (.refl _)) fun _ => ?_
    refine sq rfl rfl hn rfl (q_move rfl rfl) ?_
    refine sq rfl rfl hn rfl (q_extractd rfl rfl rfl) ?_
    refine sq rfl rfl hn rfl (q_extractd rfl rfl rfl) ?_
    refine sq rfl rfl hn rfl (q_assign rfl rfl) ?_
    refine run_nil ?_
    refine aend_then ?_
    refine awp_seq ?_
    refine awp_region ?_
    refine stepW (s_call [] (fun _ => loan_ok [] [] (by simp)) rfl (guard_none rfl) rfl (nb hn rfl) (fun _ => trivial) rfl rfl (by first | exact .refl _ | (repeat (first | exact .refl _ | exact .nil _ | refine .cons ?_ ?_ | refine .agg ?_ | refine .tup ?_)))) fun _ => ?_
    refine stepW (s_callE (Holders_eff L0 2 0) rfl rfl rfl (nb hn rfl) (.d rfl) rfl (.refl _) trivial (fun _ => rfl) (fun _ _ => trivial)) fun x6 => ?_
    have he6 := nm_range L0_valid (by kernel_rfl) x6.2
    rw [he6]
    refine sq rfl rfl hn rfl (q_move rfl rfl) ?_
    refine sq rfl rfl hn rfl (q_extractd rfl rfl rfl) ?_
    refine sq rfl rfl hn rfl (q_extractd rfl rfl rfl) ?_
    refine sq rfl rfl hn rfl (q_assign rfl rfl) ?_
    refine run_nil ?_
    refine aend_then ?_
    refine awp_seq ?_
    refine awp_region ?_
    refine stepW (s_call [] (fun _ => loan_ok [] [] (by simp)) rfl (guard_none rfl) rfl (nb hn rfl) (fun _ => trivial) rfl rfl (by first | exact .refl _ | (repeat (first | exact .refl _ | exact .nil _ | refine .cons ?_ ?_ | refine .agg ?_ | refine .tup ?_)))) fun _ => ?_
    refine stepW (s_callE (InHand_eff L0 0 10) rfl rfl rfl (nb hn rfl) (.d rfl) rfl (.refl _) trivial (fun _ => rfl) (fun _ _ => trivial)) fun x7 => ?_
    have he7 := nm_range L0_valid (by kernel_rfl) x7.2
    rw [he7]
    refine sq rfl rfl hn rfl (q_move rfl rfl) ?_
    refine sq rfl rfl hn rfl (q_extractd rfl rfl rfl) ?_
    refine sq rfl rfl hn rfl (q_extractd rfl rfl rfl) ?_
    refine sq rfl rfl hn rfl (q_assign rfl rfl) ?_
    refine run_nil ?_
    refine aend_then ?_
    refine awp_seq ?_
    refine awp_region ?_
    refine stepW (s_call [] (fun _ => astray_ok) rfl (guard_none rfl) rfl (nb hn rfl) (fun _ => trivial) rfl rfl (.refl _)) fun _ => ?_
    refine stepW (s_call [] (fun _ => loan_ok astrayL [] (by decide)) rfl (guard_none rfl) rfl (nb hn rfl) (fun _ => trivial) rfl rfl (by first | exact .refl _ | (repeat (first | exact .refl _ | exact .nil _ | refine .cons ?_ ?_ | refine .agg ?_ | refine .tup ?_)))) fun _ => ?_
    refine stepW (s_callE (explain_ok LA) rfl rfl rfl (nb hn rfl) (.d rfl) rfl (.refl _) trivial (fun _ => rfl) (fun _ _ => trivial)) fun x8 => ?_
    rw [nm_expl x8]
    refine sq rfl rfl hn rfl (q_move rfl rfl) ?_
    refine sq rfl rfl hn rfl (q_extractd rfl rfl rfl) ?_
    refine sq rfl rfl hn rfl (q_extractd rfl rfl rfl) ?_
    refine sq rfl rfl hn rfl (q_assign rfl rfl) ?_
    refine run_nil ?_
    refine aend_then ?_
    refine awp_seq ?_
    refine awp_region ?_
    refine stepW (s_call [] (fun _ => astray_ok) rfl (guard_none rfl) rfl (nb hn rfl) (fun _ => trivial) rfl rfl (.refl _)) fun _ => ?_
    refine stepW (s_call [] (fun _ => loan_ok astrayL [] (by decide)) rfl (guard_none rfl) rfl (nb hn rfl) (fun _ => trivial) rfl rfl (by first | exact .refl _ | (repeat (first | exact .refl _ | exact .nil _ | refine .cons ?_ ?_ | refine .agg ?_ | refine .tup ?_)))) fun _ => ?_
    refine stepW (s_callE (Surely_eff LA 0 0) rfl rfl rfl (nb hn rfl) (.d rfl) rfl (.refl _) trivial (fun _ => rfl) (fun _ _ => trivial)) fun x9 => ?_
    rw [nm_sure x9]
    refine sq rfl rfl hn rfl (q_move rfl rfl) ?_
    refine sq rfl rfl hn rfl (q_extractd rfl rfl rfl) ?_
    refine sq rfl rfl hn rfl (q_extractd rfl rfl rfl) ?_
    refine sq rfl rfl hn rfl (q_assign rfl rfl) ?_
    refine run_nil ?_
    refine aend_then ?_
    refine awp_seq ?_
    refine awp_region ?_
    refine stepW (s_callE (loan_vec) rfl rfl rfl (nb hn rfl) (.d rfl) rfl (by first | exact .refl _ | (repeat (first | exact .refl _ | exact .d (.nil _) | exact .nil _ | refine .cons ?_ ?_ | refine .d ?_ | refine .agg ?_ | refine .tup ?_))) trivial (fun _ => rfl) (fun _ _ => trivial)) fun ⟨v1040, hv1040⟩ => ?_
    obtain ⟨bv1040, cv1040, rfl, hcv1040, hcm1040⟩ := vecL hv1040
    refine stepW (s_callE (loan_vec1) rfl rfl rfl (nb hn rfl) (.d rfl) rfl (by first | exact .refl _ | (repeat (first | exact .refl _ | exact .d (.nil _) | exact .nil _ | refine .cons ?_ ?_ | refine .d ?_ | refine .agg ?_ | refine .tup ?_))) trivial (fun _ => rfl) (fun _ _ => trivial)) fun ⟨v1041, hv1041⟩ => ?_
    obtain ⟨bv1041, cv1041, rfl, hcv1041, hcm1041⟩ := vecL hv1041
    refine stepW (s_callE (loan_vec2) rfl rfl rfl (nb hn rfl) (.d rfl) rfl (by first | exact .refl _ | (repeat (first | exact .refl _ | exact .d (.nil _) | exact .nil _ | refine .cons ?_ ?_ | refine .d ?_ | refine .agg ?_ | refine .tup ?_))) trivial (fun _ => rfl) (fun _ _ => trivial)) fun ⟨v1042, hv1042⟩ => ?_
    obtain ⟨bv1042, cv1042, rfl, hcv1042, hcm1042⟩ := vecL hv1042
    refine stepW (s_call [] (fun _ => loan_ok [] [] (by simp)) rfl (guard_none rfl) rfl (nb hn rfl) (fun _ => trivial) rfl rfl (by first | exact .refl _ | (repeat (first | exact .refl _ | exact .nil _ | refine .cons ?_ ?_ | refine .agg ?_ | refine .tup ?_)))) fun _ => ?_
    refine stepW (s_call [] (fun _ => loan_ok [] [] (by simp)) rfl (guard_none rfl) rfl (nb hn rfl) (fun _ => trivial) rfl rfl (by first | exact .refl _ | (repeat (first | exact .refl _ | exact .nil _ | refine .cons ?_ ?_ | refine .agg ?_ | refine .tup ?_)))) fun _ => ?_
    refine stepW (s_call [] (fun _ => loan_ok [] [] (by simp)) rfl (guard_none rfl) rfl (nb hn rfl) (fun _ => trivial) rfl rfl (by first | exact .refl _ | (repeat (first | exact .refl _ | exact .nil _ | refine .cons ?_ ?_ | refine .agg ?_ | refine .tup ?_)))) fun _ => ?_
    refine stepW (s_alloc 15 rfl rfl rfl (nb hn rfl) zr35 rfl rfl) fun b15 => ?_
    refine stepW (s_alloc 16 rfl rfl rfl (nb hn rfl) zr35 rfl rfl) fun b16 => ?_
    refine stepW (s_alloc 17 rfl rfl rfl (nb hn rfl) zr35 rfl rfl) fun b17 => ?_
    refine stepW (s_alloc 18 rfl rfl rfl (nb hn rfl) zr35 rfl rfl) fun b18 => ?_
    refine stepW (s_alloc 19 rfl rfl rfl (nb hn rfl) zr35 rfl rfl) fun b19 => ?_
    refine stepW (s_alloc 20 rfl rfl rfl (nb hn rfl) zr35 rfl rfl) fun b20 => ?_
    refine stepW (s_store rfl rfl rfl rfl rfl rfl (id := 15) rfl sz35 rfl (Nat.le_of_ble_eq_true rfl) rfl trivial) fun _ => ?_
    refine stepW (s_store rfl rfl rfl rfl rfl rfl (id := 16) rfl sz35 rfl (Nat.le_of_ble_eq_true rfl) rfl trivial) fun _ => ?_
    refine stepW (s_store rfl rfl rfl rfl rfl rfl (id := 17) rfl sz35 rfl (Nat.le_of_ble_eq_true rfl) rfl trivial) fun _ => ?_
    refine stepW (s_store rfl rfl rfl rfl rfl rfl (id := 18) rfl sz35 rfl (Nat.le_of_ble_eq_true rfl) rfl trivial) fun _ => ?_
    refine stepW (s_store rfl rfl rfl rfl rfl rfl (id := 19) rfl sz35 rfl (Nat.le_of_ble_eq_true rfl) rfl trivial) fun _ => ?_
    refine stepW (s_store rfl rfl rfl rfl rfl rfl (id := 20) rfl sz35 rfl (Nat.le_of_ble_eq_true rfl) rfl trivial) fun _ => ?_
    refine run_nil ?_
    refine aend_then ?_
    refine awp_seq ?_
    refine awp_region ?_
    refine sq rfl rfl hn rfl (q_fieldAddr rfl rfl Try.underlying35 rfl sz32) ?_
    refine sq rfl rfl hn rfl (q_load rfl rfl (id := 15) rfl Try.underlying32 rfl rfl sees0) ?_
    refine sq rfl rfl hn rfl (q_indexV (i := 0) rfl rfl rfl Try.underlying32 sz95 rfl (by omega)) ?_
    refine sq rfl rfl hn rfl (q_fieldAddr rfl rfl Try.underlying95 rfl sz3) ?_
    refine stepW (s_store1 rfl rfl rfl rfl rfl rfl (id := 1040) rfl sz3 (Nat.lt_of_lt_of_le (show 3 < 18 by decide) (by rw [List.length_append]; exact Nat.le_add_right _ _)) (show _ = ((([⟨1, 0, 0, 0, 1, 3⟩, ⟨0, 0, 1, 2, 2, 4⟩, ⟨2, 1, 1, 0, 3, 5⟩] : List Ent5).map entE).flatten).map TV.d ++ List.replicate ((cv1040 - 3) * 6) .any from rfl) trivial) fun _ => ?_
    refine run_nil ?_
    refine aend_then ?_
    refine awp_seq ?_
    refine awp_region ?_
    refine sq rfl rfl hn rfl (q_fieldAddr rfl rfl Try.underlying35 rfl sz32) ?_
    refine sq rfl rfl hn rfl (q_load rfl rfl (id := 16) rfl Try.underlying32 rfl rfl sees0) ?_
    refine sq rfl rfl hn rfl (q_indexV (i := 0) rfl rfl rfl Try.underlying32 sz95 rfl (by omega)) ?_
    refine sq rfl rfl hn rfl (q_fieldAddr rfl rfl Try.underlying95 rfl sz3) ?_
    refine stepW (s_store1 rfl rfl rfl rfl rfl rfl (id := 1041) rfl sz3 (Nat.lt_of_lt_of_le (show 0 < 18 by decide) (by rw [List.length_append]; exact Nat.le_add_right _ _)) (show _ = ((([⟨3, 0, 0, 1, 1, 3⟩, ⟨0, 0, 1, 2, 2, 4⟩, ⟨2, 1, 1, 0, 3, 5⟩] : List Ent5).map entE).flatten).map TV.d ++ List.replicate ((cv1041 - 3) * 6) .any from rfl) trivial) fun _ => ?_
    refine run_nil ?_
    refine aend_then ?_
    refine awp_seq ?_
    refine awp_region ?_
    refine sq rfl rfl hn rfl (q_fieldAddr rfl rfl Try.underlying35 rfl sz32) ?_
    refine sq rfl rfl hn rfl (q_load rfl rfl (id := 17) rfl Try.underlying32 rfl rfl sees0) ?_
    refine sq rfl rfl hn rfl (q_indexV (i := 0) rfl rfl rfl Try.underlying32 sz95 rfl (by omega)) ?_
    refine sq rfl rfl hn rfl (q_fieldAddr rfl rfl Try.underlying95 rfl sz45) ?_
    refine sq rfl rfl hn rfl (q_fieldAddr rfl rfl Try.underlying45 rfl sz3) ?_
    refine stepW (s_store1 rfl rfl rfl rfl rfl rfl (id := 1042) rfl sz3 (Nat.lt_of_lt_of_le (show 5 < 18 by decide) (by rw [List.length_append]; exact Nat.le_add_right _ _)) (show _ = ((([⟨1, 0, 0, 1, 1, 10⟩, ⟨0, 0, 1, 2, 2, 4⟩, ⟨2, 1, 1, 0, 3, 5⟩] : List Ent5).map entE).flatten).map TV.d ++ List.replicate ((cv1042 - 3) * 6) .any from rfl) trivial) fun _ => ?_
    refine run_nil ?_
    refine aend_then ?_
    refine awp_seq ?_
    refine awp_region ?_
    refine stepW (s_makeSlice (n := 7) 213 rfl rfl rfl (nb hn rfl) Try.underlying32 (show _ = some (some (.agg #[(.int .i64 0), (.int .i64 0), (.int .i64 0), (.int .i64 0), (.int .i64 0), (.int .i64 0)]), 6, 48) from by kernel_rfl) rfl rfl rfl (by decide) rfl rfl rfl rfl (by omega) (by omega) (by omega)) fun b213 => ?_
    refine sq rfl rfl hn rfl (q_fieldAddr rfl rfl Try.underlying35 rfl sz32) ?_
    refine stepW (s_store1 rfl rfl rfl rfl rfl rfl (id := 18) rfl sz32 (Nat.le_of_ble_eq_true rfl) rfl trivial) fun _ => ?_
    refine run_nil ?_
    refine aend_then ?_
    refine awp_seq ?_
    refine awp_region ?_
    refine sq rfl rfl hn rfl (q_fieldAddr rfl rfl Try.underlying35 rfl sz3) ?_
    refine stepW (s_store1 rfl rfl rfl rfl rfl rfl (id := 19) rfl sz3 (Nat.le_of_ble_eq_true rfl) rfl trivial) fun _ => ?_
    refine run_nil ?_
    refine aend_then ?_
    refine awp_seq ?_
    refine awp_region ?_
    refine sq rfl rfl hn rfl (q_buildd rfl bt92 rfl rfl rfl rfl rfl) ?_
    refine stepW (s_buildSlice rfl rfl rfl (nb hn rfl) Try.underlying33 sz92 zr92 rfl rfl rfl (show _ = [.d (.int .i64 0), .d (.int .i64 0), .d (.int .i64 0)] from by kernel_rfl) (by kernel_rfl) rfl rfl rfl rfl rfl) fun _ => ?_
    refine sq rfl rfl hn rfl (q_fieldAddr rfl rfl Try.underlying35 rfl sz33) ?_
    refine stepW (s_store1 rfl rfl rfl rfl rfl rfl (id := 20) rfl sz33 (Nat.le_of_ble_eq_true rfl) rfl trivial) fun _ => ?_
    refine run_nil ?_
    refine aend_then ?_
    refine awp_seq ?_
    refine gh_awp (gh_veccell (id := 15) (k := 2) (rid := 1040) (ds := (([⟨1, 0, 0, 0, 1, 3⟩, ⟨0, 0, 1, 2, 2, 4⟩, ⟨2, 1, 1, 0, 3, 5⟩] : List Ent5).map entE).flatten) (n := 3) (sz := 6) rfl rfl rfl rfl rfl (show _ = ([⟨1, 0, 0, 0, 1, 3⟩, ⟨0, 0, 1, 2, 2, 4⟩, ⟨2, 1, 1, 0, 3, 5⟩] : List Ent5).map entE from rfl) hcv1040 hcm1040) ?_
    refine gh_awp (gh_veccell (id := 16) (k := 2) (rid := 1041) (ds := (([⟨3, 0, 0, 1, 1, 3⟩, ⟨0, 0, 1, 2, 2, 4⟩, ⟨2, 1, 1, 0, 3, 5⟩] : List Ent5).map entE).flatten) (n := 3) (sz := 6) rfl rfl rfl rfl rfl (show _ = ([⟨3, 0, 0, 1, 1, 3⟩, ⟨0, 0, 1, 2, 2, 4⟩, ⟨2, 1, 1, 0, 3, 5⟩] : List Ent5).map entE from rfl) hcv1041 hcm1041) ?_
    refine gh_awp (gh_veccell (id := 17) (k := 2) (rid := 1042) (ds := (([⟨1, 0, 0, 1, 1, 10⟩, ⟨0, 0, 1, 2, 2, 4⟩, ⟨2, 1, 1, 0, 3, 5⟩] : List Ent5).map entE).flatten) (n := 3) (sz := 6) rfl rfl rfl rfl rfl (show _ = ([⟨1, 0, 0, 1, 1, 10⟩, ⟨0, 0, 1, 2, 2, 4⟩, ⟨2, 1, 1, 0, 3, 5⟩] : List Ent5).map entE from rfl) hcv1042 hcm1042) ?_
    refine gh_awp (gh_veccell (id := 18) (k := 2) (rid := 213) (ds := ((List.replicate 7 (⟨0, 0, 0, 0, 0, 0⟩ : Ent5)).map entE).flatten) (rest := []) (n := 7) (sz := 6) rfl rfl rfl rfl rfl (show _ = (List.replicate 7 (⟨0, 0, 0, 0, 0, 0⟩ : Ent5)).map entE from rfl) (Nat.le_refl _) (by decide)) ?_
    refine awp_region ?_
    refine sq rfl rfl hn rfl (q_move rfl rfl) ?_
    refine sq rfl rfl hn rfl (q_eql rfl rfl rfl) ?_
    refine sq rfl rfl hn rfl (q_move rfl rfl) ?_
    refine stepG [] (guard_some rfl rfl rfl) rfl (nb hn rfl) (fun hc => trivial) (fun hc => q_move rfl rfl) ?_
    refine stepG [(222, _)] (guard_some rfl rfl rfl) rfl (nb hn rfl) (fun hc => ⟨⟨_, rfl, hc⟩, trivial⟩) (fun hc => q_eql rfl rfl rfl) ?_
    refine sq rfl rfl hn rfl (q_and rfl rfl rfl (by intro hB; first | (rw [hB]; rfl) | (rw [hB, hc]; rfl) | simp_all)) ?_
    refine sq rfl rfl hn rfl (q_move rfl rfl) ?_
    refine stepG [] (guard_some rfl rfl rfl) rfl (nb hn rfl) (fun hc => trivial) (fun hc => q_move rfl rfl) ?_
    refine stepG [(226, _)] (guard_some rfl rfl rfl) rfl (nb hn rfl) (fun hc => ⟨⟨_, rfl, hc⟩, trivial⟩) (fun hc => q_eql rfl rfl rfl) ?_
    refine sq rfl rfl hn rfl (q_and rfl rfl rfl (by intro hB; first | (rw [hB]; rfl) | (rw [hB, hc]; rfl) | simp_all)) ?_
    refine sq rfl rfl hn rfl (q_move rfl rfl) ?_
    refine stepG [] (guard_some rfl rfl rfl) rfl (nb hn rfl) (fun hc => trivial) (fun hc => q_move rfl rfl) ?_
    refine stepG [(230, _)] (guard_some rfl rfl rfl) rfl (nb hn rfl) (fun hc => ⟨⟨_, rfl, hc⟩, trivial⟩) (fun hc => q_eql rfl rfl rfl) ?_
    refine sq rfl rfl hn rfl (q_and rfl rfl rfl (by intro hB; first | (rw [hB]; rfl) | (rw [hB, hc]; rfl) | simp_all)) ?_
    refine sq rfl rfl hn rfl (q_move rfl rfl) ?_
    refine stepG [] (guard_some rfl rfl rfl) rfl (nb hn rfl) (fun hc => trivial) (fun hc => q_move rfl rfl) ?_
    refine stepG [(234, _)] (guard_some rfl rfl rfl) rfl (nb hn rfl) (fun hc => ⟨⟨_, rfl, hc⟩, trivial⟩) (fun hc => q_eql rfl rfl rfl) ?_
    refine sq rfl rfl hn rfl (q_and rfl rfl rfl (by intro hB; first | (rw [hB]; rfl) | (rw [hB, hc]; rfl) | simp_all)) ?_
    refine sq rfl rfl hn rfl (q_move rfl rfl) ?_
    refine stepG [] (guard_some rfl rfl rfl) rfl (nb hn rfl) (fun hc => trivial) (fun hc => q_move rfl rfl) ?_
    refine stepG [(238, _)] (guard_some rfl rfl rfl) rfl (nb hn rfl) (fun hc => ⟨⟨_, rfl, hc⟩, trivial⟩) (fun hc => q_eql rfl rfl rfl) ?_
    refine sq rfl rfl hn rfl (q_and rfl rfl rfl (by intro hB; first | (rw [hB]; rfl) | (rw [hB, hc]; rfl) | simp_all)) ?_
    refine sq rfl rfl hn rfl (q_move rfl rfl) ?_
    refine stepG [] (guard_some rfl rfl rfl) rfl (nb hn rfl) (fun hc => trivial) (fun hc => q_move rfl rfl) ?_
    refine stepG [(242, _)] (guard_some rfl rfl rfl) rfl (nb hn rfl) (fun hc => ⟨⟨_, rfl, hc⟩, trivial⟩) (fun hc => q_eql rfl rfl rfl) ?_
    refine sq rfl rfl hn rfl (q_and rfl rfl rfl (by intro hB; first | (rw [hB]; rfl) | (rw [hB, hc]; rfl) | simp_all)) ?_
    refine sq rfl rfl hn rfl (q_move rfl rfl) ?_
    refine stepG [] (guard_some rfl rfl rfl) rfl (nb hn rfl) (fun hc => trivial) (fun hc => q_loadAd rfl rfl (id := 15) rfl Try.underlying35 rfl sz35 rfl rfl sees0) ?_
    refine stepW (s_call [(246, _)] (fun hc => CheckRegister_ok ⟨3, [0, 1], [⟨1, 0, 0, 0, 1, 3⟩, ⟨0, 0, 1, 2, 2, 4⟩, ⟨2, 1, 1, 0, 3, 5⟩], []⟩) rfl (guard_some rfl rfl rfl) rfl (nb hn rfl) (fun hc => ⟨⟨_, rfl, hc⟩, trivial⟩) rfl rfl (by first | exact .refl _ | (repeat (first | exact .refl _ | exact .nil _ | refine .cons ?_ ?_ | refine .agg ?_ | refine .tup ?_)))) fun _ => ?_
    refine stepG [(247, _)] (guard_some rfl rfl rfl) rfl (nb hn rfl) (fun hc => ⟨⟨_, rfl, hc⟩, trivial⟩) (fun hc => q_eql rfl rfl rfl) ?_
    refine sq rfl rfl hn rfl (q_and rfl rfl rfl (by intro hB; first | (rw [hB]; rfl) | (rw [hB, hc]; rfl) | simp_all)) ?_
    refine sq rfl rfl hn rfl (q_move rfl rfl) ?_
    refine stepG [] (guard_some rfl rfl rfl) rfl (nb hn rfl) (fun hc => trivial) (fun hc => q_loadAd rfl rfl (id := 16) rfl Try.underlying35 rfl sz35 rfl rfl sees0) ?_
    refine stepW (s_call [(251, _)] (fun hc => CheckRegister_ok ⟨3, [0, 1], [⟨3, 0, 0, 1, 1, 3⟩, ⟨0, 0, 1, 2, 2, 4⟩, ⟨2, 1, 1, 0, 3, 5⟩], []⟩) rfl (guard_some rfl rfl rfl) rfl (nb hn rfl) (fun hc => ⟨⟨_, rfl, hc⟩, trivial⟩) rfl rfl (by first | exact .refl _ | (repeat (first | exact .refl _ | exact .nil _ | refine .cons ?_ ?_ | refine .agg ?_ | refine .tup ?_)))) fun _ => ?_
    refine stepG [(252, _)] (guard_some rfl rfl rfl) rfl (nb hn rfl) (fun hc => ⟨⟨_, rfl, hc⟩, trivial⟩) (fun hc => q_eql rfl rfl rfl) ?_
    refine sq rfl rfl hn rfl (q_and rfl rfl rfl (by intro hB; first | (rw [hB]; rfl) | (rw [hB, hc]; rfl) | simp_all)) ?_
    refine sq rfl rfl hn rfl (q_move rfl rfl) ?_
    refine stepG [] (guard_some rfl rfl rfl) rfl (nb hn rfl) (fun hc => trivial) (fun hc => q_loadAd rfl rfl (id := 17) rfl Try.underlying35 rfl sz35 rfl rfl sees0) ?_
    refine stepW (s_call [(256, _)] (fun hc => CheckRegister_ok ⟨3, [0, 1], [⟨1, 0, 0, 1, 1, 10⟩, ⟨0, 0, 1, 2, 2, 4⟩, ⟨2, 1, 1, 0, 3, 5⟩], []⟩) rfl (guard_some rfl rfl rfl) rfl (nb hn rfl) (fun hc => ⟨⟨_, rfl, hc⟩, trivial⟩) rfl rfl (by first | exact .refl _ | (repeat (first | exact .refl _ | exact .nil _ | refine .cons ?_ ?_ | refine .agg ?_ | refine .tup ?_)))) fun _ => ?_
    refine stepG [(257, _)] (guard_some rfl rfl rfl) rfl (nb hn rfl) (fun hc => ⟨⟨_, rfl, hc⟩, trivial⟩) (fun hc => q_eql rfl rfl rfl) ?_
    refine sq rfl rfl hn rfl (q_and rfl rfl rfl (by intro hB; first | (rw [hB]; rfl) | (rw [hB, hc]; rfl) | simp_all)) ?_
    refine sq rfl rfl hn rfl (q_move rfl rfl) ?_
    refine stepG [] (guard_some rfl rfl rfl) rfl (nb hn rfl) (fun hc => trivial) (fun hc => q_loadAd rfl rfl (id := 18) rfl Try.underlying35 rfl sz35 rfl rfl sees0) ?_
    refine stepW (s_call [(261, _)] (fun hc => CheckRegister_ok ⟨3, [0, 1], List.replicate 7 ⟨0, 0, 0, 0, 0, 0⟩, []⟩) rfl (guard_some rfl rfl rfl) rfl (nb hn rfl) (fun hc => ⟨⟨_, rfl, hc⟩, trivial⟩) rfl rfl (by first | exact .refl _ | (repeat (first | exact .refl _ | exact .nil _ | refine .cons ?_ ?_ | refine .agg ?_ | refine .tup ?_)))) fun _ => ?_
    refine stepG [(262, _)] (guard_some rfl rfl rfl) rfl (nb hn rfl) (fun hc => ⟨⟨_, rfl, hc⟩, trivial⟩) (fun hc => q_eql rfl rfl rfl) ?_
    refine sq rfl rfl hn rfl (q_and rfl rfl rfl (by intro hB; first | (rw [hB]; rfl) | (rw [hB, hc]; rfl) | simp_all)) ?_
    refine sq rfl rfl hn rfl (q_move rfl rfl) ?_
    refine stepG [] (guard_some rfl rfl rfl) rfl (nb hn rfl) (fun hc => trivial) (fun hc => q_loadAd rfl rfl (id := 19) rfl Try.underlying35 rfl sz35 rfl rfl sees0) ?_
    refine stepW (s_call [(266, _)] (fun hc => CheckRegister_ok ⟨2, [0, 1], [⟨1, 0, 0, 1, 1, 3⟩, ⟨0, 0, 1, 2, 2, 4⟩, ⟨2, 1, 1, 0, 3, 5⟩], []⟩) rfl (guard_some rfl rfl rfl) rfl (nb hn rfl) (fun hc => ⟨⟨_, rfl, hc⟩, trivial⟩) rfl rfl (by first | exact .refl _ | (repeat (first | exact .refl _ | exact .nil _ | refine .cons ?_ ?_ | refine .agg ?_ | refine .tup ?_)))) fun _ => ?_
    refine stepG [(267, _)] (guard_some rfl rfl rfl) rfl (nb hn rfl) (fun hc => ⟨⟨_, rfl, hc⟩, trivial⟩) (fun hc => q_eql rfl rfl rfl) ?_
    refine sq rfl rfl hn rfl (q_and rfl rfl rfl (by intro hB; first | (rw [hB]; rfl) | (rw [hB, hc]; rfl) | simp_all)) ?_
    refine sq rfl rfl hn rfl (q_move rfl rfl) ?_
    refine stepG [] (guard_some rfl rfl rfl) rfl (nb hn rfl) (fun hc => trivial) (fun hc => q_loadAd rfl rfl (id := 20) rfl Try.underlying35 rfl sz35 rfl rfl sees0) ?_
    refine stepW (s_call [(271, _)] (fun hc => CheckRegister_ok ⟨3, [0, 1], [⟨1, 0, 0, 1, 1, 3⟩, ⟨0, 0, 1, 2, 2, 4⟩, ⟨2, 1, 1, 0, 3, 5⟩], [⟨2, 0, 0⟩]⟩) rfl (guard_some rfl rfl rfl) rfl (nb hn rfl) (fun hc => ⟨⟨_, rfl, hc⟩, trivial⟩) rfl rfl (by first | exact .refl _ | (repeat (first | exact .refl _ | exact .nil _ | refine .cons ?_ ?_ | refine .agg ?_ | refine .tup ?_)))) fun _ => ?_
    refine stepG [(272, _)] (guard_some rfl rfl rfl) rfl (nb hn rfl) (fun hc => ⟨⟨_, rfl, hc⟩, trivial⟩) (fun hc => q_eql rfl rfl rfl) ?_
    refine sq rfl rfl hn rfl (q_and rfl rfl rfl (by intro hB; first | (rw [hB]; rfl) | (rw [hB, hc]; rfl) | simp_all)) ?_
    refine sq rfl rfl hn rfl (q_move rfl rfl) ?_
    refine stepG [] (guard_some rfl rfl rfl) rfl (nb hn rfl) (fun hc => trivial) (fun hc => q_buildd rfl bt35 rfl rfl rfl rfl rfl) ?_
    refine stepW (s_call [(276, _)] (fun hc => CheckRegister_ok ⟨0, [], [], []⟩) rfl (guard_some rfl rfl rfl) rfl (nb hn rfl) (fun hc => ⟨⟨_, rfl, hc⟩, trivial⟩) rfl rfl (by first | exact .refl _ | (repeat (first | exact .refl _ | exact .nil _ | refine .cons ?_ ?_ | refine .agg ?_ | refine .tup ?_)))) fun _ => ?_
    refine stepG [(277, _)] (guard_some rfl rfl rfl) rfl (nb hn rfl) (fun hc => ⟨⟨_, rfl, hc⟩, trivial⟩) (fun hc => q_eql rfl rfl rfl) ?_
    refine sq rfl rfl hn rfl (q_and rfl rfl rfl (by intro hB; first | (rw [hB]; rfl) | (rw [hB, hc]; rfl) | simp_all)) ?_
    refine sq rfl rfl hn rfl (q_move rfl rfl) ?_
    refine stepW (s_call [] (fun hc => awake_ok) rfl (guard_some rfl rfl rfl) rfl (nb hn rfl) (fun hc => trivial) rfl rfl (.refl _)) fun _ => ?_
    refine sq rfl rfl hn rfl (q_and rfl rfl rfl (by intro hB; first | (rw [hB]; rfl) | (rw [hB, hc]; rfl) | simp_all)) ?_
    refine sq rfl rfl hn rfl (q_assign rfl rfl) ?_
    refine run_nil ?_
    refine aend_then ?_
    refine awp_ret ?_
    exact ret_E (.inl rfl) () (hands_1 rfl (.tmp rfl)) trivial
end Go.Proofs.Ytnbmmopjkkofoaa
namespace Go.Proofs.Ytnbmmopjkkofoaa
open Go.ChangeShapes Go.WideShapes Go.ChangeAt Go.RowKit
set_option linter.all false
theorem SheetNames_pure (xs : List D) (h : Sat [] xs) : PureAt Try.prog 12 xs (.bool true) := by
  obtain rfl := h
  exact PureAt.of_eff (ds := []) (SheetNames_eff)
set_option maxRecDepth 100000 in
theorem sheetNames_lifted (os : Os) (started : os.Started) (H : Type) (enc : TypeId × Value → H) :
    ReturnsInHanded {} Try.checked os 12 .any (Rows.sheetNamesSpec.pre6 enc Try.prog Try.f12 Rows.sheetNamesRow.domain false) (Rows.sheetNamesSpec.post enc Try.prog Try.f12 false true false false) := by
  refine returnsInHanded_of_change_sized (C := Try.checked) own started (by kernel_rfl) Try.func12
    (ChangeSpec.witness6 (enc := enc) (C := Try.checked) false ⟨#[], #[], []⟩ 8 (by kernel_rfl) (by kernel_rfl) (by kernel_rfl) (by kernel_rfl)) ?_
  intro W base args ds gs before hval hW _ hz _
  exact law_contract (ts := []) (Ss := []) laidOut (by rw [Try.params12]) (by kernel_rfl) (by kernel_rfl) Try.underlying4 rfl rfl
    (fun ds h => by match ds, h with | [], _ => rfl) trivial SheetNames_pure W base args ds gs before hval hW hz
theorem sheetNames_holds : Rows.SheetNamesSaid :=
  OpenClaim.holds_of_wide 12 Try.f12 rfl rfl rfl rfl rfl rfl rfl ⟨rfl, rfl, rfl, rfl, rfl⟩ rfl rfl rfl rfl rfl (by kernel_rfl) Try.func12 (by kernel_rfl)
    (of_decide_eq_true (by kernel_rfl)) (by unfold Func.isWrapper; first | (rw [if_pos (by decide +kernel)]; kernel_rfl) | (rw [if_neg (by decide +kernel)]; exact ⟨rfl, rfl⟩))
    (fun os started H enc _ => sheetNames_lifted os started H enc)
end Go.Proofs.Ytnbmmopjkkofoaa
