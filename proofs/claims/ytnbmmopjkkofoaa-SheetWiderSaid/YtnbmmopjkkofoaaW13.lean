/-
  Walks by the rules of Base, printed by gen.py: what is asked of the evenings. No condition: no statement of the seat is proved here.
-/
import Derived.Test.YtnbmmopjkkofoaaP3
import Derived.Laws.StructEq
namespace Go.Proofs.Ytnbmmopjkkofoaa
open Go.RowKit
set_option maxRecDepth 20000
set_option linter.all false

theorem eq45 (a b c d : Int) (w : World) : (binOp .eql 45 (.agg #[.int .i64 a, .int .i64 b]) (.agg #[.int .i64 c, .int .i64 d])).run Try.prog w = .ok (.bool (a == c && b == d)) w := by
  have u3 := Try.underlying3
  have a3 := Try.isAgg3
  have z3 := Try.sizeOf3
  have hS : Try.prog.underlying 45 = some (.struct (Try.prog.fieldsOf 45)) := by kernel_rfl
  have hp : Try.prog.stoodInHeld 45 = false := by kernel_rfl
  rw [run_eql_struct, show (10000 : Nat) = 9999 + 1 from rfl, run_equalIn_agg w 9999 45 _ _ hS hp]
  simp only [Program.fieldsOf, Try.underlying45]
  go_simp
  by_cases h1 : a = c <;> by_cases h2 : b = d <;> simp [h1, h2]
theorem guard45 (op : BinOp) (x y : Operand) (xs ys : Array Value) (w : World) : (eqGuard op 45 x y (.agg xs) (.agg ys)).run Try.prog w = .ok () w := run_eqGuard_agg w op 45 x y xs ys (by kernel_rfl)
theorem q_eql45 {Γ : Cx} {σ : St} {o : Oper} {R : Rel} {x y : Operand} {t' : TypeId} {a b c d : Int} (h : o.op = .binOp .eql 45 x y t') (hx : σ.ev x = some (true, .d (.agg [.int .i64 a, .int .i64 b]))) (hy : σ.ev y = some (true, .d (.agg [.int .i64 c, .int .i64 d]))) :
    QV Γ Try.prog σ o R (.d (.bool (a == c && b == d))) := fun A w F hs => by
  obtain ⟨vs, e1, h1, _⟩ := hs.ev hx
  obtain ⟨us, e2, h2, _⟩ := hs.ev hy
  obtain ⟨v1, vs1, rfl, q1, v2, vs2, rfl, q2, q3⟩ := h1
  obtain ⟨u1, us1, rfl, p1, u2, us2, rfl, p2, p3⟩ := h2
  simp only [Rep, RepVals] at q1 q2 q3 p1 p2 p3
  subst q1 q2 q3 p1 p2 p3
  exact ⟨.bool (a == c && b == d), rfl, fun w' _ => by
    simp only [execOp, h, e1, e2, Sem.run_bind, guard45, Result.andThen_ok, eq45, Sem.run_pure]⟩
abbrev L0 : Reg := loanR [] []
theorem L0_check : checkE L0 = 0 := by kernel_rfl
theorem L0_hold : refHolders L0 (allDays L0) 0 2 3 = [0, 1, 2] := by kernel_rfl
theorem L0_sure : refSurely (allDays L0) 2 4 2 = [0] := by kernel_rfl
theorem L0_inhand : refInHand L0 (allDays L0) 1 3 = (0, 2) := by kernel_rfl
theorem L0_owed : refOwed (allDays L0) 0 1 3 = (0, 1) := by kernel_rfl
theorem L0_ne : (allDays L0).isEmpty = false := by kernel_rfl
theorem L1_first : firstR (loanR astrayL []) = (3, 0) := by kernel_rfl
theorem L1_leave : leaveR (loanR astrayL []) = ([3], 0) := by kernel_rfl

theorem ask_ok {r : Reg} {is : Bool} {N : Nat} {out : List Nat} {e : Int} (v : Valid r) (his : is = true) (hN : N ≤ 9) (h : AskP r is (N : Nat) out e) : EvOK r N out ∧ e = if allDays r = [] then 9 else 0 := by
  have h0 := checkE_of v
  rcases h with ⟨k, _, _⟩ | ⟨_, k, _⟩ | ⟨_, _, n, hn, h9, hev, he⟩
  · exact (k h0).elim
  · rw [his] at k; simp [dayB] at k; omega
  · obtain rfl : N = n := by omega
    refine ⟨hev, he.trans ?_⟩
    by_cases ho : out = []
    · rw [if_pos ((ev_nil v hN hev).1 ho), ho]; rfl
    · rw [if_neg (fun e => ho ((ev_nil v hN hev).2 e))]
      cases out with
      | nil => exact (ho rfl).elim
      | cons _ _ => rfl
theorem L0_valid : Valid L0 := valid_of L0_check
theorem L0_all : allDays L0 ≠ [] := fun e => by have := L0_ne; rw [e] at this; cases this
theorem L0_ask {is : Bool} {N : Nat} {out : List Nat} {e : Int} (his : is = true) (hN : N ≤ 9) (h : AskP L0 is (N : Nat) out e) : EvOK L0 N out ∧ e = 0 ∧ out ≠ [] := by
  obtain ⟨h1, h2⟩ := ask_ok L0_valid his hN h
  rw [if_neg L0_all] at h2
  exact ⟨h1, h2, fun e => L0_all ((ev_nil L0_valid hN h1).1 e)⟩
theorem aw_hold (x : AskX L0 (sheetB L0 0) 2) : x.1.2 = 0 ∧ holdR L0 0 x.1.1 = [0, 1, 2] := by
  obtain ⟨h1, h2, h3⟩ := L0_ask (N := 2) rfl (by omega) x.2
  exact ⟨h2, (holders_eq (N := 2) (s := 0) L0_valid (by omega) (by decide) h1).trans L0_hold⟩
theorem aw_sure (x : AskX L0 (houseB L0 2) 4) : x.1.2 = 0 ∧ surelyR L0 2 x.1.1 = [0] := by
  obtain ⟨h1, h2, h3⟩ := L0_ask (N := 4) rfl (by omega) x.2
  exact ⟨h2, (surely_eq L0_valid (by omega) h3 h1).trans L0_sure⟩
theorem aw_held (x : AskX L0 (houseB L0 1) 3) : x.1.2 = 0 ∧ heldR L0 1 x.1.1 = (0, 2) := by
  obtain ⟨h1, h2, h3⟩ := L0_ask (N := 3) rfl (by omega) x.2
  exact ⟨h2, (held_eq L0_valid (by omega) h3 h1).trans L0_inhand⟩
theorem aw_owed (x : AskX L0 (houseB L0 0 && houseB L0 1) 3) : x.1.2 = 0 ∧ owedR L0 0 1 x.1.1 = (0, 1) := by
  obtain ⟨h1, h2, h3⟩ := L0_ask (N := 3) rfl (by omega) x.2
  exact ⟨h2, (owed_eq (a := 0) (b := 1) L0_valid (by omega) (by omega) (by omega) h3 h1).trans L0_owed⟩
theorem prove_of {r : Reg} {t : List Int} {ds : List Nat} (v : Valid r) (T : Truth r t ds) : proveB r t = true := by
  unfold proveB
  rw [checkE_of v, T.dated, T.play]
  simp [T.seen]
theorem aw_expl (x : ExplX L0) : x.1.2 = 0 ∧ proveB L0 x.1.1 = true := by
  have h0 := L0_check
  rcases x.2 with ⟨k, _⟩ | ⟨_, k, _⟩ | ⟨_, _, h, _, n, m, hp⟩
  · exact (k h0).elim
  · rw [(goes_all_iff L0_valid).2 L0_all] at k; cases k
  · obtain ⟨ds, T⟩ := truth_of_path L0_valid hp
    exact ⟨h, prove_of L0_valid T⟩


theorem awake_eff  : EffAt Try.prog 15 [] [] (X := Unit) (fun _ => .d (.bool true)) (fun _ => []) := by
  refine EffAt.of_awp Try.func15 rfl (by kernel_rfl) rfl fun Γ hn => ?_
  refine awp_seq ?_
  refine awp_region ?_
  refine sq rfl rfl hn rfl (q_assign rfl rfl) ?_
  refine run_nil ?_
  refine aend_then ?_
  refine awp_seq ?_
  refine awp_region ?_
  refine stepW (s_call [] (fun _ => loan_ok [] [] (by simp)) rfl (guard_none rfl) rfl (nb hn rfl) (fun _ => trivial) rfl rfl (by first | exact .refl _ | (repeat (first | exact .refl _ | exact .nil _ | refine .cons ?_ ?_ | refine .agg ?_ | refine .tup ?_)))) fun _ => ?_
  refine stepW (s_callE (Holders_eff L0 0 2) rfl rfl rfl (nb hn rfl) (.d rfl) rfl (.refl _) trivial (fun _ => rfl) (fun _ _ => trivial)) fun x1 => ?_
  obtain ⟨he1, hh1⟩ := aw_hold x1
  rw [he1, hh1]
  refine sq rfl rfl hn rfl (q_move rfl rfl) ?_
  refine sq rfl rfl hn rfl (q_extractd rfl rfl rfl) ?_
  refine sq rfl rfl hn rfl (q_extractd rfl rfl rfl) ?_
  refine sq rfl rfl hn rfl (q_assign rfl rfl) ?_
  refine sq rfl rfl hn rfl (q_assign rfl rfl) ?_
  refine run_nil ?_
  refine aend_then ?_
  refine awp_seq ?_
  refine awp_region ?_
  refine stepW (s_call [] (fun _ => loan_ok [] [] (by simp)) rfl (guard_none rfl) rfl (nb hn rfl) (fun _ => trivial) rfl rfl (by first | exact .refl _ | (repeat (first | exact .refl _ | exact .nil _ | refine .cons ?_ ?_ | refine .agg ?_ | refine .tup ?_)))) fun _ => ?_
  refine stepW (s_callE (InHand_eff L0 1 3) rfl rfl rfl (nb hn rfl) (.d rfl) rfl (.refl _) trivial (fun _ => rfl) (fun _ _ => trivial)) fun x2 => ?_
  obtain ⟨he2, hh2⟩ := aw_held x2
  rw [he2, hh2]
  refine sq rfl rfl hn rfl (q_move rfl rfl) ?_
  refine sq rfl rfl hn rfl (q_extractd rfl rfl rfl) ?_
  refine sq rfl rfl hn rfl (q_extractd rfl rfl rfl) ?_
  refine stepW (s_alloc 3 rfl rfl rfl (nb hn rfl) zr45 rfl rfl) fun b3 => ?_
  refine stepW (s_store rfl rfl rfl rfl rfl rfl (id := 3) rfl sz45 rfl (Nat.le_of_ble_eq_true rfl) rfl trivial) fun _ => ?_
  refine sq rfl rfl hn rfl (q_assign rfl rfl) ?_
  refine run_nil ?_
  refine aend_then ?_
  refine awp_seq ?_
  refine awp_region ?_
  refine stepW (s_call [] (fun _ => loan_ok [] [] (by simp)) rfl (guard_none rfl) rfl (nb hn rfl) (fun _ => trivial) rfl rfl (by first | exact .refl _ | (repeat (first | exact .refl _ | exact .nil _ | refine .cons ?_ ?_ | refine .agg ?_ | refine .tup ?_)))) fun _ => ?_
  refine stepW (s_callE (Owed_eff L0 0 1 3) rfl rfl rfl (nb hn rfl) (.d rfl) rfl (.refl _) trivial (fun _ => rfl) (fun _ _ => trivial)) fun x3 => ?_
  obtain ⟨he3, hh3⟩ := aw_owed x3
  rw [he3, hh3]
  refine sq rfl rfl hn rfl (q_move rfl rfl) ?_
  refine sq rfl rfl hn rfl (q_extractd rfl rfl rfl) ?_
  refine sq rfl rfl hn rfl (q_extractd rfl rfl rfl) ?_
  refine stepW (s_alloc 5 rfl rfl rfl (nb hn rfl) zr45 rfl rfl) fun b5 => ?_
  refine stepW (s_store rfl rfl rfl rfl rfl rfl (id := 5) rfl sz45 rfl (Nat.le_of_ble_eq_true rfl) rfl trivial) fun _ => ?_
  refine sq rfl rfl hn rfl (q_assign rfl rfl) ?_
  refine run_nil ?_
  refine aend_then ?_
  refine awp_seq ?_
  refine awp_region ?_
  refine stepW (s_call [] (fun _ => loan_ok [] [] (by simp)) rfl (guard_none rfl) rfl (nb hn rfl) (fun _ => trivial) rfl rfl (by first | exact .refl _ | (repeat (first | exact .refl _ | exact .nil _ | refine .cons ?_ ?_ | refine .agg ?_ | refine .tup ?_)))) fun _ => ?_
  refine stepW (s_callE (Surely_eff L0 2 4) rfl rfl rfl (nb hn rfl) (.d rfl) rfl (.refl _) trivial (fun _ => rfl) (fun _ _ => trivial)) fun x4 => ?_
  obtain ⟨he4, hh4⟩ := aw_sure x4
  rw [he4, hh4]
  refine sq rfl rfl hn rfl (q_move rfl rfl) ?_
  refine sq rfl rfl hn rfl (q_extractd rfl rfl rfl) ?_
  refine sq rfl rfl hn rfl (q_extractd rfl rfl rfl) ?_
  refine sq rfl rfl hn rfl (q_assign rfl rfl) ?_
  refine sq rfl rfl hn rfl (q_assign rfl rfl) ?_
  refine run_nil ?_
  refine aend_then ?_
  refine awp_seq ?_
  refine awp_region ?_
  refine stepW (s_call [] (fun _ => astray_ok) rfl (guard_none rfl) rfl (nb hn rfl) (fun _ => trivial) rfl rfl (.refl _)) fun _ => ?_
  refine stepW (s_call [] (fun _ => loan_ok astrayL [] (by decide)) rfl (guard_none rfl) rfl (nb hn rfl) (fun _ => trivial) rfl rfl (by first | exact .refl _ | (repeat (first | exact .refl _ | exact .nil _ | refine .cons ?_ ?_ | refine .agg ?_ | refine .tup ?_)))) fun _ => ?_
  refine stepW (s_call [] (fun _ => (by have := leave_ok (loanR astrayL []); rw [L1_leave] at this; exact this)) rfl (guard_none rfl) rfl (nb hn rfl) (fun _ => trivial) rfl rfl (.refl _)) fun _ => ?_
  refine sq rfl rfl hn rfl (q_move rfl rfl) ?_
  refine sq rfl rfl hn rfl (q_extractd rfl rfl rfl) ?_
  refine sq rfl rfl hn rfl (q_extractd rfl rfl rfl) ?_
  refine sq rfl rfl hn rfl (q_assign rfl rfl) ?_
  refine sq rfl rfl hn rfl (q_assign rfl rfl) ?_
  refine run_nil ?_
  refine aend_then ?_
  refine awp_seq ?_
  refine awp_region ?_
  refine stepW (s_call [] (fun _ => astray_ok) rfl (guard_none rfl) rfl (nb hn rfl) (fun _ => trivial) rfl rfl (.refl _)) fun _ => ?_
  refine stepW (s_call [] (fun _ => loan_ok astrayL [] (by decide)) rfl (guard_none rfl) rfl (nb hn rfl) (fun _ => trivial) rfl rfl (by first | exact .refl _ | (repeat (first | exact .refl _ | exact .nil _ | refine .cons ?_ ?_ | refine .agg ?_ | refine .tup ?_)))) fun _ => ?_
  refine stepW (s_call [] (fun _ => (by have := first_ok (loanR astrayL []); rw [L1_first] at this; exact this)) rfl (guard_none rfl) rfl (nb hn rfl) (fun _ => trivial) rfl rfl (.refl _)) fun _ => ?_
  refine sq rfl rfl hn rfl (q_move rfl rfl) ?_
  refine sq rfl rfl hn rfl (q_extractd rfl rfl rfl) ?_
  refine sq rfl rfl hn rfl (q_extractd rfl rfl rfl) ?_
  refine sq rfl rfl hn rfl (q_assign rfl rfl) ?_
  refine sq rfl rfl hn rfl (q_assign rfl rfl) ?_
  refine run_nil ?_
  refine aend_then ?_
  refine awp_seq ?_
  refine awp_region ?_
  refine stepW (s_call [] (fun _ => loan_ok [] [] (by simp)) rfl (guard_none rfl) rfl (nb hn rfl) (fun _ => trivial) rfl rfl (by first | exact .refl _ | (repeat (first | exact .refl _ | exact .nil _ | refine .cons ?_ ?_ | refine .agg ?_ | refine .tup ?_)))) fun _ => ?_
  refine stepW (s_callE (explain_ok L0) rfl rfl rfl (nb hn rfl) (.d rfl) rfl (.refl _) trivial (fun _ => rfl) (fun _ _ => trivial)) fun x7 => ?_
  obtain ⟨he7, hh7⟩ := aw_expl x7
  rw [he7]
  refine sq rfl rfl hn rfl (q_move rfl rfl) ?_
  refine sq rfl rfl hn rfl (q_extractd rfl rfl rfl) ?_
  refine sq rfl rfl hn rfl (q_extractd rfl rfl rfl) ?_
  refine sq rfl rfl hn rfl (q_assign rfl rfl) ?_
  refine sq rfl rfl hn rfl (q_assign rfl rfl) ?_
  refine run_nil ?_
  refine aend_then ?_
  refine awp_seq ?_
  refine awp_region ?_
  refine sq rfl rfl hn rfl (q_move rfl rfl) ?_
  refine sq rfl rfl hn rfl (q_eql rfl rfl rfl) ?_
  refine sq rfl rfl hn rfl (q_move rfl rfl) ?_
  refine stepG [] (guard_some rfl rfl rfl) rfl (nb hn rfl) (fun hc => trivial) (fun hc => q_move rfl rfl) ?_
  refine stepW (s_guard (guard_some rfl rfl rfl) rfl (nb hn rfl) (s_buildSlice rfl rfl rfl (nb hn rfl) Try.underlying22 sz3 zr3 rfl rfl rfl (show _ = [.d (.int .i64 0), .d (.int .i64 0), .d (.int .i64 0)] from by kernel_rfl) (by kernel_rfl) rfl rfl rfl rfl rfl)) fun _ => ?_
  refine stepW (s_call [(55, _), (56, _)] (fun hc => Same_ok [0, 1, 2] [0, 1, 2]) rfl (guard_some rfl rfl rfl) rfl (nb hn rfl) (fun hc => ⟨⟨_, rfl, hc⟩, ⟨_, rfl, hc⟩, trivial⟩) rfl rfl (.refl _)) fun _ => ?_
  refine sq rfl rfl hn rfl (q_and rfl rfl rfl (by simp_all)) ?_
  refine sq rfl rfl hn rfl (q_move rfl rfl) ?_
  refine stepG [] (guard_some rfl rfl rfl) rfl (nb hn rfl) (fun hc => trivial) (fun hc => q_move rfl rfl) ?_
  refine stepG [(60, _)] (guard_some rfl rfl rfl) rfl (nb hn rfl) (fun hc => ⟨⟨_, rfl, hc⟩, trivial⟩) (fun hc => q_eql rfl rfl rfl) ?_
  refine sq rfl rfl hn rfl (q_and rfl rfl rfl (by simp_all)) ?_
  refine sq rfl rfl hn rfl (q_move rfl rfl) ?_
  refine stepG [] (guard_some rfl rfl rfl) rfl (nb hn rfl) (fun hc => trivial) (fun hc => q_loadAd rfl rfl (id := 3) rfl Try.underlying45 rfl sz45 rfl rfl sees0) ?_
  refine stepG [] (guard_some rfl rfl rfl) rfl (nb hn rfl) (fun hc => trivial) (fun hc => q_buildd rfl bt45 rfl rfl rfl rfl rfl) ?_
  refine stepG [(64, _), (65, _)] (guard_some rfl rfl rfl) rfl (nb hn rfl) (fun hc => ⟨⟨_, rfl, hc⟩, ⟨_, rfl, hc⟩, trivial⟩) (fun hc => q_eql45 rfl rfl rfl) ?_
  refine sq rfl rfl hn rfl (q_and rfl rfl rfl (by simp_all)) ?_
  refine sq rfl rfl hn rfl (q_move rfl rfl) ?_
  refine stepG [] (guard_some rfl rfl rfl) rfl (nb hn rfl) (fun hc => trivial) (fun hc => q_move rfl rfl) ?_
  refine stepG [(69, _)] (guard_some rfl rfl rfl) rfl (nb hn rfl) (fun hc => ⟨⟨_, rfl, hc⟩, trivial⟩) (fun hc => q_eql rfl rfl rfl) ?_
  refine sq rfl rfl hn rfl (q_and rfl rfl rfl (by simp_all)) ?_
  refine sq rfl rfl hn rfl (q_move rfl rfl) ?_
  refine stepG [] (guard_some rfl rfl rfl) rfl (nb hn rfl) (fun hc => trivial) (fun hc => q_loadAd rfl rfl (id := 5) rfl Try.underlying45 rfl sz45 rfl rfl sees0) ?_
  refine stepG [] (guard_some rfl rfl rfl) rfl (nb hn rfl) (fun hc => trivial) (fun hc => q_buildd rfl bt45 rfl rfl rfl rfl rfl) ?_
  refine stepG [(73, _), (74, _)] (guard_some rfl rfl rfl) rfl (nb hn rfl) (fun hc => ⟨⟨_, rfl, hc⟩, ⟨_, rfl, hc⟩, trivial⟩) (fun hc => q_eql45 rfl rfl rfl) ?_
  refine sq rfl rfl hn rfl (q_and rfl rfl rfl (by simp_all)) ?_
  refine sq rfl rfl hn rfl (q_move rfl rfl) ?_
  refine stepG [] (guard_some rfl rfl rfl) rfl (nb hn rfl) (fun hc => trivial) (fun hc => q_move rfl rfl) ?_
  refine stepG [(78, _)] (guard_some rfl rfl rfl) rfl (nb hn rfl) (fun hc => ⟨⟨_, rfl, hc⟩, trivial⟩) (fun hc => q_eql rfl rfl rfl) ?_
  refine sq rfl rfl hn rfl (q_and rfl rfl rfl (by simp_all)) ?_
  refine sq rfl rfl hn rfl (q_move rfl rfl) ?_
  refine stepG [] (guard_some rfl rfl rfl) rfl (nb hn rfl) (fun hc => trivial) (fun hc => q_move rfl rfl) ?_
  refine stepW (s_guard (guard_some rfl rfl rfl) rfl (nb hn rfl) (s_buildSlice rfl rfl rfl (nb hn rfl) Try.underlying22 sz3 zr3 rfl rfl rfl (show _ = [.d (.int .i64 0)] from by kernel_rfl) (by kernel_rfl) rfl rfl rfl rfl rfl)) fun _ => ?_
  refine stepW (s_call [(82, _), (83, _)] (fun hc => Same_ok [0] [0]) rfl (guard_some rfl rfl rfl) rfl (nb hn rfl) (fun hc => ⟨⟨_, rfl, hc⟩, ⟨_, rfl, hc⟩, trivial⟩) rfl rfl (.refl _)) fun _ => ?_
  refine sq rfl rfl hn rfl (q_and rfl rfl rfl (by simp_all)) ?_
  refine sq rfl rfl hn rfl (q_move rfl rfl) ?_
  refine stepG [] (guard_some rfl rfl rfl) rfl (nb hn rfl) (fun hc => trivial) (fun hc => q_move rfl rfl) ?_
  refine stepG [(87, _)] (guard_some rfl rfl rfl) rfl (nb hn rfl) (fun hc => ⟨⟨_, rfl, hc⟩, trivial⟩) (fun hc => q_eql rfl rfl rfl) ?_
  refine sq rfl rfl hn rfl (q_and rfl rfl rfl (by simp_all)) ?_
  refine sq rfl rfl hn rfl (q_move rfl rfl) ?_
  refine stepG [] (guard_some rfl rfl rfl) rfl (nb hn rfl) (fun hc => trivial) (fun hc => q_move rfl rfl) ?_
  refine stepW (s_guard (guard_some rfl rfl rfl) rfl (nb hn rfl) (s_buildSlice rfl rfl rfl (nb hn rfl) Try.underlying22 sz3 zr3 rfl rfl rfl (show _ = [.d (.int .i64 0)] from by kernel_rfl) (by kernel_rfl) rfl rfl rfl rfl rfl)) fun _ => ?_
  refine stepW (s_call [(91, _), (92, _)] (fun hc => Same_ok [3] [3]) rfl (guard_some rfl rfl rfl) rfl (nb hn rfl) (fun hc => ⟨⟨_, rfl, hc⟩, ⟨_, rfl, hc⟩, trivial⟩) rfl rfl (.refl _)) fun _ => ?_
  refine sq rfl rfl hn rfl (q_and rfl rfl rfl (by simp_all)) ?_
  refine sq rfl rfl hn rfl (q_move rfl rfl) ?_
  refine stepG [] (guard_some rfl rfl rfl) rfl (nb hn rfl) (fun hc => trivial) (fun hc => q_move rfl rfl) ?_
  refine stepG [(96, _)] (guard_some rfl rfl rfl) rfl (nb hn rfl) (fun hc => ⟨⟨_, rfl, hc⟩, trivial⟩) (fun hc => q_eql rfl rfl rfl) ?_
  refine sq rfl rfl hn rfl (q_and rfl rfl rfl (by simp_all)) ?_
  refine sq rfl rfl hn rfl (q_move rfl rfl) ?_
  refine stepG [] (guard_some rfl rfl rfl) rfl (nb hn rfl) (fun hc => trivial) (fun hc => q_move rfl rfl) ?_
  refine stepG [(100, _)] (guard_some rfl rfl rfl) rfl (nb hn rfl) (fun hc => ⟨⟨_, rfl, hc⟩, trivial⟩) (fun hc => q_eql rfl rfl rfl) ?_
  refine sq rfl rfl hn rfl (q_and rfl rfl rfl (by simp_all)) ?_
  refine sq rfl rfl hn rfl (q_move rfl rfl) ?_
  refine stepG [] (guard_some rfl rfl rfl) rfl (nb hn rfl) (fun hc => trivial) (fun hc => q_move rfl rfl) ?_
  refine stepG [(104, _)] (guard_some rfl rfl rfl) rfl (nb hn rfl) (fun hc => ⟨⟨_, rfl, hc⟩, trivial⟩) (fun hc => q_eql rfl rfl rfl) ?_
  refine sq rfl rfl hn rfl (q_and rfl rfl rfl (by simp_all)) ?_
  refine sq rfl rfl hn rfl (q_move rfl rfl) ?_
  refine stepW (s_call [] (fun hc => loan_ok [] [] (by simp)) rfl (guard_some rfl rfl rfl) rfl (nb hn rfl) (fun hc => trivial) rfl rfl (by first | exact .refl _ | (repeat (first | exact .refl _ | exact .nil _ | refine .cons ?_ ?_ | refine .agg ?_ | refine .tup ?_)))) fun _ => ?_
  refine stepG [] (guard_some rfl rfl rfl) rfl (nb hn rfl) (fun hc => trivial) (fun hc => q_move rfl rfl) ?_
  refine stepW (s_call [(108, _), (109, _)] (fun hc => ProveTruth_ok L0 x7.1.1) rfl (guard_some rfl rfl rfl) rfl (nb hn rfl) (fun hc => ⟨⟨_, rfl, hc⟩, ⟨_, rfl, hc⟩, trivial⟩) rfl rfl (.refl _)) fun _ => ?_
  refine sq rfl rfl hn rfl (q_and rfl rfl rfl (by simp_all)) ?_
  refine sq rfl rfl hn rfl (q_assign rfl rfl) ?_
  refine run_nil ?_
  refine aend_then ?_
  refine awp_ret ?_
  exact ret_E (.inl rfl) () ((hands_1 rfl (.tmp rfl)).eq (by simp [hh7, sameB_self])) trivial
end Go.Proofs.Ytnbmmopjkkofoaa
