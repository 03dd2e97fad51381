/-
  A part of the proof that contangolaw.TapeNames returns true: what the last text needs, and no more. No condition: no statement of the seat is proved here.
-/
import Derived.Laws.StructEq
import Derived.Test.YtplpcamcnppibaaGreatDoorTapeNamesL
namespace Go.Proofs.YtplpcamcnppibaaGreatDoor
open Go.RowKit
set_option linter.all false
set_option maxRecDepth 20000
theorem eqveql45 (a b c e : Int) (w : World) : (binOp .eql 45 (.agg #[.int .i64 a, .int .i64 b]) (.agg #[.int .i64 c, .int .i64 e])).run Tryz.prog w = .ok (.bool ((a == c && b == e))) w := by
  have u3 := Tryz.underlying3
  have a3 := Tryz.isAgg3
  have z3 := Tryz.sizeOf3
  have hS : Tryz.prog.underlying 45 = some (.struct (Tryz.prog.fieldsOf 45)) := by kernel_rfl
  have hp : Tryz.prog.stoodInHeld 45 = false := by kernel_rfl
  rw [run_eql_struct, show (10000 : Nat) = 9999 + 1 from rfl, run_equalIn_agg w 9999 45 _ _ hS hp]
  simp only [Program.fieldsOf, Tryz.underlying45]
  go_simp
  by_cases h1 : a = c <;> by_cases h2 : b = e <;> simp [h1, h2]
theorem q_eql45 {Γ : Cx} {σ : St} {o : Oper} {R : Rel} {x y : Operand} {t' : TypeId} {a b c d : Int} (h : o.op = .binOp .eql 45 x y t') (hx : σ.ev x = some (true, .d (.agg [.int .i64 a, .int .i64 b]))) (hy : σ.ev y = some (true, .d (.agg [.int .i64 c, .int .i64 d]))) :
    QV Γ Tryz.prog σ o R (.d (.bool ((a == c && b == d)))) := fun A w F hs => by
  obtain ⟨vs, e1, h1, _⟩ := hs.ev hx
  obtain ⟨us, e2, h2, _⟩ := hs.ev hy
  obtain ⟨v1, vs1, rfl, q1, v2, vs2, rfl, q2, q3⟩ := h1
  obtain ⟨u1, us1, rfl, p1, u2, us2, rfl, p2, p3⟩ := h2
  simp only [Rep, RepVals] at q1 q2 q3 p1 p2 p3
  subst q1 q2 q3 p1 p2 p3
  exact ⟨.bool ((a == c && b == d)), rfl, fun w' _ => by
    simp only [execOp, h, e1, e2, Sem.run_bind, run_eqGuard_agg w' .eql 45 x y _ _ (show Tryz.prog.eqGuardType Tryz.prog.depth 45 = false by kernel_rfl), Result.andThen_ok, eqveql45, Sem.run_pure]⟩
theorem eqvneq45 (a b c e : Int) (w : World) : (binOp .neq 45 (.agg #[.int .i64 a, .int .i64 b]) (.agg #[.int .i64 c, .int .i64 e])).run Tryz.prog w = .ok (.bool (!(a == c && b == e))) w := by
  have u3 := Tryz.underlying3
  have a3 := Tryz.isAgg3
  have z3 := Tryz.sizeOf3
  have hS : Tryz.prog.underlying 45 = some (.struct (Tryz.prog.fieldsOf 45)) := by kernel_rfl
  have hp : Tryz.prog.stoodInHeld 45 = false := by kernel_rfl
  rw [run_neq_struct, show (10000 : Nat) = 9999 + 1 from rfl, run_equalIn_agg w 9999 45 _ _ hS hp]
  simp only [Program.fieldsOf, Tryz.underlying45]
  go_simp
  by_cases h1 : a = c <;> by_cases h2 : b = e <;> simp [h1, h2]
theorem q_neq45 {Γ : Cx} {σ : St} {o : Oper} {R : Rel} {x y : Operand} {t' : TypeId} {a b c d : Int} (h : o.op = .binOp .neq 45 x y t') (hx : σ.ev x = some (true, .d (.agg [.int .i64 a, .int .i64 b]))) (hy : σ.ev y = some (true, .d (.agg [.int .i64 c, .int .i64 d]))) :
    QV Γ Tryz.prog σ o R (.d (.bool (!(a == c && b == d)))) := fun A w F hs => by
  obtain ⟨vs, e1, h1, _⟩ := hs.ev hx
  obtain ⟨us, e2, h2, _⟩ := hs.ev hy
  obtain ⟨v1, vs1, rfl, q1, v2, vs2, rfl, q2, q3⟩ := h1
  obtain ⟨u1, us1, rfl, p1, u2, us2, rfl, p2, p3⟩ := h2
  simp only [Rep, RepVals] at q1 q2 q3 p1 p2 p3
  subst q1 q2 q3 p1 p2 p3
  exact ⟨.bool (!(a == c && b == d)), rfl, fun w' _ => by
    simp only [execOp, h, e1, e2, Sem.run_bind, run_eqGuard_agg w' .neq 45 x y _ _ (show Tryz.prog.eqGuardType Tryz.prog.depth 45 = false by kernel_rfl), Result.andThen_ok, eqvneq45, Sem.run_pure]⟩
def prtB (p q : Prt) : Bool := p.stock == q.stock && ((p.nlo == q.nlo && p.nhi == q.nhi) && (p.fig == q.fig && ((p.full == q.full) && (p.minute == q.minute && (p.llo == q.llo && p.lhi == q.lhi)))))
def prtV (p : Prt) : Array Value := #[.int .i64 p.stock, .int .i64 p.nlo, .int .i64 p.nhi, .int .i64 p.fig, .bool p.full, .int .i64 p.minute, .int .i64 p.llo, .int .i64 p.lhi]
theorem rep_prt {F : Nat → Nat → Prop} {w : World} {p : Prt} {vs : List Value} (h : RepVals F w (prtE p) vs) : vs = (prtV p).toList := by
  obtain ⟨v1, _, rfl, q1, v2, _, rfl, q2, v3, _, rfl, q3, v4, _, rfl, q4, v5, _, rfl, q5, v6, _, rfl, q6, v7, _, rfl, q7, v8, _, rfl, q8, q9⟩ := h
  simp only [Rep, RepVals] at q1 q2 q3 q4 q5 q6 q7 q8 q9
  subst q1 q2 q3 q4 q5 q6 q7 q8 q9
  rfl
theorem eqveql47 (p q : Prt) (w : World) : (binOp .eql 47 (.agg (prtV p)) (.agg (prtV q))).run Tryz.prog w = .ok (.bool ((prtB p q))) w := by
  have u3 := Tryz.underlying3
  have a3 := Tryz.isAgg3
  have z3 := Tryz.sizeOf3
  have u4 := Tryz.underlying4
  have a4 := Tryz.isAgg4
  have z4 := Tryz.sizeOf4
  have a45 := Tryz.isAgg45
  have z45 := Tryz.sizeOf45
  have hS : Tryz.prog.underlying 47 = some (.struct (Tryz.prog.fieldsOf 47)) := by kernel_rfl
  have hp : Tryz.prog.stoodInHeld 47 = false := by kernel_rfl
  rw [run_eql_struct, show (10000 : Nat) = 9999 + 1 from rfl, run_equalIn_agg w 9999 47 _ _ hS hp]
  simp only [Program.fieldsOf, Tryz.underlying47, prtV, prtB]
  go_simp
  by_cases h1 : p.stock = q.stock
  · by_cases h2 : p.nlo = q.nlo
    · by_cases h3 : p.nhi = q.nhi
      · by_cases h4 : p.fig = q.fig
        · by_cases h5 : p.full = q.full
          · by_cases h6 : p.minute = q.minute
            · by_cases h7 : p.llo = q.llo
              · by_cases h8 : p.lhi = q.lhi <;> simp [h1, h2, h3, h4, h5, h6, h7, h8]
              · simp [h1, h2, h3, h4, h5, h6, h7]
            · simp [h1, h2, h3, h4, h5, h6]
          · simp [h1, h2, h3, h4, h5]
        · simp [h1, h2, h3, h4]
      · simp [h1, h2, h3]
    · simp [h1, h2]
  · simp [h1]
theorem q_eql47 {Γ : Cx} {σ : St} {o : Oper} {R : Rel} {x y : Operand} {t' : TypeId} {p q : Prt} (h : o.op = .binOp .eql 47 x y t') (hx : σ.ev x = some (true, .d (.agg (prtE p)))) (hy : σ.ev y = some (true, .d (.agg (prtE q)))) :
    QV Γ Tryz.prog σ o R (.d (.bool ((prtB p q)))) := fun A w F hs => by
  obtain ⟨vs, e1, h1, _⟩ := hs.ev hx
  obtain ⟨us, e2, h2, _⟩ := hs.ev hy
  have f1 := rep_prt h1
  have f2 := rep_prt h2
  subst f1 f2
  exact ⟨.bool ((prtB p q)), rfl, fun w' _ => by
    simp only [execOp, h, e1, e2, Sem.run_bind, run_eqGuard_agg w' .eql 47 x y _ _ (show Tryz.prog.eqGuardType Tryz.prog.depth 47 = false by kernel_rfl), Result.andThen_ok]
    rw [show (prtV p).toList.toArray = prtV p from rfl, show (prtV q).toList.toArray = prtV q from rfl, eqveql47]
    rfl⟩
end Go.Proofs.YtplpcamcnppibaaGreatDoor
namespace Go.Proofs.YtplpcamcnppibaaGreatDoor
open Go.RowKit
set_option maxRecDepth 20000
set_option linter.all false
set_option maxHeartbeats 4000000
abbrev earlyS : List UInt8 := [64, 53, 32, 65, 66, 32, 51, 115, 32, 56, 46, 50, 32, 56, 46, 53, 32, 76, 49, 45, 50, 32, 67, 32, 48, 46, 49, 32, 33, 32, 64, 55, 32, 48, 46, 55, 32, 63]
abbrev lateS : List UInt8 := [64, 53, 32, 65, 66, 32, 51, 115, 32, 56, 46, 50, 32, 76, 49, 45, 50, 32, 64, 55, 32, 56, 46, 53, 32, 67, 32, 48, 46, 49, 32, 33, 32, 64, 56, 32, 48, 46, 55, 32, 63]
abbrev wrongS : List UInt8 := [65, 66, 32, 56, 46, 50, 32, 51, 46, 48, 32, 56, 46, 53]
abbrev earlyL : List Prt := [⟨0, 3, 3, 66, false, 5, 0, 0⟩, ⟨0, 1, 1, 69, false, 5, 0, 0⟩, ⟨1, 1, 1, 1, false, 5, 1, 2⟩, ⟨1, 1, 4, 7, false, 7, 1, 2⟩]
abbrev lateL0 : List Prt := [⟨0, 3, 3, 66, false, 5, 0, 0⟩, ⟨0, 1, 1, 69, false, 7, 1, 2⟩, ⟨1, 1, 1, 1, false, 7, 1, 2⟩, ⟨1, 1, 4, 7, false, 8, 1, 2⟩]
abbrev wrongL : List Prt := [⟨0, 1, 1, 66, false, 0, 0, 0⟩, ⟨0, 1, 1, 24, false, 0, 0, 0⟩, ⟨0, 1, 1, 69, false, 0, 0, 0⟩]
theorem two_valid : checkT twoB = 0 := by kernel_rfl
theorem e_read : readI twoB earlyS = (earlyL, 0) := by rw [← ref_read two_valid]; kernel_rfl
theorem l_read : readI twoB lateS = (lateL0, 0) := by rw [← ref_read two_valid]; kernel_rfl
theorem w_read : readI twoB wrongS = (wrongL, 0) := by rw [← ref_read two_valid]; kernel_rfl
theorem e_prices : pricesI twoB earlyS = ([(306, 306), (309, 309), (81, 81), (87, 87)], 0) := by unfold pricesI; rw [e_read]; kernel_rfl
theorem l_minutes : minutesI twoB lateS = ([(5, 5), (5, 6), (5, 6), (6, 7)], 0) := by unfold minutesI; rw [l_read]; kernel_rfl
theorem l_find : findI twoB lateS ⟨0, 309, 1, 6, 9⟩ = ([1], 0) := by unfold findI; rw [l_read]; kernel_rfl
theorem w_mis : misI twoB wrongS = ([1], 0) := by unfold misI; rw [w_read]; kernel_rfl
theorem e_prove : proveI twoB earlyS [306, 309, 81, 87] = true := by unfold proveI; rw [e_read]; kernel_rfl
theorem e_write : writeI twoB [⟨0, 3, 306, 5⟩, ⟨0, 1, 309, 5⟩, ⟨1, 1, 81, 7⟩] = ([64, 53, 32, 65, 66, 32, 51, 115, 32, 56, 46, 50, 32, 56, 46, 53, 32, 64, 55, 32, 67, 32, 48, 46, 49], 0) := by kernel_rfl
theorem two_names : NamesOK twoB := fun s hs => by
  simp only [twoB, List.mem_cons, List.not_mem_nil, or_false] at hs
  rcases hs with rfl | rfl <;> simp
theorem qv_eq {Γ : Cx} {P : Program} {σ : St} {o : Oper} {R : Rel} {tv tv' : TV} (h : QV Γ P σ o R tv) (e : tv = tv') : QV Γ P σ o R tv' := e ▸ h
abbrev lateSlp : Slp := ⟨0, 309, 1, 6, 9⟩
theorem awake_eff  : EffAt Tryz.prog 17 [] [] (X := Unit) (fun _ => .d (.bool true)) (fun _ => []) := by
 refine EffAt.of_awp Tryz.func17 rfl (by kernel_rfl) rfl fun Γ hn => ?_
 refine awp_seq (awp_region ?_)
 refine sq rfl rfl hn rfl (q_assign rfl rfl) ?_
 refine run_nil (aend_then (awp_seq (awp_region ?_)))
 refine stepW (s_call [] (fun _ => two_ok) rfl (guard_none rfl) rfl (nb hn rfl) (fun _ => trivial) rfl rfl (.refl _)) fun _ => ?_
 refine stepW (s_call [] (fun _ => (by have h := Read_ok twoB earlyS two_names (by decide); rw [e_read] at h; exact h)) rfl (guard_none rfl) rfl (nb hn rfl) (fun _ => trivial) rfl rfl (.refl _)) fun _ => ?_
 refine sq rfl rfl hn rfl (q_move rfl rfl) ?_
 refine sq rfl rfl hn rfl (q_extractd rfl rfl rfl) ?_
 refine sq rfl rfl hn rfl (q_extractd rfl rfl rfl) ?_
 refine sq rfl rfl hn rfl (q_assign rfl rfl) ?_
 refine sq rfl rfl hn rfl (q_assign rfl rfl) ?_
 refine run_nil (aend_then (awp_seq (awp_region ?_)))
 refine stepW (s_call [] (fun _ => two_ok) rfl (guard_none rfl) rfl (nb hn rfl) (fun _ => trivial) rfl rfl (.refl _)) fun _ => ?_
 refine stepW (s_call [] (fun _ => (by have h := Prices_ok twoB earlyS two_names (by decide); rw [e_prices] at h; exact h)) rfl (guard_none rfl) rfl (nb hn rfl) (fun _ => trivial) rfl rfl (.refl _)) fun _ => ?_
 refine sq rfl rfl hn rfl (q_move rfl rfl) ?_
 refine sq rfl rfl hn rfl (q_extractd rfl rfl rfl) ?_
 refine sq rfl rfl hn rfl (q_extractd rfl rfl rfl) ?_
 refine sq rfl rfl hn rfl (q_assign rfl rfl) ?_
 refine sq rfl rfl hn rfl (q_assign rfl rfl) ?_
 refine run_nil (aend_then (awp_seq (awp_region ?_)))
 refine stepW (s_call [] (fun _ => two_ok) rfl (guard_none rfl) rfl (nb hn rfl) (fun _ => trivial) rfl rfl (.refl _)) fun _ => ?_
 refine stepW (s_call [] (fun _ => (by have h := Minutes_ok twoB lateS two_names (by decide); rw [l_minutes] at h; exact h)) rfl (guard_none rfl) rfl (nb hn rfl) (fun _ => trivial) rfl rfl (.refl _)) fun _ => ?_
 refine sq rfl rfl hn rfl (q_move rfl rfl) ?_
 refine sq rfl rfl hn rfl (q_extractd rfl rfl rfl) ?_
 refine sq rfl rfl hn rfl (q_extractd rfl rfl rfl) ?_
 refine sq rfl rfl hn rfl (q_assign rfl rfl) ?_
 refine sq rfl rfl hn rfl (q_assign rfl rfl) ?_
 refine run_nil (aend_then (awp_seq (awp_region ?_)))
 refine stepW (s_call [] (fun _ => two_ok) rfl (guard_none rfl) rfl (nb hn rfl) (fun _ => trivial) rfl rfl (.refl _)) fun _ => ?_
 refine stepW (s_call [] (fun _ => between_ok _ _) rfl (guard_none rfl) rfl (nb hn rfl) (fun _ => trivial) rfl rfl (.refl _)) fun _ => ?_
 refine sq rfl rfl hn rfl (q_buildd rfl bt61 rfl rfl rfl rfl rfl) ?_
 refine stepW (s_call [] (fun _ => (by have h := Find_ok twoB lateS lateSlp two_names (by decide); rw [l_find] at h; exact h)) rfl (guard_none rfl) rfl (nb hn rfl) (fun _ => trivial) rfl rfl (by first | exact .refl _ | (repeat (first | exact .refl _ | exact .nil _ | refine .cons ?_ ?_ | refine .agg ?_ | refine .tup ?_)))) fun _ => ?_
 refine sq rfl rfl hn rfl (q_move rfl rfl) ?_
 refine sq rfl rfl hn rfl (q_extractd rfl rfl rfl) ?_
 refine sq rfl rfl hn rfl (q_extractd rfl rfl rfl) ?_
 refine sq rfl rfl hn rfl (q_assign rfl rfl) ?_
 refine sq rfl rfl hn rfl (q_assign rfl rfl) ?_
 refine run_nil (aend_then (awp_seq (awp_region ?_)))
 refine stepW (s_call [] (fun _ => two_ok) rfl (guard_none rfl) rfl (nb hn rfl) (fun _ => trivial) rfl rfl (.refl _)) fun _ => ?_
 refine stepW (s_call [] (fun _ => (by have h := Misprints_ok twoB wrongS two_names (by decide); rw [w_mis] at h; exact h)) rfl (guard_none rfl) rfl (nb hn rfl) (fun _ => trivial) rfl rfl (.refl _)) fun _ => ?_
 refine sq rfl rfl hn rfl (q_move rfl rfl) ?_
 refine sq rfl rfl hn rfl (q_extractd rfl rfl rfl) ?_
 refine sq rfl rfl hn rfl (q_extractd rfl rfl rfl) ?_
 refine sq rfl rfl hn rfl (q_assign rfl rfl) ?_
 refine sq rfl rfl hn rfl (q_assign rfl rfl) ?_
 refine run_nil (aend_then (awp_seq (awp_region ?_)))
 refine stepW (s_call [] (fun _ => two_ok) rfl (guard_none rfl) rfl (nb hn rfl) (fun _ => trivial) rfl rfl (.refl _)) fun _ => ?_
 refine sq rfl rfl hn rfl (q_buildd rfl bt115 rfl rfl rfl rfl rfl) ?_
 refine sq rfl rfl hn rfl (q_buildd rfl bt115 rfl rfl rfl rfl rfl) ?_
 refine sq rfl rfl hn rfl (q_buildd rfl bt115 rfl rfl rfl rfl rfl) ?_
 refine stepW (s_buildSlice rfl rfl rfl (nb hn rfl) Tryz.underlying73 sz115 zr115 rfl rfl rfl (show _ = [.d (.int .i64 0), .d (.int .i64 0), .d (.int .i64 0), .d (.int .i64 0), .d (.int .i64 0), .d (.int .i64 0), .d (.int .i64 0), .d (.int .i64 0), .d (.int .i64 0), .d (.int .i64 0), .d (.int .i64 0), .d (.int .i64 0)] from by kernel_rfl) (by kernel_rfl) rfl rfl rfl rfl rfl) fun _ => ?_
 refine stepW (s_call [] (fun _ => (by have h := Write_ok twoB [⟨0, 3, 306, 5⟩, ⟨0, 1, 309, 5⟩, ⟨1, 1, 81, 7⟩] two_names; rw [e_write] at h; exact h)) rfl (guard_none rfl) rfl (nb hn rfl) (fun _ => trivial) rfl rfl (.refl _)) fun _ => ?_
 refine sq rfl rfl hn rfl (q_move rfl rfl) ?_
 refine sq rfl rfl hn rfl (q_extractd rfl rfl rfl) ?_
 refine sq rfl rfl hn rfl (q_extractd rfl rfl rfl) ?_
 refine sq rfl rfl hn rfl (q_assign rfl rfl) ?_
 refine sq rfl rfl hn rfl (q_assign rfl rfl) ?_
 refine run_nil (aend_then (awp_seq ?_))
 refine d_start (W := fun b => True) fmo ?_
 refine d1q (i := 0) rfl (by as_aux_lemma => kernel_rfl) (fun _ _ _ _ h => h) rfl rfl hn rfl (q_move rfl rfl) ?_
 refine d1q (i := 1) rfl (by as_aux_lemma => kernel_rfl) (fun _ _ _ _ h => h) rfl rfl hn rfl (qv_eq (tv' := .d (.bool true)) (q_eql rfl rfl rfl) rfl) ?_
 refine d1q (i := 2) rfl (by as_aux_lemma => kernel_rfl) (fun _ _ _ _ h => h) rfl rfl hn rfl (q_move rfl rfl) ?_
 refine d1g (i := 3) [] rfl (by as_aux_lemma => kernel_rfl) (fun _ _ _ _ h => h) (guard_some rfl rfl rfl) rfl hn rfl (fun hc => trivial) (fun hc => q_move rfl rfl) ?_
 refine d1g (i := 4) [(52, _)] rfl (by as_aux_lemma => kernel_rfl) (fun _ _ _ _ h => h) (guard_some rfl rfl rfl) rfl hn rfl (fun hc => ⟨⟨_, rfl, hc⟩, trivial⟩) (fun hc => q_len rfl rfl Tryz.underlying27) ?_
 refine d1g (i := 5) [(53, _)] rfl (by as_aux_lemma => kernel_rfl) (fun _ _ _ _ h => h) (guard_some rfl rfl rfl) rfl hn rfl (fun hc => ⟨⟨_, rfl, hc⟩, trivial⟩) (fun hc => qv_eq (tv' := .d (.bool true)) (q_eql rfl rfl rfl) rfl) ?_
 refine d1q (i := 6) rfl (by as_aux_lemma => kernel_rfl) (fun _ _ _ _ h => h) rfl rfl hn rfl (qv_eq (tv' := .d (.bool true)) (q_and rfl rfl rfl (by intro hB; first | (rw [hB]; rfl) | (rw [hB, hc]; rfl) | simp_all)) rfl) ?_
 refine d1q (i := 7) rfl (by as_aux_lemma => kernel_rfl) (fun _ _ _ _ h => h) rfl rfl hn rfl (q_move rfl rfl) ?_
 refine d1g (i := 8) [] rfl (by as_aux_lemma => kernel_rfl) (fun _ _ _ _ h => h) (guard_some rfl rfl rfl) rfl hn rfl (fun hc => trivial) (fun hc => q_move rfl rfl) ?_
 refine d1g (i := 9) [(57, _)] rfl (by as_aux_lemma => kernel_rfl) (fun _ _ _ _ h => h) (guard_some rfl rfl rfl) rfl hn rfl (fun hc => ⟨⟨_, rfl, hc⟩, trivial⟩) (fun hc => q_index (i := 3) rfl rfl rfl Tryz.underlying27 sz47 rfl rfl) ?_
 refine d1g (i := 10) [(58, _)] rfl (by as_aux_lemma => kernel_rfl) (fun _ _ _ _ h => h) (guard_some rfl rfl rfl) rfl hn rfl (fun hc => ⟨⟨_, rfl, hc⟩, trivial⟩) (fun hc => q_loadpA rfl rfl Tryz.underlying47 rfl sz47 rfl rfl seesFA) ?_
 refine d1_of_d2 ?_
 refine d2_one (i := 11) (by as_aux_lemma => kernel_rfl) rfl (s_call [] (fun hc => between_ok _ _) rfl (guard_some rfl rfl rfl) rfl (nb hn rfl) (fun hc => trivial) rfl rfl (.refl _)) fun _ => ?_
 refine d2_of_d1 (d1_of_d2 ?_)
 refine d2_one (i := 12) (by as_aux_lemma => kernel_rfl) rfl (s_call [] (fun hc => between_ok _ _) rfl (guard_some rfl rfl rfl) rfl (nb hn rfl) (fun hc => trivial) rfl rfl (.refl _)) fun _ => ?_
 refine d2_of_d1 ?_
 refine d1g (i := 13) [(60, _), (61, _)] rfl (by as_aux_lemma => kernel_rfl) (fun _ _ _ _ h => h) (guard_some rfl rfl rfl) rfl hn rfl (fun hc => ⟨⟨_, rfl, hc⟩, ⟨_, rfl, hc⟩, trivial⟩) (fun hc => q_buildd rfl bt47 rfl rfl rfl rfl rfl) ?_
 refine d1g (i := 14) [(59, _), (62, _)] rfl (by as_aux_lemma => kernel_rfl) (fun _ _ _ _ h => h) (guard_some rfl rfl rfl) rfl hn rfl (fun hc => ⟨⟨_, rfl, hc⟩, ⟨_, rfl, hc⟩, trivial⟩) (fun hc => qv_eq (tv' := .d (.bool true)) (q_eql47 (p := ⟨1, 1, 4, 7, false, 7, 1, 2⟩) (q := ⟨1, 1, 4, 7, false, 7, 1, 2⟩) rfl rfl rfl) rfl) ?_
 refine d1q (i := 15) rfl (by as_aux_lemma => kernel_rfl) (fun _ _ _ _ h => h) rfl rfl hn rfl (qv_eq (tv' := .d (.bool true)) (q_and rfl rfl rfl (by intro hB; first | (rw [hB]; rfl) | (rw [hB, hc]; rfl) | simp_all)) rfl) ?_
 refine d1q (i := 16) rfl (by as_aux_lemma => kernel_rfl) (fun _ _ _ _ h => h) rfl rfl hn rfl (q_move rfl rfl) ?_
 refine d1g (i := 17) [] rfl (by as_aux_lemma => kernel_rfl) (fun _ _ _ _ h => h) (guard_some rfl rfl rfl) rfl hn rfl (fun hc => trivial) (fun hc => q_move rfl rfl) ?_
 refine d1g (i := 18) [(66, _)] rfl (by as_aux_lemma => kernel_rfl) (fun _ _ _ _ h => h) (guard_some rfl rfl rfl) rfl hn rfl (fun hc => ⟨⟨_, rfl, hc⟩, trivial⟩) (fun hc => qv_eq (tv' := .d (.bool true)) (q_eql rfl rfl rfl) rfl) ?_
 refine d1q (i := 19) rfl (by as_aux_lemma => kernel_rfl) (fun _ _ _ _ h => h) rfl rfl hn rfl (qv_eq (tv' := .d (.bool true)) (q_and rfl rfl rfl (by intro hB; first | (rw [hB]; rfl) | (rw [hB, hc]; rfl) | simp_all)) rfl) ?_
 refine d1q (i := 20) rfl (by as_aux_lemma => kernel_rfl) (fun _ _ _ _ h => h) rfl rfl hn rfl (q_move rfl rfl) ?_
 refine d1g (i := 21) [] rfl (by as_aux_lemma => kernel_rfl) (fun _ _ _ _ h => h) (guard_some rfl rfl rfl) rfl hn rfl (fun hc => trivial) (fun hc => q_move rfl rfl) ?_
 refine d1g (i := 22) [(70, _)] rfl (by as_aux_lemma => kernel_rfl) (fun _ _ _ _ h => h) (guard_some rfl rfl rfl) rfl hn rfl (fun hc => ⟨⟨_, rfl, hc⟩, trivial⟩) (fun hc => q_len rfl rfl Tryz.underlying48) ?_
 refine d1g (i := 23) [(71, _)] rfl (by as_aux_lemma => kernel_rfl) (fun _ _ _ _ h => h) (guard_some rfl rfl rfl) rfl hn rfl (fun hc => ⟨⟨_, rfl, hc⟩, trivial⟩) (fun hc => qv_eq (tv' := .d (.bool true)) (q_eql rfl rfl rfl) rfl) ?_
 refine d1q (i := 24) rfl (by as_aux_lemma => kernel_rfl) (fun _ _ _ _ h => h) rfl rfl hn rfl (qv_eq (tv' := .d (.bool true)) (q_and rfl rfl rfl (by intro hB; first | (rw [hB]; rfl) | (rw [hB, hc]; rfl) | simp_all)) rfl) ?_
 refine d1q (i := 25) rfl (by as_aux_lemma => kernel_rfl) (fun _ _ _ _ h => h) rfl rfl hn rfl (q_move rfl rfl) ?_
 refine d1g (i := 26) [] rfl (by as_aux_lemma => kernel_rfl) (fun _ _ _ _ h => h) (guard_some rfl rfl rfl) rfl hn rfl (fun hc => trivial) (fun hc => q_move rfl rfl) ?_
 refine d1g (i := 27) [(75, _)] rfl (by as_aux_lemma => kernel_rfl) (fun _ _ _ _ h => h) (guard_some rfl rfl rfl) rfl hn rfl (fun hc => ⟨⟨_, rfl, hc⟩, trivial⟩) (fun hc => q_index (i := 0) rfl rfl rfl Tryz.underlying48 sz45 rfl rfl) ?_
 refine d1g (i := 28) [(76, _)] rfl (by as_aux_lemma => kernel_rfl) (fun _ _ _ _ h => h) (guard_some rfl rfl rfl) rfl hn rfl (fun hc => ⟨⟨_, rfl, hc⟩, trivial⟩) (fun hc => q_loadpA rfl rfl Tryz.underlying45 rfl sz45 rfl rfl seesFA) ?_
 refine d1_of_d2 ?_
 refine d2_one (i := 29) (by as_aux_lemma => kernel_rfl) rfl (s_call [] (fun hc => between_ok _ _) rfl (guard_some rfl rfl rfl) rfl (nb hn rfl) (fun hc => trivial) rfl rfl (.refl _)) fun _ => ?_
 refine d2_of_d1 ?_
 refine d1g (i := 30) [(77, _), (78, _)] rfl (by as_aux_lemma => kernel_rfl) (fun _ _ _ _ h => h) (guard_some rfl rfl rfl) rfl hn rfl (fun hc => ⟨⟨_, rfl, hc⟩, ⟨_, rfl, hc⟩, trivial⟩) (fun hc => qv_eq (tv' := .d (.bool true)) (q_eql45 rfl rfl rfl) rfl) ?_
 refine d1q (i := 31) rfl (by as_aux_lemma => kernel_rfl) (fun _ _ _ _ h => h) rfl rfl hn rfl (qv_eq (tv' := .d (.bool true)) (q_and rfl rfl rfl (by intro hB; first | (rw [hB]; rfl) | (rw [hB, hc]; rfl) | simp_all)) rfl) ?_
 refine d1q (i := 32) rfl (by as_aux_lemma => kernel_rfl) (fun _ _ _ _ h => h) rfl rfl hn rfl (q_move rfl rfl) ?_
 refine d1g (i := 33) [] rfl (by as_aux_lemma => kernel_rfl) (fun _ _ _ _ h => h) (guard_some rfl rfl rfl) rfl hn rfl (fun hc => trivial) (fun hc => q_move rfl rfl) ?_
 refine d1g (i := 34) [(82, _)] rfl (by as_aux_lemma => kernel_rfl) (fun _ _ _ _ h => h) (guard_some rfl rfl rfl) rfl hn rfl (fun hc => ⟨⟨_, rfl, hc⟩, trivial⟩) (fun hc => q_index (i := 3) rfl rfl rfl Tryz.underlying48 sz45 rfl rfl) ?_
 refine d1g (i := 35) [(83, _)] rfl (by as_aux_lemma => kernel_rfl) (fun _ _ _ _ h => h) (guard_some rfl rfl rfl) rfl hn rfl (fun hc => ⟨⟨_, rfl, hc⟩, trivial⟩) (fun hc => q_loadpA rfl rfl Tryz.underlying45 rfl sz45 rfl rfl seesFA) ?_
 refine d1_of_d2 ?_
 refine d2_one (i := 36) (by as_aux_lemma => kernel_rfl) rfl (s_call [] (fun hc => between_ok _ _) rfl (guard_some rfl rfl rfl) rfl (nb hn rfl) (fun hc => trivial) rfl rfl (.refl _)) fun _ => ?_
 refine d2_of_d1 ?_
 refine d1g (i := 37) [(84, _), (85, _)] rfl (by as_aux_lemma => kernel_rfl) (fun _ _ _ _ h => h) (guard_some rfl rfl rfl) rfl hn rfl (fun hc => ⟨⟨_, rfl, hc⟩, ⟨_, rfl, hc⟩, trivial⟩) (fun hc => qv_eq (tv' := .d (.bool true)) (q_eql45 rfl rfl rfl) rfl) ?_
 refine d1q (i := 38) rfl (by as_aux_lemma => kernel_rfl) (fun _ _ _ _ h => h) rfl rfl hn rfl (qv_eq (tv' := .d (.bool true)) (q_and rfl rfl rfl (by intro hB; first | (rw [hB]; rfl) | (rw [hB, hc]; rfl) | simp_all)) rfl) ?_
 refine d1q (i := 39) rfl (by as_aux_lemma => kernel_rfl) (fun _ _ _ _ h => h) rfl rfl hn rfl (q_move rfl rfl) ?_
 refine d1g (i := 40) [] rfl (by as_aux_lemma => kernel_rfl) (fun _ _ _ _ h => h) (guard_some rfl rfl rfl) rfl hn rfl (fun hc => trivial) (fun hc => q_move rfl rfl) ?_
 refine d1g (i := 41) [(89, _)] rfl (by as_aux_lemma => kernel_rfl) (fun _ _ _ _ h => h) (guard_some rfl rfl rfl) rfl hn rfl (fun hc => ⟨⟨_, rfl, hc⟩, trivial⟩) (fun hc => qv_eq (tv' := .d (.bool true)) (q_eql rfl rfl rfl) rfl) ?_
 refine d1q (i := 42) rfl (by as_aux_lemma => kernel_rfl) (fun _ _ _ _ h => h) rfl rfl hn rfl (qv_eq (tv' := .d (.bool true)) (q_and rfl rfl rfl (by intro hB; first | (rw [hB]; rfl) | (rw [hB, hc]; rfl) | simp_all)) rfl) ?_
 refine d1q (i := 43) rfl (by as_aux_lemma => kernel_rfl) (fun _ _ _ _ h => h) rfl rfl hn rfl (q_move rfl rfl) ?_
 refine d1g (i := 44) [] rfl (by as_aux_lemma => kernel_rfl) (fun _ _ _ _ h => h) (guard_some rfl rfl rfl) rfl hn rfl (fun hc => trivial) (fun hc => q_move rfl rfl) ?_
 refine d1g (i := 45) [(93, _)] rfl (by as_aux_lemma => kernel_rfl) (fun _ _ _ _ h => h) (guard_some rfl rfl rfl) rfl hn rfl (fun hc => ⟨⟨_, rfl, hc⟩, trivial⟩) (fun hc => q_len rfl rfl Tryz.underlying48) ?_
 refine d1g (i := 46) [(94, _)] rfl (by as_aux_lemma => kernel_rfl) (fun _ _ _ _ h => h) (guard_some rfl rfl rfl) rfl hn rfl (fun hc => ⟨⟨_, rfl, hc⟩, trivial⟩) (fun hc => qv_eq (tv' := .d (.bool true)) (q_eql rfl rfl rfl) rfl) ?_
 refine d1q (i := 47) rfl (by as_aux_lemma => kernel_rfl) (fun _ _ _ _ h => h) rfl rfl hn rfl (qv_eq (tv' := .d (.bool true)) (q_and rfl rfl rfl (by intro hB; first | (rw [hB]; rfl) | (rw [hB, hc]; rfl) | simp_all)) rfl) ?_
 refine d1q (i := 48) rfl (by as_aux_lemma => kernel_rfl) (fun _ _ _ _ h => h) rfl rfl hn rfl (q_move rfl rfl) ?_
 refine d1g (i := 49) [] rfl (by as_aux_lemma => kernel_rfl) (fun _ _ _ _ h => h) (guard_some rfl rfl rfl) rfl hn rfl (fun hc => trivial) (fun hc => q_move rfl rfl) ?_
 refine d1g (i := 50) [(98, _)] rfl (by as_aux_lemma => kernel_rfl) (fun _ _ _ _ h => h) (guard_some rfl rfl rfl) rfl hn rfl (fun hc => ⟨⟨_, rfl, hc⟩, trivial⟩) (fun hc => q_index (i := 1) rfl rfl rfl Tryz.underlying48 sz45 rfl rfl) ?_
 refine d1g (i := 51) [(99, _)] rfl (by as_aux_lemma => kernel_rfl) (fun _ _ _ _ h => h) (guard_some rfl rfl rfl) rfl hn rfl (fun hc => ⟨⟨_, rfl, hc⟩, trivial⟩) (fun hc => q_loadpA rfl rfl Tryz.underlying45 rfl sz45 rfl rfl seesFA) ?_
 refine d1_of_d2 ?_
 refine d2_one (i := 52) (by as_aux_lemma => kernel_rfl) rfl (s_call [] (fun hc => between_ok _ _) rfl (guard_some rfl rfl rfl) rfl (nb hn rfl) (fun hc => trivial) rfl rfl (.refl _)) fun _ => ?_
 refine d2_of_d1 ?_
 refine d1g (i := 53) [(100, _), (101, _)] rfl (by as_aux_lemma => kernel_rfl) (fun _ _ _ _ h => h) (guard_some rfl rfl rfl) rfl hn rfl (fun hc => ⟨⟨_, rfl, hc⟩, ⟨_, rfl, hc⟩, trivial⟩) (fun hc => qv_eq (tv' := .d (.bool true)) (q_eql45 rfl rfl rfl) rfl) ?_
 refine d1q (i := 54) rfl (by as_aux_lemma => kernel_rfl) (fun _ _ _ _ h => h) rfl rfl hn rfl (qv_eq (tv' := .d (.bool true)) (q_and rfl rfl rfl (by intro hB; first | (rw [hB]; rfl) | (rw [hB, hc]; rfl) | simp_all)) rfl) ?_
 refine d1q (i := 55) rfl (by as_aux_lemma => kernel_rfl) (fun _ _ _ _ h => h) rfl rfl hn rfl (q_move rfl rfl) ?_
 refine d1g (i := 56) [] rfl (by as_aux_lemma => kernel_rfl) (fun _ _ _ _ h => h) (guard_some rfl rfl rfl) rfl hn rfl (fun hc => trivial) (fun hc => q_move rfl rfl) ?_
 refine d1g (i := 57) [(105, _)] rfl (by as_aux_lemma => kernel_rfl) (fun _ _ _ _ h => h) (guard_some rfl rfl rfl) rfl hn rfl (fun hc => ⟨⟨_, rfl, hc⟩, trivial⟩) (fun hc => q_index (i := 3) rfl rfl rfl Tryz.underlying48 sz45 rfl rfl) ?_
 refine d1g (i := 58) [(106, _)] rfl (by as_aux_lemma => kernel_rfl) (fun _ _ _ _ h => h) (guard_some rfl rfl rfl) rfl hn rfl (fun hc => ⟨⟨_, rfl, hc⟩, trivial⟩) (fun hc => q_loadpA rfl rfl Tryz.underlying45 rfl sz45 rfl rfl seesFA) ?_
 refine d1_of_d2 ?_
 refine d2_one (i := 59) (by as_aux_lemma => kernel_rfl) rfl (s_call [] (fun hc => between_ok _ _) rfl (guard_some rfl rfl rfl) rfl (nb hn rfl) (fun hc => trivial) rfl rfl (.refl _)) fun _ => ?_
 refine d2_of_d1 ?_
 refine d1g (i := 60) [(107, _), (108, _)] rfl (by as_aux_lemma => kernel_rfl) (fun _ _ _ _ h => h) (guard_some rfl rfl rfl) rfl hn rfl (fun hc => ⟨⟨_, rfl, hc⟩, ⟨_, rfl, hc⟩, trivial⟩) (fun hc => qv_eq (tv' := .d (.bool true)) (q_eql45 rfl rfl rfl) rfl) ?_
 refine d1q (i := 61) rfl (by as_aux_lemma => kernel_rfl) (fun _ _ _ _ h => h) rfl rfl hn rfl (qv_eq (tv' := .d (.bool true)) (q_and rfl rfl rfl (by intro hB; first | (rw [hB]; rfl) | (rw [hB, hc]; rfl) | simp_all)) rfl) ?_
 refine d1q (i := 62) rfl (by as_aux_lemma => kernel_rfl) (fun _ _ _ _ h => h) rfl rfl hn rfl (q_move rfl rfl) ?_
 refine d1g (i := 63) [] rfl (by as_aux_lemma => kernel_rfl) (fun _ _ _ _ h => h) (guard_some rfl rfl rfl) rfl hn rfl (fun hc => trivial) (fun hc => q_move rfl rfl) ?_
 refine d1g (i := 64) [(112, _)] rfl (by as_aux_lemma => kernel_rfl) (fun _ _ _ _ h => h) (guard_some rfl rfl rfl) rfl hn rfl (fun hc => ⟨⟨_, rfl, hc⟩, trivial⟩) (fun hc => qv_eq (tv' := .d (.bool true)) (q_eql rfl rfl rfl) rfl) ?_
 refine d1q (i := 65) rfl (by as_aux_lemma => kernel_rfl) (fun _ _ _ _ h => h) rfl rfl hn rfl (qv_eq (tv' := .d (.bool true)) (q_and rfl rfl rfl (by intro hB; first | (rw [hB]; rfl) | (rw [hB, hc]; rfl) | simp_all)) rfl) ?_
 refine d1q (i := 66) rfl (by as_aux_lemma => kernel_rfl) (fun _ _ _ _ h => h) rfl rfl hn rfl (q_move rfl rfl) ?_
 refine d1g (i := 67) [] rfl (by as_aux_lemma => kernel_rfl) (fun _ _ _ _ h => h) (guard_some rfl rfl rfl) rfl hn rfl (fun hc => trivial) (fun hc => q_move rfl rfl) ?_
 refine d1_of_d2 ?_
 refine d2_one (i := 68) (by as_aux_lemma => kernel_rfl) rfl (s_guard (guard_some rfl rfl rfl) rfl (nb hn rfl) (s_buildSlice rfl rfl rfl (nb hn rfl) Tryz.underlying57 sz3 zr3 rfl rfl rfl (show _ = [.d (.int .i64 0)] from by kernel_rfl) (by kernel_rfl) rfl rfl rfl rfl rfl)) fun _ => ?_
 refine d2_of_d1 (d1_of_d2 ?_)
 refine d2_one (i := 69) (by as_aux_lemma => kernel_rfl) rfl (s_call [(116, _), (117, _)] (fun hc => ints_ok [1] [1]) rfl (guard_some rfl rfl rfl) rfl (nb hn rfl) (fun hc => ⟨⟨_, rfl, hc⟩, ⟨_, rfl, hc⟩, trivial⟩) rfl rfl (.refl _)) fun _ => ?_
 refine d2_of_d1 ?_
 refine d1q (i := 70) rfl (by as_aux_lemma => kernel_rfl) (fun _ _ _ _ h => h) rfl rfl hn rfl (qv_eq (tv' := .d (.bool true)) (q_and rfl rfl rfl (by intro hB; first | (rw [hB]; rfl) | (rw [hB, hc]; rfl) | simp_all)) rfl) ?_
 refine d1q (i := 71) rfl (by as_aux_lemma => kernel_rfl) (fun _ _ _ _ h => h) rfl rfl hn rfl (q_move rfl rfl) ?_
 refine d1g (i := 72) [] rfl (by as_aux_lemma => kernel_rfl) (fun _ _ _ _ h => h) (guard_some rfl rfl rfl) rfl hn rfl (fun hc => trivial) (fun hc => q_move rfl rfl) ?_
 refine d1g (i := 73) [(121, _)] rfl (by as_aux_lemma => kernel_rfl) (fun _ _ _ _ h => h) (guard_some rfl rfl rfl) rfl hn rfl (fun hc => ⟨⟨_, rfl, hc⟩, trivial⟩) (fun hc => qv_eq (tv' := .d (.bool true)) (q_eql rfl rfl rfl) rfl) ?_
 refine d1q (i := 74) rfl (by as_aux_lemma => kernel_rfl) (fun _ _ _ _ h => h) rfl rfl hn rfl (qv_eq (tv' := .d (.bool true)) (q_and rfl rfl rfl (by intro hB; first | (rw [hB]; rfl) | (rw [hB, hc]; rfl) | simp_all)) rfl) ?_
 refine d1q (i := 75) rfl (by as_aux_lemma => kernel_rfl) (fun _ _ _ _ h => h) rfl rfl hn rfl (q_move rfl rfl) ?_
 refine d1g (i := 76) [] rfl (by as_aux_lemma => kernel_rfl) (fun _ _ _ _ h => h) (guard_some rfl rfl rfl) rfl hn rfl (fun hc => trivial) (fun hc => q_move rfl rfl) ?_
 refine d1_of_d2 ?_
 refine d2_one (i := 77) (by as_aux_lemma => kernel_rfl) rfl (s_guard (guard_some rfl rfl rfl) rfl (nb hn rfl) (s_buildSlice rfl rfl rfl (nb hn rfl) Tryz.underlying57 sz3 zr3 rfl rfl rfl (show _ = [.d (.int .i64 0)] from by kernel_rfl) (by kernel_rfl) rfl rfl rfl rfl rfl)) fun _ => ?_
 refine d2_of_d1 (d1_of_d2 ?_)
 refine d2_one (i := 78) (by as_aux_lemma => kernel_rfl) rfl (s_call [(125, _), (126, _)] (fun hc => ints_ok [1] [1]) rfl (guard_some rfl rfl rfl) rfl (nb hn rfl) (fun hc => ⟨⟨_, rfl, hc⟩, ⟨_, rfl, hc⟩, trivial⟩) rfl rfl (.refl _)) fun _ => ?_
 refine d2_of_d1 ?_
 refine d1q (i := 79) rfl (by as_aux_lemma => kernel_rfl) (fun _ _ _ _ h => h) rfl rfl hn rfl (qv_eq (tv' := .d (.bool true)) (q_and rfl rfl rfl (by intro hB; first | (rw [hB]; rfl) | (rw [hB, hc]; rfl) | simp_all)) rfl) ?_
 refine d1q (i := 80) rfl (by as_aux_lemma => kernel_rfl) (fun _ _ _ _ h => h) rfl rfl hn rfl (q_move rfl rfl) ?_
 refine d1g (i := 81) [] rfl (by as_aux_lemma => kernel_rfl) (fun _ _ _ _ h => h) (guard_some rfl rfl rfl) rfl hn rfl (fun hc => trivial) (fun hc => q_move rfl rfl) ?_
 refine d1g (i := 82) [(130, _)] rfl (by as_aux_lemma => kernel_rfl) (fun _ _ _ _ h => h) (guard_some rfl rfl rfl) rfl hn rfl (fun hc => ⟨⟨_, rfl, hc⟩, trivial⟩) (fun hc => qv_eq (tv' := .d (.bool true)) (q_eql rfl rfl rfl) rfl) ?_
 refine d1q (i := 83) rfl (by as_aux_lemma => kernel_rfl) (fun _ _ _ _ h => h) rfl rfl hn rfl (qv_eq (tv' := .d (.bool true)) (q_and rfl rfl rfl (by intro hB; first | (rw [hB]; rfl) | (rw [hB, hc]; rfl) | simp_all)) rfl) ?_
 refine d1q (i := 84) rfl (by as_aux_lemma => kernel_rfl) (fun _ _ _ _ h => h) rfl rfl hn rfl (q_move rfl rfl) ?_
 refine d1g (i := 85) [] rfl (by as_aux_lemma => kernel_rfl) (fun _ _ _ _ h => h) (guard_some rfl rfl rfl) rfl hn rfl (fun hc => trivial) (fun hc => q_move rfl rfl) ?_
 refine d1g (i := 86) [(134, _)] rfl (by as_aux_lemma => kernel_rfl) (fun _ _ _ _ h => h) (guard_some rfl rfl rfl) rfl hn rfl (fun hc => ⟨⟨_, rfl, hc⟩, trivial⟩) (fun hc => qv_eq (tv' := .d (.bool true)) (q_eqlS rfl rfl rfl) rfl) ?_
 refine d1q (i := 87) rfl (by as_aux_lemma => kernel_rfl) (fun _ _ _ _ h => h) rfl rfl hn rfl (qv_eq (tv' := .d (.bool true)) (q_and rfl rfl rfl (by intro hB; first | (rw [hB]; rfl) | (rw [hB, hc]; rfl) | simp_all)) rfl) ?_
 refine d1q (i := 88) rfl (by as_aux_lemma => kernel_rfl) (fun _ _ _ _ h => h) rfl rfl hn rfl (q_move rfl rfl) ?_
 refine d1_of_d2 ?_
 refine d2_all 89 [90] (by kernel_rfl) ⟨?_, ?_, trivial⟩
 ·
  refine br rfl (s_call [] (fun hc => two_ok) rfl (guard_some rfl rfl rfl) rfl (nb hn rfl) (fun hc => trivial) rfl rfl (.refl _)) fun _ => ?_
  refine d2_of_d1 (d1_of_d2 ?_)
  refine d2_one (i := 90) (by as_aux_lemma => kernel_rfl) rfl (s_guard (guard_some rfl rfl rfl) rfl (nb hn rfl) (s_buildSlice rfl rfl rfl (nb hn rfl) Tryz.underlying57 sz3 zr3 rfl rfl rfl (show _ = [.d (.int .i64 0), .d (.int .i64 0), .d (.int .i64 0), .d (.int .i64 0)] from by kernel_rfl) (by kernel_rfl) rfl rfl rfl rfl rfl)) fun _ => ?_
  refine d2_of_d1 (d1_of_d2 ?_)
  refine d2_one (i := 91) (by as_aux_lemma => kernel_rfl) rfl (s_call [(138, _), (139, _)] (fun hc => (by have h := ProveTruth_ok twoB earlyS [306, 309, 81, 87] two_names (by decide); rw [e_prove] at h; exact h)) rfl (guard_some rfl rfl rfl) rfl (nb hn rfl) (fun hc => ⟨⟨_, rfl, hc⟩, ⟨_, rfl, hc⟩, trivial⟩) rfl rfl (.refl _)) fun _ => ?_
  refine d2_of_d1 ?_
  refine d1q (i := 92) rfl (by as_aux_lemma => kernel_rfl) (fun _ _ _ _ h => h) rfl rfl hn rfl (qv_eq (tv' := .d (.bool true)) (q_and rfl rfl rfl (by intro hB; first | (rw [hB]; rfl) | (rw [hB, hc]; rfl) | simp_all)) rfl) ?_
  refine d1q (i := 93) rfl (by as_aux_lemma => kernel_rfl) (fun _ _ _ _ h => h) rfl rfl hn rfl (q_assign rfl rfl) ?_
  refine d1_of_d2 ?_
  refine d2_done (by as_aux_lemma => kernel_rfl) ?_
  refine aend_then (awp_ret ?_)
  exact ret_E (.inl rfl) () ((hands_1 rfl (.tmp rfl)).eq (by rfl)) trivial
 ·
  refine br rfl (s_guard (guard_some rfl rfl rfl) rfl (nb hn rfl) (s_buildSlice rfl rfl rfl (nb hn rfl) Tryz.underlying57 sz3 zr3 rfl rfl rfl (show _ = [.d (.int .i64 0), .d (.int .i64 0), .d (.int .i64 0), .d (.int .i64 0)] from by kernel_rfl) (by kernel_rfl) rfl rfl rfl rfl rfl)) fun _ => ?_
  refine d2_of_d1 (d1_of_d2 ?_)
  refine d2_one (i := 89) (by kernel_rfl) rfl (s_call [] (fun hc => two_ok) rfl (guard_some rfl rfl rfl) rfl (nb hn rfl) (fun hc => trivial) rfl rfl (.refl _)) fun _ => ?_
  refine d2_of_d1 (d1_of_d2 ?_)
  refine d2_one (i := 91) (by kernel_rfl) rfl (s_call [(138, _), (139, _)] (fun hc => (by have h := ProveTruth_ok twoB earlyS [306, 309, 81, 87] two_names (by decide); rw [e_prove] at h; exact h)) rfl (guard_some rfl rfl rfl) rfl (nb hn rfl) (fun hc => ⟨⟨_, rfl, hc⟩, ⟨_, rfl, hc⟩, trivial⟩) rfl rfl (.refl _)) fun _ => ?_
  refine d2_of_d1 ?_
  refine d1q (i := 92) rfl (by kernel_rfl) (fun _ _ _ _ h => h) rfl rfl hn rfl (qv_eq (tv' := .d (.bool true)) (q_and rfl rfl rfl (by intro hB; first | (rw [hB]; rfl) | (rw [hB, hc]; rfl) | simp_all)) rfl) ?_
  refine d1q (i := 93) rfl (by kernel_rfl) (fun _ _ _ _ h => h) rfl rfl hn rfl (q_assign rfl rfl) ?_
  refine d1_of_d2 ?_
  refine d2_done (by kernel_rfl) ?_
  refine aend_then (awp_ret ?_)
  exact ret_E (.inl rfl) () ((hands_1 rfl (.tmp rfl)).eq (by rfl)) trivial
theorem awake_ok : PureAt Tryz.prog 17 [] (.bool true) := PureAt.of_eff (ds := []) awake_eff
end Go.Proofs.YtplpcamcnppibaaGreatDoor
namespace Go.Proofs.YtplpcamcnppibaaGreatDoor
open Go.RowKit
set_option maxRecDepth 20000
set_option linter.all false
def prt0 : Prt := ⟨-1, 0, 0, 0, false, 0, 0, 0⟩
end Go.Proofs.YtplpcamcnppibaaGreatDoor
namespace Go.Proofs.YtplpcamcnppibaaGreatDoor
open Go.RowKit
set_option maxRecDepth 20000
set_option linter.all false
def refFits (p : Prt) (i : Nat) (x : Int) (o : Nat) : Bool := withinB x 1 799 && (o.testBit i || (p.full && x == p.fig || !p.full && x.tmod 80 == p.fig))
def nearB (a b m : Int) : Bool := decide (a - b ≤ m) && decide (b - a ≤ m)
/-- The last of the first k that is of a stock. -/
def aheadGo (l : List Prt) (st : Int) : Nat → Int
  | 0 => -1
  | k + 1 => bif (l.getD k prt0).stock == st then (k : Nat) else aheadGo l st k
def aheadI (l : List Prt) (i : Nat) : Int := aheadGo l (l.getD i prt0).stock i
def stk0 : Stk := ⟨[], 0, 0⟩
theorem ahead_lt {l : List Prt} {st : Int} : ∀ {i : Nat}, aheadGo l st i < (i : Nat)
  | 0 => by unfold aheadGo; omega
  | i + 1 => by
    have := ahead_lt (l := l) (st := st) (i := i)
    unfold aheadGo
    cases (l.getD i prt0).stock == st
    · simp only [cond_false]; omega
    · simp only [cond_true]; omega
theorem ahead_iff {l : List Prt} {st : Int} : ∀ {i j : Nat}, aheadGo l st i = (j : Nat) ↔ j < i ∧ (l.getD j prt0).stock = st ∧ ∀ k, j < k → k < i → (l.getD k prt0).stock ≠ st
  | 0, j => by unfold aheadGo; constructor
               · intro h; omega
               · intro h; omega
  | i + 1, j => by
    unfold aheadGo
    cases h : (l.getD i prt0).stock == st
    · rw [cond_false, ahead_iff]
      have hne : (l.getD i prt0).stock ≠ st := by simpa using h
      constructor
      · rintro ⟨h1, h2, h3⟩
        refine ⟨by omega, h2, fun k hk hk2 => ?_⟩
        by_cases e : k = i
        · subst e; exact hne
        · exact h3 k hk (by omega)
      · rintro ⟨h1, h2, h3⟩
        refine ⟨?_, h2, fun k hk hk2 => h3 k hk (by omega)⟩
        by_cases e : j = i
        · subst e; exact (hne h2).elim
        · omega
    · rw [cond_true]
      have he : (l.getD i prt0).stock = st := by simpa using h
      constructor
      · intro h
        obtain rfl : i = j := by omega
        exact ⟨by omega, he, fun k hk hk2 => by omega⟩
      · rintro ⟨h1, h2, h3⟩
        by_cases e : j = i
        · rw [e]
        · exact (h3 i (by omega) (by omega) he).elim
theorem ahead_nat {l : List Prt} {st : Int} {i : Nat} (h : 0 ≤ aheadGo l st i) : ∃ k : Nat, aheadGo l st i = (k : Nat) ∧ k < i := ⟨(aheadGo l st i).toNat, by omega, by have := ahead_lt (l := l) (st := st) (i := i); omega⟩
theorem fits_bd {p : Prt} {i : Nat} {x : Int} {o : Nat} (h : refFits p i x o = true) : 1 ≤ x ∧ x ≤ 799 := by
  unfold refFits at h
  exact within_iff.1 (Bool.and_eq_true_iff.1 h).1
end Go.Proofs.YtplpcamcnppibaaGreatDoor
namespace Go.Proofs.YtplpcamcnppibaaGreatDoor
open Go.RowKit
set_option maxRecDepth 20000
set_option linter.all false
set_option maxHeartbeats 4000000
/-- The number without a bit. -/
def clrN (o i : Nat) : Nat := (BitVec.ofInt 64 (o : Int) &&& ~~~BitVec.ofInt 64 ((2 ^ i : Nat) : Int)).toNat
theorem clr_bit {o i j : Nat} (h : o < 2 ^ 64) : (clrN o i).testBit j = (o.testBit j && decide (j ≠ i)) := by
  unfold clrN
  rw [BitVec.testBit_toNat, BitVec.getLsbD_and, BitVec.getLsbD_not]
  rw [show BitVec.ofInt 64 (o : Int) = BitVec.ofNat 64 o from BitVec.ofInt_natCast 64 o, show BitVec.ofInt 64 ((2 ^ i : Nat) : Int) = BitVec.ofNat 64 (2 ^ i) from BitVec.ofInt_natCast 64 _]
  rw [BitVec.getLsbD_ofNat, BitVec.getLsbD_ofNat, Nat.testBit_two_pow]
  by_cases hj : j < 64
  · by_cases e : j = i
    · subst e; simp [hj]
    · have e2 : ¬ i = j := fun h => e h.symm
      simp [hj, e, e2]
  · have : o.testBit j = false := Nat.testBit_lt_two_pow (Nat.lt_of_lt_of_le h (Nat.pow_le_pow_right (by decide) (by omega)))
    simp [hj, this]
theorem clr_le {o i : Nat} (h : o < 2 ^ 64) : clrN o i ≤ o := by
  unfold clrN
  rw [BitVec.toNat_and, show BitVec.ofInt 64 (o : Int) = BitVec.ofNat 64 o from BitVec.ofInt_natCast 64 o]
  refine Nat.le_trans Nat.and_le_left ?_
  rw [BitVec.toNat_ofNat]
  exact Nat.mod_le _ _
@[reducible] def prtT (l : List Prt) : List TV := (l.map prtE).flatten.map .d
theorem prt_rows {l : List Prt} : ∀ r ∈ l.map prtE, r.length = 8 := fun r h => by
  obtain ⟨x, _, rfl⟩ := List.mem_map.1 h; rfl
theorem prtT_len {l : List Prt} : (prtT l).length = l.length * 8 := by rw [List.length_map, fl_len prt_rows, List.length_map]
theorem prt_full {l : List Prt} {k : Nat} {p : Prt} {r : List TV} (h : l[k]? = some p) : (prtT l ++ r).set (0 + k * 8 + 4) (.d (.bool true)) = prtT (l.set k { p with full := true }) ++ r := by
  have hk := (List.getElem?_eq_some_iff.1 h).1
  have h1 := fl_set (j := 4) (c := D.bool true) prt_rows (show (l.map prtE)[k]? = some (prtE p) by rw [List.getElem?_map, h]; rfl) (by omega)
  rw [Nat.zero_add, List.set_append_left _ _ (by rw [prtT_len]; omega)]
  congr 1
  show ((l.map prtE).flatten.map TV.d).set (k * 8 + 4) (TV.d (.bool true)) = ((l.set k { p with full := true }).map prtE).flatten.map TV.d
  rw [← List.map_set, h1, List.map_set]; rfl
theorem prt_fig {l : List Prt} {k : Nat} {p : Prt} {r : List TV} {x : Int} (h : l[k]? = some p) : (prtT l ++ r).set (0 + k * 8 + 3) (.d (.int .i64 x)) = prtT (l.set k { p with fig := x }) ++ r := by
  have hk := (List.getElem?_eq_some_iff.1 h).1
  have h1 := fl_set (j := 3) (c := D.int .i64 x) prt_rows (show (l.map prtE)[k]? = some (prtE p) by rw [List.getElem?_map, h]; rfl) (by omega)
  rw [Nat.zero_add, List.set_append_left _ _ (by rw [prtT_len]; omega)]
  congr 1
  show ((l.map prtE).flatten.map TV.d).set (k * 8 + 3) (TV.d (.int .i64 x)) = ((l.set k { p with fig := x }).map prtE).flatten.map TV.d
  rw [← List.map_set, h1, List.map_set]; rfl
theorem pvec_cons {v : Value} {l : List Prt} (hV : VecV v 8 (prtT l)) (h : 0 < l.length) : ∃ b cap, v = .slice (some ⟨b, 0, none⟩) l.length cap ∧ l.length ≤ cap ∧ cap ≤ maxLen := by
  rcases hV with ⟨_, h1⟩ | ⟨b, n, cap, rfl, h1, h2, h3⟩
  · have := prtT_len (l := l)
    rw [h1] at this
    simp at this
    omega
  · rw [prtT_len] at h3
    have : n = l.length := by omega
    subst this
    exact ⟨b, cap, rfl, h1, h2⟩
def setP (l : List Prt) (k : Nat) (x : Int) : List Prt := l.set k { l.getD k prt0 with full := true, fig := x }
theorem setP_eq {l : List Prt} {k : Nat} {p : Prt} {x : Int} (h : l[k]? = some p) : (l.set k { p with full := true }).set k { p with full := true, fig := x } = setP l k x := by
  unfold setP; rw [List.set_set, getD_of h]
theorem setP_ok {b : Brd} {l : List Prt} {k : Nat} {x : Int} (hk : k < l.length) (hx : 1 ≤ x ∧ x ≤ 799) (h : ∀ p ∈ l, PrtOK b p) : ∀ p ∈ setP l k x, PrtOK b p := fun p hp => by
  unfold setP at hp
  rcases List.mem_or_eq_of_mem_set hp with h1 | rfl
  · exact h p h1
  · obtain ⟨q, hq⟩ := ex_get hk
    rw [getD_of hq]
    have := h q (List.mem_of_getElem? hq)
    exact ⟨this.st, this.nm, by simp only; omega, this.mi, this.la⟩
theorem setP_len {l : List Prt} {k : Nat} {x : Int} : (setP l k x).length = l.length := by unfold setP; rw [List.length_set]
theorem add_ints {ts : List Int} {p : Int} : ts.map intE ++ [intE p] = (ts ++ [p]).map intE := by simp
end Go.Proofs.YtplpcamcnppibaaGreatDoor
namespace Go.Proofs.YtplpcamcnppibaaGreatDoor
open Go.RowKit
set_option linter.all false
def stepsF (b : Brd) (l : List Prt) (j : Nat) (f : Nat → Int) : Bool := bif decide (0 ≤ aheadI l j) then nearB (f j) (f (aheadI l j).toNat) b.jump
  else withinB (f j) ((b.stocks.getD (l.getD j prt0).stock.toNat stk0).lo - b.jump) ((b.stocks.getD (l.getD j prt0).stock.toNat stk0).hi + b.jump)
def OkF (b : Brd) (l : List Prt) (o j : Nat) (f : Nat → Int) : Prop := refFits (l.getD j prt0) j (f j) o = true ∧ stepsF b l j f = true
def TruF (b : Brd) (l : List Prt) (o : Nat) (f : Nat → Int) : Prop := ∀ j, j < l.length → OkF b l o j f
theorem stepsF_congr {b : Brd} {l : List Prt} {j : Nat} {f g : Nat → Int} (h1 : f j = g j) (h2 : ∀ k : Nat, aheadI l j = (k : Nat) → f k = g k) : stepsF b l j f = stepsF b l j g := by
  unfold stepsF
  by_cases h : 0 ≤ aheadI l j
  · rw [decide_eq_true h, cond_true, cond_true, h1, h2 _ (show aheadI l j = ((aheadI l j).toNat : Nat) by omega)]
  · rw [decide_eq_false h, cond_false, cond_false, h1]
theorem OkF.congr {b : Brd} {l : List Prt} {o j : Nat} {f g : Nat → Int} (h : OkF b l o j f) (h1 : f j = g j) (h2 : ∀ k : Nat, aheadI l j = (k : Nat) → f k = g k) : OkF b l o j g := ⟨by rw [← h1]; exact h.1, by rw [← stepsF_congr h1 h2]; exact h.2⟩
theorem OkF.bd {b : Brd} {l : List Prt} {o j : Nat} {f : Nat → Int} (h : OkF b l o j f) : 1 ≤ f j ∧ f j ≤ 799 := fits_bd h.1
theorem near_iff {a b m : Int} : nearB a b m = true ↔ a - b ≤ m ∧ b - a ≤ m := by unfold nearB; simp only [Bool.and_eq_true, decide_eq_true_eq]
theorem ok_step {b : Brd} {l : List Prt} {o j k : Nat} {f : Nat → Int} (hk : aheadI l j = (k : Nat)) : OkF b l o j f ↔ refFits (l.getD j prt0) j (f j) o = true ∧ f j - f k ≤ b.jump ∧ f k - f j ≤ b.jump := by
  unfold OkF stepsF
  rw [hk, decide_eq_true (by omega), cond_true, Int.toNat_natCast, near_iff]
end Go.Proofs.YtplpcamcnppibaaGreatDoor
namespace Go.Proofs.YtplpcamcnppibaaGreatDoor
open Go.RowKit
set_option linter.all false
/-- What is left out, as bits. -/
def OutOK (l : List Prt) (out : List Int) (o : Nat) : Prop := ∀ i, i < l.length → out.contains ((i : Nat) : Int) = o.testBit i
theorem fits_out {l : List Prt} {out : List Int} {o : Nat} (h : OutOK l out o) {i : Nat} {s : Prt} {x : Int} (hs : l[i]? = some s) : refFits s i x o = (withinB x 1 799 && fitsB s (i : Nat) x out) := by
  unfold refFits fitsB
  rw [h i (List.getElem?_eq_some_iff.1 hs).1]
  cases o.testBit i <;> cases s.full <;> simp
def PreF (b : Brd) (l : List Prt) (o : Nat) (k : Int) (i : Nat) (f : Nat → Int) : Prop := ∀ j, j < i → (l.getD j prt0).stock = k → OkF b l o j f
theorem PreF.mono {b : Brd} {l : List Prt} {o : Nat} {k : Int} {i j : Nat} {f : Nat → Int} (h : PreF b l o k i f) (hj : j ≤ i) : PreF b l o k j f := fun a ha hs => h a (by omega) hs
/-- What the last sale of a stock before i can be; its Start if there is none. -/
def FwdN (b : Brd) (l : List Prt) (o : Nat) (k : Int) (st : Stk) (i : Nat) (p : Nat) : Prop := ∃ f : Nat → Int, PreF b l o k i f ∧ ((aheadGo l k i < 0 ∧ st.lo ≤ (p : Int) ∧ (p : Int) ≤ st.hi) ∨ ∃ a : Nat, aheadGo l k i = (a : Nat) ∧ f a = (p : Nat))
structure FwdI (b : Brd) (l : List Prt) (o : Nat) (k : Int) (st : Stk) (ms0 : List Nat) (i now : Nat) (ms : List Nat) : Prop where
  len : ms.length = l.length
  nw : ∀ p, p < 800 → (now.testBit p = true ↔ FwdN b l o k st i p)
  can : Can now
  lv : ∀ j, j < i → (l.getD j prt0).stock = k → ∀ p, p < 800 → ((ms.getD j 0).testBit p = true ↔ ∃ f, PreF b l o k (j + 1) f ∧ f j = (p : Nat))
  ot : ∀ j, (l.getD j prt0).stock ≠ k ∨ i ≤ j → ms.getD j 0 = ms0.getD j 0
theorem getD_set {ms : List Nat} {i j m : Nat} (h : i < ms.length) : (ms.set i m).getD j 0 = if i = j then m else ms.getD j 0 := by
  rw [List.getD_eq_getElem?_getD, List.getElem?_set]
  by_cases e : i = j
  · subst e; rw [if_pos rfl, if_pos h, if_pos rfl]; rfl
  · rw [if_neg e, if_neg e, ← List.getD_eq_getElem?_getD]
theorem ahead_next {l : List Prt} {i : Nat} {k : Int} (h : (l.getD i prt0).stock = k) : aheadGo l k (i + 1) = (i : Nat) := by
  rw [aheadGo, show ((l.getD i prt0).stock == k) = true by simpa using h]; rfl
theorem ahead_skip {l : List Prt} {i : Nat} {k : Int} (h : (l.getD i prt0).stock ≠ k) : aheadGo l k (i + 1) = aheadGo l k i := by
  rw [aheadGo, show ((l.getD i prt0).stock == k) = false by simpa using h]; rfl
theorem ok_start {b : Brd} {l : List Prt} {o j : Nat} {f : Nat → Int} {st : Stk} (hk : aheadI l j < 0) (hst : b.stocks.getD (l.getD j prt0).stock.toNat stk0 = st) : OkF b l o j f ↔ refFits (l.getD j prt0) j (f j) o = true ∧ st.lo - b.jump ≤ f j ∧ f j ≤ st.hi + b.jump := by
  unfold OkF stepsF
  rw [decide_eq_false (by omega), cond_false, hst, within_iff]
/-- One sale more, forward. -/
theorem fwd_one {b : Brd} {l : List Prt} {out : List Int} {o : Nat} {st : Stk} {k i J : Nat} {p : Nat} {s : Prt} {now : Nat} (hO : OutOK l out o) (hJ : b.jump = (J : Nat)) (hst : b.stocks[k]? = some st) (hso : 1 ≤ st.lo ∧ st.lo ≤ st.hi ∧ st.hi ≤ 799) (hs : l[i]? = some s) (hk : s.stock = (k : Int)) (hp : p < 800)
    (hn : ∀ p, p < 800 → (now.testBit p = true ↔ FwdN b l o (k : Int) st i p)) : (ownN s i out (nearN now J)).testBit p = true ↔ ∃ f, PreF b l o (k : Int) (i + 1) f ∧ f i = (p : Nat) := by
  unfold ownN
  rw [maskOf_bit, decide_eq_true hp, Bool.true_and, Bool.and_eq_true_iff, nearN_bit]
  have hg : l.getD i prt0 = s := getD_of hs
  have hai : aheadI l i = aheadGo l (k : Int) i := by unfold aheadI; rw [hg, hk]
  have hbs : b.stocks.getD (l.getD i prt0).stock.toNat stk0 = st := by rw [hg, hk, Int.toNat_natCast]; exact getD_of hst
  have hst2 : (l.getD i prt0).stock = (k : Int) := by rw [hg]; exact hk
  constructor
  · rintro ⟨⟨h1, _, p', hp', hb, hn1, hn2⟩, hf⟩
    obtain ⟨f, hpre, hc⟩ := (hn p' hp').1 hb
    have hfit : refFits s i (p : Nat) o = true := by rw [fits_out hO hs, hf, Bool.and_true]; exact within_iff.2 ⟨by omega, by omega⟩
    refine ⟨fun j => if j = i then (p : Nat) else f j, fun j hj hjs => ?_, if_pos rfl⟩
    by_cases e : j = i
    · subst e
      rcases hc with ⟨h2, h3, h4⟩ | ⟨a, ha, hfa⟩
      · refine (ok_start (by omega) hbs).2 ?_
        rw [if_pos rfl, hg]
        exact ⟨hfit, by omega, by omega⟩
      · have hlt := ahead_lt (l := l) (st := (k : Int)) (i := j)
        refine (ok_step (k := a) (by omega)).2 ?_
        rw [if_pos rfl, if_neg (by omega), hfa, hg]
        exact ⟨hfit, by omega, by omega⟩
    · refine (hpre j (by omega) hjs).congr (by (try dsimp only); rw [if_neg e]) fun a ha => ?_
      have ha' : aheadGo l (l.getD j prt0).stock j = (a : Nat) := ha
      have hlt := ahead_lt (l := l) (st := (l.getD j prt0).stock) (i := j)
      rw [if_neg (by omega)]
  · rintro ⟨f, hpre, hfi⟩
    have h0 := hpre i (by omega) hst2
    have hb0 := h0.bd
    rw [hfi] at hb0
    have hfit := h0.1
    rw [hg, hfi, fits_out hO hs, Bool.and_eq_true_iff] at hfit
    refine ⟨⟨by omega, by omega, ?_⟩, hfit.2⟩
    by_cases ha : aheadGo l (k : Int) i < 0
    · have h1 := (ok_start (by omega) hbs).1 h0
      rw [hfi] at h1
      refine ⟨(max st.lo (min st.hi (p : Int))).toNat, by omega, ?_, by omega, by omega⟩
      exact (hn _ (by omega)).2 ⟨f, hpre.mono (by omega), .inl ⟨ha, by omega, by omega⟩⟩
    · obtain ⟨a, haa, hai2⟩ := ahead_nat (l := l) (st := (k : Int)) (i := i) (by omega)
      have h1 := (ok_step (k := a) (by omega)).1 h0
      obtain ⟨_, a2, _⟩ := ahead_iff.1 haa
      have hba := (hpre a (by omega) a2).bd
      obtain ⟨q, hq⟩ : ∃ q : Nat, f a = (q : Nat) := ⟨(f a).toNat, by omega⟩
      rw [hfi, hq] at h1
      rw [hq] at hba
      exact ⟨q, by omega, (hn q (by omega)).2 ⟨f, hpre.mono (by omega), .inr ⟨a, haa, hq⟩⟩, by omega, by omega⟩
theorem FwdI.step {b : Brd} {l : List Prt} {out : List Int} {o : Nat} {st : Stk} {k i J : Nat} {s : Prt} {now : Nat} {ms0 ms : List Nat} (hO : OutOK l out o) (hJ : b.jump = (J : Nat)) (hst : b.stocks[k]? = some st) (hso : 1 ≤ st.lo ∧ st.lo ≤ st.hi ∧ st.hi ≤ 799) (hs : l[i]? = some s) (hk : s.stock = (k : Int))
    (h : FwdI b l o (k : Int) st ms0 i now ms) : FwdI b l o (k : Int) st ms0 (i + 1) (ownN s i out (nearN now J)) (ms.set i (ownN s i out (nearN now J))) := by
  have hil := (List.getElem?_eq_some_iff.1 hs).1
  have hst2 : (l.getD i prt0).stock = (k : Int) := by rw [getD_of hs]; exact hk
  have h1 := fun p (hp : p < 800) => fwd_one (p := p) hO hJ hst hso hs hk hp h.nw
  refine ⟨by rw [List.length_set]; exact h.len, fun p hp => (h1 p hp).trans ?_, can_own _ _ _ _, fun j hj hjs p hp => ?_, fun j hj => ?_⟩
  · unfold FwdN
    rw [ahead_next hst2]
    constructor
    · rintro ⟨f, hf, hfi⟩
      exact ⟨f, hf, .inr ⟨i, rfl, hfi⟩⟩
    · rintro ⟨f, hf, h2 | ⟨a, ha, hfa⟩⟩
      · omega
      · obtain rfl : i = a := by omega
        exact ⟨f, hf, hfa⟩
  · rw [getD_set (by rw [h.len]; exact hil)]
    by_cases e : i = j
    · subst e; rw [if_pos rfl]; exact h1 p hp
    · rw [if_neg e]; exact h.lv j (by omega) hjs p hp
  · rw [getD_set (by rw [h.len]; exact hil)]
    have hne : i ≠ j := by
      rintro rfl
      rcases hj with hj | hj
      · exact hj hst2
      · omega
    rw [if_neg hne]
    refine h.ot j ?_
    rcases hj with hj | hj
    · exact .inl hj
    · exact .inr (by omega)
theorem FwdI.skip {b : Brd} {l : List Prt} {o : Nat} {st : Stk} {k : Int} {i : Nat} {s : Prt} {now : Nat} {ms0 ms : List Nat} (hs : l[i]? = some s) (hk : s.stock ≠ k) (h : FwdI b l o k st ms0 i now ms) : FwdI b l o k st ms0 (i + 1) now ms := by
  have hne : (l.getD i prt0).stock ≠ k := by rw [getD_of hs]; exact hk
  refine ⟨h.len, fun p hp => (h.nw p hp).trans ?_, h.can, fun j hj hjs p hp => h.lv j ?_ hjs p hp, fun j hj => h.ot j ?_⟩
  · unfold FwdN
    rw [ahead_skip hne]
    constructor
    · rintro ⟨f, hf, hc⟩
      exact ⟨f, fun j hj hjs => hf j (by
        rcases Nat.lt_or_ge j i with h1 | h1
        · exact h1
        · obtain rfl : j = i := by omega
          exact (hne hjs).elim) hjs, hc⟩
    · rintro ⟨f, hf, hc⟩
      exact ⟨f, hf.mono (by omega), hc⟩
  · rcases Nat.lt_or_ge j i with h1 | h1
    · exact h1
    · obtain rfl : j = i := by omega
      exact (hne hjs).elim
  · rcases hj with hj | hj
    · exact .inl hj
    · exact .inr (by omega)
theorem fwd_all {b : Brd} {l : List Prt} {out : List Int} {o : Nat} {st : Stk} {k J : Nat} {ms0 : List Nat} (hO : OutOK l out o) (hJ : b.jump = (J : Nat)) (hst : b.stocks[k]? = some st) (hso : 1 ≤ st.lo ∧ st.lo ≤ st.hi ∧ st.hi ≤ 799) : ∀ (n i now : Nat) (ms : List Nat), i + n = l.length → FwdI b l o (k : Int) st ms0 i now ms →
    FwdI b l o (k : Int) st ms0 l.length (fwdGo out J k i (l.drop i) now ms).1 (fwdGo out J k i (l.drop i) now ms).2
  | 0, i, now, ms, h, hI => by
    obtain rfl : i = l.length := by omega
    rw [List.drop_length]; exact hI
  | n + 1, i, now, ms, h, hI => by
    obtain ⟨s, hs⟩ := ex_get (show i < l.length by omega)
    rw [drop_get hs, fwdGo]
    cases hk : s.stock == (k : Int)
    · exact fwd_all hO hJ hst hso n (i + 1) now ms (by omega) (hI.skip hs (by simpa using hk))
    · exact fwd_all hO hJ hst hso n (i + 1) _ _ (by omega) (hI.step hO hJ hst hso hs (by simpa using hk))
theorem fwd_start {b : Brd} {l : List Prt} {o : Nat} {st : Stk} {k : Int} {ms0 : List Nat} (hl : ms0.length = l.length) : FwdI b l o k st ms0 0 (startN st) ms0 := by
  refine ⟨hl, fun p hp => ?_, can_start _, fun j hj => by omega, fun _ _ => rfl⟩
  unfold startN FwdN
  rw [maskOf_bit, decide_eq_true hp, Bool.true_and, within_iff]
  constructor
  · intro h
    exact ⟨fun _ => 0, fun j hj => by omega, .inl ⟨by unfold aheadGo; omega, h.1, h.2⟩⟩
  · rintro ⟨f, hf, h | ⟨a, ha, _⟩⟩
    · exact ⟨h.2.1, h.2.2⟩
    · unfold aheadGo at ha; omega
theorem now_zero {b : Brd} {l : List Prt} {o : Nat} {st : Stk} {k : Int} {ms0 ms : List Nat} {now : Nat} (hso : 1 ≤ st.lo ∧ st.lo ≤ st.hi ∧ st.hi ≤ 799) (h : FwdI b l o k st ms0 l.length now ms) : (now == 0) = true ↔ ¬ ∃ f, PreF b l o k l.length f := by
  rw [beq_iff_eq]
  constructor
  · rintro rfl ⟨f, hf⟩
    by_cases ha : aheadGo l k l.length < 0
    · have := (h.nw st.lo.toNat (by omega)).2 ⟨f, hf, .inl ⟨ha, by omega, by omega⟩⟩
      rw [Nat.zero_testBit] at this; cases this
    · obtain ⟨a, haa, hal⟩ := ahead_nat (l := l) (st := k) (i := l.length) (by omega)
      obtain ⟨_, a2, _⟩ := ahead_iff.1 haa
      have hb := (hf a hal a2).bd
      have := (h.nw (f a).toNat (by omega)).2 ⟨f, hf, .inr ⟨a, haa, by omega⟩⟩
      rw [Nat.zero_testBit] at this; cases this
  · intro hne
    refine lv_eq h.can can_zero fun p hp => ?_
    rw [Nat.zero_testBit]
    cases hb : now.testBit p
    · rfl
    · obtain ⟨f, hf, _⟩ := (h.nw p hp).1 hb
      exact (hne ⟨f, hf⟩).elim
structure BwdI (b : Brd) (l : List Prt) (o : Nat) (k : Int) (ms0 : List Nat) (i now : Nat) (ms : List Nat) : Prop where
  len : ms.length = l.length
  nw : ∀ a : Nat, aheadGo l k i = (a : Nat) → ∀ p, p < 800 → (∃ f, PreF b l o k (a + 1) f ∧ f a = (p : Nat)) → (now.testBit p = true ↔ ∃ f, PreF b l o k l.length f ∧ f a = (p : Nat))
  lo : ∀ j, j < i → (l.getD j prt0).stock = k → ∀ p, p < 800 → ((ms.getD j 0).testBit p = true ↔ ∃ f, PreF b l o k (j + 1) f ∧ f j = (p : Nat))
  hi : ∀ j, i ≤ j → j < l.length → (l.getD j prt0).stock = k → ∀ p, p < 800 → ((ms.getD j 0).testBit p = true ↔ ∃ f, PreF b l o k l.length f ∧ f j = (p : Nat))
  ot : ∀ j, (l.getD j prt0).stock ≠ k → ms.getD j 0 = ms0.getD j 0
theorem bwd_start {b : Brd} {l : List Prt} {o : Nat} {st : Stk} {k : Int} {ms0 ms : List Nat} {now : Nat} (h : FwdI b l o k st ms0 l.length now ms) : BwdI b l o k ms0 l.length now ms := by
  refine ⟨h.len, fun a ha p hp _ => (h.nw p hp).trans ?_, h.lv, fun j h1 h2 => by omega, fun j hj => h.ot j (.inl hj)⟩
  unfold FwdN
  rw [ha]
  constructor
  · rintro ⟨f, hf, h2 | ⟨a', ha', hfa⟩⟩
    · omega
    · obtain rfl : a = a' := by omega
      exact ⟨f, hf, hfa⟩
  · rintro ⟨f, hf, hfa⟩
    exact ⟨f, hf, .inr ⟨a, rfl, hfa⟩⟩
theorem bwd_step {b : Brd} {l : List Prt} {o : Nat} {k : Int} {ms0 ms : List Nat} {now i J : Nat} (hJ : b.jump = (J : Nat)) (hil : i < l.length) (hk : (l.getD i prt0).stock = k) (h : BwdI b l o k ms0 (i + 1) now ms) :
    BwdI b l o k ms0 i (nearN (ms.getD i 0 &&& now) J) (ms.set i (ms.getD i 0 &&& now)) := by
  have hm : ∀ p, p < 800 → ((ms.getD i 0 &&& now).testBit p = true ↔ ∃ f, PreF b l o k l.length f ∧ f i = (p : Nat)) := fun p hp => by
    rw [Nat.testBit_and, Bool.and_eq_true_iff, h.lo i (by omega) hk p hp]
    constructor
    · rintro ⟨h1, h2⟩
      exact (h.nw i (ahead_next hk) p hp h1).1 h2
    · rintro ⟨f, hf, hfi⟩
      have h1 : ∃ f, PreF b l o k (i + 1) f ∧ f i = (p : Nat) := ⟨f, hf.mono (by omega), hfi⟩
      exact ⟨h1, (h.nw i (ahead_next hk) p hp h1).2 ⟨f, hf, hfi⟩⟩
  refine ⟨by rw [List.length_set]; exact h.len, fun a ha p hp ⟨g, hg, hga⟩ => ?_, fun j hj hjs p hp => ?_, fun j hj hjl hjs p hp => ?_, fun j hj => ?_⟩
  · obtain ⟨a1, a2, a3⟩ := ahead_iff.1 ha
    have hai : aheadI l i = (a : Nat) := by unfold aheadI; rw [hk]; exact ha
    have hbg := (hg a (by omega) a2).bd
    rw [hga] at hbg
    rw [nearN_bit]
    constructor
    · rintro ⟨h1, _, q, hq, hb, hn1, hn2⟩
      obtain ⟨f, hf, hfi⟩ := (hm q hq).1 hb
      refine ⟨fun j => if j ≤ a then g j else f j, fun j hj hjs => ?_, (if_pos (Nat.le_refl _)).trans hga⟩
      rcases Nat.lt_or_ge a j with h2 | h2
      · by_cases e : j = i
        · subst e
          refine (ok_step hai).2 ?_
          rw [if_neg (by omega), if_pos (Nat.le_refl _), hga, hfi]
          have h3 := (hf j hil hjs).1
          rw [hfi] at h3
          exact ⟨h3, by omega, by omega⟩
        · have hij : i < j := by
            rcases Nat.lt_or_ge i j with h3 | h3
            · exact h3
            · exact (a3 j h2 (by omega) hjs).elim
          refine (hf j hj hjs).congr (by (try dsimp only); rw [if_neg (by omega)]) fun c hc => ?_
          have hc' : aheadGo l (l.getD j prt0).stock j = (c : Nat) := hc
          obtain ⟨c1, c2, c3⟩ := ahead_iff.1 hc'
          have : i ≤ c := by
            rcases Nat.lt_or_ge c i with h3 | h3
            · exact (c3 i h3 hij (hk.trans hjs.symm)).elim
            · exact h3
          rw [if_neg (by omega)]
      · refine (hg j (by omega) hjs).congr (by (try dsimp only); rw [if_pos h2]) fun c hc => ?_
        have hc' : aheadGo l (l.getD j prt0).stock j = (c : Nat) := hc
        obtain ⟨c1, c2, c3⟩ := ahead_iff.1 hc'
        rw [if_pos (by omega)]
    · rintro ⟨f, hf, hfa⟩
      have h1 := hf i hil hk
      have hb1 := h1.bd
      obtain ⟨q, hq⟩ : ∃ q : Nat, f i = (q : Nat) := ⟨(f i).toNat, by omega⟩
      have h2 := (ok_step hai).1 h1
      rw [hq, hfa] at h2
      rw [hq] at hb1
      exact ⟨by omega, hp, q, by omega, (hm q (by omega)).2 ⟨f, hf, hq⟩, by omega, by omega⟩
  · rw [getD_set (by rw [h.len]; exact hil), if_neg (by omega)]
    exact h.lo j (by omega) hjs p hp
  · rw [getD_set (by rw [h.len]; exact hil)]
    by_cases e : i = j
    · subst e; rw [if_pos rfl]; exact hm p hp
    · rw [if_neg e]; exact h.hi j (by omega) hjl hjs p hp
  · rw [getD_set (by rw [h.len]; exact hil), if_neg (fun e : i = j => hj (by rw [← e]; exact hk))]
    exact h.ot j hj
theorem bwd_skip {b : Brd} {l : List Prt} {o : Nat} {k : Int} {ms0 ms : List Nat} {now i : Nat} (hk : (l.getD i prt0).stock ≠ k) (h : BwdI b l o k ms0 (i + 1) now ms) : BwdI b l o k ms0 i now ms := by
  refine ⟨h.len, fun a ha => h.nw a (by rw [ahead_skip hk]; exact ha), fun j hj => h.lo j (by omega), fun j hj hjl hjs => h.hi j ?_ hjl hjs, h.ot⟩
  rcases Nat.lt_or_ge i j with h1 | h1
  · omega
  · obtain rfl : j = i := by omega
    exact (hk hjs).elim
theorem bwd_all {b : Brd} {l : List Prt} {o : Nat} {k J : Nat} {ms0 : List Nat} (hJ : b.jump = (J : Nat)) : ∀ (i now : Nat) (ms : List Nat), i ≤ l.length → BwdI b l o (k : Int) ms0 i now ms → ∃ now2, BwdI b l o (k : Int) ms0 0 now2 (bwdGo l J k i now ms)
  | 0, now, ms, _, h => ⟨now, h⟩
  | i + 1, now, ms, hi, h => by
    rw [bwdGo]
    have e0 : (l.getD i ⟨-1, 0, 0, 0, false, 0, 0, 0⟩) = l.getD i prt0 := rfl
    rw [e0]
    cases hk : (l.getD i prt0).stock == (k : Int)
    · exact bwd_all hJ i now ms (by omega) (bwd_skip (by simpa using hk) h)
    · exact bwd_all hJ i _ _ (by omega) (bwd_step hJ (by omega) (by simpa using hk) h)
/-- The levels when the stocks before k are done. -/
structure LvlI (b : Brd) (l : List Prt) (o : Nat) (k : Nat) (ms : List Nat) : Prop where
  len : ms.length = l.length
  ex : ∀ c : Nat, c < k → ∃ f, PreF b l o (c : Int) l.length f
  lv : ∀ j, j < l.length → ∀ c : Nat, c < k → (l.getD j prt0).stock = (c : Int) → ∀ p, p < 800 → ((ms.getD j 0).testBit p = true ↔ ∃ f, PreF b l o (c : Int) l.length f ∧ f j = (p : Nat))
theorem lvl_all {b : Brd} {l : List Prt} {out : List Int} {o J : Nat} (hO : OutOK l out o) (hJ : b.jump = (J : Nat)) (v : BrdOK b) : ∀ (n k : Nat) (ms : List Nat), k + n = b.stocks.length → LvlI b l o k ms →
    (∀ r, lvlGo l out J k (b.stocks.drop k) ms = some r → LvlI b l o b.stocks.length r) ∧ (lvlGo l out J k (b.stocks.drop k) ms = none → ∃ c : Nat, c < b.stocks.length ∧ ¬ ∃ f, PreF b l o (c : Int) l.length f)
  | 0, k, ms, h, hI => by
    obtain rfl : k = b.stocks.length := by omega
    rw [List.drop_length]
    exact ⟨fun r hr => (by cases hr; exact hI), fun hr => (by cases hr)⟩
  | n + 1, k, ms, h, hI => by
    obtain ⟨st, hst⟩ := ex_get (show k < b.stocks.length by omega)
    have hs4 := stk_ok v (List.mem_of_getElem? hst)
    have hso : 1 ≤ st.lo ∧ st.lo ≤ st.hi ∧ st.hi ≤ 799 := ⟨hs4.1, hs4.2.1, hs4.2.2.1⟩
    have hf := fwd_all (ms0 := ms) hO hJ hst hso l.length 0 (startN st) ms (by omega) (fwd_start hI.len)
    rw [List.drop_zero] at hf
    have hz := now_zero hso hf
    rw [drop_get hst, lvlGo]
    cases hc : ((fwdGo out J k 0 l (startN st) ms).1 == 0)
    · rw [cond_false]
      obtain ⟨now2, hb⟩ := bwd_all hJ l.length _ _ (Nat.le_refl _) (bwd_start hf)
      refine lvl_all hO hJ v n (k + 1) _ (by omega) ⟨hb.len, fun c hck => ?_, fun j hj c hck hjs p hp => ?_⟩
      · by_cases e : c = k
        · subst e
          exact Classical.byContradiction fun hne => by rw [hz.2 hne] at hc; cases hc
        · exact hI.ex c (by omega)
      · by_cases e : c = k
        · subst e; exact hb.hi j (by omega) hj hjs p hp
        · rw [hb.ot j (by rw [hjs]; omega)]
          exact hI.lv j hj c (by omega) hjs p hp
    · rw [cond_true]
      exact ⟨fun r hr => (by cases hr), fun _ => ⟨k, by omega, hz.1 hc⟩⟩
theorem levels_iff {b : Brd} {l : List Prt} {out : List Int} {o : Nat} (hO : OutOK l out o) (v : BrdOK b) (hpo : ∀ p ∈ l, PrtOK b p) :
    ((levelsI b l out).isSome = true ↔ ∃ f, TruF b l o f) ∧ ∀ ms, levelsI b l out = some ms → ∀ i, i < l.length → ∀ p, p < 800 → ((ms.getD i 0).testBit p = true ↔ ∃ f, TruF b l o f ∧ f i = (p : Nat)) := by
  have hJ : b.jump = (b.jump.toNat : Nat) := by have := v.j0; omega
  obtain ⟨h1, h2⟩ := lvl_all (ms := List.replicate l.length 0) hO hJ v b.stocks.length 0 (by omega) ⟨by simp, fun c h => by omega, fun j _ c h => by omega⟩
  rw [List.drop_zero] at h1 h2
  have hstk : ∀ j, j < l.length → ∃ c : Nat, c < b.stocks.length ∧ (l.getD j prt0).stock = (c : Int) := fun j hj => by
    obtain ⟨p, hp⟩ := ex_get hj
    have := (hpo p (List.mem_of_getElem? hp)).st
    rw [getD_of hp]
    exact ⟨p.stock.toNat, by omega, by omega⟩
  have hall : ∀ (F : Int → Nat → Int), (∀ c : Nat, c < b.stocks.length → PreF b l o (c : Int) l.length (F (c : Int))) → TruF b l o fun j => F (l.getD j prt0).stock j := fun F hF j hj => by
    obtain ⟨c, hc, hcs⟩ := hstk j hj
    refine (hF c hc j hj hcs).congr (by (try dsimp only); rw [hcs]) fun a ha => ?_
    have ha' : aheadGo l (l.getD j prt0).stock j = (a : Nat) := ha
    obtain ⟨_, a2, _⟩ := ahead_iff.1 ha'
    (try dsimp only)
    rw [a2, hcs]
  constructor
  · constructor
    · intro h
      obtain ⟨r, hr⟩ := Option.isSome_iff_exists.1 h
      have hI := h1 r hr
      have : ∀ c : Int, ∃ f, (0 ≤ c ∧ c < b.stocks.length) → PreF b l o c l.length f := fun c => by
        by_cases hc : 0 ≤ c ∧ c < b.stocks.length
        · obtain ⟨f, hf⟩ := hI.ex c.toNat (by omega)
          exact ⟨f, fun _ => by rw [show ((c.toNat : Nat) : Int) = c by omega] at hf; exact hf⟩
        · exact ⟨fun _ => 0, fun h => (hc h).elim⟩
      refine ⟨_, hall (fun c => Classical.choose (this c)) fun c hc => Classical.choose_spec (this (c : Int)) ⟨by omega, by omega⟩⟩
    · rintro ⟨f, hf⟩
      cases hr : levelsI b l out with
      | some r => rfl
      | none =>
        obtain ⟨c, hc, hne⟩ := h2 hr
        exact (hne ⟨f, fun j hj _ => hf j hj⟩).elim
  · intro ms hms i hi p hp
    have hI := h1 ms hms
    obtain ⟨c, hc, hcs⟩ := hstk i hi
    rw [hI.lv i hi c hc hcs p hp]
    constructor
    · rintro ⟨f, hf, hfi⟩
      have : ∀ c : Int, ∃ f, (0 ≤ c ∧ c < b.stocks.length) → PreF b l o c l.length f := fun c => by
        by_cases hc : 0 ≤ c ∧ c < b.stocks.length
        · obtain ⟨f, hf⟩ := hI.ex c.toNat (by omega)
          exact ⟨f, fun _ => by rw [show ((c.toNat : Nat) : Int) = c by omega] at hf; exact hf⟩
        · exact ⟨fun _ => 0, fun h => (hc h).elim⟩
      refine ⟨_, hall (fun d => if d = (c : Int) then f else Classical.choose (this d)) fun d hd => ?_, ?_⟩
      · by_cases e : (d : Int) = (c : Int)
        · rw [if_pos e, e]; exact hf
        · rw [if_neg e]; exact Classical.choose_spec (this (d : Int)) ⟨by omega, by omega⟩
      · show (if (l.getD i prt0).stock = (c : Int) then f else _) i = _
        rw [if_pos hcs]; exact hfi
    · rintro ⟨f, hf, hfi⟩
      exact ⟨f, fun j hj _ => hf j hj, hfi⟩
end Go.Proofs.YtplpcamcnppibaaGreatDoor
namespace Go.Proofs.YtplpcamcnppibaaGreatDoor
open Go.RowKit
set_option maxRecDepth 20000
set_option linter.all false
set_option maxHeartbeats 4000000
theorem setP_stock {l : List Prt} {k j : Nat} {x : Int} : ((setP l k x).getD j prt0).stock = (l.getD j prt0).stock := by
  unfold setP
  rw [List.getD_eq_getElem?_getD, List.getElem?_set]
  by_cases e : k = j
  · subst e
    rw [if_pos rfl]
    by_cases h : k < l.length
    · rw [if_pos h]; rfl
    · rw [if_neg h, List.getD_eq_getElem?_getD, List.getElem?_eq_none (by omega)]
  · rw [if_neg e, ← List.getD_eq_getElem?_getD]
theorem ahead_setP {l : List Prt} {k : Nat} {x st : Int} : ∀ {i : Nat}, aheadGo (setP l k x) st i = aheadGo l st i
  | 0 => rfl
  | i + 1 => by unfold aheadGo; rw [setP_stock, ahead_setP]
theorem stepsF_setP {b : Brd} {l : List Prt} {k j : Nat} {x : Int} {f : Nat → Int} : stepsF b (setP l k x) j f = stepsF b l j f := by
  unfold stepsF aheadI
  rw [setP_stock, ahead_setP]
theorem tru_setP {b : Brd} {l : List Prt} {o k : Nat} {x : Int} {f : Nat → Int} (ho : o < 2 ^ 64) (hk : k < l.length) (hf : refFits (l.getD k prt0) k x o = true) : TruF b (setP l k x) (clrN o k) f ↔ TruF b l o f ∧ f k = x := by
  have hx := fits_bd hf
  have hbit : (clrN o k).testBit k = false := by rw [clr_bit ho]; simp
  have hne : ∀ j, j ≠ k → refFits ((setP l k x).getD j prt0) j (f j) (clrN o k) = refFits (l.getD j prt0) j (f j) o := fun j hj => by
    have e1 : (setP l k x).getD j prt0 = l.getD j prt0 := by
      unfold setP
      rw [List.getD_eq_getElem?_getD, List.getElem?_set, if_neg (fun e => hj e.symm), ← List.getD_eq_getElem?_getD]
    have e2 : (clrN o k).testBit j = o.testBit j := by rw [clr_bit ho]; simp [hj]
    unfold refFits
    rw [e1, e2]
  have hkk : refFits ((setP l k x).getD k prt0) k (f k) (clrN o k) = true ↔ f k = x := by
    have e1 : (setP l k x).getD k prt0 = { l.getD k prt0 with full := true, fig := x } := by
      unfold setP
      rw [List.getD_eq_getElem?_getD, List.getElem?_set, if_pos rfl, if_pos hk]; rfl
    unfold refFits
    rw [e1, hbit]
    simp only [Bool.true_and, Bool.not_true, Bool.false_and, Bool.or_false, Bool.false_or, Bool.and_eq_true_iff, beq_iff_eq, within_iff]
    constructor
    · exact fun h => h.2
    · intro h; rw [h]; exact ⟨hx, rfl⟩
  constructor
  · intro h
    have hkx := hkk.1 (h k (by rw [setP_len]; exact hk)).1
    refine ⟨fun j hj => ?_, hkx⟩
    have h1 := h j (by rw [setP_len]; exact hj)
    refine ⟨?_, by rw [← stepsF_setP (k := k) (x := x)]; exact h1.2⟩
    by_cases e : j = k
    · subst e; rw [hkx]; exact hf
    · rw [← hne j e]; exact h1.1
  · rintro ⟨h, hkx⟩ j hj
    rw [setP_len] at hj
    refine ⟨?_, by rw [stepsF_setP]; exact (h j hj).2⟩
    by_cases e : j = k
    · subst e; exact hkk.2 hkx
    · rw [hne j e]; exact (h j hj).1
theorem out_nil {l : List Prt} : OutOK l [] 0 := fun i _ => by rw [Nat.zero_testBit]; rfl
end Go.Proofs.YtplpcamcnppibaaGreatDoor
namespace Go.Proofs.YtplpcamcnppibaaGreatDoor
open Go.RowKit
set_option linter.all false
set_option maxHeartbeats 4000000
theorem bndGo_is {m : Nat} : ∀ n, n ≤ 800 → ((∀ q, q < n → m.testBit q = false) ∧ bndGo m n = (799, 0)) ∨ ∃ lo hi : Nat, bndGo m n = ((lo : Int), (hi : Int)) ∧ lo < n ∧ hi < n ∧ m.testBit lo = true ∧ m.testBit hi = true ∧ ∀ q, q < n → m.testBit q = true → lo ≤ q ∧ q ≤ hi
  | 0, _ => .inl ⟨fun q h => by omega, rfl⟩
  | n + 1, hn => by
    have ih := bndGo_is (m := m) n (by omega)
    cases hb : m.testBit n with
    | false =>
      have e : bndGo m (n + 1) = bndGo m n := by rw [bndGo, hb]; rfl
      rw [e]
      rcases ih with ⟨h1, h2⟩ | ⟨lo, hi, h1, h2, h3, h4, h5, h6⟩
      · refine .inl ⟨fun q hq => ?_, h2⟩
        by_cases e : q = n
        · subst e; exact hb
        · exact h1 q (by omega)
      · refine .inr ⟨lo, hi, h1, by omega, by omega, h4, h5, fun q hq hqb => ?_⟩
        by_cases e : q = n
        · subst e; rw [hb] at hqb; cases hqb
        · exact h6 q (by omega) hqb
    | true =>
      have e : bndGo m (n + 1) = (min (bndGo m n).1 (n : Nat), max (bndGo m n).2 (n : Nat)) := by rw [bndGo, hb]; rfl
      rw [e]
      rcases ih with ⟨h1, h2⟩ | ⟨lo, hi, h1, h2, h3, h4, h5, h6⟩
      · rw [h2]
        refine .inr ⟨n, n, by simp only [Prod.mk.injEq]; omega, by omega, by omega, hb, hb, fun q hq hqb => ?_⟩
        by_cases e : q = n
        · omega
        · rw [h1 q (by omega)] at hqb; cases hqb
      · rw [h1]
        refine .inr ⟨lo, n, by simp only [Prod.mk.injEq]; omega, by omega, by omega, h4, hb, fun q hq hqb => ?_⟩
        by_cases e : q = n
        · omega
        · have := h6 q (by omega) hqb; omega
/-- The bounds of a level that is not empty. -/
theorem bnd_is {m q0 : Nat} (h : m.testBit q0 = true) (h0 : q0 < 800) : ∃ lo hi : Nat, bndN m = ((lo : Int), (hi : Int)) ∧ lo < 800 ∧ hi < 800 ∧ m.testBit lo = true ∧ m.testBit hi = true ∧ ∀ q, q < 800 → m.testBit q = true → lo ≤ q ∧ q ≤ hi := by
  rcases bndGo_is (m := m) 800 (Nat.le_refl _) with ⟨h1, _⟩ | h1
  · rw [h1 q0 h0] at h; cases h
  · exact h1
theorem tru_pos {b : Brd} {l : List Prt} {o : Nat} {f : Nat → Int} (h : TruF b l o f) {i : Nat} (hi : i < l.length) : ∃ p : Nat, f i = (p : Nat) ∧ 1 ≤ p ∧ p ≤ 799 := by
  have := (h i hi).bd
  exact ⟨(f i).toNat, by omega, by omega, by omega⟩
/-- The bounds of a sale: the least and the greatest price of truths. -/
theorem lvl_bnd {b : Brd} {l : List Prt} {out : List Int} {o : Nat} {ms : List Nat} (hO : OutOK l out o) (v : BrdOK b) (hpo : ∀ p ∈ l, PrtOK b p) (hms : levelsI b l out = some ms) {i : Nat} (hi : i < l.length) :
    ∃ lo hi : Nat, bndN (ms.getD i 0) = ((lo : Int), (hi : Int)) ∧ (∃ f, TruF b l o f ∧ f i = (lo : Nat)) ∧ (∃ f, TruF b l o f ∧ f i = (hi : Nat)) ∧ ∀ f, TruF b l o f → (lo : Int) ≤ f i ∧ f i ≤ (hi : Int) := by
  obtain ⟨h1, h2⟩ := levels_iff hO v hpo
  obtain ⟨f0, hf0⟩ := h1.1 (by rw [hms]; rfl)
  obtain ⟨p0, e0, p1, p2⟩ := tru_pos hf0 hi
  have hb0 := (h2 ms hms i hi p0 (by omega)).2 ⟨f0, hf0, e0⟩
  obtain ⟨lo, hi2, g1, g2, g3, g4, g5, g6⟩ := bnd_is hb0 (by omega)
  refine ⟨lo, hi2, g1, (h2 ms hms i hi lo g2).1 g4, (h2 ms hms i hi hi2 g3).1 g5, fun f hf => ?_⟩
  obtain ⟨p, e, q1, q2⟩ := tru_pos hf hi
  have := g6 p (by omega) ((h2 ms hms i hi p (by omega)).2 ⟨f, hf, e⟩)
  omega
def shL (b : Brd) (sales : List Prt) (i : Nat) : Int := (bndN (((levelsI b sales []).getD []).getD i 0)).1
def showGo (b : Brd) : Nat → List Prt → List Int → List Int
  | 0, _, out => out
  | n + 1, sales, out => showGo b n (setP sales out.length (shL b sales out.length)) (out ++ [shL b sales out.length])
def showP (b : Brd) (l : List Prt) (k : Nat) (hi : Bool) : Int := bif hi then (bndN (((levelsI b l []).getD []).getD k 0)).2 else (bndN (((levelsI b l []).getD []).getD k 0)).1
def showI (b : Brd) (s : List UInt8) (k : Int) (hi : Bool) : List Int × Int := bif (readI b s).2 != 0 then ([], (readI b s).2) else bif !(withinB k 0 (((readI b s).1.length : Int) - 1)) then ([], 2) else
  bif !((levelsI b (readI b s).1 []).isSome) then ([], 11) else (showGo b (readI b s).1.length (setP (readI b s).1 k.toNat (showP b (readI b s).1 k.toNat hi)) [], 0)
theorem clr_zero {k : Nat} : clrN 0 k = 0 := by have := clr_le (o := 0) (i := k) (by decide); omega
theorem tru_set0 {b : Brd} {l : List Prt} {k : Nat} {x : Int} {f : Nat → Int} (hk : k < l.length) (hex : ∃ g, TruF b l 0 g ∧ g k = x) : TruF b (setP l k x) 0 f ↔ TruF b l 0 f ∧ f k = x := by
  obtain ⟨g, hg, hgk⟩ := hex
  have := tru_setP (b := b) (l := l) (o := 0) (k := k) (x := x) (f := f) (by decide) hk (by rw [← hgk]; exact (hg k hk).1)
  rwa [clr_zero] at this
/-- The levels are there as the search goes on. -/
structure ShInv (b : Brd) (X : List Prt) : Prop where
  po : ∀ p ∈ X, PrtOK b p
  ex : ∃ f, TruF b X 0 f
theorem ShInv.lev {b : Brd} {X : List Prt} (v : BrdOK b) (h : ShInv b X) : ∃ ms, levelsI b X [] = some ms := Option.isSome_iff_exists.1 ((levels_iff (out := []) (o := 0) out_nil v h.po).1.2 h.ex)
theorem ShInv.step {b : Brd} {X : List Prt} (v : BrdOK b) (h : ShInv b X) {i : Nat} (hi : i < X.length) : ShInv b (setP X i (shL b X i)) := by
  obtain ⟨ms, hms⟩ := h.lev v
  obtain ⟨lo, hi2, e, ⟨f1, hf1, hf1k⟩, _, _⟩ := lvl_bnd out_nil v h.po hms hi
  have esh : shL b X i = (lo : Int) := by unfold shL; rw [hms, Option.getD_some, e]
  rw [esh]
  have b1 := (hf1 _ hi).bd
  exact ⟨setP_ok hi (by omega) h.po, f1, (tru_set0 hi ⟨f1, hf1, hf1k⟩).2 ⟨hf1, hf1k⟩⟩
theorem ShInv.first {b : Brd} {l : List Prt} {ms : List Nat} (v : BrdOK b) (hpo : ∀ p ∈ l, PrtOK b p) (hms : levelsI b l [] = some ms) {k : Nat} (hi : Bool) (hk : k < l.length) : ShInv b (setP l k (showP b l k hi)) := by
  obtain ⟨lo, hi2, e, ⟨f1, hf1, hf1k⟩, ⟨f2, hf2, hf2k⟩, _⟩ := lvl_bnd out_nil v hpo hms hk
  have b1 := (hf1 _ hk).bd
  have b2 := (hf2 _ hk).bd
  unfold showP
  rw [hms, Option.getD_some, e]
  cases hi
  · exact ⟨setP_ok hk (by simp only [cond_false]; omega) hpo, f1, (tru_set0 hk ⟨f1, hf1, hf1k⟩).2 ⟨hf1, hf1k⟩⟩
  · exact ⟨setP_ok hk (by simp only [cond_true]; omega) hpo, f2, (tru_set0 hk ⟨f2, hf2, hf2k⟩).2 ⟨hf2, hf2k⟩⟩
end Go.Proofs.YtplpcamcnppibaaGreatDoor
namespace Go.Proofs.YtplpcamcnppibaaGreatDoor
open Go.RowKit
set_option maxRecDepth 20000
set_option linter.all false
set_option maxHeartbeats 4000000
theorem q_fieldAgg {Γ : Cx} {P : Program} {σ : St} {o : Oper} {R : Rel} {x : Operand} {s : TypeId} {i : Nat} {fs : Array Field} {f : Field} {df : TypeDesc} {cs : List D} {c : D} (h : o.op = .field s x i) (hx : σ.ev x = some (true, .d (.agg cs))) (hs' : P.underlying s = some (.struct fs)) (hf : fs[i]? = some f)
    (hd : P.underlying f.type = some df) (hr : rowD df = false) (hc : cs[f.offset]? = some c) : QV Γ P σ o R (.d c) := fun a w F hs => by
  obtain ⟨vs, e1, hrep, _⟩ := hs.ev hx
  obtain ⟨v, hv, hrv⟩ := hrep.get hc
  exact ⟨v, hrv, fun w' _ => by simp [execOp, h, e1, Instr.field, run_underlying hs', hf, part, run_isAgg hd hr, hv, asAgg]⟩
theorem show_step {b : Brd} {L : Nat} {X : List Prt} {out : List Int} (h : out.length < L) : showGo b (L - out.length) X out = showGo b (L - (out ++ [shL b X out.length]).length) (setP X out.length (shL b X out.length)) (out ++ [shL b X out.length]) := by
  rw [show L - out.length = (L - (out ++ [shL b X out.length]).length) + 1 by simp only [List.length_append, List.length_cons, List.length_nil]; omega]
  conv => lhs; unfold showGo
theorem fill_book {b : Brd} {v vo : Value} (h1 : (TV.val v).one = true) (h2 : (TV.val vo).one = true) : fillTV (fun i => ([(0, 3), (3, 1), (4, 1)] : List (Nat × Nat))[i]?) [.d .nil, .d (.int .i64 0), .d (.int .i64 0), .d .nil, .d .nil] [(0, .d (.agg [stksD b.stocks, .int .i64 b.jump, .int .i64 b.small])), (1, .val v), (2, .val vo)] = some [.d (stksD b.stocks), .d (.int .i64 b.jump), .d (.int .i64 b.small), .val v, .val vo] := by
  have f1 : (TV.val v).flat = true := h1
  have f2 : (TV.val vo).flat = true := h2
  simp only [fillTV, List.getElem?_cons_zero, List.getElem?_cons_succ, f1, f2]
  rfl
theorem sz150 : Sz Tryz.prog 150 2 := (by kernel_rfl : (Tryz.prog.info? 150).map (·.size) = some 2)
theorem Clone_prt (l : List Prt) (h5 : l.length ≤ 1000) (hne : l ≠ []) : EffAt Tryz.prog 116 [.d (prtsD l)] [] (X := {v : Value // VecV v 8 (prtT l)}) (fun v => .val v.1) (fun v => [(1095, vecRes 47 v.1 8 (prtT l))]) := by
 refine EffAt.of_awp Tryz.func116 rfl (by kernel_rfl) rfl fun Γ hn => ?_
 refine awp_seq (awp_region ?_)
 refine sq rfl rfl hn rfl (q_assign rfl rfl) ?_
 refine run_nil (aend_then (awp_seq (awp_seq (awp_region ?_))))
 refine sq rfl rfl hn rfl (q_move rfl rfl) ?_
 refine stepW (s_eqlNil rfl rfl rfl (nb hn rfl) Tryz.underlying27 rfl) fun ⟨nil4, hnil4⟩ => ?_
 refine run_nil (aend_then ?_)
 refine awp_cond rfl (fun hb0 => ?_) (fun hb0 => ?_)
 ·
  exact absurd (hnil4 hb0) (by simpa using hne)
 ·
  refine awp_skip (aend_then (awp_seq (awp_region ?_)))
  refine stepW (s_buildVec 1095 rfl rfl rfl (nb hn rfl) Tryz.underlying27 sz47 zr47 rfl rfl (show _ = [] from by kernel_rfl) (by kernel_rfl) rfl rfl) fun b5 => ?_
  refine sq rfl rfl hn rfl (q_move rfl rfl) ?_
  refine stepW (s_appendV (id := 1095) rfl rfl rfl (nb hn rfl) elt27 zr47 rfl (show VecV (.slice (some ⟨b5, 0, none⟩) 0 0) 8 [] from .inr ⟨b5, 0, 0, rfl, Nat.le_refl _, by decide, rfl⟩) rfl rfl rfl (by simp [chunk]; omega) (by simp [chunk]; omega) (fun _ _ => trivial)) fun ⟨v7, hV7⟩ => ?_
  refine sq rfl rfl hn rfl (q_assign rfl rfl) ?_
  refine run_nil (aend_then (awp_ret ?_))
  exact ret_E (.inl rfl) ⟨v7, hV7⟩ (hands_1 rfl (.tmp rfl)) ⟨rfl, trivial⟩
theorem printed_eff (bb : Nat) (b : Brd) (sales : List Prt) (vo : Value) (l : List Int) (hV : VecV vo 1 (intsT l)) (k : Nat) (x : Int) (s : Prt) (hs : sales[k]? = some s) (h8 : sales.length ≤ 8) : EffAt Tryz.prog 84 [.val (.pointer (some ⟨bb, 0, none⟩)), .d (.agg [.int .i64 (k : Nat), .int .i64 x])] (bookRs bb b sales vo l) (X := Nat) (fun b2 => .val (.pointer (some ⟨b2, 0, none⟩))) (fun b2 => bookRs b2 b (setP sales k x) vo l) := by
 have hkl : k < sales.length := (List.getElem?_eq_some_iff.1 hs).1
 have hne : sales ≠ [] := by rintro rfl; simp at hkl
 refine EffAt.of_awp Tryz.func84 rfl (by kernel_rfl) rfl fun Γ hn => ?_
 refine awp_seq (awp_region ?_)
 refine stepW (s_box 3 rfl rfl rfl (nb hn rfl) rfl rfl) fun b3 => ?_
 refine sq rfl rfl hn rfl (q_assign rfl rfl) ?_
 refine run_nil (aend_then (awp_seq ?_))
 refine d_start (W := fun b => b ≠ bb) fmo ?_
 refine d1q (i := 0) rfl (by kernel_rfl) (fun _ _ _ _ h => h) rfl rfl hn rfl (q_move rfl rfl) ?_
 refine d1q (i := 1) rfl (by kernel_rfl) (fun _ _ _ _ h => h) rfl rfl hn rfl (q_nilCheck rfl rfl) ?_
 refine d1q (i := 2) rfl (by kernel_rfl) (fun _ _ _ _ h => h) rfl rfl hn rfl (q_fieldAddr rfl rfl Tryz.underlying152 rfl sz33) ?_
 refine d1q (i := 3) rfl (by kernel_rfl) (fun _ _ _ _ h => h) rfl rfl hn rfl (q_loadAd rfl rfl (id := 1070) rfl Tryz.underlying33 rfl sz33 rfl rfl (seesA (by simp))) ?_
 refine d1q (i := 4) rfl (by kernel_rfl) (fun _ _ _ _ h => h) rfl rfl hn rfl (q_move rfl rfl) ?_
 refine d1q (i := 5) rfl (by kernel_rfl) (fun _ _ _ _ h => h) rfl rfl hn rfl (q_nilCheck rfl rfl) ?_
 refine d1q (i := 6) rfl (by kernel_rfl) (fun _ _ _ _ h => h) rfl rfl hn rfl (q_fieldAddr rfl rfl Tryz.underlying152 rfl sz27) ?_
 refine d1q (i := 7) rfl (by kernel_rfl) (fun _ _ _ _ h => h) rfl rfl hn rfl (q_load rfl rfl (id := 1070) rfl Tryz.underlying27 rfl rfl (seesA (by simp))) ?_
 refine d1q (i := 9) rfl (by kernel_rfl) (fun _ _ _ _ h => h) rfl rfl hn rfl (q_move rfl rfl) ?_
 refine d1q (i := 10) rfl (by kernel_rfl) (fun _ _ _ _ h => h) rfl rfl hn rfl (q_nilCheck rfl rfl) ?_
 refine d1q (i := 11) rfl (by kernel_rfl) (fun _ _ _ _ h => h) rfl rfl hn rfl (q_fieldAddr rfl rfl Tryz.underlying152 rfl sz57) ?_
 refine d1q (i := 12) rfl (by kernel_rfl) (fun _ _ _ _ h => h) rfl rfl hn rfl (q_load rfl rfl (id := 1070) rfl Tryz.underlying57 rfl rfl (seesA (by simp))) ?_
 refine d1_of_d2 ?_
 refine d2_one (i := 8) (by kernel_rfl) rfl (s_callE (Clone_prt sales (by omega) hne) rfl rfl rfl (nb hn rfl) (.d rfl) rfl (.refl _) trivial (fun _ => rfl) (fun _ h => no_blks h)) fun ⟨vc, hVc⟩ => ?_
 obtain ⟨bc, cap, rfl, hcap, hcm⟩ := pvec_cons (l := sales) hVc (by omega)
 refine d2_of_d1 ?_
 refine d1q (i := 13) rfl (by kernel_rfl) (fun _ _ _ _ h => h) rfl rfl hn rfl (q_build rfl bt152 rfl rfl rfl (fill_book rfl (vec_one hV))) ?_
 refine d1_of_d2 ?_
 refine d2_one (i := 14) (by kernel_rfl) rfl (s_box 1070 rfl rfl rfl (nb hn rfl) rfl rfl) fun b20 => ?_
 refine d2_of_d1 ?_
 refine d1q (i := 15) rfl (by kernel_rfl) (fun _ _ _ _ h => h) rfl rfl hn rfl (q_assign rfl rfl) ?_
 refine d1_of_d2 ?_
 refine d2_done (by kernel_rfl) ?_
 refine aend_then (awp_seq ?_)
 refine d_start (W := fun b => b ≠ b3 ∧ b ≠ b20) fmo ?_
 refine d1q (i := 0) rfl (by kernel_rfl) (fun _ _ _ _ h => h) rfl rfl hn rfl (q_move rfl rfl) ?_
 refine d1q (i := 1) rfl (by kernel_rfl) (fun _ _ _ _ h => h) rfl rfl hn rfl (q_nilCheck rfl rfl) ?_
 refine d1q (i := 2) rfl (by kernel_rfl) (fun _ _ _ _ h => h) rfl rfl hn rfl (q_fieldAddr rfl rfl Tryz.underlying152 rfl sz27) ?_
 refine d1q (i := 3) rfl (by kernel_rfl) (fun _ _ _ _ h => h) rfl rfl hn rfl (q_load rfl rfl (id := 1070) rfl Tryz.underlying27 rfl rfl (seesA (by simp))) ?_
 refine d1q (i := 4) rfl (by kernel_rfl) (fun _ _ _ _ h => h) rfl rfl hn rfl (q_fieldAddr rfl rfl Tryz.underlying150 rfl sz3) ?_
 refine d1q (i := 5) rfl (by kernel_rfl) (fun _ _ _ _ h => h) rfl rfl hn rfl (q_load rfl rfl (id := 3) rfl Tryz.underlying3 rfl rfl (seesA (by simp))) ?_
 refine d1q (i := 6) rfl (by kernel_rfl) (fun _ _ _ _ h => h) rfl rfl hn rfl (q_move rfl rfl) ?_
 refine d1q (i := 7) rfl (by kernel_rfl) (fun _ _ _ _ h => h) rfl rfl hn rfl (q_nilCheck rfl rfl) ?_
 refine d1q (i := 8) rfl (by kernel_rfl) (fun _ _ _ _ h => h) rfl rfl hn rfl (q_fieldAddr rfl rfl Tryz.underlying152 rfl sz27) ?_
 refine d1q (i := 9) rfl (by kernel_rfl) (fun _ _ _ _ h => h) rfl rfl hn rfl (q_load rfl rfl (id := 1070) rfl Tryz.underlying27 rfl rfl (seesA (by simp))) ?_
 refine d1q (i := 10) rfl (by kernel_rfl) (fun _ _ _ _ h => h) rfl rfl hn rfl (q_fieldAddr rfl rfl Tryz.underlying150 rfl sz3) ?_
 refine d1q (i := 11) rfl (by kernel_rfl) (fun _ _ _ _ h => h) rfl rfl hn rfl (q_load rfl rfl (id := 3) rfl Tryz.underlying3 rfl rfl (seesA (by simp))) ?_
 refine d1q (i := 12) rfl (by kernel_rfl) (fun _ _ _ _ h => h) rfl rfl hn rfl (q_fieldAddr rfl rfl Tryz.underlying150 rfl sz3) ?_
 refine d1q (i := 13) rfl (by kernel_rfl) (fun _ _ _ _ h => h) rfl rfl hn rfl (q_load rfl rfl (id := 3) rfl Tryz.underlying3 rfl rfl (seesA (by simp))) ?_
 refine d1q (i := 14) rfl (by kernel_rfl) (fun _ _ _ _ h => h) rfl rfl hn rfl (q_indexV (i := k) rfl rfl rfl Tryz.underlying27 sz47 rfl (by omega)) ?_
 refine d1q (i := 15) rfl (by kernel_rfl) (fun _ _ _ _ h => h) rfl rfl hn rfl (q_fieldAddr rfl rfl Tryz.underlying47 rfl sz4) ?_
 refine d1_of_d2 ?_
 refine g_ne_d2 (i := 1095) (j := 3) rfl rfl rfl (fun hne1095_3 => ?_)
 refine g_ne_d2 (i := 1095) (j := 1070) rfl rfl rfl (fun hne1095_1070 => ?_)
 refine d2_one (i := 16) (by kernel_rfl) rfl (s_store1 rfl rfl rfl rfl rfl rfl (id := 1095) rfl sz4 (by show 0 + k * 8 + 4 < (prtT sales ++ List.replicate ((cap - sales.length) * 8) TV.any).length; rw [List.length_append, prtT_len]; omega) (prt_full hs) ⟨fun e => hne1095_3 _ rfl (congrArg some e.symm), fun e => hne1095_1070 _ rfl (congrArg some e.symm)⟩) fun _ => ?_
 refine d2_of_d1 ?_
 refine d1q (i := 17) rfl (by kernel_rfl) (fun _ _ _ _ h => h) rfl rfl hn rfl (q_indexV (i := k) rfl rfl rfl Tryz.underlying27 sz47 rfl (by omega)) ?_
 refine d1q (i := 18) rfl (by kernel_rfl) (fun _ _ _ _ h => h) rfl rfl hn rfl (q_fieldAddr rfl rfl Tryz.underlying47 rfl sz3) ?_
 refine d1_of_d2 ?_
 refine g_ne_d2 (i := 1095) (j := 3) rfl rfl rfl (fun hne1095_3 => ?_)
 refine g_ne_d2 (i := 1095) (j := 1070) rfl rfl rfl (fun hne1095_1070 => ?_)
 refine d2_one (i := 19) (by kernel_rfl) rfl (s_store1 rfl rfl rfl rfl rfl rfl (id := 1095) rfl sz3 (by show 0 + k * 8 + 3 < (prtT (sales.set k { s with full := true }) ++ List.replicate ((cap - sales.length) * 8) TV.any).length; rw [List.length_append, prtT_len, List.length_set]; omega) (prt_fig (p := { s with full := true }) (by rw [List.getElem?_set, if_pos rfl, if_pos hkl])) ⟨fun e => hne1095_3 _ rfl (congrArg some e.symm), fun e => hne1095_1070 _ rfl (congrArg some e.symm)⟩) fun _ => ?_
 refine d2_of_d1 (d1_of_d2 ?_)
 refine d2_done (by kernel_rfl) ?_
 refine aend_then (awp_seq ?_)
 refine gh_awp (gh_veccell (id := 1070) (k := 3) (rid := 1095) (es := (setP sales k x).map prtE) (ds := ((setP sales k x).map prtE).flatten) (n := sales.length) (sz := 8) (rest := List.replicate ((cap - sales.length) * 8) .any) rfl rfl (by rw [← setP_eq hs]; rfl) rfl (by rw [fl_len prt_rows, List.length_map, setP_len]) (by have := chunk_fl (k := 8) (rows := (setP sales k x).map prtE) prt_rows; rwa [List.length_map, setP_len] at this) hcap hcm) ?_
 refine awp_region ?_
 refine sq rfl rfl hn rfl (q_move rfl rfl) ?_
 refine sq rfl rfl hn rfl (q_assign rfl rfl) ?_
 refine run_nil (aend_then (awp_ret ?_))
 exact ret_E (.inl rfl) b20 (hands_1 rfl (.tmp rfl)) ⟨rfl, rfl, trivial⟩
theorem Show_no (b : Brd) (s : List UInt8) (hN : NamesOK b) (h5 : s.length ≤ 4294967000) (h0 : (readI b s).2 ≠ 0) (kk : Int) (hi : Bool) : EffAt Tryz.prog 58 [.d (brdD b), .d (strD s), .d (.int .i64 kk), .d (.bool hi)] [] (X := Unit) (fun _ => .d (.tup [ints [], .int .i64 (readI b s).2])) (fun _ => []) := by
 refine EffAt.of_awp Tryz.func58 rfl (by kernel_rfl) rfl fun Γ hn => ?_
 refine awp_seq (awp_region ?_)
 refine stepW (s_box 4 rfl rfl rfl (nb hn rfl) rfl rfl) fun b4 => ?_
 refine sq rfl rfl hn rfl (q_assign rfl rfl) ?_
 refine sq rfl rfl hn rfl (q_assign rfl rfl) ?_
 refine run_nil (aend_then (awp_seq (awp_region ?_)))
 refine sq rfl rfl hn rfl (q_loadAd rfl rfl (id := 4) rfl Tryz.underlying33 rfl sz33 rfl rfl sees0) ?_
 refine sq rfl rfl hn rfl (q_move rfl rfl) ?_
 refine stepW (s_callE (open_no b s hN h5 h0) rfl rfl rfl (nb hn rfl) (.d rfl) rfl (.refl _) trivial (fun _ => rfl) (fun _ _ => trivial)) fun _ => ?_
 refine sq rfl rfl hn rfl (q_move rfl rfl) ?_
 refine sq rfl rfl hn rfl (q_extractd rfl rfl rfl) ?_
 refine sq rfl rfl hn rfl (q_extractd rfl rfl rfl) ?_
 refine sq rfl rfl hn rfl (q_assign rfl rfl) ?_
 refine sq rfl rfl hn rfl (q_assign rfl rfl) ?_
 refine run_nil (aend_then (awp_seq (awp_seq (awp_region ?_))))
 refine sq rfl rfl hn rfl (q_move rfl rfl) ?_
 refine sq rfl rfl hn rfl (q_neq rfl rfl rfl) ?_
 refine run_nil (aend_then ?_)
 refine awp_cond rfl (fun hb0 => ?_) (fun hb0 => ?_)
 ·
  refine awp_seq (awp_region ?_)
  refine sq rfl rfl hn rfl (q_move rfl rfl) ?_
  refine sq rfl rfl hn rfl (q_assign rfl rfl) ?_
  refine sq rfl rfl hn rfl (q_assign rfl rfl) ?_
  refine run_nil (aend_then (awp_ret (aend_then_ret ?_)))
  exact ret_E (.inl rfl) () ((hands_2d rfl (.tmp rfl) (.tmp rfl)).le (.tup (.cons (.nil 1) (.refl _)))) trivial
 ·
  exact absurd hb0 (by simp [h0])
theorem Show_ok1 (b : Brd) (s : List UInt8) (hN : NamesOK b) (h5 : s.length ≤ 4294967000) (h0 : (readI b s).2 = 0) (kk : Int) (hi : Bool) : EffAt Tryz.prog 58 [.d (brdD b), .d (strD s), .d (.int .i64 kk), .d (.bool hi)] [] (X := Unit) (fun _ => .d (.tup [ints (showI b s kk hi).1, .int .i64 (showI b s kk hi).2])) (fun _ => []) := by
 have v := read_valid h0
 obtain ⟨hpo, hsl⟩ := read_prts (b := b) (s := s)
 have hV : VecV (.slice none 0 0) 1 (intsT []) := VecV.nil 1
 refine EffAt.of_awp Tryz.func58 rfl (by kernel_rfl) rfl fun Γ hn => ?_
 refine awp_seq (awp_region ?_)
 refine stepW (s_box 4 rfl rfl rfl (nb hn rfl) rfl rfl) fun b4 => ?_
 refine sq rfl rfl hn rfl (q_assign rfl rfl) ?_
 refine sq rfl rfl hn rfl (q_assign rfl rfl) ?_
 refine run_nil (aend_then (awp_seq (awp_region ?_)))
 refine sq rfl rfl hn rfl (q_loadAd rfl rfl (id := 4) rfl Tryz.underlying33 rfl sz33 rfl rfl sees0) ?_
 refine sq rfl rfl hn rfl (q_move rfl rfl) ?_
 refine stepW (s_callE (open_ok b s hN h5 h0) rfl rfl rfl (nb hn rfl) (.d rfl) rfl (.refl _) trivial (fun _ => rfl) (fun _ _ => trivial)) fun bb => ?_
 refine sq rfl rfl hn rfl (q_move rfl rfl) ?_
 refine sq rfl rfl hn rfl (q_extract rfl rfl rfl) ?_
 refine sq rfl rfl hn rfl (q_extract rfl rfl rfl) ?_
 refine sq rfl rfl hn rfl (q_assign rfl rfl) ?_
 refine sq rfl rfl hn rfl (q_assign rfl rfl) ?_
 refine run_nil (aend_then (awp_seq (awp_seq (awp_region ?_))))
 refine sq rfl rfl hn rfl (q_move rfl rfl) ?_
 refine sq rfl rfl hn rfl (q_neq rfl rfl rfl) ?_
 refine run_nil (aend_then ?_)
 refine awp_cond rfl (fun hb0 => ?_) (fun hb0 => ?_)
 ·
  exact absurd hb0 (by decide)
 ·
  refine awp_skip (aend_then (awp_seq (awp_seq (awp_region ?_))))
  refine sq rfl rfl hn rfl (q_move rfl rfl) ?_
  refine sq rfl rfl hn rfl (q_move rfl rfl) ?_
  refine sq rfl rfl hn rfl (q_nilCheck rfl rfl) ?_
  refine sq rfl rfl hn rfl (q_fieldAddr rfl rfl Tryz.underlying152 rfl sz27) ?_
  refine sq rfl rfl hn rfl (q_load rfl rfl (id := 1070) rfl Tryz.underlying27 rfl rfl sees0) ?_
  refine sq rfl rfl hn rfl (q_len rfl rfl Tryz.underlying27) ?_
  refine sq rfl rfl hn rfl (q_sub rfl rfl rfl (r := ((readI b s).1.length : Int) - 1) (by rw [List.length_map]; exact i64w (by omega) rfl)) ?_
  refine stepW (s_call [] (fun _ => within_ok _ _ _) rfl (guard_none rfl) rfl (nb hn rfl) (fun _ => trivial) rfl rfl (.refl _)) fun _ => ?_
  refine sq rfl rfl hn rfl (q_not rfl rfl) ?_
  refine run_nil (aend_then ?_)
  refine awp_cond rfl (fun hb1 => ?_) (fun hb1 => ?_)
  ·
   have q1 : (!(withinB kk 0 (((readI b s).1.length : Int) - 1))) = true := hb1
   have e1 : showI b s kk hi = ([], 2) := by unfold showI; rw [h0, q1]; rfl
   rw [e1]
   refine awp_seq (awp_region ?_)
   refine sq rfl rfl hn rfl (q_assign rfl rfl) ?_
   refine sq rfl rfl hn rfl (q_assign rfl rfl) ?_
   refine run_nil (aend_then (awp_ret (aend_then_ret ?_)))
   exact ret_E (.inl rfl) () ((hands_2d rfl (.tmp rfl) (.tmp rfl)).le (.tup (.cons (.nil 1) (.refl _)))) trivial
  ·
   have q1 : (!(withinB kk 0 (((readI b s).1.length : Int) - 1))) = false := hb1
   have hkk : 0 ≤ kk ∧ kk ≤ ((readI b s).1.length : Int) - 1 := within_iff.1 (by simpa using q1)
   obtain ⟨k, rfl⟩ : ∃ k : Nat, kk = k := ⟨kk.toNat, by omega⟩
   have hkl : k < (readI b s).1.length := by omega
   obtain ⟨sp, hsp⟩ := ex_get hkl
   refine awp_skip (aend_then (awp_seq (awp_region ?_)))
   refine sq rfl rfl hn rfl (q_move rfl rfl) ?_
   refine stepW (s_callE (levels_v bb b (readI b s).1 (.slice none 0 0) [] hV v hsl) rfl rfl rfl (nb hn rfl) (.d rfl) rfl (.refl _) ⟨rfl, rfl, trivial⟩ (fun _ => rfl) (fun _ _ => trivial)) fun _ => ?_
   refine sq rfl rfl hn rfl (q_move rfl rfl) ?_
   refine sq rfl rfl hn rfl (q_extractd rfl rfl rfl) ?_
   refine sq rfl rfl hn rfl (q_extractd rfl rfl rfl) ?_
   refine sq rfl rfl hn rfl (q_assign rfl rfl) ?_
   refine sq rfl rfl hn rfl (q_assign rfl rfl) ?_
   refine run_nil (aend_then (awp_seq (awp_seq (awp_region ?_))))
   refine sq rfl rfl hn rfl (q_move rfl rfl) ?_
   refine sq rfl rfl hn rfl (q_not rfl rfl) ?_
   refine run_nil (aend_then ?_)
   refine awp_cond rfl (fun hb2 => ?_) (fun hb2 => ?_)
   ·
    have q2 : (!((levelsI b (readI b s).1 []).isSome)) = true := hb2
    have e1 : showI b s (k : Int) hi = ([], 11) := by unfold showI; rw [h0, q1, q2]; rfl
    rw [e1]
    refine awp_seq (awp_region ?_)
    refine sq rfl rfl hn rfl (q_assign rfl rfl) ?_
    refine sq rfl rfl hn rfl (q_assign rfl rfl) ?_
    refine run_nil (aend_then (awp_ret (aend_then_ret ?_)))
    exact ret_E (.inl rfl) () ((hands_2d rfl (.tmp rfl) (.tmp rfl)).le (.tup (.cons (.nil 1) (.refl _)))) trivial
   ·
    have q2 : (!((levelsI b (readI b s).1 []).isSome)) = false := hb2
    have e1 : showI b s (k : Int) hi = (showGo b (readI b s).1.length (setP (readI b s).1 k (showP b (readI b s).1 k hi)) [], 0) := by unfold showI; rw [h0, q1, q2]; rfl
    rw [e1]
    obtain ⟨ms, hms⟩ : ∃ ms, levelsI b (readI b s).1 [] = some ms := Option.isSome_iff_exists.1 (by simpa using q2)
    have hml := levels_len hms
    obtain ⟨m, hm⟩ := ex_get (show k < ms.length by omega)
    rw [hms]
    simp only [Option.getD_some]
    have hP : showP b (readI b s).1 k hi = bif hi then (bndN m).2 else (bndN m).1 := by unfold showP; rw [hms, Option.getD_some, getD_of hm]
    have hinv := ShInv.first v hpo hms hi hkl
    refine awp_skip (aend_then (awp_seq (awp_region ?_)))
    refine sq rfl rfl hn rfl (q_move rfl rfl) ?_
    refine sq rfl rfl hn rfl (q_move rfl rfl) ?_
    refine sq rfl rfl hn rfl (q_index (i := k) rfl rfl rfl Tryz.underlying143 sz148 rfl (mget hm)) ?_
    refine sq rfl rfl hn rfl (q_loadpA rfl rfl Tryz.underlying148 rfl sz148 (lvE_take m) (lvE_len m) seesF0) ?_
    refine stepW (s_call [] (fun _ => bounds_ok m) rfl (guard_none rfl) rfl (nb hn rfl) (fun _ => trivial) rfl rfl (.refl _)) fun _ => ?_
    refine stepW (s_alloc 14 rfl rfl rfl (nb hn rfl) zr45 rfl rfl) fun b14 => ?_
    refine stepW (s_store rfl rfl rfl rfl rfl rfl (id := 14) rfl sz45 rfl (Nat.le_of_ble_eq_true rfl) rfl trivial) fun _ => ?_
    refine run_nil (aend_then (awp_seq (awp_region ?_)))
    refine sq rfl rfl hn rfl (q_move rfl rfl) ?_
    refine sq rfl rfl hn rfl (q_fieldAddr rfl rfl Tryz.underlying45 rfl sz3) ?_
    refine sq rfl rfl hn rfl (q_load rfl rfl (id := 14) rfl Tryz.underlying3 rfl rfl sees0) ?_
    refine sq rfl rfl hn rfl (q_buildd rfl bt150 rfl rfl rfl rfl rfl) ?_
    refine stepW (s_alloc 15 rfl rfl rfl (nb hn rfl) zr150 rfl rfl) fun b15 => ?_
    refine stepW (s_store rfl rfl rfl rfl rfl rfl (id := 15) rfl sz150 rfl (Nat.le_of_ble_eq_true rfl) rfl trivial) fun _ => ?_
    refine run_nil (aend_then (awp_seq (awp_seq (awp_region ?_))))
    refine sq rfl rfl hn rfl (q_move rfl rfl) ?_
    refine run_nil (aend_then ?_)
    refine awp_join_on (e := .normal) (ι := Unit) (fun u0 => anys [53, 54, 55]) (fun u0 => [(15, .box b15 150 [.d (.int .i64 (k : Nat)), .d (.int .i64 (showP b (readI b s).1 k hi))])]) (fun hJ3 => ?_) ?_
    ·
     refine awp_cond rfl (fun hb3 => ?_) (fun hb3 => ?_)
     ·
      have q3 : hi = true := hb3
      have e3 : (bndN m).2 = showP b (readI b s).1 k hi := by rw [hP, q3]; rfl
      refine awp_region ?_
      refine sq rfl rfl hn rfl (q_fieldAddr rfl rfl Tryz.underlying45 rfl sz3) ?_
      refine sq rfl rfl hn rfl (q_load rfl rfl (id := 14) rfl Tryz.underlying3 rfl rfl sees0) ?_
      refine sq rfl rfl hn rfl (q_fieldAddr rfl rfl Tryz.underlying150 rfl sz3) ?_
      refine stepW (s_store1 rfl rfl rfl rfl rfl rfl (id := 15) rfl sz3 (Nat.le_of_ble_eq_true rfl) rfl trivial) fun _ => ?_
      refine run_nil ?_
      exact aend_join_on hJ3 () (holdT_anys _) ⟨.inl (by rw [← e3]; rfl), trivial⟩ (by repeat (first | exact kr _ | refine kc rfl ?_)) (by repeat (first | exact kr _ | refine kc rfl ?_))
     ·
      have q3 : hi = false := hb3
      have e3 : (bndN m).1 = showP b (readI b s).1 k hi := by rw [hP, q3]; rfl
      refine awp_skip ?_
      exact aend_join_on hJ3 () (holdT_anys _) ⟨.inl (by rw [← e3]; rfl), trivial⟩ (by repeat (first | exact kr _ | refine kc rfl ?_)) (by repeat (first | exact kr _ | refine kc rfl ?_))
    ·
     rintro _
     refine aend_then (awp_seq (awp_region ?_))
     refine sq rfl rfl hn rfl (q_move rfl rfl) ?_
     refine sq rfl rfl hn rfl (q_loadAd rfl rfl (id := 15) rfl Tryz.underlying150 rfl sz150 rfl rfl sees0) ?_
     refine stepW (s_callE (printed_eff bb b (readI b s).1 (.slice none 0 0) [] hV k (showP b (readI b s).1 k hi) sp hsp hsl) rfl rfl rfl (nb hn rfl) (.d rfl) rfl (.refl _) ⟨rfl, rfl, trivial⟩ (fun _ => rfl) (fun _ _ => trivial)) fun bb2 => ?_
     refine sq rfl rfl hn rfl (q_assign rfl rfl) ?_
     refine run_nil (aend_then (awp_seq (awp_region ?_)))
     refine sq rfl rfl hn rfl (q_assign rfl rfl) ?_
     refine run_nil (aend_then (awp_seq (awp_seq ?_)))
     refine gh_awp (g_nil (t := 16) (id := 16) 3 1 rfl (nb hn rfl)) ?_
     refine awp_region ?_
     refine sq rfl rfl hn rfl (q_move rfl rfl) ?_
     refine sq rfl rfl hn rfl (q_nilCheck rfl rfl) ?_
     refine sq rfl rfl hn rfl (q_fieldAddr rfl rfl Tryz.underlying152 rfl sz27) ?_
     refine sq rfl rfl hn rfl (q_load rfl rfl (id := 1070) rfl Tryz.underlying27 rfl rfl sees0) ?_
     refine sq rfl rfl hn rfl (q_len rfl rfl Tryz.underlying27) ?_
     refine sq rfl rfl hn rfl (q_move rfl rfl) ?_
     refine run_nil (aend_then (awp_block ?_))
     refine awp_loop_on (ι := {x : Nat × List Prt × List Int × Value // x.2.1.length = (readI b s).1.length ∧ x.2.2.1.length ≤ (readI b s).1.length ∧ ShInv b x.2.1 ∧ showGo b ((readI b s).1.length - x.2.2.1.length) x.2.1 x.2.2.1 = showGo b (readI b s).1.length (setP (readI b s).1 k (showP b (readI b s).1 k hi)) []}) (fun x => (64, true, .d (.int .i64 (x.1.2.2.1.length : Nat))) :: (10, true, .val (.pointer (some ⟨x.1.1, 0, none⟩))) :: (16, true, .val x.1.2.2.2) :: anys [65, 66, 17, 68, 69, 67, 70, 71, 12, 72, 73, 74, 75, 76, 77, 78, 79, 80, 81, 82, 83, 84, 85, 86, 87, 88, 89]) (fun x => [(1070, .box x.1.1 152 (bookC b x.1.2.1 (.slice none 0 0))), (1072, vecRes 3 (.slice none 0 0) 1 (intsT [])), (16, .row x.1.2.2.2 3 1 (x.1.2.2.1.map intE))]) (fun x => (readI b s).1.length - x.1.2.2.1.length) ⟨(bb2, setP (readI b s).1 k (showP b (readI b s).1 k hi), [], _), setP_len, Nat.zero_le _, hinv, rfl⟩ ⟨.inl rfl, .inl rfl, .inl rfl, holdT_anys _⟩ ⟨.inl rfl, .inl rfl, .inl rfl, trivial⟩ ?_
     rintro ⟨⟨bc, X, out, vv⟩, hX, hol, hI, hgo⟩
     dsimp only
     dsimp only at hX hol hI hgo
     refine awp_seq (awp_region ?_)
     refine sq rfl rfl hn rfl (q_lss rfl rfl rfl) ?_
     refine run_nil (aend_then (awp_seq ?_))
     refine awp_cond rfl (fun hb4 => ?_) (fun hb4 => ?_)
     ·
      have hil : out.length < (readI b s).1.length := by simp [setP_len] at hb4; omega
      obtain ⟨mx, hmx⟩ := hI.lev v
      have hmxl := levels_len hmx
      obtain ⟨m2, hm2⟩ := ex_get (show out.length < mx.length by omega)
      obtain ⟨sx, hsx⟩ := ex_get (show out.length < X.length by omega)
      have esh : (bndN m2).1 = shL b X out.length := by unfold shL; rw [hmx, Option.getD_some, getD_of hm2]
      refine awp_skip (aend_then (awp_seq (awp_block (awp_seq (awp_region ?_)))))
      refine sq rfl rfl hn rfl (q_move rfl rfl) ?_
      refine sq rfl rfl hn rfl (q_assign rfl rfl) ?_
      refine run_nil (aend_then (awp_seq (awp_region ?_)))
      refine sq rfl rfl hn rfl (q_move rfl rfl) ?_
      refine stepW (s_callE (levels_v bc b X (.slice none 0 0) [] hV v (by omega)) rfl rfl rfl (nb hn rfl) (.d rfl) rfl (.refl _) ⟨rfl, rfl, trivial⟩ (fun _ => rfl) (fun _ _ => trivial)) fun _ => ?_
      refine sq rfl rfl hn rfl (q_move rfl rfl) ?_
      refine sq rfl rfl hn rfl (q_extractd rfl rfl rfl) ?_
      refine sq rfl rfl hn rfl (q_extractd rfl rfl rfl) ?_
      refine sq rfl rfl hn rfl (q_assign rfl rfl) ?_
      refine run_nil (aend_then (awp_seq ?_))
      rw [hmx]
      try simp only [Option.getD_some]
      refine awp_region ?_
      refine sq rfl rfl hn rfl (q_move rfl rfl) ?_
      refine sq rfl rfl hn rfl (q_move rfl rfl) ?_
      refine sq rfl rfl hn rfl (q_move rfl rfl) ?_
      refine sq rfl rfl hn rfl (q_index (i := out.length) rfl rfl rfl Tryz.underlying143 sz148 rfl (mget hm2)) ?_
      refine sq rfl rfl hn rfl (q_loadpA rfl rfl Tryz.underlying148 rfl sz148 (lvE_take m2) (lvE_len m2) seesF0) ?_
      refine stepW (s_call [] (fun _ => bounds_ok m2) rfl (guard_none rfl) rfl (nb hn rfl) (fun _ => trivial) rfl rfl (.refl _)) fun _ => ?_
      refine sq rfl rfl hn rfl (q_fieldAgg rfl rfl Tryz.underlying45 rfl Tryz.underlying3 rfl rfl) ?_
      refine stepW (s_buildSlice rfl rfl rfl (nb hn rfl) Tryz.underlying57 sz3 zr3 rfl rfl rfl (show _ = [.d (.int .i64 0)] from by kernel_rfl) (by kernel_rfl) rfl rfl rfl rfl rfl) fun _ => ?_
      refine stepW (s_append (id := 16) rfl rfl rfl (nb hn rfl) elt57 trivial rfl rfl rfl (by simp [chunk]; omega) (by simp [chunk]; omega) (fun b hb => trivial)) fun v80 => ?_
      refine sq rfl rfl hn rfl (q_assign rfl rfl) ?_
      refine run_nil (aend_then (awp_region ?_))
      refine sq rfl rfl hn rfl (q_move rfl rfl) ?_
      refine sq rfl rfl hn rfl (q_move rfl rfl) ?_
      refine sq rfl rfl hn rfl (q_move rfl rfl) ?_
      refine sq rfl rfl hn rfl (q_move rfl rfl) ?_
      refine gh_run (g_row (t := 83) (id := 16) rfl rfl) ?_
      refine sq rfl rfl hn rfl (q_index (i := out.length) rfl rfl rfl Tryz.underlying57 sz3 rfl (show (out.map intE ++ [intE (bndN m2).1])[out.length]? = some (intE (bndN m2).1) from by simp)) ?_
      refine sq rfl rfl hn rfl (q_loadp rfl rfl Tryz.underlying3 rfl seesF0) ?_
      refine sq rfl rfl hn rfl (q_buildd rfl bt150 rfl rfl rfl rfl rfl) ?_
      refine stepW (s_callE (printed_eff bc b X (.slice none 0 0) [] hV out.length (bndN m2).1 sx hsx (by omega)) rfl rfl rfl (nb hn rfl) (.d rfl) rfl (.refl _) ⟨rfl, rfl, trivial⟩ (fun _ => rfl) (fun _ _ => trivial)) fun bb3 => ?_
      refine sq rfl rfl hn rfl (q_assign rfl rfl) ?_
      refine run_nil (aend_block (aend_then (awp_region ?_)))
      refine sq rfl rfl hn rfl (q_add rfl rfl rfl (r := ((out.length + 1 : Nat) : Int)) (i64w (by omega) (by omega))) ?_
      refine sq rfl rfl hn rfl (q_move rfl rfl) ?_
      refine run_nil ?_
      exact aend_round_on ⟨(bb3, setP X out.length (shL b X out.length), out ++ [shL b X out.length], v80), by simp only; rw [setP_len]; exact hX, by simp only [List.length_append, List.length_cons, List.length_nil]; omega, hI.step v (by omega), by simp only; rw [← hgo, show_step hil]⟩ ⟨.inl (congrArg (fun z => some (true, TV.d (D.int .i64 z))) (by simp only [List.length_append, List.length_cons, List.length_nil])), .inl rfl, .inl rfl, holdT_anys _⟩ ⟨.inl (congrArg (fun z => some (Res.box bb3 152 (bookC b (setP X out.length z) (.slice none 0 0)))) esh), .inl rfl, .inl (congrArg (fun z => some (Res.row v80 3 1 z)) (by rw [esh]; exact add_ints)), trivial⟩ (by simp only [List.length_append, List.length_cons, List.length_nil]; omega) (by repeat (first | exact kr _ | refine kc rfl ?_)) (by repeat (first | exact kr _ | refine kc rfl ?_))
     ·
      have hie : out.length = (readI b s).1.length := by simp [setP_len] at hb4; omega
      have e2 : out = showGo b (readI b s).1.length (setP (readI b s).1 k (showP b (readI b s).1 k hi)) [] := by rw [← hgo, hie, Nat.sub_self]; rfl
      rw [← e2]
      refine awp_exit (aend_then_exit (aend_then_exit (aend_block_exit (aend_then (awp_seq (awp_region ?_))))))
      refine sq rfl rfl hn rfl (q_move rfl rfl) ?_
      refine sq rfl rfl hn rfl (q_assign rfl rfl) ?_
      refine sq rfl rfl hn rfl (q_assign rfl rfl) ?_
      refine run_nil (aend_then (awp_ret ?_))
      refine gh_end (g_row (t := 8) (id := 16) rfl rfl) ?_
      exact ret_E (.inl rfl) () (hands_2d rfl (.tmp rfl) (.tmp rfl)) trivial
theorem Show_ok (b : Brd) (s : List UInt8) (kk : Int) (hi : Bool) (hN : NamesOK b) (h5 : s.length ≤ 4294967000) : PureAt Tryz.prog 58 [brdD b, strD s, .int .i64 kk, .bool hi] (.tup [ints (showI b s kk hi).1, .int .i64 (showI b s kk hi).2]) := by
  by_cases h0 : (readI b s).2 = 0
  · exact PureAt.of_eff (ds := [brdD b, strD s, .int .i64 kk, .bool hi]) (Show_ok1 b s hN h5 h0 kk hi)
  · have h1 : ((readI b s).2 != 0) = true := by simpa using h0
    rw [show showI b s kk hi = ([], (readI b s).2) from by unfold showI; rw [h1]; rfl]
    exact PureAt.of_eff (ds := [brdD b, strD s, .int .i64 kk, .bool hi]) (Show_no b s hN h5 h0 kk hi)
end Go.Proofs.YtplpcamcnppibaaGreatDoor
namespace Go.Proofs.YtplpcamcnppibaaGreatDoor
open Go.RowKit
set_option maxRecDepth 20000
set_option linter.all false
set_option maxHeartbeats 4000000
structure SoS where
  now : List Int
  minute : Nat
  out : List Sal
structure SoOK (b : Brd) (i : Nat) (x : SoS) : Prop where
  n : x.now.length = b.stocks.length
  p : ∀ y ∈ x.now, 1 ≤ y ∧ y ≤ 799
  m : x.minute ≤ 600
  o : x.out.length = i
end Go.Proofs.YtplpcamcnppibaaGreatDoor
namespace Go.Proofs.YtplpcamcnppibaaGreatDoor
open Go.RowKit
set_option maxRecDepth 20000
set_option linter.all false
set_option maxHeartbeats 4000000
@[reducible] def stkT (l : List Stk) : List TV := (l.map stkE).flatten.map .d
end Go.Proofs.YtplpcamcnppibaaGreatDoor
namespace Go.Proofs.YtplpcamcnppibaaGreatDoor
open Go.RowKit
set_option maxRecDepth 20000
set_option linter.all false
set_option maxHeartbeats 4000000
section
variable {Γ : Cx} {P : Program} {σ : St} {fn : Func}
theorem hands_1B {t b off id n : Nat} {ty bt : TypeId} {cs seg : List TV} {desc : TypeDesc} (h : fn.results = #[.cell t ty]) (ht : σ.get t = some (true, .val (.pointer (some ⟨b, off, none⟩)))) (hr : σ.rget id = some (.box b bt cs))
    (hu : P.underlying ty = some desc) (hd : rowD desc = true) (hz : Sz P ty n) (hc : (cs.drop off).take n = seg) (hn : seg.length = n) : Hands Γ P fn σ (.agg seg) := fun a w F hs => by
  have h1 := (hs.tm _ true _ ht).1 rfl
  simp only [TRep] at h1
  obtain ⟨_, _, vs, hh, hvs, hone⟩ := hs.rs _ _ hr
  have hseg : TReps F w seg ((vs.drop off).take n) := by rw [← hc]; exact (hvs.drop off).take n
  have hlen := hseg.length
  have hl := run_loadVar_row (P := P) (w := w) (b := b) (o := off) (vs := (vs.drop off).take n) hu hd (by rw [hlen, hn]; exact hz) (fun j v hv => by
    have : vs[off + j]? = some v := by
      rw [List.getElem?_take] at hv
      split at hv
      · rwa [List.getElem?_drop] at hv
      · cases hv
    exact (cell_box hh).trans this)
  have hone1 : (resOne a.tmps (.cell t ty)).run P w = .ok (.agg ((vs.drop off).take n).toArray) w := by simp only [resOne, h1, asAddr, Sem.run_bind, Sem.run_pure, Result.andThen_ok, hl]
  exact ⟨.agg ((vs.drop off).take n).toArray, by rw [results_run h]; simp [hone1], _, rfl, hseg, fun u hu => hone u (List.mem_of_mem_drop (List.mem_of_mem_take hu))⟩
end
abbrev nmW : List (List UInt8) := [[97, 98, 32, 56, 46, 50], [65, 66, 32, 56, 46, 56], [65, 66, 32, 49, 50, 46, 51], [65, 66, 32, 36, 49, 48, 48, 46, 48], [65, 66, 67, 32, 56, 46, 50], [56, 46, 50], [65, 66, 32, 51, 115], [65, 66, 32, 51, 115, 32, 67, 32, 56, 46, 50], [64, 55, 32, 64, 54], [33, 32, 33], [63], [65, 66, 32, 32, 56, 46, 50], [76, 53, 45, 52]]
abbrev nmE : List Int := [4, 4, 4, 4, 5, 8, 8, 8, 8, 8, 8, 4, 4]
abbrev nmS : List UInt8 := [65, 66, 32, 56, 46, 50, 32, 67, 32, 36, 49, 48, 46, 49]
abbrev nm9 : List UInt8 := [65, 66, 32, 56, 46, 50, 32, 56, 46, 50, 32, 56, 46, 50, 32, 56, 46, 50, 32, 56, 46, 50, 32, 56, 46, 50, 32, 56, 46, 50, 32, 56, 46, 50, 32, 56, 46, 50]
abbrev nm3 : List UInt8 := [65, 66, 32, 51, 46, 48]
theorem nm_r0 : readI twoB [97, 98, 32, 56, 46, 50] = ([], 4) := by rw [← ref_read two_valid]; kernel_rfl
theorem nm_r1 : readI twoB [65, 66, 32, 56, 46, 56] = ([], 4) := by rw [← ref_read two_valid]; kernel_rfl
theorem nm_r2 : readI twoB [65, 66, 32, 49, 50, 46, 51] = ([], 4) := by rw [← ref_read two_valid]; kernel_rfl
theorem nm_r3 : readI twoB [65, 66, 32, 36, 49, 48, 48, 46, 48] = ([], 4) := by rw [← ref_read two_valid]; kernel_rfl
theorem nm_r4 : readI twoB [65, 66, 67, 32, 56, 46, 50] = ([], 5) := by rw [← ref_read two_valid]; kernel_rfl
theorem nm_r5 : readI twoB [56, 46, 50] = ([], 8) := by rw [← ref_read two_valid]; kernel_rfl
theorem nm_r6 : readI twoB [65, 66, 32, 51, 115] = ([], 8) := by rw [← ref_read two_valid]; kernel_rfl
theorem nm_r7 : readI twoB [65, 66, 32, 51, 115, 32, 67, 32, 56, 46, 50] = ([], 8) := by rw [← ref_read two_valid]; kernel_rfl
theorem nm_r8 : readI twoB [64, 55, 32, 64, 54] = ([], 8) := by rw [← ref_read two_valid]; kernel_rfl
theorem nm_r9 : readI twoB [33, 32, 33] = ([], 8) := by rw [← ref_read two_valid]; kernel_rfl
theorem nm_r10 : readI twoB [63] = ([], 8) := by rw [← ref_read two_valid]; kernel_rfl
theorem nm_r11 : readI twoB [65, 66, 32, 32, 56, 46, 50] = ([], 4) := by rw [← ref_read two_valid]; kernel_rfl
theorem nm_r12 : readI twoB [76, 53, 45, 52] = ([], 4) := by rw [← ref_read two_valid]; kernel_rfl
theorem nm_read : ∀ (k : Nat) (w : List UInt8), nmW[k]? = some w → ∃ e, nmE[k]? = some e ∧ readI twoB w = ([], e) := fun k w h => match k, h with
  | 0, h => by cases h; exact ⟨_, rfl, nm_r0⟩
  | 1, h => by cases h; exact ⟨_, rfl, nm_r1⟩
  | 2, h => by cases h; exact ⟨_, rfl, nm_r2⟩
  | 3, h => by cases h; exact ⟨_, rfl, nm_r3⟩
  | 4, h => by cases h; exact ⟨_, rfl, nm_r4⟩
  | 5, h => by cases h; exact ⟨_, rfl, nm_r5⟩
  | 6, h => by cases h; exact ⟨_, rfl, nm_r6⟩
  | 7, h => by cases h; exact ⟨_, rfl, nm_r7⟩
  | 8, h => by cases h; exact ⟨_, rfl, nm_r8⟩
  | 9, h => by cases h; exact ⟨_, rfl, nm_r9⟩
  | 10, h => by cases h; exact ⟨_, rfl, nm_r10⟩
  | 11, h => by cases h; exact ⟨_, rfl, nm_r11⟩
  | 12, h => by cases h; exact ⟨_, rfl, nm_r12⟩
  | n + 13, h => by simp at h
abbrev nmL : List Prt := [⟨0, 1, 1, 66, false, 0, 0, 0⟩, ⟨1, 1, 1, 81, true, 0, 0, 0⟩]
theorem nm_rS : readI twoB nmS = (nmL, 0) := by rw [← ref_read two_valid]; kernel_rfl
theorem nm_r9s : readI twoB nm9 = ([], 3) := by rw [← ref_read two_valid]; kernel_rfl
theorem nm_r3s : readI twoB nm3 = ([⟨0, 1, 1, 24, false, 0, 0, 0⟩], 0) := by rw [← ref_read two_valid]; kernel_rfl
theorem nm_mis : misI twoB earlyS = ([], 0) := by unfold misI; rw [e_read]; kernel_rfl
theorem nm_wr : writeI twoB [] = ([], 0) := by kernel_rfl
theorem nm_show : showI twoB nmS 1 true = ([306, 81], 0) := by unfold showI; rw [nm_rS]; kernel_rfl
theorem nm_pv1 : proveI twoB earlyS [306, 309, 81, 86] = false := by unfold proveI; rw [e_read]; kernel_rfl
theorem nm_pv2 : proveI twoB earlyS [306, 309, 81] = false := by unfold proveI; rw [e_read]; kernel_rfl
theorem nm_min : minutesI twoB earlyS = ([], 11) := by unfold minutesI; rw [e_read]; kernel_rfl
theorem nm_pr3 : pricesI twoB nm3 = ([], 11) := by unfold pricesI; rw [nm_r3s]; kernel_rfl
theorem nm_wr8 : writeI twoB [⟨0, 1, 800, 0⟩] = ([], 2) := by kernel_rfl
theorem nm_show4 : showI twoB earlyS 4 false = ([], 2) := by unfold showI; rw [e_read]; kernel_rfl
theorem nm_f1 : findI twoB earlyS ⟨0, 309, 1, 6, 9⟩ = ([], 11) := by unfold findI; rw [e_read]; kernel_rfl
theorem nm_f2 : findI twoB earlyS ⟨0, 309, 1, 6, 5⟩ = ([], 2) := by unfold findI; rw [e_read]; kernel_rfl
theorem nm_ok {b : Brd} (h : (b.stocks.all fun s => decide (s.name.length ≤ 9)) = true) : NamesOK b := fun s hs => by
  have := List.all_eq_true.1 h s hs
  simp only [decide_eq_true_eq] at this
  omega
theorem nm_cell {k : Nat} {w : List UInt8} (h : nmW[k]? = some w) : (nmW.map fun w => TV.d (strD w))[0 + k * 1]? = some (.d (strD w)) := by rw [Nat.zero_add, Nat.mul_one, List.getElem?_map, h]; rfl
theorem nm_cellE {k : Nat} {e : Int} (h : nmE[k]? = some e) : (nmE.map fun e => TV.d (.int .i64 e))[0 + k * 1]? = some (.d (.int .i64 e)) := by rw [Nat.zero_add, Nat.mul_one, List.getElem?_map, h]; rfl
theorem sz113 : Sz Tryz.prog 113 13 := (by kernel_rfl : (Tryz.prog.info? 113).map (·.size) = some 13)
theorem sz114 : Sz Tryz.prog 114 13 := (by kernel_rfl : (Tryz.prog.info? 114).map (·.size) = some 13)
theorem zr113 : (Tryz.prog.info? 113).map (·.zero) = some (some (.agg (Array.replicate 13 (.string ⟨#[]⟩)))) := by kernel_rfl
theorem zr114 : (Tryz.prog.info? 114).map (·.zero) = some (some (.agg (Array.replicate 13 (.int .i64 0)))) := by kernel_rfl
theorem bt113 : BT Tryz.prog 113 (.agg (Array.replicate 13 (.string ⟨#[]⟩))) (fun i => some (i * 1, 1)) := bt_array Tryz.underlying113 zr113 (by unfold Sz; kernel_rfl)
theorem bt114 : BT Tryz.prog 114 (.agg (Array.replicate 13 (.int .i64 0))) (fun i => some (i * 1, 1)) := bt_array Tryz.underlying114 zr114 (by unfold Sz; kernel_rfl)
theorem two_vec  : EffAt Tryz.prog 61 [] [] (X := Nat) (fun x => .agg [.val (.slice (some ⟨x, 0, none⟩) 2 2), .d (.int .i64 10), .d (.int .i64 4)]) (fun x => [(1101, .box x 117 (stkT twoB.stocks))]) := by
 refine EffAt.of_awp Tryz.func61 rfl (by kernel_rfl) rfl fun Γ hn => ?_
 refine awp_seq (awp_region ?_)
 refine stepW (s_alloc 0 rfl rfl rfl (nb hn rfl) zr33 rfl rfl) fun b0 => ?_
 refine run_nil (aend_then (awp_seq (awp_region ?_)))
 refine stepW (s_call [] (fun _ => between_ok _ _) rfl (guard_none rfl) rfl (nb hn rfl) (fun _ => trivial) rfl rfl (.refl _)) fun _ => ?_
 refine sq rfl rfl hn rfl (q_buildd rfl bt117 rfl rfl rfl rfl rfl) ?_
 refine stepW (s_call [] (fun _ => between_ok _ _) rfl (guard_none rfl) rfl (nb hn rfl) (fun _ => trivial) rfl rfl (.refl _)) fun _ => ?_
 refine sq rfl rfl hn rfl (q_buildd rfl bt117 rfl rfl rfl rfl rfl) ?_
 refine stepW (s_buildVec 1101 rfl rfl rfl (nb hn rfl) Tryz.underlying31 sz117 zr117 rfl rfl (show _ = [.d (.str ⟨#[]⟩), .d (.int .i64 0), .d (.int .i64 0), .d (.str ⟨#[]⟩), .d (.int .i64 0), .d (.int .i64 0)] from by kernel_rfl) (by kernel_rfl) rfl rfl) fun b5 => ?_
 refine sq rfl rfl hn rfl (q_build rfl bt33 rfl rfl rfl rfl) ?_
 refine stepW (s_store rfl rfl rfl rfl rfl rfl (id := 0) rfl sz33 rfl (Nat.le_of_ble_eq_true rfl) rfl trivial) fun _ => ?_
 refine run_nil (aend_then (awp_ret ?_))
 exact ret_E (.inl rfl) b5 (hands_1B (id := 0) rfl rfl rfl Tryz.underlying33 rfl sz33 rfl rfl) ⟨rfl, trivial⟩
theorem two_vec1  : EffAt Tryz.prog 61 [] [] (X := Nat) (fun x => .agg [.val (.slice (some ⟨x, 0, none⟩) 2 2), .d (.int .i64 10), .d (.int .i64 4)]) (fun x => [(1102, .box x 117 (stkT twoB.stocks))]) := by
 refine EffAt.of_awp Tryz.func61 rfl (by kernel_rfl) rfl fun Γ hn => ?_
 refine awp_seq (awp_region ?_)
 refine stepW (s_alloc 0 rfl rfl rfl (nb hn rfl) zr33 rfl rfl) fun b0 => ?_
 refine run_nil (aend_then (awp_seq (awp_region ?_)))
 refine stepW (s_call [] (fun _ => between_ok _ _) rfl (guard_none rfl) rfl (nb hn rfl) (fun _ => trivial) rfl rfl (.refl _)) fun _ => ?_
 refine sq rfl rfl hn rfl (q_buildd rfl bt117 rfl rfl rfl rfl rfl) ?_
 refine stepW (s_call [] (fun _ => between_ok _ _) rfl (guard_none rfl) rfl (nb hn rfl) (fun _ => trivial) rfl rfl (.refl _)) fun _ => ?_
 refine sq rfl rfl hn rfl (q_buildd rfl bt117 rfl rfl rfl rfl rfl) ?_
 refine stepW (s_buildVec 1102 rfl rfl rfl (nb hn rfl) Tryz.underlying31 sz117 zr117 rfl rfl (show _ = [.d (.str ⟨#[]⟩), .d (.int .i64 0), .d (.int .i64 0), .d (.str ⟨#[]⟩), .d (.int .i64 0), .d (.int .i64 0)] from by kernel_rfl) (by kernel_rfl) rfl rfl) fun b5 => ?_
 refine sq rfl rfl hn rfl (q_build rfl bt33 rfl rfl rfl rfl) ?_
 refine stepW (s_store rfl rfl rfl rfl rfl rfl (id := 0) rfl sz33 rfl (Nat.le_of_ble_eq_true rfl) rfl trivial) fun _ => ?_
 refine run_nil (aend_then (awp_ret ?_))
 exact ret_E (.inl rfl) b5 (hands_1B (id := 0) rfl rfl rfl Tryz.underlying33 rfl sz33 rfl rfl) ⟨rfl, trivial⟩
theorem nm_len {w : List UInt8} (h : w ∈ nmW) : w.length ≤ 100 := by
  have : nmW.all (fun w => decide (w.length ≤ 100)) = true := by decide
  have := List.all_eq_true.1 this w h
  simpa using this
theorem TapeNames_eff  : EffAt Tryz.prog 14 [] [] (X := Unit) (fun _ => .d (.bool true)) (fun _ => []) := by
 refine EffAt.of_awp Tryz.func14 rfl (by kernel_rfl) rfl fun Γ hn => ?_
 refine awp_seq (awp_region ?_)
 refine sq rfl rfl hn rfl (q_assign rfl rfl) ?_
 refine run_nil (aend_then (awp_seq (awp_region ?_)))
 refine stepW (s_call [] (fun _ => two_ok) rfl (guard_none rfl) rfl (nb hn rfl) (fun _ => trivial) rfl rfl (.refl _)) fun _ => ?_
 refine stepW (s_call [] (fun _ => (by have h := Prices_ok twoB earlyS two_names (by decide); rw [e_prices] at h; exact h)) rfl (guard_none rfl) rfl (nb hn rfl) (fun _ => trivial) rfl rfl (.refl _)) fun _ => ?_
 refine sq rfl rfl hn rfl (q_move rfl rfl) ?_
 refine sq rfl rfl hn rfl (q_extractd rfl rfl rfl) ?_
 refine sq rfl rfl hn rfl (q_extractd rfl rfl rfl) ?_
 refine sq rfl rfl hn rfl (q_assign rfl rfl) ?_
 refine sq rfl rfl hn rfl (q_assign rfl rfl) ?_
 refine run_nil (aend_then (awp_seq (awp_region ?_)))
 refine stepW (s_call [] (fun _ => two_ok) rfl (guard_none rfl) rfl (nb hn rfl) (fun _ => trivial) rfl rfl (.refl _)) fun _ => ?_
 refine stepW (s_call [] (fun _ => (by have h := Minutes_ok twoB lateS two_names (by decide); rw [l_minutes] at h; exact h)) rfl (guard_none rfl) rfl (nb hn rfl) (fun _ => trivial) rfl rfl (.refl _)) fun _ => ?_
 refine sq rfl rfl hn rfl (q_move rfl rfl) ?_
 refine sq rfl rfl hn rfl (q_extractd rfl rfl rfl) ?_
 refine sq rfl rfl hn rfl (q_extractd rfl rfl rfl) ?_
 refine sq rfl rfl hn rfl (q_assign rfl rfl) ?_
 refine sq rfl rfl hn rfl (q_assign rfl rfl) ?_
 refine run_nil (aend_then (awp_seq (awp_region ?_)))
 refine stepW (s_call [] (fun _ => two_ok) rfl (guard_none rfl) rfl (nb hn rfl) (fun _ => trivial) rfl rfl (.refl _)) fun _ => ?_
 refine stepW (s_call [] (fun _ => (by have h := Misprints_ok twoB earlyS two_names (by decide); rw [nm_mis] at h; exact h)) rfl (guard_none rfl) rfl (nb hn rfl) (fun _ => trivial) rfl rfl (.refl _)) fun _ => ?_
 refine sq rfl rfl hn rfl (q_move rfl rfl) ?_
 refine sq rfl rfl hn rfl (q_extractd rfl rfl rfl) ?_
 refine sq rfl rfl hn rfl (q_extractd rfl rfl rfl) ?_
 refine sq rfl rfl hn rfl (q_assign rfl rfl) ?_
 refine sq rfl rfl hn rfl (q_assign rfl rfl) ?_
 refine run_nil (aend_then (awp_seq (awp_region ?_)))
 refine stepW (s_call [] (fun _ => two_ok) rfl (guard_none rfl) rfl (nb hn rfl) (fun _ => trivial) rfl rfl (.refl _)) fun _ => ?_
 refine stepW (s_call [] (fun _ => (by have h := Write_ok twoB [] two_names; rw [nm_wr] at h; exact h)) rfl (guard_none rfl) rfl (nb hn rfl) (fun _ => trivial) rfl rfl (by first | exact .refl _ | (repeat (first | exact .refl _ | exact .nil _ | refine .cons ?_ ?_ | refine .agg ?_ | refine .tup ?_)))) fun _ => ?_
 refine sq rfl rfl hn rfl (q_move rfl rfl) ?_
 refine sq rfl rfl hn rfl (q_extractd rfl rfl rfl) ?_
 refine sq rfl rfl hn rfl (q_extractd rfl rfl rfl) ?_
 refine sq rfl rfl hn rfl (q_assign rfl rfl) ?_
 refine sq rfl rfl hn rfl (q_assign rfl rfl) ?_
 refine run_nil (aend_then (awp_seq (awp_region ?_)))
 refine stepW (s_call [] (fun _ => two_ok) rfl (guard_none rfl) rfl (nb hn rfl) (fun _ => trivial) rfl rfl (.refl _)) fun _ => ?_
 refine stepW (s_call [] (fun _ => (by have h := Show_ok twoB nmS 1 true two_names (by decide); rw [nm_show] at h; exact h)) rfl (guard_none rfl) rfl (nb hn rfl) (fun _ => trivial) rfl rfl (.refl _)) fun _ => ?_
 refine sq rfl rfl hn rfl (q_move rfl rfl) ?_
 refine sq rfl rfl hn rfl (q_extractd rfl rfl rfl) ?_
 refine sq rfl rfl hn rfl (q_extractd rfl rfl rfl) ?_
 refine sq rfl rfl hn rfl (q_assign rfl rfl) ?_
 refine sq rfl rfl hn rfl (q_assign rfl rfl) ?_
 refine run_nil (aend_then (awp_seq (awp_seq ?_)))
 refine d_start (W := fun b => True) fmo ?_
 refine d1q (i := 0) rfl (by as_aux_lemma => kernel_rfl) (fun _ _ _ _ h => h) rfl rfl hn rfl (q_move rfl rfl) ?_
 refine d1q (i := 1) rfl (by as_aux_lemma => kernel_rfl) (fun _ _ _ _ h => h) rfl rfl hn rfl (q_neq rfl rfl rfl) ?_
 refine d1q (i := 2) rfl (by as_aux_lemma => kernel_rfl) (fun _ _ _ _ h => h) rfl rfl hn rfl (q_move rfl rfl) ?_
 refine d1g (i := 3) [] rfl (by as_aux_lemma => kernel_rfl) (fun _ _ _ _ h => h) (guard_some rfl rfl rfl) rfl hn rfl (fun hc => trivial) (fun hc => q_move rfl rfl) ?_
 refine d1g (i := 4) [(52, _)] rfl (by as_aux_lemma => kernel_rfl) (fun _ _ _ _ h => h) (guard_some rfl rfl rfl) rfl hn rfl (fun hc => ⟨⟨_, rfl, hc⟩, trivial⟩) (fun hc => q_len rfl rfl Tryz.underlying48) ?_
 refine d1g (i := 5) [(53, _)] rfl (by as_aux_lemma => kernel_rfl) (fun _ _ _ _ h => h) (guard_some rfl rfl rfl) rfl hn rfl (fun hc => ⟨⟨_, rfl, hc⟩, trivial⟩) (fun hc => q_neq rfl rfl rfl) ?_
 refine d1q (i := 6) rfl (by as_aux_lemma => kernel_rfl) (fun _ _ _ _ h => h) rfl rfl hn rfl (q_or rfl rfl rfl (by intro hB; first | (rw [hB]; rfl) | (rw [hB, hc]; rfl) | simp_all)) ?_
 refine d1q (i := 7) rfl (by as_aux_lemma => kernel_rfl) (fun _ _ _ _ h => h) rfl rfl hn rfl (q_move rfl rfl) ?_
 refine d1g (i := 8) [] rfl (by as_aux_lemma => kernel_rfl) (fun _ _ _ _ h => h) (guard_some rfl rfl rfl) rfl hn rfl (fun hc => trivial) (fun hc => q_move rfl rfl) ?_
 refine d1g (i := 9) [(57, _)] rfl (by as_aux_lemma => kernel_rfl) (fun _ _ _ _ h => h) (guard_some rfl rfl rfl) rfl hn rfl (fun hc => ⟨⟨_, rfl, hc⟩, trivial⟩) (fun hc => q_index (i := 1) rfl rfl rfl Tryz.underlying48 sz45 rfl rfl) ?_
 refine d1g (i := 10) [(58, _)] rfl (by as_aux_lemma => kernel_rfl) (fun _ _ _ _ h => h) (guard_some rfl rfl rfl) rfl hn rfl (fun hc => ⟨⟨_, rfl, hc⟩, trivial⟩) (fun hc => q_loadpA rfl rfl Tryz.underlying45 rfl sz45 rfl rfl seesFA) ?_
 refine d1_of_d2 ?_
 refine d2_one (i := 11) (by as_aux_lemma => kernel_rfl) rfl (s_call [] (fun hc => between_ok _ _) rfl (guard_some rfl rfl rfl) rfl (nb hn rfl) (fun hc => trivial) rfl rfl (.refl _)) fun _ => ?_
 refine d2_of_d1 ?_
 refine d1g (i := 12) [(59, _), (60, _)] rfl (by as_aux_lemma => kernel_rfl) (fun _ _ _ _ h => h) (guard_some rfl rfl rfl) rfl hn rfl (fun hc => ⟨⟨_, rfl, hc⟩, ⟨_, rfl, hc⟩, trivial⟩) (fun hc => q_neq45 rfl rfl rfl) ?_
 refine d1q (i := 13) rfl (by as_aux_lemma => kernel_rfl) (fun _ _ _ _ h => h) rfl rfl hn rfl (q_or rfl rfl rfl (by intro hB; first | (rw [hB]; rfl) | (rw [hB, hc]; rfl) | simp_all)) ?_
 refine d1q (i := 14) rfl (by as_aux_lemma => kernel_rfl) (fun _ _ _ _ h => h) rfl rfl hn rfl (q_move rfl rfl) ?_
 refine d1g (i := 15) [] rfl (by as_aux_lemma => kernel_rfl) (fun _ _ _ _ h => h) (guard_some rfl rfl rfl) rfl hn rfl (fun hc => trivial) (fun hc => q_move rfl rfl) ?_
 refine d1g (i := 16) [(64, _)] rfl (by as_aux_lemma => kernel_rfl) (fun _ _ _ _ h => h) (guard_some rfl rfl rfl) rfl hn rfl (fun hc => ⟨⟨_, rfl, hc⟩, trivial⟩) (fun hc => q_index (i := 2) rfl rfl rfl Tryz.underlying48 sz45 rfl rfl) ?_
 refine d1g (i := 17) [(65, _)] rfl (by as_aux_lemma => kernel_rfl) (fun _ _ _ _ h => h) (guard_some rfl rfl rfl) rfl hn rfl (fun hc => ⟨⟨_, rfl, hc⟩, trivial⟩) (fun hc => q_loadpA rfl rfl Tryz.underlying45 rfl sz45 rfl rfl seesFA) ?_
 refine d1_of_d2 ?_
 refine d2_one (i := 18) (by as_aux_lemma => kernel_rfl) rfl (s_call [] (fun hc => between_ok _ _) rfl (guard_some rfl rfl rfl) rfl (nb hn rfl) (fun hc => trivial) rfl rfl (.refl _)) fun _ => ?_
 refine d2_of_d1 ?_
 refine d1g (i := 19) [(66, _), (67, _)] rfl (by as_aux_lemma => kernel_rfl) (fun _ _ _ _ h => h) (guard_some rfl rfl rfl) rfl hn rfl (fun hc => ⟨⟨_, rfl, hc⟩, ⟨_, rfl, hc⟩, trivial⟩) (fun hc => q_neq45 rfl rfl rfl) ?_
 refine d1q (i := 20) rfl (by as_aux_lemma => kernel_rfl) (fun _ _ _ _ h => h) rfl rfl hn rfl (q_or rfl rfl rfl (by intro hB; first | (rw [hB]; rfl) | (rw [hB, hc]; rfl) | simp_all)) ?_
 refine d1q (i := 21) rfl (by as_aux_lemma => kernel_rfl) (fun _ _ _ _ h => h) rfl rfl hn rfl (q_move rfl rfl) ?_
 refine d1g (i := 22) [] rfl (by as_aux_lemma => kernel_rfl) (fun _ _ _ _ h => h) (guard_some rfl rfl rfl) rfl hn rfl (fun hc => trivial) (fun hc => q_move rfl rfl) ?_
 refine d1g (i := 23) [(71, _)] rfl (by as_aux_lemma => kernel_rfl) (fun _ _ _ _ h => h) (guard_some rfl rfl rfl) rfl hn rfl (fun hc => ⟨⟨_, rfl, hc⟩, trivial⟩) (fun hc => q_neq rfl rfl rfl) ?_
 refine d1q (i := 24) rfl (by as_aux_lemma => kernel_rfl) (fun _ _ _ _ h => h) rfl rfl hn rfl (q_or rfl rfl rfl (by intro hB; first | (rw [hB]; rfl) | (rw [hB, hc]; rfl) | simp_all)) ?_
 refine d1q (i := 25) rfl (by as_aux_lemma => kernel_rfl) (fun _ _ _ _ h => h) rfl rfl hn rfl (q_move rfl rfl) ?_
 refine d1g (i := 26) [] rfl (by as_aux_lemma => kernel_rfl) (fun _ _ _ _ h => h) (guard_some rfl rfl rfl) rfl hn rfl (fun hc => trivial) (fun hc => q_move rfl rfl) ?_
 refine d1g (i := 27) [(75, _)] rfl (by as_aux_lemma => kernel_rfl) (fun _ _ _ _ h => h) (guard_some rfl rfl rfl) rfl hn rfl (fun hc => ⟨⟨_, rfl, hc⟩, trivial⟩) (fun hc => q_len rfl rfl Tryz.underlying48) ?_
 refine d1g (i := 28) [(76, _)] rfl (by as_aux_lemma => kernel_rfl) (fun _ _ _ _ h => h) (guard_some rfl rfl rfl) rfl hn rfl (fun hc => ⟨⟨_, rfl, hc⟩, trivial⟩) (fun hc => q_neq rfl rfl rfl) ?_
 refine d1q (i := 29) rfl (by as_aux_lemma => kernel_rfl) (fun _ _ _ _ h => h) rfl rfl hn rfl (q_or rfl rfl rfl (by intro hB; first | (rw [hB]; rfl) | (rw [hB, hc]; rfl) | simp_all)) ?_
 refine d1q (i := 30) rfl (by as_aux_lemma => kernel_rfl) (fun _ _ _ _ h => h) rfl rfl hn rfl (q_move rfl rfl) ?_
 refine d1g (i := 31) [] rfl (by as_aux_lemma => kernel_rfl) (fun _ _ _ _ h => h) (guard_some rfl rfl rfl) rfl hn rfl (fun hc => trivial) (fun hc => q_move rfl rfl) ?_
 refine d1g (i := 32) [(80, _)] rfl (by as_aux_lemma => kernel_rfl) (fun _ _ _ _ h => h) (guard_some rfl rfl rfl) rfl hn rfl (fun hc => ⟨⟨_, rfl, hc⟩, trivial⟩) (fun hc => q_index (i := 0) rfl rfl rfl Tryz.underlying48 sz45 rfl rfl) ?_
 refine d1g (i := 33) [(81, _)] rfl (by as_aux_lemma => kernel_rfl) (fun _ _ _ _ h => h) (guard_some rfl rfl rfl) rfl hn rfl (fun hc => ⟨⟨_, rfl, hc⟩, trivial⟩) (fun hc => q_loadpA rfl rfl Tryz.underlying45 rfl sz45 rfl rfl seesFA) ?_
 refine d1_of_d2 ?_
 refine d2_one (i := 34) (by as_aux_lemma => kernel_rfl) rfl (s_call [] (fun hc => between_ok _ _) rfl (guard_some rfl rfl rfl) rfl (nb hn rfl) (fun hc => trivial) rfl rfl (.refl _)) fun _ => ?_
 refine d2_of_d1 ?_
 refine d1g (i := 35) [(82, _), (83, _)] rfl (by as_aux_lemma => kernel_rfl) (fun _ _ _ _ h => h) (guard_some rfl rfl rfl) rfl hn rfl (fun hc => ⟨⟨_, rfl, hc⟩, ⟨_, rfl, hc⟩, trivial⟩) (fun hc => q_neq45 rfl rfl rfl) ?_
 refine d1q (i := 36) rfl (by as_aux_lemma => kernel_rfl) (fun _ _ _ _ h => h) rfl rfl hn rfl (q_or rfl rfl rfl (by intro hB; first | (rw [hB]; rfl) | (rw [hB, hc]; rfl) | simp_all)) ?_
 refine d1q (i := 37) rfl (by as_aux_lemma => kernel_rfl) (fun _ _ _ _ h => h) rfl rfl hn rfl (q_move rfl rfl) ?_
 refine d1g (i := 38) [] rfl (by as_aux_lemma => kernel_rfl) (fun _ _ _ _ h => h) (guard_some rfl rfl rfl) rfl hn rfl (fun hc => trivial) (fun hc => q_move rfl rfl) ?_
 refine d1g (i := 39) [(87, _)] rfl (by as_aux_lemma => kernel_rfl) (fun _ _ _ _ h => h) (guard_some rfl rfl rfl) rfl hn rfl (fun hc => ⟨⟨_, rfl, hc⟩, trivial⟩) (fun hc => q_index (i := 2) rfl rfl rfl Tryz.underlying48 sz45 rfl rfl) ?_
 refine d1g (i := 40) [(88, _)] rfl (by as_aux_lemma => kernel_rfl) (fun _ _ _ _ h => h) (guard_some rfl rfl rfl) rfl hn rfl (fun hc => ⟨⟨_, rfl, hc⟩, trivial⟩) (fun hc => q_loadpA rfl rfl Tryz.underlying45 rfl sz45 rfl rfl seesFA) ?_
 refine d1_of_d2 ?_
 refine d2_one (i := 41) (by as_aux_lemma => kernel_rfl) rfl (s_call [] (fun hc => between_ok _ _) rfl (guard_some rfl rfl rfl) rfl (nb hn rfl) (fun hc => trivial) rfl rfl (.refl _)) fun _ => ?_
 refine d2_of_d1 ?_
 refine d1g (i := 42) [(89, _), (90, _)] rfl (by as_aux_lemma => kernel_rfl) (fun _ _ _ _ h => h) (guard_some rfl rfl rfl) rfl hn rfl (fun hc => ⟨⟨_, rfl, hc⟩, ⟨_, rfl, hc⟩, trivial⟩) (fun hc => q_neq45 rfl rfl rfl) ?_
 refine d1q (i := 43) rfl (by as_aux_lemma => kernel_rfl) (fun _ _ _ _ h => h) rfl rfl hn rfl (q_or rfl rfl rfl (by intro hB; first | (rw [hB]; rfl) | (rw [hB, hc]; rfl) | simp_all)) ?_
 refine d1q (i := 44) rfl (by as_aux_lemma => kernel_rfl) (fun _ _ _ _ h => h) rfl rfl hn rfl (q_move rfl rfl) ?_
 refine d1g (i := 45) [] rfl (by as_aux_lemma => kernel_rfl) (fun _ _ _ _ h => h) (guard_some rfl rfl rfl) rfl hn rfl (fun hc => trivial) (fun hc => q_move rfl rfl) ?_
 refine d1g (i := 46) [(94, _)] rfl (by as_aux_lemma => kernel_rfl) (fun _ _ _ _ h => h) (guard_some rfl rfl rfl) rfl hn rfl (fun hc => ⟨⟨_, rfl, hc⟩, trivial⟩) (fun hc => q_neq rfl rfl rfl) ?_
 refine d1q (i := 47) rfl (by as_aux_lemma => kernel_rfl) (fun _ _ _ _ h => h) rfl rfl hn rfl (q_or rfl rfl rfl (by intro hB; first | (rw [hB]; rfl) | (rw [hB, hc]; rfl) | simp_all)) ?_
 refine d1q (i := 48) rfl (by as_aux_lemma => kernel_rfl) (fun _ _ _ _ h => h) rfl rfl hn rfl (q_move rfl rfl) ?_
 refine d1g (i := 49) [] rfl (by as_aux_lemma => kernel_rfl) (fun _ _ _ _ h => h) (guard_some rfl rfl rfl) rfl hn rfl (fun hc => trivial) (fun hc => q_move rfl rfl) ?_
 refine d1g (i := 50) [(98, _)] rfl (by as_aux_lemma => kernel_rfl) (fun _ _ _ _ h => h) (guard_some rfl rfl rfl) rfl hn rfl (fun hc => ⟨⟨_, rfl, hc⟩, trivial⟩) (fun hc => q_len rfl rfl Tryz.underlying57) ?_
 refine d1g (i := 51) [(99, _)] rfl (by as_aux_lemma => kernel_rfl) (fun _ _ _ _ h => h) (guard_some rfl rfl rfl) rfl hn rfl (fun hc => ⟨⟨_, rfl, hc⟩, trivial⟩) (fun hc => q_neq rfl rfl rfl) ?_
 refine d1q (i := 52) rfl (by as_aux_lemma => kernel_rfl) (fun _ _ _ _ h => h) rfl rfl hn rfl (q_or rfl rfl rfl (by intro hB; first | (rw [hB]; rfl) | (rw [hB, hc]; rfl) | simp_all)) ?_
 refine d1q (i := 53) rfl (by as_aux_lemma => kernel_rfl) (fun _ _ _ _ h => h) rfl rfl hn rfl (q_move rfl rfl) ?_
 refine d1g (i := 54) [] rfl (by as_aux_lemma => kernel_rfl) (fun _ _ _ _ h => h) (guard_some rfl rfl rfl) rfl hn rfl (fun hc => trivial) (fun hc => q_move rfl rfl) ?_
 refine d1g (i := 55) [(103, _)] rfl (by as_aux_lemma => kernel_rfl) (fun _ _ _ _ h => h) (guard_some rfl rfl rfl) rfl hn rfl (fun hc => ⟨⟨_, rfl, hc⟩, trivial⟩) (fun hc => q_neq rfl rfl rfl) ?_
 refine d1q (i := 56) rfl (by as_aux_lemma => kernel_rfl) (fun _ _ _ _ h => h) rfl rfl hn rfl (q_or rfl rfl rfl (by intro hB; first | (rw [hB]; rfl) | (rw [hB, hc]; rfl) | simp_all)) ?_
 refine d1q (i := 57) rfl (by as_aux_lemma => kernel_rfl) (fun _ _ _ _ h => h) rfl rfl hn rfl (q_move rfl rfl) ?_
 refine d1g (i := 58) [] rfl (by as_aux_lemma => kernel_rfl) (fun _ _ _ _ h => h) (guard_some rfl rfl rfl) rfl hn rfl (fun hc => trivial) (fun hc => q_move rfl rfl) ?_
 refine d1g (i := 59) [(107, _)] rfl (by as_aux_lemma => kernel_rfl) (fun _ _ _ _ h => h) (guard_some rfl rfl rfl) rfl hn rfl (fun hc => ⟨⟨_, rfl, hc⟩, trivial⟩) (fun hc => q_neqS rfl rfl rfl) ?_
 refine d1q (i := 60) rfl (by as_aux_lemma => kernel_rfl) (fun _ _ _ _ h => h) rfl rfl hn rfl (q_or rfl rfl rfl (by intro hB; first | (rw [hB]; rfl) | (rw [hB, hc]; rfl) | simp_all)) ?_
 refine d1q (i := 61) rfl (by as_aux_lemma => kernel_rfl) (fun _ _ _ _ h => h) rfl rfl hn rfl (q_move rfl rfl) ?_
 refine d1g (i := 62) [] rfl (by as_aux_lemma => kernel_rfl) (fun _ _ _ _ h => h) (guard_some rfl rfl rfl) rfl hn rfl (fun hc => trivial) (fun hc => q_move rfl rfl) ?_
 refine d1g (i := 63) [(111, _)] rfl (by as_aux_lemma => kernel_rfl) (fun _ _ _ _ h => h) (guard_some rfl rfl rfl) rfl hn rfl (fun hc => ⟨⟨_, rfl, hc⟩, trivial⟩) (fun hc => q_neq rfl rfl rfl) ?_
 refine d1q (i := 64) rfl (by as_aux_lemma => kernel_rfl) (fun _ _ _ _ h => h) rfl rfl hn rfl (q_or rfl rfl rfl (by intro hB; first | (rw [hB]; rfl) | (rw [hB, hc]; rfl) | simp_all)) ?_
 refine d1q (i := 65) rfl (by as_aux_lemma => kernel_rfl) (fun _ _ _ _ h => h) rfl rfl hn rfl (q_move rfl rfl) ?_
 refine d1g (i := 66) [] rfl (by as_aux_lemma => kernel_rfl) (fun _ _ _ _ h => h) (guard_some rfl rfl rfl) rfl hn rfl (fun hc => trivial) (fun hc => q_move rfl rfl) ?_
 refine d1_of_d2 ?_
 refine d2_one (i := 67) (by as_aux_lemma => kernel_rfl) rfl (s_guard (guard_some rfl rfl rfl) rfl (nb hn rfl) (s_buildSlice rfl rfl rfl (nb hn rfl) Tryz.underlying57 sz3 zr3 rfl rfl rfl (show _ = [.d (.int .i64 0), .d (.int .i64 0)] from by kernel_rfl) (by kernel_rfl) rfl rfl rfl rfl rfl)) fun _ => ?_
 refine d2_of_d1 (d1_of_d2 ?_)
 refine d2_one (i := 68) (by as_aux_lemma => kernel_rfl) rfl (s_call [(115, _), (116, _)] (fun hc => ints_ok [306, 81] [306, 81]) rfl (guard_some rfl rfl rfl) rfl (nb hn rfl) (fun hc => ⟨⟨_, rfl, hc⟩, ⟨_, rfl, hc⟩, trivial⟩) rfl rfl (.refl _)) fun _ => ?_
 refine d2_of_d1 ?_
 refine d1g (i := 69) [(117, _)] rfl (by as_aux_lemma => kernel_rfl) (fun _ _ _ _ h => h) (guard_some rfl rfl rfl) rfl hn rfl (fun hc => ⟨⟨_, rfl, hc⟩, trivial⟩) (fun hc => q_not rfl rfl) ?_
 refine d1q (i := 70) rfl (by as_aux_lemma => kernel_rfl) (fun _ _ _ _ h => h) rfl rfl hn rfl (q_or rfl rfl rfl (by intro hB; first | (rw [hB]; rfl) | (rw [hB, hc]; rfl) | simp_all)) ?_
 refine d1q (i := 71) rfl (by as_aux_lemma => kernel_rfl) (fun _ _ _ _ h => h) rfl rfl hn rfl (q_move rfl rfl) ?_
 refine d1_of_d2 ?_
 refine d2_all 72 [73] (by kernel_rfl) ⟨?_, ?_, trivial⟩
 ·
  refine br rfl (s_call [] (fun hc => two_ok) rfl (guard_some rfl rfl rfl) rfl (nb hn rfl) (fun hc => trivial) rfl rfl (.refl _)) fun _ => ?_
  refine d2_of_d1 (d1_of_d2 ?_)
  refine d2_one (i := 73) (by as_aux_lemma => kernel_rfl) rfl (s_guard (guard_some rfl rfl rfl) rfl (nb hn rfl) (s_buildSlice rfl rfl rfl (nb hn rfl) Tryz.underlying57 sz3 zr3 rfl rfl rfl (show _ = [.d (.int .i64 0), .d (.int .i64 0), .d (.int .i64 0), .d (.int .i64 0)] from by kernel_rfl) (by kernel_rfl) rfl rfl rfl rfl rfl)) fun _ => ?_
  refine d2_of_d1 (d1_of_d2 ?_)
  refine d2_one (i := 74) (by as_aux_lemma => kernel_rfl) rfl (s_call [(121, _), (122, _)] (fun hc => (by have h := ProveTruth_ok twoB earlyS [306, 309, 81, 86] two_names (by decide); rw [nm_pv1] at h; exact h)) rfl (guard_some rfl rfl rfl) rfl (nb hn rfl) (fun hc => ⟨⟨_, rfl, hc⟩, ⟨_, rfl, hc⟩, trivial⟩) rfl rfl (.refl _)) fun _ => ?_
  refine d2_of_d1 ?_
  refine d1q (i := 75) rfl (by as_aux_lemma => kernel_rfl) (fun _ _ _ _ h => h) rfl rfl hn rfl (q_or rfl rfl rfl (by intro hB; first | (rw [hB]; rfl) | (rw [hB, hc]; rfl) | simp_all)) ?_
  refine d1q (i := 76) rfl (by as_aux_lemma => kernel_rfl) (fun _ _ _ _ h => h) rfl rfl hn rfl (q_move rfl rfl) ?_
  refine d1_of_d2 ?_
  refine d2_all 77 [78] (by kernel_rfl) ⟨?_, ?_, trivial⟩
  ·
   refine br rfl (s_call [] (fun hc => two_ok) rfl (guard_some rfl rfl rfl) rfl (nb hn rfl) (fun hc => trivial) rfl rfl (.refl _)) fun _ => ?_
   refine d2_of_d1 (d1_of_d2 ?_)
   refine d2_one (i := 78) (by as_aux_lemma => kernel_rfl) rfl (s_guard (guard_some rfl rfl rfl) rfl (nb hn rfl) (s_buildSlice rfl rfl rfl (nb hn rfl) Tryz.underlying57 sz3 zr3 rfl rfl rfl (show _ = [.d (.int .i64 0), .d (.int .i64 0), .d (.int .i64 0)] from by kernel_rfl) (by kernel_rfl) rfl rfl rfl rfl rfl)) fun _ => ?_
   refine d2_of_d1 (d1_of_d2 ?_)
   refine d2_one (i := 79) (by as_aux_lemma => kernel_rfl) rfl (s_call [(126, _), (127, _)] (fun hc => (by have h := ProveTruth_ok twoB earlyS [306, 309, 81] two_names (by decide); rw [nm_pv2] at h; exact h)) rfl (guard_some rfl rfl rfl) rfl (nb hn rfl) (fun hc => ⟨⟨_, rfl, hc⟩, ⟨_, rfl, hc⟩, trivial⟩) rfl rfl (.refl _)) fun _ => ?_
   refine d2_of_d1 ?_
   refine d1q (i := 80) rfl (by as_aux_lemma => kernel_rfl) (fun _ _ _ _ h => h) rfl rfl hn rfl (q_or rfl rfl rfl (by intro hB; first | (rw [hB]; rfl) | (rw [hB, hc]; rfl) | simp_all)) ?_
   refine d1_of_d2 ?_
   refine d2_done (by as_aux_lemma => kernel_rfl) ?_
   refine aend_then ?_
   refine awp_cond rfl (fun hb0 => ?_) (fun hb0 => ?_)
   ·
    exact absurd (show false = true from hb0) (by decide)
   ·
    refine awp_skip (aend_then (awp_seq (awp_region ?_)))
    refine sq rfl rfl hn rfl (q_buildd rfl bt113 rfl rfl rfl rfl rfl) ?_
    refine stepW (s_alloc 11 rfl rfl rfl (nb hn rfl) zr113 rfl rfl) fun b11 => ?_
    refine stepW (s_store rfl rfl rfl rfl rfl rfl (id := 11) rfl sz113 rfl (Nat.le_of_ble_eq_true rfl) rfl trivial) fun _ => ?_
    refine run_nil (aend_then (awp_seq (awp_region ?_)))
    refine sq rfl rfl hn rfl (q_buildd rfl bt114 rfl rfl rfl rfl rfl) ?_
    refine stepW (s_alloc 12 rfl rfl rfl (nb hn rfl) zr114 rfl rfl) fun b12 => ?_
    refine stepW (s_store rfl rfl rfl rfl rfl rfl (id := 12) rfl sz114 rfl (Nat.le_of_ble_eq_true rfl) rfl trivial) fun _ => ?_
    refine run_nil (aend_then (awp_seq (awp_seq (awp_region ?_))))
    refine sq rfl rfl hn rfl (q_assign rfl rfl) ?_
    refine run_nil (aend_then (awp_block ?_))
    refine awp_loop_on (ι := {k : Nat // k ≤ 13}) (fun x => (13, true, .d (.int .i64 (x.1 : Nat))) :: anys [132, 133, 137, 138, 139, 140, 141, 136, 142, 143, 14, 15, 144, 145, 146, 147, 148, 149, 150, 151, 152, 153, 134, 135]) (fun x => [(11, .box b11 113 (nmW.map fun w => TV.d (strD w))), (12, .box b12 114 (nmE.map fun e => TV.d (.int .i64 e)))]) (fun x => 13 - x.1) ⟨0, Nat.zero_le _⟩ ⟨.inl rfl, holdT_anys _⟩ ⟨.inl rfl, .inl rfl, trivial⟩ ?_
    rintro ⟨k, hk⟩
    dsimp only
    refine awp_seq (awp_seq (awp_region ?_))
    refine sq rfl rfl hn rfl (q_move rfl rfl) ?_
    refine sq rfl rfl hn rfl (q_lss rfl rfl rfl) ?_
    refine run_nil (aend_then ?_)
    refine awp_cond rfl (fun hb1 => ?_) (fun hb1 => ?_)
    ·
     have hkl : k < 13 := by have h := of_decide_eq_true hb1; omega
     obtain ⟨w, hw⟩ := ex_get (show k < nmW.length from hkl)
     obtain ⟨e, he, hrd⟩ := nm_read k w hw
     have hwl : w.length ≤ 100 := nm_len (List.mem_of_getElem? hw)
     refine awp_skip (aend_then (awp_seq (awp_block (awp_seq ?_))))
     refine d_start (W := fun b => b ≠ b11) fmo ?_
     refine d1q (i := 1) rfl (by kernel_rfl) (fun _ _ _ _ h => h) rfl rfl hn rfl (q_move rfl rfl) ?_
     refine d1q (i := 2) rfl (by kernel_rfl) (fun _ _ _ _ h => h) rfl rfl hn rfl (q_indexA (i := k) rfl rfl rfl Tryz.underlying113 sz9 rfl (by omega)) ?_
     refine d1q (i := 3) rfl (by kernel_rfl) (fun _ _ _ _ h => h) rfl rfl hn rfl (q_load rfl rfl (id := 11) rfl Tryz.underlying9 rfl (nm_cell hw) (seesA (by simp))) ?_
     refine d1_of_d2 ?_
     refine d2_one (i := 0) (by kernel_rfl) rfl (s_call [] (fun _ => two_ok) rfl (guard_none rfl) rfl (nb hn rfl) (fun _ => trivial) rfl rfl (.refl _)) fun _ => ?_
     refine d2_of_d1 (d1_of_d2 ?_)
     refine d2_one (i := 4) (by kernel_rfl) rfl (s_call [] (fun _ => (by have h := Read_ok twoB w two_names (by omega); rw [hrd] at h; exact h)) rfl (guard_none rfl) rfl (nb hn rfl) (fun _ => trivial) rfl rfl (.refl _)) fun _ => ?_
     refine d2_of_d1 ?_
     refine d1q (i := 5) rfl (by kernel_rfl) (fun _ _ _ _ h => h) rfl rfl hn rfl (q_move rfl rfl) ?_
     refine d1q (i := 6) rfl (by kernel_rfl) (fun _ _ _ _ h => h) rfl rfl hn rfl (q_extractd rfl rfl rfl) ?_
     refine d1q (i := 7) rfl (by kernel_rfl) (fun _ _ _ _ h => h) rfl rfl hn rfl (q_extractd rfl rfl rfl) ?_
     refine d1q (i := 8) rfl (by kernel_rfl) (fun _ _ _ _ h => h) rfl rfl hn rfl (q_assign rfl rfl) ?_
     refine d1q (i := 9) rfl (by kernel_rfl) (fun _ _ _ _ h => h) rfl rfl hn rfl (q_assign rfl rfl) ?_
     refine d1_of_d2 ?_
     refine d2_done (by kernel_rfl) ?_
     refine aend_then (awp_seq (awp_region ?_))
     refine sq rfl rfl hn rfl (q_move rfl rfl) ?_
     refine sq rfl rfl hn rfl (q_move rfl rfl) ?_
     refine sq rfl rfl hn rfl (q_indexA (i := k) rfl rfl rfl Tryz.underlying114 sz28 rfl (by omega)) ?_
     refine sq rfl rfl hn rfl (q_load rfl rfl (id := 12) rfl Tryz.underlying28 rfl (nm_cellE he) sees0) ?_
     refine sq rfl rfl hn rfl (q_neq rfl rfl rfl) ?_
     refine sq rfl rfl hn rfl (q_move rfl rfl) ?_
     refine stepG [] (guard_some rfl rfl rfl) rfl (nb hn rfl) (fun hc => trivial) (fun hc => q_move rfl rfl) ?_
     refine stepG [(150, _)] (guard_some rfl rfl rfl) rfl (nb hn rfl) (fun hc => ⟨⟨_, rfl, hc⟩, trivial⟩) (fun hc => q_len rfl rfl Tryz.underlying27) ?_
     refine stepG [(151, _)] (guard_some rfl rfl rfl) rfl (nb hn rfl) (fun hc => ⟨⟨_, rfl, hc⟩, trivial⟩) (fun hc => q_neq rfl rfl rfl) ?_
     refine sq rfl rfl hn rfl (q_or rfl rfl rfl (by intro hB; first | (rw [hB]; rfl) | (rw [hB, hc]; rfl) | simp_all)) ?_
     refine run_nil (aend_then ?_)
     refine awp_cond rfl (fun hb2 => ?_) (fun hb2 => ?_)
     ·
      exact absurd hb2 (by simp)
     ·
      refine awp_skip (aend_block (aend_then (awp_region ?_)))
      refine sq rfl rfl hn rfl (q_move rfl rfl) ?_
      refine sq rfl rfl hn rfl (q_add rfl rfl rfl (r := ((k + 1 : Nat) : Int)) (i64w (by omega) (by omega))) ?_
      refine sq rfl rfl hn rfl (q_assign rfl rfl) ?_
      refine run_nil ?_
      exact aend_round_on ⟨k + 1, by omega⟩ ⟨.inl rfl, holdT_anys _⟩ ⟨.inl rfl, .inl rfl, trivial⟩ (by simp only; omega) (by repeat (first | exact kr _ | refine kc rfl ?_)) (by repeat (first | exact kr _ | refine kc rfl ?_))
    ·
     refine awp_exit (aend_then_exit (aend_then_exit (aend_block_exit (aend_then (awp_seq (awp_region ?_))))))
     refine stepW (s_call [] (fun _ => two_ok) rfl (guard_none rfl) rfl (nb hn rfl) (fun _ => trivial) rfl rfl (.refl _)) fun _ => ?_
     refine stepW (s_call [] (fun _ => (by have h := Minutes_ok twoB earlyS two_names (by decide); rw [nm_min] at h; exact h)) rfl (guard_none rfl) rfl (nb hn rfl) (fun _ => trivial) rfl rfl (.refl _)) fun _ => ?_
     refine sq rfl rfl hn rfl (q_move rfl rfl) ?_
     refine sq rfl rfl hn rfl (q_extractd rfl rfl rfl) ?_
     refine sq rfl rfl hn rfl (q_extractd rfl rfl rfl) ?_
     refine sq rfl rfl hn rfl (q_assign rfl rfl) ?_
     refine run_nil (aend_then (awp_seq (awp_region ?_)))
     refine stepW (s_call [] (fun _ => two_ok) rfl (guard_none rfl) rfl (nb hn rfl) (fun _ => trivial) rfl rfl (.refl _)) fun _ => ?_
     refine stepW (s_call [] (fun _ => (by have h := Prices_ok twoB nm3 two_names (by decide); rw [nm_pr3] at h; exact h)) rfl (guard_none rfl) rfl (nb hn rfl) (fun _ => trivial) rfl rfl (.refl _)) fun _ => ?_
     refine sq rfl rfl hn rfl (q_move rfl rfl) ?_
     refine sq rfl rfl hn rfl (q_extractd rfl rfl rfl) ?_
     refine sq rfl rfl hn rfl (q_extractd rfl rfl rfl) ?_
     refine sq rfl rfl hn rfl (q_assign rfl rfl) ?_
     refine run_nil (aend_then (awp_seq (awp_region ?_)))
     refine stepW (s_call [] (fun _ => two_ok) rfl (guard_none rfl) rfl (nb hn rfl) (fun _ => trivial) rfl rfl (.refl _)) fun _ => ?_
     refine stepW (s_call [] (fun _ => (by have h := Read_ok twoB nm9 two_names (by decide); rw [nm_r9s] at h; exact h)) rfl (guard_none rfl) rfl (nb hn rfl) (fun _ => trivial) rfl rfl (.refl _)) fun _ => ?_
     refine sq rfl rfl hn rfl (q_move rfl rfl) ?_
     refine sq rfl rfl hn rfl (q_extractd rfl rfl rfl) ?_
     refine sq rfl rfl hn rfl (q_extractd rfl rfl rfl) ?_
     refine sq rfl rfl hn rfl (q_assign rfl rfl) ?_
     refine run_nil (aend_then (awp_seq (awp_region ?_)))
     refine stepW (s_call [] (fun _ => two_ok) rfl (guard_none rfl) rfl (nb hn rfl) (fun _ => trivial) rfl rfl (.refl _)) fun _ => ?_
     refine sq rfl rfl hn rfl (q_buildd rfl bt115 rfl rfl rfl rfl rfl) ?_
     refine stepW (s_buildSlice rfl rfl rfl (nb hn rfl) Tryz.underlying73 sz115 zr115 rfl rfl rfl (show _ = [.d (.int .i64 0), .d (.int .i64 0), .d (.int .i64 0), .d (.int .i64 0)] from by kernel_rfl) (by kernel_rfl) rfl rfl rfl rfl rfl) fun _ => ?_
     refine stepW (s_call [] (fun _ => (by have h := Write_ok twoB [⟨0, 1, 800, 0⟩] two_names; rw [nm_wr8] at h; exact h)) rfl (guard_none rfl) rfl (nb hn rfl) (fun _ => trivial) rfl rfl (.refl _)) fun _ => ?_
     refine sq rfl rfl hn rfl (q_move rfl rfl) ?_
     refine sq rfl rfl hn rfl (q_extractd rfl rfl rfl) ?_
     refine sq rfl rfl hn rfl (q_extractd rfl rfl rfl) ?_
     refine sq rfl rfl hn rfl (q_assign rfl rfl) ?_
     refine run_nil (aend_then (awp_seq (awp_region ?_)))
     refine stepW (s_call [] (fun _ => two_ok) rfl (guard_none rfl) rfl (nb hn rfl) (fun _ => trivial) rfl rfl (.refl _)) fun _ => ?_
     refine stepW (s_call [] (fun _ => (by have h := Show_ok twoB earlyS 4 false two_names (by decide); rw [nm_show4] at h; exact h)) rfl (guard_none rfl) rfl (nb hn rfl) (fun _ => trivial) rfl rfl (.refl _)) fun _ => ?_
     refine sq rfl rfl hn rfl (q_move rfl rfl) ?_
     refine sq rfl rfl hn rfl (q_extractd rfl rfl rfl) ?_
     refine sq rfl rfl hn rfl (q_extractd rfl rfl rfl) ?_
     refine sq rfl rfl hn rfl (q_assign rfl rfl) ?_
     refine run_nil (aend_then (awp_seq (awp_region ?_)))
     refine stepW (s_call [] (fun _ => two_ok) rfl (guard_none rfl) rfl (nb hn rfl) (fun _ => trivial) rfl rfl (.refl _)) fun _ => ?_
     refine stepW (s_call [] (fun _ => between_ok _ _) rfl (guard_none rfl) rfl (nb hn rfl) (fun _ => trivial) rfl rfl (.refl _)) fun _ => ?_
     refine sq rfl rfl hn rfl (q_buildd rfl bt61 rfl rfl rfl rfl rfl) ?_
     refine stepW (s_call [] (fun _ => (by have h := Find_ok twoB earlyS ⟨0, 309, 1, 6, 9⟩ two_names (by decide); rw [nm_f1] at h; exact h)) rfl (guard_none rfl) rfl (nb hn rfl) (fun _ => trivial) rfl rfl (by first | exact .refl _ | (repeat (first | exact .refl _ | exact .nil _ | refine .cons ?_ ?_ | refine .agg ?_ | refine .tup ?_)))) fun _ => ?_
     refine sq rfl rfl hn rfl (q_move rfl rfl) ?_
     refine sq rfl rfl hn rfl (q_extractd rfl rfl rfl) ?_
     refine sq rfl rfl hn rfl (q_extractd rfl rfl rfl) ?_
     refine sq rfl rfl hn rfl (q_assign rfl rfl) ?_
     refine sq rfl rfl hn rfl (q_assign rfl rfl) ?_
     refine run_nil (aend_then (awp_seq (awp_region ?_)))
     refine stepW (s_call [] (fun _ => two_ok) rfl (guard_none rfl) rfl (nb hn rfl) (fun _ => trivial) rfl rfl (.refl _)) fun _ => ?_
     refine stepW (s_call [] (fun _ => between_ok _ _) rfl (guard_none rfl) rfl (nb hn rfl) (fun _ => trivial) rfl rfl (.refl _)) fun _ => ?_
     refine sq rfl rfl hn rfl (q_buildd rfl bt61 rfl rfl rfl rfl rfl) ?_
     refine stepW (s_call [] (fun _ => (by have h := Find_ok twoB earlyS ⟨0, 309, 1, 6, 5⟩ two_names (by decide); rw [nm_f2] at h; exact h)) rfl (guard_none rfl) rfl (nb hn rfl) (fun _ => trivial) rfl rfl (by first | exact .refl _ | (repeat (first | exact .refl _ | exact .nil _ | refine .cons ?_ ?_ | refine .agg ?_ | refine .tup ?_)))) fun _ => ?_
     refine sq rfl rfl hn rfl (q_move rfl rfl) ?_
     refine sq rfl rfl hn rfl (q_extractd rfl rfl rfl) ?_
     refine sq rfl rfl hn rfl (q_extractd rfl rfl rfl) ?_
     refine sq rfl rfl hn rfl (q_assign rfl rfl) ?_
     refine sq rfl rfl hn rfl (q_assign rfl rfl) ?_
     refine run_nil (aend_then (awp_seq (awp_region ?_)))
     refine stepW (s_callE (two_vec) rfl rfl rfl (nb hn rfl) (.d rfl) rfl (.refl _) trivial (fun _ => rfl) (fun _ _ => trivial)) fun b1 => ?_
     refine stepW (s_callE (two_vec1) rfl rfl rfl (nb hn rfl) (.d rfl) rfl (.refl _) trivial (fun _ => rfl) (fun _ _ => trivial)) fun b2 => ?_
     refine stepW (s_call [] (fun _ => two_ok) rfl (guard_none rfl) rfl (nb hn rfl) (fun _ => trivial) rfl rfl (.refl _)) fun _ => ?_
     refine stepW (s_call [] (fun _ => two_ok) rfl (guard_none rfl) rfl (nb hn rfl) (fun _ => trivial) rfl rfl (.refl _)) fun _ => ?_
     refine stepW (s_alloc 20 rfl rfl rfl (nb hn rfl) zr33 rfl rfl) fun b20 => ?_
     refine stepW (s_alloc 21 rfl rfl rfl (nb hn rfl) zr33 rfl rfl) fun b21 => ?_
     refine stepW (s_alloc 22 rfl rfl rfl (nb hn rfl) zr33 rfl rfl) fun b22 => ?_
     refine stepW (s_alloc 23 rfl rfl rfl (nb hn rfl) zr33 rfl rfl) fun b23 => ?_
     refine stepW (s_store rfl rfl rfl rfl rfl rfl (id := 20) rfl sz33 rfl (Nat.le_of_ble_eq_true rfl) rfl trivial) fun _ => ?_
     refine stepW (s_store rfl rfl rfl rfl rfl rfl (id := 21) rfl sz33 rfl (Nat.le_of_ble_eq_true rfl) rfl trivial) fun _ => ?_
     refine stepW (s_store rfl rfl rfl rfl rfl rfl (id := 22) rfl sz33 rfl (Nat.le_of_ble_eq_true rfl) rfl trivial) fun _ => ?_
     refine stepW (s_store rfl rfl rfl rfl rfl rfl (id := 23) rfl sz33 rfl (Nat.le_of_ble_eq_true rfl) rfl trivial) fun _ => ?_
     refine run_nil (aend_then (awp_seq (awp_region ?_)))
     refine sq rfl rfl hn rfl (q_fieldAddr rfl rfl Tryz.underlying33 rfl sz31) ?_
     refine sq rfl rfl hn rfl (q_load rfl rfl (id := 20) rfl Tryz.underlying31 rfl rfl sees0) ?_
     refine sq rfl rfl hn rfl (q_indexV (i := 0) rfl rfl rfl Tryz.underlying31 sz117 rfl (by omega)) ?_
     refine sq rfl rfl hn rfl (q_fieldAddr rfl rfl Tryz.underlying117 rfl sz9) ?_
     refine stepW (s_store1 rfl rfl rfl rfl rfl rfl (id := 1101) rfl sz9 (Nat.le_of_ble_eq_true rfl) rfl trivial) fun _ => ?_
     refine run_nil (aend_then (awp_seq (awp_region ?_)))
     refine sq rfl rfl hn rfl (q_fieldAddr rfl rfl Tryz.underlying33 rfl sz31) ?_
     refine sq rfl rfl hn rfl (q_load rfl rfl (id := 21) rfl Tryz.underlying31 rfl rfl sees0) ?_
     refine sq rfl rfl hn rfl (q_indexV (i := 0) rfl rfl rfl Tryz.underlying31 sz117 rfl (by omega)) ?_
     refine sq rfl rfl hn rfl (q_fieldAddr rfl rfl Tryz.underlying117 rfl sz9) ?_
     refine stepW (s_store1 rfl rfl rfl rfl rfl rfl (id := 1102) rfl sz9 (Nat.le_of_ble_eq_true rfl) rfl trivial) fun _ => ?_
     refine run_nil (aend_then (awp_seq (awp_region ?_)))
     refine sq rfl rfl hn rfl (q_fieldAddr rfl rfl Tryz.underlying33 rfl sz3) ?_
     refine stepW (s_store1 rfl rfl rfl rfl rfl rfl (id := 22) rfl sz3 (Nat.le_of_ble_eq_true rfl) rfl trivial) fun _ => ?_
     refine run_nil (aend_then (awp_seq (awp_region ?_)))
     refine stepW (s_makeSlice (n := 5) 208 rfl rfl rfl (nb hn rfl) Tryz.underlying31 (show _ = some (some (.agg #[(.string ⟨#[]⟩), (.int .i64 0), (.int .i64 0)]), 3, 32) from by kernel_rfl) rfl rfl rfl (by decide) rfl rfl rfl rfl (by omega) (by omega) (by omega)) fun b208 => ?_
     refine sq rfl rfl hn rfl (q_fieldAddr rfl rfl Tryz.underlying33 rfl sz31) ?_
     refine stepW (s_store1 rfl rfl rfl rfl rfl rfl (id := 23) rfl sz31 (Nat.le_of_ble_eq_true rfl) rfl trivial) fun _ => ?_
     refine run_nil (aend_then (awp_seq ?_))
     refine gh_awp (gh_veccell (id := 20) (k := 0) (rid := 1101) (ds := (([⟨[67], 300, 310⟩, ⟨[67], 75, 79⟩] : List Stk).map stkE).flatten) (rest := []) (n := 2) (sz := 3) rfl rfl rfl rfl rfl (show _ = ([⟨[67], 300, 310⟩, ⟨[67], 75, 79⟩] : List Stk).map stkE from rfl) (Nat.le_refl _) (by decide)) ?_
     refine gh_awp (gh_veccell (id := 21) (k := 0) (rid := 1102) (ds := (([⟨[97, 66], 300, 310⟩, ⟨[67], 75, 79⟩] : List Stk).map stkE).flatten) (rest := []) (n := 2) (sz := 3) rfl rfl rfl rfl rfl (show _ = ([⟨[97, 66], 300, 310⟩, ⟨[67], 75, 79⟩] : List Stk).map stkE from rfl) (Nat.le_refl _) (by decide)) ?_
     refine gh_awp (gh_veccell (id := 23) (k := 0) (rid := 208) (ds := (((List.replicate 5 (⟨[], 0, 0⟩ : Stk)) : List Stk).map stkE).flatten) (rest := []) (n := 5) (sz := 3) rfl rfl rfl rfl rfl (show _ = ((List.replicate 5 (⟨[], 0, 0⟩ : Stk)) : List Stk).map stkE from rfl) (Nat.le_refl _) (by decide)) ?_
     refine awp_region ?_
     refine sq rfl rfl hn rfl (q_move rfl rfl) ?_
     refine sq rfl rfl hn rfl (q_eql rfl rfl rfl) ?_
     refine sq rfl rfl hn rfl (q_move rfl rfl) ?_
     refine stepG [] (guard_some rfl rfl rfl) rfl (nb hn rfl) (fun hc => trivial) (fun hc => q_move rfl rfl) ?_
     refine stepG [(213, _)] (guard_some rfl rfl rfl) rfl (nb hn rfl) (fun hc => ⟨⟨_, rfl, hc⟩, trivial⟩) (fun hc => q_eql rfl rfl rfl) ?_
     refine sq rfl rfl hn rfl (q_and rfl rfl rfl (by intro hB; first | (rw [hB]; rfl) | (rw [hB, hc]; rfl) | simp_all)) ?_
     refine sq rfl rfl hn rfl (q_move rfl rfl) ?_
     refine stepG [] (guard_some rfl rfl rfl) rfl (nb hn rfl) (fun hc => trivial) (fun hc => q_move rfl rfl) ?_
     refine stepG [(217, _)] (guard_some rfl rfl rfl) rfl (nb hn rfl) (fun hc => ⟨⟨_, rfl, hc⟩, trivial⟩) (fun hc => q_eql rfl rfl rfl) ?_
     refine sq rfl rfl hn rfl (q_and rfl rfl rfl (by intro hB; first | (rw [hB]; rfl) | (rw [hB, hc]; rfl) | simp_all)) ?_
     refine sq rfl rfl hn rfl (q_move rfl rfl) ?_
     refine stepG [] (guard_some rfl rfl rfl) rfl (nb hn rfl) (fun hc => trivial) (fun hc => q_move rfl rfl) ?_
     refine stepG [(221, _)] (guard_some rfl rfl rfl) rfl (nb hn rfl) (fun hc => ⟨⟨_, rfl, hc⟩, trivial⟩) (fun hc => q_eql rfl rfl rfl) ?_
     refine sq rfl rfl hn rfl (q_and rfl rfl rfl (by intro hB; first | (rw [hB]; rfl) | (rw [hB, hc]; rfl) | simp_all)) ?_
     refine sq rfl rfl hn rfl (q_move rfl rfl) ?_
     refine stepG [] (guard_some rfl rfl rfl) rfl (nb hn rfl) (fun hc => trivial) (fun hc => q_move rfl rfl) ?_
     refine stepG [(225, _)] (guard_some rfl rfl rfl) rfl (nb hn rfl) (fun hc => ⟨⟨_, rfl, hc⟩, trivial⟩) (fun hc => q_eql rfl rfl rfl) ?_
     refine sq rfl rfl hn rfl (q_and rfl rfl rfl (by intro hB; first | (rw [hB]; rfl) | (rw [hB, hc]; rfl) | simp_all)) ?_
     refine sq rfl rfl hn rfl (q_move rfl rfl) ?_
     refine stepG [] (guard_some rfl rfl rfl) rfl (nb hn rfl) (fun hc => trivial) (fun hc => q_move rfl rfl) ?_
     refine stepG [(229, _)] (guard_some rfl rfl rfl) rfl (nb hn rfl) (fun hc => ⟨⟨_, rfl, hc⟩, trivial⟩) (fun hc => q_eql rfl rfl rfl) ?_
     refine sq rfl rfl hn rfl (q_and rfl rfl rfl (by intro hB; first | (rw [hB]; rfl) | (rw [hB, hc]; rfl) | simp_all)) ?_
     refine sq rfl rfl hn rfl (q_move rfl rfl) ?_
     refine stepG [] (guard_some rfl rfl rfl) rfl (nb hn rfl) (fun hc => trivial) (fun hc => q_move rfl rfl) ?_
     refine stepG [(233, _)] (guard_some rfl rfl rfl) rfl (nb hn rfl) (fun hc => ⟨⟨_, rfl, hc⟩, trivial⟩) (fun hc => q_eql rfl rfl rfl) ?_
     refine sq rfl rfl hn rfl (q_and rfl rfl rfl (by intro hB; first | (rw [hB]; rfl) | (rw [hB, hc]; rfl) | simp_all)) ?_
     refine sq rfl rfl hn rfl (q_move rfl rfl) ?_
     refine stepG [] (guard_some rfl rfl rfl) rfl (nb hn rfl) (fun hc => trivial) (fun hc => q_loadAd rfl rfl (id := 20) rfl Tryz.underlying33 rfl sz33 rfl rfl sees0) ?_
     refine stepW (s_call [(237, _)] (fun hc => (by have h := CheckBoard_ok ⟨[⟨[67], 300, 310⟩, ⟨[67], 75, 79⟩], 10, 4⟩ (nm_ok (by decide)); rw [show checkT ⟨[⟨[67], 300, 310⟩, ⟨[67], 75, 79⟩], 10, 4⟩ = 1 from by kernel_rfl] at h; exact h)) rfl (guard_some rfl rfl rfl) rfl (nb hn rfl) (fun hc => ⟨⟨_, rfl, hc⟩, trivial⟩) rfl rfl (.refl _)) fun _ => ?_
     refine stepG [(238, _)] (guard_some rfl rfl rfl) rfl (nb hn rfl) (fun hc => ⟨⟨_, rfl, hc⟩, trivial⟩) (fun hc => q_eql rfl rfl rfl) ?_
     refine sq rfl rfl hn rfl (q_and rfl rfl rfl (by intro hB; first | (rw [hB]; rfl) | (rw [hB, hc]; rfl) | simp_all)) ?_
     refine sq rfl rfl hn rfl (q_move rfl rfl) ?_
     refine stepG [] (guard_some rfl rfl rfl) rfl (nb hn rfl) (fun hc => trivial) (fun hc => q_loadAd rfl rfl (id := 21) rfl Tryz.underlying33 rfl sz33 rfl rfl sees0) ?_
     refine stepW (s_call [(242, _)] (fun hc => (by have h := CheckBoard_ok ⟨[⟨[97, 66], 300, 310⟩, ⟨[67], 75, 79⟩], 10, 4⟩ (nm_ok (by decide)); rw [show checkT ⟨[⟨[97, 66], 300, 310⟩, ⟨[67], 75, 79⟩], 10, 4⟩ = 1 from by kernel_rfl] at h; exact h)) rfl (guard_some rfl rfl rfl) rfl (nb hn rfl) (fun hc => ⟨⟨_, rfl, hc⟩, trivial⟩) rfl rfl (.refl _)) fun _ => ?_
     refine stepG [(243, _)] (guard_some rfl rfl rfl) rfl (nb hn rfl) (fun hc => ⟨⟨_, rfl, hc⟩, trivial⟩) (fun hc => q_eql rfl rfl rfl) ?_
     refine sq rfl rfl hn rfl (q_and rfl rfl rfl (by intro hB; first | (rw [hB]; rfl) | (rw [hB, hc]; rfl) | simp_all)) ?_
     refine sq rfl rfl hn rfl (q_move rfl rfl) ?_
     refine stepG [] (guard_some rfl rfl rfl) rfl (nb hn rfl) (fun hc => trivial) (fun hc => q_loadAd rfl rfl (id := 22) rfl Tryz.underlying33 rfl sz33 rfl rfl sees0) ?_
     refine stepW (s_call [(247, _)] (fun hc => (by have h := CheckBoard_ok ⟨[⟨[65, 66], 300, 310⟩, ⟨[67], 75, 79⟩], 41, 4⟩ (nm_ok (by decide)); rw [show checkT ⟨[⟨[65, 66], 300, 310⟩, ⟨[67], 75, 79⟩], 41, 4⟩ = 1 from by kernel_rfl] at h; exact h)) rfl (guard_some rfl rfl rfl) rfl (nb hn rfl) (fun hc => ⟨⟨_, rfl, hc⟩, trivial⟩) rfl rfl (.refl _)) fun _ => ?_
     refine stepG [(248, _)] (guard_some rfl rfl rfl) rfl (nb hn rfl) (fun hc => ⟨⟨_, rfl, hc⟩, trivial⟩) (fun hc => q_eql rfl rfl rfl) ?_
     refine sq rfl rfl hn rfl (q_and rfl rfl rfl (by intro hB; first | (rw [hB]; rfl) | (rw [hB, hc]; rfl) | simp_all)) ?_
     refine sq rfl rfl hn rfl (q_move rfl rfl) ?_
     refine stepG [] (guard_some rfl rfl rfl) rfl (nb hn rfl) (fun hc => trivial) (fun hc => q_loadAd rfl rfl (id := 23) rfl Tryz.underlying33 rfl sz33 rfl rfl sees0) ?_
     refine stepW (s_call [(252, _)] (fun hc => (by have h := CheckBoard_ok ⟨List.replicate 5 ⟨[], 0, 0⟩, 10, 4⟩ (nm_ok (by decide)); rw [show checkT ⟨List.replicate 5 ⟨[], 0, 0⟩, 10, 4⟩ = 3 from by kernel_rfl] at h; exact h)) rfl (guard_some rfl rfl rfl) rfl (nb hn rfl) (fun hc => ⟨⟨_, rfl, hc⟩, trivial⟩) rfl rfl (.refl _)) fun _ => ?_
     refine stepG [(253, _)] (guard_some rfl rfl rfl) rfl (nb hn rfl) (fun hc => ⟨⟨_, rfl, hc⟩, trivial⟩) (fun hc => q_eql rfl rfl rfl) ?_
     refine sq rfl rfl hn rfl (q_and rfl rfl rfl (by intro hB; first | (rw [hB]; rfl) | (rw [hB, hc]; rfl) | simp_all)) ?_
     refine sq rfl rfl hn rfl (q_move rfl rfl) ?_
     refine stepG [] (guard_some rfl rfl rfl) rfl (nb hn rfl) (fun hc => trivial) (fun hc => q_buildd rfl bt33 rfl rfl rfl rfl rfl) ?_
     refine stepW (s_call [(257, _)] (fun hc => (by have h := CheckBoard_ok ⟨[], 0, 0⟩ (nm_ok (by decide)); rw [show checkT ⟨[], 0, 0⟩ = 1 from by kernel_rfl] at h; exact h)) rfl (guard_some rfl rfl rfl) rfl (nb hn rfl) (fun hc => ⟨⟨_, rfl, hc⟩, trivial⟩) rfl rfl (by first | exact .refl _ | (repeat (first | exact .refl _ | exact .nil _ | refine .cons ?_ ?_ | refine .agg ?_ | refine .tup ?_)))) fun _ => ?_
     refine stepG [(258, _)] (guard_some rfl rfl rfl) rfl (nb hn rfl) (fun hc => ⟨⟨_, rfl, hc⟩, trivial⟩) (fun hc => q_eql rfl rfl rfl) ?_
     refine sq rfl rfl hn rfl (q_and rfl rfl rfl (by intro hB; first | (rw [hB]; rfl) | (rw [hB, hc]; rfl) | simp_all)) ?_
     refine sq rfl rfl hn rfl (q_move rfl rfl) ?_
     refine stepW (s_call [] (fun hc => awake_ok) rfl (guard_some rfl rfl rfl) rfl (nb hn rfl) (fun hc => trivial) rfl rfl (.refl _)) fun _ => ?_
     refine sq rfl rfl hn rfl (q_and rfl rfl rfl (by intro hB; first | (rw [hB]; rfl) | (rw [hB, hc]; rfl) | simp_all)) ?_
     refine sq rfl rfl hn rfl (q_assign rfl rfl) ?_
     refine run_nil (aend_then (awp_ret ?_))
     exact ret_E (.inl rfl) () ((hands_1 rfl (.tmp rfl)).eq (by rfl)) trivial
  ·
   refine br rfl (s_guard (guard_some rfl rfl rfl) rfl (nb hn rfl) (s_buildSlice rfl rfl rfl (nb hn rfl) Tryz.underlying57 sz3 zr3 rfl rfl rfl (show _ = [.d (.int .i64 0), .d (.int .i64 0), .d (.int .i64 0)] from by kernel_rfl) (by kernel_rfl) rfl rfl rfl rfl rfl)) fun _ => ?_
   refine d2_of_d1 (d1_of_d2 ?_)
   refine d2_one (i := 77) (by kernel_rfl) rfl (s_call [] (fun hc => two_ok) rfl (guard_some rfl rfl rfl) rfl (nb hn rfl) (fun hc => trivial) rfl rfl (.refl _)) fun _ => ?_
   refine d2_of_d1 (d1_of_d2 ?_)
   refine d2_one (i := 79) (by kernel_rfl) rfl (s_call [(126, _), (127, _)] (fun hc => (by have h := ProveTruth_ok twoB earlyS [306, 309, 81] two_names (by decide); rw [nm_pv2] at h; exact h)) rfl (guard_some rfl rfl rfl) rfl (nb hn rfl) (fun hc => ⟨⟨_, rfl, hc⟩, ⟨_, rfl, hc⟩, trivial⟩) rfl rfl (.refl _)) fun _ => ?_
   refine d2_of_d1 ?_
   refine d1q (i := 80) rfl (by kernel_rfl) (fun _ _ _ _ h => h) rfl rfl hn rfl (q_or rfl rfl rfl (by intro hB; first | (rw [hB]; rfl) | (rw [hB, hc]; rfl) | simp_all)) ?_
   refine d1_of_d2 ?_
   refine d2_done (by kernel_rfl) ?_
   refine aend_then ?_
   refine awp_cond rfl (fun hb3 => ?_) (fun hb3 => ?_)
   ·
    exact absurd (show false = true from hb3) (by decide)
   ·
    refine awp_skip (aend_then (awp_seq (awp_region ?_)))
    refine sq rfl rfl hn rfl (q_buildd rfl bt113 rfl rfl rfl rfl rfl) ?_
    refine stepW (s_alloc 11 rfl rfl rfl (nb hn rfl) zr113 rfl rfl) fun b11 => ?_
    refine stepW (s_store rfl rfl rfl rfl rfl rfl (id := 11) rfl sz113 rfl (Nat.le_of_ble_eq_true rfl) rfl trivial) fun _ => ?_
    refine run_nil (aend_then (awp_seq (awp_region ?_)))
    refine sq rfl rfl hn rfl (q_buildd rfl bt114 rfl rfl rfl rfl rfl) ?_
    refine stepW (s_alloc 12 rfl rfl rfl (nb hn rfl) zr114 rfl rfl) fun b12 => ?_
    refine stepW (s_store rfl rfl rfl rfl rfl rfl (id := 12) rfl sz114 rfl (Nat.le_of_ble_eq_true rfl) rfl trivial) fun _ => ?_
    refine run_nil (aend_then (awp_seq (awp_seq (awp_region ?_))))
    refine sq rfl rfl hn rfl (q_assign rfl rfl) ?_
    refine run_nil (aend_then (awp_block ?_))
    refine awp_loop_on (ι := {k : Nat // k ≤ 13}) (fun x => (13, true, .d (.int .i64 (x.1 : Nat))) :: anys [132, 133, 137, 138, 139, 140, 141, 136, 142, 143, 14, 15, 144, 145, 146, 147, 148, 149, 150, 151, 152, 153, 134, 135]) (fun x => [(11, .box b11 113 (nmW.map fun w => TV.d (strD w))), (12, .box b12 114 (nmE.map fun e => TV.d (.int .i64 e)))]) (fun x => 13 - x.1) ⟨0, Nat.zero_le _⟩ ⟨.inl rfl, holdT_anys _⟩ ⟨.inl rfl, .inl rfl, trivial⟩ ?_
    rintro ⟨k, hk⟩
    dsimp only
    refine awp_seq (awp_seq (awp_region ?_))
    refine sq rfl rfl hn rfl (q_move rfl rfl) ?_
    refine sq rfl rfl hn rfl (q_lss rfl rfl rfl) ?_
    refine run_nil (aend_then ?_)
    refine awp_cond rfl (fun hb4 => ?_) (fun hb4 => ?_)
    ·
     have hkl : k < 13 := by have h := of_decide_eq_true hb4; omega
     obtain ⟨w, hw⟩ := ex_get (show k < nmW.length from hkl)
     obtain ⟨e, he, hrd⟩ := nm_read k w hw
     have hwl : w.length ≤ 100 := nm_len (List.mem_of_getElem? hw)
     refine awp_skip (aend_then (awp_seq (awp_block (awp_seq ?_))))
     refine d_start (W := fun b => b ≠ b11) fmo ?_
     refine d1q (i := 1) rfl (by kernel_rfl) (fun _ _ _ _ h => h) rfl rfl hn rfl (q_move rfl rfl) ?_
     refine d1q (i := 2) rfl (by kernel_rfl) (fun _ _ _ _ h => h) rfl rfl hn rfl (q_indexA (i := k) rfl rfl rfl Tryz.underlying113 sz9 rfl (by omega)) ?_
     refine d1q (i := 3) rfl (by kernel_rfl) (fun _ _ _ _ h => h) rfl rfl hn rfl (q_load rfl rfl (id := 11) rfl Tryz.underlying9 rfl (nm_cell hw) (seesA (by simp))) ?_
     refine d1_of_d2 ?_
     refine d2_one (i := 0) (by kernel_rfl) rfl (s_call [] (fun _ => two_ok) rfl (guard_none rfl) rfl (nb hn rfl) (fun _ => trivial) rfl rfl (.refl _)) fun _ => ?_
     refine d2_of_d1 (d1_of_d2 ?_)
     refine d2_one (i := 4) (by kernel_rfl) rfl (s_call [] (fun _ => (by have h := Read_ok twoB w two_names (by omega); rw [hrd] at h; exact h)) rfl (guard_none rfl) rfl (nb hn rfl) (fun _ => trivial) rfl rfl (.refl _)) fun _ => ?_
     refine d2_of_d1 ?_
     refine d1q (i := 5) rfl (by kernel_rfl) (fun _ _ _ _ h => h) rfl rfl hn rfl (q_move rfl rfl) ?_
     refine d1q (i := 6) rfl (by kernel_rfl) (fun _ _ _ _ h => h) rfl rfl hn rfl (q_extractd rfl rfl rfl) ?_
     refine d1q (i := 7) rfl (by kernel_rfl) (fun _ _ _ _ h => h) rfl rfl hn rfl (q_extractd rfl rfl rfl) ?_
     refine d1q (i := 8) rfl (by kernel_rfl) (fun _ _ _ _ h => h) rfl rfl hn rfl (q_assign rfl rfl) ?_
     refine d1q (i := 9) rfl (by kernel_rfl) (fun _ _ _ _ h => h) rfl rfl hn rfl (q_assign rfl rfl) ?_
     refine d1_of_d2 ?_
     refine d2_done (by kernel_rfl) ?_
     refine aend_then (awp_seq (awp_region ?_))
     refine sq rfl rfl hn rfl (q_move rfl rfl) ?_
     refine sq rfl rfl hn rfl (q_move rfl rfl) ?_
     refine sq rfl rfl hn rfl (q_indexA (i := k) rfl rfl rfl Tryz.underlying114 sz28 rfl (by omega)) ?_
     refine sq rfl rfl hn rfl (q_load rfl rfl (id := 12) rfl Tryz.underlying28 rfl (nm_cellE he) sees0) ?_
     refine sq rfl rfl hn rfl (q_neq rfl rfl rfl) ?_
     refine sq rfl rfl hn rfl (q_move rfl rfl) ?_
     refine stepG [] (guard_some rfl rfl rfl) rfl (nb hn rfl) (fun hc => trivial) (fun hc => q_move rfl rfl) ?_
     refine stepG [(150, _)] (guard_some rfl rfl rfl) rfl (nb hn rfl) (fun hc => ⟨⟨_, rfl, hc⟩, trivial⟩) (fun hc => q_len rfl rfl Tryz.underlying27) ?_
     refine stepG [(151, _)] (guard_some rfl rfl rfl) rfl (nb hn rfl) (fun hc => ⟨⟨_, rfl, hc⟩, trivial⟩) (fun hc => q_neq rfl rfl rfl) ?_
     refine sq rfl rfl hn rfl (q_or rfl rfl rfl (by intro hB; first | (rw [hB]; rfl) | (rw [hB, hc]; rfl) | simp_all)) ?_
     refine run_nil (aend_then ?_)
     refine awp_cond rfl (fun hb5 => ?_) (fun hb5 => ?_)
     ·
      exact absurd hb5 (by simp)
     ·
      refine awp_skip (aend_block (aend_then (awp_region ?_)))
      refine sq rfl rfl hn rfl (q_move rfl rfl) ?_
      refine sq rfl rfl hn rfl (q_add rfl rfl rfl (r := ((k + 1 : Nat) : Int)) (i64w (by omega) (by omega))) ?_
      refine sq rfl rfl hn rfl (q_assign rfl rfl) ?_
      refine run_nil ?_
      exact aend_round_on ⟨k + 1, by omega⟩ ⟨.inl rfl, holdT_anys _⟩ ⟨.inl rfl, .inl rfl, trivial⟩ (by simp only; omega) (by repeat (first | exact kr _ | refine kc rfl ?_)) (by repeat (first | exact kr _ | refine kc rfl ?_))
    ·
     refine awp_exit (aend_then_exit (aend_then_exit (aend_block_exit (aend_then (awp_seq (awp_region ?_))))))
     refine stepW (s_call [] (fun _ => two_ok) rfl (guard_none rfl) rfl (nb hn rfl) (fun _ => trivial) rfl rfl (.refl _)) fun _ => ?_
     refine stepW (s_call [] (fun _ => (by have h := Minutes_ok twoB earlyS two_names (by decide); rw [nm_min] at h; exact h)) rfl (guard_none rfl) rfl (nb hn rfl) (fun _ => trivial) rfl rfl (.refl _)) fun _ => ?_
     refine sq rfl rfl hn rfl (q_move rfl rfl) ?_
     refine sq rfl rfl hn rfl (q_extractd rfl rfl rfl) ?_
     refine sq rfl rfl hn rfl (q_extractd rfl rfl rfl) ?_
     refine sq rfl rfl hn rfl (q_assign rfl rfl) ?_
     refine run_nil (aend_then (awp_seq (awp_region ?_)))
     refine stepW (s_call [] (fun _ => two_ok) rfl (guard_none rfl) rfl (nb hn rfl) (fun _ => trivial) rfl rfl (.refl _)) fun _ => ?_
     refine stepW (s_call [] (fun _ => (by have h := Prices_ok twoB nm3 two_names (by decide); rw [nm_pr3] at h; exact h)) rfl (guard_none rfl) rfl (nb hn rfl) (fun _ => trivial) rfl rfl (.refl _)) fun _ => ?_
     refine sq rfl rfl hn rfl (q_move rfl rfl) ?_
     refine sq rfl rfl hn rfl (q_extractd rfl rfl rfl) ?_
     refine sq rfl rfl hn rfl (q_extractd rfl rfl rfl) ?_
     refine sq rfl rfl hn rfl (q_assign rfl rfl) ?_
     refine run_nil (aend_then (awp_seq (awp_region ?_)))
     refine stepW (s_call [] (fun _ => two_ok) rfl (guard_none rfl) rfl (nb hn rfl) (fun _ => trivial) rfl rfl (.refl _)) fun _ => ?_
     refine stepW (s_call [] (fun _ => (by have h := Read_ok twoB nm9 two_names (by decide); rw [nm_r9s] at h; exact h)) rfl (guard_none rfl) rfl (nb hn rfl) (fun _ => trivial) rfl rfl (.refl _)) fun _ => ?_
     refine sq rfl rfl hn rfl (q_move rfl rfl) ?_
     refine sq rfl rfl hn rfl (q_extractd rfl rfl rfl) ?_
     refine sq rfl rfl hn rfl (q_extractd rfl rfl rfl) ?_
     refine sq rfl rfl hn rfl (q_assign rfl rfl) ?_
     refine run_nil (aend_then (awp_seq (awp_region ?_)))
     refine stepW (s_call [] (fun _ => two_ok) rfl (guard_none rfl) rfl (nb hn rfl) (fun _ => trivial) rfl rfl (.refl _)) fun _ => ?_
     refine sq rfl rfl hn rfl (q_buildd rfl bt115 rfl rfl rfl rfl rfl) ?_
     refine stepW (s_buildSlice rfl rfl rfl (nb hn rfl) Tryz.underlying73 sz115 zr115 rfl rfl rfl (show _ = [.d (.int .i64 0), .d (.int .i64 0), .d (.int .i64 0), .d (.int .i64 0)] from by kernel_rfl) (by kernel_rfl) rfl rfl rfl rfl rfl) fun _ => ?_
     refine stepW (s_call [] (fun _ => (by have h := Write_ok twoB [⟨0, 1, 800, 0⟩] two_names; rw [nm_wr8] at h; exact h)) rfl (guard_none rfl) rfl (nb hn rfl) (fun _ => trivial) rfl rfl (.refl _)) fun _ => ?_
     refine sq rfl rfl hn rfl (q_move rfl rfl) ?_
     refine sq rfl rfl hn rfl (q_extractd rfl rfl rfl) ?_
     refine sq rfl rfl hn rfl (q_extractd rfl rfl rfl) ?_
     refine sq rfl rfl hn rfl (q_assign rfl rfl) ?_
     refine run_nil (aend_then (awp_seq (awp_region ?_)))
     refine stepW (s_call [] (fun _ => two_ok) rfl (guard_none rfl) rfl (nb hn rfl) (fun _ => trivial) rfl rfl (.refl _)) fun _ => ?_
     refine stepW (s_call [] (fun _ => (by have h := Show_ok twoB earlyS 4 false two_names (by decide); rw [nm_show4] at h; exact h)) rfl (guard_none rfl) rfl (nb hn rfl) (fun _ => trivial) rfl rfl (.refl _)) fun _ => ?_
     refine sq rfl rfl hn rfl (q_move rfl rfl) ?_
     refine sq rfl rfl hn rfl (q_extractd rfl rfl rfl) ?_
     refine sq rfl rfl hn rfl (q_extractd rfl rfl rfl) ?_
     refine sq rfl rfl hn rfl (q_assign rfl rfl) ?_
     refine run_nil (aend_then (awp_seq (awp_region ?_)))
     refine stepW (s_call [] (fun _ => two_ok) rfl (guard_none rfl) rfl (nb hn rfl) (fun _ => trivial) rfl rfl (.refl _)) fun _ => ?_
     refine stepW (s_call [] (fun _ => between_ok _ _) rfl (guard_none rfl) rfl (nb hn rfl) (fun _ => trivial) rfl rfl (.refl _)) fun _ => ?_
     refine sq rfl rfl hn rfl (q_buildd rfl bt61 rfl rfl rfl rfl rfl) ?_
     refine stepW (s_call [] (fun _ => (by have h := Find_ok twoB earlyS ⟨0, 309, 1, 6, 9⟩ two_names (by decide); rw [nm_f1] at h; exact h)) rfl (guard_none rfl) rfl (nb hn rfl) (fun _ => trivial) rfl rfl (by first | exact .refl _ | (repeat (first | exact .refl _ | exact .nil _ | refine .cons ?_ ?_ | refine .agg ?_ | refine .tup ?_)))) fun _ => ?_
     refine sq rfl rfl hn rfl (q_move rfl rfl) ?_
     refine sq rfl rfl hn rfl (q_extractd rfl rfl rfl) ?_
     refine sq rfl rfl hn rfl (q_extractd rfl rfl rfl) ?_
     refine sq rfl rfl hn rfl (q_assign rfl rfl) ?_
     refine sq rfl rfl hn rfl (q_assign rfl rfl) ?_
     refine run_nil (aend_then (awp_seq (awp_region ?_)))
     refine stepW (s_call [] (fun _ => two_ok) rfl (guard_none rfl) rfl (nb hn rfl) (fun _ => trivial) rfl rfl (.refl _)) fun _ => ?_
     refine stepW (s_call [] (fun _ => between_ok _ _) rfl (guard_none rfl) rfl (nb hn rfl) (fun _ => trivial) rfl rfl (.refl _)) fun _ => ?_
     refine sq rfl rfl hn rfl (q_buildd rfl bt61 rfl rfl rfl rfl rfl) ?_
     refine stepW (s_call [] (fun _ => (by have h := Find_ok twoB earlyS ⟨0, 309, 1, 6, 5⟩ two_names (by decide); rw [nm_f2] at h; exact h)) rfl (guard_none rfl) rfl (nb hn rfl) (fun _ => trivial) rfl rfl (by first | exact .refl _ | (repeat (first | exact .refl _ | exact .nil _ | refine .cons ?_ ?_ | refine .agg ?_ | refine .tup ?_)))) fun _ => ?_
     refine sq rfl rfl hn rfl (q_move rfl rfl) ?_
     refine sq rfl rfl hn rfl (q_extractd rfl rfl rfl) ?_
     refine sq rfl rfl hn rfl (q_extractd rfl rfl rfl) ?_
     refine sq rfl rfl hn rfl (q_assign rfl rfl) ?_
     refine sq rfl rfl hn rfl (q_assign rfl rfl) ?_
     refine run_nil (aend_then (awp_seq (awp_region ?_)))
     refine stepW (s_callE (two_vec) rfl rfl rfl (nb hn rfl) (.d rfl) rfl (.refl _) trivial (fun _ => rfl) (fun _ _ => trivial)) fun b1 => ?_
     refine stepW (s_callE (two_vec1) rfl rfl rfl (nb hn rfl) (.d rfl) rfl (.refl _) trivial (fun _ => rfl) (fun _ _ => trivial)) fun b2 => ?_
     refine stepW (s_call [] (fun _ => two_ok) rfl (guard_none rfl) rfl (nb hn rfl) (fun _ => trivial) rfl rfl (.refl _)) fun _ => ?_
     refine stepW (s_call [] (fun _ => two_ok) rfl (guard_none rfl) rfl (nb hn rfl) (fun _ => trivial) rfl rfl (.refl _)) fun _ => ?_
     refine stepW (s_alloc 20 rfl rfl rfl (nb hn rfl) zr33 rfl rfl) fun b20 => ?_
     refine stepW (s_alloc 21 rfl rfl rfl (nb hn rfl) zr33 rfl rfl) fun b21 => ?_
     refine stepW (s_alloc 22 rfl rfl rfl (nb hn rfl) zr33 rfl rfl) fun b22 => ?_
     refine stepW (s_alloc 23 rfl rfl rfl (nb hn rfl) zr33 rfl rfl) fun b23 => ?_
     refine stepW (s_store rfl rfl rfl rfl rfl rfl (id := 20) rfl sz33 rfl (Nat.le_of_ble_eq_true rfl) rfl trivial) fun _ => ?_
     refine stepW (s_store rfl rfl rfl rfl rfl rfl (id := 21) rfl sz33 rfl (Nat.le_of_ble_eq_true rfl) rfl trivial) fun _ => ?_
     refine stepW (s_store rfl rfl rfl rfl rfl rfl (id := 22) rfl sz33 rfl (Nat.le_of_ble_eq_true rfl) rfl trivial) fun _ => ?_
     refine stepW (s_store rfl rfl rfl rfl rfl rfl (id := 23) rfl sz33 rfl (Nat.le_of_ble_eq_true rfl) rfl trivial) fun _ => ?_
     refine run_nil (aend_then (awp_seq (awp_region ?_)))
     refine sq rfl rfl hn rfl (q_fieldAddr rfl rfl Tryz.underlying33 rfl sz31) ?_
     refine sq rfl rfl hn rfl (q_load rfl rfl (id := 20) rfl Tryz.underlying31 rfl rfl sees0) ?_
     refine sq rfl rfl hn rfl (q_indexV (i := 0) rfl rfl rfl Tryz.underlying31 sz117 rfl (by omega)) ?_
     refine sq rfl rfl hn rfl (q_fieldAddr rfl rfl Tryz.underlying117 rfl sz9) ?_
     refine stepW (s_store1 rfl rfl rfl rfl rfl rfl (id := 1101) rfl sz9 (Nat.le_of_ble_eq_true rfl) rfl trivial) fun _ => ?_
     refine run_nil (aend_then (awp_seq (awp_region ?_)))
     refine sq rfl rfl hn rfl (q_fieldAddr rfl rfl Tryz.underlying33 rfl sz31) ?_
     refine sq rfl rfl hn rfl (q_load rfl rfl (id := 21) rfl Tryz.underlying31 rfl rfl sees0) ?_
     refine sq rfl rfl hn rfl (q_indexV (i := 0) rfl rfl rfl Tryz.underlying31 sz117 rfl (by omega)) ?_
     refine sq rfl rfl hn rfl (q_fieldAddr rfl rfl Tryz.underlying117 rfl sz9) ?_
     refine stepW (s_store1 rfl rfl rfl rfl rfl rfl (id := 1102) rfl sz9 (Nat.le_of_ble_eq_true rfl) rfl trivial) fun _ => ?_
     refine run_nil (aend_then (awp_seq (awp_region ?_)))
     refine sq rfl rfl hn rfl (q_fieldAddr rfl rfl Tryz.underlying33 rfl sz3) ?_
     refine stepW (s_store1 rfl rfl rfl rfl rfl rfl (id := 22) rfl sz3 (Nat.le_of_ble_eq_true rfl) rfl trivial) fun _ => ?_
     refine run_nil (aend_then (awp_seq (awp_region ?_)))
     refine stepW (s_makeSlice (n := 5) 208 rfl rfl rfl (nb hn rfl) Tryz.underlying31 (show _ = some (some (.agg #[(.string ⟨#[]⟩), (.int .i64 0), (.int .i64 0)]), 3, 32) from by kernel_rfl) rfl rfl rfl (by decide) rfl rfl rfl rfl (by omega) (by omega) (by omega)) fun b208 => ?_
     refine sq rfl rfl hn rfl (q_fieldAddr rfl rfl Tryz.underlying33 rfl sz31) ?_
     refine stepW (s_store1 rfl rfl rfl rfl rfl rfl (id := 23) rfl sz31 (Nat.le_of_ble_eq_true rfl) rfl trivial) fun _ => ?_
     refine run_nil (aend_then (awp_seq ?_))
     refine gh_awp (gh_veccell (id := 20) (k := 0) (rid := 1101) (ds := (([⟨[67], 300, 310⟩, ⟨[67], 75, 79⟩] : List Stk).map stkE).flatten) (rest := []) (n := 2) (sz := 3) rfl rfl rfl rfl rfl (show _ = ([⟨[67], 300, 310⟩, ⟨[67], 75, 79⟩] : List Stk).map stkE from rfl) (Nat.le_refl _) (by decide)) ?_
     refine gh_awp (gh_veccell (id := 21) (k := 0) (rid := 1102) (ds := (([⟨[97, 66], 300, 310⟩, ⟨[67], 75, 79⟩] : List Stk).map stkE).flatten) (rest := []) (n := 2) (sz := 3) rfl rfl rfl rfl rfl (show _ = ([⟨[97, 66], 300, 310⟩, ⟨[67], 75, 79⟩] : List Stk).map stkE from rfl) (Nat.le_refl _) (by decide)) ?_
     refine gh_awp (gh_veccell (id := 23) (k := 0) (rid := 208) (ds := (((List.replicate 5 (⟨[], 0, 0⟩ : Stk)) : List Stk).map stkE).flatten) (rest := []) (n := 5) (sz := 3) rfl rfl rfl rfl rfl (show _ = ((List.replicate 5 (⟨[], 0, 0⟩ : Stk)) : List Stk).map stkE from rfl) (Nat.le_refl _) (by decide)) ?_
     refine awp_region ?_
     refine sq rfl rfl hn rfl (q_move rfl rfl) ?_
     refine sq rfl rfl hn rfl (q_eql rfl rfl rfl) ?_
     refine sq rfl rfl hn rfl (q_move rfl rfl) ?_
     refine stepG [] (guard_some rfl rfl rfl) rfl (nb hn rfl) (fun hc => trivial) (fun hc => q_move rfl rfl) ?_
     refine stepG [(213, _)] (guard_some rfl rfl rfl) rfl (nb hn rfl) (fun hc => ⟨⟨_, rfl, hc⟩, trivial⟩) (fun hc => q_eql rfl rfl rfl) ?_
     refine sq rfl rfl hn rfl (q_and rfl rfl rfl (by intro hB; first | (rw [hB]; rfl) | (rw [hB, hc]; rfl) | simp_all)) ?_
     refine sq rfl rfl hn rfl (q_move rfl rfl) ?_
     refine stepG [] (guard_some rfl rfl rfl) rfl (nb hn rfl) (fun hc => trivial) (fun hc => q_move rfl rfl) ?_
     refine stepG [(217, _)] (guard_some rfl rfl rfl) rfl (nb hn rfl) (fun hc => ⟨⟨_, rfl, hc⟩, trivial⟩) (fun hc => q_eql rfl rfl rfl) ?_
     refine sq rfl rfl hn rfl (q_and rfl rfl rfl (by intro hB; first | (rw [hB]; rfl) | (rw [hB, hc]; rfl) | simp_all)) ?_
     refine sq rfl rfl hn rfl (q_move rfl rfl) ?_
     refine stepG [] (guard_some rfl rfl rfl) rfl (nb hn rfl) (fun hc => trivial) (fun hc => q_move rfl rfl) ?_
     refine stepG [(221, _)] (guard_some rfl rfl rfl) rfl (nb hn rfl) (fun hc => ⟨⟨_, rfl, hc⟩, trivial⟩) (fun hc => q_eql rfl rfl rfl) ?_
     refine sq rfl rfl hn rfl (q_and rfl rfl rfl (by intro hB; first | (rw [hB]; rfl) | (rw [hB, hc]; rfl) | simp_all)) ?_
     refine sq rfl rfl hn rfl (q_move rfl rfl) ?_
     refine stepG [] (guard_some rfl rfl rfl) rfl (nb hn rfl) (fun hc => trivial) (fun hc => q_move rfl rfl) ?_
     refine stepG [(225, _)] (guard_some rfl rfl rfl) rfl (nb hn rfl) (fun hc => ⟨⟨_, rfl, hc⟩, trivial⟩) (fun hc => q_eql rfl rfl rfl) ?_
     refine sq rfl rfl hn rfl (q_and rfl rfl rfl (by intro hB; first | (rw [hB]; rfl) | (rw [hB, hc]; rfl) | simp_all)) ?_
     refine sq rfl rfl hn rfl (q_move rfl rfl) ?_
     refine stepG [] (guard_some rfl rfl rfl) rfl (nb hn rfl) (fun hc => trivial) (fun hc => q_move rfl rfl) ?_
     refine stepG [(229, _)] (guard_some rfl rfl rfl) rfl (nb hn rfl) (fun hc => ⟨⟨_, rfl, hc⟩, trivial⟩) (fun hc => q_eql rfl rfl rfl) ?_
     refine sq rfl rfl hn rfl (q_and rfl rfl rfl (by intro hB; first | (rw [hB]; rfl) | (rw [hB, hc]; rfl) | simp_all)) ?_
     refine sq rfl rfl hn rfl (q_move rfl rfl) ?_
     refine stepG [] (guard_some rfl rfl rfl) rfl (nb hn rfl) (fun hc => trivial) (fun hc => q_move rfl rfl) ?_
     refine stepG [(233, _)] (guard_some rfl rfl rfl) rfl (nb hn rfl) (fun hc => ⟨⟨_, rfl, hc⟩, trivial⟩) (fun hc => q_eql rfl rfl rfl) ?_
     refine sq rfl rfl hn rfl (q_and rfl rfl rfl (by intro hB; first | (rw [hB]; rfl) | (rw [hB, hc]; rfl) | simp_all)) ?_
     refine sq rfl rfl hn rfl (q_move rfl rfl) ?_
     refine stepG [] (guard_some rfl rfl rfl) rfl (nb hn rfl) (fun hc => trivial) (fun hc => q_loadAd rfl rfl (id := 20) rfl Tryz.underlying33 rfl sz33 rfl rfl sees0) ?_
     refine stepW (s_call [(237, _)] (fun hc => (by have h := CheckBoard_ok ⟨[⟨[67], 300, 310⟩, ⟨[67], 75, 79⟩], 10, 4⟩ (nm_ok (by decide)); rw [show checkT ⟨[⟨[67], 300, 310⟩, ⟨[67], 75, 79⟩], 10, 4⟩ = 1 from by kernel_rfl] at h; exact h)) rfl (guard_some rfl rfl rfl) rfl (nb hn rfl) (fun hc => ⟨⟨_, rfl, hc⟩, trivial⟩) rfl rfl (.refl _)) fun _ => ?_
     refine stepG [(238, _)] (guard_some rfl rfl rfl) rfl (nb hn rfl) (fun hc => ⟨⟨_, rfl, hc⟩, trivial⟩) (fun hc => q_eql rfl rfl rfl) ?_
     refine sq rfl rfl hn rfl (q_and rfl rfl rfl (by intro hB; first | (rw [hB]; rfl) | (rw [hB, hc]; rfl) | simp_all)) ?_
     refine sq rfl rfl hn rfl (q_move rfl rfl) ?_
     refine stepG [] (guard_some rfl rfl rfl) rfl (nb hn rfl) (fun hc => trivial) (fun hc => q_loadAd rfl rfl (id := 21) rfl Tryz.underlying33 rfl sz33 rfl rfl sees0) ?_
     refine stepW (s_call [(242, _)] (fun hc => (by have h := CheckBoard_ok ⟨[⟨[97, 66], 300, 310⟩, ⟨[67], 75, 79⟩], 10, 4⟩ (nm_ok (by decide)); rw [show checkT ⟨[⟨[97, 66], 300, 310⟩, ⟨[67], 75, 79⟩], 10, 4⟩ = 1 from by kernel_rfl] at h; exact h)) rfl (guard_some rfl rfl rfl) rfl (nb hn rfl) (fun hc => ⟨⟨_, rfl, hc⟩, trivial⟩) rfl rfl (.refl _)) fun _ => ?_
     refine stepG [(243, _)] (guard_some rfl rfl rfl) rfl (nb hn rfl) (fun hc => ⟨⟨_, rfl, hc⟩, trivial⟩) (fun hc => q_eql rfl rfl rfl) ?_
     refine sq rfl rfl hn rfl (q_and rfl rfl rfl (by intro hB; first | (rw [hB]; rfl) | (rw [hB, hc]; rfl) | simp_all)) ?_
     refine sq rfl rfl hn rfl (q_move rfl rfl) ?_
     refine stepG [] (guard_some rfl rfl rfl) rfl (nb hn rfl) (fun hc => trivial) (fun hc => q_loadAd rfl rfl (id := 22) rfl Tryz.underlying33 rfl sz33 rfl rfl sees0) ?_
     refine stepW (s_call [(247, _)] (fun hc => (by have h := CheckBoard_ok ⟨[⟨[65, 66], 300, 310⟩, ⟨[67], 75, 79⟩], 41, 4⟩ (nm_ok (by decide)); rw [show checkT ⟨[⟨[65, 66], 300, 310⟩, ⟨[67], 75, 79⟩], 41, 4⟩ = 1 from by kernel_rfl] at h; exact h)) rfl (guard_some rfl rfl rfl) rfl (nb hn rfl) (fun hc => ⟨⟨_, rfl, hc⟩, trivial⟩) rfl rfl (.refl _)) fun _ => ?_
     refine stepG [(248, _)] (guard_some rfl rfl rfl) rfl (nb hn rfl) (fun hc => ⟨⟨_, rfl, hc⟩, trivial⟩) (fun hc => q_eql rfl rfl rfl) ?_
     refine sq rfl rfl hn rfl (q_and rfl rfl rfl (by intro hB; first | (rw [hB]; rfl) | (rw [hB, hc]; rfl) | simp_all)) ?_
     refine sq rfl rfl hn rfl (q_move rfl rfl) ?_
     refine stepG [] (guard_some rfl rfl rfl) rfl (nb hn rfl) (fun hc => trivial) (fun hc => q_loadAd rfl rfl (id := 23) rfl Tryz.underlying33 rfl sz33 rfl rfl sees0) ?_
     refine stepW (s_call [(252, _)] (fun hc => (by have h := CheckBoard_ok ⟨List.replicate 5 ⟨[], 0, 0⟩, 10, 4⟩ (nm_ok (by decide)); rw [show checkT ⟨List.replicate 5 ⟨[], 0, 0⟩, 10, 4⟩ = 3 from by kernel_rfl] at h; exact h)) rfl (guard_some rfl rfl rfl) rfl (nb hn rfl) (fun hc => ⟨⟨_, rfl, hc⟩, trivial⟩) rfl rfl (.refl _)) fun _ => ?_
     refine stepG [(253, _)] (guard_some rfl rfl rfl) rfl (nb hn rfl) (fun hc => ⟨⟨_, rfl, hc⟩, trivial⟩) (fun hc => q_eql rfl rfl rfl) ?_
     refine sq rfl rfl hn rfl (q_and rfl rfl rfl (by intro hB; first | (rw [hB]; rfl) | (rw [hB, hc]; rfl) | simp_all)) ?_
     refine sq rfl rfl hn rfl (q_move rfl rfl) ?_
     refine stepG [] (guard_some rfl rfl rfl) rfl (nb hn rfl) (fun hc => trivial) (fun hc => q_buildd rfl bt33 rfl rfl rfl rfl rfl) ?_
     refine stepW (s_call [(257, _)] (fun hc => (by have h := CheckBoard_ok ⟨[], 0, 0⟩ (nm_ok (by decide)); rw [show checkT ⟨[], 0, 0⟩ = 1 from by kernel_rfl] at h; exact h)) rfl (guard_some rfl rfl rfl) rfl (nb hn rfl) (fun hc => ⟨⟨_, rfl, hc⟩, trivial⟩) rfl rfl (by first | exact .refl _ | (repeat (first | exact .refl _ | exact .nil _ | refine .cons ?_ ?_ | refine .agg ?_ | refine .tup ?_)))) fun _ => ?_
     refine stepG [(258, _)] (guard_some rfl rfl rfl) rfl (nb hn rfl) (fun hc => ⟨⟨_, rfl, hc⟩, trivial⟩) (fun hc => q_eql rfl rfl rfl) ?_
     refine sq rfl rfl hn rfl (q_and rfl rfl rfl (by intro hB; first | (rw [hB]; rfl) | (rw [hB, hc]; rfl) | simp_all)) ?_
     refine sq rfl rfl hn rfl (q_move rfl rfl) ?_
     refine stepW (s_call [] (fun hc => awake_ok) rfl (guard_some rfl rfl rfl) rfl (nb hn rfl) (fun hc => trivial) rfl rfl (.refl _)) fun _ => ?_
     refine sq rfl rfl hn rfl (q_and rfl rfl rfl (by intro hB; first | (rw [hB]; rfl) | (rw [hB, hc]; rfl) | simp_all)) ?_
     refine sq rfl rfl hn rfl (q_assign rfl rfl) ?_
     refine run_nil (aend_then (awp_ret ?_))
     exact ret_E (.inl rfl) () ((hands_1 rfl (.tmp rfl)).eq (by rfl)) trivial
 ·
  refine br rfl (s_guard (guard_some rfl rfl rfl) rfl (nb hn rfl) (s_buildSlice rfl rfl rfl (nb hn rfl) Tryz.underlying57 sz3 zr3 rfl rfl rfl (show _ = [.d (.int .i64 0), .d (.int .i64 0), .d (.int .i64 0), .d (.int .i64 0)] from by kernel_rfl) (by kernel_rfl) rfl rfl rfl rfl rfl)) fun _ => ?_
  refine d2_of_d1 (d1_of_d2 ?_)
  refine d2_one (i := 72) (by kernel_rfl) rfl (s_call [] (fun hc => two_ok) rfl (guard_some rfl rfl rfl) rfl (nb hn rfl) (fun hc => trivial) rfl rfl (.refl _)) fun _ => ?_
  refine d2_of_d1 (d1_of_d2 ?_)
  refine d2_one (i := 74) (by kernel_rfl) rfl (s_call [(121, _), (122, _)] (fun hc => (by have h := ProveTruth_ok twoB earlyS [306, 309, 81, 86] two_names (by decide); rw [nm_pv1] at h; exact h)) rfl (guard_some rfl rfl rfl) rfl (nb hn rfl) (fun hc => ⟨⟨_, rfl, hc⟩, ⟨_, rfl, hc⟩, trivial⟩) rfl rfl (.refl _)) fun _ => ?_
  refine d2_of_d1 ?_
  refine d1q (i := 75) rfl (by kernel_rfl) (fun _ _ _ _ h => h) rfl rfl hn rfl (q_or rfl rfl rfl (by intro hB; first | (rw [hB]; rfl) | (rw [hB, hc]; rfl) | simp_all)) ?_
  refine d1q (i := 76) rfl (by kernel_rfl) (fun _ _ _ _ h => h) rfl rfl hn rfl (q_move rfl rfl) ?_
  refine d1_of_d2 ?_
  refine d2_all 77 [78] (by kernel_rfl) ⟨?_, ?_, trivial⟩
  ·
   refine br rfl (s_call [] (fun hc => two_ok) rfl (guard_some rfl rfl rfl) rfl (nb hn rfl) (fun hc => trivial) rfl rfl (.refl _)) fun _ => ?_
   refine d2_of_d1 (d1_of_d2 ?_)
   refine d2_one (i := 78) (by kernel_rfl) rfl (s_guard (guard_some rfl rfl rfl) rfl (nb hn rfl) (s_buildSlice rfl rfl rfl (nb hn rfl) Tryz.underlying57 sz3 zr3 rfl rfl rfl (show _ = [.d (.int .i64 0), .d (.int .i64 0), .d (.int .i64 0)] from by kernel_rfl) (by kernel_rfl) rfl rfl rfl rfl rfl)) fun _ => ?_
   refine d2_of_d1 (d1_of_d2 ?_)
   refine d2_one (i := 79) (by kernel_rfl) rfl (s_call [(126, _), (127, _)] (fun hc => (by have h := ProveTruth_ok twoB earlyS [306, 309, 81] two_names (by decide); rw [nm_pv2] at h; exact h)) rfl (guard_some rfl rfl rfl) rfl (nb hn rfl) (fun hc => ⟨⟨_, rfl, hc⟩, ⟨_, rfl, hc⟩, trivial⟩) rfl rfl (.refl _)) fun _ => ?_
   refine d2_of_d1 ?_
   refine d1q (i := 80) rfl (by kernel_rfl) (fun _ _ _ _ h => h) rfl rfl hn rfl (q_or rfl rfl rfl (by intro hB; first | (rw [hB]; rfl) | (rw [hB, hc]; rfl) | simp_all)) ?_
   refine d1_of_d2 ?_
   refine d2_done (by kernel_rfl) ?_
   refine aend_then ?_
   refine awp_cond rfl (fun hb6 => ?_) (fun hb6 => ?_)
   ·
    exact absurd (show false = true from hb6) (by decide)
   ·
    refine awp_skip (aend_then (awp_seq (awp_region ?_)))
    refine sq rfl rfl hn rfl (q_buildd rfl bt113 rfl rfl rfl rfl rfl) ?_
    refine stepW (s_alloc 11 rfl rfl rfl (nb hn rfl) zr113 rfl rfl) fun b11 => ?_
    refine stepW (s_store rfl rfl rfl rfl rfl rfl (id := 11) rfl sz113 rfl (Nat.le_of_ble_eq_true rfl) rfl trivial) fun _ => ?_
    refine run_nil (aend_then (awp_seq (awp_region ?_)))
    refine sq rfl rfl hn rfl (q_buildd rfl bt114 rfl rfl rfl rfl rfl) ?_
    refine stepW (s_alloc 12 rfl rfl rfl (nb hn rfl) zr114 rfl rfl) fun b12 => ?_
    refine stepW (s_store rfl rfl rfl rfl rfl rfl (id := 12) rfl sz114 rfl (Nat.le_of_ble_eq_true rfl) rfl trivial) fun _ => ?_
    refine run_nil (aend_then (awp_seq (awp_seq (awp_region ?_))))
    refine sq rfl rfl hn rfl (q_assign rfl rfl) ?_
    refine run_nil (aend_then (awp_block ?_))
    refine awp_loop_on (ι := {k : Nat // k ≤ 13}) (fun x => (13, true, .d (.int .i64 (x.1 : Nat))) :: anys [132, 133, 137, 138, 139, 140, 141, 136, 142, 143, 14, 15, 144, 145, 146, 147, 148, 149, 150, 151, 152, 153, 134, 135]) (fun x => [(11, .box b11 113 (nmW.map fun w => TV.d (strD w))), (12, .box b12 114 (nmE.map fun e => TV.d (.int .i64 e)))]) (fun x => 13 - x.1) ⟨0, Nat.zero_le _⟩ ⟨.inl rfl, holdT_anys _⟩ ⟨.inl rfl, .inl rfl, trivial⟩ ?_
    rintro ⟨k, hk⟩
    dsimp only
    refine awp_seq (awp_seq (awp_region ?_))
    refine sq rfl rfl hn rfl (q_move rfl rfl) ?_
    refine sq rfl rfl hn rfl (q_lss rfl rfl rfl) ?_
    refine run_nil (aend_then ?_)
    refine awp_cond rfl (fun hb7 => ?_) (fun hb7 => ?_)
    ·
     have hkl : k < 13 := by have h := of_decide_eq_true hb7; omega
     obtain ⟨w, hw⟩ := ex_get (show k < nmW.length from hkl)
     obtain ⟨e, he, hrd⟩ := nm_read k w hw
     have hwl : w.length ≤ 100 := nm_len (List.mem_of_getElem? hw)
     refine awp_skip (aend_then (awp_seq (awp_block (awp_seq ?_))))
     refine d_start (W := fun b => b ≠ b11) fmo ?_
     refine d1q (i := 1) rfl (by kernel_rfl) (fun _ _ _ _ h => h) rfl rfl hn rfl (q_move rfl rfl) ?_
     refine d1q (i := 2) rfl (by kernel_rfl) (fun _ _ _ _ h => h) rfl rfl hn rfl (q_indexA (i := k) rfl rfl rfl Tryz.underlying113 sz9 rfl (by omega)) ?_
     refine d1q (i := 3) rfl (by kernel_rfl) (fun _ _ _ _ h => h) rfl rfl hn rfl (q_load rfl rfl (id := 11) rfl Tryz.underlying9 rfl (nm_cell hw) (seesA (by simp))) ?_
     refine d1_of_d2 ?_
     refine d2_one (i := 0) (by kernel_rfl) rfl (s_call [] (fun _ => two_ok) rfl (guard_none rfl) rfl (nb hn rfl) (fun _ => trivial) rfl rfl (.refl _)) fun _ => ?_
     refine d2_of_d1 (d1_of_d2 ?_)
     refine d2_one (i := 4) (by kernel_rfl) rfl (s_call [] (fun _ => (by have h := Read_ok twoB w two_names (by omega); rw [hrd] at h; exact h)) rfl (guard_none rfl) rfl (nb hn rfl) (fun _ => trivial) rfl rfl (.refl _)) fun _ => ?_
     refine d2_of_d1 ?_
     refine d1q (i := 5) rfl (by kernel_rfl) (fun _ _ _ _ h => h) rfl rfl hn rfl (q_move rfl rfl) ?_
     refine d1q (i := 6) rfl (by kernel_rfl) (fun _ _ _ _ h => h) rfl rfl hn rfl (q_extractd rfl rfl rfl) ?_
     refine d1q (i := 7) rfl (by kernel_rfl) (fun _ _ _ _ h => h) rfl rfl hn rfl (q_extractd rfl rfl rfl) ?_
     refine d1q (i := 8) rfl (by kernel_rfl) (fun _ _ _ _ h => h) rfl rfl hn rfl (q_assign rfl rfl) ?_
     refine d1q (i := 9) rfl (by kernel_rfl) (fun _ _ _ _ h => h) rfl rfl hn rfl (q_assign rfl rfl) ?_
     refine d1_of_d2 ?_
     refine d2_done (by kernel_rfl) ?_
     refine aend_then (awp_seq (awp_region ?_))
     refine sq rfl rfl hn rfl (q_move rfl rfl) ?_
     refine sq rfl rfl hn rfl (q_move rfl rfl) ?_
     refine sq rfl rfl hn rfl (q_indexA (i := k) rfl rfl rfl Tryz.underlying114 sz28 rfl (by omega)) ?_
     refine sq rfl rfl hn rfl (q_load rfl rfl (id := 12) rfl Tryz.underlying28 rfl (nm_cellE he) sees0) ?_
     refine sq rfl rfl hn rfl (q_neq rfl rfl rfl) ?_
     refine sq rfl rfl hn rfl (q_move rfl rfl) ?_
     refine stepG [] (guard_some rfl rfl rfl) rfl (nb hn rfl) (fun hc => trivial) (fun hc => q_move rfl rfl) ?_
     refine stepG [(150, _)] (guard_some rfl rfl rfl) rfl (nb hn rfl) (fun hc => ⟨⟨_, rfl, hc⟩, trivial⟩) (fun hc => q_len rfl rfl Tryz.underlying27) ?_
     refine stepG [(151, _)] (guard_some rfl rfl rfl) rfl (nb hn rfl) (fun hc => ⟨⟨_, rfl, hc⟩, trivial⟩) (fun hc => q_neq rfl rfl rfl) ?_
     refine sq rfl rfl hn rfl (q_or rfl rfl rfl (by intro hB; first | (rw [hB]; rfl) | (rw [hB, hc]; rfl) | simp_all)) ?_
     refine run_nil (aend_then ?_)
     refine awp_cond rfl (fun hb8 => ?_) (fun hb8 => ?_)
     ·
      exact absurd hb8 (by simp)
     ·
      refine awp_skip (aend_block (aend_then (awp_region ?_)))
      refine sq rfl rfl hn rfl (q_move rfl rfl) ?_
      refine sq rfl rfl hn rfl (q_add rfl rfl rfl (r := ((k + 1 : Nat) : Int)) (i64w (by omega) (by omega))) ?_
      refine sq rfl rfl hn rfl (q_assign rfl rfl) ?_
      refine run_nil ?_
      exact aend_round_on ⟨k + 1, by omega⟩ ⟨.inl rfl, holdT_anys _⟩ ⟨.inl rfl, .inl rfl, trivial⟩ (by simp only; omega) (by repeat (first | exact kr _ | refine kc rfl ?_)) (by repeat (first | exact kr _ | refine kc rfl ?_))
    ·
     refine awp_exit (aend_then_exit (aend_then_exit (aend_block_exit (aend_then (awp_seq (awp_region ?_))))))
     refine stepW (s_call [] (fun _ => two_ok) rfl (guard_none rfl) rfl (nb hn rfl) (fun _ => trivial) rfl rfl (.refl _)) fun _ => ?_
     refine stepW (s_call [] (fun _ => (by have h := Minutes_ok twoB earlyS two_names (by decide); rw [nm_min] at h; exact h)) rfl (guard_none rfl) rfl (nb hn rfl) (fun _ => trivial) rfl rfl (.refl _)) fun _ => ?_
     refine sq rfl rfl hn rfl (q_move rfl rfl) ?_
     refine sq rfl rfl hn rfl (q_extractd rfl rfl rfl) ?_
     refine sq rfl rfl hn rfl (q_extractd rfl rfl rfl) ?_
     refine sq rfl rfl hn rfl (q_assign rfl rfl) ?_
     refine run_nil (aend_then (awp_seq (awp_region ?_)))
     refine stepW (s_call [] (fun _ => two_ok) rfl (guard_none rfl) rfl (nb hn rfl) (fun _ => trivial) rfl rfl (.refl _)) fun _ => ?_
     refine stepW (s_call [] (fun _ => (by have h := Prices_ok twoB nm3 two_names (by decide); rw [nm_pr3] at h; exact h)) rfl (guard_none rfl) rfl (nb hn rfl) (fun _ => trivial) rfl rfl (.refl _)) fun _ => ?_
     refine sq rfl rfl hn rfl (q_move rfl rfl) ?_
     refine sq rfl rfl hn rfl (q_extractd rfl rfl rfl) ?_
     refine sq rfl rfl hn rfl (q_extractd rfl rfl rfl) ?_
     refine sq rfl rfl hn rfl (q_assign rfl rfl) ?_
     refine run_nil (aend_then (awp_seq (awp_region ?_)))
     refine stepW (s_call [] (fun _ => two_ok) rfl (guard_none rfl) rfl (nb hn rfl) (fun _ => trivial) rfl rfl (.refl _)) fun _ => ?_
     refine stepW (s_call [] (fun _ => (by have h := Read_ok twoB nm9 two_names (by decide); rw [nm_r9s] at h; exact h)) rfl (guard_none rfl) rfl (nb hn rfl) (fun _ => trivial) rfl rfl (.refl _)) fun _ => ?_
     refine sq rfl rfl hn rfl (q_move rfl rfl) ?_
     refine sq rfl rfl hn rfl (q_extractd rfl rfl rfl) ?_
     refine sq rfl rfl hn rfl (q_extractd rfl rfl rfl) ?_
     refine sq rfl rfl hn rfl (q_assign rfl rfl) ?_
     refine run_nil (aend_then (awp_seq (awp_region ?_)))
     refine stepW (s_call [] (fun _ => two_ok) rfl (guard_none rfl) rfl (nb hn rfl) (fun _ => trivial) rfl rfl (.refl _)) fun _ => ?_
     refine sq rfl rfl hn rfl (q_buildd rfl bt115 rfl rfl rfl rfl rfl) ?_
     refine stepW (s_buildSlice rfl rfl rfl (nb hn rfl) Tryz.underlying73 sz115 zr115 rfl rfl rfl (show _ = [.d (.int .i64 0), .d (.int .i64 0), .d (.int .i64 0), .d (.int .i64 0)] from by kernel_rfl) (by kernel_rfl) rfl rfl rfl rfl rfl) fun _ => ?_
     refine stepW (s_call [] (fun _ => (by have h := Write_ok twoB [⟨0, 1, 800, 0⟩] two_names; rw [nm_wr8] at h; exact h)) rfl (guard_none rfl) rfl (nb hn rfl) (fun _ => trivial) rfl rfl (.refl _)) fun _ => ?_
     refine sq rfl rfl hn rfl (q_move rfl rfl) ?_
     refine sq rfl rfl hn rfl (q_extractd rfl rfl rfl) ?_
     refine sq rfl rfl hn rfl (q_extractd rfl rfl rfl) ?_
     refine sq rfl rfl hn rfl (q_assign rfl rfl) ?_
     refine run_nil (aend_then (awp_seq (awp_region ?_)))
     refine stepW (s_call [] (fun _ => two_ok) rfl (guard_none rfl) rfl (nb hn rfl) (fun _ => trivial) rfl rfl (.refl _)) fun _ => ?_
     refine stepW (s_call [] (fun _ => (by have h := Show_ok twoB earlyS 4 false two_names (by decide); rw [nm_show4] at h; exact h)) rfl (guard_none rfl) rfl (nb hn rfl) (fun _ => trivial) rfl rfl (.refl _)) fun _ => ?_
     refine sq rfl rfl hn rfl (q_move rfl rfl) ?_
     refine sq rfl rfl hn rfl (q_extractd rfl rfl rfl) ?_
     refine sq rfl rfl hn rfl (q_extractd rfl rfl rfl) ?_
     refine sq rfl rfl hn rfl (q_assign rfl rfl) ?_
     refine run_nil (aend_then (awp_seq (awp_region ?_)))
     refine stepW (s_call [] (fun _ => two_ok) rfl (guard_none rfl) rfl (nb hn rfl) (fun _ => trivial) rfl rfl (.refl _)) fun _ => ?_
     refine stepW (s_call [] (fun _ => between_ok _ _) rfl (guard_none rfl) rfl (nb hn rfl) (fun _ => trivial) rfl rfl (.refl _)) fun _ => ?_
     refine sq rfl rfl hn rfl (q_buildd rfl bt61 rfl rfl rfl rfl rfl) ?_
     refine stepW (s_call [] (fun _ => (by have h := Find_ok twoB earlyS ⟨0, 309, 1, 6, 9⟩ two_names (by decide); rw [nm_f1] at h; exact h)) rfl (guard_none rfl) rfl (nb hn rfl) (fun _ => trivial) rfl rfl (by first | exact .refl _ | (repeat (first | exact .refl _ | exact .nil _ | refine .cons ?_ ?_ | refine .agg ?_ | refine .tup ?_)))) fun _ => ?_
     refine sq rfl rfl hn rfl (q_move rfl rfl) ?_
     refine sq rfl rfl hn rfl (q_extractd rfl rfl rfl) ?_
     refine sq rfl rfl hn rfl (q_extractd rfl rfl rfl) ?_
     refine sq rfl rfl hn rfl (q_assign rfl rfl) ?_
     refine sq rfl rfl hn rfl (q_assign rfl rfl) ?_
     refine run_nil (aend_then (awp_seq (awp_region ?_)))
     refine stepW (s_call [] (fun _ => two_ok) rfl (guard_none rfl) rfl (nb hn rfl) (fun _ => trivial) rfl rfl (.refl _)) fun _ => ?_
     refine stepW (s_call [] (fun _ => between_ok _ _) rfl (guard_none rfl) rfl (nb hn rfl) (fun _ => trivial) rfl rfl (.refl _)) fun _ => ?_
     refine sq rfl rfl hn rfl (q_buildd rfl bt61 rfl rfl rfl rfl rfl) ?_
     refine stepW (s_call [] (fun _ => (by have h := Find_ok twoB earlyS ⟨0, 309, 1, 6, 5⟩ two_names (by decide); rw [nm_f2] at h; exact h)) rfl (guard_none rfl) rfl (nb hn rfl) (fun _ => trivial) rfl rfl (by first | exact .refl _ | (repeat (first | exact .refl _ | exact .nil _ | refine .cons ?_ ?_ | refine .agg ?_ | refine .tup ?_)))) fun _ => ?_
     refine sq rfl rfl hn rfl (q_move rfl rfl) ?_
     refine sq rfl rfl hn rfl (q_extractd rfl rfl rfl) ?_
     refine sq rfl rfl hn rfl (q_extractd rfl rfl rfl) ?_
     refine sq rfl rfl hn rfl (q_assign rfl rfl) ?_
     refine sq rfl rfl hn rfl (q_assign rfl rfl) ?_
     refine run_nil (aend_then (awp_seq (awp_region ?_)))
     refine stepW (s_callE (two_vec) rfl rfl rfl (nb hn rfl) (.d rfl) rfl (.refl _) trivial (fun _ => rfl) (fun _ _ => trivial)) fun b1 => ?_
     refine stepW (s_callE (two_vec1) rfl rfl rfl (nb hn rfl) (.d rfl) rfl (.refl _) trivial (fun _ => rfl) (fun _ _ => trivial)) fun b2 => ?_
     refine stepW (s_call [] (fun _ => two_ok) rfl (guard_none rfl) rfl (nb hn rfl) (fun _ => trivial) rfl rfl (.refl _)) fun _ => ?_
     refine stepW (s_call [] (fun _ => two_ok) rfl (guard_none rfl) rfl (nb hn rfl) (fun _ => trivial) rfl rfl (.refl _)) fun _ => ?_
     refine stepW (s_alloc 20 rfl rfl rfl (nb hn rfl) zr33 rfl rfl) fun b20 => ?_
     refine stepW (s_alloc 21 rfl rfl rfl (nb hn rfl) zr33 rfl rfl) fun b21 => ?_
     refine stepW (s_alloc 22 rfl rfl rfl (nb hn rfl) zr33 rfl rfl) fun b22 => ?_
     refine stepW (s_alloc 23 rfl rfl rfl (nb hn rfl) zr33 rfl rfl) fun b23 => ?_
     refine stepW (s_store rfl rfl rfl rfl rfl rfl (id := 20) rfl sz33 rfl (Nat.le_of_ble_eq_true rfl) rfl trivial) fun _ => ?_
     refine stepW (s_store rfl rfl rfl rfl rfl rfl (id := 21) rfl sz33 rfl (Nat.le_of_ble_eq_true rfl) rfl trivial) fun _ => ?_
     refine stepW (s_store rfl rfl rfl rfl rfl rfl (id := 22) rfl sz33 rfl (Nat.le_of_ble_eq_true rfl) rfl trivial) fun _ => ?_
     refine stepW (s_store rfl rfl rfl rfl rfl rfl (id := 23) rfl sz33 rfl (Nat.le_of_ble_eq_true rfl) rfl trivial) fun _ => ?_
     refine run_nil (aend_then (awp_seq (awp_region ?_)))
     refine sq rfl rfl hn rfl (q_fieldAddr rfl rfl Tryz.underlying33 rfl sz31) ?_
     refine sq rfl rfl hn rfl (q_load rfl rfl (id := 20) rfl Tryz.underlying31 rfl rfl sees0) ?_
     refine sq rfl rfl hn rfl (q_indexV (i := 0) rfl rfl rfl Tryz.underlying31 sz117 rfl (by omega)) ?_
     refine sq rfl rfl hn rfl (q_fieldAddr rfl rfl Tryz.underlying117 rfl sz9) ?_
     refine stepW (s_store1 rfl rfl rfl rfl rfl rfl (id := 1101) rfl sz9 (Nat.le_of_ble_eq_true rfl) rfl trivial) fun _ => ?_
     refine run_nil (aend_then (awp_seq (awp_region ?_)))
     refine sq rfl rfl hn rfl (q_fieldAddr rfl rfl Tryz.underlying33 rfl sz31) ?_
     refine sq rfl rfl hn rfl (q_load rfl rfl (id := 21) rfl Tryz.underlying31 rfl rfl sees0) ?_
     refine sq rfl rfl hn rfl (q_indexV (i := 0) rfl rfl rfl Tryz.underlying31 sz117 rfl (by omega)) ?_
     refine sq rfl rfl hn rfl (q_fieldAddr rfl rfl Tryz.underlying117 rfl sz9) ?_
     refine stepW (s_store1 rfl rfl rfl rfl rfl rfl (id := 1102) rfl sz9 (Nat.le_of_ble_eq_true rfl) rfl trivial) fun _ => ?_
     refine run_nil (aend_then (awp_seq (awp_region ?_)))
     refine sq rfl rfl hn rfl (q_fieldAddr rfl rfl Tryz.underlying33 rfl sz3) ?_
     refine stepW (s_store1 rfl rfl rfl rfl rfl rfl (id := 22) rfl sz3 (Nat.le_of_ble_eq_true rfl) rfl trivial) fun _ => ?_
     refine run_nil (aend_then (awp_seq (awp_region ?_)))
     refine stepW (s_makeSlice (n := 5) 208 rfl rfl rfl (nb hn rfl) Tryz.underlying31 (show _ = some (some (.agg #[(.string ⟨#[]⟩), (.int .i64 0), (.int .i64 0)]), 3, 32) from by kernel_rfl) rfl rfl rfl (by decide) rfl rfl rfl rfl (by omega) (by omega) (by omega)) fun b208 => ?_
     refine sq rfl rfl hn rfl (q_fieldAddr rfl rfl Tryz.underlying33 rfl sz31) ?_
     refine stepW (s_store1 rfl rfl rfl rfl rfl rfl (id := 23) rfl sz31 (Nat.le_of_ble_eq_true rfl) rfl trivial) fun _ => ?_
     refine run_nil (aend_then (awp_seq ?_))
     refine gh_awp (gh_veccell (id := 20) (k := 0) (rid := 1101) (ds := (([⟨[67], 300, 310⟩, ⟨[67], 75, 79⟩] : List Stk).map stkE).flatten) (rest := []) (n := 2) (sz := 3) rfl rfl rfl rfl rfl (show _ = ([⟨[67], 300, 310⟩, ⟨[67], 75, 79⟩] : List Stk).map stkE from rfl) (Nat.le_refl _) (by decide)) ?_
     refine gh_awp (gh_veccell (id := 21) (k := 0) (rid := 1102) (ds := (([⟨[97, 66], 300, 310⟩, ⟨[67], 75, 79⟩] : List Stk).map stkE).flatten) (rest := []) (n := 2) (sz := 3) rfl rfl rfl rfl rfl (show _ = ([⟨[97, 66], 300, 310⟩, ⟨[67], 75, 79⟩] : List Stk).map stkE from rfl) (Nat.le_refl _) (by decide)) ?_
     refine gh_awp (gh_veccell (id := 23) (k := 0) (rid := 208) (ds := (((List.replicate 5 (⟨[], 0, 0⟩ : Stk)) : List Stk).map stkE).flatten) (rest := []) (n := 5) (sz := 3) rfl rfl rfl rfl rfl (show _ = ((List.replicate 5 (⟨[], 0, 0⟩ : Stk)) : List Stk).map stkE from rfl) (Nat.le_refl _) (by decide)) ?_
     refine awp_region ?_
     refine sq rfl rfl hn rfl (q_move rfl rfl) ?_
     refine sq rfl rfl hn rfl (q_eql rfl rfl rfl) ?_
     refine sq rfl rfl hn rfl (q_move rfl rfl) ?_
     refine stepG [] (guard_some rfl rfl rfl) rfl (nb hn rfl) (fun hc => trivial) (fun hc => q_move rfl rfl) ?_
     refine stepG [(213, _)] (guard_some rfl rfl rfl) rfl (nb hn rfl) (fun hc => ⟨⟨_, rfl, hc⟩, trivial⟩) (fun hc => q_eql rfl rfl rfl) ?_
     refine sq rfl rfl hn rfl (q_and rfl rfl rfl (by intro hB; first | (rw [hB]; rfl) | (rw [hB, hc]; rfl) | simp_all)) ?_
     refine sq rfl rfl hn rfl (q_move rfl rfl) ?_
     refine stepG [] (guard_some rfl rfl rfl) rfl (nb hn rfl) (fun hc => trivial) (fun hc => q_move rfl rfl) ?_
     refine stepG [(217, _)] (guard_some rfl rfl rfl) rfl (nb hn rfl) (fun hc => ⟨⟨_, rfl, hc⟩, trivial⟩) (fun hc => q_eql rfl rfl rfl) ?_
     refine sq rfl rfl hn rfl (q_and rfl rfl rfl (by intro hB; first | (rw [hB]; rfl) | (rw [hB, hc]; rfl) | simp_all)) ?_
     refine sq rfl rfl hn rfl (q_move rfl rfl) ?_
     refine stepG [] (guard_some rfl rfl rfl) rfl (nb hn rfl) (fun hc => trivial) (fun hc => q_move rfl rfl) ?_
     refine stepG [(221, _)] (guard_some rfl rfl rfl) rfl (nb hn rfl) (fun hc => ⟨⟨_, rfl, hc⟩, trivial⟩) (fun hc => q_eql rfl rfl rfl) ?_
     refine sq rfl rfl hn rfl (q_and rfl rfl rfl (by intro hB; first | (rw [hB]; rfl) | (rw [hB, hc]; rfl) | simp_all)) ?_
     refine sq rfl rfl hn rfl (q_move rfl rfl) ?_
     refine stepG [] (guard_some rfl rfl rfl) rfl (nb hn rfl) (fun hc => trivial) (fun hc => q_move rfl rfl) ?_
     refine stepG [(225, _)] (guard_some rfl rfl rfl) rfl (nb hn rfl) (fun hc => ⟨⟨_, rfl, hc⟩, trivial⟩) (fun hc => q_eql rfl rfl rfl) ?_
     refine sq rfl rfl hn rfl (q_and rfl rfl rfl (by intro hB; first | (rw [hB]; rfl) | (rw [hB, hc]; rfl) | simp_all)) ?_
     refine sq rfl rfl hn rfl (q_move rfl rfl) ?_
     refine stepG [] (guard_some rfl rfl rfl) rfl (nb hn rfl) (fun hc => trivial) (fun hc => q_move rfl rfl) ?_
     refine stepG [(229, _)] (guard_some rfl rfl rfl) rfl (nb hn rfl) (fun hc => ⟨⟨_, rfl, hc⟩, trivial⟩) (fun hc => q_eql rfl rfl rfl) ?_
     refine sq rfl rfl hn rfl (q_and rfl rfl rfl (by intro hB; first | (rw [hB]; rfl) | (rw [hB, hc]; rfl) | simp_all)) ?_
     refine sq rfl rfl hn rfl (q_move rfl rfl) ?_
     refine stepG [] (guard_some rfl rfl rfl) rfl (nb hn rfl) (fun hc => trivial) (fun hc => q_move rfl rfl) ?_
     refine stepG [(233, _)] (guard_some rfl rfl rfl) rfl (nb hn rfl) (fun hc => ⟨⟨_, rfl, hc⟩, trivial⟩) (fun hc => q_eql rfl rfl rfl) ?_
     refine sq rfl rfl hn rfl (q_and rfl rfl rfl (by intro hB; first | (rw [hB]; rfl) | (rw [hB, hc]; rfl) | simp_all)) ?_
     refine sq rfl rfl hn rfl (q_move rfl rfl) ?_
     refine stepG [] (guard_some rfl rfl rfl) rfl (nb hn rfl) (fun hc => trivial) (fun hc => q_loadAd rfl rfl (id := 20) rfl Tryz.underlying33 rfl sz33 rfl rfl sees0) ?_
     refine stepW (s_call [(237, _)] (fun hc => (by have h := CheckBoard_ok ⟨[⟨[67], 300, 310⟩, ⟨[67], 75, 79⟩], 10, 4⟩ (nm_ok (by decide)); rw [show checkT ⟨[⟨[67], 300, 310⟩, ⟨[67], 75, 79⟩], 10, 4⟩ = 1 from by kernel_rfl] at h; exact h)) rfl (guard_some rfl rfl rfl) rfl (nb hn rfl) (fun hc => ⟨⟨_, rfl, hc⟩, trivial⟩) rfl rfl (.refl _)) fun _ => ?_
     refine stepG [(238, _)] (guard_some rfl rfl rfl) rfl (nb hn rfl) (fun hc => ⟨⟨_, rfl, hc⟩, trivial⟩) (fun hc => q_eql rfl rfl rfl) ?_
     refine sq rfl rfl hn rfl (q_and rfl rfl rfl (by intro hB; first | (rw [hB]; rfl) | (rw [hB, hc]; rfl) | simp_all)) ?_
     refine sq rfl rfl hn rfl (q_move rfl rfl) ?_
     refine stepG [] (guard_some rfl rfl rfl) rfl (nb hn rfl) (fun hc => trivial) (fun hc => q_loadAd rfl rfl (id := 21) rfl Tryz.underlying33 rfl sz33 rfl rfl sees0) ?_
     refine stepW (s_call [(242, _)] (fun hc => (by have h := CheckBoard_ok ⟨[⟨[97, 66], 300, 310⟩, ⟨[67], 75, 79⟩], 10, 4⟩ (nm_ok (by decide)); rw [show checkT ⟨[⟨[97, 66], 300, 310⟩, ⟨[67], 75, 79⟩], 10, 4⟩ = 1 from by kernel_rfl] at h; exact h)) rfl (guard_some rfl rfl rfl) rfl (nb hn rfl) (fun hc => ⟨⟨_, rfl, hc⟩, trivial⟩) rfl rfl (.refl _)) fun _ => ?_
     refine stepG [(243, _)] (guard_some rfl rfl rfl) rfl (nb hn rfl) (fun hc => ⟨⟨_, rfl, hc⟩, trivial⟩) (fun hc => q_eql rfl rfl rfl) ?_
     refine sq rfl rfl hn rfl (q_and rfl rfl rfl (by intro hB; first | (rw [hB]; rfl) | (rw [hB, hc]; rfl) | simp_all)) ?_
     refine sq rfl rfl hn rfl (q_move rfl rfl) ?_
     refine stepG [] (guard_some rfl rfl rfl) rfl (nb hn rfl) (fun hc => trivial) (fun hc => q_loadAd rfl rfl (id := 22) rfl Tryz.underlying33 rfl sz33 rfl rfl sees0) ?_
     refine stepW (s_call [(247, _)] (fun hc => (by have h := CheckBoard_ok ⟨[⟨[65, 66], 300, 310⟩, ⟨[67], 75, 79⟩], 41, 4⟩ (nm_ok (by decide)); rw [show checkT ⟨[⟨[65, 66], 300, 310⟩, ⟨[67], 75, 79⟩], 41, 4⟩ = 1 from by kernel_rfl] at h; exact h)) rfl (guard_some rfl rfl rfl) rfl (nb hn rfl) (fun hc => ⟨⟨_, rfl, hc⟩, trivial⟩) rfl rfl (.refl _)) fun _ => ?_
     refine stepG [(248, _)] (guard_some rfl rfl rfl) rfl (nb hn rfl) (fun hc => ⟨⟨_, rfl, hc⟩, trivial⟩) (fun hc => q_eql rfl rfl rfl) ?_
     refine sq rfl rfl hn rfl (q_and rfl rfl rfl (by intro hB; first | (rw [hB]; rfl) | (rw [hB, hc]; rfl) | simp_all)) ?_
     refine sq rfl rfl hn rfl (q_move rfl rfl) ?_
     refine stepG [] (guard_some rfl rfl rfl) rfl (nb hn rfl) (fun hc => trivial) (fun hc => q_loadAd rfl rfl (id := 23) rfl Tryz.underlying33 rfl sz33 rfl rfl sees0) ?_
     refine stepW (s_call [(252, _)] (fun hc => (by have h := CheckBoard_ok ⟨List.replicate 5 ⟨[], 0, 0⟩, 10, 4⟩ (nm_ok (by decide)); rw [show checkT ⟨List.replicate 5 ⟨[], 0, 0⟩, 10, 4⟩ = 3 from by kernel_rfl] at h; exact h)) rfl (guard_some rfl rfl rfl) rfl (nb hn rfl) (fun hc => ⟨⟨_, rfl, hc⟩, trivial⟩) rfl rfl (.refl _)) fun _ => ?_
     refine stepG [(253, _)] (guard_some rfl rfl rfl) rfl (nb hn rfl) (fun hc => ⟨⟨_, rfl, hc⟩, trivial⟩) (fun hc => q_eql rfl rfl rfl) ?_
     refine sq rfl rfl hn rfl (q_and rfl rfl rfl (by intro hB; first | (rw [hB]; rfl) | (rw [hB, hc]; rfl) | simp_all)) ?_
     refine sq rfl rfl hn rfl (q_move rfl rfl) ?_
     refine stepG [] (guard_some rfl rfl rfl) rfl (nb hn rfl) (fun hc => trivial) (fun hc => q_buildd rfl bt33 rfl rfl rfl rfl rfl) ?_
     refine stepW (s_call [(257, _)] (fun hc => (by have h := CheckBoard_ok ⟨[], 0, 0⟩ (nm_ok (by decide)); rw [show checkT ⟨[], 0, 0⟩ = 1 from by kernel_rfl] at h; exact h)) rfl (guard_some rfl rfl rfl) rfl (nb hn rfl) (fun hc => ⟨⟨_, rfl, hc⟩, trivial⟩) rfl rfl (by first | exact .refl _ | (repeat (first | exact .refl _ | exact .nil _ | refine .cons ?_ ?_ | refine .agg ?_ | refine .tup ?_)))) fun _ => ?_
     refine stepG [(258, _)] (guard_some rfl rfl rfl) rfl (nb hn rfl) (fun hc => ⟨⟨_, rfl, hc⟩, trivial⟩) (fun hc => q_eql rfl rfl rfl) ?_
     refine sq rfl rfl hn rfl (q_and rfl rfl rfl (by intro hB; first | (rw [hB]; rfl) | (rw [hB, hc]; rfl) | simp_all)) ?_
     refine sq rfl rfl hn rfl (q_move rfl rfl) ?_
     refine stepW (s_call [] (fun hc => awake_ok) rfl (guard_some rfl rfl rfl) rfl (nb hn rfl) (fun hc => trivial) rfl rfl (.refl _)) fun _ => ?_
     refine sq rfl rfl hn rfl (q_and rfl rfl rfl (by intro hB; first | (rw [hB]; rfl) | (rw [hB, hc]; rfl) | simp_all)) ?_
     refine sq rfl rfl hn rfl (q_assign rfl rfl) ?_
     refine run_nil (aend_then (awp_ret ?_))
     exact ret_E (.inl rfl) () ((hands_1 rfl (.tmp rfl)).eq (by rfl)) trivial
  ·
   refine br rfl (s_guard (guard_some rfl rfl rfl) rfl (nb hn rfl) (s_buildSlice rfl rfl rfl (nb hn rfl) Tryz.underlying57 sz3 zr3 rfl rfl rfl (show _ = [.d (.int .i64 0), .d (.int .i64 0), .d (.int .i64 0)] from by kernel_rfl) (by kernel_rfl) rfl rfl rfl rfl rfl)) fun _ => ?_
   refine d2_of_d1 (d1_of_d2 ?_)
   refine d2_one (i := 77) (by kernel_rfl) rfl (s_call [] (fun hc => two_ok) rfl (guard_some rfl rfl rfl) rfl (nb hn rfl) (fun hc => trivial) rfl rfl (.refl _)) fun _ => ?_
   refine d2_of_d1 (d1_of_d2 ?_)
   refine d2_one (i := 79) (by kernel_rfl) rfl (s_call [(126, _), (127, _)] (fun hc => (by have h := ProveTruth_ok twoB earlyS [306, 309, 81] two_names (by decide); rw [nm_pv2] at h; exact h)) rfl (guard_some rfl rfl rfl) rfl (nb hn rfl) (fun hc => ⟨⟨_, rfl, hc⟩, ⟨_, rfl, hc⟩, trivial⟩) rfl rfl (.refl _)) fun _ => ?_
   refine d2_of_d1 ?_
   refine d1q (i := 80) rfl (by kernel_rfl) (fun _ _ _ _ h => h) rfl rfl hn rfl (q_or rfl rfl rfl (by intro hB; first | (rw [hB]; rfl) | (rw [hB, hc]; rfl) | simp_all)) ?_
   refine d1_of_d2 ?_
   refine d2_done (by kernel_rfl) ?_
   refine aend_then ?_
   refine awp_cond rfl (fun hb9 => ?_) (fun hb9 => ?_)
   ·
    exact absurd (show false = true from hb9) (by decide)
   ·
    refine awp_skip (aend_then (awp_seq (awp_region ?_)))
    refine sq rfl rfl hn rfl (q_buildd rfl bt113 rfl rfl rfl rfl rfl) ?_
    refine stepW (s_alloc 11 rfl rfl rfl (nb hn rfl) zr113 rfl rfl) fun b11 => ?_
    refine stepW (s_store rfl rfl rfl rfl rfl rfl (id := 11) rfl sz113 rfl (Nat.le_of_ble_eq_true rfl) rfl trivial) fun _ => ?_
    refine run_nil (aend_then (awp_seq (awp_region ?_)))
    refine sq rfl rfl hn rfl (q_buildd rfl bt114 rfl rfl rfl rfl rfl) ?_
    refine stepW (s_alloc 12 rfl rfl rfl (nb hn rfl) zr114 rfl rfl) fun b12 => ?_
    refine stepW (s_store rfl rfl rfl rfl rfl rfl (id := 12) rfl sz114 rfl (Nat.le_of_ble_eq_true rfl) rfl trivial) fun _ => ?_
    refine run_nil (aend_then (awp_seq (awp_seq (awp_region ?_))))
    refine sq rfl rfl hn rfl (q_assign rfl rfl) ?_
    refine run_nil (aend_then (awp_block ?_))
    refine awp_loop_on (ι := {k : Nat // k ≤ 13}) (fun x => (13, true, .d (.int .i64 (x.1 : Nat))) :: anys [132, 133, 137, 138, 139, 140, 141, 136, 142, 143, 14, 15, 144, 145, 146, 147, 148, 149, 150, 151, 152, 153, 134, 135]) (fun x => [(11, .box b11 113 (nmW.map fun w => TV.d (strD w))), (12, .box b12 114 (nmE.map fun e => TV.d (.int .i64 e)))]) (fun x => 13 - x.1) ⟨0, Nat.zero_le _⟩ ⟨.inl rfl, holdT_anys _⟩ ⟨.inl rfl, .inl rfl, trivial⟩ ?_
    rintro ⟨k, hk⟩
    dsimp only
    refine awp_seq (awp_seq (awp_region ?_))
    refine sq rfl rfl hn rfl (q_move rfl rfl) ?_
    refine sq rfl rfl hn rfl (q_lss rfl rfl rfl) ?_
    refine run_nil (aend_then ?_)
    refine awp_cond rfl (fun hb10 => ?_) (fun hb10 => ?_)
    ·
     have hkl : k < 13 := by have h := of_decide_eq_true hb10; omega
     obtain ⟨w, hw⟩ := ex_get (show k < nmW.length from hkl)
     obtain ⟨e, he, hrd⟩ := nm_read k w hw
     have hwl : w.length ≤ 100 := nm_len (List.mem_of_getElem? hw)
     refine awp_skip (aend_then (awp_seq (awp_block (awp_seq ?_))))
     refine d_start (W := fun b => b ≠ b11) fmo ?_
     refine d1q (i := 1) rfl (by kernel_rfl) (fun _ _ _ _ h => h) rfl rfl hn rfl (q_move rfl rfl) ?_
     refine d1q (i := 2) rfl (by kernel_rfl) (fun _ _ _ _ h => h) rfl rfl hn rfl (q_indexA (i := k) rfl rfl rfl Tryz.underlying113 sz9 rfl (by omega)) ?_
     refine d1q (i := 3) rfl (by kernel_rfl) (fun _ _ _ _ h => h) rfl rfl hn rfl (q_load rfl rfl (id := 11) rfl Tryz.underlying9 rfl (nm_cell hw) (seesA (by simp))) ?_
     refine d1_of_d2 ?_
     refine d2_one (i := 0) (by kernel_rfl) rfl (s_call [] (fun _ => two_ok) rfl (guard_none rfl) rfl (nb hn rfl) (fun _ => trivial) rfl rfl (.refl _)) fun _ => ?_
     refine d2_of_d1 (d1_of_d2 ?_)
     refine d2_one (i := 4) (by kernel_rfl) rfl (s_call [] (fun _ => (by have h := Read_ok twoB w two_names (by omega); rw [hrd] at h; exact h)) rfl (guard_none rfl) rfl (nb hn rfl) (fun _ => trivial) rfl rfl (.refl _)) fun _ => ?_
     refine d2_of_d1 ?_
     refine d1q (i := 5) rfl (by kernel_rfl) (fun _ _ _ _ h => h) rfl rfl hn rfl (q_move rfl rfl) ?_
     refine d1q (i := 6) rfl (by kernel_rfl) (fun _ _ _ _ h => h) rfl rfl hn rfl (q_extractd rfl rfl rfl) ?_
     refine d1q (i := 7) rfl (by kernel_rfl) (fun _ _ _ _ h => h) rfl rfl hn rfl (q_extractd rfl rfl rfl) ?_
     refine d1q (i := 8) rfl (by kernel_rfl) (fun _ _ _ _ h => h) rfl rfl hn rfl (q_assign rfl rfl) ?_
     refine d1q (i := 9) rfl (by kernel_rfl) (fun _ _ _ _ h => h) rfl rfl hn rfl (q_assign rfl rfl) ?_
     refine d1_of_d2 ?_
     refine d2_done (by kernel_rfl) ?_
     refine aend_then (awp_seq (awp_region ?_))
     refine sq rfl rfl hn rfl (q_move rfl rfl) ?_
     refine sq rfl rfl hn rfl (q_move rfl rfl) ?_
     refine sq rfl rfl hn rfl (q_indexA (i := k) rfl rfl rfl Tryz.underlying114 sz28 rfl (by omega)) ?_
     refine sq rfl rfl hn rfl (q_load rfl rfl (id := 12) rfl Tryz.underlying28 rfl (nm_cellE he) sees0) ?_
     refine sq rfl rfl hn rfl (q_neq rfl rfl rfl) ?_
     refine sq rfl rfl hn rfl (q_move rfl rfl) ?_
     refine stepG [] (guard_some rfl rfl rfl) rfl (nb hn rfl) (fun hc => trivial) (fun hc => q_move rfl rfl) ?_
     refine stepG [(150, _)] (guard_some rfl rfl rfl) rfl (nb hn rfl) (fun hc => ⟨⟨_, rfl, hc⟩, trivial⟩) (fun hc => q_len rfl rfl Tryz.underlying27) ?_
     refine stepG [(151, _)] (guard_some rfl rfl rfl) rfl (nb hn rfl) (fun hc => ⟨⟨_, rfl, hc⟩, trivial⟩) (fun hc => q_neq rfl rfl rfl) ?_
     refine sq rfl rfl hn rfl (q_or rfl rfl rfl (by intro hB; first | (rw [hB]; rfl) | (rw [hB, hc]; rfl) | simp_all)) ?_
     refine run_nil (aend_then ?_)
     refine awp_cond rfl (fun hb11 => ?_) (fun hb11 => ?_)
     ·
      exact absurd hb11 (by simp)
     ·
      refine awp_skip (aend_block (aend_then (awp_region ?_)))
      refine sq rfl rfl hn rfl (q_move rfl rfl) ?_
      refine sq rfl rfl hn rfl (q_add rfl rfl rfl (r := ((k + 1 : Nat) : Int)) (i64w (by omega) (by omega))) ?_
      refine sq rfl rfl hn rfl (q_assign rfl rfl) ?_
      refine run_nil ?_
      exact aend_round_on ⟨k + 1, by omega⟩ ⟨.inl rfl, holdT_anys _⟩ ⟨.inl rfl, .inl rfl, trivial⟩ (by simp only; omega) (by repeat (first | exact kr _ | refine kc rfl ?_)) (by repeat (first | exact kr _ | refine kc rfl ?_))
    ·
     refine awp_exit (aend_then_exit (aend_then_exit (aend_block_exit (aend_then (awp_seq (awp_region ?_))))))
     refine stepW (s_call [] (fun _ => two_ok) rfl (guard_none rfl) rfl (nb hn rfl) (fun _ => trivial) rfl rfl (.refl _)) fun _ => ?_
     refine stepW (s_call [] (fun _ => (by have h := Minutes_ok twoB earlyS two_names (by decide); rw [nm_min] at h; exact h)) rfl (guard_none rfl) rfl (nb hn rfl) (fun _ => trivial) rfl rfl (.refl _)) fun _ => ?_
     refine sq rfl rfl hn rfl (q_move rfl rfl) ?_
     refine sq rfl rfl hn rfl (q_extractd rfl rfl rfl) ?_
     refine sq rfl rfl hn rfl (q_extractd rfl rfl rfl) ?_
     refine sq rfl rfl hn rfl (q_assign rfl rfl) ?_
     refine run_nil (aend_then (awp_seq (awp_region ?_)))
     refine stepW (s_call [] (fun _ => two_ok) rfl (guard_none rfl) rfl (nb hn rfl) (fun _ => trivial) rfl rfl (.refl _)) fun _ => ?_
     refine stepW (s_call [] (fun _ => (by have h := Prices_ok twoB nm3 two_names (by decide); rw [nm_pr3] at h; exact h)) rfl (guard_none rfl) rfl (nb hn rfl) (fun _ => trivial) rfl rfl (.refl _)) fun _ => ?_
     refine sq rfl rfl hn rfl (q_move rfl rfl) ?_
     refine sq rfl rfl hn rfl (q_extractd rfl rfl rfl) ?_
     refine sq rfl rfl hn rfl (q_extractd rfl rfl rfl) ?_
     refine sq rfl rfl hn rfl (q_assign rfl rfl) ?_
     refine run_nil (aend_then (awp_seq (awp_region ?_)))
     refine stepW (s_call [] (fun _ => two_ok) rfl (guard_none rfl) rfl (nb hn rfl) (fun _ => trivial) rfl rfl (.refl _)) fun _ => ?_
     refine stepW (s_call [] (fun _ => (by have h := Read_ok twoB nm9 two_names (by decide); rw [nm_r9s] at h; exact h)) rfl (guard_none rfl) rfl (nb hn rfl) (fun _ => trivial) rfl rfl (.refl _)) fun _ => ?_
     refine sq rfl rfl hn rfl (q_move rfl rfl) ?_
     refine sq rfl rfl hn rfl (q_extractd rfl rfl rfl) ?_
     refine sq rfl rfl hn rfl (q_extractd rfl rfl rfl) ?_
     refine sq rfl rfl hn rfl (q_assign rfl rfl) ?_
     refine run_nil (aend_then (awp_seq (awp_region ?_)))
     refine stepW (s_call [] (fun _ => two_ok) rfl (guard_none rfl) rfl (nb hn rfl) (fun _ => trivial) rfl rfl (.refl _)) fun _ => ?_
     refine sq rfl rfl hn rfl (q_buildd rfl bt115 rfl rfl rfl rfl rfl) ?_
     refine stepW (s_buildSlice rfl rfl rfl (nb hn rfl) Tryz.underlying73 sz115 zr115 rfl rfl rfl (show _ = [.d (.int .i64 0), .d (.int .i64 0), .d (.int .i64 0), .d (.int .i64 0)] from by kernel_rfl) (by kernel_rfl) rfl rfl rfl rfl rfl) fun _ => ?_
     refine stepW (s_call [] (fun _ => (by have h := Write_ok twoB [⟨0, 1, 800, 0⟩] two_names; rw [nm_wr8] at h; exact h)) rfl (guard_none rfl) rfl (nb hn rfl) (fun _ => trivial) rfl rfl (.refl _)) fun _ => ?_
     refine sq rfl rfl hn rfl (q_move rfl rfl) ?_
     refine sq rfl rfl hn rfl (q_extractd rfl rfl rfl) ?_
     refine sq rfl rfl hn rfl (q_extractd rfl rfl rfl) ?_
     refine sq rfl rfl hn rfl (q_assign rfl rfl) ?_
     refine run_nil (aend_then (awp_seq (awp_region ?_)))
     refine stepW (s_call [] (fun _ => two_ok) rfl (guard_none rfl) rfl (nb hn rfl) (fun _ => trivial) rfl rfl (.refl _)) fun _ => ?_
     refine stepW (s_call [] (fun _ => (by have h := Show_ok twoB earlyS 4 false two_names (by decide); rw [nm_show4] at h; exact h)) rfl (guard_none rfl) rfl (nb hn rfl) (fun _ => trivial) rfl rfl (.refl _)) fun _ => ?_
     refine sq rfl rfl hn rfl (q_move rfl rfl) ?_
     refine sq rfl rfl hn rfl (q_extractd rfl rfl rfl) ?_
     refine sq rfl rfl hn rfl (q_extractd rfl rfl rfl) ?_
     refine sq rfl rfl hn rfl (q_assign rfl rfl) ?_
     refine run_nil (aend_then (awp_seq (awp_region ?_)))
     refine stepW (s_call [] (fun _ => two_ok) rfl (guard_none rfl) rfl (nb hn rfl) (fun _ => trivial) rfl rfl (.refl _)) fun _ => ?_
     refine stepW (s_call [] (fun _ => between_ok _ _) rfl (guard_none rfl) rfl (nb hn rfl) (fun _ => trivial) rfl rfl (.refl _)) fun _ => ?_
     refine sq rfl rfl hn rfl (q_buildd rfl bt61 rfl rfl rfl rfl rfl) ?_
     refine stepW (s_call [] (fun _ => (by have h := Find_ok twoB earlyS ⟨0, 309, 1, 6, 9⟩ two_names (by decide); rw [nm_f1] at h; exact h)) rfl (guard_none rfl) rfl (nb hn rfl) (fun _ => trivial) rfl rfl (by first | exact .refl _ | (repeat (first | exact .refl _ | exact .nil _ | refine .cons ?_ ?_ | refine .agg ?_ | refine .tup ?_)))) fun _ => ?_
     refine sq rfl rfl hn rfl (q_move rfl rfl) ?_
     refine sq rfl rfl hn rfl (q_extractd rfl rfl rfl) ?_
     refine sq rfl rfl hn rfl (q_extractd rfl rfl rfl) ?_
     refine sq rfl rfl hn rfl (q_assign rfl rfl) ?_
     refine sq rfl rfl hn rfl (q_assign rfl rfl) ?_
     refine run_nil (aend_then (awp_seq (awp_region ?_)))
     refine stepW (s_call [] (fun _ => two_ok) rfl (guard_none rfl) rfl (nb hn rfl) (fun _ => trivial) rfl rfl (.refl _)) fun _ => ?_
     refine stepW (s_call [] (fun _ => between_ok _ _) rfl (guard_none rfl) rfl (nb hn rfl) (fun _ => trivial) rfl rfl (.refl _)) fun _ => ?_
     refine sq rfl rfl hn rfl (q_buildd rfl bt61 rfl rfl rfl rfl rfl) ?_
     refine stepW (s_call [] (fun _ => (by have h := Find_ok twoB earlyS ⟨0, 309, 1, 6, 5⟩ two_names (by decide); rw [nm_f2] at h; exact h)) rfl (guard_none rfl) rfl (nb hn rfl) (fun _ => trivial) rfl rfl (by first | exact .refl _ | (repeat (first | exact .refl _ | exact .nil _ | refine .cons ?_ ?_ | refine .agg ?_ | refine .tup ?_)))) fun _ => ?_
     refine sq rfl rfl hn rfl (q_move rfl rfl) ?_
     refine sq rfl rfl hn rfl (q_extractd rfl rfl rfl) ?_
     refine sq rfl rfl hn rfl (q_extractd rfl rfl rfl) ?_
     refine sq rfl rfl hn rfl (q_assign rfl rfl) ?_
     refine sq rfl rfl hn rfl (q_assign rfl rfl) ?_
     refine run_nil (aend_then (awp_seq (awp_region ?_)))
     refine stepW (s_callE (two_vec) rfl rfl rfl (nb hn rfl) (.d rfl) rfl (.refl _) trivial (fun _ => rfl) (fun _ _ => trivial)) fun b1 => ?_
     refine stepW (s_callE (two_vec1) rfl rfl rfl (nb hn rfl) (.d rfl) rfl (.refl _) trivial (fun _ => rfl) (fun _ _ => trivial)) fun b2 => ?_
     refine stepW (s_call [] (fun _ => two_ok) rfl (guard_none rfl) rfl (nb hn rfl) (fun _ => trivial) rfl rfl (.refl _)) fun _ => ?_
     refine stepW (s_call [] (fun _ => two_ok) rfl (guard_none rfl) rfl (nb hn rfl) (fun _ => trivial) rfl rfl (.refl _)) fun _ => ?_
     refine stepW (s_alloc 20 rfl rfl rfl (nb hn rfl) zr33 rfl rfl) fun b20 => ?_
     refine stepW (s_alloc 21 rfl rfl rfl (nb hn rfl) zr33 rfl rfl) fun b21 => ?_
     refine stepW (s_alloc 22 rfl rfl rfl (nb hn rfl) zr33 rfl rfl) fun b22 => ?_
     refine stepW (s_alloc 23 rfl rfl rfl (nb hn rfl) zr33 rfl rfl) fun b23 => ?_
     refine stepW (s_store rfl rfl rfl rfl rfl rfl (id := 20) rfl sz33 rfl (Nat.le_of_ble_eq_true rfl) rfl trivial) fun _ => ?_
     refine stepW (s_store rfl rfl rfl rfl rfl rfl (id := 21) rfl sz33 rfl (Nat.le_of_ble_eq_true rfl) rfl trivial) fun _ => ?_
     refine stepW (s_store rfl rfl rfl rfl rfl rfl (id := 22) rfl sz33 rfl (Nat.le_of_ble_eq_true rfl) rfl trivial) fun _ => ?_
     refine stepW (s_store rfl rfl rfl rfl rfl rfl (id := 23) rfl sz33 rfl (Nat.le_of_ble_eq_true rfl) rfl trivial) fun _ => ?_
     refine run_nil (aend_then (awp_seq (awp_region ?_)))
     refine sq rfl rfl hn rfl (q_fieldAddr rfl rfl Tryz.underlying33 rfl sz31) ?_
     refine sq rfl rfl hn rfl (q_load rfl rfl (id := 20) rfl Tryz.underlying31 rfl rfl sees0) ?_
     refine sq rfl rfl hn rfl (q_indexV (i := 0) rfl rfl rfl Tryz.underlying31 sz117 rfl (by omega)) ?_
     refine sq rfl rfl hn rfl (q_fieldAddr rfl rfl Tryz.underlying117 rfl sz9) ?_
     refine stepW (s_store1 rfl rfl rfl rfl rfl rfl (id := 1101) rfl sz9 (Nat.le_of_ble_eq_true rfl) rfl trivial) fun _ => ?_
     refine run_nil (aend_then (awp_seq (awp_region ?_)))
     refine sq rfl rfl hn rfl (q_fieldAddr rfl rfl Tryz.underlying33 rfl sz31) ?_
     refine sq rfl rfl hn rfl (q_load rfl rfl (id := 21) rfl Tryz.underlying31 rfl rfl sees0) ?_
     refine sq rfl rfl hn rfl (q_indexV (i := 0) rfl rfl rfl Tryz.underlying31 sz117 rfl (by omega)) ?_
     refine sq rfl rfl hn rfl (q_fieldAddr rfl rfl Tryz.underlying117 rfl sz9) ?_
     refine stepW (s_store1 rfl rfl rfl rfl rfl rfl (id := 1102) rfl sz9 (Nat.le_of_ble_eq_true rfl) rfl trivial) fun _ => ?_
     refine run_nil (aend_then (awp_seq (awp_region ?_)))
     refine sq rfl rfl hn rfl (q_fieldAddr rfl rfl Tryz.underlying33 rfl sz3) ?_
     refine stepW (s_store1 rfl rfl rfl rfl rfl rfl (id := 22) rfl sz3 (Nat.le_of_ble_eq_true rfl) rfl trivial) fun _ => ?_
     refine run_nil (aend_then (awp_seq (awp_region ?_)))
     refine stepW (s_makeSlice (n := 5) 208 rfl rfl rfl (nb hn rfl) Tryz.underlying31 (show _ = some (some (.agg #[(.string ⟨#[]⟩), (.int .i64 0), (.int .i64 0)]), 3, 32) from by kernel_rfl) rfl rfl rfl (by decide) rfl rfl rfl rfl (by omega) (by omega) (by omega)) fun b208 => ?_
     refine sq rfl rfl hn rfl (q_fieldAddr rfl rfl Tryz.underlying33 rfl sz31) ?_
     refine stepW (s_store1 rfl rfl rfl rfl rfl rfl (id := 23) rfl sz31 (Nat.le_of_ble_eq_true rfl) rfl trivial) fun _ => ?_
     refine run_nil (aend_then (awp_seq ?_))
     refine gh_awp (gh_veccell (id := 20) (k := 0) (rid := 1101) (ds := (([⟨[67], 300, 310⟩, ⟨[67], 75, 79⟩] : List Stk).map stkE).flatten) (rest := []) (n := 2) (sz := 3) rfl rfl rfl rfl rfl (show _ = ([⟨[67], 300, 310⟩, ⟨[67], 75, 79⟩] : List Stk).map stkE from rfl) (Nat.le_refl _) (by decide)) ?_
     refine gh_awp (gh_veccell (id := 21) (k := 0) (rid := 1102) (ds := (([⟨[97, 66], 300, 310⟩, ⟨[67], 75, 79⟩] : List Stk).map stkE).flatten) (rest := []) (n := 2) (sz := 3) rfl rfl rfl rfl rfl (show _ = ([⟨[97, 66], 300, 310⟩, ⟨[67], 75, 79⟩] : List Stk).map stkE from rfl) (Nat.le_refl _) (by decide)) ?_
     refine gh_awp (gh_veccell (id := 23) (k := 0) (rid := 208) (ds := (((List.replicate 5 (⟨[], 0, 0⟩ : Stk)) : List Stk).map stkE).flatten) (rest := []) (n := 5) (sz := 3) rfl rfl rfl rfl rfl (show _ = ((List.replicate 5 (⟨[], 0, 0⟩ : Stk)) : List Stk).map stkE from rfl) (Nat.le_refl _) (by decide)) ?_
     refine awp_region ?_
     refine sq rfl rfl hn rfl (q_move rfl rfl) ?_
     refine sq rfl rfl hn rfl (q_eql rfl rfl rfl) ?_
     refine sq rfl rfl hn rfl (q_move rfl rfl) ?_
     refine stepG [] (guard_some rfl rfl rfl) rfl (nb hn rfl) (fun hc => trivial) (fun hc => q_move rfl rfl) ?_
     refine stepG [(213, _)] (guard_some rfl rfl rfl) rfl (nb hn rfl) (fun hc => ⟨⟨_, rfl, hc⟩, trivial⟩) (fun hc => q_eql rfl rfl rfl) ?_
     refine sq rfl rfl hn rfl (q_and rfl rfl rfl (by intro hB; first | (rw [hB]; rfl) | (rw [hB, hc]; rfl) | simp_all)) ?_
     refine sq rfl rfl hn rfl (q_move rfl rfl) ?_
     refine stepG [] (guard_some rfl rfl rfl) rfl (nb hn rfl) (fun hc => trivial) (fun hc => q_move rfl rfl) ?_
     refine stepG [(217, _)] (guard_some rfl rfl rfl) rfl (nb hn rfl) (fun hc => ⟨⟨_, rfl, hc⟩, trivial⟩) (fun hc => q_eql rfl rfl rfl) ?_
     refine sq rfl rfl hn rfl (q_and rfl rfl rfl (by intro hB; first | (rw [hB]; rfl) | (rw [hB, hc]; rfl) | simp_all)) ?_
     refine sq rfl rfl hn rfl (q_move rfl rfl) ?_
     refine stepG [] (guard_some rfl rfl rfl) rfl (nb hn rfl) (fun hc => trivial) (fun hc => q_move rfl rfl) ?_
     refine stepG [(221, _)] (guard_some rfl rfl rfl) rfl (nb hn rfl) (fun hc => ⟨⟨_, rfl, hc⟩, trivial⟩) (fun hc => q_eql rfl rfl rfl) ?_
     refine sq rfl rfl hn rfl (q_and rfl rfl rfl (by intro hB; first | (rw [hB]; rfl) | (rw [hB, hc]; rfl) | simp_all)) ?_
     refine sq rfl rfl hn rfl (q_move rfl rfl) ?_
     refine stepG [] (guard_some rfl rfl rfl) rfl (nb hn rfl) (fun hc => trivial) (fun hc => q_move rfl rfl) ?_
     refine stepG [(225, _)] (guard_some rfl rfl rfl) rfl (nb hn rfl) (fun hc => ⟨⟨_, rfl, hc⟩, trivial⟩) (fun hc => q_eql rfl rfl rfl) ?_
     refine sq rfl rfl hn rfl (q_and rfl rfl rfl (by intro hB; first | (rw [hB]; rfl) | (rw [hB, hc]; rfl) | simp_all)) ?_
     refine sq rfl rfl hn rfl (q_move rfl rfl) ?_
     refine stepG [] (guard_some rfl rfl rfl) rfl (nb hn rfl) (fun hc => trivial) (fun hc => q_move rfl rfl) ?_
     refine stepG [(229, _)] (guard_some rfl rfl rfl) rfl (nb hn rfl) (fun hc => ⟨⟨_, rfl, hc⟩, trivial⟩) (fun hc => q_eql rfl rfl rfl) ?_
     refine sq rfl rfl hn rfl (q_and rfl rfl rfl (by intro hB; first | (rw [hB]; rfl) | (rw [hB, hc]; rfl) | simp_all)) ?_
     refine sq rfl rfl hn rfl (q_move rfl rfl) ?_
     refine stepG [] (guard_some rfl rfl rfl) rfl (nb hn rfl) (fun hc => trivial) (fun hc => q_move rfl rfl) ?_
     refine stepG [(233, _)] (guard_some rfl rfl rfl) rfl (nb hn rfl) (fun hc => ⟨⟨_, rfl, hc⟩, trivial⟩) (fun hc => q_eql rfl rfl rfl) ?_
     refine sq rfl rfl hn rfl (q_and rfl rfl rfl (by intro hB; first | (rw [hB]; rfl) | (rw [hB, hc]; rfl) | simp_all)) ?_
     refine sq rfl rfl hn rfl (q_move rfl rfl) ?_
     refine stepG [] (guard_some rfl rfl rfl) rfl (nb hn rfl) (fun hc => trivial) (fun hc => q_loadAd rfl rfl (id := 20) rfl Tryz.underlying33 rfl sz33 rfl rfl sees0) ?_
     refine stepW (s_call [(237, _)] (fun hc => (by have h := CheckBoard_ok ⟨[⟨[67], 300, 310⟩, ⟨[67], 75, 79⟩], 10, 4⟩ (nm_ok (by decide)); rw [show checkT ⟨[⟨[67], 300, 310⟩, ⟨[67], 75, 79⟩], 10, 4⟩ = 1 from by kernel_rfl] at h; exact h)) rfl (guard_some rfl rfl rfl) rfl (nb hn rfl) (fun hc => ⟨⟨_, rfl, hc⟩, trivial⟩) rfl rfl (.refl _)) fun _ => ?_
     refine stepG [(238, _)] (guard_some rfl rfl rfl) rfl (nb hn rfl) (fun hc => ⟨⟨_, rfl, hc⟩, trivial⟩) (fun hc => q_eql rfl rfl rfl) ?_
     refine sq rfl rfl hn rfl (q_and rfl rfl rfl (by intro hB; first | (rw [hB]; rfl) | (rw [hB, hc]; rfl) | simp_all)) ?_
     refine sq rfl rfl hn rfl (q_move rfl rfl) ?_
     refine stepG [] (guard_some rfl rfl rfl) rfl (nb hn rfl) (fun hc => trivial) (fun hc => q_loadAd rfl rfl (id := 21) rfl Tryz.underlying33 rfl sz33 rfl rfl sees0) ?_
     refine stepW (s_call [(242, _)] (fun hc => (by have h := CheckBoard_ok ⟨[⟨[97, 66], 300, 310⟩, ⟨[67], 75, 79⟩], 10, 4⟩ (nm_ok (by decide)); rw [show checkT ⟨[⟨[97, 66], 300, 310⟩, ⟨[67], 75, 79⟩], 10, 4⟩ = 1 from by kernel_rfl] at h; exact h)) rfl (guard_some rfl rfl rfl) rfl (nb hn rfl) (fun hc => ⟨⟨_, rfl, hc⟩, trivial⟩) rfl rfl (.refl _)) fun _ => ?_
     refine stepG [(243, _)] (guard_some rfl rfl rfl) rfl (nb hn rfl) (fun hc => ⟨⟨_, rfl, hc⟩, trivial⟩) (fun hc => q_eql rfl rfl rfl) ?_
     refine sq rfl rfl hn rfl (q_and rfl rfl rfl (by intro hB; first | (rw [hB]; rfl) | (rw [hB, hc]; rfl) | simp_all)) ?_
     refine sq rfl rfl hn rfl (q_move rfl rfl) ?_
     refine stepG [] (guard_some rfl rfl rfl) rfl (nb hn rfl) (fun hc => trivial) (fun hc => q_loadAd rfl rfl (id := 22) rfl Tryz.underlying33 rfl sz33 rfl rfl sees0) ?_
     refine stepW (s_call [(247, _)] (fun hc => (by have h := CheckBoard_ok ⟨[⟨[65, 66], 300, 310⟩, ⟨[67], 75, 79⟩], 41, 4⟩ (nm_ok (by decide)); rw [show checkT ⟨[⟨[65, 66], 300, 310⟩, ⟨[67], 75, 79⟩], 41, 4⟩ = 1 from by kernel_rfl] at h; exact h)) rfl (guard_some rfl rfl rfl) rfl (nb hn rfl) (fun hc => ⟨⟨_, rfl, hc⟩, trivial⟩) rfl rfl (.refl _)) fun _ => ?_
     refine stepG [(248, _)] (guard_some rfl rfl rfl) rfl (nb hn rfl) (fun hc => ⟨⟨_, rfl, hc⟩, trivial⟩) (fun hc => q_eql rfl rfl rfl) ?_
     refine sq rfl rfl hn rfl (q_and rfl rfl rfl (by intro hB; first | (rw [hB]; rfl) | (rw [hB, hc]; rfl) | simp_all)) ?_
     refine sq rfl rfl hn rfl (q_move rfl rfl) ?_
     refine stepG [] (guard_some rfl rfl rfl) rfl (nb hn rfl) (fun hc => trivial) (fun hc => q_loadAd rfl rfl (id := 23) rfl Tryz.underlying33 rfl sz33 rfl rfl sees0) ?_
     refine stepW (s_call [(252, _)] (fun hc => (by have h := CheckBoard_ok ⟨List.replicate 5 ⟨[], 0, 0⟩, 10, 4⟩ (nm_ok (by decide)); rw [show checkT ⟨List.replicate 5 ⟨[], 0, 0⟩, 10, 4⟩ = 3 from by kernel_rfl] at h; exact h)) rfl (guard_some rfl rfl rfl) rfl (nb hn rfl) (fun hc => ⟨⟨_, rfl, hc⟩, trivial⟩) rfl rfl (.refl _)) fun _ => ?_
     refine stepG [(253, _)] (guard_some rfl rfl rfl) rfl (nb hn rfl) (fun hc => ⟨⟨_, rfl, hc⟩, trivial⟩) (fun hc => q_eql rfl rfl rfl) ?_
     refine sq rfl rfl hn rfl (q_and rfl rfl rfl (by intro hB; first | (rw [hB]; rfl) | (rw [hB, hc]; rfl) | simp_all)) ?_
     refine sq rfl rfl hn rfl (q_move rfl rfl) ?_
     refine stepG [] (guard_some rfl rfl rfl) rfl (nb hn rfl) (fun hc => trivial) (fun hc => q_buildd rfl bt33 rfl rfl rfl rfl rfl) ?_
     refine stepW (s_call [(257, _)] (fun hc => (by have h := CheckBoard_ok ⟨[], 0, 0⟩ (nm_ok (by decide)); rw [show checkT ⟨[], 0, 0⟩ = 1 from by kernel_rfl] at h; exact h)) rfl (guard_some rfl rfl rfl) rfl (nb hn rfl) (fun hc => ⟨⟨_, rfl, hc⟩, trivial⟩) rfl rfl (by first | exact .refl _ | (repeat (first | exact .refl _ | exact .nil _ | refine .cons ?_ ?_ | refine .agg ?_ | refine .tup ?_)))) fun _ => ?_
     refine stepG [(258, _)] (guard_some rfl rfl rfl) rfl (nb hn rfl) (fun hc => ⟨⟨_, rfl, hc⟩, trivial⟩) (fun hc => q_eql rfl rfl rfl) ?_
     refine sq rfl rfl hn rfl (q_and rfl rfl rfl (by intro hB; first | (rw [hB]; rfl) | (rw [hB, hc]; rfl) | simp_all)) ?_
     refine sq rfl rfl hn rfl (q_move rfl rfl) ?_
     refine stepW (s_call [] (fun hc => awake_ok) rfl (guard_some rfl rfl rfl) rfl (nb hn rfl) (fun hc => trivial) rfl rfl (.refl _)) fun _ => ?_
     refine sq rfl rfl hn rfl (q_and rfl rfl rfl (by intro hB; first | (rw [hB]; rfl) | (rw [hB, hc]; rfl) | simp_all)) ?_
     refine sq rfl rfl hn rfl (q_assign rfl rfl) ?_
     refine run_nil (aend_then (awp_ret ?_))
     exact ret_E (.inl rfl) () ((hands_1 rfl (.tmp rfl)).eq (by rfl)) trivial
theorem TapeNames_ok : PureAt Tryz.prog 14 [] (.bool true) := PureAt.of_eff (ds := []) TapeNames_eff
end Go.Proofs.YtplpcamcnppibaaGreatDoor
